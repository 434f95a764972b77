/- Walks of functions of the program: each returns what the plain function gives. Conditions: those that each statement names. -/
import Derived.Test.YtbbphbihgikmdaaWmkm
import Derived.Test.YtbbphbihgikmdaaWmgi
import Derived.Test.YtbbphbihgikmdaaWsolve
import Derived.Test.YtbbphbihgikmdaaWsz
import Derived.Test.YtbbphbihgikmdaaWto
import Derived.Test.YtbbphbihgikmdaaWeq
namespace Go.Proofs.Ytbbphbihgikmdaa
open Go
set_option linter.unusedSimpArgs false
set_option linter.unusedVariables false
theorem margSg_ok {Hmd : Hp} {vmd : Value} {Hmc : Hp} {vmc : Value} (m : Mod) (hmd : Ints Hmd vmd m.doms) (hmc : Cons Hmc vmc m.cons) : Spec Try.prog 26 [.agg #[vmd, vmc]] [Hmd, Hmc] (fun Hq vq => Rows Hq vq (margI m)) := by
 refine spec_of Try.func26 rfl rfl rfl (fun B => ?_)
 refine kc_seq (kc_region ?_)
 refine kl_box rfl rfl (fun p1 H2 f3 a4 => ?_)
 refine kl_as rfl ?_
 refine kl_nil (kq_code ?_)
 refine kc_seq ?_
 refine kc_seq (kc_region ?_)
 refine kl_ldS rfl (by assumption) rfl ?_
 refine kl_callP rfl rfl (svalidMod_ok m (by assumption) (by assumption)) ?_
 refine kl_not rfl ?_
 refine kl_nil (kq_code ?_)
 refine kc_cond rfl (fun c5 => ?_) (fun c5 => ?_)
 ·skip
  have c5r := c5
  try simp only [Bool.not_eq_true', Bool.not_eq_false', Bool.not_true, Bool.not_false, decide_eq_true_eq, decide_eq_false_iff_not, Bool.and_eq_true, Bool.or_eq_false_iff] at c5
  refine kc_seq (kc_region ?_)
  refine kl_as rfl ?_
  refine kl_nil (kq_code ?_)
  refine kc_ret ?_
  exact kq_ret rfl rfl noHp (fr_no _) (by rw [margI_no (by assumption)]; exact Sl.nil)
 ·skip
  have c5r := c5
  try simp only [Bool.not_eq_true', Bool.not_eq_false', Bool.not_true, Bool.not_false, decide_eq_true_eq, decide_eq_false_iff_not, Bool.and_eq_true, Bool.or_eq_false_iff] at c5
  have hM : MOk m := ⟨by simpa using c5r⟩
  have hv := hM.v
  have hn := hM.n
  have hfw := sols_few hM
  refine kc_skipQ ?_
  refine kq_code ?_
  refine kc_seq (kc_region ?_)
  refine kl_ldS rfl (by assumption) rfl ?_
  refine kl_call rfl rfl (solve_ok m hM (by assumption) (by assumption)) (fun v6 H7 f8 h9 => ?_)
  obtain ⟨z12, z15, u13, rfl, h14, h11⟩ := h9
  subst h11
  refine kl_mv rfl ?_
  refine kl_xt rfl rfl ?_
  refine kl_xt rfl rfl ?_
  refine kl_as rfl ?_
  refine kl_as rfl ?_
  refine kl_nil (kq_code (kc_seq (kc_region ?_)))
  refine kl_bs0 RowV rfl (fun v16 H17 f18 o19 => ?_)
  refine kl_as rfl ?_
  refine kl_nil (kq_code ?_)
  refine kc_seq ?_
  refine kc_seq (kc_region ?_)
  refine kl_as rfl ?_
  refine kl_nil (kq_code ?_)
  refine kc_block ?_
  refine kc_loopK (A := Nat × List (List Int) × Value × Hp × Hp) (fun zz => (zz.1 ≤ m.doms.length) ∧ (zz.2.1 = margTo (sols m) zz.1) ∧ Fr B zz.2.2.2.2 ∧ OwnL 22 1 zz.2.2.2.1 zz.2.2.2.2 RowV zz.2.2.1 zz.2.1 ∧ Fr B zz.2.2.2.1) (fun zz => m.doms.length - zz.1) (fun zz => zz.2.2.2.2) (fun zz => [zz.2.2.2.1]) (fun zz => [(6, .int .i64 (zz.1 : Int)), (5, zz.2.2.1)]) (0, ([]), v16, H17, noHp) (pc 1 rfl (pc 2 rfl (pc 3 rfl pn))) (pc 6 rfl (pc 5 rfl pn)) rfl ⟨Nat.zero_le _, rfl, (fr_no _), o19, f18⟩ ?_
  rintro ⟨k, out, v25, H22, K26⟩ hJ28
  obtain ⟨hk20, hi21, f27, o23, f24⟩ : (k ≤ m.doms.length) ∧ (out = margTo (sols m) k) ∧ Fr B K26 ∧ OwnL 22 1 H22 K26 RowV v25 out ∧ Fr B H22 := hJ28
  change KC _ _ (K26 :: _) [H22] _ ([(6, .int .i64 (k : Int)), (5, v25)] ++ _)
  have hol : out.length = k := (by rw [hi21]; exact margTo_len _ _)
  refine kc_seq ?_
  refine kc_seq (kc_region ?_)
  refine kl_mv rfl ?_
  refine kl_fd rfl (by assumption) (fun p29 a30 => ?_)
  refine kl_ld rfl (by assumption) ?_
  refine kl_len rfl (by assumption) (fun l31 => ?_)
  refine kl_lss rfl rfl ?_
  refine kl_nil (kq_code ?_)
  refine kc_if rfl (fun c32 => ?_) (fun c32 => ?_)
  ·skip
   refine kc_skipQ ?_
   refine kq_code ?_
   refine kc_seq ?_
   refine kc_block ?_
   refine kc_seq (kc_region ?_)
   refine kl_mkL (R := IntV) (0 : Int) rfl rfl (by first | omega | decide) (by decide) (by exact rfl) (fun v33 H34 f35 o36 => ?_)
   refine kl_as rfl ?_
   refine kl_nil (kq_code ?_)
   refine kc_seq ?_
   refine kc_seq (kc_region ?_)
   refine kl_as rfl ?_
   refine kl_nil (kq_code ?_)
   refine kc_block ?_
   refine kc_loopL (A := Nat × List Int × Hp) (fun zz => (zz.1 ≤ (sols m).length) ∧ (zz.2.1 = cntRow ((sols m).take zz.1) k) ∧ OwnL 3 1 zz.2.2 noHp IntV v33 zz.2.1 ∧ Fr B zz.2.2) (fun zz => (sols m).length - zz.1) (fun zz => [zz.2.2, H22]) (fun zz => [(8, .int .i64 (zz.1 : Int))]) (0, (List.replicate 6 (0 : Int)), H34) (pc 1 rfl (pc 2 rfl (pc 3 rfl (pc 5 rfl (pc 6 rfl (pc 7 rfl (pc 18 rfl (pc 19 rfl (pc 20 rfl (pc 21 rfl (pc 22 rfl (pc 25 rfl pn)))))))))))) (pc 8 rfl pn) rfl ⟨Nat.zero_le _, (cntRow_0 k).symm, o36, f35⟩ ?_
   rintro ⟨k2, row, H39⟩ hJ42
   obtain ⟨hk37, hi38, o40, f41⟩ : (k2 ≤ (sols m).length) ∧ (row = cntRow ((sols m).take k2) k) ∧ OwnL 3 1 H39 noHp IntV v33 row ∧ Fr B H39 := hJ42
   change KC _ _ (_) [H39, H22] _ ([(8, .int .i64 (k2 : Int))] ++ _)
   refine kc_seq ?_
   refine kc_seq (kc_region ?_)
   refine kl_mv rfl ?_
   refine kl_mv rfl ?_
   refine kl_len rfl (by assumption) (fun l43 => ?_)
   refine kl_lss rfl rfl ?_
   refine kl_nil (kq_code ?_)
   refine kc_if rfl (fun c44 => ?_) (fun c44 => ?_)
   ·skip
    have hsl := sols_len (getD_mem (d := []) (by omega : k2 < (sols m).length))
    have hv5 := (sols_vals (getD_mem (d := []) (by omega : k2 < (sols m).length))).at (k := k) (by omega)
    have hrl : row.length = 6 := (by rw [hi38]; exact cntRow_len _ _)
    have hc5 := cntAt_le ((sols m).take k2) k (((sols m).getD k2 []).getD k 0)
    rw [← cntRow_at hv5, ← hi38, List.length_take] at hc5
    refine kc_skipQ ?_
    refine kq_code ?_
    refine kc_seq ?_
    refine kc_block ?_
    refine kc_tree (fun i => ([20] : List Nat).contains i) [H39] (by kernel_rfl) ?_
    refine kt_q 0 (.cons_cons _ (List.nil_sublist _)) rfl (by kernel_rfl) ?_
    refine kl_mv rfl ?_
    refine kl_nil (kq_q ?_)
    refine kt_q 1 (.cons_cons _ (List.nil_sublist _)) rfl (by kernel_rfl) ?_
    refine kl_mv rfl ?_
    refine kl_nil (kq_q ?_)
    refine kt_q 2 (.cons_cons _ (List.nil_sublist _)) rfl (by kernel_rfl) ?_
    refine kl_mv rfl ?_
    refine kl_nil (kq_q ?_)
    refine kt_q 3 (.cons_cons _ (List.nil_sublist _)) rfl (by kernel_rfl) ?_
    refine kl_inS rfl rfl (by assumption) (by omega) (fun p45 u47 h48 a46 => ?_)
    refine kl_nil (kq_q ?_)
    refine kt_q 4 (.cons_cons _ (List.nil_sublist _)) rfl (by kernel_rfl) ?_
    refine kl_ld rfl (by assumption) ?_
    refine kl_nil (kq_q ?_)
    refine kt_q 5 (.cons_cons _ (List.nil_sublist _)) rfl (by kernel_rfl) ?_
    refine kl_mv rfl ?_
    refine kl_nil (kq_q ?_)
    refine kt_q 6 (.cons_cons _ (List.nil_sublist _)) rfl (by kernel_rfl) ?_
    refine kl_inI rfl rfl (by assumption) (by omega) (fun p49 a50 => ?_)
    refine kl_nil (kq_q ?_)
    refine kt_q 7 (.cons_cons _ (List.nil_sublist _)) rfl (by kernel_rfl) ?_
    refine kl_ld rfl (by assumption) ?_
    refine kl_nil (kq_q ?_)
    refine kt_q 8 (.cons_cons _ (List.nil_sublist _)) rfl (by kernel_rfl) ?_
    refine kl_mv rfl ?_
    refine kl_nil (kq_q ?_)
    refine kt_q 9 (.cons_cons _ (List.nil_sublist _)) rfl (by kernel_rfl) ?_
    refine kl_mv rfl ?_
    refine kl_nil (kq_q ?_)
    refine kt_q 10 (.cons_cons _ (List.nil_sublist _)) rfl (by kernel_rfl) ?_
    refine kl_mv rfl ?_
    refine kl_nil (kq_q ?_)
    refine kt_q 11 (.cons_cons _ (List.nil_sublist _)) rfl (by kernel_rfl) ?_
    refine kl_inS rfl rfl (by assumption) (by omega) (fun p51 u53 h54 a52 => ?_)
    refine kl_nil (kq_q ?_)
    refine kt_q 12 (.cons_cons _ (List.nil_sublist _)) rfl (by kernel_rfl) ?_
    refine kl_ld rfl (by assumption) ?_
    refine kl_nil (kq_q ?_)
    refine kt_q 13 (.cons_cons _ (List.nil_sublist _)) rfl (by kernel_rfl) ?_
    refine kl_mv rfl ?_
    refine kl_nil (kq_q ?_)
    refine kt_q 14 (.cons_cons _ (List.nil_sublist _)) rfl (by kernel_rfl) ?_
    refine kl_inI rfl rfl (by assumption) (by omega) (fun p55 a56 => ?_)
    refine kl_nil (kq_q ?_)
    refine kt_q 15 (.cons_cons _ (List.nil_sublist _)) rfl (by kernel_rfl) ?_
    refine kl_ld rfl (by assumption) ?_
    refine kl_nil (kq_q ?_)
    refine kt_q 16 (.cons_cons _ (List.nil_sublist _)) rfl (by kernel_rfl) ?_
    refine kl_ixL rfl rfl (by assumption) (by omega) (by omega) (fun p57 q58 => ?_)
    refine kl_nil (kq_q ?_)
    refine kt_q 17 (.cons_cons _ (List.nil_sublist _)) rfl (by kernel_rfl) ?_
    refine kl_ldLIe rfl (by assumption) (by assumption) (by omega) ?_
    refine kl_nil (kq_q ?_)
    refine kt_q 18 (.cons_cons _ (List.nil_sublist _)) rfl (by kernel_rfl) ?_
    refine kl_add rfl rfl (by omega) ?_
    refine kl_nil (kq_q ?_)
    refine kt_q 19 (.cons_cons _ (List.nil_sublist _)) rfl (by kernel_rfl) ?_
    refine kl_ixL rfl rfl (by assumption) (by omega) (by omega) (fun p59 q60 => ?_)
    refine kl_nil (kq_q ?_)
    refine kt_a 20 rfl (by kernel_rfl) ?_
    refine kl_stL ((row.getD ((((sols m).getD k2 []).getD k 0).toNat) 0) + (1 : Int)) rfl rfl (by assumption) o40 (by omega) rfl rfl rfl (fun H61 o62 f63 => ?_)
    have f64 := f63 _ f41
    refine kl_chg [H61, H22] rfl ?_
    refine kl_nil (kq_x rfl ?_)
    refine kt_end (by kernel_rfl) ?_
    refine kq_code ?_
    refine kc_region ?_
    refine kl_mv rfl ?_
    refine kl_inc rfl rfl (by omega) ?_
    refine kl_as rfl ?_
    refine kl_nil ?_
    refine kq_take [H61, H22] ?_
    refine kq_roundL ((k2 + 1), (row.set ((((sols m).getD k2 []).getD k 0).toNat) ((row.getD ((((sols m).getD k2 []).getD k 0).toNat) 0) + (1 : Int))), H61) (by omega) (⟨by omega, (by rw [take_succ_getD [] (by omega : k2 < (sols m).length), hi38]; exact cntRow_step hv5), o62, f64⟩) (pc 8 rfl pn) (pc 1 rfl (pc 2 rfl (pc 3 rfl (pc 5 rfl (pc 6 rfl (pc 7 rfl (pc 18 rfl (pc 19 rfl (pc 20 rfl (pc 21 rfl (pc 22 rfl (pc 25 rfl pn)))))))))))) rfl (List.Sublist.refl _)
   ·skip
    refine kc_exit ?_
    refine kq_code ?_
    refine kc_region ?_
    refine kl_mv rfl ?_
    refine kl_mv rfl ?_
    refine kl_bs rfl rfl rfl (by decide) (ca (by first | exact Sl.cells (by assumption) | exact OwnL.cells (by assumption)) ca_nil) (fun v65 H66 f67 r68 s69 => ?_)
    refine kl_frz H39 ?_
    have h70 := OwnL.ints o40
    refine kl_cmp K26 H39 (fun c71 => ?_)
    have o72 := OwnL.mono (K' := orHp K26 H39) o23 orL
    refine kl_apL row rfl rfl o72 (by assumption) ⟨_, rfl, Sl.mono (by assumption) (orC c71) (fun _ _ h => h)⟩ (oc (OwnL.oneCell (by assumption)) oc_nil) (by omega) (by decide) (fun v73 H74 o75 f76 => ?_)
    have f77 := f76 B f24 (Nat.le_refl _)
    refine kl_as rfl ?_
    refine kl_nil (kq_code ?_)
    refine kc_region ?_
    refine kl_mv rfl ?_
    refine kl_inc rfl rfl (by omega) ?_
    refine kl_as rfl ?_
    refine kl_nil ?_
    refine kq_take [H74] ?_
    refine kq_roundK ((k + 1), (out ++ [row]), v73, H74, (orHp K26 H39)) (by omega) (⟨by omega, (by rw [hi21, show row = cntRow (sols m) k from (by rw [hi38, List.take_of_length_le (by omega)])]; exact (margTo_succ _ _).symm), (fr_or f27 f41), o75, f77⟩) (pc 6 rfl (pc 5 rfl pn)) (pc 1 rfl (pc 2 rfl (pc 3 rfl pn))) rfl (List.Sublist.refl _)
  ·skip
   refine kc_exit ?_
   refine kq_code ?_
   refine kc_seq (kc_region ?_)
   refine kl_mv rfl ?_
   refine kl_as rfl ?_
   refine kl_nil (kq_code ?_)
   refine kc_ret ?_
   refine kq_cmp H22 K26 (fun c78 => ?_)
   have e9 : out = margI m := by (rw [hi21, show k = m.doms.length from by omega, margI_yes hM.v])
   exact kq_ret rfl rfl (orHp H22 K26) (fr_or f24 f27) (e9 ▸ OwnL.rowsK o23 c78)
theorem lawMg_ok {Hmd : Hp} {vmd : Value} {Hmc : Hp} {vmc : Value} (m : Mod) (hmd : Ints Hmd vmd m.doms) (hmc : Cons Hmc vmc m.cons) : SpecP Try.prog 5 [.agg #[vmd, vmc]] [Hmd, Hmc] (.bool true) := by
 have hrs := marg_rsum (m := m)
 refine spec_of Try.func5 rfl rfl rfl (fun B => ?_)
 refine kc_seq (kc_region ?_)
 refine kl_box rfl rfl (fun p1 H2 f3 a4 => ?_)
 refine kl_as rfl ?_
 refine kl_nil (kq_code (kc_seq (kc_region ?_)))
 refine kl_as rfl ?_
 refine kl_nil (kq_code (kc_seq (kc_region ?_)))
 refine kl_ldS rfl (by assumption) rfl ?_
 refine kl_mv rfl ?_
 refine kl_callP rfl rfl (szModel_ok m (1048576 : Int) (by omega) (by assumption) (by assumption)) ?_
 refine kl_as rfl ?_
 refine kl_nil (kq_code ?_)
 refine kc_seq ?_
 refine kc_seq (kc_region ?_)
 refine kl_mv rfl ?_
 refine kl_lss rfl rfl ?_
 refine kl_nil (kq_code ?_)
 refine kc_if rfl (fun c5 => ?_) (fun c5 => ?_)
 ·skip
  refine kc_seq (kc_region ?_)
  refine kl_as rfl ?_
  refine kl_nil (kq_code ?_)
  refine kc_ret ?_
  refine kq_retP rfl rfl (congrArg Value.bool ?_)
  first | rfl | (exfalso; simp only [held_1] at *; first | omega | (simp at *; done) | (simp at *; omega) | simp_all)
 ·skip
  have hs := small_of (szB_ok c5)
  have hmk := hs.marks
  refine kc_skipQ ?_
  refine kq_code ?_
  refine kc_seq (kc_region ?_)
  refine kl_ldS rfl (by assumption) rfl ?_
  refine kl_call rfl rfl (toModel_ok m hs (by assumption) (by assumption)) (fun v6 H7 f8 h9 => ?_)
  obtain ⟨u10, u11, rfl, h12, h13⟩ := h9
  refine kl_call rfl rfl (margSg_ok m (by assumption) (by assumption)) (fun v14 H15 f16 h17 => ?_)
  refine kl_as rfl ?_
  refine kl_nil (kq_code (kc_seq (kc_region ?_)))
  refine kl_ldS rfl (by assumption) rfl ?_
  refine kl_callL rfl rfl (toModel_ok m hs (by assumption) (by assumption)) (fun v18 H19 f20 h21 => ?_)
  obtain ⟨u22, u23, rfl, h24, h25⟩ := h21
  refine kl_alloc (cs := [.slice none 0 0, .slice none 0 0]) rfl (fun b26 hb27 => ?_)
  refine kl_stW (us := [u22, u23]) rfl rfl rfl rfl (oc (Sl.oneCell (by assumption)) (oc (Sl.oneCell (by assumption)) oc_nil)) rfl ?_
  refine kl_nil (kq_code (kc_seq (kc_region ?_)))
  refine kl_ldW rfl rfl ?_
  refine kl_callL rfl rfl (margImp_ok m (by assumption) (by assumption)) (fun v28 H29 f30 h31 => ?_)
  obtain ⟨H32, K33, us34, rfl, a35, m36⟩ := h31
  refine kl_split H32 K33 a35 ?_
  have f38 := fr_l f30 m36.hlq
  have f39 := fr_r f30 m36.lq
  refine kl_as rfl ?_
  refine kl_nil (kq_code ?_)
  refine kc_seq ?_
  refine kc_seq (kc_region ?_)
  refine kl_mv rfl ?_
  refine kl_mv rfl ?_
  refine kl_apart H32 K33 (fun c40 => ?_)
  have h41 := MatR.rows ⟨H32, K33, us34, rfl, c40, m36⟩
  refine kl_callP rfl rfl (eqIntSS_ok (margI m) (margI m) (by assumption) (by assumption)) ?_
  refine kl_not rfl ?_
  refine kl_nil (kq_code ?_)
  refine kc_cond rfl (fun c42 => ?_) (fun c42 => ?_)
  ·skip
   have c42r := c42
   try simp only [Bool.not_eq_true', Bool.not_eq_false', Bool.not_true, Bool.not_false, decide_eq_true_eq, decide_eq_false_iff_not, Bool.and_eq_true, Bool.or_eq_false_iff] at c42
   refine kc_seq (kc_region ?_)
   refine kl_as rfl ?_
   refine kl_nil (kq_code ?_)
   refine kc_ret ?_
   refine kq_retP rfl rfl (congrArg Value.bool ?_)
   first | rfl | (exfalso; simp only [held_1] at *; first | omega | (simp at *; done) | (simp at *; omega) | simp_all)
  ·skip
   have c42r := c42
   try simp only [Bool.not_eq_true', Bool.not_eq_false', Bool.not_true, Bool.not_false, decide_eq_true_eq, decide_eq_false_iff_not, Bool.and_eq_true, Bool.or_eq_false_iff] at c42
   refine kc_skipQ ?_
   refine kq_code ?_
   refine kc_seq ?_
   refine kc_seq ?_
   refine kc_draw 5 [true, true, false, false, true] (by kernel_rfl) (by kernel_rfl) ?_
   refine kl_ldW rfl rfl ?_
   refine kl_ldS rfl (by assumption) rfl ?_
   refine kl_call rfl rfl (toModel_ok m hs (by assumption) (by assumption)) (fun v43 H44 f45 h46 => ?_)
   obtain ⟨u47, u48, rfl, h49, h50⟩ := h46
   refine kl_callP rfl rfl (eqModel_ok m m (by assumption) (by assumption) (by assumption) (by assumption)) ?_
   refine kl_not rfl ?_
   refine kl_nil (kq_code ?_)
   refine kc_cond rfl (fun c51 => ?_) (fun c51 => ?_)
   ·skip
    have c51r := c51
    try simp only [Bool.not_eq_true', Bool.not_eq_false', Bool.not_true, Bool.not_false, decide_eq_true_eq, decide_eq_false_iff_not, Bool.and_eq_true, Bool.or_eq_false_iff] at c51
    refine kc_seq (kc_region ?_)
    refine kl_as rfl ?_
    refine kl_nil (kq_code ?_)
    refine kc_ret ?_
    refine kq_retP rfl rfl (congrArg Value.bool ?_)
    first | rfl | (exfalso; simp only [held_1] at *; first | omega | (simp at *; done) | (simp at *; omega) | simp_all)
   ·skip
    have c51r := c51
    try simp only [Bool.not_eq_true', Bool.not_eq_false', Bool.not_true, Bool.not_false, decide_eq_true_eq, decide_eq_false_iff_not, Bool.and_eq_true, Bool.or_eq_false_iff] at c51
    refine kc_skipQ ?_
    refine kq_code ?_
    refine kc_seq (kc_region ?_)
    refine kl_as rfl ?_
    refine kl_nil (kq_code (kc_seq (kc_region ?_)))
    refine kl_ldW rfl rfl ?_
    refine kl_mv rfl ?_
    refine kl_callM rfl rfl (markModel_ok m (1 : Int) (by omega) (by assumption) (by assumption) f20.2) (fun v52 H53 K54 f55 h56 d57 => ?_)
    obtain ⟨m58, rfl⟩ := h56
    have f60 := Mk.fr m58 f20
    refine kl_as rfl ?_
    refine kl_nil (kq_code ?_)
    refine kc_seq ?_
    refine kc_seq (kc_region ?_)
    refine kl_mv rfl ?_
    refine kl_lss rfl rfl ?_
    refine kl_mv rfl ?_
    refine kl_join 5 42 (.bool (decide (((1 : Int) + m.doms.length + (msum m.cons : Nat)) < (0 : Int)) || !(decide ((margI m) = (margI m))))) (pc 1 rfl (pc 2 rfl (pc 4 rfl (pc 6 rfl (pc 37 rfl pn))))) (fun J64 => ?_) ?_
    ·rcases Bool.eq_false_or_eq_true (decide (((1 : Int) + m.doms.length + (msum m.cons : Nat)) < (0 : Int))) with g61 | g61
     ·skip
      refine kl_gF rfl rfl g61 ?_
      refine kl_gF rfl rfl g61 ?_
      refine kl_gF rfl rfl g61 ?_
      refine kl_gF rfl rfl g61 ?_
      refine kl_orT (!(decide ((margI m) = (margI m)))) rfl rfl g61 ?_
      exact J64 _ (pc 42 rfl (pc 1 rfl (pc 2 rfl (pc 4 rfl (pc 6 rfl (pc 37 rfl pn))))))
     ·skip
      have g61p := of_decide_eq_false g61
      refine kl_gT rfl rfl g61 ?_
      refine kl_mv rfl ?_
      refine kl_gT rfl rfl g61 ?_
      refine kl_mv rfl ?_
      refine kl_gT rfl rfl g61 ?_
      refine kl_apart H32 K33 (fun c62 => ?_)
      have h63 := MatR.rows ⟨H32, K33, us34, rfl, c62, m36⟩
      refine kl_callP rfl rfl (eqIntSS_ok (margI m) (margI m) (by assumption) (by assumption)) ?_
      refine kl_gT rfl rfl g61 ?_
      refine kl_not rfl ?_
      refine kl_orF rfl rfl g61 ?_
      exact J64 _ (pc 42 rfl (pc 1 rfl (pc 2 rfl (pc 4 rfl (pc 6 rfl (pc 37 rfl pn))))))
    refine kl_nil (kq_code ?_)
    refine kc_cond rfl (fun c65 => ?_) (fun c65 => ?_)
    ·skip
     have c65r := c65
     try simp only [Bool.not_eq_true', Bool.not_eq_false', Bool.not_true, Bool.not_false, decide_eq_true_eq, decide_eq_false_iff_not, Bool.and_eq_true, Bool.or_eq_false_iff] at c65
     refine kc_seq (kc_region ?_)
     refine kl_as rfl ?_
     refine kl_nil (kq_code ?_)
     refine kc_ret ?_
     refine kq_retP rfl rfl (congrArg Value.bool ?_)
     first | rfl | (exfalso; simp only [held_1] at *; first | omega | (simp at *; done) | (simp at *; omega) | simp_all)
    ·skip
     have c65r := c65
     try simp only [Bool.not_eq_true', Bool.not_eq_false', Bool.not_true, Bool.not_false, decide_eq_true_eq, decide_eq_false_iff_not, Bool.and_eq_true, Bool.or_eq_false_iff] at c65
     refine kc_skipQ ?_
     refine kq_code ?_
     refine kc_seq (kc_region ?_)
     refine kl_as rfl ?_
     refine kl_nil (kq_code (kc_seq (kc_region ?_)))
     refine kl_mv rfl ?_
     refine kl_mv rfl ?_
     refine kl_callT rfl rfl (markSSm_ok (margI m) (1 : Int) (by omega) m36) (fun v66 L1 Ln K67 h68 g69 g70 => ?_)
     obtain ⟨K71, rfl, rfl, rfl, m72⟩ := h68
     refine kl_norm ?_
     refine kl_as rfl ?_
     refine kl_nil (kq_code (kc_seq (kc_region ?_)))
     refine kl_as rfl ?_
     refine kl_nil (kq_code (kc_seq (kc_region ?_)))
     refine kl_mv rfl ?_
     refine kl_mv rfl ?_
     refine kl_apart H32 K71 (fun c73 => ?_)
     have h74 := MatR.rows ⟨H32, K71, us34, rfl, c73, m72⟩
     refine kl_callP rfl rfl (heldIntSS_ok (markLL (1 : Int) (margI m)) (1 : Int) (by rw [rsum_mk]; omega) (by assumption)) ?_
     refine kl_as rfl ?_
     refine kl_nil (kq_code ?_)
     refine kc_seq ?_
     refine kc_seq (kc_region ?_)
     refine kl_mv rfl ?_
     refine kl_lss rfl rfl ?_
     refine kl_nil (kq_code ?_)
     refine kc_if rfl (fun c75 => ?_) (fun c75 => ?_)
     ·skip
      refine kc_seq (kc_region ?_)
      refine kl_as rfl ?_
      refine kl_nil (kq_code ?_)
      refine kc_ret ?_
      refine kq_retP rfl rfl (congrArg Value.bool ?_)
      first | rfl | (exfalso; simp only [held_1] at *; first | omega | (simp at *; done) | (simp at *; omega) | simp_all)
     ·skip
      refine kc_skipQ ?_
      refine kq_code ?_
      refine kc_seq ?_
      refine kc_seq (kc_region ?_)
      refine kl_mv rfl ?_
      refine kl_mv rfl ?_
      refine kl_neq rfl rfl ?_
      refine kl_nil (kq_code ?_)
      refine kc_if rfl (fun c76 => ?_) (fun c76 => ?_)
      ·skip
       refine kc_seq (kc_region ?_)
       refine kl_as rfl ?_
       refine kl_nil (kq_code ?_)
       refine kc_ret ?_
       refine kq_retP rfl rfl (congrArg Value.bool ?_)
       first | rfl | (exfalso; simp only [held_1] at *; first | omega | (simp at *; done) | (simp at *; omega) | simp_all)
      ·skip
       refine kc_skipQ ?_
       refine kq_code ?_
       refine kc_seq (kc_region ?_)
       refine kl_ldS rfl (by assumption) rfl ?_
       refine kl_call rfl rfl (toModel_ok m hs (by assumption) (by assumption)) (fun v77 H78 f79 h80 => ?_)
       obtain ⟨u81, u82, rfl, h83, h84⟩ := h80
       refine kl_callL rfl rfl (margImp_ok m (by assumption) (by assumption)) (fun v85 H86 f87 h88 => ?_)
       obtain ⟨H89, K90, us91, rfl, a92, m93⟩ := h88
       refine kl_split H89 K90 a92 ?_
       have f95 := fr_l f87 m93.hlq
       have f96 := fr_r f87 m93.lq
       refine kl_as rfl ?_
       refine kl_nil (kq_code ?_)
       refine kc_seq ?_
       refine kc_seq (kc_region ?_)
       refine kl_mv rfl ?_
       refine kl_mv rfl ?_
       refine kl_apart H89 K90 (fun c97 => ?_)
       have h98 := MatR.rows ⟨H89, K90, us91, rfl, c97, m93⟩
       refine kl_callP rfl rfl (eqIntSS_ok (margI m) (margI m) (by assumption) (by assumption)) ?_
       refine kl_not rfl ?_
       refine kl_nil (kq_code ?_)
       refine kc_cond rfl (fun c99 => ?_) (fun c99 => ?_)
       ·skip
        have c99r := c99
        try simp only [Bool.not_eq_true', Bool.not_eq_false', Bool.not_true, Bool.not_false, decide_eq_true_eq, decide_eq_false_iff_not, Bool.and_eq_true, Bool.or_eq_false_iff] at c99
        refine kc_seq (kc_region ?_)
        refine kl_as rfl ?_
        refine kl_nil (kq_code ?_)
        refine kc_ret ?_
        refine kq_retP rfl rfl (congrArg Value.bool ?_)
        first | rfl | (exfalso; simp only [held_1] at *; first | omega | (simp at *; done) | (simp at *; omega) | simp_all)
       ·skip
        have c99r := c99
        try simp only [Bool.not_eq_true', Bool.not_eq_false', Bool.not_true, Bool.not_false, decide_eq_true_eq, decide_eq_false_iff_not, Bool.and_eq_true, Bool.or_eq_false_iff] at c99
        refine kc_skipQ ?_
        refine kq_code ?_
        refine kc_seq (kc_region ?_)
        refine kl_as rfl ?_
        refine kl_nil (kq_code (kc_seq (kc_region ?_)))
        refine kl_mv rfl ?_
        refine kl_mv rfl ?_
        refine kl_apart H32 K71 (fun c100 => ?_)
        have h101 := MatR.rows ⟨H32, K71, us34, rfl, c100, m72⟩
        refine kl_callP rfl rfl (heldIntSS_ok (markLL (1 : Int) (margI m)) (1 : Int) (by rw [rsum_mk]; omega) (by assumption)) ?_
        refine kl_as rfl ?_
        refine kl_nil (kq_code ?_)
        refine kc_seq ?_
        refine kc_seq (kc_region ?_)
        refine kl_mv rfl ?_
        refine kl_lss rfl rfl ?_
        refine kl_nil (kq_code ?_)
        refine kc_if rfl (fun c102 => ?_) (fun c102 => ?_)
        ·skip
         refine kc_seq (kc_region ?_)
         refine kl_as rfl ?_
         refine kl_nil (kq_code ?_)
         refine kc_ret ?_
         refine kq_retP rfl rfl (congrArg Value.bool ?_)
         first | rfl | (exfalso; simp only [held_1] at *; first | omega | (simp at *; done) | (simp at *; omega) | simp_all)
        ·skip
         refine kc_skipQ ?_
         refine kq_code ?_
         refine kc_seq ?_
         refine kc_seq (kc_region ?_)
         refine kl_mv rfl ?_
         refine kl_mv rfl ?_
         refine kl_neq rfl rfl ?_
         refine kl_nil (kq_code ?_)
         refine kc_if rfl (fun c103 => ?_) (fun c103 => ?_)
         ·skip
          refine kc_seq (kc_region ?_)
          refine kl_as rfl ?_
          refine kl_nil (kq_code ?_)
          refine kc_ret ?_
          refine kq_retP rfl rfl (congrArg Value.bool ?_)
          first | rfl | (exfalso; simp only [held_1] at *; first | omega | (simp at *; done) | (simp at *; omega) | simp_all)
         ·skip
          refine kc_skipQ ?_
          refine kq_code ?_
          refine kc_seq (kc_region ?_)
          refine kl_as rfl ?_
          refine kl_nil (kq_code ?_)
          refine kc_ret ?_
          refine kq_retP rfl rfl (congrArg Value.bool ?_)
          first | rfl | (exfalso; simp only [held_1] at *; first | omega | (simp at *; done) | (simp at *; omega) | simp_all)
end Go.Proofs.Ytbbphbihgikmdaa
