/- Walks of functions of the program: each returns what the plain function gives. Conditions: those that each statement names. -/
import Derived.Test.YtiilanckbocifaaGreatWwalk
namespace Go.Proofs.YtiilanckbocifaaGreat
open Go
set_option linter.unusedSimpArgs false
set_option linter.unusedVariables false
theorem supported_ok {Hcv : Hp} {vcv : Value} {Hca : Hp} {vca : Value} {Hcr : Hp} {vcr : Value} {Hds : Hp} {vds : Value} (c : Con) (ds : List Int) (hC : ConOk c ds.length) (hd : DomV ds) (hcv : Ints Hcv vcv c.vars) (hca : Ints Hca vca c.args) (hcr : Rows Hcr vcr c.rows) (hds : Ints Hds vds ds) : Spec Tryz.prog 154 [.agg #[.int .i64 c.kind, vcv, vca, .int .i64 c.bound, vcr], vds] [Hcv, Hca, Hcr, Hds] (fun Hq vq => Ints Hq vq (filtL c ds)) := by
 have ho := hC.one
 refine spec_of Tryz.func154 rfl rfl rfl (fun B => ?_)
 refine kc_seq (kc_region (kl_box rfl rfl (fun p1 H2 f3 a4 => ?_)))
 refine kl_as rfl (kl_nil (kq_code (kc_seq (kc_tree (fun i => ([10, 11] : List Nat).contains i) [] (by kernel_rfl) ?_))))
 refine kt_q 0 (List.nil_sublist _) rfl (by kernel_rfl) (kl_ldS rfl (by assumption) rfl ?_)
 refine kl_nil (kq_q (kt_q 1 (List.nil_sublist _) rfl (by kernel_rfl) (kl_mv rfl (kl_nil (kq_q (kt_q 2 (List.nil_sublist _) rfl (by kernel_rfl) (kl_fd rfl (by assumption) (fun p5 a6 => ?_))))))))
 refine kl_nil (kq_q (kt_q 3 (List.nil_sublist _) rfl (by kernel_rfl) (kl_ld rfl (by assumption) (kl_nil (kq_q (kt_q 4 (List.nil_sublist _) rfl (by kernel_rfl) (kl_len rfl (by assumption) (fun l7 => ?_))))))))
 refine kl_nil (kq_q (kt_q 6 (List.nil_sublist _) rfl (by kernel_rfl) (kl_fd rfl (by assumption) (fun p8 a9 => ?_))))
 refine kl_nil (kq_q (kt_q 7 (List.nil_sublist _) rfl (by kernel_rfl) (kl_ld rfl (by assumption) (kl_nil (kq_q (kt_q 8 (List.nil_sublist _) rfl (by kernel_rfl) (kl_len rfl (by assumption) (fun l10 => ?_))))))))
 refine kl_nil (kq_q (kt_b 5 9 rfl rfl (by kernel_rfl) ?_ ?_))
 ·skip
  refine kl_mkL (R := IntV) (0 : Int) rfl rfl (by omega) (by decide) (by exact rfl) (fun v11 H12 f13 o14 => ?_)
  refine kl_nil (kq_a (List.nil_sublist _) (kt_a 9 rfl (by kernel_rfl) (kl_mkL (R := IntV) (0 : Int) rfl rfl (by omega) (by decide) (by exact rfl) (fun v15 H16 f17 o18 => ?_))))
  refine kl_nil (kq_a (List.nil_sublist _) (kt_a 10 rfl (by kernel_rfl) (kl_bdA [(0, [.int .i64 c.kind, vcv, vca, .int .i64 c.bound, vcr]), (1, [vds]), (2, [v11]), (3, [v15])] [.int .i64 c.kind, vcv, vca, .int .i64 c.bound, vcr, vds, v11, v15] rfl (cpa rfl (cpa (Sl.cells (by assumption)) (cpa (OwnL.cells (by assumption)) (cpa (OwnL.cells (by assumption)) cpa_nil)))) rfl ?_)))
  refine kl_nil (kq_x rfl (kt_a 11 rfl (by kernel_rfl) (kl_box rfl rfl (fun p19 H20 f21 a22 => ?_))))
  refine kl_nil (kq_x rfl (kt_q 12 (List.nil_sublist _) rfl (by kernel_rfl) (kl_as rfl (kl_nil (kq_q (kt_end (by kernel_rfl) ?_))))))
  refine kq_code (kc_seq (kc_region (kl_mv rfl (kl_callT (vs := [_, .int .i64 ((0 : Nat) : Int)]) rfl rfl (walk_ok c.vars.length c ds (List.replicate c.vars.length (0 : Int)) [] (List.replicate c.vars.length (0 : Int)) [] 0 hC hd (by omega) (by simp) rfl vals_nil (suppV_0 c).symm hcv hca hcr hds a22 o14 o18) (fun v23 L1 Ln K24 h25 g26 g27 => ?_)))))
  obtain ⟨rfl, rfl, H28, H29, x30, rfl, o31, h32, h33, o34⟩ := h25
  refine kl_norm ?_
  refine kl_nil (kq_code (kc_seq (kc_region (kl_mv rfl (kl_callL rfl rfl (copyInts_ok ds (by omega) (by assumption)) (fun v35 H36 f37 o38 => ?_))))))
  refine kl_as rfl (kl_nil (kq_code (kc_seq (kc_seq (kc_region (kl_as rfl (kl_nil (kq_code (kc_block (kc_loopL (A := Nat × List Int × Hp) (fun zz => (zz.1 ≤ c.vars.length) ∧ (zz.2.1 = filtTo c ds (suppV c ([] ++ extP (wordL c.vars ds) 0 [])) zz.1) ∧ OwnL 3 1 zz.2.2 noHp IntV v35 zz.2.1 ∧ Fr B zz.2.2) (fun zz => c.vars.length - zz.1) (fun zz => [zz.2.2, H28, H29]) (fun zz => [(7, .int .i64 (zz.1 : Int))]) (0, ds, H36) (pc 2 rfl (pc 4 rfl (pc 5 rfl (pc 6 rfl pn)))) (pc 7 rfl pn) rfl ⟨Nat.zero_le _, rfl, o38, f37⟩ ?_))))))))))
  rintro ⟨k, out, H41⟩ hJ44
  obtain ⟨hk39, hi40, o42, f43⟩ : (k ≤ c.vars.length) ∧ (out = filtTo c ds (suppV c ([] ++ extP (wordL c.vars ds) 0 [])) k) ∧ OwnL 3 1 H41 noHp IntV v35 out ∧ Fr B H41 := hJ44
  change KC _ _ (_) [H41, H28, H29] _ ([(7, .int .i64 (k : Int))] ++ _)
  have hln : out.length = ds.length := (by rw [hi40]; exact filtTo_len c ds _ k)
  refine kc_seq (kc_seq (kc_region (kl_mv rfl (kl_fd rfl (by assumption) (fun p45 a46 => ?_)))))
  refine kl_ld rfl (by assumption) (kl_len rfl (by assumption) (fun l47 => ?_))
  refine kl_lss rfl rfl ?_
  refine kl_nil (kq_code (kc_if rfl (fun c48 => ?_) (fun c48 => ?_)))
  ·skip
   have hv2 := hC.at (k := k) (by omega)
   have hll := suppV_len c ([] ++ extP (wordL c.vars ds) 0 [])
   refine kc_skipQ (kq_code (kc_seq (kc_block (kc_tree (fun i => ([14] : List Nat).contains i) [H29] (by kernel_rfl) ?_))))
   refine kt_q 0 (.cons _ (.cons _ (.cons_cons _ (List.nil_sublist _)))) rfl (by kernel_rfl) (kl_mv rfl (kl_nil (kq_q (kt_q 1 (.cons _ (.cons _ (.cons_cons _ (List.nil_sublist _)))) rfl (by kernel_rfl) (kl_fd rfl (by assumption) (fun p49 a50 => ?_))))))
   refine kl_nil (kq_q (kt_q 2 (.cons _ (.cons _ (.cons_cons _ (List.nil_sublist _)))) rfl (by kernel_rfl) (kl_ld rfl (by assumption) (kl_nil (kq_q (kt_q 3 (.cons _ (.cons _ (.cons_cons _ (List.nil_sublist _)))) rfl (by kernel_rfl) (kl_mv rfl (kl_nil (kq_q (kt_q 4 (.cons _ (.cons _ (.cons_cons _ (List.nil_sublist _)))) rfl (by kernel_rfl) (kl_inI rfl rfl (by assumption) (by omega) (fun p51 a52 => ?_))))))))))))
   refine kl_nil (kq_q (kt_q 5 (.cons _ (.cons _ (.cons_cons _ (List.nil_sublist _)))) rfl (by kernel_rfl) (kl_ld rfl (by assumption) (kl_nil (kq_q (kt_q 6 (.cons _ (.cons _ (.cons_cons _ (List.nil_sublist _)))) rfl (by kernel_rfl) (kl_mv rfl (kl_nil (kq_q (kt_q 7 (.cons _ (.cons _ (.cons_cons _ (List.nil_sublist _)))) rfl (by kernel_rfl) (kl_nilchkA rfl (by assumption) ?_)))))))))))
   refine kl_nil (kq_q (kt_q 8 (.cons _ (.cons _ (.cons_cons _ (List.nil_sublist _)))) rfl (by kernel_rfl) (kl_fd rfl (by assumption) (fun p53 a54 => ?_))))
   refine kl_nil (kq_q (kt_q 9 (.cons _ (.cons _ (.cons_cons _ (List.nil_sublist _)))) rfl (by kernel_rfl) (kl_ld rfl (by assumption) (kl_nil (kq_q (kt_q 10 (.cons _ (.cons _ (.cons_cons _ (List.nil_sublist _)))) rfl (by kernel_rfl) (kl_mv rfl (kl_nil (kq_q (kt_q 11 (.cons _ (.cons _ (.cons_cons _ (List.nil_sublist _)))) rfl (by kernel_rfl) (kl_ixLn rfl rfl (by assumption) (by omega) (fun p55 q56 => ?_))))))))))))
   refine kl_nil (kq_q (kt_q 12 (.cons _ (.cons _ (.cons_cons _ (List.nil_sublist _)))) rfl (by kernel_rfl) (kl_ldLIe rfl (by assumption) (by assumption) (by omega) ?_)))
   refine kl_nil (kq_q (kt_q 13 (.cons _ (.cons _ (.cons_cons _ (List.nil_sublist _)))) rfl (by kernel_rfl) (kl_ixL rfl rfl (by assumption) (by omega) (by omega) (fun p57 q58 => ?_))))
   refine kl_nil (kq_q (kt_a 14 rfl (by kernel_rfl) (kl_stL ((suppV c ([] ++ extP (wordL c.vars ds) 0 [])).getD k 0) rfl rfl (by assumption) o42 (by omega) rfl rfl rfl (fun H59 o60 f61 => ?_))))
   have f62 := f61 _ f43
   refine kl_chg [H59, H28, H29] rfl ?_
   refine kl_nil (kq_x rfl (kt_end (by kernel_rfl) ?_))
   refine kq_code (kc_region (kl_mv rfl (kl_inc rfl rfl (by omega) ?_)))
   refine kl_as rfl (kl_nil (kq_take [H59, H28, H29] ?_))
   refine kq_roundL ((k + 1), (out.set ((c.vars.getD k 0).toNat) ((suppV c ([] ++ extP (wordL c.vars ds) 0 [])).getD k 0)), H59) (by omega) (⟨by omega, (by rw [hi40, filtTo_succ]), o60, f62⟩) (pc 7 rfl pn) (pc 2 rfl (pc 4 rfl (pc 5 rfl (pc 6 rfl pn)))) rfl (List.Sublist.refl _)
  ·skip
   refine kc_exit (kq_code (kc_seq (kc_region (kl_mv rfl (kl_as rfl (kl_nil (kq_code (kc_ret ?_))))))))
   have e9 : out = filtL c ds := by (rw [hi40, show k = c.vars.length from by omega, List.nil_append, extP_all]; rfl)
   exact kq_ret rfl rfl H41 f43 (e9 ▸ OwnL.ints o42)
 ·skip
  refine kl_mkL (R := IntV) (0 : Int) rfl rfl (by omega) (by decide) (by exact rfl) (fun v63 H64 f65 o66 => ?_)
  refine kl_nil (kq_a (List.nil_sublist _) (kt_a 5 rfl (by kernel_rfl) (kl_mkL (R := IntV) (0 : Int) rfl rfl (by omega) (by decide) (by exact rfl) (fun v67 H68 f69 o70 => ?_))))
  refine kl_nil (kq_a (List.nil_sublist _) (kt_a 10 rfl (by kernel_rfl) (kl_bdA [(0, [.int .i64 c.kind, vcv, vca, .int .i64 c.bound, vcr]), (1, [vds]), (2, [v67]), (3, [v63])] [.int .i64 c.kind, vcv, vca, .int .i64 c.bound, vcr, vds, v67, v63] rfl (cpa rfl (cpa (Sl.cells (by assumption)) (cpa (OwnL.cells (by assumption)) (cpa (OwnL.cells (by assumption)) cpa_nil)))) rfl ?_)))
  refine kl_nil (kq_x rfl (kt_a 11 rfl (by kernel_rfl) (kl_box rfl rfl (fun p71 H72 f73 a74 => ?_))))
  refine kl_nil (kq_x rfl (kt_q 12 (List.nil_sublist _) rfl (by kernel_rfl) (kl_as rfl (kl_nil (kq_q (kt_end (by kernel_rfl) ?_))))))
  refine kq_code (kc_seq (kc_region (kl_mv rfl (kl_callT (vs := [_, .int .i64 ((0 : Nat) : Int)]) rfl rfl (walk_ok c.vars.length c ds (List.replicate c.vars.length (0 : Int)) [] (List.replicate c.vars.length (0 : Int)) [] 0 hC hd (by omega) (by simp) rfl vals_nil (suppV_0 c).symm hcv hca hcr hds a74 o70 o66) (fun v75 L1 Ln K76 h77 g78 g79 => ?_)))))
  obtain ⟨rfl, rfl, H80, H81, x82, rfl, o83, h84, h85, o86⟩ := h77
  refine kl_norm ?_
  refine kl_nil (kq_code (kc_seq (kc_region (kl_mv rfl (kl_callL rfl rfl (copyInts_ok ds (by omega) (by assumption)) (fun v87 H88 f89 o90 => ?_))))))
  refine kl_as rfl (kl_nil (kq_code (kc_seq (kc_seq (kc_region (kl_as rfl (kl_nil (kq_code (kc_block (kc_loopL (A := Nat × List Int × Hp) (fun zz => (zz.1 ≤ c.vars.length) ∧ (zz.2.1 = filtTo c ds (suppV c ([] ++ extP (wordL c.vars ds) 0 [])) zz.1) ∧ OwnL 3 1 zz.2.2 noHp IntV v87 zz.2.1 ∧ Fr B zz.2.2) (fun zz => c.vars.length - zz.1) (fun zz => [zz.2.2, H80, H81]) (fun zz => [(7, .int .i64 (zz.1 : Int))]) (0, ds, H88) (pc 2 rfl (pc 4 rfl (pc 5 rfl (pc 6 rfl pn)))) (pc 7 rfl pn) rfl ⟨Nat.zero_le _, rfl, o90, f89⟩ ?_))))))))))
  rintro ⟨k, out, H93⟩ hJ96
  obtain ⟨hk91, hi92, o94, f95⟩ : (k ≤ c.vars.length) ∧ (out = filtTo c ds (suppV c ([] ++ extP (wordL c.vars ds) 0 [])) k) ∧ OwnL 3 1 H93 noHp IntV v87 out ∧ Fr B H93 := hJ96
  change KC _ _ (_) [H93, H80, H81] _ ([(7, .int .i64 (k : Int))] ++ _)
  have hln : out.length = ds.length := (by rw [hi92]; exact filtTo_len c ds _ k)
  refine kc_seq (kc_seq (kc_region (kl_mv rfl (kl_fd rfl (by assumption) (fun p97 a98 => ?_)))))
  refine kl_ld rfl (by assumption) (kl_len rfl (by assumption) (fun l99 => ?_))
  refine kl_lss rfl rfl ?_
  refine kl_nil (kq_code (kc_if rfl (fun c100 => ?_) (fun c100 => ?_)))
  ·skip
   have hv2 := hC.at (k := k) (by omega)
   have hll := suppV_len c ([] ++ extP (wordL c.vars ds) 0 [])
   refine kc_skipQ (kq_code (kc_seq (kc_block (kc_tree (fun i => ([14] : List Nat).contains i) [H81] (by kernel_rfl) ?_))))
   refine kt_q 0 (.cons _ (.cons _ (.cons_cons _ (List.nil_sublist _)))) rfl (by kernel_rfl) (kl_mv rfl (kl_nil (kq_q (kt_q 1 (.cons _ (.cons _ (.cons_cons _ (List.nil_sublist _)))) rfl (by kernel_rfl) (kl_fd rfl (by assumption) (fun p101 a102 => ?_))))))
   refine kl_nil (kq_q (kt_q 2 (.cons _ (.cons _ (.cons_cons _ (List.nil_sublist _)))) rfl (by kernel_rfl) (kl_ld rfl (by assumption) (kl_nil (kq_q (kt_q 3 (.cons _ (.cons _ (.cons_cons _ (List.nil_sublist _)))) rfl (by kernel_rfl) (kl_mv rfl (kl_nil (kq_q (kt_q 4 (.cons _ (.cons _ (.cons_cons _ (List.nil_sublist _)))) rfl (by kernel_rfl) (kl_inI rfl rfl (by assumption) (by omega) (fun p103 a104 => ?_))))))))))))
   refine kl_nil (kq_q (kt_q 5 (.cons _ (.cons _ (.cons_cons _ (List.nil_sublist _)))) rfl (by kernel_rfl) (kl_ld rfl (by assumption) (kl_nil (kq_q (kt_q 6 (.cons _ (.cons _ (.cons_cons _ (List.nil_sublist _)))) rfl (by kernel_rfl) (kl_mv rfl (kl_nil (kq_q (kt_q 7 (.cons _ (.cons _ (.cons_cons _ (List.nil_sublist _)))) rfl (by kernel_rfl) (kl_nilchkA rfl (by assumption) ?_)))))))))))
   refine kl_nil (kq_q (kt_q 8 (.cons _ (.cons _ (.cons_cons _ (List.nil_sublist _)))) rfl (by kernel_rfl) (kl_fd rfl (by assumption) (fun p105 a106 => ?_))))
   refine kl_nil (kq_q (kt_q 9 (.cons _ (.cons _ (.cons_cons _ (List.nil_sublist _)))) rfl (by kernel_rfl) (kl_ld rfl (by assumption) (kl_nil (kq_q (kt_q 10 (.cons _ (.cons _ (.cons_cons _ (List.nil_sublist _)))) rfl (by kernel_rfl) (kl_mv rfl (kl_nil (kq_q (kt_q 11 (.cons _ (.cons _ (.cons_cons _ (List.nil_sublist _)))) rfl (by kernel_rfl) (kl_ixLn rfl rfl (by assumption) (by omega) (fun p107 q108 => ?_))))))))))))
   refine kl_nil (kq_q (kt_q 12 (.cons _ (.cons _ (.cons_cons _ (List.nil_sublist _)))) rfl (by kernel_rfl) (kl_ldLIe rfl (by assumption) (by assumption) (by omega) ?_)))
   refine kl_nil (kq_q (kt_q 13 (.cons _ (.cons _ (.cons_cons _ (List.nil_sublist _)))) rfl (by kernel_rfl) (kl_ixL rfl rfl (by assumption) (by omega) (by omega) (fun p109 q110 => ?_))))
   refine kl_nil (kq_q (kt_a 14 rfl (by kernel_rfl) (kl_stL ((suppV c ([] ++ extP (wordL c.vars ds) 0 [])).getD k 0) rfl rfl (by assumption) o94 (by omega) rfl rfl rfl (fun H111 o112 f113 => ?_))))
   have f114 := f113 _ f95
   refine kl_chg [H111, H80, H81] rfl ?_
   refine kl_nil (kq_x rfl (kt_end (by kernel_rfl) ?_))
   refine kq_code (kc_region (kl_mv rfl (kl_inc rfl rfl (by omega) ?_)))
   refine kl_as rfl (kl_nil (kq_take [H111, H80, H81] ?_))
   refine kq_roundL ((k + 1), (out.set ((c.vars.getD k 0).toNat) ((suppV c ([] ++ extP (wordL c.vars ds) 0 [])).getD k 0)), H111) (by omega) (⟨by omega, (by rw [hi92, filtTo_succ]), o112, f114⟩) (pc 7 rfl pn) (pc 2 rfl (pc 4 rfl (pc 5 rfl (pc 6 rfl pn)))) rfl (List.Sublist.refl _)
  ·skip
   refine kc_exit (kq_code (kc_seq (kc_region (kl_mv rfl (kl_as rfl (kl_nil (kq_code (kc_ret ?_))))))))
   have e9 : out = filtL c ds := by (rw [hi92, show k = c.vars.length from by omega, List.nil_append, extP_all]; rfl)
   exact kq_ret rfl rfl H93 f95 (e9 ▸ OwnL.ints o94)
theorem isCons_ok {Hmd : Hp} {vmd : Value} {Hmc : Hp} {vmc : Value} {Hds : Hp} {vds : Value} (m : Mod) (ds : List Int) (hM : MOk m) (hd : DOk m.doms.length ds) (hmd : Ints Hmd vmd m.doms) (hmc : Cons Hmc vmc m.cons) (hds : Ints Hds vds ds) : SpecP Tryz.prog 153 [.agg #[vmd, vmc], vds] [Hmd, Hmc, Hds] (.bool (consB m.cons ds)) := by
 refine spec_of Tryz.func153 rfl rfl rfl (fun B => ?_)
 refine kc_seq (kc_region (kl_box rfl rfl (fun p1 H2 f3 a4 => ?_)))
 refine kl_as rfl (kl_nil (kq_code (kc_seq (kc_seq (kc_region (kl_as rfl (kl_nil (kq_code (kc_block (kc_loop0 (A := Nat) (fun zz => (zz ≤ m.cons.length) ∧ ((m.cons.take zz).all (fun c => decide (filtL c ds = ds)) = true)) (fun zz => m.cons.length - zz) (fun zz => [(5, .int .i64 (zz : Int))]) (0) (pc 1 rfl (pc 2 rfl pn)) (pc 5 rfl pn) ⟨Nat.zero_le _, rfl⟩ ?_))))))))))
 rintro k hJ7
 obtain ⟨hk5, hi6⟩ : (k ≤ m.cons.length) ∧ ((m.cons.take k).all (fun c => decide (filtL c ds = ds)) = true) := hJ7
 change KC _ _ (_) _ _ ([(5, .int .i64 (k : Int))] ++ _)
 refine kc_seq (kc_seq (kc_region (kl_mv rfl (kl_fd rfl (by assumption) (fun p8 a9 => ?_)))))
 refine kl_ld rfl (by assumption) (kl_len rfl (by assumption) (fun l10 => ?_))
 refine kl_lss rfl rfl ?_
 refine kl_nil (kq_code (kc_if rfl (fun c11 => ?_) (fun c11 => ?_)))
 ·skip
  have hC : ConOk (m.cons.getD k nilCon) ds.length := (by rw [hd.l]; exact ⟨hM.c (by omega)⟩)
  refine kc_skipQ (kq_code (kc_seq (kc_block (kc_seq (kc_region (kl_fd rfl (by assumption) (fun p12 a13 => ?_)))))))
  refine kl_ld rfl (by assumption) (kl_mv rfl (kl_inC rfl rfl (by assumption) (by omega) (fun p14 u16 u17 u18 h19 h20 h21 a15 => ?_)))
  refine kl_ldS rfl (by assumption) rfl ?_
  refine kl_mv rfl (kl_call rfl rfl (supported_ok (m.cons.getD k nilCon) ds hC hd.d (by assumption) (by assumption) (by assumption) (by assumption)) (fun v22 H23 f24 h25 => ?_))
  refine kl_mv rfl (kl_callP rfl rfl (sequal_ok (filtL (m.cons.getD k nilCon) ds) ds (by assumption) (by assumption)) ?_)
  refine kl_not rfl (kl_nil (kq_code (kc_cond rfl (fun c26 => ?_) (fun c26 => ?_))))
  ·skip
   have c26r := c26
   try simp only [smpC, decide_eq_true_eq, decide_eq_false_iff_not] at c26
   refine kc_seq (kc_region (kl_as rfl (kl_nil (kq_code (kc_ret (kq_retP rfl rfl (congrArg Value.bool ?_)))))))
   exact cons_no (k := k) (by omega) (by assumption)
  ·skip
   have c26r := c26
   try simp only [smpC, decide_eq_true_eq, decide_eq_false_iff_not] at c26
   refine kc_skipQ (kq_code (kc_region (kl_mv rfl (kl_inc rfl rfl (by omega) ?_))))
   refine kl_as rfl (kl_nil (kq_round0 ((k + 1)) (by omega) (⟨by omega, cons_step (by omega) hi6 (by assumption)⟩) (pc 5 rfl pn) (pc 1 rfl (pc 2 rfl pn)) (List.Sublist.refl _)))
 ·skip
  refine kc_exit (kq_code (kc_seq (kc_region (kl_as rfl (kl_nil (kq_code (kc_ret (kq_retP rfl rfl (congrArg Value.bool ?_)))))))))
  exact (by rw [List.take_of_length_le (by omega)] at hi6; exact hi6.symm)
theorem fixS_ok {Hmd : Hp} {vmd : Value} {Hmc : Hp} {vmc : Value} {Hds : Hp} {vds : Value} (m : Mod) (ds : List Int) (hM : MOk m) (hd : DOk m.doms.length ds) (hmd : Ints Hmd vmd m.doms) (hmc : Cons Hmc vmc m.cons) (hds : Ints Hds vds ds) : Spec Tryz.prog 130 [.agg #[vmd, vmc], vds] [Hmd, Hmc, Hds] (fun Hq vq => Ints Hq vq (prop m ds)) := by
 refine spec_of Tryz.func130 rfl rfl rfl (fun B => ?_)
 refine kc_seq (kc_region (kl_box rfl rfl (fun p1 H2 f3 a4 => ?_)))
 refine kl_as rfl (kl_nil (kq_code (kc_seq (kc_region (kl_mv rfl (kl_call rfl rfl (copyInts_ok ds (by have := hd.l; have := hM.n; omega) (by assumption)) (fun v5 H6 f7 o8 => ?_)))))))
 have h9 := OwnL.ints o8
 refine kl_as rfl (kl_nil (kq_code (kc_seq (kc_block (kc_loopK (A := List Int × Value × Hp) (fun zz => (DOk m.doms.length zz.1 ∧ prop m zz.1 = prop m ds) ∧ Fr B zz.2.2 ∧ Ints zz.2.2 zz.2.1 zz.1) (fun zz => sumN zz.1) (fun zz => zz.2.2) (fun zz => []) (fun zz => [(5, zz.2.1)]) (ds, v5, H6) (pc 2 rfl (pc 4 rfl pn)) (pc 5 rfl pn) rfl ⟨⟨hd, rfl⟩, f7, (by assumption)⟩ ?_)))))
 rintro ⟨xs, v12, K13⟩ hJ16
 obtain ⟨hi11, f14, h15⟩ : (DOk m.doms.length xs ∧ prop m xs = prop m ds) ∧ Fr B K13 ∧ Ints K13 v12 xs := hJ16
 change KC _ _ (K13 :: _) [] _ ([(5, v12)] ++ _)
 have hD := hi11.1
 refine kc_seq (kc_seq (kc_region (kl_ldS rfl (by assumption) rfl ?_)))
 refine kl_mv rfl (kl_callP rfl rfl (isCons_ok m xs hM hD (by assumption) (by assumption) (by assumption)) ?_)
 refine kl_not rfl (kl_mv rfl (kl_join 4 17 (.bool (!(consB m.cons xs) && !(xs.contains 0))) (pc 2 rfl (pc 4 rfl (pc 5 rfl (pc 9 rfl (pc 10 rfl (pc 11 rfl (pc 12 rfl (pc 13 rfl pn)))))))) (fun J18 => ?_) ?_))
 ·rcases Bool.eq_false_or_eq_true (!(consB m.cons xs)) with g17 | g17
  ·skip
   have g17p := g17
   try simp only [Bool.not_eq_true', Bool.not_eq_false', decide_eq_true_eq, decide_eq_false_iff_not, Bool.and_eq_true, Bool.or_eq_false_iff, withinB_iff] at g17p
   refine kl_gT rfl rfl g17 (kl_mv rfl (kl_gT rfl rfl g17 (kl_callP rfl rfl (hasEmpty_ok xs (by assumption)) ?_)))
   refine kl_gT rfl rfl g17 (kl_not rfl (kl_andT rfl rfl g17 ?_))
   exact J18 _ (pc 17 rfl (pc 2 rfl (pc 4 rfl (pc 5 rfl (pc 9 rfl (pc 10 rfl (pc 11 rfl (pc 12 rfl (pc 13 rfl pn)))))))))
  ·skip
   refine kl_gF rfl rfl g17 (kl_gF rfl rfl g17 (kl_gF rfl rfl g17 (kl_andF (!(xs.contains 0)) rfl rfl g17 ?_)))
   exact J18 _ (pc 17 rfl (pc 2 rfl (pc 4 rfl (pc 5 rfl (pc 9 rfl (pc 10 rfl (pc 11 rfl (pc 12 rfl (pc 13 rfl pn)))))))))
 refine kl_nil (kq_code (kc_cond rfl (fun c19 => ?_) (fun c19 => ?_)))
 ·skip
  have c19r := c19
  try simp only [smpC, decide_eq_true_eq, decide_eq_false_iff_not] at c19
  have hgo := fix_go hM hD c19r
  refine kc_skipQ (kq_code (kc_block (kc_seq (kc_region (kl_as rfl (kl_nil (kq_code (kc_block (kc_loopK (A := Nat × List Int × Value × Hp) (fun zz => (zz.1 ≤ m.cons.length) ∧ (zz.2.1 = filtC (m.cons.take zz.1) xs) ∧ Fr B zz.2.2.2 ∧ Ints zz.2.2.2 zz.2.2.1 zz.2.1) (fun zz => m.cons.length - zz.1) (fun zz => zz.2.2.2) (fun zz => []) (fun zz => [(6, .int .i64 (zz.1 : Int)), (5, zz.2.2.1)]) (0, xs, v12, K13) (pc 2 rfl (pc 4 rfl (pc 9 rfl (pc 10 rfl (pc 11 rfl (pc 12 rfl (pc 13 rfl (pc 17 rfl pn)))))))) (pc 6 rfl (pc 5 rfl pn)) rfl ⟨Nat.zero_le _, rfl, f14, (by assumption)⟩ ?_)))))))))
  rintro ⟨k2, ys, v22, K23⟩ hJ26
  obtain ⟨hk20, hi21, f24, h25⟩ : (k2 ≤ m.cons.length) ∧ (ys = filtC (m.cons.take k2) xs) ∧ Fr B K23 ∧ Ints K23 v22 ys := hJ26
  change KC _ _ (K23 :: _) [] _ ([(6, .int .i64 (k2 : Int)), (5, v22)] ++ _)
  refine kc_seq (kc_seq (kc_region (kl_mv rfl (kl_fd rfl (by assumption) (fun p27 a28 => ?_)))))
  refine kl_ld rfl (by assumption) (kl_len rfl (by assumption) (fun l29 => ?_))
  refine kl_lss rfl rfl ?_
  refine kl_nil (kq_code (kc_if rfl (fun c30 => ?_) (fun c30 => ?_)))
  ·skip
   have hE := filtC_at hM hD hi21
   have hC : ConOk (m.cons.getD k2 nilCon) ys.length := (by rw [hE.l]; exact ⟨hM.c (by omega)⟩)
   refine kc_skipQ (kq_code (kc_seq (kc_block (kc_region (kl_fd rfl (by assumption) (fun p31 a32 => ?_))))))
   refine kl_ld rfl (by assumption) (kl_mv rfl (kl_inC rfl rfl (by assumption) (by omega) (fun p33 u35 u36 u37 h38 h39 h40 a34 => ?_)))
   refine kl_ldS rfl (by assumption) rfl ?_
   refine kl_mv rfl (kl_call rfl rfl (supported_ok (m.cons.getD k2 nilCon) ys hC hE.d (by assumption) (by assumption) (by assumption) (by assumption)) (fun v41 H42 f43 h44 => ?_))
   refine kl_as rfl (kl_nil (kq_code (kc_region (kl_mv rfl (kl_inc rfl rfl (by omega) ?_)))))
   refine kl_as rfl (kl_nil (kq_roundK ((k2 + 1), (filtL (m.cons.getD k2 nilCon) ys), v41, H42) (by omega) (⟨by omega, (by rw [filtC_step (by omega), ← hi21]), f43, (by assumption)⟩) (pc 6 rfl (pc 5 rfl pn)) (pc 2 rfl (pc 4 rfl (pc 9 rfl (pc 10 rfl (pc 11 rfl (pc 12 rfl (pc 13 rfl (pc 17 rfl pn)))))))) rfl (List.Sublist.refl _)))
  ·skip
   refine kc_exit (kq_roundK (ys, v22, K23) (by (dsimp only; rw [hi21, List.take_of_length_le (by omega)]; exact filtA_lt hM hD hgo.1)) (⟨(by rw [hi21, List.take_of_length_le (by omega)]; exact ⟨(filtA_ok hM hD).1, (prop_step hM hD hgo.2 hgo.1).trans hi11.2⟩), f24, (by assumption)⟩) (pc 5 rfl pn) (pc 2 rfl (pc 4 rfl pn)) rfl (List.Sublist.refl _))
 ·skip
  have c19r := c19
  try simp only [smpC, decide_eq_true_eq, decide_eq_false_iff_not] at c19
  have hend := fix_end hM hD c19r
  refine kc_exit (kq_code (kc_seq (kc_seq (kc_region (kl_mv rfl (kl_callP rfl rfl (hasEmpty_ok xs (by assumption)) ?_))))))
  refine kl_nil (kq_code (kc_cond rfl (fun c45 => ?_) (fun c45 => ?_)))
  ·skip
   have c45r := c45
   try simp only [smpC, decide_eq_true_eq, decide_eq_false_iff_not] at c45
   refine kc_seq (kc_region (kl_mv rfl (kl_len rfl (by assumption) (fun l46 => ?_))))
   refine kl_mkL (R := IntV) (0 : Int) rfl rfl (by (have := hD.l; have := hM.n; omega)) (by decide) (by exact rfl) (fun v47 H48 f49 o50 => ?_)
   refine kl_as rfl (kl_nil (kq_code (kc_ret ?_)))
   have e9 : (List.replicate xs.length (0 : Int)) = prop m ds := by (rw [← hi11.2]; exact (prop_0 (by assumption)).symm)
   exact kq_ret rfl rfl H48 f49 (e9 ▸ OwnL.ints o50)
  ·skip
   have c45r := c45
   try simp only [smpC, decide_eq_true_eq, decide_eq_false_iff_not] at c45
   refine kc_skipQ (kq_code (kc_seq (kc_region (kl_mv rfl (kl_as rfl (kl_nil (kq_code (kc_ret ?_))))))))
   have e9 : xs = prop m ds := by (rw [← hi11.2]; exact (hend (by assumption)).symm)
   exact kq_ret rfl rfl K13 f14 (e9 ▸ (by assumption : Ints _ _ xs))
end Go.Proofs.YtiilanckbocifaaGreat
