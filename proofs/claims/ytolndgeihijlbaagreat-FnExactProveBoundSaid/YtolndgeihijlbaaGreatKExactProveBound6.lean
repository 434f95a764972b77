/- Parts of the proof: a logic of partial frames, plain functions, walks of the program's functions. Conditions: those that each statement names. -/
import Derived.Test.YtolndgeihijlbaaGreatKExactProveBound5
namespace Go.Proofs.YtolndgeihijlbaaGreat
open Go
set_option linter.unusedSimpArgs false
set_option linter.unusedVariables false
section
theorem supported_ok {Hcv : Hp} {vcv : Value} {Hca : Hp} {vca : Value} {Hcr : Hp} {vcr : Value} {Hds : Hp} {vds : Value} (c : Con) (ds : List Int) (hC : ConOk c ds.length) (hd : DomV ds) (hcv : Ints Hcv vcv c.vars) (hca : Ints Hca vca c.args) (hcr : Rows Hcr vcr c.rows) (hds : Ints Hds vds ds) : Spec Tryz.prog 158 [.agg #[.int .i64 c.kind, vcv, vca, .int .i64 c.bound, vcr], vds] [Hcv, Hca, Hcr, Hds] (fun Hq vq => Ints Hq vq (filtL c ds)) := by
 have ho := hC.one
 refine spec_of Tryz.func158 rfl rfl rfl (fun B => ?_)
 refine cS (cr (kl_box rfl rfl (fun p1 H2 f3 a4 => ?_)))
 refine sg rfl (ln (qc (cS (kc_tree (fun i => ([10, 11] : List Nat).contains i) [] (by kernel_rfl) ?_))))
 refine tq 0 nsl rfl (kl_ldS rfl ‹_› rfl ?_)
 refine ln (qq (tq 1 nsl rfl (mv rfl (ln (qq (tq 2 nsl rfl (fd9 rfl ‹_› (fun p5 a6 => ?_))))))))
 refine ln (qq (tq 3 nsl rfl (ld rfl ‹_› (ln (qq (tq 4 nsl rfl (le9 rfl ‹_› (fun l7 => ?_))))))))
 refine ln (qq (tq 6 nsl rfl (fd9 rfl ‹_› (fun p8 a9 => ?_))))
 refine ln (qq (tq 7 nsl rfl (ld rfl ‹_› (ln (qq (tq 8 nsl rfl (le9 rfl ‹_› (fun l10 => ?_))))))))
 refine ln (qq (kt_b 5 9 rfl rfl (by kernel_rfl) ?_ ?_))
 ·refine kl_mkL (R := IntV) (0 : Int) rfl rfl (by omega) (by decide) (by exact rfl) (fun v11 H12 f13 o14 => ?_)
  refine ln (qa nsl (ta 9 rfl (kl_mkL (R := IntV) (0 : Int) rfl rfl (by omega) (by decide) (by exact rfl) (fun v15 H16 f17 o18 => ?_))))
  refine ln (qa nsl (ta 10 rfl (kl_bdA [(0, [.int .i64 c.kind, vcv, vca, .int .i64 c.bound, vcr]), (1, [vds]), (2, [v11]), (3, [v15])] [.int .i64 c.kind, vcv, vca, .int .i64 c.bound, vcr, vds, v11, v15] rfl (cpa rfl (cpa (Sl.cells ‹_›) (cpa (OwnL.cells ‹_›) (cpa (OwnL.cells ‹_›) cpa_nil)))) rfl ?_)))
  refine ln (qx rfl (ta 11 rfl (kl_box rfl rfl (fun p19 H20 f21 a22 => ?_))))
  refine ln (qx rfl (tq 12 nsl rfl (sg rfl (ln (qq (kt_end (by kernel_rfl) ?_))))))
  refine qc (cS (cr (mv rfl (cT (vs := [_, .int .i64 ((0 : Nat) : Int)]) rfl rfl (walk_ok c.vars.length c ds (List.replicate c.vars.length (0 : Int)) [] (List.replicate c.vars.length (0 : Int)) [] 0 hC hd (by omega) (by simp) rfl vals_nil (suppV_0 c).symm hcv hca hcr hds a22 o14 o18) (fun v23 L1 Ln K24 h25 g26 g27 => ?_)))))
  obtain ⟨rfl, rfl, H28, H29, x30, rfl, o31, h32, h33, o34⟩ := h25
  refine nm ?_
  refine ln (qc (cS (cr (mv rfl (kl_callL rfl rfl (copyInts_ok ds (by omega) ‹_›) (fun v35 H36 f37 o38 => ?_))))))
  refine sg rfl (ln (qc (cS (cS (cr (sg rfl (ln (qc (bl (kc_loopL (A := Nat × List Int × Hp) (fun zz => (zz.1 ≤ c.vars.length) ∧ (zz.2.1 = filtTo c ds (suppV c ([] ++ extP (wordL c.vars ds) 0 [])) zz.1) ∧ OwnL 3 1 zz.2.2 noHp IntV v35 zz.2.1 ∧ Fr B zz.2.2) (fun zz => c.vars.length - zz.1) (fun zz => [zz.2.2, H28, H29]) (fun zz => [(7, .int .i64 (zz.1 : Int))]) (0, ds, H36) (pk [2, 4, 5, 6] rfl) (pc 7 rfl pn) rfl ⟨Nat.zero_le _, rfl, o38, f37⟩ ?_))))))))))
  rintro ⟨k, out, H41⟩ hJ44
  obtain ⟨hk39, hi40, o42, f43⟩ : (k ≤ c.vars.length) ∧ (out = filtTo c ds (suppV c ([] ++ extP (wordL c.vars ds) 0 [])) k) ∧ OwnL 3 1 H41 noHp IntV v35 out ∧ Fr B H41 := hJ44
  change KC _ _ (_) [H41, H28, H29] _ ([(7, .int .i64 (k : Int))] ++ _)
  have hln : out.length = ds.length := (by rw [hi40]; exact filtTo_len c ds _ k)
  refine cS (cS (cr (mv rfl (fd9 rfl ‹_› (fun p45 a46 => ?_)))))
  refine ld rfl ‹_› (le9 rfl ‹_› (fun l47 => ?_))
  refine ls9 rfl rfl ?_
  refine ln (qc (ci9 rfl (fun c48 => ?_) (fun c48 => ?_)))
  ·have hv2 := hC.at (k := k) (by omega)
   have hll := suppV_len c ([] ++ extP (wordL c.vars ds) 0 [])
   refine sk (qc (cS (bl (kc_tree (fun i => ([14] : List Nat).contains i) [H29] (by kernel_rfl) ?_))))
   refine kt_q 0 (.cons _ (.cons _ (.cons_cons _ nsl))) rfl (by kernel_rfl) (mv rfl (ln (qq (kt_q 1 (.cons _ (.cons _ (.cons_cons _ nsl))) rfl (by kernel_rfl) (fd9 rfl ‹_› (fun p49 a50 => ?_))))))
   refine ln (qq (kt_q 2 (.cons _ (.cons _ (.cons_cons _ nsl))) rfl (by kernel_rfl) (ld rfl ‹_› (ln (qq (kt_q 3 (.cons _ (.cons _ (.cons_cons _ nsl))) rfl (by kernel_rfl) (mv rfl (ln (qq (kt_q 4 (.cons _ (.cons _ (.cons_cons _ nsl))) rfl (by kernel_rfl) (kl_inI rfl rfl ‹_› (by omega) (fun p51 a52 => ?_))))))))))))
   refine ln (qq (kt_q 5 (.cons _ (.cons _ (.cons_cons _ nsl))) rfl (by kernel_rfl) (ld rfl ‹_› (ln (qq (kt_q 6 (.cons _ (.cons _ (.cons_cons _ nsl))) rfl (by kernel_rfl) (mv rfl (ln (qq (kt_q 7 (.cons _ (.cons _ (.cons_cons _ nsl))) rfl (by kernel_rfl) (kl_nilchkA rfl ‹_› ?_)))))))))))
   refine ln (qq (kt_q 8 (.cons _ (.cons _ (.cons_cons _ nsl))) rfl (by kernel_rfl) (fd9 rfl ‹_› (fun p53 a54 => ?_))))
   refine ln (qq (kt_q 9 (.cons _ (.cons _ (.cons_cons _ nsl))) rfl (by kernel_rfl) (ld rfl ‹_› (ln (qq (kt_q 10 (.cons _ (.cons _ (.cons_cons _ nsl))) rfl (by kernel_rfl) (mv rfl (ln (qq (kt_q 11 (.cons _ (.cons _ (.cons_cons _ nsl))) rfl (by kernel_rfl) (kl_ixLn rfl rfl ‹_› (by omega) (fun p55 q56 => ?_))))))))))))
   refine ln (qq (kt_q 12 (.cons _ (.cons _ (.cons_cons _ nsl))) rfl (by kernel_rfl) (kl_ldLIe rfl ‹_› ‹_› (by omega) ?_)))
   refine ln (qq (kt_q 13 (.cons _ (.cons _ (.cons_cons _ nsl))) rfl (by kernel_rfl) (kl_ixL rfl rfl ‹_› (by omega) (by omega) (fun p57 q58 => ?_))))
   refine ln (qq (ta 14 rfl (kl_stL ((suppV c ([] ++ extP (wordL c.vars ds) 0 [])).getD k 0) rfl rfl ‹_› o42 (by omega) rfl rfl rfl (fun H59 o60 f61 => ?_))))
   have f62 := f61 _ f43
   refine cg [H59, H28, H29] rfl ?_
   refine ln (qx rfl (kt_end (by kernel_rfl) ?_))
   refine qc (cr (mv rfl (ic9 rfl rfl (by omega) ?_)))
   refine sg rfl (ln (tk [H59, H28, H29] ?_))
   refine rL ((k + 1), (out.set ((c.vars.getD k 0).toNat) ((suppV c ([] ++ extP (wordL c.vars ds) 0 [])).getD k 0)), H59) (by omega) (⟨by omega, (by rw [hi40, filtTo_succ]), o60, f62⟩) (pc 7 rfl pn) (pk [2, 4, 5, 6] rfl) rfl slr9
  ·refine ex9 (qc (cS (cr (mv rfl (sg rfl (ln (qc (rt ?_))))))))
   have e9 : out = filtL c ds := by (rw [hi40, show k = c.vars.length from by omega, List.nil_append, extP_all]; rfl)
   exact kq_ret rfl rfl H41 f43 (e9 ▸ OwnL.ints o42)
 ·refine kl_mkL (R := IntV) (0 : Int) rfl rfl (by omega) (by decide) (by exact rfl) (fun v63 H64 f65 o66 => ?_)
  refine ln (qa nsl (ta 5 rfl (kl_mkL (R := IntV) (0 : Int) rfl rfl (by omega) (by decide) (by exact rfl) (fun v67 H68 f69 o70 => ?_))))
  refine ln (qa nsl (ta 10 rfl (kl_bdA [(0, [.int .i64 c.kind, vcv, vca, .int .i64 c.bound, vcr]), (1, [vds]), (2, [v67]), (3, [v63])] [.int .i64 c.kind, vcv, vca, .int .i64 c.bound, vcr, vds, v67, v63] rfl (cpa rfl (cpa (Sl.cells ‹_›) (cpa (OwnL.cells ‹_›) (cpa (OwnL.cells ‹_›) cpa_nil)))) rfl ?_)))
  refine ln (qx rfl (ta 11 rfl (kl_box rfl rfl (fun p71 H72 f73 a74 => ?_))))
  refine ln (qx rfl (tq 12 nsl rfl (sg rfl (ln (qq (kt_end (by kernel_rfl) ?_))))))
  refine qc (cS (cr (mv rfl (cT (vs := [_, .int .i64 ((0 : Nat) : Int)]) rfl rfl (walk_ok c.vars.length c ds (List.replicate c.vars.length (0 : Int)) [] (List.replicate c.vars.length (0 : Int)) [] 0 hC hd (by omega) (by simp) rfl vals_nil (suppV_0 c).symm hcv hca hcr hds a74 o70 o66) (fun v75 L1 Ln K76 h77 g78 g79 => ?_)))))
  obtain ⟨rfl, rfl, H80, H81, x82, rfl, o83, h84, h85, o86⟩ := h77
  refine nm ?_
  refine ln (qc (cS (cr (mv rfl (kl_callL rfl rfl (copyInts_ok ds (by omega) ‹_›) (fun v87 H88 f89 o90 => ?_))))))
  refine sg rfl (ln (qc (cS (cS (cr (sg rfl (ln (qc (bl (kc_loopL (A := Nat × List Int × Hp) (fun zz => (zz.1 ≤ c.vars.length) ∧ (zz.2.1 = filtTo c ds (suppV c ([] ++ extP (wordL c.vars ds) 0 [])) zz.1) ∧ OwnL 3 1 zz.2.2 noHp IntV v87 zz.2.1 ∧ Fr B zz.2.2) (fun zz => c.vars.length - zz.1) (fun zz => [zz.2.2, H80, H81]) (fun zz => [(7, .int .i64 (zz.1 : Int))]) (0, ds, H88) (pk [2, 4, 5, 6] rfl) (pc 7 rfl pn) rfl ⟨Nat.zero_le _, rfl, o90, f89⟩ ?_))))))))))
  rintro ⟨k, out, H93⟩ hJ96
  obtain ⟨hk91, hi92, o94, f95⟩ : (k ≤ c.vars.length) ∧ (out = filtTo c ds (suppV c ([] ++ extP (wordL c.vars ds) 0 [])) k) ∧ OwnL 3 1 H93 noHp IntV v87 out ∧ Fr B H93 := hJ96
  change KC _ _ (_) [H93, H80, H81] _ ([(7, .int .i64 (k : Int))] ++ _)
  have hln : out.length = ds.length := (by rw [hi92]; exact filtTo_len c ds _ k)
  refine cS (cS (cr (mv rfl (fd9 rfl ‹_› (fun p97 a98 => ?_)))))
  refine ld rfl ‹_› (le9 rfl ‹_› (fun l99 => ?_))
  refine ls9 rfl rfl ?_
  refine ln (qc (ci9 rfl (fun c100 => ?_) (fun c100 => ?_)))
  ·have hv2 := hC.at (k := k) (by omega)
   have hll := suppV_len c ([] ++ extP (wordL c.vars ds) 0 [])
   refine sk (qc (cS (bl (kc_tree (fun i => ([14] : List Nat).contains i) [H81] (by kernel_rfl) ?_))))
   refine kt_q 0 (.cons _ (.cons _ (.cons_cons _ nsl))) rfl (by kernel_rfl) (mv rfl (ln (qq (kt_q 1 (.cons _ (.cons _ (.cons_cons _ nsl))) rfl (by kernel_rfl) (fd9 rfl ‹_› (fun p101 a102 => ?_))))))
   refine ln (qq (kt_q 2 (.cons _ (.cons _ (.cons_cons _ nsl))) rfl (by kernel_rfl) (ld rfl ‹_› (ln (qq (kt_q 3 (.cons _ (.cons _ (.cons_cons _ nsl))) rfl (by kernel_rfl) (mv rfl (ln (qq (kt_q 4 (.cons _ (.cons _ (.cons_cons _ nsl))) rfl (by kernel_rfl) (kl_inI rfl rfl ‹_› (by omega) (fun p103 a104 => ?_))))))))))))
   refine ln (qq (kt_q 5 (.cons _ (.cons _ (.cons_cons _ nsl))) rfl (by kernel_rfl) (ld rfl ‹_› (ln (qq (kt_q 6 (.cons _ (.cons _ (.cons_cons _ nsl))) rfl (by kernel_rfl) (mv rfl (ln (qq (kt_q 7 (.cons _ (.cons _ (.cons_cons _ nsl))) rfl (by kernel_rfl) (kl_nilchkA rfl ‹_› ?_)))))))))))
   refine ln (qq (kt_q 8 (.cons _ (.cons _ (.cons_cons _ nsl))) rfl (by kernel_rfl) (fd9 rfl ‹_› (fun p105 a106 => ?_))))
   refine ln (qq (kt_q 9 (.cons _ (.cons _ (.cons_cons _ nsl))) rfl (by kernel_rfl) (ld rfl ‹_› (ln (qq (kt_q 10 (.cons _ (.cons _ (.cons_cons _ nsl))) rfl (by kernel_rfl) (mv rfl (ln (qq (kt_q 11 (.cons _ (.cons _ (.cons_cons _ nsl))) rfl (by kernel_rfl) (kl_ixLn rfl rfl ‹_› (by omega) (fun p107 q108 => ?_))))))))))))
   refine ln (qq (kt_q 12 (.cons _ (.cons _ (.cons_cons _ nsl))) rfl (by kernel_rfl) (kl_ldLIe rfl ‹_› ‹_› (by omega) ?_)))
   refine ln (qq (kt_q 13 (.cons _ (.cons _ (.cons_cons _ nsl))) rfl (by kernel_rfl) (kl_ixL rfl rfl ‹_› (by omega) (by omega) (fun p109 q110 => ?_))))
   refine ln (qq (ta 14 rfl (kl_stL ((suppV c ([] ++ extP (wordL c.vars ds) 0 [])).getD k 0) rfl rfl ‹_› o94 (by omega) rfl rfl rfl (fun H111 o112 f113 => ?_))))
   have f114 := f113 _ f95
   refine cg [H111, H80, H81] rfl ?_
   refine ln (qx rfl (kt_end (by kernel_rfl) ?_))
   refine qc (cr (mv rfl (ic9 rfl rfl (by omega) ?_)))
   refine sg rfl (ln (tk [H111, H80, H81] ?_))
   refine rL ((k + 1), (out.set ((c.vars.getD k 0).toNat) ((suppV c ([] ++ extP (wordL c.vars ds) 0 [])).getD k 0)), H111) (by omega) (⟨by omega, (by rw [hi92, filtTo_succ]), o112, f114⟩) (pc 7 rfl pn) (pk [2, 4, 5, 6] rfl) rfl slr9
  ·refine ex9 (qc (cS (cr (mv rfl (sg rfl (ln (qc (rt ?_))))))))
   have e9 : out = filtL c ds := by (rw [hi92, show k = c.vars.length from by omega, List.nil_append, extP_all]; rfl)
   exact kq_ret rfl rfl H93 f95 (e9 ▸ OwnL.ints o94)
theorem isCons_ok {Hmd : Hp} {vmd : Value} {Hmc : Hp} {vmc : Value} {Hds : Hp} {vds : Value} (m : Mod) (ds : List Int) (hM : MOk m) (hd : DOk m.doms.length ds) (hmd : Ints Hmd vmd m.doms) (hmc : Cons Hmc vmc m.cons) (hds : Ints Hds vds ds) : SpecP Tryz.prog 157 [.agg #[vmd, vmc], vds] [Hmd, Hmc, Hds] (.bool (consB m.cons ds)) := by
 refine spec_of Tryz.func157 rfl rfl rfl (fun B => ?_)
 refine cS (cr (kl_box rfl rfl (fun p1 H2 f3 a4 => ?_)))
 refine sg rfl (ln (qc (cS (cS (cr (sg rfl (ln (qc (bl (kc_loop0 (A := Nat) (fun zz => (zz ≤ m.cons.length) ∧ ((m.cons.take zz).all (fun c => decide (filtL c ds = ds)) = true)) (fun zz => m.cons.length - zz) (fun zz => [(5, .int .i64 (zz : Int))]) (0) (pk [1, 2] rfl) (pc 5 rfl pn) ⟨Nat.zero_le _, rfl⟩ ?_))))))))))
 rintro k hJ7
 obtain ⟨hk5, hi6⟩ : (k ≤ m.cons.length) ∧ ((m.cons.take k).all (fun c => decide (filtL c ds = ds)) = true) := hJ7
 change KC _ _ (_) _ _ ([(5, .int .i64 (k : Int))] ++ _)
 refine cS (cS (cr (mv rfl (fd9 rfl ‹_› (fun p8 a9 => ?_)))))
 refine ld rfl ‹_› (le9 rfl ‹_› (fun l10 => ?_))
 refine ls9 rfl rfl ?_
 refine ln (qc (ci9 rfl (fun c11 => ?_) (fun c11 => ?_)))
 ·have hC : ConOk (m.cons.getD k nilCon) ds.length := (by rw [hd.l]; exact ⟨hM.c (by omega)⟩)
  refine sk (qc (cS (bl (cS (cr (fd9 rfl ‹_› (fun p12 a13 => ?_)))))))
  refine ld rfl ‹_› (mv rfl (kl_inC rfl rfl ‹_› (by omega) (fun p14 u16 u17 u18 h19 h20 h21 a15 => ?_)))
  refine kl_ldS rfl ‹_› rfl ?_
  refine mv rfl (kl_call rfl rfl (supported_ok (m.cons.getD k nilCon) ds hC hd.d ‹_› ‹_› ‹_› ‹_›) (fun v22 H23 f24 h25 => ?_))
  refine mv rfl (cP rfl rfl (sequal_ok (filtL (m.cons.getD k nilCon) ds) ds ‹_› ‹_›) ?_)
  refine nt9 rfl (ln (qc (cd9 rfl (fun c26 => ?_) (fun c26 => ?_))))
  ·have c26r := c26
   try simp only [smpE] at c26
   refine cS (cr (sg rfl (ln (qc (rt (kq_retP rfl rfl (congrArg Value.bool ?_)))))))
   exact cons_no (k := k) (by omega) ‹_›
  ·have c26r := c26
   try simp only [smpE] at c26
   refine sk (qc (cr (mv rfl (ic9 rfl rfl (by omega) ?_))))
   refine sg rfl (ln (kq_round0 ((k + 1)) (by omega) (⟨by omega, cons_step (by omega) hi6 ‹_›⟩) (pc 5 rfl pn) (pk [1, 2] rfl) slr9))
 ·refine ex9 (qc (cS (cr (sg rfl (ln (qc (rt (kq_retP rfl rfl (congrArg Value.bool ?_)))))))))
  exact (by rw [List.take_of_length_le (by omega)] at hi6; exact hi6.symm)
theorem fixS_ok {Hmd : Hp} {vmd : Value} {Hmc : Hp} {vmc : Value} {Hds : Hp} {vds : Value} (m : Mod) (ds : List Int) (hM : MOk m) (hd : DOk m.doms.length ds) (hmd : Ints Hmd vmd m.doms) (hmc : Cons Hmc vmc m.cons) (hds : Ints Hds vds ds) : Spec Tryz.prog 117 [.agg #[vmd, vmc], vds] [Hmd, Hmc, Hds] (fun Hq vq => Ints Hq vq (prop m ds)) := by
 refine spec_of Tryz.func117 rfl rfl rfl (fun B => ?_)
 refine cS (cr (kl_box rfl rfl (fun p1 H2 f3 a4 => ?_)))
 refine sg rfl (ln (qc (cS (cr (mv rfl (kl_call rfl rfl (copyInts_ok ds (by have := hd.l; have := hM.n; omega) ‹_›) (fun v5 H6 f7 o8 => ?_)))))))
 have h9 := OwnL.ints o8
 refine sg rfl (ln (qc (cS (bl (kc_loopK (A := List Int × Value × Hp) (fun zz => (DOk m.doms.length zz.1 ∧ prop m zz.1 = prop m ds) ∧ Fr B zz.2.2 ∧ Ints zz.2.2 zz.2.1 zz.1) (fun zz => sumN zz.1) (fun zz => zz.2.2) (fun zz => []) (fun zz => [(5, zz.2.1)]) (ds, v5, H6) (pk [2, 4] rfl) (pc 5 rfl pn) rfl ⟨⟨hd, rfl⟩, f7, ‹_›⟩ ?_)))))
 rintro ⟨xs, v12, K13⟩ hJ16
 obtain ⟨hi11, f14, h15⟩ : (DOk m.doms.length xs ∧ prop m xs = prop m ds) ∧ Fr B K13 ∧ Ints K13 v12 xs := hJ16
 change KC _ _ (K13 :: _) [] _ ([(5, v12)] ++ _)
 have hD := hi11.1
 refine cS (cS (cr (kl_ldS rfl ‹_› rfl ?_)))
 refine mv rfl (cP rfl rfl (isCons_ok m xs hM hD ‹_› ‹_› ‹_›) ?_)
 refine nt9 rfl (mv rfl (jn 4 17 (.bool (!(consB m.cons xs) && !(xs.contains 0))) (pk [2, 4, 5, 9, 10, 11, 12, 13] rfl) (fun J18 => ?_) ?_))
 ·rcases Bool.eq_false_or_eq_true (!(consB m.cons xs)) with g17 | g17
  ·have g17p := g17
   try simp only [smpD] at g17p
   refine gT rfl rfl g17 (mv rfl (gT rfl rfl g17 (cP rfl rfl (hasEmpty_ok xs ‹_›) ?_)))
   refine gT rfl rfl g17 (nt9 rfl (aT rfl rfl g17 ?_))
   exact J18 _ (pk [17, 2, 4, 5, 9, 10, 11, 12, 13] rfl)
  ·refine gF rfl rfl g17 (gF rfl rfl g17 (gF rfl rfl g17 (aF (!(xs.contains 0)) rfl rfl g17 ?_)))
   exact J18 _ (pk [17, 2, 4, 5, 9, 10, 11, 12, 13] rfl)
 refine ln (qc (cd9 rfl (fun c19 => ?_) (fun c19 => ?_)))
 ·have c19r := c19
  try simp only [smpE] at c19
  have hgo := fix_go hM hD c19r
  refine sk (qc (bl (cS (cr (sg rfl (ln (qc (bl (kc_loopK (A := Nat × List Int × Value × Hp) (fun zz => (zz.1 ≤ m.cons.length) ∧ (zz.2.1 = filtC (m.cons.take zz.1) xs) ∧ Fr B zz.2.2.2 ∧ Ints zz.2.2.2 zz.2.2.1 zz.2.1) (fun zz => m.cons.length - zz.1) (fun zz => zz.2.2.2) (fun zz => []) (fun zz => [(6, .int .i64 (zz.1 : Int)), (5, zz.2.2.1)]) (0, xs, v12, K13) (pk [2, 4, 9, 10, 11, 12, 13, 17] rfl) (pk [6, 5] rfl) rfl ⟨Nat.zero_le _, rfl, f14, ‹_›⟩ ?_)))))))))
  rintro ⟨k2, ys, v22, K23⟩ hJ26
  obtain ⟨hk20, hi21, f24, h25⟩ : (k2 ≤ m.cons.length) ∧ (ys = filtC (m.cons.take k2) xs) ∧ Fr B K23 ∧ Ints K23 v22 ys := hJ26
  change KC _ _ (K23 :: _) [] _ ([(6, .int .i64 (k2 : Int)), (5, v22)] ++ _)
  refine cS (cS (cr (mv rfl (fd9 rfl ‹_› (fun p27 a28 => ?_)))))
  refine ld rfl ‹_› (le9 rfl ‹_› (fun l29 => ?_))
  refine ls9 rfl rfl ?_
  refine ln (qc (ci9 rfl (fun c30 => ?_) (fun c30 => ?_)))
  ·have hE := filtC_at hM hD hi21
   have hC : ConOk (m.cons.getD k2 nilCon) ys.length := (by rw [hE.l]; exact ⟨hM.c (by omega)⟩)
   refine sk (qc (cS (bl (cr (fd9 rfl ‹_› (fun p31 a32 => ?_))))))
   refine ld rfl ‹_› (mv rfl (kl_inC rfl rfl ‹_› (by omega) (fun p33 u35 u36 u37 h38 h39 h40 a34 => ?_)))
   refine kl_ldS rfl ‹_› rfl ?_
   refine mv rfl (kl_call rfl rfl (supported_ok (m.cons.getD k2 nilCon) ys hC hE.d ‹_› ‹_› ‹_› ‹_›) (fun v41 H42 f43 h44 => ?_))
   refine sg rfl (ln (qc (cr (mv rfl (ic9 rfl rfl (by omega) ?_)))))
   refine sg rfl (ln (kq_roundK ((k2 + 1), (filtL (m.cons.getD k2 nilCon) ys), v41, H42) (by omega) (⟨by omega, (by rw [filtC_step (by omega), ← hi21]), f43, ‹_›⟩) (pk [6, 5] rfl) (pk [2, 4, 9, 10, 11, 12, 13, 17] rfl) rfl slr9))
  ·refine ex9 (kq_roundK (ys, v22, K23) (by (dsimp only; rw [hi21, List.take_of_length_le (by omega)]; exact filtA_lt hM hD hgo.1)) (⟨(by rw [hi21, List.take_of_length_le (by omega)]; exact ⟨(filtA_ok hM hD).1, (prop_step hM hD hgo.2 hgo.1).trans hi11.2⟩), f24, ‹_›⟩) (pc 5 rfl pn) (pk [2, 4] rfl) rfl slr9)
 ·have c19r := c19
  try simp only [smpE] at c19
  have hend := fix_end hM hD c19r
  refine ex9 (qc (cS (cS (cr (mv rfl (cP rfl rfl (hasEmpty_ok xs ‹_›) ?_))))))
  refine ln (qc (cd9 rfl (fun c45 => ?_) (fun c45 => ?_)))
  ·have c45r := c45
   try simp only [smpE] at c45
   refine cS (cr (mv rfl (le9 rfl ‹_› (fun l46 => ?_))))
   refine kl_mkL (R := IntV) (0 : Int) rfl rfl (by (have := hD.l; have := hM.n; omega)) (by decide) (by exact rfl) (fun v47 H48 f49 o50 => ?_)
   refine sg rfl (ln (qc (rt ?_)))
   have e9 : (List.replicate xs.length (0 : Int)) = prop m ds := by (rw [← hi11.2]; exact (prop_0 ‹_›).symm)
   exact kq_ret rfl rfl H48 f49 (e9 ▸ OwnL.ints o50)
  ·have c45r := c45
   try simp only [smpE] at c45
   refine sk (qc (cS (cr (mv rfl (sg rfl (ln (qc (rt ?_))))))))
   have e9 : xs = prop m ds := by (rw [← hi11.2]; exact (hend ‹_›).symm)
   exact kq_ret rfl rfl K13 f14 (e9 ▸ (by assumption : Ints _ _ xs))
end
section
/-! The law. -/
end
section
theorem copyConE_ok {Hcv : Hp} {vcv : Value} {Hca : Hp} {vca : Value} {Hcr : Hp} {vcr : Value} (c : Con) (hc : ConSm 100 c) (hcv : Ints Hcv vcv c.vars) (hca : Ints Hca vca c.args) (hcr : Rows Hcr vcr c.rows) : Spec Tryz.prog 116 [.agg #[.int .i64 c.kind, vcv, vca, .int .i64 c.bound, vcr]] [Hcv, Hca, Hcr] (fun Hq vq => ∃ cq : Con, ConR Hq vq cq ∧ cq = c) := by
 have h1 := hc.v1
 have h2 := hc.v
 have h3 := hc.a
 have h4 := hc.r
 have h5 := hc.rr
 refine spec_of Tryz.func116 rfl rfl rfl (fun B => ?_)
 refine cS (cr (kl_box rfl rfl (fun p1 H2 f3 a4 => ?_)))
 refine kl_alloc (cs := [.int .i64 (0 : Int), .slice none 0 0, .slice none 0 0, .int .i64 (0 : Int), .slice none 0 0]) rfl (fun b5 hb6 => ?_)
 refine ln (qc (cS (kc_tree (fun i => ([10, 12] : List Nat).contains i) [] (by kernel_rfl) ?_)))
 refine tq 0 nsl rfl (fd9 rfl ‹_› (fun p7 a8 => ?_))
 refine ln (qq (tq 1 nsl rfl (ld rfl ‹_› (ln (qq (tq 2 nsl rfl (fd9 rfl ‹_› (fun p9 a10 => ?_))))))))
 refine ln (qq (tq 3 nsl rfl (ld rfl ‹_› (ln (qq (tq 5 nsl rfl (fd9 rfl ‹_› (fun p11 a12 => ?_))))))))
 refine ln (qq (tq 6 nsl rfl (ld rfl ‹_› (ln (qq (tq 8 nsl rfl (fd9 rfl ‹_› (fun p13 a14 => ?_))))))))
 refine ln (qq (tq 9 nsl rfl (ld rfl ‹_› (ln (qq (kt_b 4 11 rfl rfl (by kernel_rfl) ?_ ?_))))))
 ·refine kl_call rfl rfl (copyInts_ok c.vars (by first | omega | (have h6 := h5 _ (getD_mem (d := []) (by omega : k < c.rows.length)); omega)) ‹_›) (fun v15 H16 f17 o18 => ?_)
  have h19 := OwnL.ints o18
  refine ln (qa nsl (kt_b 7 11 rfl rfl (by kernel_rfl) ?_ ?_))
  ·refine kl_call rfl rfl (copyInts_ok c.args (by first | omega | (have h6 := h5 _ (getD_mem (d := []) (by omega : k < c.rows.length)); omega)) ‹_›) (fun v20 H21 f22 o23 => ?_)
   have h24 := OwnL.ints o23
   refine ln (qa nsl (kt_b 10 11 rfl rfl (by kernel_rfl) ?_ ?_))
   ·refine kl_bd rfl (cp rfl (cp (Sl.cells ‹_›) (cp (Sl.cells ‹_›) (cp rfl cp_nil)))) rfl ?_
    refine ln (qx rfl (ta 11 rfl (kl_alloc (cs := [.int .i64 (0 : Int), .slice none 0 0, .slice none 0 0, .int .i64 (0 : Int), .slice none 0 0]) rfl (fun b25 hb26 => ?_))))
    refine ln (qa nsl (ta 12 rfl (kl_stW (us := [.int .i64 c.kind, v15, v20, .int .i64 c.bound, .slice none 0 0]) rfl rfl rfl rfl (oc rfl (oc (Sl.oneCell ‹_›) (oc (Sl.oneCell ‹_›) (oc rfl (oc rfl oc_nil))))) rfl ?_)))
    refine cg [bxS b25 [.int .i64 c.kind, v15, v20, .int .i64 c.bound, .slice none 0 0] 88, bxS b5 [.int .i64 (0 : Int), .slice none 0 0, .slice none 0 0, .int .i64 (0 : Int), .slice none 0 0] 88] rfl ?_
    refine ln (qx rfl (kt_end (by kernel_rfl) ?_))
    refine qc (cS (cS (cr (sg rfl (ln (qc (bl (kc_no ?_))))))))
    refine kc_loopK (A := Nat × List (List Int) × Value × Hp × Hp) (fun zz => (zz.1 ≤ c.rows.length) ∧ (zz.2.1 = c.rows.take zz.1) ∧ Fr B zz.2.2.2.2 ∧ OwnL 23 1 zz.2.2.2.1 zz.2.2.2.2 RowV zz.2.2.1 zz.2.1 ∧ Fr B zz.2.2.2.1) (fun zz => c.rows.length - zz.1) (fun zz => zz.2.2.2.2) (fun zz => [zz.2.2.2.1, bxS b25 [.int .i64 c.kind, v15, v20, .int .i64 c.bound, zz.2.2.1] 88, bxS b5 [.int .i64 (0 : Int), .slice none 0 0, .slice none 0 0, .int .i64 (0 : Int), .slice none 0 0] 88]) (fun zz => [(4, .int .i64 (zz.1 : Int))]) (0, [], .slice none 0 0, noHp, noHp) (pk [1, 2, 3] rfl) (pc 4 rfl pn) rfl ⟨Nat.zero_le _, rfl, (fr_no _), OwnL.nil, (fr_no _)⟩ ?_
    rintro ⟨k, out, v32, H29, K33⟩ hJ36
    obtain ⟨hk27, hi28, f34, o30, f31⟩ : (k ≤ c.rows.length) ∧ (out = c.rows.take k) ∧ Fr B K33 ∧ OwnL 23 1 H29 K33 RowV v32 out ∧ Fr B H29 := hJ36
    change KC _ _ (K33 :: _) [H29, bxS b25 [.int .i64 c.kind, v15, v20, .int .i64 c.bound, v32] 88, bxS b5 [.int .i64 (0 : Int), .slice none 0 0, .slice none 0 0, .int .i64 (0 : Int), .slice none 0 0] 88] _ ([(4, .int .i64 (k : Int))] ++ _)
    refine cS (cS (cr (mv rfl (fd9 rfl ‹_› (fun p37 a38 => ?_)))))
    refine ld rfl ‹_› (le9 rfl ‹_› (fun l39 => ?_))
    refine ls9 rfl rfl ?_
    refine ln (qc (ci9 rfl (fun c40 => ?_) (fun c40 => ?_)))
    ·refine sk (qc (cS (bl (kc_tree (fun i => ([9, 11] : List Nat).contains i) [bxS b25 [.int .i64 c.kind, v15, v20, .int .i64 c.bound, v32] 88] (by kernel_rfl) ?_))))
     refine kt_q 0 (.cons _ (.cons_cons _ nsl)) rfl (by kernel_rfl) (fV rfl (ln (qq (kt_q 1 (.cons _ (.cons_cons _ nsl)) rfl (by kernel_rfl) (ld rfl (at_box (T := 88) (cs := [.int .i64 c.kind, v15, v20, .int .i64 c.bound, v32]) (off := 4) (fz := (0, 0))) (ln (qq (kt_q 2 (.cons _ (.cons_cons _ nsl)) rfl (by kernel_rfl) (fd9 rfl ‹_› (fun p41 a42 => ?_))))))))))
     refine ln (qq (kt_q 3 (.cons _ (.cons_cons _ nsl)) rfl (by kernel_rfl) (ld rfl ‹_› (ln (qq (kt_q 4 (.cons _ (.cons_cons _ nsl)) rfl (by kernel_rfl) (mv rfl (ln (qq (kt_q 5 (.cons _ (.cons_cons _ nsl)) rfl (by kernel_rfl) (kl_inS rfl rfl ‹_› (by omega) (fun p43 u45 h46 a44 => ?_))))))))))))
     refine ln (qq (kt_q 6 (.cons _ (.cons_cons _ nsl)) rfl (by kernel_rfl) (ld rfl ‹_› (ln (qq (ta 7 rfl (kl_call rfl rfl (copyInts_ok (c.rows.getD k []) (by first | omega | (have h6 := h5 _ (getD_mem (d := []) (by omega : k < c.rows.length)); omega)) ‹_›) (fun v47 H48 f49 o50 => ?_))))))))
     have h51 := OwnL.ints o50
     refine ln (qa (.cons _ (.cons_cons _ nsl)) (ta 8 rfl (bs9 rfl rfl rfl (by decide) (ca (by first | exact Sl.cells ‹_› | exact OwnL.cells ‹_›) ca_nil) (fun v52 H53 f54 r55 s56 => ?_))))
     refine ln (qa (.cons _ (.cons_cons _ nsl)) (ta 9 rfl (cm9 K33 H48 (fun c57 => ?_))))
     have o58 := OwnL.mono (K' := orHp K33 H48) o30 orL
     refine aL9 (c.rows.getD k []) rfl rfl o58 ‹_› ⟨_, rfl, Sl.mono ‹_› (orC c57) (fun _ _ h => h)⟩ (oc (Sl.oneCell ‹_›) oc_nil) (by (have h9 := congrArg List.length hi28; simp at h9; omega)) (by decide) (fun v59 H60 o61 f62 => ?_)
     have f63 := f62 B f31 (Nat.le_refl _)
     refine ln (qx rfl (kt_q 10 (.cons _ (.cons_cons _ nsl)) rfl (by kernel_rfl) (fV rfl (ln (qq (ta 11 rfl (sB rfl rfl rfl (OwnL.oneCell ‹_›) (OwnL.cells ‹_›) ?_)))))))
     refine cg [H60, bxS b25 [.int .i64 c.kind, v15, v20, .int .i64 c.bound, v59] 88, bxS b5 [.int .i64 (0 : Int), .slice none 0 0, .slice none 0 0, .int .i64 (0 : Int), .slice none 0 0] 88] rfl ?_
     refine ln (qx rfl (kt_end (by kernel_rfl) ?_))
     refine qc (cr (mv rfl (ic9 rfl rfl (by omega) ?_)))
     refine sg rfl (ln (tk [H60, bxS b25 [.int .i64 c.kind, v15, v20, .int .i64 c.bound, v59] 88, bxS b5 [.int .i64 (0 : Int), .slice none 0 0, .slice none 0 0, .int .i64 (0 : Int), .slice none 0 0] 88] ?_))
     refine kq_roundK ((k + 1), (out ++ [(c.rows.getD k [])]), v59, H60, (orHp K33 H48)) (by omega) (⟨by omega, (by rw [hi28, take_succ_getD [] (by omega)]), (fr_or f34 f49), o61, f63⟩) (pc 4 rfl pn) (pk [1, 2, 3] rfl) rfl slr9
    ·refine ex9 (qc (cS (cr (kl_ldW rfl rfl (kl_stW (us := [.int .i64 c.kind, v15, v20, .int .i64 c.bound, v32]) rfl rfl rfl rfl (oc rfl (oc (Sl.oneCell ‹_›) (oc (Sl.oneCell ‹_›) (oc rfl (oc (OwnL.oneCell ‹_›) oc_nil))))) rfl ?_)))))
     refine cg [H29, bxS b25 [.int .i64 c.kind, v15, v20, .int .i64 c.bound, v32] 88, bxS b5 [.int .i64 c.kind, v15, v20, .int .i64 c.bound, v32] 88] rfl ?_
     refine ln (qc (rt (kq_frz H29 ?_)))
     refine kq_cmp H29 K33 (fun c64 => ?_)
     refine kq_cmp H21 (orHp H29 K33) (fun c65 => ?_)
     refine kq_cmp H16 (orHp H21 (orHp H29 K33)) (fun c66 => ?_)
     exact kq_retC rfl rfl rfl (orHp H16 (orHp H21 (orHp H29 K33))) (fr_or f17 (fr_or f22 (fr_or f31 f34))) ⟨⟨c.kind, c.vars, c.args, c.bound, out⟩, ⟨_, rfl, _, _, _, rfl, (Sl.mono ‹_› (fun b o h => orL b o h) (fun _ _ h => h)), (Sl.mono ‹_› (fun b o h => orC c66 b o (orL b o h)) (fun _ _ h => h)), (Rows.mono' (OwnL.rowsK o30 c64) (fun b o h => orC c66 b o (orC c65 b o h)))⟩, by (have h9 := hi28; rw [List.take_of_length_le (by omega)] at h9; rw [h9])⟩
   ·refine kl_alloc (cs := [.int .i64 (0 : Int), .slice none 0 0, .slice none 0 0, .int .i64 (0 : Int), .slice none 0 0]) rfl (fun b67 hb68 => ?_)
    refine ln (qa nsl (ta 10 rfl (kl_bd rfl (cp rfl (cp (Sl.cells ‹_›) (cp (Sl.cells ‹_›) (cp rfl cp_nil)))) rfl ?_)))
    refine ln (qx rfl (ta 12 rfl (kl_stW (us := [.int .i64 c.kind, v15, v20, .int .i64 c.bound, .slice none 0 0]) rfl rfl rfl rfl (oc rfl (oc (Sl.oneCell ‹_›) (oc (Sl.oneCell ‹_›) (oc rfl (oc rfl oc_nil))))) rfl ?_)))
    refine cg [bxS b67 [.int .i64 c.kind, v15, v20, .int .i64 c.bound, .slice none 0 0] 88, bxS b5 [.int .i64 (0 : Int), .slice none 0 0, .slice none 0 0, .int .i64 (0 : Int), .slice none 0 0] 88] rfl ?_
    refine ln (qx rfl (kt_end (by kernel_rfl) ?_))
    refine qc (cS (cS (cr (sg rfl (ln (qc (bl (kc_no ?_))))))))
    refine kc_loopK (A := Nat × List (List Int) × Value × Hp × Hp) (fun zz => (zz.1 ≤ c.rows.length) ∧ (zz.2.1 = c.rows.take zz.1) ∧ Fr B zz.2.2.2.2 ∧ OwnL 23 1 zz.2.2.2.1 zz.2.2.2.2 RowV zz.2.2.1 zz.2.1 ∧ Fr B zz.2.2.2.1) (fun zz => c.rows.length - zz.1) (fun zz => zz.2.2.2.2) (fun zz => [zz.2.2.2.1, bxS b67 [.int .i64 c.kind, v15, v20, .int .i64 c.bound, zz.2.2.1] 88, bxS b5 [.int .i64 (0 : Int), .slice none 0 0, .slice none 0 0, .int .i64 (0 : Int), .slice none 0 0] 88]) (fun zz => [(4, .int .i64 (zz.1 : Int))]) (0, [], .slice none 0 0, noHp, noHp) (pk [1, 2, 3] rfl) (pc 4 rfl pn) rfl ⟨Nat.zero_le _, rfl, (fr_no _), OwnL.nil, (fr_no _)⟩ ?_
    rintro ⟨k, out, v74, H71, K75⟩ hJ78
    obtain ⟨hk69, hi70, f76, o72, f73⟩ : (k ≤ c.rows.length) ∧ (out = c.rows.take k) ∧ Fr B K75 ∧ OwnL 23 1 H71 K75 RowV v74 out ∧ Fr B H71 := hJ78
    change KC _ _ (K75 :: _) [H71, bxS b67 [.int .i64 c.kind, v15, v20, .int .i64 c.bound, v74] 88, bxS b5 [.int .i64 (0 : Int), .slice none 0 0, .slice none 0 0, .int .i64 (0 : Int), .slice none 0 0] 88] _ ([(4, .int .i64 (k : Int))] ++ _)
    refine cS (cS (cr (mv rfl (fd9 rfl ‹_› (fun p79 a80 => ?_)))))
    refine ld rfl ‹_› (le9 rfl ‹_› (fun l81 => ?_))
    refine ls9 rfl rfl ?_
    refine ln (qc (ci9 rfl (fun c82 => ?_) (fun c82 => ?_)))
    ·refine sk (qc (cS (bl (kc_tree (fun i => ([9, 11] : List Nat).contains i) [bxS b67 [.int .i64 c.kind, v15, v20, .int .i64 c.bound, v74] 88] (by kernel_rfl) ?_))))
     refine kt_q 0 (.cons _ (.cons_cons _ nsl)) rfl (by kernel_rfl) (fV rfl (ln (qq (kt_q 1 (.cons _ (.cons_cons _ nsl)) rfl (by kernel_rfl) (ld rfl (at_box (T := 88) (cs := [.int .i64 c.kind, v15, v20, .int .i64 c.bound, v74]) (off := 4) (fz := (0, 0))) (ln (qq (kt_q 2 (.cons _ (.cons_cons _ nsl)) rfl (by kernel_rfl) (fd9 rfl ‹_› (fun p83 a84 => ?_))))))))))
     refine ln (qq (kt_q 3 (.cons _ (.cons_cons _ nsl)) rfl (by kernel_rfl) (ld rfl ‹_› (ln (qq (kt_q 4 (.cons _ (.cons_cons _ nsl)) rfl (by kernel_rfl) (mv rfl (ln (qq (kt_q 5 (.cons _ (.cons_cons _ nsl)) rfl (by kernel_rfl) (kl_inS rfl rfl ‹_› (by omega) (fun p85 u87 h88 a86 => ?_))))))))))))
     refine ln (qq (kt_q 6 (.cons _ (.cons_cons _ nsl)) rfl (by kernel_rfl) (ld rfl ‹_› (ln (qq (ta 7 rfl (kl_call rfl rfl (copyInts_ok (c.rows.getD k []) (by first | omega | (have h6 := h5 _ (getD_mem (d := []) (by omega : k < c.rows.length)); omega)) ‹_›) (fun v89 H90 f91 o92 => ?_))))))))
     have h93 := OwnL.ints o92
     refine ln (qa (.cons _ (.cons_cons _ nsl)) (ta 8 rfl (bs9 rfl rfl rfl (by decide) (ca (by first | exact Sl.cells ‹_› | exact OwnL.cells ‹_›) ca_nil) (fun v94 H95 f96 r97 s98 => ?_))))
     refine ln (qa (.cons _ (.cons_cons _ nsl)) (ta 9 rfl (cm9 K75 H90 (fun c99 => ?_))))
     have o100 := OwnL.mono (K' := orHp K75 H90) o72 orL
     refine aL9 (c.rows.getD k []) rfl rfl o100 ‹_› ⟨_, rfl, Sl.mono ‹_› (orC c99) (fun _ _ h => h)⟩ (oc (Sl.oneCell ‹_›) oc_nil) (by (have h9 := congrArg List.length hi70; simp at h9; omega)) (by decide) (fun v101 H102 o103 f104 => ?_)
     have f105 := f104 B f73 (Nat.le_refl _)
     refine ln (qx rfl (kt_q 10 (.cons _ (.cons_cons _ nsl)) rfl (by kernel_rfl) (fV rfl (ln (qq (ta 11 rfl (sB rfl rfl rfl (OwnL.oneCell ‹_›) (OwnL.cells ‹_›) ?_)))))))
     refine cg [H102, bxS b67 [.int .i64 c.kind, v15, v20, .int .i64 c.bound, v101] 88, bxS b5 [.int .i64 (0 : Int), .slice none 0 0, .slice none 0 0, .int .i64 (0 : Int), .slice none 0 0] 88] rfl ?_
     refine ln (qx rfl (kt_end (by kernel_rfl) ?_))
     refine qc (cr (mv rfl (ic9 rfl rfl (by omega) ?_)))
     refine sg rfl (ln (tk [H102, bxS b67 [.int .i64 c.kind, v15, v20, .int .i64 c.bound, v101] 88, bxS b5 [.int .i64 (0 : Int), .slice none 0 0, .slice none 0 0, .int .i64 (0 : Int), .slice none 0 0] 88] ?_))
     refine kq_roundK ((k + 1), (out ++ [(c.rows.getD k [])]), v101, H102, (orHp K75 H90)) (by omega) (⟨by omega, (by rw [hi70, take_succ_getD [] (by omega)]), (fr_or f76 f91), o103, f105⟩) (pc 4 rfl pn) (pk [1, 2, 3] rfl) rfl slr9
    ·refine ex9 (qc (cS (cr (kl_ldW rfl rfl (kl_stW (us := [.int .i64 c.kind, v15, v20, .int .i64 c.bound, v74]) rfl rfl rfl rfl (oc rfl (oc (Sl.oneCell ‹_›) (oc (Sl.oneCell ‹_›) (oc rfl (oc (OwnL.oneCell ‹_›) oc_nil))))) rfl ?_)))))
     refine cg [H71, bxS b67 [.int .i64 c.kind, v15, v20, .int .i64 c.bound, v74] 88, bxS b5 [.int .i64 c.kind, v15, v20, .int .i64 c.bound, v74] 88] rfl ?_
     refine ln (qc (rt (kq_frz H71 ?_)))
     refine kq_cmp H71 K75 (fun c106 => ?_)
     refine kq_cmp H21 (orHp H71 K75) (fun c107 => ?_)
     refine kq_cmp H16 (orHp H21 (orHp H71 K75)) (fun c108 => ?_)
     exact kq_retC rfl rfl rfl (orHp H16 (orHp H21 (orHp H71 K75))) (fr_or f17 (fr_or f22 (fr_or f73 f76))) ⟨⟨c.kind, c.vars, c.args, c.bound, out⟩, ⟨_, rfl, _, _, _, rfl, (Sl.mono ‹_› (fun b o h => orL b o h) (fun _ _ h => h)), (Sl.mono ‹_› (fun b o h => orC c108 b o (orL b o h)) (fun _ _ h => h)), (Rows.mono' (OwnL.rowsK o72 c106) (fun b o h => orC c108 b o (orC c107 b o h)))⟩, by (have h9 := hi70; rw [List.take_of_length_le (by omega)] at h9; rw [h9])⟩
  ·refine kl_alloc (cs := [.int .i64 (0 : Int), .slice none 0 0, .slice none 0 0, .int .i64 (0 : Int), .slice none 0 0]) rfl (fun b109 hb110 => ?_)
   refine ln (qa nsl (ta 7 rfl (kl_call rfl rfl (copyInts_ok c.args (by first | omega | (have h6 := h5 _ (getD_mem (d := []) (by omega : k < c.rows.length)); omega)) ‹_›) (fun v111 H112 f113 o114 => ?_))))
   have h115 := OwnL.ints o114
   refine ln (qa nsl (ta 10 rfl (kl_bd rfl (cp rfl (cp (Sl.cells ‹_›) (cp (Sl.cells ‹_›) (cp rfl cp_nil)))) rfl ?_)))
   refine ln (qx rfl (ta 12 rfl (kl_stW (us := [.int .i64 c.kind, v15, v111, .int .i64 c.bound, .slice none 0 0]) rfl rfl rfl rfl (oc rfl (oc (Sl.oneCell ‹_›) (oc (Sl.oneCell ‹_›) (oc rfl (oc rfl oc_nil))))) rfl ?_)))
   refine cg [bxS b109 [.int .i64 c.kind, v15, v111, .int .i64 c.bound, .slice none 0 0] 88, bxS b5 [.int .i64 (0 : Int), .slice none 0 0, .slice none 0 0, .int .i64 (0 : Int), .slice none 0 0] 88] rfl ?_
   refine ln (qx rfl (kt_end (by kernel_rfl) ?_))
   refine qc (cS (cS (cr (sg rfl (ln (qc (bl (kc_no ?_))))))))
   refine kc_loopK (A := Nat × List (List Int) × Value × Hp × Hp) (fun zz => (zz.1 ≤ c.rows.length) ∧ (zz.2.1 = c.rows.take zz.1) ∧ Fr B zz.2.2.2.2 ∧ OwnL 23 1 zz.2.2.2.1 zz.2.2.2.2 RowV zz.2.2.1 zz.2.1 ∧ Fr B zz.2.2.2.1) (fun zz => c.rows.length - zz.1) (fun zz => zz.2.2.2.2) (fun zz => [zz.2.2.2.1, bxS b109 [.int .i64 c.kind, v15, v111, .int .i64 c.bound, zz.2.2.1] 88, bxS b5 [.int .i64 (0 : Int), .slice none 0 0, .slice none 0 0, .int .i64 (0 : Int), .slice none 0 0] 88]) (fun zz => [(4, .int .i64 (zz.1 : Int))]) (0, [], .slice none 0 0, noHp, noHp) (pk [1, 2, 3] rfl) (pc 4 rfl pn) rfl ⟨Nat.zero_le _, rfl, (fr_no _), OwnL.nil, (fr_no _)⟩ ?_
   rintro ⟨k, out, v121, H118, K122⟩ hJ125
   obtain ⟨hk116, hi117, f123, o119, f120⟩ : (k ≤ c.rows.length) ∧ (out = c.rows.take k) ∧ Fr B K122 ∧ OwnL 23 1 H118 K122 RowV v121 out ∧ Fr B H118 := hJ125
   change KC _ _ (K122 :: _) [H118, bxS b109 [.int .i64 c.kind, v15, v111, .int .i64 c.bound, v121] 88, bxS b5 [.int .i64 (0 : Int), .slice none 0 0, .slice none 0 0, .int .i64 (0 : Int), .slice none 0 0] 88] _ ([(4, .int .i64 (k : Int))] ++ _)
   refine cS (cS (cr (mv rfl (fd9 rfl ‹_› (fun p126 a127 => ?_)))))
   refine ld rfl ‹_› (le9 rfl ‹_› (fun l128 => ?_))
   refine ls9 rfl rfl ?_
   refine ln (qc (ci9 rfl (fun c129 => ?_) (fun c129 => ?_)))
   ·refine sk (qc (cS (bl (kc_tree (fun i => ([9, 11] : List Nat).contains i) [bxS b109 [.int .i64 c.kind, v15, v111, .int .i64 c.bound, v121] 88] (by kernel_rfl) ?_))))
    refine kt_q 0 (.cons _ (.cons_cons _ nsl)) rfl (by kernel_rfl) (fV rfl (ln (qq (kt_q 1 (.cons _ (.cons_cons _ nsl)) rfl (by kernel_rfl) (ld rfl (at_box (T := 88) (cs := [.int .i64 c.kind, v15, v111, .int .i64 c.bound, v121]) (off := 4) (fz := (0, 0))) (ln (qq (kt_q 2 (.cons _ (.cons_cons _ nsl)) rfl (by kernel_rfl) (fd9 rfl ‹_› (fun p130 a131 => ?_))))))))))
    refine ln (qq (kt_q 3 (.cons _ (.cons_cons _ nsl)) rfl (by kernel_rfl) (ld rfl ‹_› (ln (qq (kt_q 4 (.cons _ (.cons_cons _ nsl)) rfl (by kernel_rfl) (mv rfl (ln (qq (kt_q 5 (.cons _ (.cons_cons _ nsl)) rfl (by kernel_rfl) (kl_inS rfl rfl ‹_› (by omega) (fun p132 u134 h135 a133 => ?_))))))))))))
    refine ln (qq (kt_q 6 (.cons _ (.cons_cons _ nsl)) rfl (by kernel_rfl) (ld rfl ‹_› (ln (qq (ta 7 rfl (kl_call rfl rfl (copyInts_ok (c.rows.getD k []) (by first | omega | (have h6 := h5 _ (getD_mem (d := []) (by omega : k < c.rows.length)); omega)) ‹_›) (fun v136 H137 f138 o139 => ?_))))))))
    have h140 := OwnL.ints o139
    refine ln (qa (.cons _ (.cons_cons _ nsl)) (ta 8 rfl (bs9 rfl rfl rfl (by decide) (ca (by first | exact Sl.cells ‹_› | exact OwnL.cells ‹_›) ca_nil) (fun v141 H142 f143 r144 s145 => ?_))))
    refine ln (qa (.cons _ (.cons_cons _ nsl)) (ta 9 rfl (cm9 K122 H137 (fun c146 => ?_))))
    have o147 := OwnL.mono (K' := orHp K122 H137) o119 orL
    refine aL9 (c.rows.getD k []) rfl rfl o147 ‹_› ⟨_, rfl, Sl.mono ‹_› (orC c146) (fun _ _ h => h)⟩ (oc (Sl.oneCell ‹_›) oc_nil) (by (have h9 := congrArg List.length hi117; simp at h9; omega)) (by decide) (fun v148 H149 o150 f151 => ?_)
    have f152 := f151 B f120 (Nat.le_refl _)
    refine ln (qx rfl (kt_q 10 (.cons _ (.cons_cons _ nsl)) rfl (by kernel_rfl) (fV rfl (ln (qq (ta 11 rfl (sB rfl rfl rfl (OwnL.oneCell ‹_›) (OwnL.cells ‹_›) ?_)))))))
    refine cg [H149, bxS b109 [.int .i64 c.kind, v15, v111, .int .i64 c.bound, v148] 88, bxS b5 [.int .i64 (0 : Int), .slice none 0 0, .slice none 0 0, .int .i64 (0 : Int), .slice none 0 0] 88] rfl ?_
    refine ln (qx rfl (kt_end (by kernel_rfl) ?_))
    refine qc (cr (mv rfl (ic9 rfl rfl (by omega) ?_)))
    refine sg rfl (ln (tk [H149, bxS b109 [.int .i64 c.kind, v15, v111, .int .i64 c.bound, v148] 88, bxS b5 [.int .i64 (0 : Int), .slice none 0 0, .slice none 0 0, .int .i64 (0 : Int), .slice none 0 0] 88] ?_))
    refine kq_roundK ((k + 1), (out ++ [(c.rows.getD k [])]), v148, H149, (orHp K122 H137)) (by omega) (⟨by omega, (by rw [hi117, take_succ_getD [] (by omega)]), (fr_or f123 f138), o150, f152⟩) (pc 4 rfl pn) (pk [1, 2, 3] rfl) rfl slr9
   ·refine ex9 (qc (cS (cr (kl_ldW rfl rfl (kl_stW (us := [.int .i64 c.kind, v15, v111, .int .i64 c.bound, v121]) rfl rfl rfl rfl (oc rfl (oc (Sl.oneCell ‹_›) (oc (Sl.oneCell ‹_›) (oc rfl (oc (OwnL.oneCell ‹_›) oc_nil))))) rfl ?_)))))
    refine cg [H118, bxS b109 [.int .i64 c.kind, v15, v111, .int .i64 c.bound, v121] 88, bxS b5 [.int .i64 c.kind, v15, v111, .int .i64 c.bound, v121] 88] rfl ?_
    refine ln (qc (rt (kq_frz H118 ?_)))
    refine kq_cmp H118 K122 (fun c153 => ?_)
    refine kq_cmp H112 (orHp H118 K122) (fun c154 => ?_)
    refine kq_cmp H16 (orHp H112 (orHp H118 K122)) (fun c155 => ?_)
    exact kq_retC rfl rfl rfl (orHp H16 (orHp H112 (orHp H118 K122))) (fr_or f17 (fr_or f113 (fr_or f120 f123))) ⟨⟨c.kind, c.vars, c.args, c.bound, out⟩, ⟨_, rfl, _, _, _, rfl, (Sl.mono ‹_› (fun b o h => orL b o h) (fun _ _ h => h)), (Sl.mono ‹_› (fun b o h => orC c155 b o (orL b o h)) (fun _ _ h => h)), (Rows.mono' (OwnL.rowsK o119 c153) (fun b o h => orC c155 b o (orC c154 b o h)))⟩, by (have h9 := hi117; rw [List.take_of_length_le (by omega)] at h9; rw [h9])⟩
 ·refine kl_alloc (cs := [.int .i64 (0 : Int), .slice none 0 0, .slice none 0 0, .int .i64 (0 : Int), .slice none 0 0]) rfl (fun b156 hb157 => ?_)
  refine ln (qa nsl (ta 4 rfl (kl_call rfl rfl (copyInts_ok c.vars (by first | omega | (have h6 := h5 _ (getD_mem (d := []) (by omega : k < c.rows.length)); omega)) ‹_›) (fun v158 H159 f160 o161 => ?_))))
  have h162 := OwnL.ints o161
  refine ln (qa nsl (ta 7 rfl (kl_call rfl rfl (copyInts_ok c.args (by first | omega | (have h6 := h5 _ (getD_mem (d := []) (by omega : k < c.rows.length)); omega)) ‹_›) (fun v163 H164 f165 o166 => ?_))))
  have h167 := OwnL.ints o166
  refine ln (qa nsl (ta 10 rfl (kl_bd rfl (cp rfl (cp (Sl.cells ‹_›) (cp (Sl.cells ‹_›) (cp rfl cp_nil)))) rfl ?_)))
  refine ln (qx rfl (ta 12 rfl (kl_stW (us := [.int .i64 c.kind, v158, v163, .int .i64 c.bound, .slice none 0 0]) rfl rfl rfl rfl (oc rfl (oc (Sl.oneCell ‹_›) (oc (Sl.oneCell ‹_›) (oc rfl (oc rfl oc_nil))))) rfl ?_)))
  refine cg [bxS b156 [.int .i64 c.kind, v158, v163, .int .i64 c.bound, .slice none 0 0] 88, bxS b5 [.int .i64 (0 : Int), .slice none 0 0, .slice none 0 0, .int .i64 (0 : Int), .slice none 0 0] 88] rfl ?_
  refine ln (qx rfl (kt_end (by kernel_rfl) ?_))
  refine qc (cS (cS (cr (sg rfl (ln (qc (bl (kc_no ?_))))))))
  refine kc_loopK (A := Nat × List (List Int) × Value × Hp × Hp) (fun zz => (zz.1 ≤ c.rows.length) ∧ (zz.2.1 = c.rows.take zz.1) ∧ Fr B zz.2.2.2.2 ∧ OwnL 23 1 zz.2.2.2.1 zz.2.2.2.2 RowV zz.2.2.1 zz.2.1 ∧ Fr B zz.2.2.2.1) (fun zz => c.rows.length - zz.1) (fun zz => zz.2.2.2.2) (fun zz => [zz.2.2.2.1, bxS b156 [.int .i64 c.kind, v158, v163, .int .i64 c.bound, zz.2.2.1] 88, bxS b5 [.int .i64 (0 : Int), .slice none 0 0, .slice none 0 0, .int .i64 (0 : Int), .slice none 0 0] 88]) (fun zz => [(4, .int .i64 (zz.1 : Int))]) (0, [], .slice none 0 0, noHp, noHp) (pk [1, 2, 3] rfl) (pc 4 rfl pn) rfl ⟨Nat.zero_le _, rfl, (fr_no _), OwnL.nil, (fr_no _)⟩ ?_
  rintro ⟨k, out, v173, H170, K174⟩ hJ177
  obtain ⟨hk168, hi169, f175, o171, f172⟩ : (k ≤ c.rows.length) ∧ (out = c.rows.take k) ∧ Fr B K174 ∧ OwnL 23 1 H170 K174 RowV v173 out ∧ Fr B H170 := hJ177
  change KC _ _ (K174 :: _) [H170, bxS b156 [.int .i64 c.kind, v158, v163, .int .i64 c.bound, v173] 88, bxS b5 [.int .i64 (0 : Int), .slice none 0 0, .slice none 0 0, .int .i64 (0 : Int), .slice none 0 0] 88] _ ([(4, .int .i64 (k : Int))] ++ _)
  refine cS (cS (cr (mv rfl (fd9 rfl ‹_› (fun p178 a179 => ?_)))))
  refine ld rfl ‹_› (le9 rfl ‹_› (fun l180 => ?_))
  refine ls9 rfl rfl ?_
  refine ln (qc (ci9 rfl (fun c181 => ?_) (fun c181 => ?_)))
  ·refine sk (qc (cS (bl (kc_tree (fun i => ([9, 11] : List Nat).contains i) [bxS b156 [.int .i64 c.kind, v158, v163, .int .i64 c.bound, v173] 88] (by kernel_rfl) ?_))))
   refine kt_q 0 (.cons _ (.cons_cons _ nsl)) rfl (by kernel_rfl) (fV rfl (ln (qq (kt_q 1 (.cons _ (.cons_cons _ nsl)) rfl (by kernel_rfl) (ld rfl (at_box (T := 88) (cs := [.int .i64 c.kind, v158, v163, .int .i64 c.bound, v173]) (off := 4) (fz := (0, 0))) (ln (qq (kt_q 2 (.cons _ (.cons_cons _ nsl)) rfl (by kernel_rfl) (fd9 rfl ‹_› (fun p182 a183 => ?_))))))))))
   refine ln (qq (kt_q 3 (.cons _ (.cons_cons _ nsl)) rfl (by kernel_rfl) (ld rfl ‹_› (ln (qq (kt_q 4 (.cons _ (.cons_cons _ nsl)) rfl (by kernel_rfl) (mv rfl (ln (qq (kt_q 5 (.cons _ (.cons_cons _ nsl)) rfl (by kernel_rfl) (kl_inS rfl rfl ‹_› (by omega) (fun p184 u186 h187 a185 => ?_))))))))))))
   refine ln (qq (kt_q 6 (.cons _ (.cons_cons _ nsl)) rfl (by kernel_rfl) (ld rfl ‹_› (ln (qq (ta 7 rfl (kl_call rfl rfl (copyInts_ok (c.rows.getD k []) (by first | omega | (have h6 := h5 _ (getD_mem (d := []) (by omega : k < c.rows.length)); omega)) ‹_›) (fun v188 H189 f190 o191 => ?_))))))))
   have h192 := OwnL.ints o191
   refine ln (qa (.cons _ (.cons_cons _ nsl)) (ta 8 rfl (bs9 rfl rfl rfl (by decide) (ca (by first | exact Sl.cells ‹_› | exact OwnL.cells ‹_›) ca_nil) (fun v193 H194 f195 r196 s197 => ?_))))
   refine ln (qa (.cons _ (.cons_cons _ nsl)) (ta 9 rfl (cm9 K174 H189 (fun c198 => ?_))))
   have o199 := OwnL.mono (K' := orHp K174 H189) o171 orL
   refine aL9 (c.rows.getD k []) rfl rfl o199 ‹_› ⟨_, rfl, Sl.mono ‹_› (orC c198) (fun _ _ h => h)⟩ (oc (Sl.oneCell ‹_›) oc_nil) (by (have h9 := congrArg List.length hi169; simp at h9; omega)) (by decide) (fun v200 H201 o202 f203 => ?_)
   have f204 := f203 B f172 (Nat.le_refl _)
   refine ln (qx rfl (kt_q 10 (.cons _ (.cons_cons _ nsl)) rfl (by kernel_rfl) (fV rfl (ln (qq (ta 11 rfl (sB rfl rfl rfl (OwnL.oneCell ‹_›) (OwnL.cells ‹_›) ?_)))))))
   refine cg [H201, bxS b156 [.int .i64 c.kind, v158, v163, .int .i64 c.bound, v200] 88, bxS b5 [.int .i64 (0 : Int), .slice none 0 0, .slice none 0 0, .int .i64 (0 : Int), .slice none 0 0] 88] rfl ?_
   refine ln (qx rfl (kt_end (by kernel_rfl) ?_))
   refine qc (cr (mv rfl (ic9 rfl rfl (by omega) ?_)))
   refine sg rfl (ln (tk [H201, bxS b156 [.int .i64 c.kind, v158, v163, .int .i64 c.bound, v200] 88, bxS b5 [.int .i64 (0 : Int), .slice none 0 0, .slice none 0 0, .int .i64 (0 : Int), .slice none 0 0] 88] ?_))
   refine kq_roundK ((k + 1), (out ++ [(c.rows.getD k [])]), v200, H201, (orHp K174 H189)) (by omega) (⟨by omega, (by rw [hi169, take_succ_getD [] (by omega)]), (fr_or f175 f190), o202, f204⟩) (pc 4 rfl pn) (pk [1, 2, 3] rfl) rfl slr9
  ·refine ex9 (qc (cS (cr (kl_ldW rfl rfl (kl_stW (us := [.int .i64 c.kind, v158, v163, .int .i64 c.bound, v173]) rfl rfl rfl rfl (oc rfl (oc (Sl.oneCell ‹_›) (oc (Sl.oneCell ‹_›) (oc rfl (oc (OwnL.oneCell ‹_›) oc_nil))))) rfl ?_)))))
   refine cg [H170, bxS b156 [.int .i64 c.kind, v158, v163, .int .i64 c.bound, v173] 88, bxS b5 [.int .i64 c.kind, v158, v163, .int .i64 c.bound, v173] 88] rfl ?_
   refine ln (qc (rt (kq_frz H170 ?_)))
   refine kq_cmp H170 K174 (fun c205 => ?_)
   refine kq_cmp H164 (orHp H170 K174) (fun c206 => ?_)
   refine kq_cmp H159 (orHp H164 (orHp H170 K174)) (fun c207 => ?_)
   exact kq_retC rfl rfl rfl (orHp H159 (orHp H164 (orHp H170 K174))) (fr_or f160 (fr_or f165 (fr_or f172 f175))) ⟨⟨c.kind, c.vars, c.args, c.bound, out⟩, ⟨_, rfl, _, _, _, rfl, (Sl.mono ‹_› (fun b o h => orL b o h) (fun _ _ h => h)), (Sl.mono ‹_› (fun b o h => orC c207 b o (orL b o h)) (fun _ _ h => h)), (Rows.mono' (OwnL.rowsK o171 c205) (fun b o h => orC c207 b o (orC c206 b o h)))⟩, by (have h9 := hi169; rw [List.take_of_length_le (by omega)] at h9; rw [h9])⟩
theorem copyModE_ok {Hmd : Hp} {vmd : Value} {Hmc : Hp} {vmc : Value} (m : Mod) (hm : ModSm 100 m) (hmd : Ints Hmd vmd m.doms) (hmc : Cons Hmc vmc m.cons) : SpecT Tryz.prog 115 [.agg #[vmd, vmc]] [] [Hmd, Hmc] (fun vq L1 Ln Kq => L1 = [] ∧ ∃ (Hq Mq : Hp) (va vc : Value) (mq : Mod), vq = .agg #[va, vc] ∧ Ln = [Hq, Mq] ∧ OwnL 3 1 Hq noHp IntV va mq.doms ∧ OwnL 88 5 Mq Kq ConV vc mq.cons ∧ mq = m) := by
 have h1 := hm.d1
 have h2 := hm.d
 have h3 := hm.c
 have h4 := hm.cc
 refine specT_of Tryz.func115 rfl rfl rfl (fun B => ?_)
 refine cS (cr (kl_box rfl rfl (fun p1 H2 f3 a4 => ?_)))
 refine kl_alloc (cs := [.slice none 0 0, .slice none 0 0]) rfl (fun b5 hb6 => ?_)
 refine ln (qc (cS (cr (fd9 rfl ‹_› (fun p7 a8 => ?_)))))
 refine ld rfl ‹_› (kl_callL rfl rfl (copyInts_ok m.doms (by omega) ‹_›) (fun v9 H10 f11 o12 => ?_))
 refine kl_bd rfl (cp (OwnL.cells ‹_›) cp_nil) rfl ?_
 refine kl_alloc (cs := [.slice none 0 0, .slice none 0 0]) rfl (fun b13 hb14 => ?_)
 refine kl_stW (us := [v9, .slice none 0 0]) rfl rfl rfl rfl (oc (OwnL.oneCell ‹_›) (oc rfl oc_nil)) rfl ?_
 refine cg [bxS b13 [v9, .slice none 0 0] 26, H10, bxS b5 [.slice none 0 0, .slice none 0 0] 26] rfl ?_
 refine ln (qc (cS (cS (cr (sg rfl (ln (qc (bl (kc_no ?_)))))))))
 refine kc_loopK (A := Nat × List Con × Value × Hp × Hp) (fun zz => (zz.1 ≤ m.cons.length) ∧ (zz.2.1 = m.cons.take zz.1) ∧ Fr B zz.2.2.2.2 ∧ OwnL 88 5 zz.2.2.2.1 zz.2.2.2.2 ConV zz.2.2.1 zz.2.1 ∧ Fr B zz.2.2.2.1) (fun zz => m.cons.length - zz.1) (fun zz => zz.2.2.2.2) (fun zz => [zz.2.2.2.1, bxS b13 [v9, zz.2.2.1] 26, H10, bxS b5 [.slice none 0 0, .slice none 0 0] 26]) (fun zz => [(4, .int .i64 (zz.1 : Int))]) (0, [], .slice none 0 0, noHp, noHp) (pk [1, 2, 3] rfl) (pc 4 rfl pn) rfl ⟨Nat.zero_le _, rfl, (fr_no _), OwnL.nil, (fr_no _)⟩ ?_
 rintro ⟨k, out, v20, H17, K21⟩ hJ24
 obtain ⟨hk15, hi16, f22, o18, f19⟩ : (k ≤ m.cons.length) ∧ (out = m.cons.take k) ∧ Fr B K21 ∧ OwnL 88 5 H17 K21 ConV v20 out ∧ Fr B H17 := hJ24
 change KC _ _ (K21 :: _) [H17, bxS b13 [v9, v20] 26, H10, bxS b5 [.slice none 0 0, .slice none 0 0] 26] _ ([(4, .int .i64 (k : Int))] ++ _)
 refine cS (cS (cr (mv rfl (fd9 rfl ‹_› (fun p25 a26 => ?_)))))
 refine ld rfl ‹_› (le9 rfl ‹_› (fun l27 => ?_))
 refine ls9 rfl rfl ?_
 refine ln (qc (ci9 rfl (fun c28 => ?_) (fun c28 => ?_)))
 ·refine sk (qc (cS (bl (kc_tree (fun i => ([9, 11] : List Nat).contains i) [bxS b13 [v9, v20] 26] (by kernel_rfl) ?_))))
  refine kt_q 0 (.cons _ (.cons_cons _ nsl)) rfl (by kernel_rfl) (fV rfl (ln (qq (kt_q 1 (.cons _ (.cons_cons _ nsl)) rfl (by kernel_rfl) (ld rfl (at_box (T := 26) (cs := [v9, v20]) (off := 1) (fz := (0, 0))) (ln (qq (kt_q 2 (.cons _ (.cons_cons _ nsl)) rfl (by kernel_rfl) (fd9 rfl ‹_› (fun p29 a30 => ?_))))))))))
  refine ln (qq (kt_q 3 (.cons _ (.cons_cons _ nsl)) rfl (by kernel_rfl) (ld rfl ‹_› (ln (qq (kt_q 4 (.cons _ (.cons_cons _ nsl)) rfl (by kernel_rfl) (mv rfl (ln (qq (kt_q 5 (.cons _ (.cons_cons _ nsl)) rfl (by kernel_rfl) (kl_inC rfl rfl ‹_› (by omega) (fun p31 u33 u34 u35 h36 h37 h38 a32 => ?_))))))))))))
  refine ln (qq (kt_q 6 (.cons _ (.cons_cons _ nsl)) rfl (by kernel_rfl) (kl_ldS rfl ‹_› rfl ?_)))
  refine ln (qq (ta 7 rfl (kl_call rfl rfl (copyConE_ok (m.cons.getD k nilCon) (h4 _ (getD_mem (by omega))) ‹_› ‹_› ‹_›) (fun v39 H40 f41 h42 => ?_))))
  obtain ⟨z43, h45, h44⟩ := h42
  have hce := h44
  obtain ⟨_, rfl, h49⟩ := h45
  have h49' := h49
  obtain ⟨u46, u47, u48, rfl, h50, h51, h52⟩ := h49
  refine ln (qa (.cons _ (.cons_cons _ nsl)) (ta 8 rfl (kl_bsK rfl (fun v53 H54 f55 r56 => ?_))))
  refine ln (qa (.cons _ (.cons_cons _ nsl)) (ta 9 rfl (cm9 K21 H40 (fun c57 => ?_))))
  have o58 := OwnL.mono (K' := orHp K21 H40) o18 orL
  refine aL9 z43 rfl rfl o58 r56 (RMono.mono (orC c57) ‹_›) (oc rfl (oc (Sl.oneCell ‹_›) (oc (Sl.oneCell ‹_›) (oc rfl (oc (Sl.oneCell ‹_›) oc_nil))))) (by (have h9 := congrArg List.length hi16; simp at h9; omega)) (by decide) (fun v59 H60 o61 f62 => ?_)
  have f63 := f62 B f19 (Nat.le_refl _)
  refine ln (qx rfl (kt_q 10 (.cons _ (.cons_cons _ nsl)) rfl (by kernel_rfl) (fV rfl (ln (qq (ta 11 rfl (sB rfl rfl rfl (OwnL.oneCell ‹_›) (OwnL.cells ‹_›) ?_)))))))
  refine cg [H60, bxS b13 [v9, v59] 26, H10, bxS b5 [.slice none 0 0, .slice none 0 0] 26] rfl ?_
  refine ln (qx rfl (kt_end (by kernel_rfl) ?_))
  refine qc (cr (mv rfl (ic9 rfl rfl (by omega) ?_)))
  refine sg rfl (ln (tk [H60, bxS b13 [v9, v59] 26, H10, bxS b5 [.slice none 0 0, .slice none 0 0] 26] ?_))
  refine kq_roundK ((k + 1), (out ++ [z43]), v59, H60, (orHp K21 H40)) (by omega) (⟨by omega, (by rw [hi16, hce, take_succ_getD nilCon (by omega)]), (fr_or f22 f41), o61, f63⟩) (pc 4 rfl pn) (pk [1, 2, 3] rfl) rfl slr9
 ·refine ex9 (qc (cS (cr (kl_ldW rfl rfl (kl_stW (us := [v9, v20]) rfl rfl rfl rfl (oc (OwnL.oneCell ‹_›) (oc (OwnL.oneCell ‹_›) oc_nil)) rfl ?_)))))
  refine cg [H17, bxS b13 [v9, v20] 26, H10, bxS b5 [v9, v20] 26] rfl ?_
  refine ln (qc (rt ?_))
  exact rC rfl rfl rfl [] [H10, H17] K21 (frc f11 (fr1 f19)) f22 ⟨rfl, H10, H17, _, _, (⟨m.doms, out⟩ : Mod), rfl, rfl, o12, o18, by (have h9 := hi16; rw [List.take_of_length_le (by omega)] at h9; rw [h9])⟩
end
section
theorem validObjective_ok {Hmd : Hp} {vmd : Value} {Hmc : Hp} {vmc : Value} {Hobj : Hp} {vobj : Value} (m : Mod) (obj : List Int) (hmd : Ints Hmd vmd m.doms) (hmc : Cons Hmc vmc m.cons) (hobj : Ints Hobj vobj obj) : SpecP Tryz.prog 33 [.agg #[vmd, vmc], vobj] [Hmd, Hmc, Hobj] (.bool (objOkS m obj)) := by
 refine spec_of Tryz.func33 rfl rfl rfl (fun B => ?_)
 refine cS (cr (kl_box rfl rfl (fun p1 H2 f3 a4 => ?_)))
 refine sg rfl (ln (qc (cS (cr (mv rfl (le9 rfl ‹_› (fun l5 => ?_)))))))
 refine fd9 rfl ‹_› (fun p6 a7 => ?_)
 refine ld rfl ‹_› (le9 rfl ‹_› (fun l8 => ?_))
 refine eq9 rfl rfl ?_
 refine mv rfl (jn 3 14 (.bool (decide ((obj.length : Int) = (m.doms.length : Int)) && (allInB obj (-9 : Int) (9 : Int)))) (pk [4, 11] rfl) (fun J10 => ?_) ?_)
 ·rcases Bool.eq_false_or_eq_true (decide ((obj.length : Int) = (m.doms.length : Int))) with g9 | g9
  ·have g9p := of_decide_eq_true g9
   refine gT rfl rfl g9 (mv rfl (gT rfl rfl g9 (cP rfl rfl (allInRange_ok obj (-9 : Int) (9 : Int) ‹_›) ?_)))
   refine aT rfl rfl g9 ?_
   exact J10 _ (pk [14, 4, 11] rfl)
  ·refine gF rfl rfl g9 (gF rfl rfl g9 (aF (allInB obj (-9 : Int) (9 : Int)) rfl rfl g9 ?_))
   exact J10 _ (pk [14, 4, 11] rfl)
 refine sg rfl (ln (qc (rt (kq_retP rfl rfl (congrArg Value.bool ?_)))))
 rfl
end
section
theorem litLess_ok (a : Lit) (b : Lit) : SpecP Tryz.prog 160 [.agg #[.int .i64 a.var, .int .i64 a.val, .bool a.neg], .agg #[.int .i64 b.var, .int .i64 b.val, .bool b.neg]] [] (.bool (litLt a b)) := by
 refine spec_of Tryz.func160 rfl rfl rfl (fun B => ?_)
 refine cS (cr (kl_box rfl rfl (fun p1 H2 f3 a4 => ?_)))
 refine kl_box rfl rfl (fun p5 H6 f7 a8 => ?_)
 refine sg rfl (ln (qc (cS (cS (cr (fd9 rfl ‹_› (fun p9 a10 => ?_)))))))
 refine ld rfl ‹_› (fd9 rfl ‹_› (fun p11 a12 => ?_))
 refine ld rfl ‹_› (kl_neq rfl rfl ?_)
 refine ln (qc (ci9 rfl (fun c13 => ?_) (fun c13 => ?_)))
 ·refine cS (cr (fd9 rfl ‹_› (fun p14 a15 => ?_)))
  refine ld rfl ‹_› (fd9 rfl ‹_› (fun p16 a17 => ?_))
  refine ld rfl ‹_› (ls9 rfl rfl ?_)
  refine sg rfl (ln (qc (rt (kq_retP rfl rfl (congrArg Value.bool ?_)))))
  exact litLt_1 ‹_›
 ·refine sk (qc (cS (cS (cr (fd9 rfl ‹_› (fun p18 a19 => ?_))))))
  refine ld rfl ‹_› (fd9 rfl ‹_› (fun p20 a21 => ?_))
  refine ld rfl ‹_› (kl_neq rfl rfl ?_)
  refine ln (qc (ci9 rfl (fun c22 => ?_) (fun c22 => ?_)))
  ·refine cS (cr (fd9 rfl ‹_› (fun p23 a24 => ?_)))
   refine ld rfl ‹_› (fd9 rfl ‹_› (fun p25 a26 => ?_))
   refine ld rfl ‹_› (ls9 rfl rfl ?_)
   refine sg rfl (ln (qc (rt (kq_retP rfl rfl (congrArg Value.bool ?_)))))
   exact litLt_2 ‹_› ‹_›
  ·refine sk (qc (cS (cr (fd9 rfl ‹_› (fun p27 a28 => ?_)))))
   refine ld rfl ‹_› (nt9 rfl (mv rfl (jn 3 31 (.bool (!a.neg && b.neg)) (pk [4, 28] rfl) (fun J32 => ?_) ?_)))
   ·rcases Bool.eq_false_or_eq_true (!a.neg) with g29 | g29
    ·have g29p := g29
     try simp only [smpD] at g29p
     refine gT rfl rfl g29 (fd9 rfl ‹_› (fun p30 a31 => ?_))
     refine gT rfl rfl g29 (ld rfl ‹_› (aT rfl rfl g29 ?_))
     exact J32 _ (pk [31, 4, 28] rfl)
    ·refine gF rfl rfl g29 (gF rfl rfl g29 (aF b.neg rfl rfl g29 ?_))
     exact J32 _ (pk [31, 4, 28] rfl)
   refine sg rfl (ln (qc (rt (kq_retP rfl rfl (congrArg Value.bool ?_)))))
   exact litLt_3 ‹_› ‹_›
end
section
theorem withS_ok {Hmd : Hp} {vmd : Value} {Hmc : Hp} {vmc : Value} {Hcv : Hp} {vcv : Value} {Hca : Hp} {vca : Value} {Hcr : Hp} {vcr : Value} (m : Mod) (c : Con) (hm : ModSm 100 m) (hl : m.cons.length ≤ 50) (hc : ConSm 100 c) (hmd : Ints Hmd vmd m.doms) (hmc : Cons Hmc vmc m.cons) (hcv : Ints Hcv vcv c.vars) (hca : Ints Hca vca c.args) (hcr : Rows Hcr vcr c.rows) : Spec Tryz.prog 74 [.agg #[vmd, vmc], .agg #[.int .i64 c.kind, vcv, vca, .int .i64 c.bound, vcr]] [Hmd, Hmc, Hcv, Hca, Hcr] (fun Hq vq => ∃ (mq : Mod) (bq : Bool) (uq0a uq0b : Value), vq = .tuple #[.agg #[uq0a, uq0b], .bool bq] ∧ Ints Hq uq0a mq.doms ∧ Cons Hq uq0b mq.cons ∧ (mq, bq) = wcR m c) := by
 refine spec_ofR Tryz.func74 rfl rfl rfl (fun B => ?_)
 refine cS (cr (kl_box rfl rfl (fun p1 H2 f3 a4 => ?_)))
 refine kl_box rfl rfl (fun p5 H6 f7 a8 => ?_)
 refine kl_alloc (cs := [.slice none 0 0, .slice none 0 0]) rfl (fun b9 hb10 => ?_)
 refine sg rfl (ln (qc (cS (cr (kl_ldS rfl ‹_› rfl ?_)))))
 refine cT rfl rfl (copyModE_ok m hm ‹_› ‹_›) (fun v11 L1 Ln K15 h12 f13 f14 => ?_)
 obtain ⟨rfl, H16, M17, v18, v19, z20, rfl, rfl, o22, o23, h21⟩ := h12
 have f24 := f13 _ (.head _)
 have f25 := f13 _ (.tail _ (.head _))
 have hcm := h21
 refine nm ?_
 refine kl_alloc (cs := [.slice none 0 0, .slice none 0 0]) rfl (fun b26 hb27 => ?_)
 refine kl_stW (us := [v18, v19]) rfl rfl rfl rfl (oc (OwnL.oneCell ‹_›) (oc (OwnL.oneCell ‹_›) oc_nil)) rfl ?_
 refine cg [bxS b26 [v18, v19] 26, H16, M17, bxS b9 [.slice none 0 0, .slice none 0 0] 26] rfl ?_
 refine ln (qc (cS (kc_tree (fun i => ([5, 7] : List Nat).contains i) [bxS b26 [v18, v19] 26] (by kernel_rfl) ?_)))
 refine tq 0 (.cons_cons _ nsl) rfl (fV rfl (ln (qq (tq 1 (.cons_cons _ nsl) rfl (ld rfl (at_box (T := 26) (cs := [v18, v19]) (off := 1) (fz := (0, 0))) (ln (qq (tq 2 (.cons_cons _ nsl) rfl (kl_ldS rfl ‹_› rfl ?_)))))))))
 refine ln (qq (ta 3 rfl (kl_call rfl rfl (copyConE_ok c hc ‹_› ‹_› ‹_›) (fun v28 H29 f30 h31 => ?_))))
 obtain ⟨z32, h34, h33⟩ := h31
 have hce := h33
 obtain ⟨_, rfl, h38⟩ := h34
 have h38' := h38
 obtain ⟨u35, u36, u37, rfl, h39, h40, h41⟩ := h38
 refine ln (qa (.cons_cons _ nsl) (ta 4 rfl (kl_bsK rfl (fun v42 H43 f44 r45 => ?_))))
 refine ln (qa (.cons_cons _ nsl) (ta 5 rfl (cm9 K15 H29 (fun c46 => ?_))))
 have o47 := OwnL.mono (K' := orHp K15 H29) o23 orL
 refine aL9 z32 rfl rfl o47 r45 (RMono.mono (orC c46) ‹_›) (oc rfl (oc (Sl.oneCell ‹_›) (oc (Sl.oneCell ‹_›) (oc rfl (oc (Sl.oneCell ‹_›) oc_nil))))) (by (rw [hcm]; simp; omega)) (by decide) (fun v48 H49 o50 f51 => ?_)
 have f52 := f51 B f25 (Nat.le_refl _)
 refine ln (qx rfl (tq 6 (.cons_cons _ nsl) rfl (fV rfl (ln (qq (ta 7 rfl (sB rfl rfl rfl (OwnL.oneCell ‹_›) (OwnL.cells ‹_›) ?_)))))))
 refine cg [bxS b26 [v18, v48] 26, H16, H49, bxS b9 [.slice none 0 0, .slice none 0 0] 26] rfl ?_
 refine ln (qx rfl (kt_end (by kernel_rfl) ?_))
 refine qc (cS (cS (cr (kl_ldW rfl rfl ?_))))
 have h53 := OwnL.ints o22
 refine cm9 H49 (orHp K15 H29) (fun c55 => ?_)
 have h54 := OwnL.consK o50 c55
 refine cP rfl rfl (svalidMod_ok (⟨z20.doms, (z20.cons ++ [z32])⟩ : Mod) ‹_› ‹_›) ?_
 refine nt9 rfl (ln (qc (cd9 rfl (fun c56 => ?_) (fun c56 => ?_))))
 ·have c56r := c56
  try simp only [smpE] at c56
  have hv := c56r
  rw [hcm, hce] at hv
  have hv2 : validModB (withC m c) = false := by simpa [withC] using hv
  refine cS (cr (kl_bd rfl cp_nil rfl ?_))
  refine kl_stW (us := [.slice none 0 0, .slice none 0 0]) rfl rfl rfl rfl (oc rfl (oc rfl oc_nil)) rfl ?_
  refine cg [bxS b26 [v18, v48] 26, H16, H49, bxS b9 [.slice none 0 0, .slice none 0 0] 26] rfl ?_
  refine sg rfl (ln (qc (rt (kq_cmp noHp noHp (fun c57 => ?_)))))
  exact kq_retR (rss2 rfl (rs_agg rfl rfl) (rs_tmp rfl)) (orHp noHp noHp) (fr_or (fr_no _) (fr_no _)) ⟨(⟨[], []⟩ : Mod), false, _, _, rfl, (Sl.mono Sl.nil (fun b o h => orL b o h) (fun _ _ h => h)), (Sl.mono Sl.nil (fun b o h => orC c57 b o h) (fun _ _ h => h)), by first | exact (wc_no hv2).symm | (rw [hcm, hce]; exact (wc_yes hv2).symm)⟩ .none
 ·have c56r := c56
  try simp only [smpE] at c56
  have hv := c56r
  rw [hcm, hce] at hv
  have hv2 : validModB (withC m c) = true := by simpa [withC] using hv
  refine sk (qc (cS (cr (kl_ldW rfl rfl (kl_stW (us := [v18, v48]) rfl rfl rfl rfl (oc (OwnL.oneCell ‹_›) (oc (OwnL.oneCell ‹_›) oc_nil)) rfl ?_)))))
  refine cg [bxS b26 [v18, v48] 26, H16, H49, bxS b9 [v18, v48] 26] rfl ?_
  refine sg rfl (ln (qc (rt (kq_frz H16 ?_))))
  refine kq_frz H49 ?_
  refine kq_cmp H49 (orHp K15 H29) (fun c58 => ?_)
  refine kq_cmp H16 (orHp H49 (orHp K15 H29)) (fun c59 => ?_)
  exact kq_retR (rss2 rfl (rs_agg rfl rfl) (rs_tmp rfl)) (orHp H16 (orHp H49 (orHp K15 H29))) (fr_or f24 (fr_or f52 (fr_or f14 f30))) ⟨(⟨z20.doms, (z20.cons ++ [z32])⟩ : Mod), true, _, _, rfl, (Sl.mono (OwnL.ints o22) (fun b o h => orL b o h) (fun _ _ h => h)), (Cons.mono' (OwnL.consK o50 c58) (fun b o h => orC c59 b o h)), by first | exact (wc_no hv2).symm | (rw [hcm, hce]; exact (wc_yes hv2).symm)⟩ .none
theorem improvS_ok {Hmd : Hp} {vmd : Value} {Hmc : Hp} {vmc : Value} {Hobj : Hp} {vobj : Value} (m : Mod) (obj : List Int) (b : Int) (hM : MOk m) (ho : obj.length = m.doms.length) (hb : -1000 ≤ b ∧ b ≤ 2000) (hmd : Ints Hmd vmd m.doms) (hmc : Cons Hmc vmc m.cons) (hobj : Ints Hobj vobj obj) : Spec Tryz.prog 40 [.agg #[vmd, vmc], vobj, .int .i64 b] [Hmd, Hmc, Hobj] (fun Hq vq => ∃ (mq : Mod) (bq : Bool) (uq0a uq0b : Value), vq = .tuple #[.agg #[uq0a, uq0b], .bool bq] ∧ Ints Hq uq0a mq.doms ∧ Cons Hq uq0b mq.cons ∧ (mq, bq) = wcR m (lowC obj.length obj (b - 1))) := by
 have hn := hM.n
 have hfew := hM.few
 refine spec_ofR Tryz.func40 rfl rfl rfl (fun B => ?_)
 refine cS (cr (kl_box rfl rfl (fun p1 H2 f3 a4 => ?_)))
 refine kl_alloc (cs := [.slice none 0 0, .slice none 0 0]) rfl (fun b5 hb6 => ?_)
 refine sg rfl (ln (qc (cS (cr (kl_bsI [] rfl rfl rfl (by decide) (fun v7 H8 f9 o10 => ?_))))))
 refine sg rfl (ln (qc (cS (cS (cr (sg rfl (ln (qc (bl (kc_loopL (A := Nat × List Int × Value × Hp) (fun zz => (zz.1 ≤ m.doms.length) ∧ (zz.2.1 = iotaN zz.1) ∧ OwnL 3 1 zz.2.2.2 noHp IntV zz.2.2.1 zz.2.1 ∧ Fr B zz.2.2.2) (fun zz => m.doms.length - zz.1) (fun zz => [zz.2.2.2, bxS b5 [.slice none 0 0, .slice none 0 0] 26]) (fun zz => [(9, .int .i64 (zz.1 : Int)), (8, zz.2.2.1)]) (0, ([]), v7, H8) (pk [1, 2, 3, 6, 7] rfl) (pk [9, 8] rfl) rfl ⟨Nat.zero_le _, rfl, o10, f9⟩ ?_))))))))))
 rintro ⟨k, vs, v16, H13⟩ hJ17
 obtain ⟨hk11, hi12, o14, f15⟩ : (k ≤ m.doms.length) ∧ (vs = iotaN k) ∧ OwnL 3 1 H13 noHp IntV v16 vs ∧ Fr B H13 := hJ17
 change KC _ _ (_) [H13, bxS b5 [.slice none 0 0, .slice none 0 0] 26] _ ([(9, .int .i64 (k : Int)), (8, v16)] ++ _)
 refine cS (cS (cr (mv rfl (fd9 rfl ‹_› (fun p18 a19 => ?_)))))
 refine ld rfl ‹_› (le9 rfl ‹_› (fun l20 => ?_))
 refine ls9 rfl rfl ?_
 refine ln (qc (ci9 rfl (fun c21 => ?_) (fun c21 => ?_)))
 ·refine sk (qc (cS (bl (cr (mv rfl (mv rfl (bs9 rfl rfl rfl (by decide) (ca rfl ca_nil) (fun v22 H23 f24 r25 s26 => ?_))))))))
  have h27 : Ints H23 v22 [(k : Int)] := litInts (xs := [(k : Int)]) (by simpa using s26)
  refine aL9 (k : Int) rfl rfl o14 ‹_› rfl (oc rfl oc_nil) (by (have h9 := congrArg List.length hi12; rw [iota_len] at h9; omega)) (by decide) (fun v28 H29 o30 f31 => ?_)
  have f32 := f31 B f15 (Nat.le_refl _)
  refine sg rfl (ln (qc (cr (mv rfl (ic9 rfl rfl (by omega) ?_)))))
  refine sg rfl (ln (tk [H29, bxS b5 [.slice none 0 0, .slice none 0 0] 26] ?_))
  refine rL ((k + 1), (vs ++ [(k : Int)]), v28, H29) (by omega) (⟨by omega, (iotaN_step hi12), o30, f32⟩) (pk [9, 8] rfl) (pk [1, 2, 3, 6, 7] rfl) rfl slr9
 ·refine ex9 (qc (cS (kc_tree (fun i => ([7, 10] : List Nat).contains i) [] (by kernel_rfl) ?_)))
  refine tq 0 nsl rfl (kl_ldS rfl ‹_› rfl ?_)
  refine ln (qq (tq 1 nsl rfl (mv rfl (ln (qq (tq 2 nsl rfl (mv rfl (ln (qq (tq 4 nsl rfl (mv rfl ?_)))))))))))
  refine ln (qq (tq 5 nsl rfl (sb9 rfl rfl (by omega) ?_)))
  refine ln (qq (ta 3 rfl (kl_call rfl rfl (copyInts_ok obj (by omega) ‹_›) (fun v33 H34 f35 o36 => ?_))))
  have h37 := OwnL.ints o36
  refine ln (qa nsl (ta 6 rfl (kl_bd rfl (cp rfl (cp (OwnL.cells ‹_›) (cp (Sl.cells ‹_›) (cp rfl cp_nil)))) rfl ?_)))
  refine ln (qa nsl (ta 7 rfl (kl_call rfl rfl (withS_ok m ⟨(1 : Int), vs, obj, (b - (1 : Int)), []⟩ (ok_small hM) (by omega) (low_small (by have h9 := hi12; rw [show k = obj.length from by omega] at h9; exact h9) (by omega)) ‹_› ‹_› (OwnL.ints o14) ‹_› (Sl.nil (H := noHp))) (fun v38 H39 f40 h41 => ?_))))
  obtain ⟨z44, z49, u45, u46, rfl, h47, h48, h43⟩ := h41
  have hwc := h43
  refine ln (qx rfl (tq 8 nsl rfl (kl_xt rfl rfl (ln (qq (tq 9 nsl rfl (kl_xt rfl rfl (ln (qq (ta 10 rfl (kl_stW (us := [u45, u46]) rfl rfl rfl rfl (oc (Sl.oneCell ‹_›) (oc (Sl.oneCell ‹_›) oc_nil)) rfl ?_)))))))))))
  refine cg [H13, bxS b5 [u45, u46] 26] rfl ?_
  refine ln (qx rfl (tq 11 nsl rfl (sg rfl (ln (qq (kt_end (by kernel_rfl) ?_))))))
  refine qc (rt (kq_cmp H39 H39 (fun c50 => ?_)))
  exact kq_retR (rss2 rfl (rs_agg rfl rfl) (rs_tmp rfl)) (orHp H39 H39) (fr_or f40 f40) ⟨(⟨z44.doms, z44.cons⟩ : Mod), z49, _, _, rfl, (Sl.mono ‹_› (fun b o h => orL b o h) (fun _ _ h => h)), (Cons.mono' ‹_› (fun b o h => orC c50 b o h)), by (have h9 := hi12; rw [show k = obj.length from by omega] at h9; rw [h9] at hwc; exact hwc)⟩ .none
end
section
theorem mergeE_ok {Ha : Hp} {va : Value} {Hb : Hp} {vb : Value} (a : List Lit) (b : List Lit) (hb : a.length + b.length ≤ 1000) (ho : b.length = 1) (hlt : ∀ l ∈ a, litLt l (b.getD 0 nilLit) = true) (ha : Lits Ha va a) (hb : Lits Hb vb b) : Spec Tryz.prog 120 [va, vb] [Ha, Hb] (fun Hq vq => ∃ xq : List Lit, OwnL 100 3 Hq noHp LitV vq xq ∧ xq = a ++ b) := by
 refine spec_of Tryz.func120 rfl rfl rfl (fun B => ?_)
 refine cS (cr (sg rfl (ln (qc (cS (cr (kl_bs0k (K := noHp) LitV rfl (fun v1 H2 f3 o4 => ?_))))))))
 refine mv rfl (kl_apS rfl rfl o4 ‹_› (fun _ _ h => h) (by (simp; omega)) (by decide) (fun v5 H6 o7 f8 => ?_))
 have f9 := f8 B f3 (Nat.le_refl _)
 refine sg rfl (ln (qc (cS (cS (cr (sg rfl (ln (qc (bl (kc_loopL (A := Nat × List Lit × Value × Hp) (fun zz => (zz.1 ≤ b.length) ∧ (zz.2.1 = a ++ b.take zz.1) ∧ OwnL 100 3 zz.2.2.2 noHp LitV zz.2.2.1 zz.2.1 ∧ Fr B zz.2.2.2) (fun zz => b.length - zz.1) (fun zz => [zz.2.2.2]) (fun zz => [(6, .int .i64 (zz.1 : Int)), (5, zz.2.2.1)]) (0, ([] ++ a), v5, H6) (pk [1, 4] rfl) (pk [6, 5] rfl) rfl ⟨Nat.zero_le _, (by simp), o7, f9⟩ ?_))))))))))
 rintro ⟨k, out, v15, H12⟩ hJ16
 obtain ⟨hk10, hi11, o13, f14⟩ : (k ≤ b.length) ∧ (out = a ++ b.take k) ∧ OwnL 100 3 H12 noHp LitV v15 out ∧ Fr B H12 := hJ16
 change KC _ _ (_) [H12] _ ([(6, .int .i64 (k : Int)), (5, v15)] ++ _)
 have hol := congrArg List.length hi11
 rw [List.length_append, List.length_take] at hol
 refine cS (cS (cr (mv rfl (mv rfl (le9 rfl ‹_› (fun l17 => ?_))))))
 refine ls9 rfl rfl ?_
 refine ln (qc (ci9 rfl (fun c18 => ?_) (fun c18 => ?_)))
 ·refine sk (qc (cS (bl (cS (cr (sg rfl (ln (qc (cS (bl ?_))))))))))
  refine kc_loop0 (A := Nat) (fun zz => (zz ≤ out.length)) (fun zz => out.length - zz) (fun zz => [(7, .int .i64 (zz : Int))]) (0) (pk [1, 4, 5, 6, 12, 13, 14, 15] rfl) (pc 7 rfl pn) (Nat.zero_le _) ?_
  rintro j hJ21
  have hk19 : (j ≤ out.length) := hJ21
  change KC _ _ (_) _ _ ([(7, .int .i64 (j : Int))] ++ _)
  refine cS (cS (kc_draw 15 [true, true, true, true, true, true, true, true, true, true, true, true, true, false, true] (by kernel_rfl) (by kernel_rfl) ?_))
  refine mv rfl (mv rfl (lL rfl o13 (fun l22 => ?_)))
  refine ls9 rfl rfl ?_
  refine mv rfl (jn 10 32 (.bool (decide ((j : Int) < (out.length : Int)) && (litLt (out.getD j nilLit) (b.getD k nilLit)))) (pk [1, 4, 5, 6, 7, 12, 13, 14, 15, 18, 19, 20, 21, 22] rfl) (fun J28 => ?_) ?_)
  ·rcases Bool.eq_false_or_eq_true (decide ((j : Int) < (out.length : Int))) with g23 | g23
   ·have g23p := of_decide_eq_true g23
    refine gT rfl rfl g23 (mv rfl (gT rfl rfl g23 (mv rfl (gT rfl rfl g23 (kl_ixLn rfl rfl ‹_› (by omega) (fun p24 q25 => ?_))))))
    refine gT rfl rfl g23 (kl_ldSL rfl (OwnL.atQ o13 ‹_› (by omega : j < out.length)) rfl ?_)
    refine gT rfl rfl g23 (mv rfl (gT rfl rfl g23 (mv rfl (gT rfl rfl g23 (kl_inQ rfl rfl ‹_› (by omega) (fun p26 a27 => ?_))))))
    refine gT rfl rfl g23 (kl_ldS rfl ‹_› rfl ?_)
    refine gT rfl rfl g23 (cP rfl rfl (litLess_ok (out.getD j nilLit) (b.getD k nilLit)) ?_)
    refine aT rfl rfl g23 ?_
    exact J28 _ (pk [32, 1, 4, 5, 6, 7, 12, 13, 14, 15, 18, 19, 20, 21, 22] rfl)
   ·refine gF rfl rfl g23 (gF rfl rfl g23 (gF rfl rfl g23 (gF rfl rfl g23 (gF rfl rfl g23 (gF rfl rfl g23 (gF rfl rfl g23 (gF rfl rfl g23 (gF rfl rfl g23 ?_))))))))
    refine aF (litLt (out.getD j nilLit) (b.getD k nilLit)) rfl rfl g23 ?_
    exact J28 _ (pk [32, 1, 4, 5, 6, 7, 12, 13, 14, 15, 18, 19, 20, 21, 22] rfl)
  refine ln (qc (cd9 rfl (fun c29 => ?_) (fun c29 => ?_)))
  ·have c29r := c29
   try simp only [smpE] at c29
   refine sk (qc (bl (cr (mv rfl (ic9 rfl rfl (by omega) ?_)))))
   refine sg rfl (ln (kq_round0 ((j + 1)) (by omega) (by omega) (pc 7 rfl pn) (pk [1, 4, 5, 6, 12, 13, 14, 15] rfl) slr9))
  ·have c29r := c29
   try simp only [smpE] at c29
   have hj9 := mc_exit hi11 (by omega) ho hlt ‹_› c29r
   refine ex9 (qc (cS (cS (kc_draw 15 [true, true, true, true, true, true, true, true, true, true, true, true, true, true, true] (by kernel_rfl) (by kernel_rfl) ?_))))
   refine mv rfl (mv rfl (lL rfl o13 (fun l30 => ?_)))
   refine ls9 rfl rfl ?_
   refine mv rfl (jn 10 49 (.bool (decide ((j : Int) < (out.length : Int)) && decide ((out.getD j nilLit) = (b.getD k nilLit)))) (pk [1, 4, 5, 6, 7, 12, 13, 14, 15, 18, 19, 20, 21, 22, 32, 35, 36, 37, 38, 39] rfl) (fun J36 => ?_) ?_)
   ·rcases Bool.eq_false_or_eq_true (decide ((j : Int) < (out.length : Int))) with g31 | g31
    ·have g31p := of_decide_eq_true g31
     refine gT rfl rfl g31 (mv rfl (gT rfl rfl g31 (mv rfl (gT rfl rfl g31 (kl_ixLn rfl rfl ‹_› (by omega) (fun p32 q33 => ?_))))))
     refine gT rfl rfl g31 (kl_ldSL rfl (OwnL.atQ o13 ‹_› (by omega : j < out.length)) rfl ?_)
     refine gT rfl rfl g31 (mv rfl (gT rfl rfl g31 (mv rfl (gT rfl rfl g31 (kl_inQ rfl rfl ‹_› (by omega) (fun p34 a35 => ?_))))))
     refine gT rfl rfl g31 (kl_ldS rfl ‹_› rfl ?_)
     refine gT rfl rfl g31 (kl_eqlQ rfl rfl ?_)
     refine aT rfl rfl g31 ?_
     exact J36 _ (pk [49, 1, 4, 5, 6, 7, 12, 13, 14, 15, 18, 19, 20, 21, 22, 32, 35, 36, 37, 38, 39] rfl)
    ·refine gF rfl rfl g31 (gF rfl rfl g31 (gF rfl rfl g31 (gF rfl rfl g31 (gF rfl rfl g31 (gF rfl rfl g31 (gF rfl rfl g31 (gF rfl rfl g31 (gF rfl rfl g31 ?_))))))))
     refine aF (decide ((out.getD j nilLit) = (b.getD k nilLit))) rfl rfl g31 ?_
     exact J36 _ (pk [49, 1, 4, 5, 6, 7, 12, 13, 14, 15, 18, 19, 20, 21, 22, 32, 35, 36, 37, 38, 39] rfl)
   refine ln (qc (cd9 rfl (fun c37 => ?_) (fun c37 => ?_)))
   ·have c37r := c37
    try simp only [smpE] at c37
    refine ex9 (qc (cr (mv rfl (ic9 rfl rfl (by omega) ?_))))
    refine sg rfl (ln (tk [H12] ?_))
    refine rL ((k + 1), out, v15, H12) (by omega) (⟨by omega, (by first | (exfalso; have e1 := hj9.1; omega) | (obtain ⟨e1, e2, e3⟩ := hj9; rw [e1, e2]; simp [e3, mc_one ho])), o13, f14⟩) (pk [6, 5] rfl) (pk [1, 4] rfl) rfl slr9
   ·have c37r := c37
    try simp only [smpE] at c37
    refine sk (qc (cS (kc_frz H12 ?_)))
    have h38 := OwnL.lits o13
    refine kc_tree (fun i => ([8] : List Nat).contains i) [] (by kernel_rfl) ?_
    refine tq 0 nsl rfl (mv rfl (ln (qq (tq 1 nsl rfl (mv rfl (ln (qq (tq 2 nsl rfl (kl_inQ rfl rfl ‹_› (by omega) (fun p39 a40 => ?_))))))))))
    refine ln (qq (tq 3 nsl rfl (kl_ldS rfl ‹_› rfl ?_)))
    refine ln (qq (tq 5 nsl rfl (mv rfl (ln (qq (tq 6 nsl rfl (mv rfl (ln (qq (tq 7 nsl rfl (kl_slDrop rfl rfl ‹_› (by omega) (fun u41 h42 => ?_))))))))))))
    refine ln (qq (ta 4 rfl (kl_bsQo rfl (fun v43 H44 f45 o46 => ?_))))
    refine ln (qa nsl (ta 8 rfl (kl_apS rfl rfl o46 ‹_› (fun _ _ h => h) (by (simp; omega)) (by decide) (fun v47 H48 o49 f50 => ?_))))
    have f51 := f50 B f45 (Nat.le_refl _)
    refine ln (qx rfl (tq 9 nsl rfl (sg rfl (ln (qq (kt_end (by kernel_rfl) ?_))))))
    refine qc (cr (kl_bs0k (K := noHp) LitV rfl (fun v52 H53 f54 o55 => ?_)))
    refine mv rfl (mv rfl (kl_slTake rfl rfl ‹_› (by omega) (fun u56 h57 => ?_)))
    refine kl_apS rfl rfl o55 ‹_› (fun _ _ h => h) (by (simp; omega)) (by decide) (fun v58 H59 o60 f61 => ?_)
    have f62 := f61 B f54 (Nat.le_refl _)
    refine mv rfl (fZ H48 ?_)
    have h63 := OwnL.lits o49
    refine kl_apS rfl rfl o60 ‹_› (fun _ _ h => h) (by (simp; omega)) (by decide) (fun v64 H65 o66 f67 => ?_)
    have f68 := f67 B f62 (Nat.le_refl _)
    refine sg rfl (ln (qc (cr (mv rfl (ic9 rfl rfl (by omega) ?_)))))
    refine sg rfl (ln (tk [H65] ?_))
    refine rL ((k + 1), (([] ++ (out.take j)) ++ ([(b.getD k nilLit)] ++ (out.drop j))), v64, H65) (by omega) (⟨by omega, (by first | (exfalso; have e1 := hj9.1; omega) | (obtain ⟨e1, e2, e3⟩ := hj9; rw [e1, e2]; simp [e3, mc_one ho])), o66, f68⟩) (pk [6, 5] rfl) (pk [1, 4] rfl) rfl slr9
 ·refine ex9 (qc (cS (cr (mv rfl (sg rfl (ln (qc (rt ?_))))))))
  exact kq_ret rfl rfl H12 f14 ⟨out, o13, by (rw [hi11, List.take_of_length_le (by omega)])⟩
abbrev proverSt (k : Nat) : Prop := ∀ {b : Nat} {Hmd Hmc Hds Hcl Hf Kf : Hp} {vmd vmc vds vcl vf : Value} (m : Mod) (ds : List Int) (cl : List Lit) (sts : List (List Lit)) (ok : Bool) (hM : MOk m) (hd : DOk m.doms.length ds) (hpa : PathOk m.doms.length ds cl) (hk : k + cl.length = m.doms.length) (hst : sts.length ≤ 200) (hok : ok = true) (lq : Liq Kf)
  (hmd : Ints Hmd vmd m.doms) (hmc : Cons Hmc vmc m.cons) (hds : Ints Hds vds ds) (ocl : OwnL 100 3 Hcl noHp LitV vcl cl) (of : OwnL 69 1 Hf Kf LRowV vf sts),
  SpecT Tryz.prog 76 [.pointer (some ⟨b, 0, none⟩), vds, vcl] [bxS b [vmd, vmc, vf, .bool ok] 97, Hf, Kf, Hcl] [Hmd, Hmc, Hds] (fun vq L1 Ln _ => vq = .tuple #[] ∧ Ln = [] ∧ ∃ (vf2 : Value) (Hf2 Kf2 : Hp) (st2 : List (List Lit)) (ok2 : Bool), L1 = [bxS b [vmd, vmc, vf2, .bool ok2] 97, Hf2, Kf2] ∧ OwnL 69 1 Hf2 Kf2 LRowV vf2 st2 ∧ Liq Kf2 ∧ LimR sts (refF k m ds cl) st2 ok2)
theorem prover_step (k : Nat) (ih : ∀ j, j < k → proverSt j) : proverSt k := by
 intro b Hmd Hmc Hds Hcl Hf Kf vmd vmc vds vcl vf m ds cl sts ok hM hd hpa hk hst hok lq hmd hmc hds ocl of
 have hn := hM.n
 have hp := propOk hM hd
 have hpl := hp.ok.l
 have hpp := path_prop hM hd hpa
 have hcn := path_len hpa
 refine specT_of Tryz.func76 rfl rfl rfl (fun B => ?_)
 refine cS (cS (cr (mv rfl (kl_nilchk rfl ?_))))
 refine fV rfl (lB rfl rfl (nt9 rfl (ln (qc (cd9 rfl (fun c1 => ?_) (fun c1 => ?_))))))
 ·have c1r := c1
  try simp only [smpE] at c1
  exact absurd c1 (by rw [hok]; decide)
 ·have c1r := c1
  try simp only [smpE] at c1
  refine sk (qc (cS (cr (mv rfl (kl_nilchk rfl ?_)))))
  refine fV rfl (kl_ldSL rfl (At.take 2 (at_box (T := 97) (cs := [vmd, vmc, vf, .bool ok]) (off := 0) (fz := (0, 0)))) rfl ?_)
  refine mv rfl (kl_call rfl rfl (fixS_ok m ds hM hd ‹_› ‹_› ‹_›) (fun v2 H3 f4 h5 => ?_))
  refine sg rfl (ln (qc (cS (cS (cr (mv rfl (cP rfl rfl (hasEmpty_ok (prop m ds) ‹_›) ?_)))))))
  refine nt9 rfl (ln (qc (cd9 rfl (fun c6 => ?_) (fun c6 => ?_))))
  ·have c6r := c6
   try simp only [smpE] at c6
   have hz : (prop m ds).contains 0 = false := (by simpa using c6r)
   have hD := prop_at hM hd hz
   refine cS (cr (sg rfl (ln (qc (cS (bl (kc_loop0 (A := Nat) (fun zz => (zz ≤ (prop m ds).length) ∧ (∀ j, j < zz → (valsI ((prop m ds).getD j 0)).length = 1)) (fun zz => (prop m ds).length - zz) (fun zz => [(7, .int .i64 (zz : Int))]) (0) (pk [0, 2, 6] rfl) (pc 7 rfl pn) ⟨Nat.zero_le _, (fun _ h => absurd h (Nat.not_lt_zero _))⟩ ?_)))))))
   rintro i hJ9
   obtain ⟨hk7, hi8⟩ : (i ≤ (prop m ds).length) ∧ (∀ j, j < i → (valsI ((prop m ds).getD j 0)).length = 1) := hJ9
   change KC _ _ (_) _ _ ([(7, .int .i64 (i : Int))] ++ _)
   refine cS (cS (cr (mv rfl (mv rfl (le9 rfl ‹_› (fun l10 => ?_))))))
   refine ls9 rfl rfl ?_
   refine mv rfl (jn 8 37 (.bool (decide ((i : Int) < ((prop m ds).length : Int)) && decide (((valsI ((prop m ds).getD i 0)).length : Int) = (1 : Int)))) (pk [0, 2, 6, 7, 25, 26, 27, 28, 29] rfl) (fun J19 => ?_) ?_)
   ·rcases Bool.eq_false_or_eq_true (decide ((i : Int) < ((prop m ds).length : Int))) with g11 | g11
    ·have g11p := of_decide_eq_true g11
     refine gT rfl rfl g11 (mv rfl (gT rfl rfl g11 (mv rfl (gT rfl rfl g11 (kl_inI rfl rfl ‹_› (by first | omega | (simp; omega)) (fun p12 a13 => ?_))))))
     refine gT rfl rfl g11 (ld rfl ‹_› (gT rfl rfl g11 (kl_call rfl rfl (domainValues_ok ((prop m ds).getD i 0)) (fun v14 H15 f16 h17 => ?_))))
     refine gT rfl rfl g11 (le9 rfl ‹_› (fun l18 => ?_))
     refine gT rfl rfl g11 (eq9 rfl rfl ?_)
     refine aT rfl rfl g11 ?_
     exact kl_fg slr9 (J19 _ (pk [37, 0, 2, 6, 7, 25, 26, 27, 28, 29] rfl))
    ·refine gF rfl rfl g11 (gF rfl rfl g11 (gF rfl rfl g11 (gF rfl rfl g11 (gF rfl rfl g11 (gF rfl rfl g11 (gF rfl rfl g11 (aF (decide (((valsI ((prop m ds).getD i 0)).length : Int) = (1 : Int))) rfl rfl g11 ?_)))))))
     exact J19 _ (pk [37, 0, 2, 6, 7, 25, 26, 27, 28, 29] rfl)
   refine ln (qc (cd9 rfl (fun c20 => ?_) (fun c20 => ?_)))
   ·have c20r := c20
    try simp only [smpE] at c20
    have hgo := br_go c20r
    refine sk (qc (bl (cr (mv rfl (ic9 rfl rfl (by omega) ?_)))))
    refine sg rfl (ln (kq_round0 ((i + 1)) (by (have := hgo.1; omega)) (⟨(by have := hgo.1; omega), (by intro j hj; rcases Nat.lt_succ_iff_lt_or_eq.1 hj with h9 | h9; (exact hi8 j h9); (subst h9; have := hgo.2; omega))⟩) (pc 7 rfl pn) (pk [0, 2, 6] rfl) slr9))
   ·have c20r := c20
    try simp only [smpE] at c20
    have hex := br_exit c20r
    refine ex9 (qc (cS (cS (cr (mv rfl (mv rfl (le9 rfl ‹_› (fun l21 => ?_))))))))
    refine eq9 rfl rfl ?_
    refine ln (qc (ci9 rfl (fun c22 => ?_) (fun c22 => ?_)))
    ·have hop := op_no hD (by omega) hi8
     refine cS (cr (mv rfl (kl_nilchk rfl ?_)))
     refine fV rfl (sB rfl rfl rfl rfl rfl ?_)
     refine cg [bxS b [vmd, vmc, vf, .bool false] 97, Hf, Kf, Hcl] rfl ?_
     refine ln (qc (rt ?_))
     exact kq_retT0 rfl [bxS b [vmd, vmc, vf, .bool false] 97, Hf, Kf] [] noHp frn (fr_no _) ⟨rfl, rfl, vf, Hf, Kf, sts, false, rfl, of, lq, (by rw [ref_leaf hz hop]; exact lim_leaf hst)⟩
    ·have hi0 : i < (prop m ds).length := (by omega)
     have hne1 : (valsI ((prop m ds).getD i 0)).length ≠ 1 := (by rcases hex with h9 | h9 <;> omega)
     have hopI := op_at hD hi0 hi8 hne1
     have hop : ¬ opI (prop m ds) < 0 := (by omega)
     obtain ⟨j, rfl⟩ := path_room hpp hpl hop hk
     refine sk (qc (cS (cr (mv rfl (mv rfl (kl_inI rfl rfl ‹_› (by first | omega | (simp; omega)) (fun p23 a24 => ?_)))))))
     refine ld rfl ‹_› (kl_call rfl rfl (domainValues_ok ((prop m ds).getD i 0)) (fun v25 H26 f27 h28 => ?_))
     refine sg rfl (ln (qc (cS (cr (sg rfl (ln (qc (bl (kc_loopL (A := Nat × Bool × List (List Lit) × Value × Hp × Hp) (fun zz => (zz.1 ≤ (valsI ((prop m ds).getD i 0)).length) ∧ (LimR sts (foldR (chR j m (prop m ds) cl) ((valsI ((prop m ds).getD i 0)).take zz.1)) zz.2.2.1 zz.2.1) ∧ Liq zz.2.2.2.2.2 ∧ OwnL 69 1 zz.2.2.2.2.1 zz.2.2.2.2.2 LRowV zz.2.2.2.1 zz.2.2.1) (fun zz => (valsI ((prop m ds).getD i 0)).length - zz.1) (fun zz => [bxS b [vmd, vmc, zz.2.2.2.1, .bool zz.2.1] 97, zz.2.2.2.2.1, zz.2.2.2.2.2, Hcl]) (fun zz => [(9, .int .i64 (zz.1 : Int))]) (0, ok, sts, vf, Hf, Kf) (pk [0, 2, 6, 7, 8] rfl) (pc 9 rfl pn) rfl ⟨Nat.zero_le _, (lim_init hst hok), lq, of⟩ ?_)))))))))
     rintro ⟨q, o1, s1, v34, H31, K35⟩ hJ37
     obtain ⟨hk29, hi30, l36, o32⟩ : (q ≤ (valsI ((prop m ds).getD i 0)).length) ∧ (LimR sts (foldR (chR j m (prop m ds) cl) ((valsI ((prop m ds).getD i 0)).take q)) s1 o1) ∧ Liq K35 ∧ OwnL 69 1 H31 K35 LRowV v34 s1 := hJ37
     change KC _ _ (_) [bxS b [vmd, vmc, v34, .bool o1] 97, H31, K35, Hcl] _ ([(9, .int .i64 (q : Int))] ++ _)
     refine cS (cS (cr (mv rfl (mv rfl (le9 rfl ‹_› (fun l38 => ?_))))))
     refine ls9 rfl rfl ?_
     refine mv rfl (jn 5 61 (.bool (decide ((q : Int) < ((valsI ((prop m ds).getD i 0)).length : Int)) && o1)) (pk [0, 2, 6, 7, 8, 9, 52, 53, 54, 55, 56] rfl) (fun J40 => ?_) ?_)
     ·rcases Bool.eq_false_or_eq_true (decide ((q : Int) < ((valsI ((prop m ds).getD i 0)).length : Int))) with g39 | g39
      ·have g39p := of_decide_eq_true g39
       refine gT rfl rfl g39 (mv rfl (gT rfl rfl g39 (kl_nilchk rfl ?_)))
       refine gT rfl rfl g39 (fV rfl (gT rfl rfl g39 (lB rfl rfl (aT rfl rfl g39 ?_))))
       exact J40 _ (pk [61, 0, 2, 6, 7, 8, 9, 52, 53, 54, 55, 56] rfl)
      ·refine gF rfl rfl g39 (gF rfl rfl g39 (gF rfl rfl g39 (gF rfl rfl g39 (aF o1 rfl rfl g39 ?_))))
       exact J40 _ (pk [61, 0, 2, 6, 7, 8, 9, 52, 53, 54, 55, 56] rfl)
     refine ln (qc (cd9 rfl (fun c41 => ?_) (fun c41 => ?_)))
     ·have c41r := c41
      try simp only [smpE] at c41
      have hqc := lim_go c41r
      have hv := getD_mem (d := (0 : Int)) hqc.1
      have hvv := valsI_mem hv
      refine sk (qc (cS (bl (cS (cr (mv rfl (kl_callL rfl rfl (copyInts_ok (prop m ds) (by omega) ‹_›) (fun v42 H43 f44 o45 => ?_))))))))
      refine sg rfl (ln (qc (cS (cr (mv rfl (mv rfl (mv rfl (mv rfl (kl_inI rfl rfl ‹_› (by first | omega | (simp; omega)) (fun p46 a47 => ?_))))))))))
      refine ld rfl ‹_› (kl_shl rfl rfl (by omega) ?_)
      refine kl_ixLn rfl rfl ‹_› (by first | omega | (simp; omega)) (fun p48 q49 => ?_)
      refine kl_stL (ishl (1 : Int) ((valsI ((prop m ds).getD i 0)).getD q 0)) rfl rfl ‹_› o45 (by first | omega | (simp; omega)) rfl rfl rfl (fun H50 o51 f52 => ?_)
      have f53 := f52 _ f44
      refine cg [H50, bxS b [vmd, vmc, v34, .bool o1] 97, H31, K35, Hcl] rfl ?_
      refine ln (qc (cr (mv rfl (mv rfl (mv rfl (mv rfl (mv rfl (mv rfl (kl_inI rfl rfl ‹_› (by first | omega | (simp; omega)) (fun p54 a55 => ?_))))))))))
      refine ld rfl ‹_› (kl_bd rfl (cp rfl (cp rfl (cp rfl cp_nil))) rfl ?_)
      refine kl_bsQ rfl (fun v56 H57 f58 r59 h60 => ?_)
      refine kl_callL rfl rfl (mergeE_ok cl ([(⟨(i : Int), ((valsI ((prop m ds).getD i 0)).getD q 0), true⟩ : Lit)]) (by simp; omega) rfl (path_lit (by have h9 := path_lt hpp hpl hop; rw [hopI] at h9; exact h9)) (OwnL.lits ocl) ‹_›) (fun v61 H62 f63 h64 => ?_)
      obtain ⟨z65, o67, h66⟩ := h64
      have hme := h66
      refine cT rfl rfl (ih j (by omega) m ((prop m ds).set i (ishl (1 : Int) ((valsI ((prop m ds).getD i 0)).getD q 0))) z65 s1 o1 hM (set_ok hp.ok hvv) (by rw [hme]; exact path_childN hpp hpl hopI hvv) (by rw [hme]; simp; omega) hi30.n hqc.2 l36 hmd hmc (OwnL.ints o51) o67 o32) (fun v68 L1 Ln K69 h70 g71 g72 => ?_)
      obtain ⟨rfl, rfl, v73, H74, K75, s76, o77, rfl, o78, l79, h80⟩ := h70
      have hlm := h80
      refine nm ?_
      refine ln (qc (cr (mv rfl (ic9 rfl rfl (by omega) ?_))))
      refine sg rfl (ln (tk [bxS b [vmd, vmc, v73, .bool o77] 97, H74, K75, Hcl] ?_))
      refine rL ((q + 1), o77, s76, v73, H74, K75) (by (have := hqc.1; omega)) (⟨(by have := hqc.1; omega), (by rw [hme] at hlm; exact lim_step hqc.1 hqc.2 hi30 (by rw [chR_eq hopI]; exact hlm)), l79, o78⟩) (pc 9 rfl pn) (pk [0, 2, 6, 7, 8] rfl) rfl slr9
     ·have c41r := c41
      try simp only [smpE] at c41
      have hqx := c41r
      refine ex9 (qc (cS (cr (mv rfl (kl_nilchk rfl ?_)))))
      refine fV rfl (lB rfl rfl (mv rfl (jn 7 97 (.bool (o1 && decide ((s1.length : Int) < (200 : Int)))) (pk [0, 2, 90] rfl) (fun J83 => ?_) ?_)))
      ·rcases Bool.eq_false_or_eq_true o1 with g81 | g81
       ·have g81p := g81
        try simp only [smpD] at g81p
        refine gT rfl rfl g81 (mv rfl (gT rfl rfl g81 (kl_nilchk rfl ?_)))
        refine gT rfl rfl g81 (fV rfl (gT rfl rfl g81 (lB rfl rfl (gT rfl rfl g81 (lL rfl o32 (fun l82 => ?_))))))
        refine gT rfl rfl g81 (ls9 rfl rfl ?_)
        refine aT rfl rfl g81 ?_
        exact J83 _ (pk [97, 0, 2, 90] rfl)
       ·refine gF rfl rfl g81 (gF rfl rfl g81 (gF rfl rfl g81 (gF rfl rfl g81 (gF rfl rfl g81 (gF rfl rfl g81 (aF (decide ((s1.length : Int) < (200 : Int))) rfl rfl g81 ?_))))))
        exact J83 _ (pk [97, 0, 2, 90] rfl)
      refine ln (qc (cd9 rfl (fun c84 => ?_) (fun c84 => ?_)))
      ·have c84r := c84
       try simp only [smpE] at c84
       have hap := c84r
       refine cr (mv rfl (mv rfl (kl_nilchk rfl ?_)))
       refine fV rfl (lB rfl rfl (mv rfl (bs9 rfl rfl rfl (by decide) (ca (by first | exact Sl.cells ‹_› | exact OwnL.cells ‹_›) ca_nil) (fun v85 H86 f87 r88 s89 => ?_))))
       have h90 := OwnL.lits ocl
       refine cm9 K35 Hcl (fun c91 => ?_)
       have o92 := OwnL.mono (K' := orHp K35 Hcl) o32 orL
       refine aL9 cl rfl rfl o92 ‹_› ⟨_, rfl, Sl.mono ‹_› (orC c91) (fun _ _ h => h)⟩ (oc (OwnL.oneCell ‹_›) oc_nil) (by first | omega | (have h9 := hi30.n; omega)) (by decide) (fun v93 H94 o95 f96 => ?_)
       refine kl_nilchk rfl ?_
       refine fV rfl (sB rfl rfl rfl (OwnL.oneCell ‹_›) (OwnL.cells ‹_›) ?_)
       refine cg [bxS b [vmd, vmc, v93, .bool o1] 97, H94, K35, Hcl] rfl ?_
       refine ln (kq_mrg K35 Hcl ?_)
       exact kq_retT0 rfl [bxS b [vmd, vmc, v93, .bool o1] 97, H94, (orHp K35 Hcl)] [] noHp frn (fr_no _) ⟨rfl, rfl, v93, H94, (orHp K35 Hcl), (s1 ++ [cl]), o1, rfl, o95, (liq_or l36 (And.intro trivial (OwnL.liq ocl)).2), (by rw [ref_node hz hop, hopI]; exact lim_T (lim_all hi30 hqx) hap)⟩
      ·have c84r := c84
       try simp only [smpE] at c84
       have hap := c84r
       refine cr (mv rfl (kl_nilchk rfl ?_))
       refine fV rfl (sB rfl rfl rfl rfl rfl ?_)
       refine cg [bxS b [vmd, vmc, v34, .bool false] 97, H31, K35, Hcl] rfl ?_
       refine ln ?_
       exact kq_retT0 rfl [bxS b [vmd, vmc, v34, .bool false] 97, H31, K35] [] noHp frn (fr_no _) ⟨rfl, rfl, v34, H31, K35, s1, false, rfl, o32, l36, (by rw [ref_node hz hop, hopI]; exact lim_F (lim_all hi30 hqx) hap)⟩
  ·have c6r := c6
   try simp only [smpE] at c6
   have hz : (prop m ds).contains 0 = true := (by simpa using c6r)
   refine sk (qc (cS (cr (mv rfl (kl_nilchk rfl ?_)))))
   refine fV rfl (lB rfl rfl (mv rfl (jn 7 97 (.bool (ok && decide ((sts.length : Int) < (200 : Int)))) (pk [0, 2, 90] rfl) (fun J100 => ?_) ?_)))
   ·rcases Bool.eq_false_or_eq_true ok with g98 | g98
    ·have g98p := g98
     try simp only [smpD] at g98p
     refine gT rfl rfl g98 (mv rfl (gT rfl rfl g98 (kl_nilchk rfl ?_)))
     refine gT rfl rfl g98 (fV rfl (gT rfl rfl g98 (lB rfl rfl (gT rfl rfl g98 (lL rfl of (fun l99 => ?_))))))
     refine gT rfl rfl g98 (ls9 rfl rfl ?_)
     refine aT rfl rfl g98 ?_
     exact J100 _ (pk [97, 0, 2, 90] rfl)
    ·refine gF rfl rfl g98 (gF rfl rfl g98 (gF rfl rfl g98 (gF rfl rfl g98 (gF rfl rfl g98 (gF rfl rfl g98 (aF (decide ((sts.length : Int) < (200 : Int))) rfl rfl g98 ?_))))))
     exact J100 _ (pk [97, 0, 2, 90] rfl)
   refine ln (qc (cd9 rfl (fun c101 => ?_) (fun c101 => ?_)))
   ·have c101r := c101
    try simp only [smpE] at c101
    have hap := c101r
    refine cr (mv rfl (mv rfl (kl_nilchk rfl ?_)))
    refine fV rfl (lB rfl rfl (mv rfl (bs9 rfl rfl rfl (by decide) (ca (by first | exact Sl.cells ‹_› | exact OwnL.cells ‹_›) ca_nil) (fun v102 H103 f104 r105 s106 => ?_))))
    have h107 := OwnL.lits ocl
    refine cm9 Kf Hcl (fun c108 => ?_)
    have o109 := OwnL.mono (K' := orHp Kf Hcl) of orL
    refine aL9 cl rfl rfl o109 ‹_› ⟨_, rfl, Sl.mono ‹_› (orC c108) (fun _ _ h => h)⟩ (oc (OwnL.oneCell ‹_›) oc_nil) (by first | omega | (have h9 := hi30.n; omega)) (by decide) (fun v110 H111 o112 f113 => ?_)
    refine kl_nilchk rfl ?_
    refine fV rfl (sB rfl rfl rfl (OwnL.oneCell ‹_›) (OwnL.cells ‹_›) ?_)
    refine cg [bxS b [vmd, vmc, v110, .bool ok] 97, H111, Kf, Hcl] rfl ?_
    refine ln (kq_mrg Kf Hcl ?_)
    exact kq_retT0 rfl [bxS b [vmd, vmc, v110, .bool ok] 97, H111, (orHp Kf Hcl)] [] noHp frn (fr_no _) ⟨rfl, rfl, v110, H111, (orHp Kf Hcl), (sts ++ [cl]), ok, rfl, o112, (liq_or lq (And.intro trivial (OwnL.liq ocl)).2), (by rw [ref_0 hz]; exact lim_0 hap)⟩
   ·have c101r := c101
    try simp only [smpE] at c101
    have hap := c101r
    refine cr (mv rfl (kl_nilchk rfl ?_))
    refine fV rfl (sB rfl rfl rfl rfl rfl ?_)
    refine cg [bxS b [vmd, vmc, vf, .bool false] 97, Hf, Kf, Hcl] rfl ?_
    refine ln ?_
    exact kq_retT0 rfl [bxS b [vmd, vmc, vf, .bool false] 97, Hf, Kf] [] noHp frn (fr_no _) ⟨rfl, rfl, vf, Hf, Kf, sts, false, rfl, of, lq, (by rw [ref_0 hz]; exact lim_0F hst hok hap)⟩
theorem prover_ok (k : Nat) : proverSt k := by
 induction k using Nat.strongRecOn with
 | _ k ih => exact @prover_step k ih
theorem pinfS_ok {Hmd : Hp} {vmd : Value} {Hmc : Hp} {vmc : Value} (m : Mod) (hmd : Ints Hmd vmd m.doms) (hmc : Cons Hmc vmc m.cons) : Spec Tryz.prog 41 [.agg #[vmd, vmc]] [Hmd, Hmc] (fun Hq vq => ∃ (rq : List (List Lit)) (bq : Bool) (uq0 : Value), vq = .tuple #[uq0, .bool bq] ∧ LRows Hq uq0 rq ∧ (rq, bq) = infR m) := by
 refine spec_of Tryz.func41 rfl rfl rfl (fun B => ?_)
 refine cS (cr (kl_box rfl rfl (fun p1 H2 f3 a4 => ?_)))
 refine sg rfl (sg rfl (ln (qc (cS (cS (cr (kl_ldS rfl ‹_› rfl ?_)))))))
 refine cP rfl rfl (svalidMod_ok m ‹_› ‹_›) ?_
 refine nt9 rfl (ln (qc (cd9 rfl (fun c5 => ?_) (fun c5 => ?_))))
 ·have c5r := c5
  try simp only [smpE] at c5
  have hv := c5r
  refine cS (cr (sg rfl (sg rfl (ln (qc (rt ?_))))))
  exact kq_ret2 rfl rfl rfl noHp (fr_no _) ⟨([]), false, _, rfl, Sl.nil, by first | (rw [inf_nv (by simpa using hv)]; done) | (rw [inf_v hM.v]; first | exact lim_no hlm (by simpa using ho9) | exact lim_yes hlm (by simpa using ho9))⟩
 ·have c5r := c5
  try simp only [smpE] at c5
  have hv := c5r
  have hM : MOk m := ⟨by simpa using hv⟩
  refine sk (qc (cS (cr (kl_ldS rfl ‹_› rfl ?_))))
  refine kl_bdA [(0, [vmd, vmc]), (2, [.bool true])] [vmd, vmc, .slice none 0 0, .bool true] rfl (cpa rfl (cpa rfl cpa_nil)) rfl ?_
  refine kl_boxL (cs := [vmd, vmc, .slice none 0 0, .bool true]) rfl rfl (fun b6 hb7 => ?_)
  refine sg rfl (ln (qc (cS (cr (mv rfl (fd9 rfl ‹_› (fun p8 a9 => ?_)))))))
  refine ld rfl ‹_› (kl_bs0k (K := noHp) LitV rfl (fun v10 H11 f12 o13 => ?_))
  refine kl_no ?_
  refine kl_no ?_
  refine cT rfl rfl (prover_ok m.doms.length m m.doms ([]) [] true hM hM.dok (path_nil _ _) (by simp) (by simp) rfl liq_no ‹_› ‹_› ‹_› o13 (OwnL.nil (K := noHp) (R := LRowV))) (fun v14 L1 Ln K15 h16 g17 g18 => ?_)
  obtain ⟨rfl, rfl, v19, H20, K21, s22, o23, rfl, o24, l25, h26⟩ := h16
  have hlm := h26
  refine nm ?_
  refine kl_fr H20 (OwnL.liq o24) (fun f27 => ?_)
  refine kl_fr K21 l25 (fun f28 => ?_)
  refine ln (qc (cS (cS (cr (mv rfl (kl_nilchk rfl ?_))))))
  refine fV rfl (lB rfl rfl (nt9 rfl (ln (qc (cd9 rfl (fun c29 => ?_) (fun c29 => ?_))))))
  ·have c29r := c29
   try simp only [smpE] at c29
   have ho9 := c29r
   refine cS (cr (sg rfl (sg rfl (ln (qc (rt ?_))))))
   exact kq_ret2 rfl rfl rfl noHp (fr_no _) ⟨([]), false, _, rfl, Sl.nil, by first | (rw [inf_nv (by simpa using hv)]; done) | (rw [inf_v hM.v]; first | exact lim_no hlm (by simpa using ho9) | exact lim_yes hlm (by simpa using ho9))⟩
  ·have c29r := c29
   try simp only [smpE] at c29
   have ho9 := c29r
   refine sk (qc (cS (cr (mv rfl (kl_nilchk rfl ?_)))))
   refine fV rfl (lB rfl rfl (sg rfl (sg rfl (ln (qc (rt (kq_frz H20 ?_)))))))
   refine kq_cmp H20 K21 (fun c30 => ?_)
   exact kq_ret2 rfl rfl rfl (orHp H20 K21) (fr_or f27 f28) ⟨s22, true, _, rfl, (OwnL.lrowsK o24 c30), by first | (rw [inf_nv (by simpa using hv)]; done) | (rw [inf_v hM.v]; first | exact lim_no hlm (by simpa using ho9) | exact lim_yes hlm (by simpa using ho9))⟩
theorem pbS_ok {Hmd : Hp} {vmd : Value} {Hmc : Hp} {vmc : Value} {Hobj : Hp} {vobj : Value} (m : Mod) (obj : List Int) (b : Int) (hmd : Ints Hmd vmd m.doms) (hmc : Cons Hmc vmc m.cons) (hobj : Ints Hobj vobj obj) : Spec Tryz.prog 9 [.agg #[vmd, vmc], vobj, .int .i64 b] [Hmd, Hmc, Hobj] (fun Hq vq => ∃ (rq : List (List Lit)) (bq : Bool) (uq0 : Value), vq = .tuple #[uq0, .bool bq] ∧ LRows Hq uq0 rq ∧ (rq, bq) = pbR m obj b) := by
 refine spec_of Tryz.func9 rfl rfl rfl (fun B => ?_)
 refine cS (cr (kl_box rfl rfl (fun p1 H2 f3 a4 => ?_)))
 refine sg rfl (sg rfl (ln (qc (cS (cS (cr (kl_ldS rfl ‹_› rfl ?_)))))))
 refine cP rfl rfl (svalidMod_ok m ‹_› ‹_›) ?_
 refine nt9 rfl (mv rfl (jn 5 18 (.bool (!(validModB m) || !(objOkS m obj))) (pk [1, 2, 3, 6, 7, 13] rfl) (fun J6 => ?_) ?_))
 ·rcases Bool.eq_false_or_eq_true (!(validModB m)) with g5 | g5
  ·refine gF rfl rfl g5 (gF rfl rfl g5 (gF rfl rfl g5 (gF rfl rfl g5 (oT (!(objOkS m obj)) rfl rfl g5 ?_))))
   exact J6 _ (pk [18, 1, 2, 3, 6, 7, 13] rfl)
  ·have g5p := g5
   try simp only [smpD] at g5p
   refine gT rfl rfl g5 (kl_ldS rfl ‹_› rfl ?_)
   refine gT rfl rfl g5 (mv rfl (gT rfl rfl g5 (cP rfl rfl (validObjective_ok m obj ‹_› ‹_› ‹_›) ?_)))
   refine gT rfl rfl g5 (nt9 rfl (oF rfl rfl g5 ?_))
   exact J6 _ (pk [18, 1, 2, 3, 6, 7, 13] rfl)
 refine mv rfl (jn 4 23 (.bool ((!(validModB m) || !(objOkS m obj)) || !(withinB b (-998 : Int) (1000 : Int)))) (pk [1, 2, 3, 6, 7, 19] rfl) (fun J8 => ?_) ?_)
 ·rcases Bool.eq_false_or_eq_true (!(validModB m) || !(objOkS m obj)) with g7 | g7
  ·refine gF rfl rfl g7 (gF rfl rfl g7 (gF rfl rfl g7 (oT (!(withinB b (-998 : Int) (1000 : Int))) rfl rfl g7 ?_)))
   exact J8 _ (pk [23, 1, 2, 3, 6, 7, 19] rfl)
  ·have g7p := g7
   try simp only [smpD] at g7p
   refine gT rfl rfl g7 (mv rfl (gT rfl rfl g7 (cP rfl rfl (inRange_ok b (-998 : Int) (1000 : Int)) ?_)))
   refine gT rfl rfl g7 (nt9 rfl (oF rfl rfl g7 ?_))
   exact J8 _ (pk [23, 1, 2, 3, 6, 7, 19] rfl)
 refine ln (qc (cd9 rfl (fun c9 => ?_) (fun c9 => ?_)))
 ·have c9r := c9
  try simp only [smpE] at c9
  have hgs := c9r
  rw [bd_cS] at hgs
  have hno := hgs
  refine cS (cr (sg rfl (sg rfl (ln (qc (rt ?_))))))
  exact kq_ret2 rfl rfl rfl noHp (fr_no _) ⟨([]), false, _, rfl, Sl.nil, by first | (rw [pb_no (by rw [bd_no hno])]; done) | (rw [pb_no (by rw [bd_yes hgo, ← e92]; simpa using hz9)]; done) | (rw [pb_yes (by rw [bd_yes hgo, ← e92]; simpa using hz9), bd_yes hgo, ← e91]; exact hpi)⟩
 ·have c9r := c9
  try simp only [smpE] at c9
  have hgs := c9r
  rw [bd_cS] at hgs
  have hgo := hgs
  have hok := bd_ok hgo
  refine sk (qc (cS (cr (kl_ldS rfl ‹_› rfl ?_))))
  refine mv rfl (mv rfl (kl_call rfl rfl (improvS_ok m obj b hok.2.2.1 hok.2.2.2.1 hok.2.2.2.2 ‹_› ‹_› ‹_›) (fun v10 H11 f12 h13 => ?_)))
  obtain ⟨z16, z21, u17, u18, rfl, h19, h20, h15⟩ := h13
  obtain ⟨e91, e92⟩ := pairOf h15
  refine mv rfl (kl_xt rfl rfl (kl_xt rfl rfl (kl_alloc (cs := [.slice none 0 0, .slice none 0 0]) rfl (fun b22 hb23 => ?_))))
  refine kl_stW (us := [u17, u18]) rfl rfl rfl rfl (oc (Sl.oneCell ‹_›) (oc (Sl.oneCell ‹_›) oc_nil)) rfl ?_
  refine cg [bxS b22 [u17, u18] 26] rfl ?_
  refine sg rfl (ln (qc (cS (cS (cr (mv rfl (nt9 rfl (ln (qc (cd9 rfl (fun c24 => ?_) (fun c24 => ?_)))))))))))
  ·have c24r := c24
   try simp only [smpE] at c24
   have hz9 := c24r
   refine cS (cr (sg rfl (sg rfl (ln (qc (rt ?_))))))
   exact kq_ret2 rfl rfl rfl noHp (fr_no _) ⟨([]), false, _, rfl, Sl.nil, by first | (rw [pb_no (by rw [bd_no hno])]; done) | (rw [pb_no (by rw [bd_yes hgo, ← e92]; simpa using hz9)]; done) | (rw [pb_yes (by rw [bd_yes hgo, ← e92]; simpa using hz9), bd_yes hgo, ← e91]; exact hpi)⟩
  ·have c24r := c24
   try simp only [smpE] at c24
   have hz9 := c24r
   refine sk (qc (cS (cr (kl_ldW rfl rfl (kl_call rfl rfl (pinfS_ok z16 ‹_› ‹_›) (fun v25 H26 f27 h28 => ?_))))))
   obtain ⟨z31, z34, u32, rfl, h33, h30⟩ := h28
   have hpi := h30
   refine kl_xt rfl rfl (kl_xt rfl rfl (sg rfl (sg rfl (ln (qc (rt ?_))))))
   exact kq_ret2 rfl rfl rfl H26 f27 ⟨z31, z34, _, rfl, ‹_›, by first | (rw [pb_no (by rw [bd_no hno])]; done) | (rw [pb_no (by rw [bd_yes hgo, ← e92]; simpa using hz9)]; done) | (rw [pb_yes (by rw [bd_yes hgo, ← e92]; simpa using hz9), bd_yes hgo, ← e91]; exact hpi)⟩
end
section
theorem isNaN_ok (x : Int) : SpecP Tryz.prog 196 [.int .i64 x] [] (.bool false) := by
 refine spec_of Tryz.func196 rfl rfl rfl (fun B => ?_)
 refine cS (cr (sg rfl (ln (qc (cS (cr (mv rfl (mv rfl (kl_neq rfl rfl ?_)))))))))
 refine sg rfl (ln (qc (rt (kq_retP rfl rfl (congrArg Value.bool ?_)))))
 simp
theorem cmpInt_ok (a : Int) (b : Int) : SpecP Tryz.prog 185 [.int .i64 a, .int .i64 b] [] (.int .i64 (cmpI a b)) := by
 refine spec_of Tryz.func185 rfl rfl rfl (fun B => ?_)
 refine cS (cr (sg rfl (ln (qc (cS (cr (mv rfl (cP rfl rfl (isNaN_ok a) ?_))))))))
 refine sg rfl (ln (qc (cS (cr (mv rfl (cP rfl rfl (isNaN_ok b) ?_))))))
 refine sg rfl (ln (qc (cS (cS (cr (mv rfl (ln (qc (cd9 rfl (fun c1 => ?_) (fun c1 => ?_))))))))))
 ·have c1r := c1
  try simp only [smpE] at c1
  exact absurd c1r (by decide)
 ·have c1r := c1
  try simp only [smpE] at c1
  refine sk (qc (cS (cS (cr (mv rfl (ln (qc (cd9 rfl (fun c2 => ?_) (fun c2 => ?_)))))))))
  ·have c2r := c2
   try simp only [smpE] at c2
   exact absurd c2r (by decide)
  ·have c2r := c2
   try simp only [smpE] at c2
   refine sk (qc (cS (cS (cr (mv rfl (mv rfl (ls9 rfl rfl ?_)))))))
   refine ln (qc (ci9 rfl (fun c3 => ?_) (fun c3 => ?_)))
   ·refine cS (cr (sg rfl (ln (qc (rt (kq_retP rfl rfl (congrArg (Value.int .i64) ?_)))))))
    exact cmpI_1 ‹_›
   ·refine sk (qc (cS (cS (cr (mv rfl (mv rfl (kl_gtr rfl rfl ?_)))))))
    refine ln (qc (ci9 rfl (fun c4 => ?_) (fun c4 => ?_)))
    ·refine cS (cr (sg rfl (ln (qc (rt (kq_retP rfl rfl (congrArg (Value.int .i64) ?_)))))))
     exact cmpI_2 ‹_› ‹_›
    ·refine sk (qc (cS (cr (sg rfl (ln (qc (rt (kq_retP rfl rfl (congrArg (Value.int .i64) ?_)))))))))
     exact cmpI_3 ‹_› ‹_›
end
section
theorem orInt_ok {Hxs : Hp} {vxs : Value} (xs : List Int) (hxs : Ints Hxs vxs xs) : SpecP Tryz.prog 184 [vxs] [Hxs] (.int .i64 (orI xs)) := by
 refine spec_of Tryz.func184 rfl rfl rfl (fun B => ?_)
 refine cS (cr (sg rfl (ln (qc (cS (cr (sg rfl (ln (qc (cS (cS (cr (mv rfl (le9 rfl ‹_› (fun l1 => ?_)))))))))))))))
 refine mv rfl (ln (qc (bl (kc_loop0 (A := Nat) (fun zz => (zz ≤ xs.length) ∧ ((xs.take zz).all (fun x => decide (x = 0)) = true)) (fun zz => xs.length - zz) (fun zz => [(8, .int .i64 (zz : Int))]) (0) (pk [3, 6, 7] rfl) (pc 8 rfl pn) ⟨Nat.zero_le _, by simp⟩ ?_))))
 rintro k hJ4
 obtain ⟨hk2, hi3⟩ : (k ≤ xs.length) ∧ ((xs.take k).all (fun x => decide (x = 0)) = true) := hJ4
 change KC _ _ (_) _ _ ([(8, .int .i64 (k : Int))] ++ _)
 refine cS (cr (ls9 rfl rfl ?_))
 refine ln (qc (cS (ci9 rfl (fun c5 => ?_) (fun c5 => ?_))))
 ·refine sk (qc (cS (bl (cS (cr (kl_inI rfl rfl ‹_› (by omega) (fun p6 a7 => ?_)))))))
  refine ld rfl ‹_› (sg rfl (ln (qc (cS (cr (mv rfl (mv rfl (kl_neq rfl rfl ?_))))))))
  refine ln (qc (ci9 rfl (fun c8 => ?_) (fun c8 => ?_)))
  ·refine cS (cr (mv rfl (sg rfl (ln (qc (rt (kq_retP rfl rfl (congrArg (Value.int .i64) ?_))))))))
   exact orI_at (by omega) hi3 ‹_›
  ·refine sk (qc (cr (ic9 rfl rfl (by omega) ?_)))
   refine mv rfl (ln (kq_round0 ((k + 1)) (by omega) (⟨by omega, all0_step (by omega) hi3 ‹_›⟩) (pc 8 rfl pn) (pk [3, 6, 7] rfl) slr9))
 ·refine ex9 (qc (cS (cr (mv rfl (sg rfl (ln (qc (rt (kq_retP rfl rfl (congrArg (Value.int .i64) ?_))))))))))
  exact all0_end (by omega) hi3
theorem litCmp_ok (a : Lit) (b : Lit) : SpecP Tryz.prog 163 [.agg #[.int .i64 a.var, .int .i64 a.val, .bool a.neg], .agg #[.int .i64 b.var, .int .i64 b.val, .bool b.neg]] [] (.int .i64 (litCmp a b)) := by
 refine spec_of Tryz.func163 rfl rfl rfl (fun B => ?_)
 refine cS (cr (kl_box rfl rfl (fun p1 H2 f3 a4 => ?_)))
 refine kl_box rfl rfl (fun p5 H6 f7 a8 => ?_)
 refine sg rfl (ln (qc (cS (cr (kl_mkMap (fun b9 hb10 => ?_))))))
 refine kl_insB rfl rfl rfl ?_
 refine fZ (sing b9 (.map #[⟨.bool true, .int .i64 (1 : Int), 0⟩] 1)) ?_
 refine mv rfl (sg rfl (ln (qc (cS (kc_tree (fun i => ([18, 19, 20] : List Nat).contains i) [] (by kernel_rfl) ?_)))))
 refine tq 0 nsl rfl (fd9 rfl ‹_› (fun p11 a12 => ?_))
 refine ln (qq (tq 1 nsl rfl (ld rfl ‹_› (ln (qq (tq 2 nsl rfl (fd9 rfl ‹_› (fun p13 a14 => ?_))))))))
 refine ln (qq (tq 3 nsl rfl (ld rfl ‹_› (ln (qq (tq 5 nsl rfl (fd9 rfl ‹_› (fun p15 a16 => ?_))))))))
 refine ln (qq (tq 6 nsl rfl (ld rfl ‹_› (ln (qq (tq 7 nsl rfl (fd9 rfl ‹_› (fun p17 a18 => ?_))))))))
 refine ln (qq (tq 8 nsl rfl (ld rfl ‹_› (ln (qq (tq 10 nsl rfl (mv rfl (ln (qq (tq 11 nsl rfl (fd9 rfl ‹_› (fun p19 a20 => ?_))))))))))))
 refine ln (qq (tq 12 nsl rfl (ld rfl ‹_› (ln (qq (tq 13 nsl rfl (kl_lkB rfl rfl ?_)))))))
 refine ln (qq (tq 14 nsl rfl (mv rfl (ln (qq (tq 15 nsl rfl (fd9 rfl ‹_› (fun p21 a22 => ?_))))))))
 refine ln (qq (tq 16 nsl rfl (ld rfl ‹_› (ln (qq (tq 17 nsl rfl (kl_lkB rfl rfl ?_)))))))
 refine ln (qq (ta 4 rfl (cP rfl rfl (cmpInt_ok a.var b.var) ?_)))
 refine ln (qa nsl (ta 9 rfl (cP rfl rfl (cmpInt_ok a.val b.val) ?_)))
 refine ln (qa nsl (ta 18 rfl (cP rfl rfl (cmpInt_ok (if a.neg = true then 1 else 0) (if b.neg = true then 1 else 0)) ?_)))
 refine ln (qx rfl (ta 19 rfl (bs9 rfl rfl rfl (by decide) (ca rfl (ca rfl (ca rfl ca_nil))) (fun v23 H24 f25 r26 s27 => ?_))))
 have h28 : Ints H24 v23 [(cmpI a.var b.var), (cmpI a.val b.val), (cmpI (if a.neg = true then 1 else 0) (if b.neg = true then 1 else 0))] := litInts (xs := [(cmpI a.var b.var), (cmpI a.val b.val), (cmpI (if a.neg = true then 1 else 0) (if b.neg = true then 1 else 0))]) (by simpa using s27)
 refine ln (qx rfl (ta 20 rfl (cP rfl rfl (orInt_ok ([(cmpI a.var b.var), (cmpI a.val b.val), (cmpI (if a.neg = true then 1 else 0) (if b.neg = true then 1 else 0))]) ‹_›) ?_)))
 refine ln (qx rfl (tq 21 nsl rfl (sg rfl (ln (qq (kt_end (by kernel_rfl) ?_))))))
 refine qc (rt (kq_retP rfl rfl (congrArg (Value.int .i64) ?_)))
 rfl
end
section
theorem lenZ64_ok (x : Int) (hb : 0 ≤ x ∧ x < 64) : Spec Tryz.prog 208 [.int .u64 x] [] (fun Hq vq => ∃ z : Int, vq = .int .i64 z ∧ 0 ≤ z ∧ z ≤ 100) := by
 refine spec_of Tryz.func208 rfl rfl rfl (fun B => ?_)
 refine cS (cr (sg rfl (ln (qc (cS (cS (cr (mv rfl (kl_geqK rfl rfl ?_)))))))))
 refine ln (qc (ci9 rfl (fun c1 => ?_) (fun c1 => ?_)))
 ·exfalso; omega
 ·refine sk (qc (cS (cS (cr (mv rfl (kl_geqK rfl rfl ?_))))))
  refine ln (qc (ci9 rfl (fun c2 => ?_) (fun c2 => ?_)))
  ·exfalso; omega
  ·refine sk (qc (cS (cS (cr (mv rfl (kl_geqK rfl rfl ?_))))))
   refine ln (qc (ci9 rfl (fun c3 => ?_) (fun c3 => ?_)))
   ·exfalso; omega
   ·refine sk (qc (cS (cr (mv rfl (mv rfl (kl_cv rfl ?_))))))
    refine kl_ixLen0 (m := x) (by kernel_rfl) rfl hb (fun z4 h5 => ?_)
    refine kl_cvi rfl (by omega) ?_
    refine ad9 rfl rfl (by omega) ?_
    refine sg rfl (ln (qc (rt ?_)))
    exact kq_retP rfl rfl ⟨_, rfl, by omega⟩
theorem lenZ_ok (x : Int) (hb : 0 ≤ x ∧ x < 64) : Spec Tryz.prog 194 [.int .u64 x] [] (fun Hq vq => ∃ z : Int, vq = .int .i64 z ∧ 0 ≤ z ∧ z ≤ 100) := by
 refine spec_of Tryz.func194 rfl rfl rfl (fun B => ?_)
 refine cS (cr (sg rfl (ln (qc (cS (kc_condF ?_))))))
 refine sk (qc (cS (cr (mv rfl (kl_call rfl rfl (lenZ64_ok x hb) (fun v1 H2 f3 h4 => ?_))))))
 obtain ⟨z5, rfl, h6⟩ := h4
 refine sg rfl (ln (qc (rt ?_)))
 exact kq_retP rfl rfl ⟨_, rfl, by omega⟩
theorem insL_ok {Hs : Hp} {vs : Value} (xs : List Lit) (a b : Int) (ha : a = 0) (hb : b = (xs.length : Int)) (hn : xs.length ≤ 12) (os : OwnL 100 3 Hs noHp LitV vs xs) : SpecT Tryz.prog 199 [vs, .int .i64 a, .int .i64 b, .func (.func 163) #[] #[]] [Hs] [] (fun vq L1 Ln _ => ∃ (Hq : Hp) (ys : List Lit), L1 = [Hq] ∧ Ln = [] ∧ OwnL 100 3 Hq noHp LitV vs ys ∧ SrtA litCmp nilLit xs ys xs.length) := by
 subst ha
 subst hb
 have hlen := os.len
 refine specT_of Tryz.func199 rfl rfl rfl (fun B => ?_)
 refine cS (cr (mv rfl (ad9 rfl rfl (by omega) ?_)))
 refine sg rfl (ln (qc (bl (kc_loopL (A := Nat × List Lit × Hp) (fun zz => (1 ≤ zz.1) ∧ (SrtA litCmp nilLit xs zz.2.1 zz.1) ∧ OwnL 100 3 zz.2.2 noHp LitV vs zz.2.1) (fun zz => xs.length - zz.1) (fun zz => [zz.2.2]) (fun zz => [(8, .int .i64 (zz.1 : Int))]) (1, xs, Hs) (pk [0, 1, 2, 3] rfl) (pc 8 rfl pn) rfl ⟨(Nat.le_refl 1), (SrtA.zero _), os⟩ ?_))))
 rintro ⟨i, ys, H3⟩ hJ6
 obtain ⟨hk1, hi2, o4⟩ : (1 ≤ i) ∧ (SrtA litCmp nilLit xs ys i) ∧ OwnL 100 3 H3 noHp LitV vs ys := hJ6
 change KC _ _ (_) [H3] _ ([(8, .int .i64 (i : Int))] ++ _)
 have hyl := hi2.perm.length_eq
 refine cS (cS (cr (mv rfl (mv rfl (ls9 rfl rfl ?_)))))
 refine ln (qc (ci9 rfl (fun c7 => ?_) (fun c7 => ?_)))
 ·refine sk (qc (cS (bl (cS (cr (mv rfl (sg rfl (ln (qc (bl ?_))))))))))
  refine kc_loopL (A := Nat × Int × List Lit × Hp) (fun zz => (zz.1 ≤ i) ∧ (zz.2.1 = (zz.1 : Int) ∧ InsA litCmp nilLit xs zz.2.2.1 i zz.1) ∧ OwnL 100 3 zz.2.2.2 noHp LitV vs zz.2.2.1) (fun zz => zz.1) (fun zz => [zz.2.2.2]) (fun zz => [(9, .int .i64 zz.2.1)]) (i, (i : Int), ys, H3) (pk [0, 1, 2, 3, 8, 12, 13, 14, 17] rfl) (pc 9 rfl pn) rfl ⟨(Nat.le_refl _), ⟨rfl, SrtA.go hi2⟩, o4⟩ ?_
  rintro ⟨j, z, ws, H10⟩ hJ13
  obtain ⟨hk8, hi9, o11⟩ : (j ≤ i) ∧ (z = (j : Int) ∧ InsA litCmp nilLit xs ws i j) ∧ OwnL 100 3 H10 noHp LitV vs ws := hJ13
  change KC _ _ (_) [H10] _ ([(9, .int .i64 z)] ++ _)
  have hz := hi9.1
  have hwl := hi9.2.perm.length_eq
  refine cS (cS (kc_draw 17 [true, true, true, true, true, true, true, true, true, true, true, true, true, true, false, true, true] (by kernel_rfl) (by kernel_rfl) ?_))
  refine mv rfl (mv rfl (kl_gtr rfl rfl ?_))
  refine mv rfl (jn 13 34 (.bool (decide ((0 : Int) < z) && decide ((litCmp (ws.getD z.toNat nilLit) (ws.getD ((z - (1 : Int)).toNat) nilLit)) < (0 : Int)))) (pk [0, 1, 2, 3, 8, 9, 12, 13, 14, 17, 18, 19, 20, 21] rfl) (fun J19 => ?_) ?_)
  ·rcases Bool.eq_false_or_eq_true (decide ((0 : Int) < z)) with g14 | g14
   ·have g14p := of_decide_eq_true g14
    refine gT rfl rfl g14 (mv rfl (gT rfl rfl g14 (mv rfl (gT rfl rfl g14 (mv rfl (gT rfl rfl g14 (kl_ixL rfl rfl ‹_› (by first | omega | (simp only [List.length_set]; omega)) (by first | omega | (simp only [List.length_set]; omega)) (fun p15 q16 => ?_))))))))
    refine gT rfl rfl g14 (kl_ldSL rfl (OwnL.atQ o11 ‹_› (by first | omega | (simp only [List.length_set]; omega) : z.toNat < ws.length)) rfl ?_)
    refine gT rfl rfl g14 (mv rfl (gT rfl rfl g14 (mv rfl (gT rfl rfl g14 (sb9 rfl rfl (by omega) ?_)))))
    refine gT rfl rfl g14 (kl_ixL rfl rfl ‹_› (by first | omega | (simp only [List.length_set]; omega)) (by first | omega | (simp only [List.length_set]; omega)) (fun p17 q18 => ?_))
    refine gT rfl rfl g14 (kl_ldSL rfl (OwnL.atQ o11 ‹_› (by first | omega | (simp only [List.length_set]; omega) : (z - (1 : Int)).toNat < ws.length)) rfl ?_)
    refine gT rfl rfl g14 (cP rfl rfl (litCmp_ok (ws.getD z.toNat nilLit) (ws.getD ((z - (1 : Int)).toNat) nilLit)) ?_)
    refine gT rfl rfl g14 (ls9 rfl rfl ?_)
    refine aT rfl rfl g14 ?_
    exact J19 _ (pk [34, 0, 1, 2, 3, 8, 9, 12, 13, 14, 17, 18, 19, 20, 21] rfl)
   ·refine gF rfl rfl g14 (gF rfl rfl g14 (gF rfl rfl g14 (gF rfl rfl g14 (gF rfl rfl g14 (gF rfl rfl g14 (gF rfl rfl g14 (gF rfl rfl g14 (gF rfl rfl g14 ?_))))))))
    refine gF rfl rfl g14 (gF rfl rfl g14 (gF rfl rfl g14 (aF (decide ((litCmp (ws.getD z.toNat nilLit) (ws.getD ((z - (1 : Int)).toNat) nilLit)) < (0 : Int))) rfl rfl g14 ?_)))
    exact J19 _ (pk [34, 0, 1, 2, 3, 8, 9, 12, 13, 14, 17, 18, 19, 20, 21] rfl)
  refine ln (qc (cd9 rfl (fun c20 => ?_) (fun c20 => ?_)))
  ·have c20r := c20
   try simp only [smpE] at c20
   refine sk (qc (cS (bl (kc_tree (fun i => ([2, 3, 4, 15, 16, 17] : List Nat).contains i) [H10] (by kernel_rfl) ?_))))
   refine kt_p 2 rfl rfl (by kernel_rfl) (py_mv rfl) ?_
   refine kt_p 3 rfl rfl (by kernel_rfl) (py_mv rfl) ?_
   refine kt_p 4 rfl rfl (by kernel_rfl) (py_sub rfl rfl (by omega)) ?_
   refine tq 0 (.cons_cons _ nsl) rfl (mv rfl (ln (qq (tq 1 (.cons_cons _ nsl) rfl (mv rfl (ln (qq (tq 5 (.cons_cons _ nsl) rfl (mv rfl (ln (qq ?_)))))))))))
   refine tq 6 (.cons_cons _ nsl) rfl (mv rfl (ln (qq (tq 7 (.cons_cons _ nsl) rfl (sb9 rfl rfl (by omega) ?_)))))
   refine ln (qq (tq 8 (.cons_cons _ nsl) rfl (kl_ixL rfl rfl ‹_› (by first | omega | (simp only [List.length_set]; omega)) (by first | omega | (simp only [List.length_set]; omega)) (fun p21 q22 => ?_))))
   refine ln (qq (tq 9 (.cons_cons _ nsl) rfl (kl_ldS rfl (OwnL.atQ o11 ‹_› (by first | omega | (simp only [List.length_set]; omega) : (z - (1 : Int)).toNat < ws.length)) rfl ?_)))
   refine ln (qq (tq 10 (.cons_cons _ nsl) rfl (mv rfl (ln (qq (tq 11 (.cons_cons _ nsl) rfl (mv rfl (ln (qq (tq 12 (.cons_cons _ nsl) rfl (kl_ixL rfl rfl ‹_› (by first | omega | (simp only [List.length_set]; omega)) (by first | omega | (simp only [List.length_set]; omega)) (fun p23 q24 => ?_))))))))))))
   refine ln (qq (tq 13 (.cons_cons _ nsl) rfl (kl_ldS rfl (OwnL.atQ o11 ‹_› (by first | omega | (simp only [List.length_set]; omega) : z.toNat < ws.length)) rfl ?_)))
   refine ln (qq (tq 14 (.cons_cons _ nsl) rfl (kl_ixL rfl rfl ‹_› (by first | omega | (simp only [List.length_set]; omega)) (by first | omega | (simp only [List.length_set]; omega)) (fun p25 q26 => ?_))))
   refine ln (qq (ta 15 rfl (kl_stLk (us := [.int .i64 ((ws.getD ((z - (1 : Int)).toNat) nilLit).var), .int .i64 ((ws.getD ((z - (1 : Int)).toNat) nilLit).val), .bool ((ws.getD ((z - (1 : Int)).toNat) nilLit).neg)]) (ws.getD ((z - (1 : Int)).toNat) nilLit) rfl rfl ‹_› o11 (by first | omega | (simp only [List.length_set]; omega)) rfl rfl (oc rfl (oc rfl (oc rfl oc_nil))) rfl (fun H27 o28 f29 => ?_))))
   refine cg [H27] rfl ?_
   refine ln (qx rfl (ta 16 rfl (kl_ixL rfl rfl ‹_› (by first | omega | (simp only [List.length_set]; omega)) (by first | omega | (simp only [List.length_set]; omega)) (fun p31 q32 => ?_))))
   refine ln (qx rfl (ta 17 rfl (kl_stLk (us := [.int .i64 ((ws.getD z.toNat nilLit).var), .int .i64 ((ws.getD z.toNat nilLit).val), .bool ((ws.getD z.toNat nilLit).neg)]) (ws.getD z.toNat nilLit) rfl rfl ‹_› o28 (by first | omega | (simp only [List.length_set]; omega)) rfl rfl (oc rfl (oc rfl (oc rfl oc_nil))) rfl (fun H33 o34 f35 => ?_))))
   refine cg [H33] rfl ?_
   refine ln (qx rfl (kt_end (by kernel_rfl) ?_))
   refine qc (cr (mv rfl (sb9 rfl rfl (by omega) ?_)))
   refine sg rfl (ln (tk [H33] ?_))
   refine rL ((j - 1), (z - (1 : Int)), ((ws.set z.toNat (ws.getD ((z - (1 : Int)).toNat) nilLit)).set ((z - (1 : Int)).toNat) (ws.getD z.toNat nilLit)), H33) (by omega) (⟨(by omega), (so_step litC_tot hi9 (by omega) ‹_›), o34⟩) (pc 9 rfl pn) (pk [0, 1, 2, 3, 8, 12, 13, 14, 17] rfl) rfl slr9
  ·have c20r := c20
   try simp only [smpE] at c20
   refine ex9 (qc (cr (mv rfl (ic9 rfl rfl (by omega) ?_))))
   refine sg rfl (ln (tk [H10] ?_))
   refine rL ((i + 1), ws, H10) (by omega) (⟨by omega, (so_exit litC_tot hi9 ‹_›), o11⟩) (pc 8 rfl pn) (pk [0, 1, 2, 3] rfl) rfl slr9
 ·refine ex9 ?_
  exact kq_retT0 rfl [H3] [] noHp frn (fr_no _) ⟨H3, _, rfl, rfl, o4, (SrtA.le hi2 (by omega))⟩
theorem pdqL_ok {Hs : Hp} {vs : Value} (xs : List Lit) (l : Int) (hn : xs.length ≤ 12) (os : OwnL 100 3 Hs noHp LitV vs xs) : SpecT Tryz.prog 193 [vs, .int .i64 0, .int .i64 (xs.length : Int), .int .i64 l, .func (.func 163) #[] #[]] [Hs] [] (fun vq L1 Ln _ => ∃ (Hq : Hp) (ys : List Lit), L1 = [Hq] ∧ Ln = [] ∧ OwnL 100 3 Hq noHp LitV vs ys ∧ SrtA litCmp nilLit xs ys xs.length) := by
 have hlen := os.len
 refine specT_of Tryz.func193 rfl rfl rfl (fun B => ?_)
 refine cS (cr (sg rfl (ln (qc (cS (cr (sg rfl (ln (qc (bl (kc_loop0 (A := Int × Int × Int × Bool × Bool) (fun zz => (zz.1 = 0 ∧ zz.2.1 = (xs.length : Int))) (fun zz => 0) (fun zz => [(1, .int .i64 zz.1), (2, .int .i64 zz.2.1), (3, .int .i64 zz.2.2.1), (10, .bool zz.2.2.2.1), (11, .bool zz.2.2.2.2)]) ((0 : Int), (xs.length : Int), l, true, true) (pk [0, 4] rfl) (pk [1, 2, 3, 10, 11] rfl) (⟨rfl, rfl⟩) ?_)))))))))))
 rintro ⟨za, zb, zl, p, q⟩ hJ3
 have hi2 : (za = 0 ∧ zb = (xs.length : Int)) := hJ3
 change KC _ _ (_) _ _ ([(1, .int .i64 za), (2, .int .i64 zb), (3, .int .i64 zl), (10, .bool p), (11, .bool q)] ++ _)
 refine bl (cS (cr (mv rfl (mv rfl (sb9 rfl rfl (by omega) ?_)))))
 refine sg rfl (ln (qc (cS (cS (cr (mv rfl (kl_leq rfl rfl ?_)))))))
 refine ln (qc (ci9 rfl (fun c4 => ?_) (fun c4 => ?_)))
 ·refine cS (cr (mv rfl (mv rfl (mv rfl (mv rfl (cT rfl rfl (insL_ok xs za zb (by omega) (by omega)  (by omega) os) (fun v5 L1 Ln K6 h7 g8 g9 => ?_)))))))
  obtain ⟨H10, y11, rfl, rfl, o12, h13⟩ := h7
  refine nm ?_
  refine ln (qc (rt ?_))
  exact kq_retT0 rfl [H10] [] noHp frn (fr_no _) ⟨H10, _, rfl, rfl, o12, h13⟩
 ·exfalso; omega
theorem srtL_ok {Hs : Hp} {vs : Value} (xs : List Lit) (hn : xs.length ≤ 12) (os : OwnL 100 3 Hs noHp LitV vs xs) : SpecT Tryz.prog 180 [vs, .func (.func 163) #[] #[]] [Hs] [] (fun vq L1 Ln _ => ∃ (Hq : Hp) (ys : List Lit), L1 = [Hq] ∧ Ln = [] ∧ OwnL 100 3 Hq noHp LitV vs ys ∧ SrtA litCmp nilLit xs ys xs.length) := by
 have hlen := os.len
 refine specT_of Tryz.func180 rfl rfl rfl (fun B => ?_)
 refine cS (cr (mv rfl (lL rfl os (fun l1 => ?_))))
 refine sg rfl (ln (qc (cr (mv rfl (mv rfl (mv rfl (kl_cvu rfl (by omega) ?_)))))))
 refine kl_call rfl rfl (lenZ_ok (xs.length : Int) (by omega)) (fun v2 H3 f4 h5 => ?_)
 obtain ⟨z6, rfl, h7⟩ := h5
 refine mv rfl (cT rfl rfl (pdqL_ok xs z6  (by omega) os) (fun v8 L1 Ln K9 h10 g11 g12 => ?_))
 obtain ⟨H13, y14, rfl, rfl, o15, h16⟩ := h10
 refine nm ?_
 refine ln ?_
 exact kq_retT0 rfl [H13] [] noHp frn (fr_no _) ⟨H13, _, rfl, rfl, o15, h16⟩
theorem compactL_ok {Hxs : Hp} {vxs : Value} (xs : List Lit) (hd : ∀ k : Nat, 0 < k → k < xs.length → xs.getD k nilLit ≠ xs.getD ((k : Int) - 1).toNat nilLit) (hxs : Lits Hxs vxs xs) : Spec Tryz.prog 182 [vxs] [Hxs] ((fun Hq vq => vq = vxs)) := by
 refine spec_of Tryz.func182 rfl rfl rfl (fun B => ?_)
 refine cS (cr (sg rfl (ln (qc (cS (cS (cr (mv rfl (le9 rfl ‹_› (fun l1 => ?_))))))))))
 refine ls9 rfl rfl ?_
 refine ln (qc (ci9 rfl (fun c2 => ?_) (fun c2 => ?_)))
 ·refine cS (cr (mv rfl (sg rfl (ln (qc (rt ?_))))))
  exact kq_ret rfl rfl noHp (fr_no _) rfl
 ·refine sk (qc (cS (cS (cr (sg rfl (ln (qc (bl (kc_loop0 (A := Nat) (fun zz => (1 ≤ zz) ∧ (True)) (fun zz => xs.length - zz) (fun zz => [(3, .int .i64 (zz : Int))]) (1) (pc 0 rfl pn) (pc 3 rfl pn) ⟨(Nat.le_refl 1), trivial⟩ ?_)))))))))
  rintro k hJ5
  obtain ⟨hk3, hi4⟩ : (1 ≤ k) ∧ (True) := hJ5
  change KC _ _ (_) _ _ ([(3, .int .i64 (k : Int))] ++ _)
  refine cS (cS (cr (mv rfl (mv rfl (le9 rfl ‹_› (fun l6 => ?_))))))
  refine ls9 rfl rfl ?_
  refine ln (qc (ci9 rfl (fun c7 => ?_) (fun c7 => ?_)))
  ·refine sk (qc (cS (bl (cS (kc_draw 10 [true, true, true, true, true, true, true, true, true, true] (by kernel_rfl) (by kernel_rfl) ?_)))))
   refine mv rfl (mv rfl (kl_inQ rfl rfl ‹_› (by omega) (fun p8 a9 => ?_)))
   refine kl_ldS rfl ‹_› rfl ?_
   refine mv rfl (mv rfl (sb9 rfl rfl (by omega) ?_))
   refine kl_ixQ rfl rfl ‹_› (by omega) (by omega) (fun p10 a11 => ?_)
   refine kl_ldS rfl ‹_› rfl ?_
   refine kl_eqlQ rfl rfl ?_
   refine ln (qc (cd9 rfl (fun c12 => ?_) (fun c12 => ?_)))
   ·have c12r := c12
    try simp only [smpE] at c12
    exact absurd c12 (hd k (by omega) (by omega))
   ·have c12r := c12
    try simp only [smpE] at c12
    refine sk (qc (cr (mv rfl (ic9 rfl rfl (by omega) ?_))))
    refine sg rfl (ln (kq_round0 ((k + 1)) (by omega) (⟨by omega, trivial⟩) (pc 3 rfl pn) (pc 0 rfl pn) slr9))
  ·refine ex9 (qc (cS (cr (mv rfl (sg rfl (ln (qc (rt ?_))))))))
   exact kq_ret rfl rfl noHp (fr_no _) rfl
theorem cloneL_ok {Hxs : Hp} {vxs : Value} (xs : List Lit) (hb : xs.length ≤ 1000) (hxs : Lits Hxs vxs xs) : Spec Tryz.prog 113 [vxs] [Hxs] (fun Hq vq => OwnL 100 3 Hq noHp LitV vq xs) := by
 refine spec_of Tryz.func113 rfl rfl rfl (fun B => ?_)
 refine cS (cr (sg rfl (ln (qc (cS (cS (cr (mv rfl (kl_eqlnilX rfl rfl ‹_› (fun bn nn nx => ?_))))))))))
 refine ln (qc (cd9 rfl (fun c3 => ?_) (fun c3 => ?_)))
 ·have c3r := c3
  try simp only [smpE] at c3
  refine cS (cr (sg rfl (ln (qc (rt ?_)))))
  exact kq_ret rfl rfl noHp (fr_no _) (by rw [nn ‹_›]; exact OwnL.nil)
 ·have c3r := c3
  try simp only [smpE] at c3
  refine sk (qc (cS (cr (kl_bs0k (K := noHp) LitV rfl (fun v4 H5 f6 o7 => ?_)))))
  refine mv rfl (kl_apS rfl rfl o7 ‹_› (fun _ _ h => h) (by simp; omega) (by decide) (fun v8 H9 o10 f11 => ?_))
  have f12 := f11 B f6 (Nat.le_refl _)
  refine sg rfl (ln (qc (rt ?_)))
  exact kq_ret rfl rfl H9 f12 o10
theorem clipL_ok {Hxs : Hp} {vxs : Value} (xs : List Lit) (hxs : Lits Hxs vxs xs) : Spec Tryz.prog 181 [vxs] [Hxs] (fun _ vq => Lits Hxs vq xs ∧ ClipV vxs vq xs.length) := by
 refine spec_of Tryz.func181 rfl rfl rfl (fun B => ?_)
 refine cS (cr (sg rfl (ln (qc (cS (cr (mv rfl (mv rfl (le9 rfl ‹_› (fun l1 => ?_))))))))))
 refine mv rfl (le9 rfl ‹_› (fun l2 => ?_))
 refine kl_clipV rfl rfl rfl ‹_› (by omega) (fun u3 h4 h4v => ?_)
 refine sg rfl (ln (qc (rt ?_)))
 exact kq_ret rfl rfl noHp (fr_no _) ⟨by assumption, by assumption⟩
theorem negatedL_ok (l : Lit) : Spec Tryz.prog 155 [.agg #[.int .i64 l.var, .int .i64 l.val, .bool l.neg]] [] ((fun Hq vq => vq = .agg #[.int .i64 l.var, .int .i64 l.val, .bool (!l.neg)])) := by
 refine spec_of Tryz.func155 rfl rfl rfl (fun B => ?_)
 refine cS (cr (kl_boxL (cs := [.int .i64 l.var, .int .i64 l.val, .bool l.neg]) rfl rfl (fun b1 hb2 => ?_)))
 refine kl_alloc (cs := [.int .i64 (0 : Int), .int .i64 (0 : Int), .bool false]) rfl (fun b3 hb4 => ?_)
 refine ln (qc (cS (cr (fV rfl (lB rfl rfl (nt9 rfl (fV rfl (sB rfl rfl rfl rfl rfl ?_))))))))
 refine cg [bxS b3 [.int .i64 (0 : Int), .int .i64 (0 : Int), .bool false] 100, bxS b1 [.int .i64 l.var, .int .i64 l.val, .bool (!l.neg)] 100] rfl ?_
 refine ln (qc (cS (cr (kl_ldW rfl rfl (kl_stW (us := [.int .i64 l.var, .int .i64 l.val, .bool (!l.neg)]) rfl rfl rfl rfl (oc rfl (oc rfl (oc rfl oc_nil))) rfl ?_)))))
 refine cg [bxS b3 [.int .i64 l.var, .int .i64 l.val, .bool (!l.neg)] 100, bxS b1 [.int .i64 l.var, .int .i64 l.val, .bool (!l.neg)] 100] rfl ?_
 refine ln (qc (rt ?_))
 exact kq_retC rfl rfl rfl noHp (fr_no _) rfl
end
section
section ops
variable {C : Cx} {dr : Bool} {ops : Array Oper} {Q : Post} {ims L : List Hp} {G : Env} {fl : List Bool} {rest : List Oper} {d ty : Nat} {pos : String} {af : Array Edge}
end ops
end
section
theorem objectiveOk_ok {Hmd : Hp} {vmd : Value} {Hmc : Hp} {vmc : Value} {Hobj : Hp} {vobj : Value} (m : Mod) (obj : List Int) (hmd : Ints Hmd vmd m.doms) (hmc : Cons Hmc vmc m.cons) (hobj : Ints Hobj vobj obj) : SpecP Tryz.prog 43 [.agg #[vmd, vmc], vobj] [Hmd, Hmc, Hobj] (.bool (objOkB m obj)) := by
 refine spec_of Tryz.func43 rfl rfl rfl (fun B => ?_)
 refine cS (cr (kl_box rfl rfl (fun p1 H2 f3 a4 => ?_)))
 refine sg rfl (ln (qc (cS (cr (kl_ldS rfl ‹_› rfl ?_)))))
 refine cP rfl rfl (validMod_ok m ‹_› ‹_›) ?_
 refine mv rfl (jn 7 14 (.bool ((validModB m) && decide ((obj.length : Int) = (m.doms.length : Int)))) (pk [1, 4, 7] rfl) (fun J10 => ?_) ?_)
 ·rcases Bool.eq_false_or_eq_true (validModB m) with g5 | g5
  ·have g5p := g5
   try simp only [smpD] at g5p
   refine gT rfl rfl g5 (mv rfl (gT rfl rfl g5 (le9 rfl ‹_› (fun l6 => ?_))))
   refine gT rfl rfl g5 (fd9 rfl ‹_› (fun p7 a8 => ?_))
   refine gT rfl rfl g5 (ld rfl ‹_› (gT rfl rfl g5 (le9 rfl ‹_› (fun l9 => ?_))))
   refine gT rfl rfl g5 (eq9 rfl rfl ?_)
   refine aT rfl rfl g5 ?_
   exact J10 _ (pk [14, 1, 4, 7] rfl)
  ·refine gF rfl rfl g5 (gF rfl rfl g5 (gF rfl rfl g5 (gF rfl rfl g5 (gF rfl rfl g5 (gF rfl rfl g5 (aF (decide ((obj.length : Int) = (m.doms.length : Int))) rfl rfl g5 ?_))))))
   exact J10 _ (pk [14, 1, 4, 7] rfl)
 refine mv rfl (jn 3 18 (.bool (((validModB m) && decide ((obj.length : Int) = (m.doms.length : Int))) && (allInB obj (-9 : Int) (9 : Int)))) (pk [4, 15] rfl) (fun J12 => ?_) ?_)
 ·rcases Bool.eq_false_or_eq_true ((validModB m) && decide ((obj.length : Int) = (m.doms.length : Int))) with g11 | g11
  ·have g11p := g11
   try simp only [smpD] at g11p
   refine gT rfl rfl g11 (mv rfl (gT rfl rfl g11 (cP rfl rfl (allIn_ok obj (-9 : Int) (9 : Int) ‹_›) ?_)))
   refine aT rfl rfl g11 ?_
   exact J12 _ (pk [18, 4, 15] rfl)
  ·refine gF rfl rfl g11 (gF rfl rfl g11 (aF (allInB obj (-9 : Int) (9 : Int)) rfl rfl g11 ?_))
   exact J12 _ (pk [18, 4, 15] rfl)
 refine sg rfl (ln (qc (rt (kq_retP rfl rfl (congrArg Value.bool ?_)))))
 rfl
end
section
theorem open1_ok (d : Int) (hb : 0 ≤ d ∧ d ≤ 63) : SpecP Tryz.prog 152 [.int .i64 d] [] (.bool (decide ((1 : Int) < popI d))) := by
 refine spec_of Tryz.func152 rfl rfl rfl (fun B => ?_)
 refine cS (cr (sg rfl (ln (qc (cS (cr (mv rfl (cP rfl rfl (size_ok d hb) ?_))))))))
 refine kl_gtr rfl rfl ?_
 refine sg rfl (ln (qc (rt (kq_retP rfl rfl (congrArg Value.bool ?_)))))
 rfl
theorem openI_ok {Hds : Hp} {vds : Value} (ds : List Int) (hD : DomV ds) (hds : Ints Hds vds ds) : SpecP Tryz.prog 110 [vds] [Hds] (.int .i64 (opI ds)) := by
 refine spec_of Tryz.func110 rfl rfl rfl (fun B => ?_)
 refine cS (cr (sg rfl (ln (qc (cS (cr (mv rfl (cP rfl rfl (ixf_int_ok ds (fun x0 => decide ((1 : Int) < popI x0)) ‹_› (fun x0 hmx0 => open1_ok x0 (hD _ hmx0))) ?_))))))))
 refine sg rfl (ln (qc (rt (kq_retP rfl rfl (congrArg (Value.int .i64) ?_)))))
 rfl
theorem limited_ok {Hds : Hp} {vds : Value} (ds : List Int) (i : Int) (d : Int) (hb : ds.length ≤ 1000) (hi : 0 ≤ i ∧ i < (ds.length : Int)) (hds : Ints Hds vds ds) : Spec Tryz.prog 112 [vds, .int .i64 i, .int .i64 d] [Hds] (fun Hq vq => Ints Hq vq (ds.set i.toNat (iand (ds.getD i.toNat 0) d))) := by
 refine spec_of Tryz.func112 rfl rfl rfl (fun B => ?_)
 refine cS (cr (sg rfl (ln (qc (cS (cr (mv rfl (kl_callL rfl rfl (copied_ok ds (by omega) ‹_›) (fun v1 H2 f3 o4 => ?_)))))))))
 refine sg rfl (ln (qc (cS (cr (mv rfl (mv rfl (kl_ixL rfl rfl ‹_› (by omega) (by omega) (fun p5 q6 => ?_))))))))
 refine kl_ldLI rfl ‹_› ‹_› (by omega) ?_
 refine mv rfl (kl_and rfl rfl ?_)
 refine kl_ixL rfl rfl ‹_› (by omega) (by omega) (fun p7 q8 => ?_)
 refine kl_stL (iand (ds.getD i.toNat 0) d) rfl rfl ‹_› o4 (by omega) rfl rfl rfl (fun H9 o10 f11 => ?_)
 have f12 := f11 _ f3
 refine ln (qc (cS (cr (mv rfl (sg rfl (ln (qc (rt ?_))))))))
 exact kq_ret rfl rfl H9 f12 (OwnL.ints o10)
end
section
theorem sortedO_ok {Hc : Hp} {vc : Value} (c : List Lit) (hnd : c.Nodup) (hn : c.length ≤ 12) (hc : Lits Hc vc c) : Spec Tryz.prog 156 [vc] [Hc] ((fun Hq vq => ∃ ys : List Lit, OwnL 100 3 Hq noHp LitV vq ys ∧ ys.Perm c ∧ SrtL litCmp nilLit ys)) := by
 refine spec_of Tryz.func156 rfl rfl rfl (fun B => ?_)
 refine cS (cr (sg rfl (ln (qc (cS (cr (mv rfl (kl_callL rfl rfl (cloneL_ok c (by omega) ‹_›) (fun v1 H2 f3 o4 => ?_)))))))))
 refine sg rfl (ln (qc (cS (cr (mv rfl (cT rfl rfl (srtL_ok c  (by omega) o4) (fun v5 L1 Ln K6 h7 g8 g9 => ?_)))))))
 obtain ⟨H10, y11, rfl, rfl, o12, h13⟩ := h7
 refine nm ?_
 have hcp := srt_cpt hnd h13
 refine ln (qc (cS (cr (mv rfl (kl_call rfl rfl (compactL_ok y11 hcp.1 (OwnL.lits o12)) (fun v14 H15 f16 h17 => ?_))))))
 subst h17
 refine kl_call rfl rfl (clipL_ok y11 (OwnL.lits o12)) (fun v18 H19 f20 h21 => ?_)
 obtain ⟨h21, h22⟩ := h21
 refine sg rfl (ln (qc (rt (kq_own H10 (OwnL.liq (OwnL.clip o12 h22)) (fun f23 => ?_)))))
 exact kq_ret rfl rfl H10 f23 ⟨_, (OwnL.clip o12 h22), hcp.2.2.1, hcp.2.2.2⟩
theorem negsO_ok {Hc : Hp} {vc : Value} (c : List Lit) (hnd : c.Nodup) (hn : c.length ≤ 12) (hc : Lits Hc vc c) : Spec Tryz.prog 114 [vc] [Hc] ((fun Hq vq => ∃ ys : List Lit, OwnL 100 3 Hq noHp LitV vq ys ∧ NegR c ys)) := by
 refine spec_of Tryz.func114 rfl rfl rfl (fun B => ?_)
 refine cS (cr (sg rfl (ln (qc (cS (cr (mv rfl (le9 rfl ‹_› (fun l1 => ?_)))))))))
 refine kl_mkL0 (R := LitV) rfl rfl (by omega) (by omega) (by decide) (fun v2 H3 f4 o5 => ?_)
 refine sg rfl (ln (qc (cS (cS (cr (mv rfl (le9 rfl ‹_› (fun l6 => ?_))))))))
 refine mv rfl (ln (qc (bl (kc_loopL (A := Nat × List Lit × Value × Hp) (fun zz => (zz.1 ≤ c.length) ∧ (zz.2.1 = negTo c zz.1) ∧ OwnL 100 3 zz.2.2.2 noHp LitV zz.2.2.1 zz.2.1 ∧ Fr B zz.2.2.2) (fun zz => c.length - zz.1) (fun zz => [zz.2.2.2]) (fun zz => [(11, .int .i64 (zz.1 : Int)), (3, zz.2.2.1)]) (0, ([]), v2, H3) (pk [2, 9, 10] rfl) (pk [11, 3] rfl) rfl ⟨Nat.zero_le _, rfl, o5, f4⟩ ?_))))
 rintro ⟨k, out, v12, H9⟩ hJ13
 obtain ⟨hk7, hi8, o10, f11⟩ : (k ≤ c.length) ∧ (out = negTo c k) ∧ OwnL 100 3 H9 noHp LitV v12 out ∧ Fr B H9 := hJ13
 change KC _ _ (_) [H9] _ ([(11, .int .i64 (k : Int)), (3, v12)] ++ _)
 refine cS (cr (ls9 rfl rfl ?_))
 refine ln (qc (cS (ci9 rfl (fun c14 => ?_) (fun c14 => ?_))))
 ·refine sk (qc (cS (bl (cS (cr (kl_inQ rfl rfl ‹_› (by omega) (fun p15 a16 => ?_)))))))
  refine kl_ldS rfl ‹_› rfl ?_
  refine kl_alloc (cs := [.int .i64 (0 : Int), .int .i64 (0 : Int), .bool false]) rfl (fun b17 hb18 => ?_)
  refine kl_stW (us := [.int .i64 ((c.getD k nilLit).var), .int .i64 ((c.getD k nilLit).val), .bool ((c.getD k nilLit).neg)]) rfl rfl rfl rfl (oc rfl (oc rfl (oc rfl oc_nil))) rfl ?_
  refine cg [bxS b17 [.int .i64 ((c.getD k nilLit).var), .int .i64 ((c.getD k nilLit).val), .bool ((c.getD k nilLit).neg)] 100, H9] rfl ?_
  refine ln (qc (cr (mv rfl (kl_ldW rfl rfl (kl_call rfl rfl (negatedL_ok (c.getD k nilLit)) (fun v19 H20 f21 h22 => ?_))))))
  subst h22
  refine kl_bsQ rfl (fun v23 H24 f25 r26 h27 => ?_)
  refine aL9 (⟨(c.getD k nilLit).var, (c.getD k nilLit).val, !(c.getD k nilLit).neg⟩ : Lit) rfl rfl o10 r26 rfl (oc rfl (oc rfl (oc rfl oc_nil))) (by (have h9 := congrArg List.length hi8; simp [negTo] at h9; omega)) (by decide) (fun v28 H29 o30 f31 => ?_)
  have f32 := f31 B f11 (Nat.le_refl _)
  refine sg rfl (ln (qc (cr (ic9 rfl rfl (by omega) ?_))))
  refine mv rfl (ln (tk [H29] ?_))
  refine rL ((k + 1), (out ++ [(⟨(c.getD k nilLit).var, (c.getD k nilLit).val, !(c.getD k nilLit).neg⟩ : Lit)]), v28, H29) (by omega) (⟨by omega, (negTo_step hi8 (by omega)), o30, f32⟩) (pk [11, 3] rfl) (pk [2, 9, 10] rfl) rfl slr9
 ·have hnp := neg_pre hnd hi8 (by omega) hn
  refine ex9 (qc (cS (cr (mv rfl (kl_callL rfl rfl (sortedO_ok out hnp.1 hnp.2.1 (OwnL.lits o10)) (fun v33 H34 f35 h36 => ?_))))))
  obtain ⟨y37, o38, h39⟩ := h36
  have hsrt := h39
  refine sg rfl (ln (qc (rt ?_)))
  exact kq_ret rfl rfl H34 f35 ⟨_, o38, ⟨by rw [← hnp.2.2]; exact hsrt.1, hsrt.2⟩⟩
abbrev refuteISt (k : Nat) : Prop := ∀ {b : Nat} {Hmd Hmc Hds Hpa Hf Kf : Hp} {vmd vmc vds vpa vf : Value} {us : List Value} (m : Mod) (ds : List Int) (pa : List Lit) (sts : List (List Lit)) (hM : MOk m) (hd : DOk m.doms.length ds) (hpa : PathOk m.doms.length ds (pa.map negL)) (hk : k + pa.length = m.doms.length) (hst : sts.length + tN k ≤ 100000)
  (hmd : Ints Hmd vmd m.doms) (hmc : Cons Hmc vmc m.cons) (hds : Ints Hds vds ds) (hpl : Lits Hpa vpa pa) (of : LMat 69 100 Hf Kf vf us sts),
  SpecT Tryz.prog 72 [.agg #[vmd, vmc], vds, vpa, .pointer (some ⟨b, 0, none⟩)] [bxS b [vf] 29, Hf, Kf] [Hmd, Hmc, Hds, Hpa] (fun vq L1 Ln _ => Ln = [] ∧ ∃ (vf2 : Value) (Hf2 Kf2 : Hp) (us2 : List Value), vq = .bool (refF k m ds (pa.map negL)).2 ∧ L1 = [bxS b [vf2] 29, Hf2, Kf2] ∧ LMat 69 100 Hf2 Kf2 vf2 us2 (sts ++ (refF k m ds (pa.map negL)).1))
theorem refuteI_step (k : Nat) (ih : ∀ j, j < k → refuteISt j) : refuteISt k := by
 intro b Hmd Hmc Hds Hpa Hf Kf vmd vmc vds vpa vf us m ds pa sts hM hd hpa hk hst hmd hmc hds hpl of
 have hn := hM.n
 have hp := propOk hM hd
 have hpn := hp.ok.l
 have hpp := path_prop hM hd hpa
 have hcn := path_plen hpa
 have hnd := path_nd hpa
 have htp := tN_pos k
 refine specT_of Tryz.func72 rfl rfl rfl (fun B => ?_)
 refine cS (cr (kl_box rfl rfl (fun p1 H2 f3 a4 => ?_)))
 refine sg rfl (ln (qc (cS (cr (kl_ldS rfl ‹_› rfl ?_)))))
 refine mv rfl (kl_call rfl rfl (propagate_ok m ds hM hd ‹_› ‹_› ‹_›) (fun v5 H6 f7 h8 => ?_))
 refine sg rfl (ln (qc (cS (cS (cr (mv rfl (kl_inI (i := 0) rfl rfl ‹_› (by first | omega | (simp; omega)) (fun p9 a10 => ?_))))))))
 refine ld rfl ‹_› (kl_neq rfl rfl ?_)
 refine ln (qc (ci9 rfl (fun c11 => ?_) (fun c11 => ?_)))
 ·have hz : (prop m ds).contains 0 = false := (Bool.eq_false_iff.2 (fun h => c11 ((prop_first hM hd).2 h)))
  have hD := prop_at hM hd hz
  refine cS (cr (mv rfl (cP rfl rfl (openI_ok (prop m ds) hp.ok.d ‹_›) ?_)))
  refine sg rfl (ln (qc (cS (cS (cr (mv rfl (ls9 rfl rfl ?_)))))))
  refine ln (qc (ci9 rfl (fun c12 => ?_) (fun c12 => ?_)))
  ·have hop : opI (prop m ds) < 0 := c12
   refine cS (cr (sg rfl (ln (qc (rt ?_)))))
   exact kq_retT rfl rfl [bxS b [vf] 29, Hf, Kf] [] noHp frn (fr_no _) ⟨rfl, vf, Hf, Kf, us, congrArg Value.bool (by first | exact (rfi_leaf (st := []) hz hop).1 | exact (rfi_no hz hop hnone (by omega) hch hb9).1 | exact (rfi_yes hz hop hnone (by omega)).1 | exact (rfi_z (st := []) hz).1), rfl, LMat.castX (by first | exact (rfi_leaf hz hop).2 | exact (rfi_no hz hop hnone (by omega) hch hb9).2 | (rw [neg_same hpa hng]; exact (rfi_yes hz hop hnone (by omega)).2) | (rw [neg_same hpa hng]; exact (rfi_z hz).2)) of⟩
  ·have hop : ¬ opI (prop m ds) < 0 := c12
   obtain ⟨j, rfl⟩ : ∃ j, k = j + 1 := (by have h9 := path_room hpp hpn hop (by simpa using hk); exact h9)
   have hoi := op_in hop
   have hdk := hD (Int.toNat (opI (prop m ds))) (by omega)
   have hdk2 : 0 ≤ (prop m ds).getD (Int.toNat (opI (prop m ds))) 0 ∧ (prop m ds).getD (Int.toNat (opI (prop m ds))) 0 ≤ 63 := by omega
   have hv6 := vals_len6 ((prop m ds).getD (Int.toNat (opI (prop m ds))) 0)
   refine sk (qc (cS (cr (mv rfl (mv rfl (kl_ixI rfl rfl ‹_› (by first | omega | (simp; omega)) (by first | omega | (simp; omega)) (fun p13 a14 => ?_)))))))
   refine ld rfl ‹_› (kl_call rfl rfl (valuesOf_ok ((prop m ds).getD (opI (prop m ds)).toNat 0) hdk2) (fun v15 H16 f17 h18 => ?_))
   refine le9 rfl ‹_› (fun l19 => ?_)
   refine mv rfl (ln (qc (bl (kc_loopL (A := Nat × List (List Lit) × Value × Hp × List Value × Hp) (fun zz => (zz.1 ≤ (valsI ((prop m ds).getD (Int.toNat (opI (prop m ds))) 0)).length) ∧ (RfI (chR j m (prop m ds) (pa.map negL)) (valsI ((prop m ds).getD (Int.toNat (opI (prop m ds))) 0)) sts (tN j) zz.1 zz.2.1) ∧ LMat 69 100 zz.2.2.2.1 zz.2.2.2.2.2 zz.2.2.1 zz.2.2.2.2.1 zz.2.1) (fun zz => (valsI ((prop m ds).getD (Int.toNat (opI (prop m ds))) 0)).length - zz.1) (fun zz => [bxS b [zz.2.2.1] 29, zz.2.2.2.1, zz.2.2.2.2.2]) (fun zz => [(29, .int .i64 (zz.1 : Int))]) (0, sts, vf, Hf, us, Kf) (pk [1, 2, 3, 4, 9, 27, 28] rfl) (pc 29 rfl pn) rfl ⟨Nat.zero_le _, rfi_0, of⟩ ?_))))
   rintro ⟨q, s1, v24, H25, us26, K22⟩ hJ27
   obtain ⟨hk20, hi21, o23⟩ : (q ≤ (valsI ((prop m ds).getD (Int.toNat (opI (prop m ds))) 0)).length) ∧ (RfI (chR j m (prop m ds) (pa.map negL)) (valsI ((prop m ds).getD (Int.toNat (opI (prop m ds))) 0)) sts (tN j) q s1) ∧ LMat 69 100 H25 K22 v24 us26 s1 := hJ27
   change KC _ _ (_) [bxS b [v24] 29, H25, K22] _ ([(29, .int .i64 (q : Int))] ++ _)
   refine cS (cr (ls9 rfl rfl ?_))
   refine ln (qc (cS (ci9 rfl (fun c28 => ?_) (fun c28 => ?_))))
   ·have hv := getD_mem (d := (0 : Int)) (by omega : q < (valsI ((prop m ds).getD (Int.toNat (opI (prop m ds))) 0)).length)
    have hvv := valsI_mem hv
    have hle := lim_eq hdk2 hv
    refine sk (qc (cS (bl (cS (cr (kl_inI rfl rfl ‹_› (by first | omega | (simp; omega)) (fun p29 a30 => ?_)))))))
    refine ld rfl ‹_› (sg rfl (ln (qc (cS (kc_tree (fun i => ([14] : List Nat).contains i) [] (by kernel_rfl) ?_)))))
    refine tq 0 nsl rfl (kl_ldS rfl ‹_› rfl ?_)
    refine ln (qq (tq 1 nsl rfl (mv rfl (ln (qq (tq 2 nsl rfl (mv rfl (ln (qq (tq 3 nsl rfl (mv rfl ?_)))))))))))
    refine ln (qq (tq 4 nsl rfl (kl_shl rfl rfl (by omega) ?_)))
    refine ln (qq (tq 6 nsl rfl (mv rfl (ln (qq (tq 8 nsl rfl (mv rfl (ln (qq (tq 9 nsl rfl (mv rfl ?_)))))))))))
    refine ln (qq (tq 13 nsl rfl (mv rfl (ln (qq (kt_b 5 10 rfl rfl (by kernel_rfl) ?_ ?_))))))
    ·refine kl_call rfl rfl (limited_ok (prop m ds) (opI (prop m ds)) (ishl (1 : Int) ((valsI ((prop m ds).getD (opI (prop m ds)).toNat 0)).getD q 0)) (by omega) (by omega) ‹_›) (fun v31 H32 f33 h34 => ?_)
     refine ln (qa nsl (kt_b 7 10 rfl rfl (by kernel_rfl) ?_ ?_))
     ·refine kl_callL rfl rfl (cloneL_ok pa (by omega) ‹_›) (fun v35 H36 f37 o38 => ?_)
      refine ln (qa nsl (ta 10 rfl (kl_bd rfl (cp rfl (cp rfl cp_nil)) rfl ?_)))
      refine ln (qa nsl (ta 11 rfl (kl_bsQ rfl (fun v39 H40 f41 r42 h43 => ?_))))
      refine ln (qa nsl (ta 12 rfl (aL9 (⟨(opI (prop m ds)), ((valsI ((prop m ds).getD (opI (prop m ds)).toNat 0)).getD q 0), false⟩ : Lit) rfl rfl o38 r42 rfl (oc rfl (oc rfl (oc rfl oc_nil))) (by (first | omega | (simp; omega) | (have h9 := rfi_b hi21 (by omega) hst; omega))) (by decide) (fun v44 H45 o46 f47 => ?_))))
      have f48 := f47 B f37 (Nat.le_refl _)
      refine ln (qa nsl (ta 14 rfl (cT rfl rfl (ih j (by omega) m ((prop m ds).set (opI (prop m ds)).toNat (iand ((prop m ds).getD (opI (prop m ds)).toNat 0) (ishl (1 : Int) ((valsI ((prop m ds).getD (opI (prop m ds)).toNat 0)).getD q 0)))) (pa ++ [(⟨(opI (prop m ds)), ((valsI ((prop m ds).getD (opI (prop m ds)).toNat 0)).getD q 0), false⟩ : Lit)]) s1 hM (by rw [hle]; exact set_ok hp.ok hvv) (path_chI hpp hpn hop hvv hle) (by simp; omega) (rf_room (by omega) hi21.n (by unfold tN at hst; omega)) hmd hmc ‹_› (OwnL.lits o46) o23) (fun v49 L1 Ln K50 h51 g52 g53 => ?_))))
      obtain ⟨rfl, v54, H55, K56, us57, rfl, rfl, o58⟩ := h51
      refine nm ?_
      have hch : refF j m ((prop m ds).set (opI (prop m ds)).toNat (iand ((prop m ds).getD (opI (prop m ds)).toNat 0) (ishl (1 : Int) ((valsI ((prop m ds).getD (opI (prop m ds)).toNat 0)).getD q 0)))) ((pa ++ [(⟨(opI (prop m ds)), ((valsI ((prop m ds).getD (opI (prop m ds)).toNat 0)).getD q 0), false⟩ : Lit)]).map negL) = chR j m (prop m ds) (pa.map negL) ((valsI ((prop m ds).getD (Int.toNat (opI (prop m ds))) 0)).getD q 0) := rf_ch hle
      refine ln (qx rfl (tq 15 nsl rfl (nt9 rfl (ln (qq (kt_end (by kernel_rfl) ?_))))))
      refine qc (cd9 rfl (fun c59 => ?_) (fun c59 => ?_))
      ·have c59r := c59
       try simp only [smpE] at c59
       have hb9 := nb_T c59r
       refine cS (cr (sg rfl (ln (qc (rt ?_)))))
       exact kq_retT rfl rfl [bxS b [v54] 29, H55, K56] [] noHp frn (fr_no _) ⟨rfl, v54, H55, K56, us57, congrArg Value.bool (by first | exact (rfi_leaf (st := []) hz hop).1 | exact (rfi_no hz hop hi21 (by omega) hch hb9).1 | exact (rfi_yes hz hop hi21 (by omega)).1 | exact (rfi_z (st := []) hz).1), rfl, LMat.castX (by first | exact (rfi_leaf hz hop).2 | exact (rfi_no hz hop hi21 (by omega) hch hb9).2 | (rw [neg_same hpa hng]; exact (rfi_yes hz hop hi21 (by omega)).2) | (rw [neg_same hpa hng]; exact (rfi_z hz).2)) o58⟩
      ·have c59r := c59
       try simp only [smpE] at c59
       have hb9 := nb_F c59r
       refine sk (qc (cr (ic9 rfl rfl (by omega) ?_)))
       refine mv rfl (ln (tk [bxS b [v54] 29, H55, K56] ?_))
       refine rL ((q + 1), (s1 ++ (refF j m ((prop m ds).set (opI (prop m ds)).toNat (iand ((prop m ds).getD (opI (prop m ds)).toNat 0) (ishl (1 : Int) ((valsI ((prop m ds).getD (opI (prop m ds)).toNat 0)).getD q 0)))) ((pa ++ [(⟨(opI (prop m ds)), ((valsI ((prop m ds).getD (opI (prop m ds)).toNat 0)).getD q 0), false⟩ : Lit)]).map negL)).1), v54, H55, us57, K56) (by omega) (⟨by omega, (rfi_step hi21 (by omega) rfl hch hb9 ref_len), o58⟩) (pc 29 rfl pn) (pk [1, 2, 3, 4, 9, 27, 28] rfl) rfl slr9
     ·refine kl_bd rfl (cp rfl (cp rfl cp_nil)) rfl ?_
      refine ln (qa nsl (kt_b 7 11 rfl rfl (by kernel_rfl) ?_ ?_))
      ·refine kl_callL rfl rfl (cloneL_ok pa (by omega) ‹_›) (fun v60 H61 f62 o63 => ?_)
       refine ln (qa nsl (ta 11 rfl (kl_bsQ rfl (fun v64 H65 f66 r67 h68 => ?_))))
       refine ln (qa nsl (ta 12 rfl (aL9 (⟨(opI (prop m ds)), ((valsI ((prop m ds).getD (opI (prop m ds)).toNat 0)).getD q 0), false⟩ : Lit) rfl rfl o63 r67 rfl (oc rfl (oc rfl (oc rfl oc_nil))) (by (first | omega | (simp; omega) | (have h9 := rfi_b hi21 (by omega) hst; omega))) (by decide) (fun v69 H70 o71 f72 => ?_))))
       have f73 := f72 B f62 (Nat.le_refl _)
       refine ln (qa nsl (ta 14 rfl (cT rfl rfl (ih j (by omega) m ((prop m ds).set (opI (prop m ds)).toNat (iand ((prop m ds).getD (opI (prop m ds)).toNat 0) (ishl (1 : Int) ((valsI ((prop m ds).getD (opI (prop m ds)).toNat 0)).getD q 0)))) (pa ++ [(⟨(opI (prop m ds)), ((valsI ((prop m ds).getD (opI (prop m ds)).toNat 0)).getD q 0), false⟩ : Lit)]) s1 hM (by rw [hle]; exact set_ok hp.ok hvv) (path_chI hpp hpn hop hvv hle) (by simp; omega) (rf_room (by omega) hi21.n (by unfold tN at hst; omega)) hmd hmc ‹_› (OwnL.lits o71) o23) (fun v74 L1 Ln K75 h76 g77 g78 => ?_))))
       obtain ⟨rfl, v79, H80, K81, us82, rfl, rfl, o83⟩ := h76
       refine nm ?_
       have hch : refF j m ((prop m ds).set (opI (prop m ds)).toNat (iand ((prop m ds).getD (opI (prop m ds)).toNat 0) (ishl (1 : Int) ((valsI ((prop m ds).getD (opI (prop m ds)).toNat 0)).getD q 0)))) ((pa ++ [(⟨(opI (prop m ds)), ((valsI ((prop m ds).getD (opI (prop m ds)).toNat 0)).getD q 0), false⟩ : Lit)]).map negL) = chR j m (prop m ds) (pa.map negL) ((valsI ((prop m ds).getD (Int.toNat (opI (prop m ds))) 0)).getD q 0) := rf_ch hle
       refine ln (qx rfl (tq 15 nsl rfl (nt9 rfl (ln (qq (kt_end (by kernel_rfl) ?_))))))
       refine qc (cd9 rfl (fun c84 => ?_) (fun c84 => ?_))
       ·have c84r := c84
        try simp only [smpE] at c84
        have hb9 := nb_T c84r
        refine cS (cr (sg rfl (ln (qc (rt ?_)))))
        exact kq_retT rfl rfl [bxS b [v79] 29, H80, K81] [] noHp frn (fr_no _) ⟨rfl, v79, H80, K81, us82, congrArg Value.bool (by first | exact (rfi_leaf (st := []) hz hop).1 | exact (rfi_no hz hop hi21 (by omega) hch hb9).1 | exact (rfi_yes hz hop hi21 (by omega)).1 | exact (rfi_z (st := []) hz).1), rfl, LMat.castX (by first | exact (rfi_leaf hz hop).2 | exact (rfi_no hz hop hi21 (by omega) hch hb9).2 | (rw [neg_same hpa hng]; exact (rfi_yes hz hop hi21 (by omega)).2) | (rw [neg_same hpa hng]; exact (rfi_z hz).2)) o83⟩
       ·have c84r := c84
        try simp only [smpE] at c84
        have hb9 := nb_F c84r
        refine sk (qc (cr (ic9 rfl rfl (by omega) ?_)))
        refine mv rfl (ln (tk [bxS b [v79] 29, H80, K81] ?_))
        refine rL ((q + 1), (s1 ++ (refF j m ((prop m ds).set (opI (prop m ds)).toNat (iand ((prop m ds).getD (opI (prop m ds)).toNat 0) (ishl (1 : Int) ((valsI ((prop m ds).getD (opI (prop m ds)).toNat 0)).getD q 0)))) ((pa ++ [(⟨(opI (prop m ds)), ((valsI ((prop m ds).getD (opI (prop m ds)).toNat 0)).getD q 0), false⟩ : Lit)]).map negL)).1), v79, H80, us82, K81) (by omega) (⟨by omega, (rfi_step hi21 (by omega) rfl hch hb9 ref_len), o83⟩) (pc 29 rfl pn) (pk [1, 2, 3, 4, 9, 27, 28] rfl) rfl slr9
      ·refine kl_bsQ rfl (fun v85 H86 f87 r88 h89 => ?_)
       refine ln (qa nsl (ta 7 rfl (kl_callL rfl rfl (cloneL_ok pa (by omega) ‹_›) (fun v90 H91 f92 o93 => ?_))))
       refine ln (qa nsl (ta 12 rfl (aL9 (⟨(opI (prop m ds)), ((valsI ((prop m ds).getD (opI (prop m ds)).toNat 0)).getD q 0), false⟩ : Lit) rfl rfl o93 r88 rfl (oc rfl (oc rfl (oc rfl oc_nil))) (by (first | omega | (simp; omega) | (have h9 := rfi_b hi21 (by omega) hst; omega))) (by decide) (fun v94 H95 o96 f97 => ?_))))
       have f98 := f97 B f92 (Nat.le_refl _)
       refine ln (qa nsl (ta 14 rfl (cT rfl rfl (ih j (by omega) m ((prop m ds).set (opI (prop m ds)).toNat (iand ((prop m ds).getD (opI (prop m ds)).toNat 0) (ishl (1 : Int) ((valsI ((prop m ds).getD (opI (prop m ds)).toNat 0)).getD q 0)))) (pa ++ [(⟨(opI (prop m ds)), ((valsI ((prop m ds).getD (opI (prop m ds)).toNat 0)).getD q 0), false⟩ : Lit)]) s1 hM (by rw [hle]; exact set_ok hp.ok hvv) (path_chI hpp hpn hop hvv hle) (by simp; omega) (rf_room (by omega) hi21.n (by unfold tN at hst; omega)) hmd hmc ‹_› (OwnL.lits o96) o23) (fun v99 L1 Ln K100 h101 g102 g103 => ?_))))
       obtain ⟨rfl, v104, H105, K106, us107, rfl, rfl, o108⟩ := h101
       refine nm ?_
       have hch : refF j m ((prop m ds).set (opI (prop m ds)).toNat (iand ((prop m ds).getD (opI (prop m ds)).toNat 0) (ishl (1 : Int) ((valsI ((prop m ds).getD (opI (prop m ds)).toNat 0)).getD q 0)))) ((pa ++ [(⟨(opI (prop m ds)), ((valsI ((prop m ds).getD (opI (prop m ds)).toNat 0)).getD q 0), false⟩ : Lit)]).map negL) = chR j m (prop m ds) (pa.map negL) ((valsI ((prop m ds).getD (Int.toNat (opI (prop m ds))) 0)).getD q 0) := rf_ch hle
       refine ln (qx rfl (tq 15 nsl rfl (nt9 rfl (ln (qq (kt_end (by kernel_rfl) ?_))))))
       refine qc (cd9 rfl (fun c109 => ?_) (fun c109 => ?_))
       ·have c109r := c109
        try simp only [smpE] at c109
        have hb9 := nb_T c109r
        refine cS (cr (sg rfl (ln (qc (rt ?_)))))
        exact kq_retT rfl rfl [bxS b [v104] 29, H105, K106] [] noHp frn (fr_no _) ⟨rfl, v104, H105, K106, us107, congrArg Value.bool (by first | exact (rfi_leaf (st := []) hz hop).1 | exact (rfi_no hz hop hi21 (by omega) hch hb9).1 | exact (rfi_yes hz hop hi21 (by omega)).1 | exact (rfi_z (st := []) hz).1), rfl, LMat.castX (by first | exact (rfi_leaf hz hop).2 | exact (rfi_no hz hop hi21 (by omega) hch hb9).2 | (rw [neg_same hpa hng]; exact (rfi_yes hz hop hi21 (by omega)).2) | (rw [neg_same hpa hng]; exact (rfi_z hz).2)) o108⟩
       ·have c109r := c109
        try simp only [smpE] at c109
        have hb9 := nb_F c109r
        refine sk (qc (cr (ic9 rfl rfl (by omega) ?_)))
        refine mv rfl (ln (tk [bxS b [v104] 29, H105, K106] ?_))
        refine rL ((q + 1), (s1 ++ (refF j m ((prop m ds).set (opI (prop m ds)).toNat (iand ((prop m ds).getD (opI (prop m ds)).toNat 0) (ishl (1 : Int) ((valsI ((prop m ds).getD (opI (prop m ds)).toNat 0)).getD q 0)))) ((pa ++ [(⟨(opI (prop m ds)), ((valsI ((prop m ds).getD (opI (prop m ds)).toNat 0)).getD q 0), false⟩ : Lit)]).map negL)).1), v104, H105, us107, K106) (by omega) (⟨by omega, (rfi_step hi21 (by omega) rfl hch hb9 ref_len), o108⟩) (pc 29 rfl pn) (pk [1, 2, 3, 4, 9, 27, 28] rfl) rfl slr9
    ·refine kl_bd rfl (cp rfl (cp rfl cp_nil)) rfl ?_
     refine ln (qa nsl (kt_b 5 11 rfl rfl (by kernel_rfl) ?_ ?_))
     ·refine kl_call rfl rfl (limited_ok (prop m ds) (opI (prop m ds)) (ishl (1 : Int) ((valsI ((prop m ds).getD (opI (prop m ds)).toNat 0)).getD q 0)) (by omega) (by omega) ‹_›) (fun v110 H111 f112 h113 => ?_)
      refine ln (qa nsl (kt_b 7 11 rfl rfl (by kernel_rfl) ?_ ?_))
      ·refine kl_callL rfl rfl (cloneL_ok pa (by omega) ‹_›) (fun v114 H115 f116 o117 => ?_)
       refine ln (qa nsl (ta 11 rfl (kl_bsQ rfl (fun v118 H119 f120 r121 h122 => ?_))))
       refine ln (qa nsl (ta 12 rfl (aL9 (⟨(opI (prop m ds)), ((valsI ((prop m ds).getD (opI (prop m ds)).toNat 0)).getD q 0), false⟩ : Lit) rfl rfl o117 r121 rfl (oc rfl (oc rfl (oc rfl oc_nil))) (by (first | omega | (simp; omega) | (have h9 := rfi_b hi21 (by omega) hst; omega))) (by decide) (fun v123 H124 o125 f126 => ?_))))
       have f127 := f126 B f116 (Nat.le_refl _)
       refine ln (qa nsl (ta 14 rfl (cT rfl rfl (ih j (by omega) m ((prop m ds).set (opI (prop m ds)).toNat (iand ((prop m ds).getD (opI (prop m ds)).toNat 0) (ishl (1 : Int) ((valsI ((prop m ds).getD (opI (prop m ds)).toNat 0)).getD q 0)))) (pa ++ [(⟨(opI (prop m ds)), ((valsI ((prop m ds).getD (opI (prop m ds)).toNat 0)).getD q 0), false⟩ : Lit)]) s1 hM (by rw [hle]; exact set_ok hp.ok hvv) (path_chI hpp hpn hop hvv hle) (by simp; omega) (rf_room (by omega) hi21.n (by unfold tN at hst; omega)) hmd hmc ‹_› (OwnL.lits o125) o23) (fun v128 L1 Ln K129 h130 g131 g132 => ?_))))
       obtain ⟨rfl, v133, H134, K135, us136, rfl, rfl, o137⟩ := h130
       refine nm ?_
       have hch : refF j m ((prop m ds).set (opI (prop m ds)).toNat (iand ((prop m ds).getD (opI (prop m ds)).toNat 0) (ishl (1 : Int) ((valsI ((prop m ds).getD (opI (prop m ds)).toNat 0)).getD q 0)))) ((pa ++ [(⟨(opI (prop m ds)), ((valsI ((prop m ds).getD (opI (prop m ds)).toNat 0)).getD q 0), false⟩ : Lit)]).map negL) = chR j m (prop m ds) (pa.map negL) ((valsI ((prop m ds).getD (Int.toNat (opI (prop m ds))) 0)).getD q 0) := rf_ch hle
       refine ln (qx rfl (tq 15 nsl rfl (nt9 rfl (ln (qq (kt_end (by kernel_rfl) ?_))))))
       refine qc (cd9 rfl (fun c138 => ?_) (fun c138 => ?_))
       ·have c138r := c138
        try simp only [smpE] at c138
        have hb9 := nb_T c138r
        refine cS (cr (sg rfl (ln (qc (rt ?_)))))
        exact kq_retT rfl rfl [bxS b [v133] 29, H134, K135] [] noHp frn (fr_no _) ⟨rfl, v133, H134, K135, us136, congrArg Value.bool (by first | exact (rfi_leaf (st := []) hz hop).1 | exact (rfi_no hz hop hi21 (by omega) hch hb9).1 | exact (rfi_yes hz hop hi21 (by omega)).1 | exact (rfi_z (st := []) hz).1), rfl, LMat.castX (by first | exact (rfi_leaf hz hop).2 | exact (rfi_no hz hop hi21 (by omega) hch hb9).2 | (rw [neg_same hpa hng]; exact (rfi_yes hz hop hi21 (by omega)).2) | (rw [neg_same hpa hng]; exact (rfi_z hz).2)) o137⟩
       ·have c138r := c138
        try simp only [smpE] at c138
        have hb9 := nb_F c138r
        refine sk (qc (cr (ic9 rfl rfl (by omega) ?_)))
        refine mv rfl (ln (tk [bxS b [v133] 29, H134, K135] ?_))
        refine rL ((q + 1), (s1 ++ (refF j m ((prop m ds).set (opI (prop m ds)).toNat (iand ((prop m ds).getD (opI (prop m ds)).toNat 0) (ishl (1 : Int) ((valsI ((prop m ds).getD (opI (prop m ds)).toNat 0)).getD q 0)))) ((pa ++ [(⟨(opI (prop m ds)), ((valsI ((prop m ds).getD (opI (prop m ds)).toNat 0)).getD q 0), false⟩ : Lit)]).map negL)).1), v133, H134, us136, K135) (by omega) (⟨by omega, (rfi_step hi21 (by omega) rfl hch hb9 ref_len), o137⟩) (pc 29 rfl pn) (pk [1, 2, 3, 4, 9, 27, 28] rfl) rfl slr9
      ·refine kl_bsQ rfl (fun v139 H140 f141 r142 h143 => ?_)
       refine ln (qa nsl (ta 7 rfl (kl_callL rfl rfl (cloneL_ok pa (by omega) ‹_›) (fun v144 H145 f146 o147 => ?_))))
       refine ln (qa nsl (ta 12 rfl (aL9 (⟨(opI (prop m ds)), ((valsI ((prop m ds).getD (opI (prop m ds)).toNat 0)).getD q 0), false⟩ : Lit) rfl rfl o147 r142 rfl (oc rfl (oc rfl (oc rfl oc_nil))) (by (first | omega | (simp; omega) | (have h9 := rfi_b hi21 (by omega) hst; omega))) (by decide) (fun v148 H149 o150 f151 => ?_))))
       have f152 := f151 B f146 (Nat.le_refl _)
       refine ln (qa nsl (ta 14 rfl (cT rfl rfl (ih j (by omega) m ((prop m ds).set (opI (prop m ds)).toNat (iand ((prop m ds).getD (opI (prop m ds)).toNat 0) (ishl (1 : Int) ((valsI ((prop m ds).getD (opI (prop m ds)).toNat 0)).getD q 0)))) (pa ++ [(⟨(opI (prop m ds)), ((valsI ((prop m ds).getD (opI (prop m ds)).toNat 0)).getD q 0), false⟩ : Lit)]) s1 hM (by rw [hle]; exact set_ok hp.ok hvv) (path_chI hpp hpn hop hvv hle) (by simp; omega) (rf_room (by omega) hi21.n (by unfold tN at hst; omega)) hmd hmc ‹_› (OwnL.lits o150) o23) (fun v153 L1 Ln K154 h155 g156 g157 => ?_))))
       obtain ⟨rfl, v158, H159, K160, us161, rfl, rfl, o162⟩ := h155
       refine nm ?_
       have hch : refF j m ((prop m ds).set (opI (prop m ds)).toNat (iand ((prop m ds).getD (opI (prop m ds)).toNat 0) (ishl (1 : Int) ((valsI ((prop m ds).getD (opI (prop m ds)).toNat 0)).getD q 0)))) ((pa ++ [(⟨(opI (prop m ds)), ((valsI ((prop m ds).getD (opI (prop m ds)).toNat 0)).getD q 0), false⟩ : Lit)]).map negL) = chR j m (prop m ds) (pa.map negL) ((valsI ((prop m ds).getD (Int.toNat (opI (prop m ds))) 0)).getD q 0) := rf_ch hle
       refine ln (qx rfl (tq 15 nsl rfl (nt9 rfl (ln (qq (kt_end (by kernel_rfl) ?_))))))
       refine qc (cd9 rfl (fun c163 => ?_) (fun c163 => ?_))
       ·have c163r := c163
        try simp only [smpE] at c163
        have hb9 := nb_T c163r
        refine cS (cr (sg rfl (ln (qc (rt ?_)))))
        exact kq_retT rfl rfl [bxS b [v158] 29, H159, K160] [] noHp frn (fr_no _) ⟨rfl, v158, H159, K160, us161, congrArg Value.bool (by first | exact (rfi_leaf (st := []) hz hop).1 | exact (rfi_no hz hop hi21 (by omega) hch hb9).1 | exact (rfi_yes hz hop hi21 (by omega)).1 | exact (rfi_z (st := []) hz).1), rfl, LMat.castX (by first | exact (rfi_leaf hz hop).2 | exact (rfi_no hz hop hi21 (by omega) hch hb9).2 | (rw [neg_same hpa hng]; exact (rfi_yes hz hop hi21 (by omega)).2) | (rw [neg_same hpa hng]; exact (rfi_z hz).2)) o162⟩
       ·have c163r := c163
        try simp only [smpE] at c163
        have hb9 := nb_F c163r
        refine sk (qc (cr (ic9 rfl rfl (by omega) ?_)))
        refine mv rfl (ln (tk [bxS b [v158] 29, H159, K160] ?_))
        refine rL ((q + 1), (s1 ++ (refF j m ((prop m ds).set (opI (prop m ds)).toNat (iand ((prop m ds).getD (opI (prop m ds)).toNat 0) (ishl (1 : Int) ((valsI ((prop m ds).getD (opI (prop m ds)).toNat 0)).getD q 0)))) ((pa ++ [(⟨(opI (prop m ds)), ((valsI ((prop m ds).getD (opI (prop m ds)).toNat 0)).getD q 0), false⟩ : Lit)]).map negL)).1), v158, H159, us161, K160) (by omega) (⟨by omega, (rfi_step hi21 (by omega) rfl hch hb9 ref_len), o162⟩) (pc 29 rfl pn) (pk [1, 2, 3, 4, 9, 27, 28] rfl) rfl slr9
     ·refine kl_bsQ rfl (fun v164 H165 f166 r167 h168 => ?_)
      refine ln (qa nsl (ta 5 rfl (kl_call rfl rfl (limited_ok (prop m ds) (opI (prop m ds)) (ishl (1 : Int) ((valsI ((prop m ds).getD (opI (prop m ds)).toNat 0)).getD q 0)) (by omega) (by omega) ‹_›) (fun v169 H170 f171 h172 => ?_))))
      refine ln (qa nsl (ta 7 rfl (kl_callL rfl rfl (cloneL_ok pa (by omega) ‹_›) (fun v173 H174 f175 o176 => ?_))))
      refine ln (qa nsl (ta 12 rfl (aL9 (⟨(opI (prop m ds)), ((valsI ((prop m ds).getD (opI (prop m ds)).toNat 0)).getD q 0), false⟩ : Lit) rfl rfl o176 r167 rfl (oc rfl (oc rfl (oc rfl oc_nil))) (by (first | omega | (simp; omega) | (have h9 := rfi_b hi21 (by omega) hst; omega))) (by decide) (fun v177 H178 o179 f180 => ?_))))
      have f181 := f180 B f175 (Nat.le_refl _)
      refine ln (qa nsl (ta 14 rfl (cT rfl rfl (ih j (by omega) m ((prop m ds).set (opI (prop m ds)).toNat (iand ((prop m ds).getD (opI (prop m ds)).toNat 0) (ishl (1 : Int) ((valsI ((prop m ds).getD (opI (prop m ds)).toNat 0)).getD q 0)))) (pa ++ [(⟨(opI (prop m ds)), ((valsI ((prop m ds).getD (opI (prop m ds)).toNat 0)).getD q 0), false⟩ : Lit)]) s1 hM (by rw [hle]; exact set_ok hp.ok hvv) (path_chI hpp hpn hop hvv hle) (by simp; omega) (rf_room (by omega) hi21.n (by unfold tN at hst; omega)) hmd hmc ‹_› (OwnL.lits o179) o23) (fun v182 L1 Ln K183 h184 g185 g186 => ?_))))
      obtain ⟨rfl, v187, H188, K189, us190, rfl, rfl, o191⟩ := h184
      refine nm ?_
      have hch : refF j m ((prop m ds).set (opI (prop m ds)).toNat (iand ((prop m ds).getD (opI (prop m ds)).toNat 0) (ishl (1 : Int) ((valsI ((prop m ds).getD (opI (prop m ds)).toNat 0)).getD q 0)))) ((pa ++ [(⟨(opI (prop m ds)), ((valsI ((prop m ds).getD (opI (prop m ds)).toNat 0)).getD q 0), false⟩ : Lit)]).map negL) = chR j m (prop m ds) (pa.map negL) ((valsI ((prop m ds).getD (Int.toNat (opI (prop m ds))) 0)).getD q 0) := rf_ch hle
      refine ln (qx rfl (tq 15 nsl rfl (nt9 rfl (ln (qq (kt_end (by kernel_rfl) ?_))))))
      refine qc (cd9 rfl (fun c192 => ?_) (fun c192 => ?_))
      ·have c192r := c192
       try simp only [smpE] at c192
       have hb9 := nb_T c192r
       refine cS (cr (sg rfl (ln (qc (rt ?_)))))
       exact kq_retT rfl rfl [bxS b [v187] 29, H188, K189] [] noHp frn (fr_no _) ⟨rfl, v187, H188, K189, us190, congrArg Value.bool (by first | exact (rfi_leaf (st := []) hz hop).1 | exact (rfi_no hz hop hi21 (by omega) hch hb9).1 | exact (rfi_yes hz hop hi21 (by omega)).1 | exact (rfi_z (st := []) hz).1), rfl, LMat.castX (by first | exact (rfi_leaf hz hop).2 | exact (rfi_no hz hop hi21 (by omega) hch hb9).2 | (rw [neg_same hpa hng]; exact (rfi_yes hz hop hi21 (by omega)).2) | (rw [neg_same hpa hng]; exact (rfi_z hz).2)) o191⟩
      ·have c192r := c192
       try simp only [smpE] at c192
       have hb9 := nb_F c192r
       refine sk (qc (cr (ic9 rfl rfl (by omega) ?_)))
       refine mv rfl (ln (tk [bxS b [v187] 29, H188, K189] ?_))
       refine rL ((q + 1), (s1 ++ (refF j m ((prop m ds).set (opI (prop m ds)).toNat (iand ((prop m ds).getD (opI (prop m ds)).toNat 0) (ishl (1 : Int) ((valsI ((prop m ds).getD (opI (prop m ds)).toNat 0)).getD q 0)))) ((pa ++ [(⟨(opI (prop m ds)), ((valsI ((prop m ds).getD (opI (prop m ds)).toNat 0)).getD q 0), false⟩ : Lit)]).map negL)).1), v187, H188, us190, K189) (by omega) (⟨by omega, (rfi_step hi21 (by omega) rfl hch hb9 ref_len), o191⟩) (pc 29 rfl pn) (pk [1, 2, 3, 4, 9, 27, 28] rfl) rfl slr9
   ·refine ex9 (qc (cS (kc_tree (fun i => ([9] : List Nat).contains i) [bxS b [v24] 29] (by kernel_rfl) ?_)))
    refine tq 0 (.cons_cons _ nsl) rfl (mv rfl (ln (qq (tq 1 (.cons_cons _ nsl) rfl (mv rfl (ln (qq (tq 2 (.cons_cons _ nsl) rfl (kl_nilchk rfl ?_)))))))))
    refine ln (qq (tq 3 (.cons_cons _ nsl) rfl (ld rfl (at_box (T := 29) (cs := [v24]) (off := 0) (fz := (0, 0))) (ln (qq (tq 4 (.cons_cons _ nsl) rfl (mv rfl (ln (qq (ta 5 rfl (kl_callL rfl rfl (negsO_ok pa hnd (by omega) ‹_›) (fun v193 H194 f195 h196 => ?_))))))))))))
    obtain ⟨y197, o198, h199⟩ := h196
    have hng := h199
    refine ln (qa (.cons _ (.cons_cons _ nsl)) (ta 6 rfl (bs9 rfl rfl rfl (by decide) (ca (by first | exact Sl.cells ‹_› | exact OwnL.cells ‹_›) ca_nil) (fun v201 H202 f203 r204 s205 => ?_))))
    refine ln (qa (.cons _ (.cons_cons _ nsl)) (ta 7 rfl (kl_apart K22 H194 (fun a211 => ?_))))
    refine kl_app rfl rfl o23.hd ‹_› (oc (OwnL.oneCell o198) oc_nil) (by (first | omega | (simp; omega) | (have h9 := rfi_b hi21 (by omega) hst; omega))) (by decide) (fun v206 H207 o208 f209 => ?_)
    have m212 := LMat.push o23 o208 o198 a211
    refine ln (qa (.cons _ (.cons_cons _ nsl)) (kt_mrg K22 H194 ?_))
    refine kt_q 8 (.cons _ (.cons_cons _ nsl)) rfl (by kernel_rfl) (kl_nilchk rfl ?_)
    refine ln (qq (ta 9 rfl (sB rfl rfl rfl (LMat.oneCell ‹_›) (LMat.cells ‹_›) ?_)))
    refine cg [(orHp K22 H194), bxS b [v206] 29, H207] rfl ?_
    refine ln (qx rfl (kt_end (by kernel_rfl) ?_))
    refine qc (cS (cr (sg rfl (ln (qc (rt ?_))))))
    exact kq_retT rfl rfl [bxS b [v206] 29, H207, (orHp K22 H194)] [] noHp frn (fr_no _) ⟨rfl, v206, H207, (orHp K22 H194), (us26 ++ [v193]), congrArg Value.bool (by first | exact (rfi_leaf (st := []) hz hop).1 | exact (rfi_no hz hop hi21 (by omega) hch hb9).1 | exact (rfi_yes hz hop hi21 (by omega)).1 | exact (rfi_z (st := []) hz).1), rfl, LMat.castX (by first | exact (rfi_leaf hz hop).2 | exact (rfi_no hz hop hi21 (by omega) hch hb9).2 | (rw [neg_same hpa hng]; exact (rfi_yes hz hop hi21 (by omega)).2) | (rw [neg_same hpa hng]; exact (rfi_z hz).2)) m212⟩
 ·have hz : (prop m ds).contains 0 = true := (prop_first hM hd).1 (Decidable.not_not.1 c11)
  refine sk (qc (cS (kc_tree (fun i => ([9] : List Nat).contains i) [bxS b [vf] 29] (by kernel_rfl) ?_)))
  refine tq 0 (.cons_cons _ nsl) rfl (mv rfl (ln (qq (tq 1 (.cons_cons _ nsl) rfl (mv rfl (ln (qq (tq 2 (.cons_cons _ nsl) rfl (kl_nilchk rfl ?_)))))))))
  refine ln (qq (tq 3 (.cons_cons _ nsl) rfl (ld rfl (at_box (T := 29) (cs := [vf]) (off := 0) (fz := (0, 0))) (ln (qq (tq 4 (.cons_cons _ nsl) rfl (mv rfl (ln (qq (ta 5 rfl (kl_callL rfl rfl (negsO_ok pa hnd (by omega) ‹_›) (fun v213 H214 f215 h216 => ?_))))))))))))
  obtain ⟨y217, o218, h219⟩ := h216
  have hng := h219
  refine ln (qa (.cons _ (.cons_cons _ nsl)) (ta 6 rfl (bs9 rfl rfl rfl (by decide) (ca (by first | exact Sl.cells ‹_› | exact OwnL.cells ‹_›) ca_nil) (fun v221 H222 f223 r224 s225 => ?_))))
  refine ln (qa (.cons _ (.cons_cons _ nsl)) (ta 7 rfl (kl_apart Kf H214 (fun a231 => ?_))))
  refine kl_app rfl rfl of.hd ‹_› (oc (OwnL.oneCell o218) oc_nil) (by (first | omega | (simp; omega) | (have h9 := rfi_b hi21 (by omega) hst; omega))) (by decide) (fun v226 H227 o228 f229 => ?_)
  have m232 := LMat.push of o228 o218 a231
  refine ln (qa (.cons _ (.cons_cons _ nsl)) (kt_mrg Kf H214 ?_))
  refine kt_q 8 (.cons _ (.cons_cons _ nsl)) rfl (by kernel_rfl) (kl_nilchk rfl ?_)
  refine ln (qq (ta 9 rfl (sB rfl rfl rfl (LMat.oneCell ‹_›) (LMat.cells ‹_›) ?_)))
  refine cg [(orHp Kf H214), bxS b [v226] 29, H227] rfl ?_
  refine ln (qx rfl (kt_end (by kernel_rfl) ?_))
  refine qc (cS (cr (sg rfl (ln (qc (rt ?_))))))
  exact kq_retT rfl rfl [bxS b [v226] 29, H227, (orHp Kf H214)] [] noHp frn (fr_no _) ⟨rfl, v226, H227, (orHp Kf H214), (us ++ [v213]), congrArg Value.bool (by first | exact (rfi_leaf (st := []) hz hop).1 | exact (rfi_no hz hop hi21 (by omega) hch hb9).1 | exact (rfi_yes hz hop hi21 (by omega)).1 | exact (rfi_z (st := []) hz).1), rfl, LMat.castX (by first | exact (rfi_leaf hz hop).2 | exact (rfi_no hz hop hi21 (by omega) hch hb9).2 | (rw [neg_same hpa hng]; exact (rfi_yes hz hop hi21 (by omega)).2) | (rw [neg_same hpa hng]; exact (rfi_z hz).2)) m232⟩
theorem refuteI_ok (k : Nat) : refuteISt k := by
 induction k using Nat.strongRecOn with
 | _ k ih => exact @refuteI_step k ih
end
section
theorem withI_ok {Hmd : Hp} {vmd : Value} {Hmc : Hp} {vmc : Value} {Hcv : Hp} {vcv : Value} {Hca : Hp} {vca : Value} {Hcr : Hp} {vcr : Value} (m : Mod) (c : Con) (hl : m.cons.length ≤ 100) (hmd : Ints Hmd vmd m.doms) (hmc : Cons Hmc vmc m.cons) (hcv : Ints Hcv vcv c.vars) (hca : Ints Hca vca c.args) (hcr : Rows Hcr vcr c.rows) : Spec Tryz.prog 109 [.agg #[vmd, vmc], .agg #[.int .i64 c.kind, vcv, vca, .int .i64 c.bound, vcr]] [Hmd, Hmc, Hcv, Hca, Hcr] (fun Hq vq => ∃ (mq : Mod) (bq : Bool) (uq0a uq0b : Value), vq = .tuple #[.agg #[uq0a, uq0b], .bool bq] ∧ Ints Hq uq0a mq.doms ∧ Cons Hq uq0b mq.cons ∧ (mq, bq) = wcR m c) := by
 refine spec_ofR Tryz.func109 rfl rfl rfl (fun B => ?_)
 refine cS (cr (kl_box rfl rfl (fun p1 H2 f3 a4 => ?_)))
 refine kl_box rfl rfl (fun p5 H6 f7 a8 => ?_)
 refine kl_alloc (cs := [.slice none 0 0, .slice none 0 0]) rfl (fun b9 hb10 => ?_)
 refine sg rfl (ln (qc (cS (kc_tree (fun i => ([8, 10] : List Nat).contains i) [] (by kernel_rfl) ?_))))
 refine tq 0 nsl rfl (fd9 rfl ‹_› (fun p11 a12 => ?_))
 refine ln (qq (tq 1 nsl rfl (ld rfl ‹_› (ln (qq (tq 2 nsl rfl (fd9 rfl ‹_› (fun p13 a14 => ?_))))))))
 refine ln (qq (tq 3 nsl rfl (ld rfl ‹_› (ln (qq (tq 5 nsl rfl (kl_ldS rfl ‹_› rfl ?_)))))))
 refine ln (qq (kt_c 4 6 9 rfl rfl rfl (by kernel_rfl) ?_ ?_ ?_))
 ·refine kl_callL rfl rfl (cloneC_ok m.cons (by omega) ‹_›) (fun v15 H16 f17 o18 => ?_)
  refine ln (qa nsl (kt_b 6 9 rfl rfl (by kernel_rfl) ?_ ?_))
  ·refine kl_bsK rfl (fun v19 H20 f21 r22 => ?_)
   refine ln (qa nsl (kt_b 7 9 rfl rfl (by kernel_rfl) ?_ ?_))
   ·refine cm9 Hmc Hcv (fun c23 => ?_)
    have o24 := OwnL.mono (K' := orHp Hmc Hcv) o18 orL
    refine cm9 (orHp Hmc Hcv) Hca (fun c25 => ?_)
    have o26 := OwnL.mono (K' := orHp (orHp Hmc Hcv) Hca) o24 orL
    refine cm9 (orHp (orHp Hmc Hcv) Hca) Hcr (fun c27 => ?_)
    have o28 := OwnL.mono (K' := orHp (orHp (orHp Hmc Hcv) Hca) Hcr) o26 orL
    refine aL9 c rfl rfl o28 r22 ⟨_, _, _, rfl, (Sl.mono ‹_› (fun b o h => orL b o (orL b o (orC c23 b o h))) (fun _ _ h => h)), (Sl.mono ‹_› (fun b o h => orL b o (orC c25 b o h)) (fun _ _ h => h)), (Rows.mono' ‹_› (fun b o h => orC c27 b o h))⟩ (oc rfl (oc (Sl.oneCell ‹_›) (oc (Sl.oneCell ‹_›) (oc rfl (oc (Sl.oneCell ‹_›) oc_nil))))) (by (simp; omega)) (by decide) (fun v29 H30 o31 f32 => ?_)
    have f33 := f32 B f17 (Nat.le_refl _)
    refine ln (qa nsl (kt_b 8 9 rfl rfl (by kernel_rfl) ?_ ?_))
    ·refine kl_bd rfl (cp (Sl.cells ‹_›) (cp (OwnL.cells ‹_›) cp_nil)) rfl ?_
     refine ln (qx rfl (ta 9 rfl (kl_alloc (cs := [.slice none 0 0, .slice none 0 0]) rfl (fun b34 hb35 => ?_))))
     refine ln (qa nsl (ta 10 rfl (kl_stW (us := [vmd, v29]) rfl rfl rfl rfl (oc (Sl.oneCell ‹_›) (oc (OwnL.oneCell ‹_›) oc_nil)) rfl ?_)))
     refine cg [bxS b34 [vmd, v29] 26, H30, bxS b9 [.slice none 0 0, .slice none 0 0] 26] rfl ?_
     refine ln (qx rfl (kt_end (by kernel_rfl) ?_))
     refine qc (cS (cS (cr (kl_ldW rfl rfl (cm9 H30 (orHp (orHp (orHp Hmc Hcv) Hca) Hcr) (fun c37 => ?_))))))
     have h36 := OwnL.consK o31 c37
     refine cP rfl rfl (validMod_ok (⟨m.doms, (m.cons ++ [c])⟩ : Mod) ‹_› ‹_›) ?_
     refine nt9 rfl (ln (qc (cd9 rfl (fun c38 => ?_) (fun c38 => ?_))))
     ·have c38r := c38
      try simp only [smpE] at c38
      have hv := c38r
      have hv2 : validModB (withC m c) = false := by simpa [withC] using hv
      refine cS (cr (kl_bd rfl cp_nil rfl ?_))
      refine kl_stW (us := [.slice none 0 0, .slice none 0 0]) rfl rfl rfl rfl (oc rfl (oc rfl oc_nil)) rfl ?_
      refine cg [bxS b34 [vmd, v29] 26, H30, bxS b9 [.slice none 0 0, .slice none 0 0] 26] rfl ?_
      refine sg rfl (ln (qc (rt (kq_cmp noHp noHp (fun c39 => ?_)))))
      exact kq_retR (rss2 rfl (rs_agg rfl rfl) (rs_tmp rfl)) (orHp noHp noHp) (fr_or (fr_no _) (fr_no _)) ⟨(⟨[], []⟩ : Mod), false, _, _, rfl, (Sl.mono Sl.nil (fun b o h => orL b o h) (fun _ _ h => h)), (Sl.mono Sl.nil (fun b o h => orC c39 b o h) (fun _ _ h => h)), by first | exact (wc_no hv2).symm | exact (wc_yes hv2).symm⟩ .none
     ·have c38r := c38
      try simp only [smpE] at c38
      have hv := c38r
      have hv2 : validModB (withC m c) = true := by simpa [withC] using hv
      refine sk (qc (cS (cr (kl_ldW rfl rfl (cm9 H30 (orHp (orHp (orHp Hmc Hcv) Hca) Hcr) (fun c41 => ?_))))))
      have h40 := OwnL.consK o31 c41
      refine kl_call rfl rfl (copyModI_ok (⟨m.doms, (m.cons ++ [c])⟩ : Mod) (ok_small ⟨hv2⟩) ‹_› ‹_›) (fun v42 H43 f44 h45 => ?_)
      obtain ⟨u46, u47, rfl, h48, h49⟩ := h45
      refine kl_stW (us := [u46, u47]) rfl rfl rfl rfl (oc (Sl.oneCell ‹_›) (oc (Sl.oneCell ‹_›) oc_nil)) rfl ?_
      refine cg [bxS b34 [vmd, v29] 26, H30, bxS b9 [u46, u47] 26] rfl ?_
      refine sg rfl (ln (qc (rt (kq_cmp H43 H43 (fun c50 => ?_)))))
      exact kq_retR (rss2 rfl (rs_agg rfl rfl) (rs_tmp rfl)) (orHp H43 H43) (fr_or f44 f44) ⟨(⟨(⟨m.doms, (m.cons ++ [c])⟩ : Mod).doms, (⟨m.doms, (m.cons ++ [c])⟩ : Mod).cons⟩ : Mod), true, _, _, rfl, (Sl.mono ‹_› (fun b o h => orL b o h) (fun _ _ h => h)), (Cons.mono' ‹_› (fun b o h => orC c50 b o h)), by first | exact (wc_no hv2).symm | exact (wc_yes hv2).symm⟩ .none
    ·refine kl_alloc (cs := [.slice none 0 0, .slice none 0 0]) rfl (fun b51 hb52 => ?_)
     refine ln (qa nsl (ta 8 rfl (kl_bd rfl (cp (Sl.cells ‹_›) (cp (OwnL.cells ‹_›) cp_nil)) rfl ?_)))
     refine ln (qx rfl (ta 10 rfl (kl_stW (us := [vmd, v29]) rfl rfl rfl rfl (oc (Sl.oneCell ‹_›) (oc (OwnL.oneCell ‹_›) oc_nil)) rfl ?_)))
     refine cg [bxS b51 [vmd, v29] 26, H30, bxS b9 [.slice none 0 0, .slice none 0 0] 26] rfl ?_
     refine ln (qx rfl (kt_end (by kernel_rfl) ?_))
     refine qc (cS (cS (cr (kl_ldW rfl rfl (cm9 H30 (orHp (orHp (orHp Hmc Hcv) Hca) Hcr) (fun c54 => ?_))))))
     have h53 := OwnL.consK o31 c54
     refine cP rfl rfl (validMod_ok (⟨m.doms, (m.cons ++ [c])⟩ : Mod) ‹_› ‹_›) ?_
     refine nt9 rfl (ln (qc (cd9 rfl (fun c55 => ?_) (fun c55 => ?_))))
     ·have c55r := c55
      try simp only [smpE] at c55
      have hv := c55r
      have hv2 : validModB (withC m c) = false := by simpa [withC] using hv
      refine cS (cr (kl_bd rfl cp_nil rfl ?_))
      refine kl_stW (us := [.slice none 0 0, .slice none 0 0]) rfl rfl rfl rfl (oc rfl (oc rfl oc_nil)) rfl ?_
      refine cg [bxS b51 [vmd, v29] 26, H30, bxS b9 [.slice none 0 0, .slice none 0 0] 26] rfl ?_
      refine sg rfl (ln (qc (rt (kq_cmp noHp noHp (fun c56 => ?_)))))
      exact kq_retR (rss2 rfl (rs_agg rfl rfl) (rs_tmp rfl)) (orHp noHp noHp) (fr_or (fr_no _) (fr_no _)) ⟨(⟨[], []⟩ : Mod), false, _, _, rfl, (Sl.mono Sl.nil (fun b o h => orL b o h) (fun _ _ h => h)), (Sl.mono Sl.nil (fun b o h => orC c56 b o h) (fun _ _ h => h)), by first | exact (wc_no hv2).symm | exact (wc_yes hv2).symm⟩ .none
     ·have c55r := c55
      try simp only [smpE] at c55
      have hv := c55r
      have hv2 : validModB (withC m c) = true := by simpa [withC] using hv
      refine sk (qc (cS (cr (kl_ldW rfl rfl (cm9 H30 (orHp (orHp (orHp Hmc Hcv) Hca) Hcr) (fun c58 => ?_))))))
      have h57 := OwnL.consK o31 c58
      refine kl_call rfl rfl (copyModI_ok (⟨m.doms, (m.cons ++ [c])⟩ : Mod) (ok_small ⟨hv2⟩) ‹_› ‹_›) (fun v59 H60 f61 h62 => ?_)
      obtain ⟨u63, u64, rfl, h65, h66⟩ := h62
      refine kl_stW (us := [u63, u64]) rfl rfl rfl rfl (oc (Sl.oneCell ‹_›) (oc (Sl.oneCell ‹_›) oc_nil)) rfl ?_
      refine cg [bxS b51 [vmd, v29] 26, H30, bxS b9 [u63, u64] 26] rfl ?_
      refine sg rfl (ln (qc (rt (kq_cmp H60 H60 (fun c67 => ?_)))))
      exact kq_retR (rss2 rfl (rs_agg rfl rfl) (rs_tmp rfl)) (orHp H60 H60) (fr_or f61 f61) ⟨(⟨(⟨m.doms, (m.cons ++ [c])⟩ : Mod).doms, (⟨m.doms, (m.cons ++ [c])⟩ : Mod).cons⟩ : Mod), true, _, _, rfl, (Sl.mono ‹_› (fun b o h => orL b o h) (fun _ _ h => h)), (Cons.mono' ‹_› (fun b o h => orC c67 b o h)), by first | exact (wc_no hv2).symm | exact (wc_yes hv2).symm⟩ .none
   ·refine kl_alloc (cs := [.slice none 0 0, .slice none 0 0]) rfl (fun b68 hb69 => ?_)
    refine ln (qa nsl (ta 7 rfl (cm9 Hmc Hcv (fun c70 => ?_))))
    have o71 := OwnL.mono (K' := orHp Hmc Hcv) o18 orL
    refine cm9 (orHp Hmc Hcv) Hca (fun c72 => ?_)
    have o73 := OwnL.mono (K' := orHp (orHp Hmc Hcv) Hca) o71 orL
    refine cm9 (orHp (orHp Hmc Hcv) Hca) Hcr (fun c74 => ?_)
    have o75 := OwnL.mono (K' := orHp (orHp (orHp Hmc Hcv) Hca) Hcr) o73 orL
    refine aL9 c rfl rfl o75 r22 ⟨_, _, _, rfl, (Sl.mono ‹_› (fun b o h => orL b o (orL b o (orC c70 b o h))) (fun _ _ h => h)), (Sl.mono ‹_› (fun b o h => orL b o (orC c72 b o h)) (fun _ _ h => h)), (Rows.mono' ‹_› (fun b o h => orC c74 b o h))⟩ (oc rfl (oc (Sl.oneCell ‹_›) (oc (Sl.oneCell ‹_›) (oc rfl (oc (Sl.oneCell ‹_›) oc_nil))))) (by (simp; omega)) (by decide) (fun v76 H77 o78 f79 => ?_)
    have f80 := f79 B f17 (Nat.le_refl _)
    refine ln (qa nsl (ta 8 rfl (kl_bd rfl (cp (Sl.cells ‹_›) (cp (OwnL.cells ‹_›) cp_nil)) rfl ?_)))
    refine ln (qx rfl (ta 10 rfl (kl_stW (us := [vmd, v76]) rfl rfl rfl rfl (oc (Sl.oneCell ‹_›) (oc (OwnL.oneCell ‹_›) oc_nil)) rfl ?_)))
    refine cg [bxS b68 [vmd, v76] 26, H77, bxS b9 [.slice none 0 0, .slice none 0 0] 26] rfl ?_
    refine ln (qx rfl (kt_end (by kernel_rfl) ?_))
    refine qc (cS (cS (cr (kl_ldW rfl rfl (cm9 H77 (orHp (orHp (orHp Hmc Hcv) Hca) Hcr) (fun c82 => ?_))))))
    have h81 := OwnL.consK o78 c82
    refine cP rfl rfl (validMod_ok (⟨m.doms, (m.cons ++ [c])⟩ : Mod) ‹_› ‹_›) ?_
    refine nt9 rfl (ln (qc (cd9 rfl (fun c83 => ?_) (fun c83 => ?_))))
    ·have c83r := c83
     try simp only [smpE] at c83
     have hv := c83r
     have hv2 : validModB (withC m c) = false := by simpa [withC] using hv
     refine cS (cr (kl_bd rfl cp_nil rfl ?_))
     refine kl_stW (us := [.slice none 0 0, .slice none 0 0]) rfl rfl rfl rfl (oc rfl (oc rfl oc_nil)) rfl ?_
     refine cg [bxS b68 [vmd, v76] 26, H77, bxS b9 [.slice none 0 0, .slice none 0 0] 26] rfl ?_
     refine sg rfl (ln (qc (rt (kq_cmp noHp noHp (fun c84 => ?_)))))
     exact kq_retR (rss2 rfl (rs_agg rfl rfl) (rs_tmp rfl)) (orHp noHp noHp) (fr_or (fr_no _) (fr_no _)) ⟨(⟨[], []⟩ : Mod), false, _, _, rfl, (Sl.mono Sl.nil (fun b o h => orL b o h) (fun _ _ h => h)), (Sl.mono Sl.nil (fun b o h => orC c84 b o h) (fun _ _ h => h)), by first | exact (wc_no hv2).symm | exact (wc_yes hv2).symm⟩ .none
    ·have c83r := c83
     try simp only [smpE] at c83
     have hv := c83r
     have hv2 : validModB (withC m c) = true := by simpa [withC] using hv
     refine sk (qc (cS (cr (kl_ldW rfl rfl (cm9 H77 (orHp (orHp (orHp Hmc Hcv) Hca) Hcr) (fun c86 => ?_))))))
     have h85 := OwnL.consK o78 c86
     refine kl_call rfl rfl (copyModI_ok (⟨m.doms, (m.cons ++ [c])⟩ : Mod) (ok_small ⟨hv2⟩) ‹_› ‹_›) (fun v87 H88 f89 h90 => ?_)
     obtain ⟨u91, u92, rfl, h93, h94⟩ := h90
     refine kl_stW (us := [u91, u92]) rfl rfl rfl rfl (oc (Sl.oneCell ‹_›) (oc (Sl.oneCell ‹_›) oc_nil)) rfl ?_
     refine cg [bxS b68 [vmd, v76] 26, H77, bxS b9 [u91, u92] 26] rfl ?_
     refine sg rfl (ln (qc (rt (kq_cmp H88 H88 (fun c95 => ?_)))))
     exact kq_retR (rss2 rfl (rs_agg rfl rfl) (rs_tmp rfl)) (orHp H88 H88) (fr_or f89 f89) ⟨(⟨(⟨m.doms, (m.cons ++ [c])⟩ : Mod).doms, (⟨m.doms, (m.cons ++ [c])⟩ : Mod).cons⟩ : Mod), true, _, _, rfl, (Sl.mono ‹_› (fun b o h => orL b o h) (fun _ _ h => h)), (Cons.mono' ‹_› (fun b o h => orC c95 b o h)), by first | exact (wc_no hv2).symm | exact (wc_yes hv2).symm⟩ .none
  ·refine kl_alloc (cs := [.slice none 0 0, .slice none 0 0]) rfl (fun b96 hb97 => ?_)
   refine ln (qa nsl (ta 6 rfl (kl_bsK rfl (fun v98 H99 f100 r101 => ?_))))
   refine ln (qa nsl (ta 7 rfl (cm9 Hmc Hcv (fun c102 => ?_))))
   have o103 := OwnL.mono (K' := orHp Hmc Hcv) o18 orL
   refine cm9 (orHp Hmc Hcv) Hca (fun c104 => ?_)
   have o105 := OwnL.mono (K' := orHp (orHp Hmc Hcv) Hca) o103 orL
   refine cm9 (orHp (orHp Hmc Hcv) Hca) Hcr (fun c106 => ?_)
   have o107 := OwnL.mono (K' := orHp (orHp (orHp Hmc Hcv) Hca) Hcr) o105 orL
   refine aL9 c rfl rfl o107 r101 ⟨_, _, _, rfl, (Sl.mono ‹_› (fun b o h => orL b o (orL b o (orC c102 b o h))) (fun _ _ h => h)), (Sl.mono ‹_› (fun b o h => orL b o (orC c104 b o h)) (fun _ _ h => h)), (Rows.mono' ‹_› (fun b o h => orC c106 b o h))⟩ (oc rfl (oc (Sl.oneCell ‹_›) (oc (Sl.oneCell ‹_›) (oc rfl (oc (Sl.oneCell ‹_›) oc_nil))))) (by (simp; omega)) (by decide) (fun v108 H109 o110 f111 => ?_)
   have f112 := f111 B f17 (Nat.le_refl _)
   refine ln (qa nsl (ta 8 rfl (kl_bd rfl (cp (Sl.cells ‹_›) (cp (OwnL.cells ‹_›) cp_nil)) rfl ?_)))
   refine ln (qx rfl (ta 10 rfl (kl_stW (us := [vmd, v108]) rfl rfl rfl rfl (oc (Sl.oneCell ‹_›) (oc (OwnL.oneCell ‹_›) oc_nil)) rfl ?_)))
   refine cg [bxS b96 [vmd, v108] 26, H109, bxS b9 [.slice none 0 0, .slice none 0 0] 26] rfl ?_
   refine ln (qx rfl (kt_end (by kernel_rfl) ?_))
   refine qc (cS (cS (cr (kl_ldW rfl rfl (cm9 H109 (orHp (orHp (orHp Hmc Hcv) Hca) Hcr) (fun c114 => ?_))))))
   have h113 := OwnL.consK o110 c114
   refine cP rfl rfl (validMod_ok (⟨m.doms, (m.cons ++ [c])⟩ : Mod) ‹_› ‹_›) ?_
   refine nt9 rfl (ln (qc (cd9 rfl (fun c115 => ?_) (fun c115 => ?_))))
   ·have c115r := c115
    try simp only [smpE] at c115
    have hv := c115r
    have hv2 : validModB (withC m c) = false := by simpa [withC] using hv
    refine cS (cr (kl_bd rfl cp_nil rfl ?_))
    refine kl_stW (us := [.slice none 0 0, .slice none 0 0]) rfl rfl rfl rfl (oc rfl (oc rfl oc_nil)) rfl ?_
    refine cg [bxS b96 [vmd, v108] 26, H109, bxS b9 [.slice none 0 0, .slice none 0 0] 26] rfl ?_
    refine sg rfl (ln (qc (rt (kq_cmp noHp noHp (fun c116 => ?_)))))
    exact kq_retR (rss2 rfl (rs_agg rfl rfl) (rs_tmp rfl)) (orHp noHp noHp) (fr_or (fr_no _) (fr_no _)) ⟨(⟨[], []⟩ : Mod), false, _, _, rfl, (Sl.mono Sl.nil (fun b o h => orL b o h) (fun _ _ h => h)), (Sl.mono Sl.nil (fun b o h => orC c116 b o h) (fun _ _ h => h)), by first | exact (wc_no hv2).symm | exact (wc_yes hv2).symm⟩ .none
   ·have c115r := c115
    try simp only [smpE] at c115
    have hv := c115r
    have hv2 : validModB (withC m c) = true := by simpa [withC] using hv
    refine sk (qc (cS (cr (kl_ldW rfl rfl (cm9 H109 (orHp (orHp (orHp Hmc Hcv) Hca) Hcr) (fun c118 => ?_))))))
    have h117 := OwnL.consK o110 c118
    refine kl_call rfl rfl (copyModI_ok (⟨m.doms, (m.cons ++ [c])⟩ : Mod) (ok_small ⟨hv2⟩) ‹_› ‹_›) (fun v119 H120 f121 h122 => ?_)
    obtain ⟨u123, u124, rfl, h125, h126⟩ := h122
    refine kl_stW (us := [u123, u124]) rfl rfl rfl rfl (oc (Sl.oneCell ‹_›) (oc (Sl.oneCell ‹_›) oc_nil)) rfl ?_
    refine cg [bxS b96 [vmd, v108] 26, H109, bxS b9 [u123, u124] 26] rfl ?_
    refine sg rfl (ln (qc (rt (kq_cmp H120 H120 (fun c127 => ?_)))))
    exact kq_retR (rss2 rfl (rs_agg rfl rfl) (rs_tmp rfl)) (orHp H120 H120) (fr_or f121 f121) ⟨(⟨(⟨m.doms, (m.cons ++ [c])⟩ : Mod).doms, (⟨m.doms, (m.cons ++ [c])⟩ : Mod).cons⟩ : Mod), true, _, _, rfl, (Sl.mono ‹_› (fun b o h => orL b o h) (fun _ _ h => h)), (Cons.mono' ‹_› (fun b o h => orC c127 b o h)), by first | exact (wc_no hv2).symm | exact (wc_yes hv2).symm⟩ .none
 ·refine kl_bsK rfl (fun v128 H129 f130 r131 => ?_)
  refine ln (qa nsl (kt_b 4 9 rfl rfl (by kernel_rfl) ?_ ?_))
  ·refine kl_callL rfl rfl (cloneC_ok m.cons (by omega) ‹_›) (fun v132 H133 f134 o135 => ?_)
   refine ln (qa nsl (kt_b 7 9 rfl rfl (by kernel_rfl) ?_ ?_))
   ·refine cm9 Hmc Hcv (fun c136 => ?_)
    have o137 := OwnL.mono (K' := orHp Hmc Hcv) o135 orL
    refine cm9 (orHp Hmc Hcv) Hca (fun c138 => ?_)
    have o139 := OwnL.mono (K' := orHp (orHp Hmc Hcv) Hca) o137 orL
    refine cm9 (orHp (orHp Hmc Hcv) Hca) Hcr (fun c140 => ?_)
    have o141 := OwnL.mono (K' := orHp (orHp (orHp Hmc Hcv) Hca) Hcr) o139 orL
    refine aL9 c rfl rfl o141 r131 ⟨_, _, _, rfl, (Sl.mono ‹_› (fun b o h => orL b o (orL b o (orC c136 b o h))) (fun _ _ h => h)), (Sl.mono ‹_› (fun b o h => orL b o (orC c138 b o h)) (fun _ _ h => h)), (Rows.mono' ‹_› (fun b o h => orC c140 b o h))⟩ (oc rfl (oc (Sl.oneCell ‹_›) (oc (Sl.oneCell ‹_›) (oc rfl (oc (Sl.oneCell ‹_›) oc_nil))))) (by (simp; omega)) (by decide) (fun v142 H143 o144 f145 => ?_)
    have f146 := f145 B f134 (Nat.le_refl _)
    refine ln (qa nsl (kt_b 8 9 rfl rfl (by kernel_rfl) ?_ ?_))
    ·refine kl_bd rfl (cp (Sl.cells ‹_›) (cp (OwnL.cells ‹_›) cp_nil)) rfl ?_
     refine ln (qx rfl (ta 9 rfl (kl_alloc (cs := [.slice none 0 0, .slice none 0 0]) rfl (fun b147 hb148 => ?_))))
     refine ln (qa nsl (ta 10 rfl (kl_stW (us := [vmd, v142]) rfl rfl rfl rfl (oc (Sl.oneCell ‹_›) (oc (OwnL.oneCell ‹_›) oc_nil)) rfl ?_)))
     refine cg [bxS b147 [vmd, v142] 26, H143, bxS b9 [.slice none 0 0, .slice none 0 0] 26] rfl ?_
     refine ln (qx rfl (kt_end (by kernel_rfl) ?_))
     refine qc (cS (cS (cr (kl_ldW rfl rfl (cm9 H143 (orHp (orHp (orHp Hmc Hcv) Hca) Hcr) (fun c150 => ?_))))))
     have h149 := OwnL.consK o144 c150
     refine cP rfl rfl (validMod_ok (⟨m.doms, (m.cons ++ [c])⟩ : Mod) ‹_› ‹_›) ?_
     refine nt9 rfl (ln (qc (cd9 rfl (fun c151 => ?_) (fun c151 => ?_))))
     ·have c151r := c151
      try simp only [smpE] at c151
      have hv := c151r
      have hv2 : validModB (withC m c) = false := by simpa [withC] using hv
      refine cS (cr (kl_bd rfl cp_nil rfl ?_))
      refine kl_stW (us := [.slice none 0 0, .slice none 0 0]) rfl rfl rfl rfl (oc rfl (oc rfl oc_nil)) rfl ?_
      refine cg [bxS b147 [vmd, v142] 26, H143, bxS b9 [.slice none 0 0, .slice none 0 0] 26] rfl ?_
      refine sg rfl (ln (qc (rt (kq_cmp noHp noHp (fun c152 => ?_)))))
      exact kq_retR (rss2 rfl (rs_agg rfl rfl) (rs_tmp rfl)) (orHp noHp noHp) (fr_or (fr_no _) (fr_no _)) ⟨(⟨[], []⟩ : Mod), false, _, _, rfl, (Sl.mono Sl.nil (fun b o h => orL b o h) (fun _ _ h => h)), (Sl.mono Sl.nil (fun b o h => orC c152 b o h) (fun _ _ h => h)), by first | exact (wc_no hv2).symm | exact (wc_yes hv2).symm⟩ .none
     ·have c151r := c151
      try simp only [smpE] at c151
      have hv := c151r
      have hv2 : validModB (withC m c) = true := by simpa [withC] using hv
      refine sk (qc (cS (cr (kl_ldW rfl rfl (cm9 H143 (orHp (orHp (orHp Hmc Hcv) Hca) Hcr) (fun c154 => ?_))))))
      have h153 := OwnL.consK o144 c154
      refine kl_call rfl rfl (copyModI_ok (⟨m.doms, (m.cons ++ [c])⟩ : Mod) (ok_small ⟨hv2⟩) ‹_› ‹_›) (fun v155 H156 f157 h158 => ?_)
      obtain ⟨u159, u160, rfl, h161, h162⟩ := h158
      refine kl_stW (us := [u159, u160]) rfl rfl rfl rfl (oc (Sl.oneCell ‹_›) (oc (Sl.oneCell ‹_›) oc_nil)) rfl ?_
      refine cg [bxS b147 [vmd, v142] 26, H143, bxS b9 [u159, u160] 26] rfl ?_
      refine sg rfl (ln (qc (rt (kq_cmp H156 H156 (fun c163 => ?_)))))
      exact kq_retR (rss2 rfl (rs_agg rfl rfl) (rs_tmp rfl)) (orHp H156 H156) (fr_or f157 f157) ⟨(⟨(⟨m.doms, (m.cons ++ [c])⟩ : Mod).doms, (⟨m.doms, (m.cons ++ [c])⟩ : Mod).cons⟩ : Mod), true, _, _, rfl, (Sl.mono ‹_› (fun b o h => orL b o h) (fun _ _ h => h)), (Cons.mono' ‹_› (fun b o h => orC c163 b o h)), by first | exact (wc_no hv2).symm | exact (wc_yes hv2).symm⟩ .none
    ·refine kl_alloc (cs := [.slice none 0 0, .slice none 0 0]) rfl (fun b164 hb165 => ?_)
     refine ln (qa nsl (ta 8 rfl (kl_bd rfl (cp (Sl.cells ‹_›) (cp (OwnL.cells ‹_›) cp_nil)) rfl ?_)))
     refine ln (qx rfl (ta 10 rfl (kl_stW (us := [vmd, v142]) rfl rfl rfl rfl (oc (Sl.oneCell ‹_›) (oc (OwnL.oneCell ‹_›) oc_nil)) rfl ?_)))
     refine cg [bxS b164 [vmd, v142] 26, H143, bxS b9 [.slice none 0 0, .slice none 0 0] 26] rfl ?_
     refine ln (qx rfl (kt_end (by kernel_rfl) ?_))
     refine qc (cS (cS (cr (kl_ldW rfl rfl (cm9 H143 (orHp (orHp (orHp Hmc Hcv) Hca) Hcr) (fun c167 => ?_))))))
     have h166 := OwnL.consK o144 c167
     refine cP rfl rfl (validMod_ok (⟨m.doms, (m.cons ++ [c])⟩ : Mod) ‹_› ‹_›) ?_
     refine nt9 rfl (ln (qc (cd9 rfl (fun c168 => ?_) (fun c168 => ?_))))
     ·have c168r := c168
      try simp only [smpE] at c168
      have hv := c168r
      have hv2 : validModB (withC m c) = false := by simpa [withC] using hv
      refine cS (cr (kl_bd rfl cp_nil rfl ?_))
      refine kl_stW (us := [.slice none 0 0, .slice none 0 0]) rfl rfl rfl rfl (oc rfl (oc rfl oc_nil)) rfl ?_
      refine cg [bxS b164 [vmd, v142] 26, H143, bxS b9 [.slice none 0 0, .slice none 0 0] 26] rfl ?_
      refine sg rfl (ln (qc (rt (kq_cmp noHp noHp (fun c169 => ?_)))))
      exact kq_retR (rss2 rfl (rs_agg rfl rfl) (rs_tmp rfl)) (orHp noHp noHp) (fr_or (fr_no _) (fr_no _)) ⟨(⟨[], []⟩ : Mod), false, _, _, rfl, (Sl.mono Sl.nil (fun b o h => orL b o h) (fun _ _ h => h)), (Sl.mono Sl.nil (fun b o h => orC c169 b o h) (fun _ _ h => h)), by first | exact (wc_no hv2).symm | exact (wc_yes hv2).symm⟩ .none
     ·have c168r := c168
      try simp only [smpE] at c168
      have hv := c168r
      have hv2 : validModB (withC m c) = true := by simpa [withC] using hv
      refine sk (qc (cS (cr (kl_ldW rfl rfl (cm9 H143 (orHp (orHp (orHp Hmc Hcv) Hca) Hcr) (fun c171 => ?_))))))
      have h170 := OwnL.consK o144 c171
      refine kl_call rfl rfl (copyModI_ok (⟨m.doms, (m.cons ++ [c])⟩ : Mod) (ok_small ⟨hv2⟩) ‹_› ‹_›) (fun v172 H173 f174 h175 => ?_)
      obtain ⟨u176, u177, rfl, h178, h179⟩ := h175
      refine kl_stW (us := [u176, u177]) rfl rfl rfl rfl (oc (Sl.oneCell ‹_›) (oc (Sl.oneCell ‹_›) oc_nil)) rfl ?_
      refine cg [bxS b164 [vmd, v142] 26, H143, bxS b9 [u176, u177] 26] rfl ?_
      refine sg rfl (ln (qc (rt (kq_cmp H173 H173 (fun c180 => ?_)))))
      exact kq_retR (rss2 rfl (rs_agg rfl rfl) (rs_tmp rfl)) (orHp H173 H173) (fr_or f174 f174) ⟨(⟨(⟨m.doms, (m.cons ++ [c])⟩ : Mod).doms, (⟨m.doms, (m.cons ++ [c])⟩ : Mod).cons⟩ : Mod), true, _, _, rfl, (Sl.mono ‹_› (fun b o h => orL b o h) (fun _ _ h => h)), (Cons.mono' ‹_› (fun b o h => orC c180 b o h)), by first | exact (wc_no hv2).symm | exact (wc_yes hv2).symm⟩ .none
   ·refine kl_alloc (cs := [.slice none 0 0, .slice none 0 0]) rfl (fun b181 hb182 => ?_)
    refine ln (qa nsl (ta 7 rfl (cm9 Hmc Hcv (fun c183 => ?_))))
    have o184 := OwnL.mono (K' := orHp Hmc Hcv) o135 orL
    refine cm9 (orHp Hmc Hcv) Hca (fun c185 => ?_)
    have o186 := OwnL.mono (K' := orHp (orHp Hmc Hcv) Hca) o184 orL
    refine cm9 (orHp (orHp Hmc Hcv) Hca) Hcr (fun c187 => ?_)
    have o188 := OwnL.mono (K' := orHp (orHp (orHp Hmc Hcv) Hca) Hcr) o186 orL
    refine aL9 c rfl rfl o188 r131 ⟨_, _, _, rfl, (Sl.mono ‹_› (fun b o h => orL b o (orL b o (orC c183 b o h))) (fun _ _ h => h)), (Sl.mono ‹_› (fun b o h => orL b o (orC c185 b o h)) (fun _ _ h => h)), (Rows.mono' ‹_› (fun b o h => orC c187 b o h))⟩ (oc rfl (oc (Sl.oneCell ‹_›) (oc (Sl.oneCell ‹_›) (oc rfl (oc (Sl.oneCell ‹_›) oc_nil))))) (by (simp; omega)) (by decide) (fun v189 H190 o191 f192 => ?_)
    have f193 := f192 B f134 (Nat.le_refl _)
    refine ln (qa nsl (ta 8 rfl (kl_bd rfl (cp (Sl.cells ‹_›) (cp (OwnL.cells ‹_›) cp_nil)) rfl ?_)))
    refine ln (qx rfl (ta 10 rfl (kl_stW (us := [vmd, v189]) rfl rfl rfl rfl (oc (Sl.oneCell ‹_›) (oc (OwnL.oneCell ‹_›) oc_nil)) rfl ?_)))
    refine cg [bxS b181 [vmd, v189] 26, H190, bxS b9 [.slice none 0 0, .slice none 0 0] 26] rfl ?_
    refine ln (qx rfl (kt_end (by kernel_rfl) ?_))
    refine qc (cS (cS (cr (kl_ldW rfl rfl (cm9 H190 (orHp (orHp (orHp Hmc Hcv) Hca) Hcr) (fun c195 => ?_))))))
    have h194 := OwnL.consK o191 c195
    refine cP rfl rfl (validMod_ok (⟨m.doms, (m.cons ++ [c])⟩ : Mod) ‹_› ‹_›) ?_
    refine nt9 rfl (ln (qc (cd9 rfl (fun c196 => ?_) (fun c196 => ?_))))
    ·have c196r := c196
     try simp only [smpE] at c196
     have hv := c196r
     have hv2 : validModB (withC m c) = false := by simpa [withC] using hv
     refine cS (cr (kl_bd rfl cp_nil rfl ?_))
     refine kl_stW (us := [.slice none 0 0, .slice none 0 0]) rfl rfl rfl rfl (oc rfl (oc rfl oc_nil)) rfl ?_
     refine cg [bxS b181 [vmd, v189] 26, H190, bxS b9 [.slice none 0 0, .slice none 0 0] 26] rfl ?_
     refine sg rfl (ln (qc (rt (kq_cmp noHp noHp (fun c197 => ?_)))))
     exact kq_retR (rss2 rfl (rs_agg rfl rfl) (rs_tmp rfl)) (orHp noHp noHp) (fr_or (fr_no _) (fr_no _)) ⟨(⟨[], []⟩ : Mod), false, _, _, rfl, (Sl.mono Sl.nil (fun b o h => orL b o h) (fun _ _ h => h)), (Sl.mono Sl.nil (fun b o h => orC c197 b o h) (fun _ _ h => h)), by first | exact (wc_no hv2).symm | exact (wc_yes hv2).symm⟩ .none
    ·have c196r := c196
     try simp only [smpE] at c196
     have hv := c196r
     have hv2 : validModB (withC m c) = true := by simpa [withC] using hv
     refine sk (qc (cS (cr (kl_ldW rfl rfl (cm9 H190 (orHp (orHp (orHp Hmc Hcv) Hca) Hcr) (fun c199 => ?_))))))
     have h198 := OwnL.consK o191 c199
     refine kl_call rfl rfl (copyModI_ok (⟨m.doms, (m.cons ++ [c])⟩ : Mod) (ok_small ⟨hv2⟩) ‹_› ‹_›) (fun v200 H201 f202 h203 => ?_)
     obtain ⟨u204, u205, rfl, h206, h207⟩ := h203
     refine kl_stW (us := [u204, u205]) rfl rfl rfl rfl (oc (Sl.oneCell ‹_›) (oc (Sl.oneCell ‹_›) oc_nil)) rfl ?_
     refine cg [bxS b181 [vmd, v189] 26, H190, bxS b9 [u204, u205] 26] rfl ?_
     refine sg rfl (ln (qc (rt (kq_cmp H201 H201 (fun c208 => ?_)))))
     exact kq_retR (rss2 rfl (rs_agg rfl rfl) (rs_tmp rfl)) (orHp H201 H201) (fr_or f202 f202) ⟨(⟨(⟨m.doms, (m.cons ++ [c])⟩ : Mod).doms, (⟨m.doms, (m.cons ++ [c])⟩ : Mod).cons⟩ : Mod), true, _, _, rfl, (Sl.mono ‹_› (fun b o h => orL b o h) (fun _ _ h => h)), (Cons.mono' ‹_› (fun b o h => orC c208 b o h)), by first | exact (wc_no hv2).symm | exact (wc_yes hv2).symm⟩ .none
  ·refine kl_alloc (cs := [.slice none 0 0, .slice none 0 0]) rfl (fun b209 hb210 => ?_)
   refine ln (qa nsl (ta 4 rfl (kl_callL rfl rfl (cloneC_ok m.cons (by omega) ‹_›) (fun v211 H212 f213 o214 => ?_))))
   refine ln (qa nsl (ta 7 rfl (cm9 Hmc Hcv (fun c215 => ?_))))
   have o216 := OwnL.mono (K' := orHp Hmc Hcv) o214 orL
   refine cm9 (orHp Hmc Hcv) Hca (fun c217 => ?_)
   have o218 := OwnL.mono (K' := orHp (orHp Hmc Hcv) Hca) o216 orL
   refine cm9 (orHp (orHp Hmc Hcv) Hca) Hcr (fun c219 => ?_)
   have o220 := OwnL.mono (K' := orHp (orHp (orHp Hmc Hcv) Hca) Hcr) o218 orL
   refine aL9 c rfl rfl o220 r131 ⟨_, _, _, rfl, (Sl.mono ‹_› (fun b o h => orL b o (orL b o (orC c215 b o h))) (fun _ _ h => h)), (Sl.mono ‹_› (fun b o h => orL b o (orC c217 b o h)) (fun _ _ h => h)), (Rows.mono' ‹_› (fun b o h => orC c219 b o h))⟩ (oc rfl (oc (Sl.oneCell ‹_›) (oc (Sl.oneCell ‹_›) (oc rfl (oc (Sl.oneCell ‹_›) oc_nil))))) (by (simp; omega)) (by decide) (fun v221 H222 o223 f224 => ?_)
   have f225 := f224 B f213 (Nat.le_refl _)
   refine ln (qa nsl (ta 8 rfl (kl_bd rfl (cp (Sl.cells ‹_›) (cp (OwnL.cells ‹_›) cp_nil)) rfl ?_)))
   refine ln (qx rfl (ta 10 rfl (kl_stW (us := [vmd, v221]) rfl rfl rfl rfl (oc (Sl.oneCell ‹_›) (oc (OwnL.oneCell ‹_›) oc_nil)) rfl ?_)))
   refine cg [H222, bxS b209 [vmd, v221] 26, bxS b9 [.slice none 0 0, .slice none 0 0] 26] rfl ?_
   refine ln (qx rfl (kt_end (by kernel_rfl) ?_))
   refine qc (cS (cS (cr (kl_ldW rfl rfl (cm9 H222 (orHp (orHp (orHp Hmc Hcv) Hca) Hcr) (fun c227 => ?_))))))
   have h226 := OwnL.consK o223 c227
   refine cP rfl rfl (validMod_ok (⟨m.doms, (m.cons ++ [c])⟩ : Mod) ‹_› ‹_›) ?_
   refine nt9 rfl (ln (qc (cd9 rfl (fun c228 => ?_) (fun c228 => ?_))))
   ·have c228r := c228
    try simp only [smpE] at c228
    have hv := c228r
    have hv2 : validModB (withC m c) = false := by simpa [withC] using hv
    refine cS (cr (kl_bd rfl cp_nil rfl ?_))
    refine kl_stW (us := [.slice none 0 0, .slice none 0 0]) rfl rfl rfl rfl (oc rfl (oc rfl oc_nil)) rfl ?_
    refine cg [H222, bxS b209 [vmd, v221] 26, bxS b9 [.slice none 0 0, .slice none 0 0] 26] rfl ?_
    refine sg rfl (ln (qc (rt (kq_cmp noHp noHp (fun c229 => ?_)))))
    exact kq_retR (rss2 rfl (rs_agg rfl rfl) (rs_tmp rfl)) (orHp noHp noHp) (fr_or (fr_no _) (fr_no _)) ⟨(⟨[], []⟩ : Mod), false, _, _, rfl, (Sl.mono Sl.nil (fun b o h => orL b o h) (fun _ _ h => h)), (Sl.mono Sl.nil (fun b o h => orC c229 b o h) (fun _ _ h => h)), by first | exact (wc_no hv2).symm | exact (wc_yes hv2).symm⟩ .none
   ·have c228r := c228
    try simp only [smpE] at c228
    have hv := c228r
    have hv2 : validModB (withC m c) = true := by simpa [withC] using hv
    refine sk (qc (cS (cr (kl_ldW rfl rfl (cm9 H222 (orHp (orHp (orHp Hmc Hcv) Hca) Hcr) (fun c231 => ?_))))))
    have h230 := OwnL.consK o223 c231
    refine kl_call rfl rfl (copyModI_ok (⟨m.doms, (m.cons ++ [c])⟩ : Mod) (ok_small ⟨hv2⟩) ‹_› ‹_›) (fun v232 H233 f234 h235 => ?_)
    obtain ⟨u236, u237, rfl, h238, h239⟩ := h235
    refine kl_stW (us := [u236, u237]) rfl rfl rfl rfl (oc (Sl.oneCell ‹_›) (oc (Sl.oneCell ‹_›) oc_nil)) rfl ?_
    refine cg [H222, bxS b209 [vmd, v221] 26, bxS b9 [u236, u237] 26] rfl ?_
    refine sg rfl (ln (qc (rt (kq_cmp H233 H233 (fun c240 => ?_)))))
    exact kq_retR (rss2 rfl (rs_agg rfl rfl) (rs_tmp rfl)) (orHp H233 H233) (fr_or f234 f234) ⟨(⟨(⟨m.doms, (m.cons ++ [c])⟩ : Mod).doms, (⟨m.doms, (m.cons ++ [c])⟩ : Mod).cons⟩ : Mod), true, _, _, rfl, (Sl.mono ‹_› (fun b o h => orL b o h) (fun _ _ h => h)), (Cons.mono' ‹_› (fun b o h => orC c240 b o h)), by first | exact (wc_no hv2).symm | exact (wc_yes hv2).symm⟩ .none
 ·refine kl_alloc (cs := [.slice none 0 0, .slice none 0 0]) rfl (fun b241 hb242 => ?_)
  refine ln (qa nsl (kt_b 4 6 rfl rfl (by kernel_rfl) ?_ ?_))
  ·refine kl_callL rfl rfl (cloneC_ok m.cons (by omega) ‹_›) (fun v243 H244 f245 o246 => ?_)
   refine ln (qa nsl (ta 6 rfl (kl_bsK rfl (fun v247 H248 f249 r250 => ?_))))
   refine ln (qa nsl (ta 7 rfl (cm9 Hmc Hcv (fun c251 => ?_))))
   have o252 := OwnL.mono (K' := orHp Hmc Hcv) o246 orL
   refine cm9 (orHp Hmc Hcv) Hca (fun c253 => ?_)
   have o254 := OwnL.mono (K' := orHp (orHp Hmc Hcv) Hca) o252 orL
   refine cm9 (orHp (orHp Hmc Hcv) Hca) Hcr (fun c255 => ?_)
   have o256 := OwnL.mono (K' := orHp (orHp (orHp Hmc Hcv) Hca) Hcr) o254 orL
   refine aL9 c rfl rfl o256 r250 ⟨_, _, _, rfl, (Sl.mono ‹_› (fun b o h => orL b o (orL b o (orC c251 b o h))) (fun _ _ h => h)), (Sl.mono ‹_› (fun b o h => orL b o (orC c253 b o h)) (fun _ _ h => h)), (Rows.mono' ‹_› (fun b o h => orC c255 b o h))⟩ (oc rfl (oc (Sl.oneCell ‹_›) (oc (Sl.oneCell ‹_›) (oc rfl (oc (Sl.oneCell ‹_›) oc_nil))))) (by (simp; omega)) (by decide) (fun v257 H258 o259 f260 => ?_)
   have f261 := f260 B f245 (Nat.le_refl _)
   refine ln (qa nsl (ta 8 rfl (kl_bd rfl (cp (Sl.cells ‹_›) (cp (OwnL.cells ‹_›) cp_nil)) rfl ?_)))
   refine ln (qx rfl (ta 10 rfl (kl_stW (us := [vmd, v257]) rfl rfl rfl rfl (oc (Sl.oneCell ‹_›) (oc (OwnL.oneCell ‹_›) oc_nil)) rfl ?_)))
   refine cg [H258, bxS b241 [vmd, v257] 26, bxS b9 [.slice none 0 0, .slice none 0 0] 26] rfl ?_
   refine ln (qx rfl (kt_end (by kernel_rfl) ?_))
   refine qc (cS (cS (cr (kl_ldW rfl rfl (cm9 H258 (orHp (orHp (orHp Hmc Hcv) Hca) Hcr) (fun c263 => ?_))))))
   have h262 := OwnL.consK o259 c263
   refine cP rfl rfl (validMod_ok (⟨m.doms, (m.cons ++ [c])⟩ : Mod) ‹_› ‹_›) ?_
   refine nt9 rfl (ln (qc (cd9 rfl (fun c264 => ?_) (fun c264 => ?_))))
   ·have c264r := c264
    try simp only [smpE] at c264
    have hv := c264r
    have hv2 : validModB (withC m c) = false := by simpa [withC] using hv
    refine cS (cr (kl_bd rfl cp_nil rfl ?_))
    refine kl_stW (us := [.slice none 0 0, .slice none 0 0]) rfl rfl rfl rfl (oc rfl (oc rfl oc_nil)) rfl ?_
    refine cg [H258, bxS b241 [vmd, v257] 26, bxS b9 [.slice none 0 0, .slice none 0 0] 26] rfl ?_
    refine sg rfl (ln (qc (rt (kq_cmp noHp noHp (fun c265 => ?_)))))
    exact kq_retR (rss2 rfl (rs_agg rfl rfl) (rs_tmp rfl)) (orHp noHp noHp) (fr_or (fr_no _) (fr_no _)) ⟨(⟨[], []⟩ : Mod), false, _, _, rfl, (Sl.mono Sl.nil (fun b o h => orL b o h) (fun _ _ h => h)), (Sl.mono Sl.nil (fun b o h => orC c265 b o h) (fun _ _ h => h)), by first | exact (wc_no hv2).symm | exact (wc_yes hv2).symm⟩ .none
   ·have c264r := c264
    try simp only [smpE] at c264
    have hv := c264r
    have hv2 : validModB (withC m c) = true := by simpa [withC] using hv
    refine sk (qc (cS (cr (kl_ldW rfl rfl (cm9 H258 (orHp (orHp (orHp Hmc Hcv) Hca) Hcr) (fun c267 => ?_))))))
    have h266 := OwnL.consK o259 c267
    refine kl_call rfl rfl (copyModI_ok (⟨m.doms, (m.cons ++ [c])⟩ : Mod) (ok_small ⟨hv2⟩) ‹_› ‹_›) (fun v268 H269 f270 h271 => ?_)
    obtain ⟨u272, u273, rfl, h274, h275⟩ := h271
    refine kl_stW (us := [u272, u273]) rfl rfl rfl rfl (oc (Sl.oneCell ‹_›) (oc (Sl.oneCell ‹_›) oc_nil)) rfl ?_
    refine cg [H258, bxS b241 [vmd, v257] 26, bxS b9 [u272, u273] 26] rfl ?_
    refine sg rfl (ln (qc (rt (kq_cmp H269 H269 (fun c276 => ?_)))))
    exact kq_retR (rss2 rfl (rs_agg rfl rfl) (rs_tmp rfl)) (orHp H269 H269) (fr_or f270 f270) ⟨(⟨(⟨m.doms, (m.cons ++ [c])⟩ : Mod).doms, (⟨m.doms, (m.cons ++ [c])⟩ : Mod).cons⟩ : Mod), true, _, _, rfl, (Sl.mono ‹_› (fun b o h => orL b o h) (fun _ _ h => h)), (Cons.mono' ‹_› (fun b o h => orC c276 b o h)), by first | exact (wc_no hv2).symm | exact (wc_yes hv2).symm⟩ .none
  ·refine kl_bsK rfl (fun v277 H278 f279 r280 => ?_)
   refine ln (qa nsl (ta 4 rfl (kl_callL rfl rfl (cloneC_ok m.cons (by omega) ‹_›) (fun v281 H282 f283 o284 => ?_))))
   refine ln (qa nsl (ta 7 rfl (cm9 Hmc Hcv (fun c285 => ?_))))
   have o286 := OwnL.mono (K' := orHp Hmc Hcv) o284 orL
   refine cm9 (orHp Hmc Hcv) Hca (fun c287 => ?_)
   have o288 := OwnL.mono (K' := orHp (orHp Hmc Hcv) Hca) o286 orL
   refine cm9 (orHp (orHp Hmc Hcv) Hca) Hcr (fun c289 => ?_)
   have o290 := OwnL.mono (K' := orHp (orHp (orHp Hmc Hcv) Hca) Hcr) o288 orL
   refine aL9 c rfl rfl o290 r280 ⟨_, _, _, rfl, (Sl.mono ‹_› (fun b o h => orL b o (orL b o (orC c285 b o h))) (fun _ _ h => h)), (Sl.mono ‹_› (fun b o h => orL b o (orC c287 b o h)) (fun _ _ h => h)), (Rows.mono' ‹_› (fun b o h => orC c289 b o h))⟩ (oc rfl (oc (Sl.oneCell ‹_›) (oc (Sl.oneCell ‹_›) (oc rfl (oc (Sl.oneCell ‹_›) oc_nil))))) (by (simp; omega)) (by decide) (fun v291 H292 o293 f294 => ?_)
   have f295 := f294 B f283 (Nat.le_refl _)
   refine ln (qa nsl (ta 8 rfl (kl_bd rfl (cp (Sl.cells ‹_›) (cp (OwnL.cells ‹_›) cp_nil)) rfl ?_)))
   refine ln (qx rfl (ta 10 rfl (kl_stW (us := [vmd, v291]) rfl rfl rfl rfl (oc (Sl.oneCell ‹_›) (oc (OwnL.oneCell ‹_›) oc_nil)) rfl ?_)))
   refine cg [H292, bxS b241 [vmd, v291] 26, bxS b9 [.slice none 0 0, .slice none 0 0] 26] rfl ?_
   refine ln (qx rfl (kt_end (by kernel_rfl) ?_))
   refine qc (cS (cS (cr (kl_ldW rfl rfl (cm9 H292 (orHp (orHp (orHp Hmc Hcv) Hca) Hcr) (fun c297 => ?_))))))
   have h296 := OwnL.consK o293 c297
   refine cP rfl rfl (validMod_ok (⟨m.doms, (m.cons ++ [c])⟩ : Mod) ‹_› ‹_›) ?_
   refine nt9 rfl (ln (qc (cd9 rfl (fun c298 => ?_) (fun c298 => ?_))))
   ·have c298r := c298
    try simp only [smpE] at c298
    have hv := c298r
    have hv2 : validModB (withC m c) = false := by simpa [withC] using hv
    refine cS (cr (kl_bd rfl cp_nil rfl ?_))
    refine kl_stW (us := [.slice none 0 0, .slice none 0 0]) rfl rfl rfl rfl (oc rfl (oc rfl oc_nil)) rfl ?_
    refine cg [H292, bxS b241 [vmd, v291] 26, bxS b9 [.slice none 0 0, .slice none 0 0] 26] rfl ?_
    refine sg rfl (ln (qc (rt (kq_cmp noHp noHp (fun c299 => ?_)))))
    exact kq_retR (rss2 rfl (rs_agg rfl rfl) (rs_tmp rfl)) (orHp noHp noHp) (fr_or (fr_no _) (fr_no _)) ⟨(⟨[], []⟩ : Mod), false, _, _, rfl, (Sl.mono Sl.nil (fun b o h => orL b o h) (fun _ _ h => h)), (Sl.mono Sl.nil (fun b o h => orC c299 b o h) (fun _ _ h => h)), by first | exact (wc_no hv2).symm | exact (wc_yes hv2).symm⟩ .none
   ·have c298r := c298
    try simp only [smpE] at c298
    have hv := c298r
    have hv2 : validModB (withC m c) = true := by simpa [withC] using hv
    refine sk (qc (cS (cr (kl_ldW rfl rfl (cm9 H292 (orHp (orHp (orHp Hmc Hcv) Hca) Hcr) (fun c301 => ?_))))))
    have h300 := OwnL.consK o293 c301
    refine kl_call rfl rfl (copyModI_ok (⟨m.doms, (m.cons ++ [c])⟩ : Mod) (ok_small ⟨hv2⟩) ‹_› ‹_›) (fun v302 H303 f304 h305 => ?_)
    obtain ⟨u306, u307, rfl, h308, h309⟩ := h305
    refine kl_stW (us := [u306, u307]) rfl rfl rfl rfl (oc (Sl.oneCell ‹_›) (oc (Sl.oneCell ‹_›) oc_nil)) rfl ?_
    refine cg [H292, bxS b241 [vmd, v291] 26, bxS b9 [u306, u307] 26] rfl ?_
    refine sg rfl (ln (qc (rt (kq_cmp H303 H303 (fun c310 => ?_)))))
    exact kq_retR (rss2 rfl (rs_agg rfl rfl) (rs_tmp rfl)) (orHp H303 H303) (fr_or f304 f304) ⟨(⟨(⟨m.doms, (m.cons ++ [c])⟩ : Mod).doms, (⟨m.doms, (m.cons ++ [c])⟩ : Mod).cons⟩ : Mod), true, _, _, rfl, (Sl.mono ‹_› (fun b o h => orL b o h) (fun _ _ h => h)), (Cons.mono' ‹_› (fun b o h => orC c310 b o h)), by first | exact (wc_no hv2).symm | exact (wc_yes hv2).symm⟩ .none
theorem belowI_ok {Hmd : Hp} {vmd : Value} {Hmc : Hp} {vmc : Value} {Hobj : Hp} {vobj : Value} (m : Mod) (obj : List Int) (b : Int) (hl : m.cons.length ≤ 100) (ho : obj.length ≤ 100) (hmd : Ints Hmd vmd m.doms) (hmc : Cons Hmc vmc m.cons) (hobj : Ints Hobj vobj obj) : Spec Tryz.prog 71 [.agg #[vmd, vmc], vobj, .int .i64 b] [Hmd, Hmc, Hobj] (fun Hq vq => ∃ (mq : Mod) (bq : Bool) (uq0a uq0b : Value), vq = .tuple #[.agg #[uq0a, uq0b], .bool bq] ∧ Ints Hq uq0a mq.doms ∧ Cons Hq uq0b mq.cons ∧ (mq, bq) = wcR m (lowC obj.length obj b)) := by
 refine spec_ofR Tryz.func71 rfl rfl rfl (fun B => ?_)
 refine cS (cr (kl_box rfl rfl (fun p1 H2 f3 a4 => ?_)))
 refine kl_alloc (cs := [.slice none 0 0, .slice none 0 0]) rfl (fun b5 hb6 => ?_)
 refine sg rfl (ln (qc (cS (cr (mv rfl (le9 rfl ‹_› (fun l7 => ?_)))))))
 refine kl_mkL0 (R := IntV) rfl rfl (by omega) (by omega) (by decide) (fun v8 H9 f10 o11 => ?_)
 refine sg rfl (ln (qc (cS (cS (cr (mv rfl (le9 rfl ‹_› (fun l12 => ?_))))))))
 refine mv rfl (ln (qc (bl (kc_loopL (A := Nat × List Int × Value × Hp) (fun zz => (zz.1 ≤ obj.length) ∧ (zz.2.1 = iotaN zz.1) ∧ OwnL 3 1 zz.2.2.2 noHp IntV zz.2.2.1 zz.2.1 ∧ Fr B zz.2.2.2) (fun zz => obj.length - zz.1) (fun zz => [zz.2.2.2, bxS b5 [.slice none 0 0, .slice none 0 0] 26]) (fun zz => [(15, .int .i64 (zz.1 : Int)), (8, zz.2.2.1)]) (0, ([]), v8, H9) (pk [1, 2, 3, 6, 7, 14] rfl) (pk [15, 8] rfl) rfl ⟨Nat.zero_le _, rfl, o11, f10⟩ ?_))))
 rintro ⟨k, vs, v18, H15⟩ hJ19
 obtain ⟨hk13, hi14, o16, f17⟩ : (k ≤ obj.length) ∧ (vs = iotaN k) ∧ OwnL 3 1 H15 noHp IntV v18 vs ∧ Fr B H15 := hJ19
 change KC _ _ (_) [H15, bxS b5 [.slice none 0 0, .slice none 0 0] 26] _ ([(15, .int .i64 (k : Int)), (8, v18)] ++ _)
 refine cS (cr (ls9 rfl rfl ?_))
 refine ln (qc (cS (ci9 rfl (fun c20 => ?_) (fun c20 => ?_))))
 ·refine sk (qc (cS (bl (cS (cr (mv rfl (sg rfl (ln (qc (cr ?_))))))))))
  refine mv rfl (mv rfl (bs9 rfl rfl rfl (by decide) (ca rfl ca_nil) (fun v21 H22 f23 r24 s25 => ?_)))
  have h26 : Ints H22 v21 [(k : Int)] := litInts (xs := [(k : Int)]) (by simpa using s25)
  refine aL9 (k : Int) rfl rfl o16 ‹_› rfl (oc rfl oc_nil) (by (have h9 := congrArg List.length hi14; rw [iota_len] at h9; omega)) (by decide) (fun v27 H28 o29 f30 => ?_)
  have f31 := f30 B f17 (Nat.le_refl _)
  refine sg rfl (ln (qc (cr (ic9 rfl rfl (by omega) ?_))))
  refine mv rfl (ln (tk [H28, bxS b5 [.slice none 0 0, .slice none 0 0] 26] ?_))
  refine rL ((k + 1), (vs ++ [(k : Int)]), v27, H28) (by omega) (⟨by omega, (iotaN_step hi14), o29, f31⟩) (pk [15, 8] rfl) (pk [1, 2, 3, 6, 7, 14] rfl) rfl slr9
 ·refine ex9 (qc (cS (cr (kl_ldS rfl ‹_› rfl ?_))))
  refine mv rfl (mv rfl (mv rfl (kl_bd rfl (cp rfl (cp (OwnL.cells ‹_›) (cp (Sl.cells ‹_›) (cp rfl cp_nil)))) rfl ?_)))
  refine kl_call rfl rfl (withI_ok m ⟨(1 : Int), vs, obj, b, []⟩ hl ‹_› ‹_› (OwnL.ints o16) ‹_› (Sl.nil (H := noHp))) (fun v32 H33 f34 h35 => ?_)
  obtain ⟨z38, z43, u39, u40, rfl, h41, h42, h37⟩ := h35
  have hwc := h37
  refine kl_xt rfl rfl (kl_xt rfl rfl (kl_stW (us := [u39, u40]) rfl rfl rfl rfl (oc (Sl.oneCell ‹_›) (oc (Sl.oneCell ‹_›) oc_nil)) rfl ?_))
  refine cg [H15, bxS b5 [u39, u40] 26] rfl ?_
  refine sg rfl (ln (qc (rt (kq_cmp H33 H33 (fun c44 => ?_)))))
  exact kq_retR (rss2 rfl (rs_agg rfl rfl) (rs_tmp rfl)) (orHp H33 H33) (fr_or f34 f34) ⟨(⟨z38.doms, z38.cons⟩ : Mod), z43, _, _, rfl, (Sl.mono ‹_› (fun b o h => orL b o h) (fun _ _ h => h)), (Cons.mono' ‹_› (fun b o h => orC c44 b o h)), by (have h9 := hi14; rw [show k = obj.length from by omega] at h9; rw [h9] at hwc; exact hwc)⟩ .none
theorem boundedI_ok {Hmd : Hp} {vmd : Value} {Hmc : Hp} {vmc : Value} {Hobj : Hp} {vobj : Value} (m : Mod) (obj : List Int) (b : Int) (hmd : Ints Hmd vmd m.doms) (hmc : Cons Hmc vmc m.cons) (hobj : Ints Hobj vobj obj) : Spec Tryz.prog 37 [.agg #[vmd, vmc], vobj, .int .i64 b] [Hmd, Hmc, Hobj] (fun Hq vq => ∃ (mq : Mod) (bq : Bool) (uq0a uq0b : Value), vq = .tuple #[.agg #[uq0a, uq0b], .bool bq] ∧ Ints Hq uq0a mq.doms ∧ Cons Hq uq0b mq.cons ∧ (mq, bq) = bdR m obj b) := by
 refine spec_ofR Tryz.func37 rfl rfl rfl (fun B => ?_)
 refine cS (cr (kl_box rfl rfl (fun p1 H2 f3 a4 => ?_)))
 refine kl_alloc (cs := [.slice none 0 0, .slice none 0 0]) rfl (fun b5 hb6 => ?_)
 refine sg rfl (ln (qc (cS (cS (cr (kl_ldS rfl ‹_› rfl ?_))))))
 refine mv rfl (cP rfl rfl (objectiveOk_ok m obj ‹_› ‹_› ‹_›) ?_)
 refine nt9 rfl (mv rfl (jn 4 16 (.bool (!(objOkB m obj) || !(withinB b (-998 : Int) (1000 : Int)))) (pk [1, 2, 3, 6, 7, 12] rfl) (fun J8 => ?_) ?_))
 ·rcases Bool.eq_false_or_eq_true (!(objOkB m obj)) with g7 | g7
  ·refine gF rfl rfl g7 (gF rfl rfl g7 (gF rfl rfl g7 (oT (!(withinB b (-998 : Int) (1000 : Int))) rfl rfl g7 ?_)))
   exact J8 _ (pk [16, 1, 2, 3, 6, 7, 12] rfl)
  ·have g7p := g7
   try simp only [smpD] at g7p
   refine gT rfl rfl g7 (mv rfl (gT rfl rfl g7 (cP rfl rfl (within_ok b (-998 : Int) (1000 : Int)) ?_)))
   refine gT rfl rfl g7 (nt9 rfl (oF rfl rfl g7 ?_))
   exact J8 _ (pk [16, 1, 2, 3, 6, 7, 12] rfl)
 refine ln (qc (cd9 rfl (fun c9 => ?_) (fun c9 => ?_)))
 ·have c9r := c9
  try simp only [smpE] at c9
  have hno := c9r
  refine cS (cr (kl_bd rfl cp_nil rfl ?_))
  refine kl_stW (us := [.slice none 0 0, .slice none 0 0]) rfl rfl rfl rfl (oc rfl (oc rfl oc_nil)) rfl ?_
  refine cg [bxS b5 [.slice none 0 0, .slice none 0 0] 26] rfl ?_
  refine sg rfl (ln (qc (rt (kq_cmp noHp noHp (fun c10 => ?_)))))
  exact kq_retR (rss2 rfl (rs_agg rfl rfl) (rs_tmp rfl)) (orHp noHp noHp) (fr_or (fr_no _) (fr_no _)) ⟨(⟨[], []⟩ : Mod), false, _, _, rfl, (Sl.mono Sl.nil (fun b o h => orL b o h) (fun _ _ h => h)), (Sl.mono Sl.nil (fun b o h => orC c10 b o h) (fun _ _ h => h)), by first | exact (bd_no hno).symm | (rw [bd_yes hgo]; exact hbl)⟩ .none
 ·have c9r := c9
  try simp only [smpE] at c9
  have hgo := c9r
  have hok := bd_ok hgo
  refine sk (qc (cS (cr (kl_ldS rfl ‹_› rfl ?_))))
  refine mv rfl (mv rfl (sb9 rfl rfl (by omega) ?_))
  refine kl_call rfl rfl (belowI_ok m obj (b - (1 : Int)) hok.1 hok.2.1 ‹_› ‹_› ‹_›) (fun v11 H12 f13 h14 => ?_)
  obtain ⟨z17, z22, u18, u19, rfl, h20, h21, h16⟩ := h14
  have hbl := h16
  refine kl_xt rfl rfl (kl_xt rfl rfl (kl_stW (us := [u18, u19]) rfl rfl rfl rfl (oc (Sl.oneCell ‹_›) (oc (Sl.oneCell ‹_›) oc_nil)) rfl ?_))
  refine cg [bxS b5 [u18, u19] 26] rfl ?_
  refine sg rfl (ln (qc (rt (kq_cmp H12 H12 (fun c23 => ?_)))))
  exact kq_retR (rss2 rfl (rs_agg rfl rfl) (rs_tmp rfl)) (orHp H12 H12) (fr_or f13 f13) ⟨(⟨z17.doms, z17.cons⟩ : Mod), z22, _, _, rfl, (Sl.mono ‹_› (fun b o h => orL b o h) (fun _ _ h => h)), (Cons.mono' ‹_› (fun b o h => orC c23 b o h)), by first | exact (bd_no hno).symm | (rw [bd_yes hgo]; exact hbl)⟩ .none
end
end Go.Proofs.YtolndgeihijlbaaGreat
