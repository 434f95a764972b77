/- Parts of the proof: a logic of partial frames, plain functions, walks of the program's functions. Conditions: those that each statement names. -/
import Derived.Test.YtolndgeihijlbaaGreatKBoundOptimal6
namespace Go.Proofs.YtolndgeihijlbaaGreat
open Go
set_option linter.unusedSimpArgs false
set_option linter.unusedVariables false
section
theorem withS_ok {Hmd : Hp} {vmd : Value} {Hmc : Hp} {vmc : Value} {Hcv : Hp} {vcv : Value} {Hca : Hp} {vca : Value} {Hcr : Hp} {vcr : Value} (m : Mod) (c : Con) (hm : ModSm 100 m) (hl : m.cons.length ≤ 50) (hc : ConSm 100 c) (hmd : Ints Hmd vmd m.doms) (hmc : Cons Hmc vmc m.cons) (hcv : Ints Hcv vcv c.vars) (hca : Ints Hca vca c.args) (hcr : Rows Hcr vcr c.rows) : Spec Tryz.prog 74 [.agg #[vmd, vmc], .agg #[.int .i64 c.kind, vcv, vca, .int .i64 c.bound, vcr]] [Hmd, Hmc, Hcv, Hca, Hcr] (fun Hq vq => ∃ (mq : Mod) (bq : Bool) (uq0a uq0b : Value), vq = .tuple #[.agg #[uq0a, uq0b], .bool bq] ∧ Ints Hq uq0a mq.doms ∧ Cons Hq uq0b mq.cons ∧ (mq, bq) = wcR m c) := by
 refine spec_ofR Tryz.func74 rfl rfl rfl (fun B => ?_)
 refine cS (cr (kl_box rfl rfl (fun p1 H2 f3 a4 => ?_)))
 refine kl_box rfl rfl (fun p5 H6 f7 a8 => ?_)
 refine kl_alloc (cs := [.slice none 0 0, .slice none 0 0]) rfl (fun b9 hb10 => ?_)
 refine sg rfl (ln (qc (cS (cr (kl_ldS rfl ‹_› rfl ?_)))))
 refine cT rfl rfl (copyModE_ok m hm ‹_› ‹_›) (fun v11 L1 Ln K15 h12 f13 f14 => ?_)
 obtain ⟨rfl, H16, M17, v18, v19, z20, rfl, rfl, o22, o23, h21⟩ := h12
 have f24 := f13 _ (.head _)
 have f25 := f13 _ (.tail _ (.head _))
 have hcm := h21
 refine nm ?_
 refine kl_alloc (cs := [.slice none 0 0, .slice none 0 0]) rfl (fun b26 hb27 => ?_)
 refine kl_stW (us := [v18, v19]) rfl rfl rfl rfl (oc (OwnL.oneCell ‹_›) (oc (OwnL.oneCell ‹_›) oc_nil)) rfl ?_
 refine cg [sing b26 (.cells [v18, v19].toArray 26 (0, 0)), H16, M17, sing b9 (.cells [.slice none 0 0, .slice none 0 0].toArray 26 (0, 0))] rfl ?_
 refine ln (qc (cS (kc_tree (fun i => ([5, 7] : List Nat).contains i) [sing b26 (.cells [v18, v19].toArray 26 (0, 0))] (by kernel_rfl) ?_)))
 refine tq 0 (.cons_cons _ nsl) rfl (fV rfl (ln (qq (tq 1 (.cons_cons _ nsl) rfl (ld rfl (at_box (T := 26) (cs := [v18, v19]) (off := 1) (fz := (0, 0))) (ln (qq (tq 2 (.cons_cons _ nsl) rfl (kl_ldS rfl ‹_› rfl ?_)))))))))
 refine ln (qq (ta 3 rfl (kl_call rfl rfl (copyConE_ok c hc ‹_› ‹_› ‹_›) (fun v28 H29 f30 h31 => ?_))))
 obtain ⟨z32, h34, h33⟩ := h31
 have hce := h33
 obtain ⟨_, rfl, h38⟩ := h34
 have h38' := h38
 obtain ⟨u35, u36, u37, rfl, h39, h40, h41⟩ := h38
 refine ln (qa (.cons_cons _ nsl) (ta 4 rfl (kl_bsK rfl (fun v42 H43 f44 r45 => ?_))))
 refine ln (qa (.cons_cons _ nsl) (ta 5 rfl (cm9 K15 H29 (fun c46 => ?_))))
 have o47 := OwnL.mono (K' := orHp K15 H29) o23 orL
 refine aL9 z32 rfl rfl o47 r45 (RMono.mono (orC c46) ‹_›) (oc rfl (oc (Sl.oneCell ‹_›) (oc (Sl.oneCell ‹_›) (oc rfl (oc (Sl.oneCell ‹_›) oc_nil))))) (by (rw [hcm]; simp; omega)) (by decide) (fun v48 H49 o50 f51 => ?_)
 have f52 := f51 B f25 (Nat.le_refl _)
 refine ln (qx rfl (tq 6 (.cons_cons _ nsl) rfl (fV rfl (ln (qq (ta 7 rfl (sB rfl rfl rfl (OwnL.oneCell ‹_›) (OwnL.cells ‹_›) ?_)))))))
 refine cg [sing b26 (.cells [v18, v48].toArray 26 (0, 0)), H16, H49, sing b9 (.cells [.slice none 0 0, .slice none 0 0].toArray 26 (0, 0))] rfl ?_
 refine ln (qx rfl (kt_end (by kernel_rfl) ?_))
 refine qc (cS (cS (cr (kl_ldW rfl rfl ?_))))
 have h53 := OwnL.ints o22
 refine cm9 H49 (orHp K15 H29) (fun c55 => ?_)
 have h54 := OwnL.consK o50 c55
 refine cP rfl rfl (svalidMod_ok (⟨z20.doms, (z20.cons ++ [z32])⟩ : Mod) ‹_› ‹_›) ?_
 refine nt9 rfl (ln (qc (cd9 rfl (fun c56 => ?_) (fun c56 => ?_))))
 ·have c56r := c56
  try simp only [smpE] at c56
  have hv := c56r
  rw [hcm, hce] at hv
  have hv2 : validModB (withC m c) = false := by simpa [withC] using hv
  refine cS (cr (kl_bd rfl cp_nil rfl ?_))
  refine kl_stW (us := [.slice none 0 0, .slice none 0 0]) rfl rfl rfl rfl (oc rfl (oc rfl oc_nil)) rfl ?_
  refine cg [sing b26 (.cells [v18, v48].toArray 26 (0, 0)), H16, H49, sing b9 (.cells [.slice none 0 0, .slice none 0 0].toArray 26 (0, 0))] rfl ?_
  refine sg rfl (ln (qc (rt (kq_cmp noHp noHp (fun c57 => ?_)))))
  exact kq_retR (rss2 rfl (rs_agg rfl rfl) (rs_tmp rfl)) (orHp noHp noHp) (fr_or (fr_no _) (fr_no _)) ⟨(⟨[], []⟩ : Mod), false, _, _, rfl, (Sl.mono Sl.nil (fun b o h => orL b o h) (fun _ _ h => h)), (Sl.mono Sl.nil (fun b o h => orC c57 b o h) (fun _ _ h => h)), by first | exact (wc_no hv2).symm | (rw [hcm, hce]; exact (wc_yes hv2).symm)⟩ .none
 ·have c56r := c56
  try simp only [smpE] at c56
  have hv := c56r
  rw [hcm, hce] at hv
  have hv2 : validModB (withC m c) = true := by simpa [withC] using hv
  refine sk (qc (cS (cr (kl_ldW rfl rfl (kl_stW (us := [v18, v48]) rfl rfl rfl rfl (oc (OwnL.oneCell ‹_›) (oc (OwnL.oneCell ‹_›) oc_nil)) rfl ?_)))))
  refine cg [sing b26 (.cells [v18, v48].toArray 26 (0, 0)), H16, H49, sing b9 (.cells [v18, v48].toArray 26 (0, 0))] rfl ?_
  refine sg rfl (ln (qc (rt (kq_frz H16 ?_))))
  refine kq_frz H49 ?_
  refine kq_cmp H49 (orHp K15 H29) (fun c58 => ?_)
  refine kq_cmp H16 (orHp H49 (orHp K15 H29)) (fun c59 => ?_)
  exact kq_retR (rss2 rfl (rs_agg rfl rfl) (rs_tmp rfl)) (orHp H16 (orHp H49 (orHp K15 H29))) (fr_or f24 (fr_or f52 (fr_or f14 f30))) ⟨(⟨z20.doms, (z20.cons ++ [z32])⟩ : Mod), true, _, _, rfl, (Sl.mono (OwnL.ints o22) (fun b o h => orL b o h) (fun _ _ h => h)), (Cons.mono' (OwnL.consK o50 c58) (fun b o h => orC c59 b o h)), by first | exact (wc_no hv2).symm | (rw [hcm, hce]; exact (wc_yes hv2).symm)⟩ .none
theorem improvS_ok {Hmd : Hp} {vmd : Value} {Hmc : Hp} {vmc : Value} {Hobj : Hp} {vobj : Value} (m : Mod) (obj : List Int) (b : Int) (hM : MOk m) (ho : obj.length = m.doms.length) (hb : -1000 ≤ b ∧ b ≤ 2000) (hmd : Ints Hmd vmd m.doms) (hmc : Cons Hmc vmc m.cons) (hobj : Ints Hobj vobj obj) : Spec Tryz.prog 40 [.agg #[vmd, vmc], vobj, .int .i64 b] [Hmd, Hmc, Hobj] (fun Hq vq => ∃ (mq : Mod) (bq : Bool) (uq0a uq0b : Value), vq = .tuple #[.agg #[uq0a, uq0b], .bool bq] ∧ Ints Hq uq0a mq.doms ∧ Cons Hq uq0b mq.cons ∧ (mq, bq) = wcR m (lowC obj.length obj (b - 1))) := by
 have hn := hM.n
 have hfew := hM.few
 refine spec_ofR Tryz.func40 rfl rfl rfl (fun B => ?_)
 refine cS (cr (kl_box rfl rfl (fun p1 H2 f3 a4 => ?_)))
 refine kl_alloc (cs := [.slice none 0 0, .slice none 0 0]) rfl (fun b5 hb6 => ?_)
 refine sg rfl (ln (qc (cS (cr (kl_bsI [] rfl rfl rfl (by decide) (fun v7 H8 f9 o10 => ?_))))))
 refine sg rfl (ln (qc (cS (cS (cr (sg rfl (ln (qc (bl (kc_loopL (A := Nat × List Int × Value × Hp) (fun zz => (zz.1 ≤ m.doms.length) ∧ (zz.2.1 = iotaN zz.1) ∧ OwnL 3 1 zz.2.2.2 noHp IntV zz.2.2.1 zz.2.1 ∧ Fr B zz.2.2.2) (fun zz => m.doms.length - zz.1) (fun zz => [zz.2.2.2, sing b5 (.cells [.slice none 0 0, .slice none 0 0].toArray 26 (0, 0))]) (fun zz => [(9, .int .i64 (zz.1 : Int)), (8, zz.2.2.1)]) (0, ([]), v7, H8) (pk [1, 2, 3, 6, 7] rfl) (pk [9, 8] rfl) rfl ⟨Nat.zero_le _, rfl, o10, f9⟩ ?_))))))))))
 rintro ⟨k, vs, v16, H13⟩ hJ17
 obtain ⟨hk11, hi12, o14, f15⟩ : (k ≤ m.doms.length) ∧ (vs = iotaN k) ∧ OwnL 3 1 H13 noHp IntV v16 vs ∧ Fr B H13 := hJ17
 change KC _ _ (_) [H13, sing b5 (.cells [.slice none 0 0, .slice none 0 0].toArray 26 (0, 0))] _ ([(9, .int .i64 (k : Int)), (8, v16)] ++ _)
 refine cS (cS (cr (mv rfl (fd9 rfl ‹_› (fun p18 a19 => ?_)))))
 refine ld rfl ‹_› (le9 rfl ‹_› (fun l20 => ?_))
 refine ls9 rfl rfl ?_
 refine ln (qc (ci9 rfl (fun c21 => ?_) (fun c21 => ?_)))
 ·refine sk (qc (cS (bl (cr (mv rfl (mv rfl (bs9 rfl rfl rfl (by decide) (ca rfl ca_nil) (fun v22 H23 f24 r25 s26 => ?_))))))))
  have h27 : Ints H23 v22 [(k : Int)] := litInts (xs := [(k : Int)]) (by simpa using s26)
  refine aL9 (k : Int) rfl rfl o14 ‹_› rfl (oc rfl oc_nil) (by (have h9 := congrArg List.length hi12; rw [iota_len] at h9; omega)) (by decide) (fun v28 H29 o30 f31 => ?_)
  have f32 := f31 B f15 (Nat.le_refl _)
  refine sg rfl (ln (qc (cr (mv rfl (ic9 rfl rfl (by omega) ?_)))))
  refine sg rfl (ln (tk [H29, sing b5 (.cells [.slice none 0 0, .slice none 0 0].toArray 26 (0, 0))] ?_))
  refine rL ((k + 1), (vs ++ [(k : Int)]), v28, H29) (by omega) (⟨by omega, (iotaN_step hi12), o30, f32⟩) (pk [9, 8] rfl) (pk [1, 2, 3, 6, 7] rfl) rfl slr9
 ·refine ex9 (qc (cS (kc_tree (fun i => ([7, 10] : List Nat).contains i) [] (by kernel_rfl) ?_)))
  refine tq 0 nsl rfl (kl_ldS rfl ‹_› rfl ?_)
  refine ln (qq (tq 1 nsl rfl (mv rfl (ln (qq (tq 2 nsl rfl (mv rfl (ln (qq (tq 4 nsl rfl (mv rfl ?_)))))))))))
  refine ln (qq (tq 5 nsl rfl (sb9 rfl rfl (by omega) ?_)))
  refine ln (qq (ta 3 rfl (kl_call rfl rfl (copyInts_ok obj (by omega) ‹_›) (fun v33 H34 f35 o36 => ?_))))
  have h37 := OwnL.ints o36
  refine ln (qa nsl (ta 6 rfl (kl_bd rfl (cp rfl (cp (OwnL.cells ‹_›) (cp (Sl.cells ‹_›) (cp rfl cp_nil)))) rfl ?_)))
  refine ln (qa nsl (ta 7 rfl (kl_call rfl rfl (withS_ok m ⟨(1 : Int), vs, obj, (b - (1 : Int)), []⟩ (ok_small hM) (by omega) (low_small (by have h9 := hi12; rw [show k = obj.length from by omega] at h9; exact h9) (by omega)) ‹_› ‹_› (OwnL.ints o14) ‹_› (Sl.nil (H := noHp))) (fun v38 H39 f40 h41 => ?_))))
  obtain ⟨z44, z49, u45, u46, rfl, h47, h48, h43⟩ := h41
  have hwc := h43
  refine ln (qx rfl (tq 8 nsl rfl (kl_xt rfl rfl (ln (qq (tq 9 nsl rfl (kl_xt rfl rfl (ln (qq (ta 10 rfl (kl_stW (us := [u45, u46]) rfl rfl rfl rfl (oc (Sl.oneCell ‹_›) (oc (Sl.oneCell ‹_›) oc_nil)) rfl ?_)))))))))))
  refine cg [H13, sing b5 (.cells [u45, u46].toArray 26 (0, 0))] rfl ?_
  refine ln (qx rfl (tq 11 nsl rfl (sg rfl (ln (qq (kt_end (by kernel_rfl) ?_))))))
  refine qc (rt (kq_cmp H39 H39 (fun c50 => ?_)))
  exact kq_retR (rss2 rfl (rs_agg rfl rfl) (rs_tmp rfl)) (orHp H39 H39) (fr_or f40 f40) ⟨(⟨z44.doms, z44.cons⟩ : Mod), z49, _, _, rfl, (Sl.mono ‹_› (fun b o h => orL b o h) (fun _ _ h => h)), (Cons.mono' ‹_› (fun b o h => orC c50 b o h)), by (have h9 := hi12; rw [show k = obj.length from by omega] at h9; rw [h9] at hwc; exact hwc)⟩ .none
theorem litDom_ok (l : Lit) (h0 : 0 ≤ l.val ∧ l.val ≤ 5) : SpecP Tryz.prog 169 [.agg #[.int .i64 l.var, .int .i64 l.val, .bool l.neg]] [] (.int .i64 (truesI l)) := by
 have hts := trues_sub h0
 have hsh := ishl_small h0
 refine spec_of Tryz.func169 rfl rfl rfl (fun B => ?_)
 refine cS (cr (kl_box rfl rfl (fun p1 H2 f3 a4 => ?_)))
 refine sg rfl (ln (qc (cS (cS (cr (fd9 rfl ‹_› (fun p5 a6 => ?_)))))))
 refine ld rfl ‹_› (ln (qc (cd9 rfl (fun c7 => ?_) (fun c7 => ?_))))
 ·have c7r := c7
  try simp only [smpE] at c7
  refine cS (cr (fd9 rfl ‹_› (fun p8 a9 => ?_)))
  refine ld rfl ‹_› (kl_shl rfl rfl (by omega) ?_)
  refine sb9 rfl rfl (by omega) ?_
  refine sg rfl (ln (qc (rt (kq_retP rfl rfl (congrArg (Value.int .i64) ?_)))))
  exact hts.1 ‹_›
 ·have c7r := c7
  try simp only [smpE] at c7
  refine sk (qc (cS (cr (fd9 rfl ‹_› (fun p10 a11 => ?_)))))
  refine ld rfl ‹_› (kl_shl rfl rfl (by omega) ?_)
  refine sg rfl (ln (qc (rt (kq_retP rfl rfl (congrArg (Value.int .i64) ?_)))))
  exact trues_F ‹_›
theorem clauseF_ok (n : Nat) {Hc : Hp} {vc : Value} {Hds : Hp} {vds : Value} (c : List Lit) (ds : List Int) (hd : DOk n ds) (hci : ClIn n c) (hn : n ≤ 4) (hc : Lits Hc vc c) (hds : Ints Hds vds ds) : Spec Tryz.prog 167 [vc, vds] [Hc, Hds] (fun Hq vq => Ints Hq vq (unitL c ds)) := by
 have hdl := hd.l
 refine spec_of Tryz.func167 rfl rfl rfl (fun B => ?_)
 refine cS (cr (sg rfl (ln (qc (cS (cr (mv rfl (kl_callL rfl rfl (copyInts_ok ds (by omega) ‹_›) (fun v1 H2 f3 o4 => ?_)))))))))
 refine sg rfl (ln (qc (cS (cr (sg rfl (ln (qc (cS (cS (cr (sg rfl (ln (qc (bl ?_))))))))))))))
 refine kc_loop0 (A := Nat × Int) (fun zz => (zz.1 ≤ c.length) ∧ (CfI c ds zz.1 zz.2)) (fun zz => c.length - zz.1) (fun zz => [(7, .int .i64 (zz.1 : Int)), (6, .int .i64 zz.2)]) (0, (-1 : Int)) (pk [0, 1, 5] rfl) (pk [7, 6] rfl) ⟨Nat.zero_le _, (cf_0 c ds)⟩ ?_
 rintro ⟨k, a⟩ hJ7
 obtain ⟨hk5, hi6⟩ : (k ≤ c.length) ∧ (CfI c ds k a) := hJ7
 change KC _ _ (_) _ _ ([(7, .int .i64 (k : Int)), (6, .int .i64 a)] ++ _)
 have hcf := cf_b hi6
 refine cS (cS (cr (mv rfl (mv rfl (le9 rfl ‹_› (fun l8 => ?_))))))
 refine ls9 rfl rfl ?_
 refine ln (qc (ci9 rfl (fun c9 => ?_) (fun c9 => ?_)))
 ·have hlk := hci _ (getD_mem (d := nilLit) (by omega : k < c.length))
  have hlv := hlk.1
  have hlu := hlk.2
  refine sk (qc (cS (bl (cS (kc_tree (fun i => ([] : List Nat).contains i) [] (by kernel_rfl) ?_)))))
  refine tq 0 nsl rfl (mv rfl (ln (qq (tq 1 nsl rfl (mv rfl (ln (qq (tq 2 nsl rfl (mv rfl (ln (qq ?_)))))))))))
  refine tq 3 nsl rfl (kl_inQ rfl rfl ‹_› (by first | omega | (have h9 := cf_in hci hi6 (by omega); omega) | (have h9 := (cf_in hci hi6 (by omega)).1; omega)) (fun p10 a11 => ?_))
  refine ln (qq (tq 4 nsl rfl (fd9 rfl ‹_› (fun p12 a13 => ?_))))
  refine ln (qq (tq 5 nsl rfl (ld rfl ‹_› (ln (qq (tq 6 nsl rfl (kl_ixI rfl rfl ‹_› (by first | omega | (have h9 := cf_in hci hi6 (by omega); omega) | (have h9 := (cf_in hci hi6 (by omega)).1; omega)) (by first | omega | (have h9 := cf_in hci hi6 (by omega); omega) | (have h9 := (cf_in hci hi6 (by omega)).1; omega)) (fun p14 a15 => ?_))))))))
  refine ln (qq (tq 7 nsl rfl (ld rfl ‹_› (ln (qq (tq 8 nsl rfl (mv rfl (ln (qq (tq 9 nsl rfl (mv rfl ?_)))))))))))
  refine ln (qq (tq 10 nsl rfl (kl_inQ rfl rfl ‹_› (by first | omega | (have h9 := cf_in hci hi6 (by omega); omega) | (have h9 := (cf_in hci hi6 (by omega)).1; omega)) (fun p16 a17 => ?_))))
  refine ln (qq (tq 11 nsl rfl (kl_ldS rfl ‹_› rfl ?_)))
  refine ln (qq (ta 12 rfl (cP rfl rfl (litDom_ok (c.getD k nilLit) (by first | omega | exact (cf_in hci hi6 (by omega)).2)) ?_)))
  refine ln (qa nsl (tq 13 nsl rfl (kl_and rfl rfl ?_)))
  refine ln (qq (tq 14 nsl rfl (kl_neq rfl rfl ?_)))
  refine ln (qq (kt_end (by kernel_rfl) ?_))
  refine qc (ci9 rfl (fun c18 => ?_) (fun c18 => ?_))
  ·refine cS (cS (cr (mv rfl (kl_geq rfl rfl ?_))))
   refine ln (qc (ci9 rfl (fun c19 => ?_) (fun c19 => ?_)))
   ·refine cS (cr (mv rfl (sg rfl (ln (qc (rt ?_))))))
    have e9 : ds = unitL c ds := by (rw [cf_2 hi6 (by omega) ‹_› (by omega)])
    exact kq_ret rfl rfl H2 f3 (e9 ▸ OwnL.ints o4)
   ·refine sk (qc (cr (mv rfl (sg rfl (ln (qc (cr (mv rfl (ic9 rfl rfl (by omega) ?_)))))))))
    refine sg rfl (ln (kq_round0 ((k + 1), (k : Int)) (by omega) (⟨by omega, (by first | exact cf_T hi6 (by omega) ‹_› (by omega) | exact cf_F hi6 (by omega) ‹_›)⟩) (pk [7, 6] rfl) (pk [0, 1, 5] rfl) slr9))
  ·refine sk (qc (cr (mv rfl (ic9 rfl rfl (by omega) ?_))))
   refine sg rfl (ln (kq_round0 ((k + 1), a) (by omega) (⟨by omega, (by first | exact cf_T hi6 (by omega) ‹_› (by omega) | exact cf_F hi6 (by omega) ‹_›)⟩) (pk [7, 6] rfl) (pk [0, 1, 5] rfl) slr9))
 ·refine ex9 (qc (cS (cS (cr (mv rfl (ls9 rfl rfl ?_))))))
  refine ln (qc (ci9 rfl (fun c20 => ?_) (fun c20 => ?_)))
  ·refine cS (cr (mv rfl (lL rfl o4 (fun l21 => ?_))))
   refine kl_mkL (R := IntV) (0 : Int) rfl rfl (by omega) (by decide) (by exact rfl) (fun v22 H23 f24 o25 => ?_)
   refine sg rfl (ln (qc (rt ?_)))
   have e9 : (List.replicate ds.length (0 : Int)) = unitL c ds := by (rw [cf_z hi6 (by omega) (by omega)]; rfl)
   exact kq_ret rfl rfl H23 f24 (e9 ▸ OwnL.ints o25)
  ·refine sk (qc (cS (kc_tree (fun i => ([21] : List Nat).contains i) [H2] (by kernel_rfl) ?_)))
   refine tq 0 (.cons_cons _ nsl) rfl (mv rfl (ln (qq (tq 1 (.cons_cons _ nsl) rfl (mv rfl (ln (qq (tq 2 (.cons_cons _ nsl) rfl (mv rfl (ln (qq ?_)))))))))))
   refine tq 3 (.cons_cons _ nsl) rfl (kl_ixQ rfl rfl ‹_› (by first | omega | (have h9 := cf_in hci hi6 (by omega); omega) | (have h9 := (cf_in hci hi6 (by omega)).1; omega)) (by first | omega | (have h9 := cf_in hci hi6 (by omega); omega) | (have h9 := (cf_in hci hi6 (by omega)).1; omega)) (fun p26 a27 => ?_))
   refine ln (qq (tq 4 (.cons_cons _ nsl) rfl (fd9 rfl ‹_› (fun p28 a29 => ?_))))
   refine ln (qq (tq 5 (.cons_cons _ nsl) rfl (ld rfl ‹_› (ln (qq (tq 6 (.cons_cons _ nsl) rfl (mv rfl (ln (qq (tq 7 (.cons_cons _ nsl) rfl (mv rfl ?_)))))))))))
   refine ln (qq (tq 8 (.cons_cons _ nsl) rfl (mv rfl (ln (qq (tq 9 (.cons_cons _ nsl) rfl (kl_ixQ rfl rfl ‹_› (by first | omega | (have h9 := cf_in hci hi6 (by omega); omega) | (have h9 := (cf_in hci hi6 (by omega)).1; omega)) (by first | omega | (have h9 := cf_in hci hi6 (by omega); omega) | (have h9 := (cf_in hci hi6 (by omega)).1; omega)) (fun p30 a31 => ?_))))))))
   refine ln (qq (tq 10 (.cons_cons _ nsl) rfl (fd9 rfl ‹_› (fun p32 a33 => ?_))))
   refine ln (qq (tq 11 (.cons_cons _ nsl) rfl (ld rfl ‹_› (ln (qq (tq 12 (.cons_cons _ nsl) rfl (kl_ixL rfl rfl ‹_› (by first | omega | (have h9 := cf_in hci hi6 (by omega); omega) | (have h9 := (cf_in hci hi6 (by omega)).1; omega)) (by first | omega | (have h9 := cf_in hci hi6 (by omega); omega) | (have h9 := (cf_in hci hi6 (by omega)).1; omega)) (fun p34 q35 => ?_))))))))
   refine ln (qq (tq 13 (.cons_cons _ nsl) rfl (kl_ldLIe rfl ‹_› ‹_› (by first | omega | (have h9 := cf_in hci hi6 (by omega); omega) | (have h9 := (cf_in hci hi6 (by omega)).1; omega)) ?_)))
   refine ln (qq (tq 14 (.cons_cons _ nsl) rfl (mv rfl (ln (qq (tq 15 (.cons_cons _ nsl) rfl (mv rfl (ln (qq (tq 16 (.cons_cons _ nsl) rfl (kl_ixQ rfl rfl ‹_› (by first | omega | (have h9 := cf_in hci hi6 (by omega); omega) | (have h9 := (cf_in hci hi6 (by omega)).1; omega)) (by first | omega | (have h9 := cf_in hci hi6 (by omega); omega) | (have h9 := (cf_in hci hi6 (by omega)).1; omega)) (fun p36 a37 => ?_))))))))))))
   refine ln (qq (tq 17 (.cons_cons _ nsl) rfl (kl_ldS rfl ‹_› rfl ?_)))
   refine ln (qq (ta 18 rfl (cP rfl rfl (litDom_ok (c.getD a.toNat nilLit) (by first | omega | exact (cf_in hci hi6 (by omega)).2)) ?_)))
   refine ln (qa (.cons_cons _ nsl) (tq 19 (.cons_cons _ nsl) rfl (kl_and rfl rfl ?_)))
   refine ln (qq (tq 20 (.cons_cons _ nsl) rfl (kl_ixL rfl rfl ‹_› (by first | omega | (have h9 := cf_in hci hi6 (by omega); omega) | (have h9 := (cf_in hci hi6 (by omega)).1; omega)) (by first | omega | (have h9 := cf_in hci hi6 (by omega); omega) | (have h9 := (cf_in hci hi6 (by omega)).1; omega)) (fun p38 q39 => ?_))))
   refine ln (qq (ta 21 rfl (kl_stL (iand (ds.getD (((c.getD a.toNat nilLit).var).toNat) 0) (truesI (c.getD a.toNat nilLit))) rfl rfl ‹_› o4 (by first | omega | (have h9 := cf_in hci hi6 (by omega); omega) | (have h9 := (cf_in hci hi6 (by omega)).1; omega)) rfl rfl rfl (fun H40 o41 f42 => ?_))))
   have f43 := f42 _ f3
   refine cg [H40] rfl ?_
   refine ln (qx rfl (kt_end (by kernel_rfl) ?_))
   refine qc (cS (cr (mv rfl (sg rfl (ln (qc (rt ?_)))))))
   have e9 : (ds.set (((c.getD a.toNat nilLit).var).toNat) (iand (ds.getD (((c.getD a.toNat nilLit).var).toNat) 0) (truesI (c.getD a.toNat nilLit)))) = unitL c ds := by (rw [cf_1 hi6 (by omega) (by omega)]; rfl)
   exact kq_ret rfl rfl H40 f43 (e9 ▸ OwnL.ints o41)
theorem assumeS_ok (n : Nat) {Hds : Hp} {vds : Value} {Hc : Hp} {vc : Value} (ds : List Int) (c : List Lit) (hd : DOk n ds) (hci : ClIn n c) (hn : n ≤ 4) (hds : Ints Hds vds ds) (hc : Lits Hc vc c) : Spec Tryz.prog 129 [vds, vc] [Hds, Hc] (fun Hq vq => Ints Hq vq (rstN ds c)) := by
 refine spec_of Tryz.func129 rfl rfl rfl (fun B => ?_)
 refine cS (cr (sg rfl (ln (qc (cS (cr (mv rfl (kl_callL rfl rfl (copyInts_ok ds (by have := hd.l; omega) ‹_›) (fun v1 H2 f3 o4 => ?_)))))))))
 refine sg rfl (ln (qc (cS (cS (cr (sg rfl (ln (qc (bl (kc_loopL (A := Nat × List Int × Hp) (fun zz => (zz.1 ≤ c.length) ∧ (zz.2.1 = rstN ds (c.take zz.1)) ∧ OwnL 3 1 zz.2.2 noHp IntV v1 zz.2.1 ∧ Fr B zz.2.2) (fun zz => c.length - zz.1) (fun zz => [zz.2.2]) (fun zz => [(6, .int .i64 (zz.1 : Int))]) (0, ds, H2) (pk [1, 4, 5] rfl) (pc 6 rfl pn) rfl ⟨Nat.zero_le _, rfl, o4, f3⟩ ?_))))))))))
 rintro ⟨k, xs, H7⟩ hJ10
 obtain ⟨hk5, hi6, o8, f9⟩ : (k ≤ c.length) ∧ (xs = rstN ds (c.take k)) ∧ OwnL 3 1 H7 noHp IntV v1 xs ∧ Fr B H7 := hJ10
 change KC _ _ (_) [H7] _ ([(6, .int .i64 (k : Int))] ++ _)
 have hxl : xs.length = n := (by rw [hi6]; exact (rstL_ok hd (negs_in (fun l hl => hci l (List.mem_of_mem_take hl)))).1.l)
 refine cS (cS (cr (mv rfl (mv rfl (le9 rfl ‹_› (fun l11 => ?_))))))
 refine ls9 rfl rfl ?_
 refine ln (qc (ci9 rfl (fun c12 => ?_) (fun c12 => ?_)))
 ·have hlk := hci _ (getD_mem (d := nilLit) (by omega : k < c.length))
  have hlv := hlk.1
  have hlu := hlk.2
  refine sk (qc (cS (bl (kc_tree (fun i => ([22] : List Nat).contains i) [H7] (by kernel_rfl) ?_))))
  refine tq 0 (.cons_cons _ nsl) rfl (mv rfl (ln (qq (tq 1 (.cons_cons _ nsl) rfl (mv rfl (ln (qq (tq 2 (.cons_cons _ nsl) rfl (mv rfl (ln (qq ?_)))))))))))
  refine tq 3 (.cons_cons _ nsl) rfl (kl_inQ rfl rfl ‹_› (by first | omega | (simp; omega)) (fun p13 a14 => ?_))
  refine ln (qq (tq 4 (.cons_cons _ nsl) rfl (fd9 rfl ‹_› (fun p15 a16 => ?_))))
  refine ln (qq (tq 5 (.cons_cons _ nsl) rfl (ld rfl ‹_› (ln (qq (tq 6 (.cons_cons _ nsl) rfl (mv rfl (ln (qq (tq 7 (.cons_cons _ nsl) rfl (mv rfl ?_)))))))))))
  refine ln (qq (tq 8 (.cons_cons _ nsl) rfl (mv rfl (ln (qq (tq 9 (.cons_cons _ nsl) rfl (kl_inQ rfl rfl ‹_› (by first | omega | (simp; omega)) (fun p17 a18 => ?_))))))))
  refine ln (qq (tq 10 (.cons_cons _ nsl) rfl (fd9 rfl ‹_› (fun p19 a20 => ?_))))
  refine ln (qq (tq 11 (.cons_cons _ nsl) rfl (ld rfl ‹_› (ln (qq (tq 12 (.cons_cons _ nsl) rfl (kl_ixL rfl rfl ‹_› (by first | omega | (simp; omega)) (by first | omega | (simp; omega)) (fun p21 q22 => ?_))))))))
  refine ln (qq (tq 13 (.cons_cons _ nsl) rfl (kl_ldLIe rfl ‹_› ‹_› (by first | omega | (simp; omega)) ?_)))
  refine ln (qq (tq 14 (.cons_cons _ nsl) rfl (mv rfl (ln (qq (tq 15 (.cons_cons _ nsl) rfl (mv rfl (ln (qq (tq 16 (.cons_cons _ nsl) rfl (kl_inQ rfl rfl ‹_› (by first | omega | (simp; omega)) (fun p23 a24 => ?_))))))))))))
  refine ln (qq (tq 17 (.cons_cons _ nsl) rfl (kl_ldS rfl ‹_› rfl ?_)))
  refine ln (qq (ta 18 rfl (cP rfl rfl (litDom_ok (c.getD k nilLit) hlu) ?_)))
  refine ln (qa (.cons_cons _ nsl) (tq 19 (.cons_cons _ nsl) rfl (sb9 rfl rfl (by (have h9 := trues_ok hlu; omega)) ?_)))
  refine ln (qq (tq 20 (.cons_cons _ nsl) rfl (kl_and rfl rfl ?_)))
  refine ln (qq (tq 21 (.cons_cons _ nsl) rfl (kl_ixL rfl rfl ‹_› (by first | omega | (simp; omega)) (by first | omega | (simp; omega)) (fun p25 q26 => ?_))))
  refine ln (qq (ta 22 rfl (kl_stL (iand (xs.getD (((c.getD k nilLit).var).toNat) 0) ((63 : Int) - (truesI (c.getD k nilLit)))) rfl rfl ‹_› o8 (by first | omega | (simp; omega)) rfl rfl rfl (fun H27 o28 f29 => ?_))))
  have f30 := f29 _ f9
  refine cg [H27] rfl ?_
  refine ln (qx rfl (kt_end (by kernel_rfl) ?_))
  refine qc (cr (mv rfl (ic9 rfl rfl (by omega) ?_)))
  refine sg rfl (ln (tk [H27] ?_))
  refine rL ((k + 1), (xs.set (((c.getD k nilLit).var).toNat) (iand (xs.getD (((c.getD k nilLit).var).toNat) 0) ((63 : Int) - (truesI (c.getD k nilLit))))), H27) (by omega) (⟨by omega, (by rw [← rstN_step (by omega), ← hi6, (trues_sub hlu).2]; rfl), o28, f30⟩) (pc 6 rfl pn) (pk [1, 4, 5] rfl) rfl slr9
 ·refine ex9 (qc (cS (cr (mv rfl (sg rfl (ln (qc (rt ?_))))))))
  have e9 : xs = rstN ds c := by (rw [hi6, List.take_of_length_le (by omega)])
  exact kq_ret rfl rfl H7 f9 (e9 ▸ OwnL.ints o8)
theorem refuteS_ok {Hmd : Hp} {vmd : Value} {Hmc : Hp} {vmc : Value} {Hcls : Hp} {vcls : Value} {Hds : Hp} {vds : Value} (m : Mod) (cls : List (List Lit)) (ds : List Int) (hM : MOk m) (hcl : ClsIn m.doms.length cls) (hd : DOk m.doms.length ds) (hmd : Ints Hmd vmd m.doms) (hmc : Cons Hmc vmc m.cons) (hcls : LRows Hcls vcls cls) (hds : Ints Hds vds ds) : SpecP Tryz.prog 128 [.agg #[vmd, vmc], vcls, vds] [Hmd, Hmc, Hcls, Hds] (.bool (rfE m cls ds)) := by
 have hn := hM.n
 refine spec_of Tryz.func128 rfl rfl rfl (fun B => ?_)
 refine cS (cr (kl_box rfl rfl (fun p1 H2 f3 a4 => ?_)))
 refine sg rfl (ln (qc (cS (cr (mv rfl (kl_call rfl rfl (copyInts_ok ds (by have := hd.l; omega) ‹_›) (fun v5 H6 f7 o8 => ?_)))))))
 have h9 := OwnL.ints o8
 refine sg rfl (ln (qc (bl (kc_loopK (A := List Int × Value × Hp) (fun zz => (DOk m.doms.length zz.1 ∧ rfE m cls zz.1 = rfE m cls ds) ∧ Fr B zz.2.2 ∧ Ints zz.2.2 zz.2.1 zz.1) (fun zz => sumN zz.1) (fun zz => zz.2.2) (fun zz => []) (fun zz => [(7, zz.2.1)]) (ds, v5, H6) (pk [1, 3] rfl) (pc 7 rfl pn) rfl ⟨⟨hd, rfl⟩, f7, ‹_›⟩ ?_))))
 rintro ⟨xs, v12, K13⟩ hJ16
 obtain ⟨hi11, f14, h15⟩ : (DOk m.doms.length xs ∧ rfE m cls xs = rfE m cls ds) ∧ Fr B K13 ∧ Ints K13 v12 xs := hJ16
 change KC _ _ (K13 :: _) [] _ ([(7, v12)] ++ _)
 have hD := hi11.1
 have hp := propOk hM hD
 refine bl (cS (cr (kl_ldS rfl ‹_› rfl ?_)))
 refine mv rfl (kl_call rfl rfl (fixS_ok m xs hM hD ‹_› ‹_› ‹_›) (fun v17 H18 f19 h20 => ?_))
 refine sg rfl (ln (qc (cS (cS (cr (sg rfl (ln (qc (bl (kc_loopK (A := Nat × List Int × Value × Hp) (fun zz => (zz.1 ≤ cls.length) ∧ (zz.2.1 = unitA (cls.take zz.1) (prop m xs)) ∧ Fr B zz.2.2.2 ∧ Ints zz.2.2.2 zz.2.2.1 zz.2.1) (fun zz => cls.length - zz.1) (fun zz => zz.2.2.2) (fun zz => []) (fun zz => [(9, .int .i64 (zz.1 : Int)), (8, zz.2.2.1)]) (0, (prop m xs), v17, H18) (pk [1, 3, 7, 12, 13, 14] rfl) (pk [9, 8] rfl) rfl ⟨Nat.zero_le _, rfl, f19, ‹_›⟩ ?_))))))))))
 rintro ⟨k2, ys, v23, K24⟩ hJ27
 obtain ⟨hk21, hi22, f25, h26⟩ : (k2 ≤ cls.length) ∧ (ys = unitA (cls.take k2) (prop m xs)) ∧ Fr B K24 ∧ Ints K24 v23 ys := hJ27
 change KC _ _ (K24 :: _) [] _ ([(9, .int .i64 (k2 : Int)), (8, v23)] ++ _)
 refine cS (cS (cr (mv rfl (mv rfl (le9 rfl ‹_› (fun l28 => ?_))))))
 refine ls9 rfl rfl ?_
 refine ln (qc (ci9 rfl (fun c29 => ?_) (fun c29 => ?_)))
 ·refine sk (qc (cS (bl (cr (mv rfl (mv rfl (kl_inS rfl rfl ‹_› (by omega) (fun p30 u32 h33 a31 => ?_))))))))
  refine ld rfl ‹_› (mv rfl (kl_call rfl rfl (clauseF_ok m.doms.length (cls.getD k2 []) ys (by rw [hi22]; exact (unitA_ok hp.ok (cls_take hcl k2)).1) (cls_at hcl (by omega)) hn.2 ‹_› ‹_›) (fun v34 H35 f36 h37 => ?_)))
  refine sg rfl (ln (qc (cr (mv rfl (ic9 rfl rfl (by omega) ?_)))))
  refine sg rfl (ln (kq_roundK ((k2 + 1), (unitL (cls.getD k2 []) ys), v34, H35) (by omega) (⟨by omega, (by rw [← unitA_step (by omega), ← hi22]), f36, ‹_›⟩) (pk [9, 8] rfl) (pk [1, 3, 7, 12, 13, 14] rfl) rfl slr9))
 ·have he9 := hi22
  rw [List.take_of_length_le (by omega)] at he9
  refine ex9 (qc (cS (cS (cr (mv rfl (cP rfl rfl (hasEmpty_ok ys ‹_›) ?_))))))
  refine ln (qc (cd9 rfl (fun c38 => ?_) (fun c38 => ?_)))
  ·have c38r := c38
   try simp only [smpE] at c38
   have hz9 := c38r
   refine cS (cr (sg rfl (ln (qc (rt (kq_retP rfl rfl (congrArg Value.bool ?_)))))))
   exact rf_yes hM hD hcl he9 hz9 hi11.2
  ·have c38r := c38
   try simp only [smpE] at c38
   have hz9 := c38r
   refine sk (qc (cS (cS (cr (mv rfl (mv rfl (cP rfl rfl (sequal_ok ys xs ‹_› ‹_›) ?_)))))))
   refine ln (qc (cd9 rfl (fun c39 => ?_) (fun c39 => ?_)))
   ·have c39r := c39
    try simp only [smpE] at c39
    have hq9 := c39r
    refine cS (cr (sg rfl (ln (qc (rt (kq_retP rfl rfl (congrArg Value.bool ?_)))))))
    exact rf_no hM hD he9 hz9 hq9 hi11.2
   ·have c39r := c39
    try simp only [smpE] at c39
    have hq9 := c39r
    refine sk (qc (cr (mv rfl (sg rfl (ln (kq_roundK (ys, v23, K24) (by (dsimp only; exact rf_mu hM hD hcl he9 hq9)) (⟨(rf_go hM hD hcl he9 hz9 hq9 hi11.2), f25, ‹_›⟩) (pc 7 rfl pn) (pk [1, 3] rfl) rfl slr9))))))
theorem impliedS_ok {Hmd : Hp} {vmd : Value} {Hmc : Hp} {vmc : Value} {Hcls : Hp} {vcls : Value} {Hc : Hp} {vc : Value} (m : Mod) (cls : List (List Lit)) (c : List Lit) (hM : MOk m) (hcl : ClsIn m.doms.length cls) (hl : ClIn m.doms.length c) (hmd : Ints Hmd vmd m.doms) (hmc : Cons Hmc vmc m.cons) (hcls : LRows Hcls vcls cls) (hc : Lits Hc vc c) : SpecP Tryz.prog 86 [.agg #[vmd, vmc], vcls, vc] [Hmd, Hmc, Hcls, Hc] (.bool (impB m cls c)) := by
 have hn := hM.n
 refine spec_of Tryz.func86 rfl rfl rfl (fun B => ?_)
 refine cS (cr (kl_box rfl rfl (fun p1 H2 f3 a4 => ?_)))
 refine sg rfl (ln (qc (cS (kc_tree (fun i => ([6] : List Nat).contains i) [] (by kernel_rfl) ?_))))
 refine tq 0 nsl rfl (kl_ldS rfl ‹_› rfl ?_)
 refine ln (qq (tq 1 nsl rfl (mv rfl (ln (qq (tq 2 nsl rfl (fd9 rfl ‹_› (fun p5 a6 => ?_))))))))
 refine ln (qq (tq 3 nsl rfl (ld rfl ‹_› (ln (qq (tq 4 nsl rfl (mv rfl (ln (qq (ta 5 rfl (kl_call rfl rfl (assumeS_ok m.doms.length m.doms c hM.dok hl hn.2 ‹_› ‹_›) (fun v7 H8 f9 h10 => ?_))))))))))))
 refine ln (qa nsl (ta 6 rfl (cP rfl rfl (refuteS_ok m cls (rstN m.doms c) hM hcl (rstL_ok hM.dok (negs_in hl)).1 ‹_› ‹_› ‹_› ‹_›) ?_)))
 refine ln (qx rfl (tq 7 nsl rfl (sg rfl (ln (qq (kt_end (by kernel_rfl) ?_))))))
 refine qc (rt (kq_retP rfl rfl (congrArg Value.bool ?_)))
 rfl
theorem validPrf_ok {Hp : Hp} {vp : Value} (p : List (List Lit)) (n : Int) (hn : -9223372036854775807 ≤ n ∧ n ≤ 9223372036854775807) (hp : LRows Hp vp p) : SpecP Tryz.prog 85 [vp, .int .i64 n] [Hp] (.bool (prfS n p)) := by
 refine spec_of Tryz.func85 rfl rfl rfl (fun B => ?_)
 refine cS (cr (sg rfl (ln (qc (cS (cS (cr (sg rfl (ln (qc (bl (kc_loop0 (A := Nat) (fun zz => (zz ≤ p.length) ∧ ((p.take zz).all (clS n) = true)) (fun zz => p.length - zz) (fun zz => [(5, .int .i64 (zz : Int))]) (0) (pk [0, 1] rfl) (pc 5 rfl pn) ⟨Nat.zero_le _, rfl⟩ ?_))))))))))))
 rintro k hJ3
 obtain ⟨hk1, hi2⟩ : (k ≤ p.length) ∧ ((p.take k).all (clS n) = true) := hJ3
 change KC _ _ (_) _ _ ([(5, .int .i64 (k : Int))] ++ _)
 refine cS (cS (cr (mv rfl (mv rfl (le9 rfl ‹_› (fun l4 => ?_))))))
 refine ls9 rfl rfl ?_
 refine ln (qc (ci9 rfl (fun c5 => ?_) (fun c5 => ?_)))
 ·refine sk (qc (cS (bl (cS (cr (mv rfl (mv rfl (kl_inS rfl rfl ‹_› (by omega) (fun p6 u8 h9 a7 => ?_)))))))))
  refine ld rfl ‹_› (mv rfl (cP rfl rfl (validClS_ok (p.getD k []) n (by first | assumption | omega) ‹_›) ?_))
  refine nt9 rfl (ln (qc (cd9 rfl (fun c10 => ?_) (fun c10 => ?_))))
  ·have c10r := c10
   try simp only [smpE] at c10
   refine cS (cr (sg rfl (ln (qc (rt (kq_retP rfl rfl (congrArg Value.bool ?_)))))))
   exact prfS_no (k := k) (by omega) (by simpa using ‹_›)
  ·have c10r := c10
   try simp only [smpE] at c10
   refine sk (qc (cr (mv rfl (ic9 rfl rfl (by omega) ?_))))
   refine sg rfl (ln (kq_round0 ((k + 1)) (by omega) (⟨by omega, (all_take_step (d := []) (by omega) hi2 (by simpa using ‹_›))⟩) (pc 5 rfl pn) (pk [0, 1] rfl) slr9))
 ·refine ex9 (qc (cS (cr (mv rfl (le9 rfl ‹_› (fun l11 => ?_))))))
  refine kl_leq rfl rfl ?_
  refine sg rfl (ln (qc (rt (kq_retP rfl rfl (congrArg Value.bool ?_)))))
  exact prfS_end (by omega) hi2
theorem chkPS_ok {Hmd : Hp} {vmd : Value} {Hmc : Hp} {vmc : Value} {Hp : Hp} {vp : Value} (m : Mod) (p : List (List Lit)) (hmd : Ints Hmd vmd m.doms) (hmc : Cons Hmc vmc m.cons) (hp : LRows Hp vp p) : SpecP Tryz.prog 50 [.agg #[vmd, vmc], vp] [Hmd, Hmc, Hp] (.bool (chkP m p)) := by
 refine spec_of Tryz.func50 rfl rfl rfl (fun B => ?_)
 refine cS (cr (kl_box rfl rfl (fun p1 H2 f3 a4 => ?_)))
 refine sg rfl (ln (qc (cS (cS (cr (kl_ldS rfl ‹_› rfl ?_))))))
 refine cP rfl rfl (svalidMod_ok m ‹_› ‹_›) ?_
 refine nt9 rfl (mv rfl (jn 7 16 (.bool (!(validModB m) || !(prfS (m.doms.length : Int) p))) (pk [1, 2, 4, 9] rfl) (fun J9 => ?_) ?_))
 ·rcases Bool.eq_false_or_eq_true (!(validModB m)) with g5 | g5
  ·refine gF rfl rfl g5 (gF rfl rfl g5 (gF rfl rfl g5 (gF rfl rfl g5 (gF rfl rfl g5 (gF rfl rfl g5 (oT (!(prfS (m.doms.length : Int) p)) rfl rfl g5 ?_))))))
   exact J9 _ (pk [16, 1, 2, 4, 9] rfl)
  ·have g5p := g5
   try simp only [smpD] at g5p
   refine gT rfl rfl g5 (mv rfl (gT rfl rfl g5 (fd9 rfl ‹_› (fun p6 a7 => ?_))))
   refine gT rfl rfl g5 (ld rfl ‹_› (gT rfl rfl g5 (le9 rfl ‹_› (fun l8 => ?_))))
   refine gT rfl rfl g5 (cP rfl rfl (validPrf_ok p (m.doms.length : Int) (by omega) ‹_›) ?_)
   refine gT rfl rfl g5 (nt9 rfl (oF rfl rfl g5 ?_))
   exact J9 _ (pk [16, 1, 2, 4, 9] rfl)
 refine mv rfl (jn 4 21 (.bool ((!(validModB m) || !(prfS (m.doms.length : Int) p)) || decide ((p.length : Int) = (0 : Int)))) (pk [1, 2, 4, 17] rfl) (fun J12 => ?_) ?_)
 ·rcases Bool.eq_false_or_eq_true (!(validModB m) || !(prfS (m.doms.length : Int) p)) with g10 | g10
  ·refine gF rfl rfl g10 (gF rfl rfl g10 (gF rfl rfl g10 (oT (decide ((p.length : Int) = (0 : Int))) rfl rfl g10 ?_)))
   exact J12 _ (pk [21, 1, 2, 4, 17] rfl)
  ·have g10p := g10
   try simp only [smpD] at g10p
   refine gT rfl rfl g10 (mv rfl (gT rfl rfl g10 (le9 rfl ‹_› (fun l11 => ?_))))
   refine gT rfl rfl g10 (eq9 rfl rfl ?_)
   refine oF rfl rfl g10 ?_
   exact J12 _ (pk [21, 1, 2, 4, 17] rfl)
 refine mv rfl (jn 9 31 (.bool (((!(validModB m) || !(prfS (m.doms.length : Int) p)) || decide ((p.length : Int) = (0 : Int))) || decide ((0 : Int) < ((p.getD ((p.length : Int) - (1 : Int)).toNat []).length : Int)))) (pk [1, 2, 4, 22] rfl) (fun J20 => ?_) ?_)
 ·rcases Bool.eq_false_or_eq_true ((!(validModB m) || !(prfS (m.doms.length : Int) p)) || decide ((p.length : Int) = (0 : Int))) with g13 | g13
  ·refine gF rfl rfl g13 (gF rfl rfl g13 (gF rfl rfl g13 (gF rfl rfl g13 (gF rfl rfl g13 (gF rfl rfl g13 (gF rfl rfl g13 (gF rfl rfl g13 (oT (decide ((0 : Int) < ((p.getD ((p.length : Int) - (1 : Int)).toNat []).length : Int))) rfl rfl g13 ?_))))))))
   exact J20 _ (pk [31, 1, 2, 4, 22] rfl)
  ·have g13p := g13
   try simp only [smpD] at g13p
   refine gT rfl rfl g13 (mv rfl (gT rfl rfl g13 (mv rfl (gT rfl rfl g13 (le9 rfl ‹_› (fun l14 => ?_))))))
   refine gT rfl rfl g13 (sb9 rfl rfl (by omega) ?_)
   refine gT rfl rfl g13 (kl_ixS rfl rfl ‹_› (by omega) (by omega) (fun p15 u17 h18 a16 => ?_))
   refine gT rfl rfl g13 (ld rfl ‹_› (gT rfl rfl g13 (le9 rfl ‹_› (fun l19 => ?_))))
   refine gT rfl rfl g13 (kl_gtr rfl rfl ?_)
   refine oF rfl rfl g13 ?_
   exact J20 _ (pk [31, 1, 2, 4, 22] rfl)
 refine ln (qc (cd9 rfl (fun c21 => ?_) (fun c21 => ?_)))
 ·have c21r := c21
  try simp only [smpE] at c21
  have hgs := c21r
  rw [ckG_S] at hgs
  have hno := hgs
  refine cS (cr (sg rfl (ln (qc (rt (kq_retP rfl rfl (congrArg Value.bool ?_)))))))
  exact ck_no hno
 ·have c21r := c21
  try simp only [smpE] at c21
  have hgs := c21r
  rw [ckG_S] at hgs
  have hgo := hgs
  have hck := ck_ok hgo
  refine sk (qc (cS (cS (cr (sg rfl (ln (qc (bl (kc_loop0 (A := Nat) (fun zz => (zz ≤ p.length) ∧ ((List.range zz).all (fun i => impB m (p.take i) (p.getD i [])) = true)) (fun zz => p.length - zz) (fun zz => [(5, .int .i64 (zz : Int))]) (0) (pk [1, 2] rfl) (pc 5 rfl pn) ⟨Nat.zero_le _, rfl⟩ ?_)))))))))
  rintro k hJ24
  obtain ⟨hk22, hi23⟩ : (k ≤ p.length) ∧ ((List.range k).all (fun i => impB m (p.take i) (p.getD i [])) = true) := hJ24
  change KC _ _ (_) _ _ ([(5, .int .i64 (k : Int))] ++ _)
  refine cS (cS (cr (mv rfl (mv rfl (le9 rfl ‹_› (fun l25 => ?_))))))
  refine ls9 rfl rfl ?_
  refine ln (qc (ci9 rfl (fun c26 => ?_) (fun c26 => ?_)))
  ·refine sk (qc (cS (bl (cS (kc_draw 10 [true, true, true, true, true, true, true, true, false, true] (by kernel_rfl) (by kernel_rfl) ?_)))))
   refine kl_ldS rfl ‹_› rfl ?_
   refine mv rfl (mv rfl (kl_slTake rfl rfl ‹_› (by omega) (fun u27 h28 => ?_)))
   refine mv rfl (mv rfl (kl_inS rfl rfl ‹_› (by omega) (fun p29 u31 h32 a30 => ?_)))
   refine ld rfl ‹_› (cP rfl rfl (impliedS_ok m (p.take k) (p.getD k []) hck.hM (cls_take hck.hp _) (hck.hc _ (getD_mem (by omega))).1.h ‹_› ‹_› ‹_› ‹_›) ?_)
   refine nt9 rfl (ln (qc (cd9 rfl (fun c33 => ?_) (fun c33 => ?_))))
   ·have c33r := c33
    try simp only [smpE] at c33
    have hib := c33r
    refine cS (cr (sg rfl (ln (qc (rt (kq_retP rfl rfl (congrArg Value.bool ?_)))))))
    exact ck_hit (k := k) hgo (by omega) (by simpa using hib)
   ·have c33r := c33
    try simp only [smpE] at c33
    have hib := c33r
    refine sk (qc (cr (mv rfl (ic9 rfl rfl (by omega) ?_))))
    refine sg rfl (ln (kq_round0 ((k + 1)) (by omega) (⟨by omega, (ck_step hi23 (by simpa using hib))⟩) (pc 5 rfl pn) (pk [1, 2] rfl) slr9))
  ·refine ex9 (qc (cS (cr (sg rfl (ln (qc (rt (kq_retP rfl rfl (congrArg Value.bool ?_)))))))))
   exact ck_end hgo (by omega) hi23
theorem chkBS_ok {Hmd : Hp} {vmd : Value} {Hmc : Hp} {vmc : Value} {Hobj : Hp} {vobj : Value} {Hp : Hp} {vp : Value} (m : Mod) (obj : List Int) (b : Int) (p : List (List Lit)) (hmd : Ints Hmd vmd m.doms) (hmc : Cons Hmc vmc m.cons) (hobj : Ints Hobj vobj obj) (hp : LRows Hp vp p) : SpecP Tryz.prog 15 [.agg #[vmd, vmc], vobj, .int .i64 b, vp] [Hmd, Hmc, Hobj, Hp] (.bool (chkB m obj b p)) := by
 refine spec_of Tryz.func15 rfl rfl rfl (fun B => ?_)
 refine cS (cr (kl_box rfl rfl (fun p1 H2 f3 a4 => ?_)))
 refine sg rfl (ln (qc (cS (cS (cr (kl_ldS rfl ‹_› rfl ?_))))))
 refine cP rfl rfl (svalidMod_ok m ‹_› ‹_›) ?_
 refine nt9 rfl (mv rfl (jn 5 19 (.bool (!(validModB m) || !(objOkS m obj))) (pk [1, 2, 3, 4, 8, 14] rfl) (fun J6 => ?_) ?_))
 ·rcases Bool.eq_false_or_eq_true (!(validModB m)) with g5 | g5
  ·refine gF rfl rfl g5 (gF rfl rfl g5 (gF rfl rfl g5 (gF rfl rfl g5 (oT (!(objOkS m obj)) rfl rfl g5 ?_))))
   exact J6 _ (pk [19, 1, 2, 3, 4, 8, 14] rfl)
  ·have g5p := g5
   try simp only [smpD] at g5p
   refine gT rfl rfl g5 (kl_ldS rfl ‹_› rfl ?_)
   refine gT rfl rfl g5 (mv rfl (gT rfl rfl g5 (cP rfl rfl (validObjective_ok m obj ‹_› ‹_› ‹_›) ?_)))
   refine gT rfl rfl g5 (nt9 rfl (oF rfl rfl g5 ?_))
   exact J6 _ (pk [19, 1, 2, 3, 4, 8, 14] rfl)
 refine mv rfl (jn 4 24 (.bool ((!(validModB m) || !(objOkS m obj)) || !(withinB b (-998 : Int) (1000 : Int)))) (pk [1, 2, 3, 4, 8, 20] rfl) (fun J8 => ?_) ?_)
 ·rcases Bool.eq_false_or_eq_true (!(validModB m) || !(objOkS m obj)) with g7 | g7
  ·refine gF rfl rfl g7 (gF rfl rfl g7 (gF rfl rfl g7 (oT (!(withinB b (-998 : Int) (1000 : Int))) rfl rfl g7 ?_)))
   exact J8 _ (pk [24, 1, 2, 3, 4, 8, 20] rfl)
  ·have g7p := g7
   try simp only [smpD] at g7p
   refine gT rfl rfl g7 (mv rfl (gT rfl rfl g7 (cP rfl rfl (inRange_ok b (-998 : Int) (1000 : Int)) ?_)))
   refine gT rfl rfl g7 (nt9 rfl (oF rfl rfl g7 ?_))
   exact J8 _ (pk [24, 1, 2, 3, 4, 8, 20] rfl)
 refine ln (qc (cd9 rfl (fun c9 => ?_) (fun c9 => ?_)))
 ·have c9r := c9
  try simp only [smpE] at c9
  have hgs := c9r
  rw [bd_cS] at hgs
  have hno := hgs
  refine cS (cr (sg rfl (ln (qc (rt (kq_retP rfl rfl (congrArg Value.bool ?_)))))))
  first | (unfold chkB; rw [bd_no hno]; rfl) | (unfold chkB; rw [bd_yes hgo, ← e91, ← e92])
 ·have c9r := c9
  try simp only [smpE] at c9
  have hgs := c9r
  rw [bd_cS] at hgs
  have hgo := hgs
  have hok := bd_ok hgo
  refine sk (qc (cS (cr (kl_ldS rfl ‹_› rfl ?_))))
  refine mv rfl (mv rfl (kl_call rfl rfl (improvS_ok m obj b hok.2.2.1 hok.2.2.2.1 hok.2.2.2.2 ‹_› ‹_› ‹_›) (fun v10 H11 f12 h13 => ?_)))
  obtain ⟨z16, z21, u17, u18, rfl, h19, h20, h15⟩ := h13
  obtain ⟨e91, e92⟩ := pairOf h15
  refine mv rfl (kl_xt rfl rfl (kl_xt rfl rfl (kl_alloc (cs := [.slice none 0 0, .slice none 0 0]) rfl (fun b22 hb23 => ?_))))
  refine kl_stW (us := [u17, u18]) rfl rfl rfl rfl (oc (Sl.oneCell ‹_›) (oc (Sl.oneCell ‹_›) oc_nil)) rfl ?_
  refine cg [sing b22 (.cells [u17, u18].toArray 26 (0, 0))] rfl ?_
  refine sg rfl (ln (qc (cS (cr (mv rfl (mv rfl (jn 4 37 (.bool (z21 && (chkP z16 p))) (pk [8, 33] rfl) (fun J25 => ?_) ?_)))))))
  ·rcases Bool.eq_false_or_eq_true z21 with g24 | g24
   ·have g24p := g24
    try simp only [smpD] at g24p
    refine gT rfl rfl g24 (kl_ldW rfl rfl (gT rfl rfl g24 (mv rfl (gT rfl rfl g24 (cP rfl rfl (chkPS_ok z16 p ‹_› ‹_› ‹_›) ?_)))))
    refine aT rfl rfl g24 ?_
    exact J25 _ (pk [37, 8, 33] rfl)
   ·refine gF rfl rfl g24 (gF rfl rfl g24 (gF rfl rfl g24 (aF (chkP z16 p) rfl rfl g24 ?_)))
    exact J25 _ (pk [37, 8, 33] rfl)
  refine sg rfl (ln (qc (rt (kq_retP rfl rfl (congrArg Value.bool ?_)))))
  first | (unfold chkB; rw [bd_no hno]; rfl) | (unfold chkB; rw [bd_yes hgo, ← e91, ← e92])
end
section
theorem mergeCl_ok {Ha : Hp} {va : Value} {Hb : Hp} {vb : Value} (a : List Lit) (b : List Lit) (hb : a.length + b.length ≤ 1000) (ha : Lits Ha va a) (hb : Lits Hb vb b) : Spec Tryz.prog 120 [va, vb] [Ha, Hb] (fun Hq vq => ∃ xq : List Lit, OwnL 100 3 Hq noHp LitV vq xq ∧ xq.length ≤ a.length + b.length) := by
 refine spec_of Tryz.func120 rfl rfl rfl (fun B => ?_)
 refine cS (cr (sg rfl (ln (qc (cS (cr (kl_bs0k (K := noHp) LitV rfl (fun v1 H2 f3 o4 => ?_))))))))
 refine mv rfl (kl_apS rfl rfl o4 ‹_› (fun _ _ h => h) (by (simp; omega)) (by decide) (fun v5 H6 o7 f8 => ?_))
 have f9 := f8 B f3 (Nat.le_refl _)
 refine sg rfl (ln (qc (cS (cS (cr (sg rfl (ln (qc (bl (kc_loopL (A := Nat × List Lit × Value × Hp) (fun zz => (zz.1 ≤ b.length) ∧ (zz.2.1.length ≤ a.length + zz.1) ∧ OwnL 100 3 zz.2.2.2 noHp LitV zz.2.2.1 zz.2.1 ∧ Fr B zz.2.2.2) (fun zz => b.length - zz.1) (fun zz => [zz.2.2.2]) (fun zz => [(6, .int .i64 (zz.1 : Int)), (5, zz.2.2.1)]) (0, ([] ++ a), v5, H6) (pk [1, 4] rfl) (pk [6, 5] rfl) rfl ⟨Nat.zero_le _, (by simp), o7, f9⟩ ?_))))))))))
 rintro ⟨k, out, v15, H12⟩ hJ16
 obtain ⟨hk10, hi11, o13, f14⟩ : (k ≤ b.length) ∧ (out.length ≤ a.length + k) ∧ OwnL 100 3 H12 noHp LitV v15 out ∧ Fr B H12 := hJ16
 change KC _ _ (_) [H12] _ ([(6, .int .i64 (k : Int)), (5, v15)] ++ _)
 have hol := hi11
 refine cS (cS (cr (mv rfl (mv rfl (le9 rfl ‹_› (fun l17 => ?_))))))
 refine ls9 rfl rfl ?_
 refine ln (qc (ci9 rfl (fun c18 => ?_) (fun c18 => ?_)))
 ·refine sk (qc (cS (bl (cS (cr (sg rfl (ln (qc (cS (bl ?_))))))))))
  refine kc_loop0 (A := Nat) (fun zz => (zz ≤ out.length)) (fun zz => out.length - zz) (fun zz => [(7, .int .i64 (zz : Int))]) (0) (pk [1, 4, 5, 6, 12, 13, 14, 15] rfl) (pc 7 rfl pn) (Nat.zero_le _) ?_
  rintro j hJ21
  have hk19 : (j ≤ out.length) := hJ21
  change KC _ _ (_) _ _ ([(7, .int .i64 (j : Int))] ++ _)
  refine cS (cS (kc_draw 15 [true, true, true, true, true, true, true, true, true, true, true, true, true, false, true] (by kernel_rfl) (by kernel_rfl) ?_))
  refine mv rfl (mv rfl (lL rfl o13 (fun l22 => ?_)))
  refine ls9 rfl rfl ?_
  refine mv rfl (jn 10 32 (.bool (decide ((j : Int) < (out.length : Int)) && (litLt (out.getD j nilLit) (b.getD k nilLit)))) (pk [1, 4, 5, 6, 7, 12, 13, 14, 15, 18, 19, 20, 21, 22] rfl) (fun J28 => ?_) ?_)
  ·rcases Bool.eq_false_or_eq_true (decide ((j : Int) < (out.length : Int))) with g23 | g23
   ·have g23p := of_decide_eq_true g23
    refine gT rfl rfl g23 (mv rfl (gT rfl rfl g23 (mv rfl (gT rfl rfl g23 (kl_ixLn rfl rfl ‹_› (by omega) (fun p24 q25 => ?_))))))
    refine gT rfl rfl g23 (kl_ldSL rfl (OwnL.atQ o13 ‹_› (by omega : j < out.length)) rfl ?_)
    refine gT rfl rfl g23 (mv rfl (gT rfl rfl g23 (mv rfl (gT rfl rfl g23 (kl_inQ rfl rfl ‹_› (by omega) (fun p26 a27 => ?_))))))
    refine gT rfl rfl g23 (kl_ldS rfl ‹_› rfl ?_)
    refine gT rfl rfl g23 (cP rfl rfl (litLess_ok (out.getD j nilLit) (b.getD k nilLit)) ?_)
    refine aT rfl rfl g23 ?_
    exact J28 _ (pk [32, 1, 4, 5, 6, 7, 12, 13, 14, 15, 18, 19, 20, 21, 22] rfl)
   ·refine gF rfl rfl g23 (gF rfl rfl g23 (gF rfl rfl g23 (gF rfl rfl g23 (gF rfl rfl g23 (gF rfl rfl g23 (gF rfl rfl g23 (gF rfl rfl g23 (gF rfl rfl g23 ?_))))))))
    refine aF (litLt (out.getD j nilLit) (b.getD k nilLit)) rfl rfl g23 ?_
    exact J28 _ (pk [32, 1, 4, 5, 6, 7, 12, 13, 14, 15, 18, 19, 20, 21, 22] rfl)
  refine ln (qc (cd9 rfl (fun c29 => ?_) (fun c29 => ?_)))
  ·have c29r := c29
   try simp only [smpE] at c29
   refine sk (qc (bl (cr (mv rfl (ic9 rfl rfl (by omega) ?_)))))
   refine sg rfl (ln (kq_round0 ((j + 1)) (by omega) (by omega) (pc 7 rfl pn) (pk [1, 4, 5, 6, 12, 13, 14, 15] rfl) slr9))
  ·have c29r := c29
   try simp only [smpE] at c29
   refine ex9 (qc (cS (cS (kc_draw 15 [true, true, true, true, true, true, true, true, true, true, true, true, true, true, true] (by kernel_rfl) (by kernel_rfl) ?_))))
   refine mv rfl (mv rfl (lL rfl o13 (fun l30 => ?_)))
   refine ls9 rfl rfl ?_
   refine mv rfl (jn 10 49 (.bool (decide ((j : Int) < (out.length : Int)) && decide ((out.getD j nilLit) = (b.getD k nilLit)))) (pk [1, 4, 5, 6, 7, 12, 13, 14, 15, 18, 19, 20, 21, 22, 32, 35, 36, 37, 38, 39] rfl) (fun J36 => ?_) ?_)
   ·rcases Bool.eq_false_or_eq_true (decide ((j : Int) < (out.length : Int))) with g31 | g31
    ·have g31p := of_decide_eq_true g31
     refine gT rfl rfl g31 (mv rfl (gT rfl rfl g31 (mv rfl (gT rfl rfl g31 (kl_ixLn rfl rfl ‹_› (by omega) (fun p32 q33 => ?_))))))
     refine gT rfl rfl g31 (kl_ldSL rfl (OwnL.atQ o13 ‹_› (by omega : j < out.length)) rfl ?_)
     refine gT rfl rfl g31 (mv rfl (gT rfl rfl g31 (mv rfl (gT rfl rfl g31 (kl_inQ rfl rfl ‹_› (by omega) (fun p34 a35 => ?_))))))
     refine gT rfl rfl g31 (kl_ldS rfl ‹_› rfl ?_)
     refine gT rfl rfl g31 (kl_eqlQ rfl rfl ?_)
     refine aT rfl rfl g31 ?_
     exact J36 _ (pk [49, 1, 4, 5, 6, 7, 12, 13, 14, 15, 18, 19, 20, 21, 22, 32, 35, 36, 37, 38, 39] rfl)
    ·refine gF rfl rfl g31 (gF rfl rfl g31 (gF rfl rfl g31 (gF rfl rfl g31 (gF rfl rfl g31 (gF rfl rfl g31 (gF rfl rfl g31 (gF rfl rfl g31 (gF rfl rfl g31 ?_))))))))
     refine aF (decide ((out.getD j nilLit) = (b.getD k nilLit))) rfl rfl g31 ?_
     exact J36 _ (pk [49, 1, 4, 5, 6, 7, 12, 13, 14, 15, 18, 19, 20, 21, 22, 32, 35, 36, 37, 38, 39] rfl)
   refine ln (qc (cd9 rfl (fun c37 => ?_) (fun c37 => ?_)))
   ·have c37r := c37
    try simp only [smpE] at c37
    refine ex9 (qc (cr (mv rfl (ic9 rfl rfl (by omega) ?_))))
    refine sg rfl (ln (tk [H12] ?_))
    refine rL ((k + 1), out, v15, H12) (by omega) (⟨by omega, (by first | (simp; omega) | omega), o13, f14⟩) (pk [6, 5] rfl) (pk [1, 4] rfl) rfl slr9
   ·have c37r := c37
    try simp only [smpE] at c37
    refine sk (qc (cS (kc_frz H12 ?_)))
    have h38 := OwnL.lits o13
    refine kc_tree (fun i => ([8] : List Nat).contains i) [] (by kernel_rfl) ?_
    refine tq 0 nsl rfl (mv rfl (ln (qq (tq 1 nsl rfl (mv rfl (ln (qq (tq 2 nsl rfl (kl_inQ rfl rfl ‹_› (by omega) (fun p39 a40 => ?_))))))))))
    refine ln (qq (tq 3 nsl rfl (kl_ldS rfl ‹_› rfl ?_)))
    refine ln (qq (tq 5 nsl rfl (mv rfl (ln (qq (tq 6 nsl rfl (mv rfl (ln (qq (tq 7 nsl rfl (kl_slDrop rfl rfl ‹_› (by omega) (fun u41 h42 => ?_))))))))))))
    refine ln (qq (ta 4 rfl (kl_bsQo rfl (fun v43 H44 f45 o46 => ?_))))
    refine ln (qa nsl (ta 8 rfl (kl_apS rfl rfl o46 ‹_› (fun _ _ h => h) (by (simp; omega)) (by decide) (fun v47 H48 o49 f50 => ?_))))
    have f51 := f50 B f45 (Nat.le_refl _)
    refine ln (qx rfl (tq 9 nsl rfl (sg rfl (ln (qq (kt_end (by kernel_rfl) ?_))))))
    refine qc (cr (kl_bs0k (K := noHp) LitV rfl (fun v52 H53 f54 o55 => ?_)))
    refine mv rfl (mv rfl (kl_slTake rfl rfl ‹_› (by omega) (fun u56 h57 => ?_)))
    refine kl_apS rfl rfl o55 ‹_› (fun _ _ h => h) (by (simp; omega)) (by decide) (fun v58 H59 o60 f61 => ?_)
    have f62 := f61 B f54 (Nat.le_refl _)
    refine mv rfl (fZ H48 ?_)
    have h63 := OwnL.lits o49
    refine kl_apS rfl rfl o60 ‹_› (fun _ _ h => h) (by (simp; omega)) (by decide) (fun v64 H65 o66 f67 => ?_)
    have f68 := f67 B f62 (Nat.le_refl _)
    refine sg rfl (ln (qc (cr (mv rfl (ic9 rfl rfl (by omega) ?_)))))
    refine sg rfl (ln (tk [H65] ?_))
    refine rL ((k + 1), (([] ++ (out.take j)) ++ ([(b.getD k nilLit)] ++ (out.drop j))), v64, H65) (by omega) (⟨by omega, (by first | (simp; omega) | omega), o66, f68⟩) (pk [6, 5] rfl) (pk [1, 4] rfl) rfl slr9
 ·refine ex9 (qc (cS (cr (mv rfl (sg rfl (ln (qc (rt ?_))))))))
  exact kq_ret rfl rfl H12 f14 ⟨out, o13, by omega⟩
end
section
/-- The first of the least, so far, and its cost. -/
def bestTo (p : List Int → Int) (xs : List (List Int)) : Nat → List Int × Int
  | 0 => ([], 0)
  | k + 1 => if (decide (k = 0) || decide (p (xs.getD k []) < (bestTo p xs k).2)) = true then (xs.getD k [], p (xs.getD k [])) else bestTo p xs k
def bestI (p : List Int → Int) (xs : List (List Int)) : List Int × Bool := ((bestTo p xs xs.length).1, decide (xs.length ≠ 0))
/-- Its index, as the reference keeps it. -/
def argTo (p : List Int → Int) (xs : List (List Int)) : Nat → Int
  | 0 => -1
  | k + 1 => if (decide (argTo p xs k < 0) || decide (p (xs.getD k []) < p (xs.getD (argTo p xs k).toNat []))) = true then (k : Int) else argTo p xs k
theorem arg_law (p : List Int → Int) (xs : List (List Int)) : ∀ k, (k = 0 ∧ argTo p xs k = -1) ∨ (0 < k ∧ 0 ≤ argTo p xs k ∧ argTo p xs k < (k : Int) ∧ bestTo p xs k = (xs.getD (argTo p xs k).toNat [], p (xs.getD (argTo p xs k).toNat [])))
  | 0 => .inl ⟨rfl, rfl⟩
  | k + 1 => by
    right
    rcases arg_law p xs k with ⟨rfl, h⟩ | ⟨h0, h1, h2, h3⟩
    · simp [argTo, bestTo]
    · have e1 : decide (argTo p xs k < 0) = false := decide_eq_false (by omega)
      have e2 : decide (k = 0) = false := decide_eq_false (by omega)
      refine ⟨by omega, ?_⟩
      rw [argTo, bestTo, e1, e2, h3]
      simp only [Bool.false_or, decide_eq_true_eq]
      by_cases h4 : p (xs.getD k []) < p (xs.getD (argTo p xs k).toNat [])
      · rw [if_pos h4, if_pos h4]; exact ⟨by omega, by omega, by simp⟩
      · rw [if_neg h4, if_neg h4]; exact ⟨h1, by omega, rfl⟩
theorem best_nil {p : List Int → Int} {xs : List (List Int)} (h : xs.length = 0) : bestI p xs = ([], false) := by
  unfold bestI; rw [h]; rfl
theorem best_arg {p : List Int → Int} {xs : List (List Int)} {a : Int} (e : a = argTo p xs xs.length) (h : ¬ a < 0) : bestI p xs = (xs.getD a.toNat [], true) := by
  subst e
  rcases arg_law p xs xs.length with ⟨h0, h1⟩ | ⟨h0, h1, h2, h3⟩
  · omega
  · unfold bestI; rw [h3, decide_eq_true (by omega)]
theorem best_none {p : List Int → Int} {xs : List (List Int)} {a : Int} (e : a = argTo p xs xs.length) (h : a < 0) : bestI p xs = ([], false) := by
  subst e
  rcases arg_law p xs xs.length with ⟨h0, h1⟩ | ⟨h0, h1, h2, h3⟩
  · exact best_nil h0
  · omega
theorem arg_in {p : List Int → Int} {xs : List (List Int)} {a : Int} {k : Nat} (e : a = argTo p xs k) : -1 ≤ a ∧ a < (k : Int) := by
  subst e
  rcases arg_law p xs k with ⟨h0, h1⟩ | ⟨h0, h1, h2, h3⟩ <;> omega
/-! Distances. -/
theorem best_stepT {p : List Int → Int} {xs : List (List Int)} {k : Nat} {o : List Int} {s : Int} (e : (o, s) = bestTo p xs k) (h : k = 0 ∨ p (xs.getD k []) < s) : (xs.getD k [], p (xs.getD k [])) = bestTo p xs (k + 1) := by
  rw [bestTo, ← e, if_pos]
  simp only [Bool.or_eq_true, decide_eq_true_eq]; exact h
theorem best_stepF {p : List Int → Int} {xs : List (List Int)} {k : Nat} {o : List Int} {s : Int} (e : (o, s) = bestTo p xs k) (h : ¬ k = 0) (h2 : ¬ p (xs.getD k []) < s) : (o, s) = bestTo p xs (k + 1) := by
  rw [bestTo, ← e, if_neg]
  simp only [Bool.or_eq_true, decide_eq_true_eq]; exact fun h3 => h3.elim h h2
theorem bestTo_ne {p : List Int → Int} {xs : List (List Int)} {k : Nat} (hn : ∀ x ∈ xs, x ≠ []) (h0 : 0 < k) (hk : k ≤ xs.length) : (bestTo p xs k).1 ≠ [] := by
  rcases arg_law p xs k with ⟨h, _⟩ | ⟨_, h1, h2, h3⟩
  · omega
  · rw [h3]; exact hn _ (getD_mem (by omega))
theorem br_T {p : List Int → Int} {xs : List (List Int)} {k : Nat} {o : List Int} {s : Int} {bn : Bool} (e : (o, s) = bestTo p xs k) (hn : ∀ x ∈ xs, x ≠ []) (hk : k < xs.length) (nn : bn = true → o = []) (c : (bn || decide (p (xs.getD k []) < s)) = true) :
    (xs.getD k [], p (xs.getD k [])) = bestTo p xs (k + 1) := by
  refine best_stepT e ?_
  simp only [Bool.or_eq_true, decide_eq_true_eq] at c
  rcases c with c | c
  · left
    by_cases h0 : k = 0
    · exact h0
    · exact absurd (show (bestTo p xs k).1 = [] by rw [← e]; exact nn c) (bestTo_ne hn (by omega) (by omega))
  · exact .inr c
theorem br_F {p : List Int → Int} {xs : List (List Int)} {k : Nat} {o : List Int} {s : Int} {bn : Bool} (e : (o, s) = bestTo p xs k) (nx : k = 0 → bn = true) (c : (bn || decide (p (xs.getD k []) < s)) = false) :
    (o, s) = bestTo p xs (k + 1) := by
  simp only [Bool.or_eq_false_iff, decide_eq_false_iff_not] at c
  exact best_stepF e (fun h => by rw [nx h] at c; cases c.1) c.2
theorem best_b {p : List Int → Int} {xs : List (List Int)} {k : Nat} {o : List Int} {s : Int} {bn : Bool} (e : (o, s) = bestTo p xs k) (hk : k = xs.length) (hn : ∀ x ∈ xs, x ≠ []) (nn : bn = false → o = []) (nx : k = 0 → bn = false) : (bestI p xs).2 = bn := by
  subst hk
  unfold bestI
  simp only
  cases bn with
  | false =>
    by_cases h0 : xs.length = 0
    · simp [h0]
    · exact absurd (show (bestTo p xs xs.length).1 = [] by rw [← e]; exact nn rfl) (bestTo_ne hn (by omega) (by omega))
  | true =>
    apply decide_eq_true
    intro h0; cases nx h0
theorem best_o {p : List Int → Int} {xs : List (List Int)} {k : Nat} {o : List Int} {s : Int} (e : (o, s) = bestTo p xs k) (hk : k = xs.length) : (bestI p xs).1 = o := by
  subst hk; unfold bestI; rw [← e]
theorem arg_T {p : List Int → Int} {xs : List (List Int)} {k : Nat} {a : Int} (e : a = argTo p xs k) (c : a < 0 ∨ p (xs.getD k []) < p (xs.getD a.toNat [])) : (k : Int) = argTo p xs (k + 1) := by
  subst e; rw [argTo, if_pos]; simpa using c
theorem arg_F {p : List Int → Int} {xs : List (List Int)} {k : Nat} {a : Int} (e : a = argTo p xs k) (c : ¬ (a < 0 ∨ p (xs.getD k []) < p (xs.getD a.toNat []))) : a = argTo p xs (k + 1) := by
  subst e; rw [argTo, if_neg]; simpa using c
theorem arg_least {p : List Int → Int} {xs : List (List Int)} : ∀ (k j : Nat), j < k → p (xs.getD (argTo p xs k).toNat []) ≤ p (xs.getD j [])
  | 0, j, h => absurd h (Nat.not_lt_zero _)
  | k + 1, j, h => by
    have h1 := arg_law p xs k
    rw [argTo]
    split
    · rename_i c
      simp only [Bool.or_eq_true, decide_eq_true_eq] at c
      rw [show ((k : Nat) : Int).toNat = k by simp]
      rcases Nat.lt_succ_iff_lt_or_eq.1 h with hj | rfl
      · have h2 := arg_least (p := p) (xs := xs) k j hj
        rcases c with c | c
        · omega
        · omega
      · exact Int.le_refl _
    · rename_i c
      simp only [Bool.or_eq_true, decide_eq_true_eq, not_or] at c
      rcases Nat.lt_succ_iff_lt_or_eq.1 h with hj | rfl
      · exact arg_least (p := p) (xs := xs) k j hj
      · omega
theorem best_in {p : List Int → Int} {xs : List (List Int)} (h : (bestI p xs).2 = true) : (bestI p xs).1 ∈ xs ∧ ∀ y ∈ xs, p (bestI p xs).1 ≤ p y := by
  rcases arg_law p xs xs.length with ⟨h0, h1⟩ | ⟨h0, h1, h2, h3⟩
  · rw [best_nil h0] at h; cases h
  · have e : (bestI p xs).1 = xs.getD (argTo p xs xs.length).toNat [] := by unfold bestI; rw [h3]
    rw [e]
    refine ⟨getD_mem (by omega), fun y hy => ?_⟩
    obtain ⟨j, hj, rfl⟩ := List.getElem_of_mem hy
    have := arg_least (p := p) (xs := xs) xs.length j hj
    rwa [show xs.getD j [] = xs[j] from by simp [List.getD, hj]] at this
theorem bestTo_len {p : List Int → Int} {xs : List (List Int)} {n : Nat} (hl : ∀ x ∈ xs, x.length ≤ n) {k : Nat} (hk : k ≤ xs.length) : (bestTo p xs k).1.length ≤ n := by
  rcases arg_law p xs k with ⟨h, _⟩ | ⟨_, h1, h2, h3⟩
  · subst h; exact Nat.zero_le _
  · rw [h3]; exact hl _ (getD_mem (by omega))
theorem best_cp {p : List Int → Int} {xs : List (List Int)} (hl : ∀ x ∈ xs, x.length ≤ 4) {o : List Int} {s : Int} {k : Nat} (e : (o, s) = bestTo p xs k) (hk : k ≤ xs.length) : o.length ≤ 1048576 := by
  have := bestTo_len hl hk (p := p)
  rw [← e] at this
  dsimp only at this
  omega
end
section
/-- The value of an objective, as the program gives it. -/
def objVal (obj x : List Int) : Int := if (((decide ((obj.length : Int) ≠ (x.length : Int)) || decide ((4 : Int) < (obj.length : Int))) || !(allInB obj (-9) 9)) || !(allInB x 0 5)) = true then 0 else dotTo obj x x.length
theorem objVal_sol {m : Mod} {obj x : List Int} (ho : objOkB m obj = true) (hx : x ∈ sols m) : objVal obj x = dotTo obj x m.doms.length := by
  have h1 := objok ho
  have h2 := sols_len hx
  unfold objVal
  have h3 : allInB obj (-9) 9 = true := by rw [allInB_iff]; exact h1.2.2
  have := h1.1.n
  rw [if_neg, h2]
  rw [h3, allIn_of (sols_vals hx), h2, h1.2.1]
  simp; omega
/-- The least value over the solutions. -/
def minI (m : Mod) (obj : List Int) : List Int × Bool := if objOkB m obj = true then bestI (fun x => dotTo obj x x.length) (sols m) else ([], false)
theorem min_no {m : Mod} {obj : List Int} (h : (!(objOkB m obj)) = true) : minI m obj = ([], false) := by unfold minI; rw [if_neg (by simpa using h)]
theorem min_yes {m : Mod} {obj : List Int} (h : objOkB m obj = true) : minI m obj = bestI (fun x => dotTo obj x x.length) (sols m) := by unfold minI; rw [if_pos h]
theorem objVal_0 {obj x : List Int} (h : (((decide ((obj.length : Int) ≠ (x.length : Int)) || decide ((4 : Int) < (obj.length : Int))) || !(allInB obj (-9) 9)) || !(allInB x 0 5)) = true) : (0 : Int) = objVal obj x := by unfold objVal; rw [if_pos h]
theorem objVal_1 {obj x : List Int} (h : (((decide ((obj.length : Int) ≠ (x.length : Int)) || decide ((4 : Int) < (obj.length : Int))) || !(allInB obj (-9) 9)) || !(allInB x 0 5)) = false) : dotTo obj x x.length = objVal obj x := by unfold objVal; rw [if_neg (by rw [h]; simp)]
theorem objVal_ok {obj x : List Int} (h : (((decide ((obj.length : Int) ≠ (x.length : Int)) || decide ((4 : Int) < (obj.length : Int))) || !(allInB obj (-9) 9)) || !(allInB x 0 5)) = false) : Coef obj ∧ Vals x ∧ x.length = obj.length ∧ x.length ≤ 4 := by
  simp only [Bool.or_eq_false_iff, decide_eq_false_iff_not, Bool.not_eq_false', Decidable.not_not] at h
  refine ⟨allInB_iff.1 h.1.2, vals_of h.2, by omega, by omega⟩
theorem obj_one {z : Int} (h : z ∈ [1, 0, -1, 2, -9, 9]) : -9 ≤ z ∧ z ≤ 9 := by simp at h; omega
end
section
theorem isSolT_mem' {m : Mod} {x : List Int} (h : isSolT m x = true) : x ∈ sols m := by
  unfold isSolT isSolB inDomB at h
  simp only [Bool.and_eq_true, decide_eq_true_eq, List.all_eq_true, List.mem_range] at h
  obtain ⟨⟨h1, h2, h3⟩, h4, h5⟩ := h
  exact sols_mem.2 ⟨⟨by omega, fun i hi => mem_valsI.2 ⟨(vals_of h3).at (by omega), h4 i (by omega)⟩⟩, h5⟩
theorem gap_g {m : Mod} {obj x : List Int} (h : (!(objOkB m obj) || !(isSolT m x)) = false) : objOkB m obj = true ∧ MOk m ∧ obj.length = m.doms.length ∧ Coef obj ∧ x ∈ sols m ∧ x.length = m.doms.length ∧ Vals x := by
  simp only [Bool.or_eq_false_iff, Bool.not_eq_false'] at h
  have h1 := objok h.1
  have h2 := isSolT_mem' h.2
  exact ⟨h.1, h1.1, h1.2.1, h1.2.2, h2, sols_len h2, sols_vals h2⟩
end
section
theorem prop_at {m : Mod} (hM : MOk m) {ds : List Int} (hd : DOk m.doms.length ds) (h0 : (prop m ds).contains 0 = false) : ∀ i, i < (prop m ds).length → 1 ≤ (prop m ds).getD i 0 ∧ (prop m ds).getD i 0 ≤ 63 := fun i hi => by
  have h1 := (propOk hM hd).ok.d.at hi
  have h2 : (prop m ds).getD i 0 ≠ 0 := fun e => by
    have := getD_mem (d := (0 : Int)) hi
    rw [e] at this
    rw [List.contains_iff_mem.2 this] at h0; cases h0
  omega
/-- The first variable that is open. -/
def opI (ds : List Int) : Int := indexBy (fun d => decide ((1 : Int) < popI d)) ds
section tree
variable {m : Mod} {obj ds : List Int}
theorem op_in (h : ¬ opI ds < 0) : opI ds < (ds.length : Int) ∧ (1 : Int) < popI (ds.getD (opI ds).toNat 0) := by
  unfold opI indexBy at h ⊢
  cases e : ds.findIdx? (fun d => decide ((1 : Int) < popI d)) with
  | none => rw [e] at h; simp at h
  | some i =>
    rw [List.findIdx?_eq_some_iff_getElem] at e
    obtain ⟨h1, h2, _⟩ := e
    dsimp only
    refine ⟨by omega, ?_⟩
    rw [Int.toNat_natCast, show ds.getD i 0 = ds[i] from by simp [List.getD, h1]]
    simpa using h2
/-- The reference finds the same variable. -/
theorem op_no {i : Nat} (hD : ∀ i, i < ds.length → 1 ≤ ds.getD i 0 ∧ ds.getD i 0 ≤ 63) (hi : i = ds.length) (h : ∀ j, j < i → (valsI (ds.getD j 0)).length = 1) : opI ds < 0 := by
  have h1 := indexBy_none (p := fun d => decide ((1 : Int) < popI d)) (xs := ds) (k := i) (by omega) (by
    rw [List.any_eq_false]; intro d hd
    obtain ⟨j, hj, rfl⟩ := List.getElem_of_mem (List.mem_of_mem_take hd)
    have := h j (by omega)
    rw [show ds.getD j 0 = ds[j] from by simp [List.getD, hj]] at this
    simp [popI, this])
  unfold opI; omega
theorem op_at {i : Nat} (hD : ∀ i, i < ds.length → 1 ≤ ds.getD i 0 ∧ ds.getD i 0 ≤ 63) (hi : i < ds.length) (h : ∀ j, j < i → (valsI (ds.getD j 0)).length = 1) (h1 : (valsI (ds.getD i 0)).length ≠ 1) : opI ds = (i : Int) := by
  have h2 := List.length_pos_iff.2 (valsI_ne (d := ds.getD i 0) (by have := hD i hi; omega) (by have := hD i hi; omega))
  refine (indexBy_hit (d := 0) hi ?_ ?_).symm
  · rw [List.any_eq_false]; intro d hd
    obtain ⟨j, hj, rfl⟩ := List.getElem_of_mem hd
    rw [List.length_take] at hj
    have h3 := h j (by omega)
    rw [List.getElem_take]
    rw [show ds.getD j 0 = ds[j]'(by omega) from by simp [List.getD, (by omega : j < ds.length)]] at h3
    simp [popI, h3]
  · refine decide_eq_true ?_
    unfold popI; omega
end tree
end
section
/-- One after another, until one fails. -/
def foldR (f : Int → List (List Lit) × Bool) : List Int → List (List Lit) × Bool
  | [] => ([], true)
  | v :: vs => if (f v).2 = true then ((f v).1 ++ (foldR f vs).1, (foldR f vs).2) else ((f v).1, false)
def endR (cl : List Lit) (r : List (List Lit) × Bool) : List (List Lit) × Bool := if r.2 = true then (r.1 ++ [cl], true) else (r.1, false)
def refF : Nat → Mod → List Int → List Lit → List (List Lit) × Bool
  | 0, m, ds, cl => if (prop m ds).contains 0 = true then ([cl], true) else ([], false)
  | k + 1, m, ds, cl => if (prop m ds).contains 0 = true then ([cl], true) else if opI (prop m ds) < 0 then ([], false) else
      endR cl (foldR (fun v => refF k m ((prop m ds).set (opI (prop m ds)).toNat (ishl 1 v)) (cl ++ [⟨opI (prop m ds), v, true⟩])) (valsI ((prop m ds).getD (opI (prop m ds)).toNat 0)))
def chR (k : Nat) (m : Mod) (d : List Int) (cl : List Lit) (v : Int) : List (List Lit) × Bool := refF k m (d.set (opI d).toNat (ishl 1 v)) (cl ++ [⟨opI d, v, true⟩])
theorem ref_0 {k : Nat} {m : Mod} {ds : List Int} {cl : List Lit} (h : (prop m ds).contains 0 = true) : refF k m ds cl = ([cl], true) := by
  cases k <;> (unfold refF; rw [if_pos h])
theorem ref_leaf {k : Nat} {m : Mod} {ds : List Int} {cl : List Lit} (h : (prop m ds).contains 0 = false) (ho : opI (prop m ds) < 0) : refF k m ds cl = ([], false) := by
  cases k with
  | zero => unfold refF; rw [if_neg (by rw [h]; simp)]
  | succ k => unfold refF; rw [if_neg (by rw [h]; simp), if_pos ho]
theorem ref_node {k : Nat} {m : Mod} {ds : List Int} {cl : List Lit} (h : (prop m ds).contains 0 = false) (ho : ¬ opI (prop m ds) < 0) :
    refF (k + 1) m ds cl = endR cl (foldR (chR k m (prop m ds) cl) (valsI ((prop m ds).getD (opI (prop m ds)).toNat 0))) := by
  rw [refF, if_neg (by rw [h]; simp), if_neg ho]; rfl
theorem foldR_app (f : Int → List (List Lit) × Bool) (a b : List Int) (h : (foldR f a).2 = true) : foldR f (a ++ b) = ((foldR f a).1 ++ (foldR f b).1, (foldR f b).2) := by
  induction a with
  | nil => simp [foldR]
  | cons v vs ih =>
    rw [foldR] at h
    split at h
    · rename_i h1
      rw [List.cons_append, foldR, if_pos h1, ih h, foldR, if_pos h1]
      simp [List.append_assoc]
    · cases h
theorem foldR_stop (f : Int → List (List Lit) × Bool) (a b : List Int) (h : (foldR f a).2 = false) : foldR f (a ++ b) = foldR f a := by
  induction a with
  | nil => simp [foldR] at h
  | cons v vs ih =>
    rw [List.cons_append, foldR, foldR]
    split
    · rename_i h1
      rw [foldR, if_pos h1] at h
      rw [ih h]
    · rfl
theorem foldR_one (f : Int → List (List Lit) × Bool) (v : Int) : foldR f [v] = f v := by
  rw [foldR]
  split
  · rename_i h; simp [foldR, h.symm]
  · rename_i h
    have : (f v).2 = false := by simpa using h
    exact Prod.ext rfl this.symm
theorem foldR_step {f : Int → List (List Lit) × Bool} {xs : List Int} {k : Nat} (hk : k < xs.length) (h : (foldR f (xs.take k)).2 = true) : foldR f (xs.take (k + 1)) = ((foldR f (xs.take k)).1 ++ (f (xs.getD k 0)).1, (f (xs.getD k 0)).2) := by
  rw [take_succ_getD 0 hk, foldR_app f _ _ h, foldR_one]
theorem foldR_hit {f : Int → List (List Lit) × Bool} {xs : List Int} {k : Nat} (h : (foldR f (xs.take k)).2 = false) : foldR f xs = foldR f (xs.take k) := by
  have := foldR_stop f (xs.take k) (xs.drop k) h
  rwa [List.take_append_drop] at this
/-! The decisions on a path. -/
structure PathOk (n : Nat) (ds : List Int) (cl : List Lit) : Prop where
  l : ∀ l ∈ cl, LitIn n l ∧ l.neg = true
  s : cl.Pairwise (fun a b => a.var < b.var)
  d : ∀ l ∈ cl, ∀ j : Nat, (j : Int) ≤ l.var → (valsI (ds.getD j 0)).length ≤ 1
theorem path_nil (n : Nat) (ds : List Int) : PathOk n ds [] := ⟨fun _ h => (by cases h), .nil, fun _ h => (by cases h)⟩
theorem valsI_nd (d : Int) : (valsI d).Nodup := by
  rw [List.nodup_iff_pairwise_ne]
  simp only [valsI, membersTo, natsI]
  rw [List.pairwise_map]
  refine (List.Pairwise.filter _ (List.nodup_range (n := 6))).imp fun h e => h (by omega)
theorem vals_sub {es ds : List Int} (h : SubD es ds) (j : Nat) (hj : j < ds.length) : (valsI (es.getD j 0)).length ≤ (valsI (ds.getD j 0)).length := by
  have hn : (valsI (es.getD j 0)).Nodup := valsI_nd _
  refine List.Nodup.length_le_of_subset hn (fun v hv => ?_)
  have := mem_valsI.1 hv
  exact mem_valsI.2 ⟨this.1, h.2 j hj v this.1 this.2⟩
theorem path_prop {m : Mod} {ds : List Int} {cl : List Lit} (hM : MOk m) (hd : DOk m.doms.length ds) (h : PathOk m.doms.length ds cl) : PathOk m.doms.length (prop m ds) cl := by
  have hp := propOk hM hd
  refine ⟨h.l, h.s, fun l hl j hj => ?_⟩
  have h1 := ((h.l l hl).1).1
  have h2 := vals_sub hp.sub j (by rw [hd.l]; omega)
  have h3 := h.d l hl j hj
  omega
theorem path_lt {n : Nat} {d : List Int} {cl : List Lit} (h : PathOk n d cl) (hl : d.length = n) (ho : ¬ opI d < 0) : ∀ l ∈ cl, l.var < opI d := fun l hm => by
  have h1 := op_in ho
  have h2 := h.d l hm (opI d).toNat
  unfold popI at h1
  have h3 : 0 ≤ opI d := by omega
  by_cases e : (opI d : Int) ≤ l.var
  · have := h2 (by omega); omega
  · omega
theorem open_first {d : List Int} (ho : ¬ opI d < 0) {j : Nat} (hj : (j : Int) < opI d) : (valsI (d.getD j 0)).length ≤ 1 := by
  unfold opI indexBy at ho hj
  cases e : d.findIdx? (fun d => decide ((1 : Int) < popI d)) with
  | none => rw [e] at ho; simp at ho
  | some i =>
    rw [e] at hj
    rw [List.findIdx?_eq_some_iff_getElem] at e
    obtain ⟨h1, _, h3⟩ := e
    have hj' : j < i := by simpa using hj
    have h4 := h3 j hj'
    rw [show d.getD j 0 = d[j]'(by omega) from by simp [List.getD, (by omega : j < d.length)]]
    unfold popI at h4
    simp at h4
    omega
theorem path_child {n : Nat} {d : List Int} {cl : List Lit} {v : Int} (h : PathOk n d cl) (hl : d.length = n) (ho : ¬ opI d < 0) (hv : 0 ≤ v ∧ v ≤ 5) : PathOk n (d.set (opI d).toNat (ishl 1 v)) (cl ++ [⟨opI d, v, true⟩]) := by
  have hin := op_in ho
  have hlt := path_lt h hl ho
  refine ⟨fun l hm => ?_, ?_, fun l hm j hj => ?_⟩
  · rcases List.mem_append.1 hm with hm | hm
    · exact h.l l hm
    · rw [List.mem_singleton.1 hm]; exact ⟨⟨⟨by dsimp only; omega, by dsimp only; omega⟩, hv⟩, rfl⟩
  · rw [List.pairwise_append]
    refine ⟨h.s, .cons (fun _ h => (by cases h)) .nil, fun a ha b hb => ?_⟩
    rw [List.mem_singleton.1 hb]; exact hlt a ha
  · have hj2 : (j : Int) ≤ opI d := by
      rcases List.mem_append.1 hm with hm | hm
      · have := hlt l hm; omega
      · rw [List.mem_singleton.1 hm] at hj; exact hj
    by_cases e : j = (opI d).toNat
    · subst e
      rw [show (d.set (opI d).toNat (ishl 1 v)).getD (opI d).toNat 0 = ishl 1 v from by simp [List.getD, (by omega : (opI d).toNat < d.length)], valsI_one hv]
      simp
    · have e' : (opI d).toNat ≠ j := fun h => e h.symm
      rw [show (d.set (opI d).toNat (ishl 1 v)).getD j 0 = d.getD j 0 from by simp [List.getD, List.getElem?_set, e']]
      exact open_first ho (by omega)
theorem path_len {n : Nat} {ds : List Int} {cl : List Lit} (h : PathOk n ds cl) : cl.length ≤ n := by
  have hn : (cl.map (fun l => l.var.toNat)).Nodup := by
    rw [List.nodup_iff_pairwise_ne, List.pairwise_map]
    refine (List.Pairwise.imp_of_mem ?_ h.s)
    intro a b ha hb hab e
    have h1 := ((h.l a ha).1).1
    have h2 := ((h.l b hb).1).1
    omega
  have hs : (cl.map (fun l => l.var.toNat)) ⊆ List.range n := fun x hx => by
    obtain ⟨l, hl, rfl⟩ := List.mem_map.1 hx
    have := ((h.l l hl).1).1
    exact List.mem_range.2 (by omega)
  have := List.Nodup.length_le_of_subset hn hs
  simpa using this
theorem path_room {n k : Nat} {d : List Int} {cl : List Lit} (h : PathOk n d cl) (hl : d.length = n) (ho : ¬ opI d < 0) (hk : k + cl.length = n) : ∃ j, k = j + 1 := by
  have h1 := op_in ho
  have h2 := path_lt h hl ho
  have h3 := path_len (path_child (v := 0) h hl ho (by decide))
  rw [List.length_append] at h3
  simp at h3
  exact ⟨k - 1, by omega⟩
theorem path_childN {n i : Nat} {d : List Int} {cl : List Lit} {v : Int} (h : PathOk n d cl) (hl : d.length = n) (e : opI d = (i : Int)) (hv : 0 ≤ v ∧ v ≤ 5) : PathOk n (d.set i (ishl 1 v)) (cl ++ [⟨(i : Int), v, true⟩]) := by
  have := path_child h hl (by omega : ¬ opI d < 0) hv
  rw [e] at this
  exact this
theorem chR_eq {k i : Nat} {m : Mod} {d : List Int} {cl : List Lit} {v : Int} (e : opI d = (i : Int)) : chR k m d cl v = refF k m (d.set i (ishl 1 v)) (cl ++ [⟨(i : Int), v, true⟩]) := by
  unfold chR; rw [e]; rfl
/-! At most two hundred steps. -/
structure LimR (st : List (List Lit)) (r : List (List Lit) × Bool) (s2 : List (List Lit)) (o2 : Bool) : Prop where
  n : s2.length ≤ 200
  o : o2 = (r.2 && decide (st.length + r.1.length ≤ 200))
  e : o2 = true → s2 = st ++ r.1
theorem lim_leaf {st : List (List Lit)} (h : st.length ≤ 200) : LimR st ([], false) st false := ⟨h, rfl, fun h => (by cases h)⟩
theorem lim_0 {st : List (List Lit)} {cl : List Lit} {o : Bool} (c : (o && decide ((st.length : Int) < 200)) = true) : LimR st ([cl], true) (st ++ [cl]) o := by
  simp only [Bool.and_eq_true, decide_eq_true_eq] at c
  obtain ⟨rfl, c⟩ := c
  exact ⟨by simp; omega, by simp; omega, fun _ => rfl⟩
theorem lim_0F {st : List (List Lit)} {cl : List Lit} {o : Bool} (h : st.length ≤ 200) (ho : o = true) (c : (o && decide ((st.length : Int) < 200)) = false) : LimR st ([cl], true) st false := by
  subst ho
  simp only [Bool.true_and, decide_eq_false_iff_not] at c
  exact ⟨h, by simp; omega, fun h => (by cases h)⟩
theorem lim_init {f : Int → List (List Lit) × Bool} {vs : List Int} {st : List (List Lit)} {o : Bool} (h : st.length ≤ 200) (ho : o = true) : LimR st (foldR f (vs.take 0)) st o := by
  subst ho; exact ⟨h, by simp [foldR]; omega, fun _ => by simp [foldR]⟩
theorem lim_step {f : Int → List (List Lit) × Bool} {vs : List Int} {q : Nat} {st s1 s2 : List (List Lit)} {o1 o2 : Bool} (hq : q < vs.length) (ho : o1 = true) (h : LimR st (foldR f (vs.take q)) s1 o1) (g : LimR s1 (f (vs.getD q 0)) s2 o2) : LimR st (foldR f (vs.take (q + 1))) s2 o2 := by
  subst ho
  have h1 := h.o
  have h2 : (foldR f (vs.take q)).2 = true := by
    cases e : (foldR f (vs.take q)).2 with
    | true => rfl
    | false => rw [e] at h1; simp at h1
  have h3 := h.e rfl
  rw [foldR_step hq h2]
  refine ⟨g.n, ?_, fun h9 => ?_⟩
  · rw [g.o, h3]
    simp only [List.length_append, Nat.add_assoc]
  · rw [g.e h9, h3, List.append_assoc]
theorem lim_all {f : Int → List (List Lit) × Bool} {vs : List Int} {q : Nat} {st s1 : List (List Lit)} {o1 : Bool} (h : LimR st (foldR f (vs.take q)) s1 o1) (c : (decide ((q : Int) < (vs.length : Int)) && o1) = false) : LimR st (foldR f vs) s1 o1 := by
  by_cases hq : vs.length ≤ q
  · rw [List.take_of_length_le hq] at h; exact h
  · have ho : o1 = false := by
      have : decide ((q : Int) < (vs.length : Int)) = true := by simp; omega
      rw [this] at c; simpa using c
    subst ho
    refine ⟨h.n, ?_, fun h => (by cases h)⟩
    have h1 := h.o
    cases e : (foldR f (vs.take q)).2 with
    | false => rw [foldR_hit e, e]; rfl
    | true =>
      rw [e] at h1
      have h2 : foldR f vs = foldR f (vs.take q ++ vs.drop q) := by rw [List.take_append_drop]
      rw [h2, foldR_app f _ _ e]
      simp at h1 ⊢
      intro _
      omega
theorem lim_go {q n : Nat} {o : Bool} (h : (decide ((q : Int) < (n : Int)) && o) = true) : q < n ∧ o = true := by simpa using h
theorem lim_T {r : List (List Lit) × Bool} {cl : List Lit} {st s1 : List (List Lit)} {o1 : Bool} (h : LimR st r s1 o1) (c : (o1 && decide ((s1.length : Int) < 200)) = true) : LimR st (endR cl r) (s1 ++ [cl]) o1 := by
  simp only [Bool.and_eq_true, decide_eq_true_eq] at c
  obtain ⟨rfl, c⟩ := c
  have h1 := h.o
  have h2 := h.e rfl
  have h3 : r.2 = true := by
    cases e : r.2 with
    | true => rfl
    | false => rw [e] at h1; simp at h1
  unfold endR
  rw [if_pos h3]
  refine ⟨by simp; omega, ?_, fun _ => by rw [h2, List.append_assoc]⟩
  rw [h2] at c
  simp at c ⊢
  omega
theorem lim_F {r : List (List Lit) × Bool} {cl : List Lit} {st s1 : List (List Lit)} {o1 : Bool} (h : LimR st r s1 o1) (c : (o1 && decide ((s1.length : Int) < 200)) = false) : LimR st (endR cl r) s1 false := by
  refine ⟨h.n, ?_, fun h => (by cases h)⟩
  have h1 := h.o
  unfold endR
  cases e : r.2 with
  | false => rw [if_neg (by simp)]; rfl
  | true =>
    rw [if_pos rfl]
    rw [e] at h1
    cases o1 with
    | false => simp at h1 ⊢; omega
    | true =>
      have h2 := h.e rfl
      rw [h2] at c
      simp at c ⊢
      omega
def limO (r : List (List Lit) × Bool) : List (List Lit) × Bool := if r.2 = true ∧ r.1.length ≤ 200 then (r.1, true) else ([], false)
theorem lim_no {r : List (List Lit) × Bool} {s : List (List Lit)} {o : Bool} (h : LimR [] r s o) (ho : o = false) : ([], false) = limO r := by
  have h1 := h.o
  rw [ho] at h1
  unfold limO
  rw [if_neg]
  rintro ⟨h2, h3⟩
  rw [h2] at h1
  simp at h1
  omega
theorem lim_yes {r : List (List Lit) × Bool} {s : List (List Lit)} {o : Bool} (h : LimR [] r s o) (ho : o = true) : (s, true) = limO r := by
  subst ho
  have h1 := h.o
  have h2 := h.e rfl
  unfold limO
  have h3 : r.2 = true ∧ r.1.length ≤ 200 := by
    cases e : r.2 with
    | false => rw [e] at h1; simp at h1
    | true => rw [e] at h1; simp at h1; exact ⟨rfl, by omega⟩
  rw [if_pos h3, h2]
  simp
def infR (m : Mod) : List (List Lit) × Bool := if validModB m = true then limO (refF m.doms.length m m.doms []) else ([], false)
theorem inf_v {m : Mod} (h : validModB m = true) : infR m = limO (refF m.doms.length m m.doms []) := if_pos h
theorem inf_nv {m : Mod} (h : validModB m = false) : infR m = ([], false) := by unfold infR; rw [if_neg (by rw [h]; simp)]
def pbR (m : Mod) (obj : List Int) (b : Int) : List (List Lit) × Bool := if (bdR m obj b).2 = true then infR (bdR m obj b).1 else ([], false)
theorem pb_no {m : Mod} {obj : List Int} {b : Int} (h : (bdR m obj b).2 = false) : pbR m obj b = ([], false) := by unfold pbR; rw [if_neg (by rw [h]; simp)]
theorem pb_yes {m : Mod} {obj : List Int} {b : Int} (h : (bdR m obj b).2 = true) : pbR m obj b = infR (bdR m obj b).1 := if_pos h
/-! One more literal, behind all. -/
theorem path_lit {a : List Lit} {i v : Int} (h : ∀ l ∈ a, l.var < i) : ∀ l ∈ a, litLt l (List.getD [(⟨i, v, true⟩ : Lit)] 0 nilLit) = true := fun l hl => by
  have := h l hl
  show litLt l ⟨i, v, true⟩ = true
  rw [← litLt_1 (by dsimp only; omega)]
  exact decide_eq_true this
theorem mc_exit {a b out : List Lit} {j k : Nat} (h : out = a ++ b.take k) (hk : k < b.length) (ho : b.length = 1) (hlt : ∀ l ∈ a, litLt l (b.getD 0 nilLit) = true) (hj : j ≤ out.length) (c : (decide ((j : Int) < (out.length : Int)) && litLt (out.getD j nilLit) (b.getD k nilLit)) = false) : j = out.length ∧ k = 0 ∧ out = a := by
  have hk0 : k = 0 := by omega
  subst hk0
  have e : out = a := by rw [h]; simp
  refine ⟨?_, rfl, e⟩
  by_cases hl : j < out.length
  · have h1 : decide ((j : Int) < (out.length : Int)) = true := by simp; omega
    have h2 := hlt (out.getD j nilLit) (by rw [← e]; exact getD_mem hl)
    rw [h1, h2] at c
    simp at c
  · omega
theorem mc_one {b : List Lit} (ho : b.length = 1) : b.take 1 = [b.getD 0 nilLit] := by
  obtain ⟨x, rfl⟩ := List.length_eq_one_iff.1 ho
  rfl
end
section
theorem mergeE_ok {Ha : Hp} {va : Value} {Hb : Hp} {vb : Value} (a : List Lit) (b : List Lit) (hb : a.length + b.length ≤ 1000) (ho : b.length = 1) (hlt : ∀ l ∈ a, litLt l (b.getD 0 nilLit) = true) (ha : Lits Ha va a) (hb : Lits Hb vb b) : Spec Tryz.prog 120 [va, vb] [Ha, Hb] (fun Hq vq => ∃ xq : List Lit, OwnL 100 3 Hq noHp LitV vq xq ∧ xq = a ++ b) := by
 refine spec_of Tryz.func120 rfl rfl rfl (fun B => ?_)
 refine cS (cr (sg rfl (ln (qc (cS (cr (kl_bs0k (K := noHp) LitV rfl (fun v1 H2 f3 o4 => ?_))))))))
 refine mv rfl (kl_apS rfl rfl o4 ‹_› (fun _ _ h => h) (by (simp; omega)) (by decide) (fun v5 H6 o7 f8 => ?_))
 have f9 := f8 B f3 (Nat.le_refl _)
 refine sg rfl (ln (qc (cS (cS (cr (sg rfl (ln (qc (bl (kc_loopL (A := Nat × List Lit × Value × Hp) (fun zz => (zz.1 ≤ b.length) ∧ (zz.2.1 = a ++ b.take zz.1) ∧ OwnL 100 3 zz.2.2.2 noHp LitV zz.2.2.1 zz.2.1 ∧ Fr B zz.2.2.2) (fun zz => b.length - zz.1) (fun zz => [zz.2.2.2]) (fun zz => [(6, .int .i64 (zz.1 : Int)), (5, zz.2.2.1)]) (0, ([] ++ a), v5, H6) (pk [1, 4] rfl) (pk [6, 5] rfl) rfl ⟨Nat.zero_le _, (by simp), o7, f9⟩ ?_))))))))))
 rintro ⟨k, out, v15, H12⟩ hJ16
 obtain ⟨hk10, hi11, o13, f14⟩ : (k ≤ b.length) ∧ (out = a ++ b.take k) ∧ OwnL 100 3 H12 noHp LitV v15 out ∧ Fr B H12 := hJ16
 change KC _ _ (_) [H12] _ ([(6, .int .i64 (k : Int)), (5, v15)] ++ _)
 have hol := congrArg List.length hi11
 rw [List.length_append, List.length_take] at hol
 refine cS (cS (cr (mv rfl (mv rfl (le9 rfl ‹_› (fun l17 => ?_))))))
 refine ls9 rfl rfl ?_
 refine ln (qc (ci9 rfl (fun c18 => ?_) (fun c18 => ?_)))
 ·refine sk (qc (cS (bl (cS (cr (sg rfl (ln (qc (cS (bl ?_))))))))))
  refine kc_loop0 (A := Nat) (fun zz => (zz ≤ out.length)) (fun zz => out.length - zz) (fun zz => [(7, .int .i64 (zz : Int))]) (0) (pk [1, 4, 5, 6, 12, 13, 14, 15] rfl) (pc 7 rfl pn) (Nat.zero_le _) ?_
  rintro j hJ21
  have hk19 : (j ≤ out.length) := hJ21
  change KC _ _ (_) _ _ ([(7, .int .i64 (j : Int))] ++ _)
  refine cS (cS (kc_draw 15 [true, true, true, true, true, true, true, true, true, true, true, true, true, false, true] (by kernel_rfl) (by kernel_rfl) ?_))
  refine mv rfl (mv rfl (lL rfl o13 (fun l22 => ?_)))
  refine ls9 rfl rfl ?_
  refine mv rfl (jn 10 32 (.bool (decide ((j : Int) < (out.length : Int)) && (litLt (out.getD j nilLit) (b.getD k nilLit)))) (pk [1, 4, 5, 6, 7, 12, 13, 14, 15, 18, 19, 20, 21, 22] rfl) (fun J28 => ?_) ?_)
  ·rcases Bool.eq_false_or_eq_true (decide ((j : Int) < (out.length : Int))) with g23 | g23
   ·have g23p := of_decide_eq_true g23
    refine gT rfl rfl g23 (mv rfl (gT rfl rfl g23 (mv rfl (gT rfl rfl g23 (kl_ixLn rfl rfl ‹_› (by omega) (fun p24 q25 => ?_))))))
    refine gT rfl rfl g23 (kl_ldSL rfl (OwnL.atQ o13 ‹_› (by omega : j < out.length)) rfl ?_)
    refine gT rfl rfl g23 (mv rfl (gT rfl rfl g23 (mv rfl (gT rfl rfl g23 (kl_inQ rfl rfl ‹_› (by omega) (fun p26 a27 => ?_))))))
    refine gT rfl rfl g23 (kl_ldS rfl ‹_› rfl ?_)
    refine gT rfl rfl g23 (cP rfl rfl (litLess_ok (out.getD j nilLit) (b.getD k nilLit)) ?_)
    refine aT rfl rfl g23 ?_
    exact J28 _ (pk [32, 1, 4, 5, 6, 7, 12, 13, 14, 15, 18, 19, 20, 21, 22] rfl)
   ·refine gF rfl rfl g23 (gF rfl rfl g23 (gF rfl rfl g23 (gF rfl rfl g23 (gF rfl rfl g23 (gF rfl rfl g23 (gF rfl rfl g23 (gF rfl rfl g23 (gF rfl rfl g23 ?_))))))))
    refine aF (litLt (out.getD j nilLit) (b.getD k nilLit)) rfl rfl g23 ?_
    exact J28 _ (pk [32, 1, 4, 5, 6, 7, 12, 13, 14, 15, 18, 19, 20, 21, 22] rfl)
  refine ln (qc (cd9 rfl (fun c29 => ?_) (fun c29 => ?_)))
  ·have c29r := c29
   try simp only [smpE] at c29
   refine sk (qc (bl (cr (mv rfl (ic9 rfl rfl (by omega) ?_)))))
   refine sg rfl (ln (kq_round0 ((j + 1)) (by omega) (by omega) (pc 7 rfl pn) (pk [1, 4, 5, 6, 12, 13, 14, 15] rfl) slr9))
  ·have c29r := c29
   try simp only [smpE] at c29
   have hj9 := mc_exit hi11 (by omega) ho hlt ‹_› c29r
   refine ex9 (qc (cS (cS (kc_draw 15 [true, true, true, true, true, true, true, true, true, true, true, true, true, true, true] (by kernel_rfl) (by kernel_rfl) ?_))))
   refine mv rfl (mv rfl (lL rfl o13 (fun l30 => ?_)))
   refine ls9 rfl rfl ?_
   refine mv rfl (jn 10 49 (.bool (decide ((j : Int) < (out.length : Int)) && decide ((out.getD j nilLit) = (b.getD k nilLit)))) (pk [1, 4, 5, 6, 7, 12, 13, 14, 15, 18, 19, 20, 21, 22, 32, 35, 36, 37, 38, 39] rfl) (fun J36 => ?_) ?_)
   ·rcases Bool.eq_false_or_eq_true (decide ((j : Int) < (out.length : Int))) with g31 | g31
    ·have g31p := of_decide_eq_true g31
     refine gT rfl rfl g31 (mv rfl (gT rfl rfl g31 (mv rfl (gT rfl rfl g31 (kl_ixLn rfl rfl ‹_› (by omega) (fun p32 q33 => ?_))))))
     refine gT rfl rfl g31 (kl_ldSL rfl (OwnL.atQ o13 ‹_› (by omega : j < out.length)) rfl ?_)
     refine gT rfl rfl g31 (mv rfl (gT rfl rfl g31 (mv rfl (gT rfl rfl g31 (kl_inQ rfl rfl ‹_› (by omega) (fun p34 a35 => ?_))))))
     refine gT rfl rfl g31 (kl_ldS rfl ‹_› rfl ?_)
     refine gT rfl rfl g31 (kl_eqlQ rfl rfl ?_)
     refine aT rfl rfl g31 ?_
     exact J36 _ (pk [49, 1, 4, 5, 6, 7, 12, 13, 14, 15, 18, 19, 20, 21, 22, 32, 35, 36, 37, 38, 39] rfl)
    ·refine gF rfl rfl g31 (gF rfl rfl g31 (gF rfl rfl g31 (gF rfl rfl g31 (gF rfl rfl g31 (gF rfl rfl g31 (gF rfl rfl g31 (gF rfl rfl g31 (gF rfl rfl g31 ?_))))))))
     refine aF (decide ((out.getD j nilLit) = (b.getD k nilLit))) rfl rfl g31 ?_
     exact J36 _ (pk [49, 1, 4, 5, 6, 7, 12, 13, 14, 15, 18, 19, 20, 21, 22, 32, 35, 36, 37, 38, 39] rfl)
   refine ln (qc (cd9 rfl (fun c37 => ?_) (fun c37 => ?_)))
   ·have c37r := c37
    try simp only [smpE] at c37
    refine ex9 (qc (cr (mv rfl (ic9 rfl rfl (by omega) ?_))))
    refine sg rfl (ln (tk [H12] ?_))
    refine rL ((k + 1), out, v15, H12) (by omega) (⟨by omega, (by first | (exfalso; have e1 := hj9.1; omega) | (obtain ⟨e1, e2, e3⟩ := hj9; rw [e1, e2]; simp [e3, mc_one ho])), o13, f14⟩) (pk [6, 5] rfl) (pk [1, 4] rfl) rfl slr9
   ·have c37r := c37
    try simp only [smpE] at c37
    refine sk (qc (cS (kc_frz H12 ?_)))
    have h38 := OwnL.lits o13
    refine kc_tree (fun i => ([8] : List Nat).contains i) [] (by kernel_rfl) ?_
    refine tq 0 nsl rfl (mv rfl (ln (qq (tq 1 nsl rfl (mv rfl (ln (qq (tq 2 nsl rfl (kl_inQ rfl rfl ‹_› (by omega) (fun p39 a40 => ?_))))))))))
    refine ln (qq (tq 3 nsl rfl (kl_ldS rfl ‹_› rfl ?_)))
    refine ln (qq (tq 5 nsl rfl (mv rfl (ln (qq (tq 6 nsl rfl (mv rfl (ln (qq (tq 7 nsl rfl (kl_slDrop rfl rfl ‹_› (by omega) (fun u41 h42 => ?_))))))))))))
    refine ln (qq (ta 4 rfl (kl_bsQo rfl (fun v43 H44 f45 o46 => ?_))))
    refine ln (qa nsl (ta 8 rfl (kl_apS rfl rfl o46 ‹_› (fun _ _ h => h) (by (simp; omega)) (by decide) (fun v47 H48 o49 f50 => ?_))))
    have f51 := f50 B f45 (Nat.le_refl _)
    refine ln (qx rfl (tq 9 nsl rfl (sg rfl (ln (qq (kt_end (by kernel_rfl) ?_))))))
    refine qc (cr (kl_bs0k (K := noHp) LitV rfl (fun v52 H53 f54 o55 => ?_)))
    refine mv rfl (mv rfl (kl_slTake rfl rfl ‹_› (by omega) (fun u56 h57 => ?_)))
    refine kl_apS rfl rfl o55 ‹_› (fun _ _ h => h) (by (simp; omega)) (by decide) (fun v58 H59 o60 f61 => ?_)
    have f62 := f61 B f54 (Nat.le_refl _)
    refine mv rfl (fZ H48 ?_)
    have h63 := OwnL.lits o49
    refine kl_apS rfl rfl o60 ‹_› (fun _ _ h => h) (by (simp; omega)) (by decide) (fun v64 H65 o66 f67 => ?_)
    have f68 := f67 B f62 (Nat.le_refl _)
    refine sg rfl (ln (qc (cr (mv rfl (ic9 rfl rfl (by omega) ?_)))))
    refine sg rfl (ln (tk [H65] ?_))
    refine rL ((k + 1), (([] ++ (out.take j)) ++ ([(b.getD k nilLit)] ++ (out.drop j))), v64, H65) (by omega) (⟨by omega, (by first | (exfalso; have e1 := hj9.1; omega) | (obtain ⟨e1, e2, e3⟩ := hj9; rw [e1, e2]; simp [e3, mc_one ho])), o66, f68⟩) (pk [6, 5] rfl) (pk [1, 4] rfl) rfl slr9
 ·refine ex9 (qc (cS (cr (mv rfl (sg rfl (ln (qc (rt ?_))))))))
  exact kq_ret rfl rfl H12 f14 ⟨out, o13, by (rw [hi11, List.take_of_length_le (by omega)])⟩
abbrev proverSt (k : Nat) : Prop := ∀ {b : Nat} {Hmd Hmc Hds Hcl Hf Kf : Hp} {vmd vmc vds vcl vf : Value} (m : Mod) (ds : List Int) (cl : List Lit) (sts : List (List Lit)) (ok : Bool) (hM : MOk m) (hd : DOk m.doms.length ds) (hpa : PathOk m.doms.length ds cl) (hk : k + cl.length = m.doms.length) (hst : sts.length ≤ 200) (hok : ok = true) (lq : Liq Kf)
  (hmd : Ints Hmd vmd m.doms) (hmc : Cons Hmc vmc m.cons) (hds : Ints Hds vds ds) (ocl : OwnL 100 3 Hcl noHp LitV vcl cl) (of : OwnL 69 1 Hf Kf LRowV vf sts),
  SpecT Tryz.prog 76 [.pointer (some ⟨b, 0, none⟩), vds, vcl] [sing b (.cells [vmd, vmc, vf, .bool ok].toArray 97 (0, 0)), Hf, Kf, Hcl] [Hmd, Hmc, Hds] (fun vq L1 Ln _ => vq = .tuple #[] ∧ Ln = [] ∧ ∃ (vf2 : Value) (Hf2 Kf2 : Hp) (st2 : List (List Lit)) (ok2 : Bool), L1 = [sing b (.cells [vmd, vmc, vf2, .bool ok2].toArray 97 (0, 0)), Hf2, Kf2] ∧ OwnL 69 1 Hf2 Kf2 LRowV vf2 st2 ∧ Liq Kf2 ∧ LimR sts (refF k m ds cl) st2 ok2)
theorem prover_step (k : Nat) (ih : ∀ j, j < k → proverSt j) : proverSt k := by
 intro b Hmd Hmc Hds Hcl Hf Kf vmd vmc vds vcl vf m ds cl sts ok hM hd hpa hk hst hok lq hmd hmc hds ocl of
 have hn := hM.n
 have hp := propOk hM hd
 have hpl := hp.ok.l
 have hpp := path_prop hM hd hpa
 have hcn := path_len hpa
 refine specT_of Tryz.func76 rfl rfl rfl (fun B => ?_)
 refine cS (cS (cr (mv rfl (kl_nilchk rfl ?_))))
 refine fV rfl (lB rfl rfl (nt9 rfl (ln (qc (cd9 rfl (fun c1 => ?_) (fun c1 => ?_))))))
 ·have c1r := c1
  try simp only [smpE] at c1
  exact absurd c1 (by rw [hok]; decide)
 ·have c1r := c1
  try simp only [smpE] at c1
  refine sk (qc (cS (cr (mv rfl (kl_nilchk rfl ?_)))))
  refine fV rfl (kl_ldSL rfl (At.take 2 (at_box (T := 97) (cs := [vmd, vmc, vf, .bool ok]) (off := 0) (fz := (0, 0)))) rfl ?_)
  refine mv rfl (kl_call rfl rfl (fixS_ok m ds hM hd ‹_› ‹_› ‹_›) (fun v2 H3 f4 h5 => ?_))
  refine sg rfl (ln (qc (cS (cS (cr (mv rfl (cP rfl rfl (hasEmpty_ok (prop m ds) ‹_›) ?_)))))))
  refine nt9 rfl (ln (qc (cd9 rfl (fun c6 => ?_) (fun c6 => ?_))))
  ·have c6r := c6
   try simp only [smpE] at c6
   have hz : (prop m ds).contains 0 = false := (by simpa using c6r)
   have hD := prop_at hM hd hz
   refine cS (cr (sg rfl (ln (qc (cS (bl (kc_loop0 (A := Nat) (fun zz => (zz ≤ (prop m ds).length) ∧ (∀ j, j < zz → (valsI ((prop m ds).getD j 0)).length = 1)) (fun zz => (prop m ds).length - zz) (fun zz => [(7, .int .i64 (zz : Int))]) (0) (pk [0, 2, 6] rfl) (pc 7 rfl pn) ⟨Nat.zero_le _, (fun _ h => absurd h (Nat.not_lt_zero _))⟩ ?_)))))))
   rintro i hJ9
   obtain ⟨hk7, hi8⟩ : (i ≤ (prop m ds).length) ∧ (∀ j, j < i → (valsI ((prop m ds).getD j 0)).length = 1) := hJ9
   change KC _ _ (_) _ _ ([(7, .int .i64 (i : Int))] ++ _)
   refine cS (cS (cr (mv rfl (mv rfl (le9 rfl ‹_› (fun l10 => ?_))))))
   refine ls9 rfl rfl ?_
   refine mv rfl (jn 8 37 (.bool (decide ((i : Int) < ((prop m ds).length : Int)) && decide (((valsI ((prop m ds).getD i 0)).length : Int) = (1 : Int)))) (pk [0, 2, 6, 7, 25, 26, 27, 28, 29] rfl) (fun J19 => ?_) ?_)
   ·rcases Bool.eq_false_or_eq_true (decide ((i : Int) < ((prop m ds).length : Int))) with g11 | g11
    ·have g11p := of_decide_eq_true g11
     refine gT rfl rfl g11 (mv rfl (gT rfl rfl g11 (mv rfl (gT rfl rfl g11 (kl_inI rfl rfl ‹_› (by first | omega | (simp; omega)) (fun p12 a13 => ?_))))))
     refine gT rfl rfl g11 (ld rfl ‹_› (gT rfl rfl g11 (kl_call rfl rfl (domainValues_ok ((prop m ds).getD i 0)) (fun v14 H15 f16 h17 => ?_))))
     refine gT rfl rfl g11 (le9 rfl ‹_› (fun l18 => ?_))
     refine gT rfl rfl g11 (eq9 rfl rfl ?_)
     refine aT rfl rfl g11 ?_
     exact kl_fg slr9 (J19 _ (pk [37, 0, 2, 6, 7, 25, 26, 27, 28, 29] rfl))
    ·refine gF rfl rfl g11 (gF rfl rfl g11 (gF rfl rfl g11 (gF rfl rfl g11 (gF rfl rfl g11 (gF rfl rfl g11 (gF rfl rfl g11 (aF (decide (((valsI ((prop m ds).getD i 0)).length : Int) = (1 : Int))) rfl rfl g11 ?_)))))))
     exact J19 _ (pk [37, 0, 2, 6, 7, 25, 26, 27, 28, 29] rfl)
   refine ln (qc (cd9 rfl (fun c20 => ?_) (fun c20 => ?_)))
   ·have c20r := c20
    try simp only [smpE] at c20
    have hgo := br_go c20r
    refine sk (qc (bl (cr (mv rfl (ic9 rfl rfl (by omega) ?_)))))
    refine sg rfl (ln (kq_round0 ((i + 1)) (by (have := hgo.1; omega)) (⟨(by have := hgo.1; omega), (by intro j hj; rcases Nat.lt_succ_iff_lt_or_eq.1 hj with h9 | h9; (exact hi8 j h9); (subst h9; have := hgo.2; omega))⟩) (pc 7 rfl pn) (pk [0, 2, 6] rfl) slr9))
   ·have c20r := c20
    try simp only [smpE] at c20
    have hex := br_exit c20r
    refine ex9 (qc (cS (cS (cr (mv rfl (mv rfl (le9 rfl ‹_› (fun l21 => ?_))))))))
    refine eq9 rfl rfl ?_
    refine ln (qc (ci9 rfl (fun c22 => ?_) (fun c22 => ?_)))
    ·have hop := op_no hD (by omega) hi8
     refine cS (cr (mv rfl (kl_nilchk rfl ?_)))
     refine fV rfl (sB rfl rfl rfl rfl rfl ?_)
     refine cg [sing b (.cells [vmd, vmc, vf, .bool false].toArray 97 (0, 0)), Hf, Kf, Hcl] rfl ?_
     refine ln (qc (rt ?_))
     exact kq_retT0 rfl [sing b (.cells [vmd, vmc, vf, .bool false].toArray 97 (0, 0)), Hf, Kf] [] noHp frn (fr_no _) ⟨rfl, rfl, vf, Hf, Kf, sts, false, rfl, of, lq, (by rw [ref_leaf hz hop]; exact lim_leaf hst)⟩
    ·have hi0 : i < (prop m ds).length := (by omega)
     have hne1 : (valsI ((prop m ds).getD i 0)).length ≠ 1 := (by rcases hex with h9 | h9 <;> omega)
     have hopI := op_at hD hi0 hi8 hne1
     have hop : ¬ opI (prop m ds) < 0 := (by omega)
     obtain ⟨j, rfl⟩ := path_room hpp hpl hop hk
     refine sk (qc (cS (cr (mv rfl (mv rfl (kl_inI rfl rfl ‹_› (by first | omega | (simp; omega)) (fun p23 a24 => ?_)))))))
     refine ld rfl ‹_› (kl_call rfl rfl (domainValues_ok ((prop m ds).getD i 0)) (fun v25 H26 f27 h28 => ?_))
     refine sg rfl (ln (qc (cS (cr (sg rfl (ln (qc (bl (kc_loopL (A := Nat × Bool × List (List Lit) × Value × Hp × Hp) (fun zz => (zz.1 ≤ (valsI ((prop m ds).getD i 0)).length) ∧ (LimR sts (foldR (chR j m (prop m ds) cl) ((valsI ((prop m ds).getD i 0)).take zz.1)) zz.2.2.1 zz.2.1) ∧ Liq zz.2.2.2.2.2 ∧ OwnL 69 1 zz.2.2.2.2.1 zz.2.2.2.2.2 LRowV zz.2.2.2.1 zz.2.2.1) (fun zz => (valsI ((prop m ds).getD i 0)).length - zz.1) (fun zz => [sing b (.cells [vmd, vmc, zz.2.2.2.1, .bool zz.2.1].toArray 97 (0, 0)), zz.2.2.2.2.1, zz.2.2.2.2.2, Hcl]) (fun zz => [(9, .int .i64 (zz.1 : Int))]) (0, ok, sts, vf, Hf, Kf) (pk [0, 2, 6, 7, 8] rfl) (pc 9 rfl pn) rfl ⟨Nat.zero_le _, (lim_init hst hok), lq, of⟩ ?_)))))))))
     rintro ⟨q, o1, s1, v34, H31, K35⟩ hJ37
     obtain ⟨hk29, hi30, l36, o32⟩ : (q ≤ (valsI ((prop m ds).getD i 0)).length) ∧ (LimR sts (foldR (chR j m (prop m ds) cl) ((valsI ((prop m ds).getD i 0)).take q)) s1 o1) ∧ Liq K35 ∧ OwnL 69 1 H31 K35 LRowV v34 s1 := hJ37
     change KC _ _ (_) [sing b (.cells [vmd, vmc, v34, .bool o1].toArray 97 (0, 0)), H31, K35, Hcl] _ ([(9, .int .i64 (q : Int))] ++ _)
     refine cS (cS (cr (mv rfl (mv rfl (le9 rfl ‹_› (fun l38 => ?_))))))
     refine ls9 rfl rfl ?_
     refine mv rfl (jn 5 61 (.bool (decide ((q : Int) < ((valsI ((prop m ds).getD i 0)).length : Int)) && o1)) (pk [0, 2, 6, 7, 8, 9, 52, 53, 54, 55, 56] rfl) (fun J40 => ?_) ?_)
     ·rcases Bool.eq_false_or_eq_true (decide ((q : Int) < ((valsI ((prop m ds).getD i 0)).length : Int))) with g39 | g39
      ·have g39p := of_decide_eq_true g39
       refine gT rfl rfl g39 (mv rfl (gT rfl rfl g39 (kl_nilchk rfl ?_)))
       refine gT rfl rfl g39 (fV rfl (gT rfl rfl g39 (lB rfl rfl (aT rfl rfl g39 ?_))))
       exact J40 _ (pk [61, 0, 2, 6, 7, 8, 9, 52, 53, 54, 55, 56] rfl)
      ·refine gF rfl rfl g39 (gF rfl rfl g39 (gF rfl rfl g39 (gF rfl rfl g39 (aF o1 rfl rfl g39 ?_))))
       exact J40 _ (pk [61, 0, 2, 6, 7, 8, 9, 52, 53, 54, 55, 56] rfl)
     refine ln (qc (cd9 rfl (fun c41 => ?_) (fun c41 => ?_)))
     ·have c41r := c41
      try simp only [smpE] at c41
      have hqc := lim_go c41r
      have hv := getD_mem (d := (0 : Int)) hqc.1
      have hvv := valsI_mem hv
      refine sk (qc (cS (bl (cS (cr (mv rfl (kl_callL rfl rfl (copyInts_ok (prop m ds) (by omega) ‹_›) (fun v42 H43 f44 o45 => ?_))))))))
      refine sg rfl (ln (qc (cS (cr (mv rfl (mv rfl (mv rfl (mv rfl (kl_inI rfl rfl ‹_› (by first | omega | (simp; omega)) (fun p46 a47 => ?_))))))))))
      refine ld rfl ‹_› (kl_shl rfl rfl (by omega) ?_)
      refine kl_ixLn rfl rfl ‹_› (by first | omega | (simp; omega)) (fun p48 q49 => ?_)
      refine kl_stL (ishl (1 : Int) ((valsI ((prop m ds).getD i 0)).getD q 0)) rfl rfl ‹_› o45 (by first | omega | (simp; omega)) rfl rfl rfl (fun H50 o51 f52 => ?_)
      have f53 := f52 _ f44
      refine cg [H50, sing b (.cells [vmd, vmc, v34, .bool o1].toArray 97 (0, 0)), H31, K35, Hcl] rfl ?_
      refine ln (qc (cr (mv rfl (mv rfl (mv rfl (mv rfl (mv rfl (mv rfl (kl_inI rfl rfl ‹_› (by first | omega | (simp; omega)) (fun p54 a55 => ?_))))))))))
      refine ld rfl ‹_› (kl_bd rfl (cp rfl (cp rfl (cp rfl cp_nil))) rfl ?_)
      refine kl_bsQ rfl (fun v56 H57 f58 r59 h60 => ?_)
      refine kl_callL rfl rfl (mergeE_ok cl ([(⟨(i : Int), ((valsI ((prop m ds).getD i 0)).getD q 0), true⟩ : Lit)]) (by simp; omega) rfl (path_lit (by have h9 := path_lt hpp hpl hop; rw [hopI] at h9; exact h9)) (OwnL.lits ocl) ‹_›) (fun v61 H62 f63 h64 => ?_)
      obtain ⟨z65, o67, h66⟩ := h64
      have hme := h66
      refine cT rfl rfl (ih j (by omega) m ((prop m ds).set i (ishl (1 : Int) ((valsI ((prop m ds).getD i 0)).getD q 0))) z65 s1 o1 hM (set_ok hp.ok hvv) (by rw [hme]; exact path_childN hpp hpl hopI hvv) (by rw [hme]; simp; omega) hi30.n hqc.2 l36 hmd hmc (OwnL.ints o51) o67 o32) (fun v68 L1 Ln K69 h70 g71 g72 => ?_)
      obtain ⟨rfl, rfl, v73, H74, K75, s76, o77, rfl, o78, l79, h80⟩ := h70
      have hlm := h80
      refine nm ?_
      refine ln (qc (cr (mv rfl (ic9 rfl rfl (by omega) ?_))))
      refine sg rfl (ln (tk [sing b (.cells [vmd, vmc, v73, .bool o77].toArray 97 (0, 0)), H74, K75, Hcl] ?_))
      refine rL ((q + 1), o77, s76, v73, H74, K75) (by (have := hqc.1; omega)) (⟨(by have := hqc.1; omega), (by rw [hme] at hlm; exact lim_step hqc.1 hqc.2 hi30 (by rw [chR_eq hopI]; exact hlm)), l79, o78⟩) (pc 9 rfl pn) (pk [0, 2, 6, 7, 8] rfl) rfl slr9
     ·have c41r := c41
      try simp only [smpE] at c41
      have hqx := c41r
      refine ex9 (qc (cS (cr (mv rfl (kl_nilchk rfl ?_)))))
      refine fV rfl (lB rfl rfl (mv rfl (jn 7 97 (.bool (o1 && decide ((s1.length : Int) < (200 : Int)))) (pk [0, 2, 90] rfl) (fun J83 => ?_) ?_)))
      ·rcases Bool.eq_false_or_eq_true o1 with g81 | g81
       ·have g81p := g81
        try simp only [smpD] at g81p
        refine gT rfl rfl g81 (mv rfl (gT rfl rfl g81 (kl_nilchk rfl ?_)))
        refine gT rfl rfl g81 (fV rfl (gT rfl rfl g81 (lB rfl rfl (gT rfl rfl g81 (lL rfl o32 (fun l82 => ?_))))))
        refine gT rfl rfl g81 (ls9 rfl rfl ?_)
        refine aT rfl rfl g81 ?_
        exact J83 _ (pk [97, 0, 2, 90] rfl)
       ·refine gF rfl rfl g81 (gF rfl rfl g81 (gF rfl rfl g81 (gF rfl rfl g81 (gF rfl rfl g81 (gF rfl rfl g81 (aF (decide ((s1.length : Int) < (200 : Int))) rfl rfl g81 ?_))))))
        exact J83 _ (pk [97, 0, 2, 90] rfl)
      refine ln (qc (cd9 rfl (fun c84 => ?_) (fun c84 => ?_)))
      ·have c84r := c84
       try simp only [smpE] at c84
       have hap := c84r
       refine cr (mv rfl (mv rfl (kl_nilchk rfl ?_)))
       refine fV rfl (lB rfl rfl (mv rfl (bs9 rfl rfl rfl (by decide) (ca (by first | exact Sl.cells ‹_› | exact OwnL.cells ‹_›) ca_nil) (fun v85 H86 f87 r88 s89 => ?_))))
       have h90 := OwnL.lits ocl
       refine cm9 K35 Hcl (fun c91 => ?_)
       have o92 := OwnL.mono (K' := orHp K35 Hcl) o32 orL
       refine aL9 cl rfl rfl o92 ‹_› ⟨_, rfl, Sl.mono ‹_› (orC c91) (fun _ _ h => h)⟩ (oc (OwnL.oneCell ‹_›) oc_nil) (by first | omega | (have h9 := hi30.n; omega)) (by decide) (fun v93 H94 o95 f96 => ?_)
       refine kl_nilchk rfl ?_
       refine fV rfl (sB rfl rfl rfl (OwnL.oneCell ‹_›) (OwnL.cells ‹_›) ?_)
       refine cg [sing b (.cells [vmd, vmc, v93, .bool o1].toArray 97 (0, 0)), H94, K35, Hcl] rfl ?_
       refine ln (kq_mrg K35 Hcl ?_)
       exact kq_retT0 rfl [sing b (.cells [vmd, vmc, v93, .bool o1].toArray 97 (0, 0)), H94, (orHp K35 Hcl)] [] noHp frn (fr_no _) ⟨rfl, rfl, v93, H94, (orHp K35 Hcl), (s1 ++ [cl]), o1, rfl, o95, (liq_or l36 (And.intro trivial (OwnL.liq ocl)).2), (by rw [ref_node hz hop, hopI]; exact lim_T (lim_all hi30 hqx) hap)⟩
      ·have c84r := c84
       try simp only [smpE] at c84
       have hap := c84r
       refine cr (mv rfl (kl_nilchk rfl ?_))
       refine fV rfl (sB rfl rfl rfl rfl rfl ?_)
       refine cg [sing b (.cells [vmd, vmc, v34, .bool false].toArray 97 (0, 0)), H31, K35, Hcl] rfl ?_
       refine ln ?_
       exact kq_retT0 rfl [sing b (.cells [vmd, vmc, v34, .bool false].toArray 97 (0, 0)), H31, K35] [] noHp frn (fr_no _) ⟨rfl, rfl, v34, H31, K35, s1, false, rfl, o32, l36, (by rw [ref_node hz hop, hopI]; exact lim_F (lim_all hi30 hqx) hap)⟩
  ·have c6r := c6
   try simp only [smpE] at c6
   have hz : (prop m ds).contains 0 = true := (by simpa using c6r)
   refine sk (qc (cS (cr (mv rfl (kl_nilchk rfl ?_)))))
   refine fV rfl (lB rfl rfl (mv rfl (jn 7 97 (.bool (ok && decide ((sts.length : Int) < (200 : Int)))) (pk [0, 2, 90] rfl) (fun J100 => ?_) ?_)))
   ·rcases Bool.eq_false_or_eq_true ok with g98 | g98
    ·have g98p := g98
     try simp only [smpD] at g98p
     refine gT rfl rfl g98 (mv rfl (gT rfl rfl g98 (kl_nilchk rfl ?_)))
     refine gT rfl rfl g98 (fV rfl (gT rfl rfl g98 (lB rfl rfl (gT rfl rfl g98 (lL rfl of (fun l99 => ?_))))))
     refine gT rfl rfl g98 (ls9 rfl rfl ?_)
     refine aT rfl rfl g98 ?_
     exact J100 _ (pk [97, 0, 2, 90] rfl)
    ·refine gF rfl rfl g98 (gF rfl rfl g98 (gF rfl rfl g98 (gF rfl rfl g98 (gF rfl rfl g98 (gF rfl rfl g98 (aF (decide ((sts.length : Int) < (200 : Int))) rfl rfl g98 ?_))))))
     exact J100 _ (pk [97, 0, 2, 90] rfl)
   refine ln (qc (cd9 rfl (fun c101 => ?_) (fun c101 => ?_)))
   ·have c101r := c101
    try simp only [smpE] at c101
    have hap := c101r
    refine cr (mv rfl (mv rfl (kl_nilchk rfl ?_)))
    refine fV rfl (lB rfl rfl (mv rfl (bs9 rfl rfl rfl (by decide) (ca (by first | exact Sl.cells ‹_› | exact OwnL.cells ‹_›) ca_nil) (fun v102 H103 f104 r105 s106 => ?_))))
    have h107 := OwnL.lits ocl
    refine cm9 Kf Hcl (fun c108 => ?_)
    have o109 := OwnL.mono (K' := orHp Kf Hcl) of orL
    refine aL9 cl rfl rfl o109 ‹_› ⟨_, rfl, Sl.mono ‹_› (orC c108) (fun _ _ h => h)⟩ (oc (OwnL.oneCell ‹_›) oc_nil) (by first | omega | (have h9 := hi30.n; omega)) (by decide) (fun v110 H111 o112 f113 => ?_)
    refine kl_nilchk rfl ?_
    refine fV rfl (sB rfl rfl rfl (OwnL.oneCell ‹_›) (OwnL.cells ‹_›) ?_)
    refine cg [sing b (.cells [vmd, vmc, v110, .bool ok].toArray 97 (0, 0)), H111, Kf, Hcl] rfl ?_
    refine ln (kq_mrg Kf Hcl ?_)
    exact kq_retT0 rfl [sing b (.cells [vmd, vmc, v110, .bool ok].toArray 97 (0, 0)), H111, (orHp Kf Hcl)] [] noHp frn (fr_no _) ⟨rfl, rfl, v110, H111, (orHp Kf Hcl), (sts ++ [cl]), ok, rfl, o112, (liq_or lq (And.intro trivial (OwnL.liq ocl)).2), (by rw [ref_0 hz]; exact lim_0 hap)⟩
   ·have c101r := c101
    try simp only [smpE] at c101
    have hap := c101r
    refine cr (mv rfl (kl_nilchk rfl ?_))
    refine fV rfl (sB rfl rfl rfl rfl rfl ?_)
    refine cg [sing b (.cells [vmd, vmc, vf, .bool false].toArray 97 (0, 0)), Hf, Kf, Hcl] rfl ?_
    refine ln ?_
    exact kq_retT0 rfl [sing b (.cells [vmd, vmc, vf, .bool false].toArray 97 (0, 0)), Hf, Kf] [] noHp frn (fr_no _) ⟨rfl, rfl, vf, Hf, Kf, sts, false, rfl, of, lq, (by rw [ref_0 hz]; exact lim_0F hst hok hap)⟩
theorem prover_ok (k : Nat) : proverSt k := by
 induction k using Nat.strongRecOn with
 | _ k ih => exact @prover_step k ih
theorem pinfS_ok {Hmd : Hp} {vmd : Value} {Hmc : Hp} {vmc : Value} (m : Mod) (hmd : Ints Hmd vmd m.doms) (hmc : Cons Hmc vmc m.cons) : Spec Tryz.prog 41 [.agg #[vmd, vmc]] [Hmd, Hmc] (fun Hq vq => ∃ (rq : List (List Lit)) (bq : Bool) (uq0 : Value), vq = .tuple #[uq0, .bool bq] ∧ LRows Hq uq0 rq ∧ (rq, bq) = infR m) := by
 refine spec_of Tryz.func41 rfl rfl rfl (fun B => ?_)
 refine cS (cr (kl_box rfl rfl (fun p1 H2 f3 a4 => ?_)))
 refine sg rfl (sg rfl (ln (qc (cS (cS (cr (kl_ldS rfl ‹_› rfl ?_)))))))
 refine cP rfl rfl (svalidMod_ok m ‹_› ‹_›) ?_
 refine nt9 rfl (ln (qc (cd9 rfl (fun c5 => ?_) (fun c5 => ?_))))
 ·have c5r := c5
  try simp only [smpE] at c5
  have hv := c5r
  refine cS (cr (sg rfl (sg rfl (ln (qc (rt ?_))))))
  exact kq_ret2 rfl rfl rfl noHp (fr_no _) ⟨([]), false, _, rfl, Sl.nil, by first | (rw [inf_nv (by simpa using hv)]; done) | (rw [inf_v hM.v]; first | exact lim_no hlm (by simpa using ho9) | exact lim_yes hlm (by simpa using ho9))⟩
 ·have c5r := c5
  try simp only [smpE] at c5
  have hv := c5r
  have hM : MOk m := ⟨by simpa using hv⟩
  refine sk (qc (cS (cr (kl_ldS rfl ‹_› rfl ?_))))
  refine kl_bdA [(0, [vmd, vmc]), (2, [.bool true])] [vmd, vmc, .slice none 0 0, .bool true] rfl (cpa rfl (cpa rfl cpa_nil)) rfl ?_
  refine kl_boxL (cs := [vmd, vmc, .slice none 0 0, .bool true]) rfl rfl (fun b6 hb7 => ?_)
  refine sg rfl (ln (qc (cS (cr (mv rfl (fd9 rfl ‹_› (fun p8 a9 => ?_)))))))
  refine ld rfl ‹_› (kl_bs0k (K := noHp) LitV rfl (fun v10 H11 f12 o13 => ?_))
  refine kl_no ?_
  refine kl_no ?_
  refine cT rfl rfl (prover_ok m.doms.length m m.doms ([]) [] true hM hM.dok (path_nil _ _) (by simp) (by simp) rfl liq_no ‹_› ‹_› ‹_› o13 (OwnL.nil (K := noHp) (R := LRowV))) (fun v14 L1 Ln K15 h16 g17 g18 => ?_)
  obtain ⟨rfl, rfl, v19, H20, K21, s22, o23, rfl, o24, l25, h26⟩ := h16
  have hlm := h26
  refine nm ?_
  refine kl_fr H20 (OwnL.liq o24) (fun f27 => ?_)
  refine kl_fr K21 l25 (fun f28 => ?_)
  refine ln (qc (cS (cS (cr (mv rfl (kl_nilchk rfl ?_))))))
  refine fV rfl (lB rfl rfl (nt9 rfl (ln (qc (cd9 rfl (fun c29 => ?_) (fun c29 => ?_))))))
  ·have c29r := c29
   try simp only [smpE] at c29
   have ho9 := c29r
   refine cS (cr (sg rfl (sg rfl (ln (qc (rt ?_))))))
   exact kq_ret2 rfl rfl rfl noHp (fr_no _) ⟨([]), false, _, rfl, Sl.nil, by first | (rw [inf_nv (by simpa using hv)]; done) | (rw [inf_v hM.v]; first | exact lim_no hlm (by simpa using ho9) | exact lim_yes hlm (by simpa using ho9))⟩
  ·have c29r := c29
   try simp only [smpE] at c29
   have ho9 := c29r
   refine sk (qc (cS (cr (mv rfl (kl_nilchk rfl ?_)))))
   refine fV rfl (lB rfl rfl (sg rfl (sg rfl (ln (qc (rt (kq_frz H20 ?_)))))))
   refine kq_cmp H20 K21 (fun c30 => ?_)
   exact kq_ret2 rfl rfl rfl (orHp H20 K21) (fr_or f27 f28) ⟨s22, true, _, rfl, (OwnL.lrowsK o24 c30), by first | (rw [inf_nv (by simpa using hv)]; done) | (rw [inf_v hM.v]; first | exact lim_no hlm (by simpa using ho9) | exact lim_yes hlm (by simpa using ho9))⟩
theorem pbS_ok {Hmd : Hp} {vmd : Value} {Hmc : Hp} {vmc : Value} {Hobj : Hp} {vobj : Value} (m : Mod) (obj : List Int) (b : Int) (hmd : Ints Hmd vmd m.doms) (hmc : Cons Hmc vmc m.cons) (hobj : Ints Hobj vobj obj) : Spec Tryz.prog 9 [.agg #[vmd, vmc], vobj, .int .i64 b] [Hmd, Hmc, Hobj] (fun Hq vq => ∃ (rq : List (List Lit)) (bq : Bool) (uq0 : Value), vq = .tuple #[uq0, .bool bq] ∧ LRows Hq uq0 rq ∧ (rq, bq) = pbR m obj b) := by
 refine spec_of Tryz.func9 rfl rfl rfl (fun B => ?_)
 refine cS (cr (kl_box rfl rfl (fun p1 H2 f3 a4 => ?_)))
 refine sg rfl (sg rfl (ln (qc (cS (cS (cr (kl_ldS rfl ‹_› rfl ?_)))))))
 refine cP rfl rfl (svalidMod_ok m ‹_› ‹_›) ?_
 refine nt9 rfl (mv rfl (jn 5 18 (.bool (!(validModB m) || !(objOkS m obj))) (pk [1, 2, 3, 6, 7, 13] rfl) (fun J6 => ?_) ?_))
 ·rcases Bool.eq_false_or_eq_true (!(validModB m)) with g5 | g5
  ·refine gF rfl rfl g5 (gF rfl rfl g5 (gF rfl rfl g5 (gF rfl rfl g5 (oT (!(objOkS m obj)) rfl rfl g5 ?_))))
   exact J6 _ (pk [18, 1, 2, 3, 6, 7, 13] rfl)
  ·have g5p := g5
   try simp only [smpD] at g5p
   refine gT rfl rfl g5 (kl_ldS rfl ‹_› rfl ?_)
   refine gT rfl rfl g5 (mv rfl (gT rfl rfl g5 (cP rfl rfl (validObjective_ok m obj ‹_› ‹_› ‹_›) ?_)))
   refine gT rfl rfl g5 (nt9 rfl (oF rfl rfl g5 ?_))
   exact J6 _ (pk [18, 1, 2, 3, 6, 7, 13] rfl)
 refine mv rfl (jn 4 23 (.bool ((!(validModB m) || !(objOkS m obj)) || !(withinB b (-998 : Int) (1000 : Int)))) (pk [1, 2, 3, 6, 7, 19] rfl) (fun J8 => ?_) ?_)
 ·rcases Bool.eq_false_or_eq_true (!(validModB m) || !(objOkS m obj)) with g7 | g7
  ·refine gF rfl rfl g7 (gF rfl rfl g7 (gF rfl rfl g7 (oT (!(withinB b (-998 : Int) (1000 : Int))) rfl rfl g7 ?_)))
   exact J8 _ (pk [23, 1, 2, 3, 6, 7, 19] rfl)
  ·have g7p := g7
   try simp only [smpD] at g7p
   refine gT rfl rfl g7 (mv rfl (gT rfl rfl g7 (cP rfl rfl (inRange_ok b (-998 : Int) (1000 : Int)) ?_)))
   refine gT rfl rfl g7 (nt9 rfl (oF rfl rfl g7 ?_))
   exact J8 _ (pk [23, 1, 2, 3, 6, 7, 19] rfl)
 refine ln (qc (cd9 rfl (fun c9 => ?_) (fun c9 => ?_)))
 ·have c9r := c9
  try simp only [smpE] at c9
  have hgs := c9r
  rw [bd_cS] at hgs
  have hno := hgs
  refine cS (cr (sg rfl (sg rfl (ln (qc (rt ?_))))))
  exact kq_ret2 rfl rfl rfl noHp (fr_no _) ⟨([]), false, _, rfl, Sl.nil, by first | (rw [pb_no (by rw [bd_no hno])]; done) | (rw [pb_no (by rw [bd_yes hgo, ← e92]; simpa using hz9)]; done) | (rw [pb_yes (by rw [bd_yes hgo, ← e92]; simpa using hz9), bd_yes hgo, ← e91]; exact hpi)⟩
 ·have c9r := c9
  try simp only [smpE] at c9
  have hgs := c9r
  rw [bd_cS] at hgs
  have hgo := hgs
  have hok := bd_ok hgo
  refine sk (qc (cS (cr (kl_ldS rfl ‹_› rfl ?_))))
  refine mv rfl (mv rfl (kl_call rfl rfl (improvS_ok m obj b hok.2.2.1 hok.2.2.2.1 hok.2.2.2.2 ‹_› ‹_› ‹_›) (fun v10 H11 f12 h13 => ?_)))
  obtain ⟨z16, z21, u17, u18, rfl, h19, h20, h15⟩ := h13
  obtain ⟨e91, e92⟩ := pairOf h15
  refine mv rfl (kl_xt rfl rfl (kl_xt rfl rfl (kl_alloc (cs := [.slice none 0 0, .slice none 0 0]) rfl (fun b22 hb23 => ?_))))
  refine kl_stW (us := [u17, u18]) rfl rfl rfl rfl (oc (Sl.oneCell ‹_›) (oc (Sl.oneCell ‹_›) oc_nil)) rfl ?_
  refine cg [sing b22 (.cells [u17, u18].toArray 26 (0, 0))] rfl ?_
  refine sg rfl (ln (qc (cS (cS (cr (mv rfl (nt9 rfl (ln (qc (cd9 rfl (fun c24 => ?_) (fun c24 => ?_)))))))))))
  ·have c24r := c24
   try simp only [smpE] at c24
   have hz9 := c24r
   refine cS (cr (sg rfl (sg rfl (ln (qc (rt ?_))))))
   exact kq_ret2 rfl rfl rfl noHp (fr_no _) ⟨([]), false, _, rfl, Sl.nil, by first | (rw [pb_no (by rw [bd_no hno])]; done) | (rw [pb_no (by rw [bd_yes hgo, ← e92]; simpa using hz9)]; done) | (rw [pb_yes (by rw [bd_yes hgo, ← e92]; simpa using hz9), bd_yes hgo, ← e91]; exact hpi)⟩
  ·have c24r := c24
   try simp only [smpE] at c24
   have hz9 := c24r
   refine sk (qc (cS (cr (kl_ldW rfl rfl (kl_call rfl rfl (pinfS_ok z16 ‹_› ‹_›) (fun v25 H26 f27 h28 => ?_))))))
   obtain ⟨z31, z34, u32, rfl, h33, h30⟩ := h28
   have hpi := h30
   refine kl_xt rfl rfl (kl_xt rfl rfl (sg rfl (sg rfl (ln (qc (rt ?_))))))
   exact kq_ret2 rfl rfl rfl H26 f27 ⟨z31, z34, _, rfl, ‹_›, by first | (rw [pb_no (by rw [bd_no hno])]; done) | (rw [pb_no (by rw [bd_yes hgo, ← e92]; simpa using hz9)]; done) | (rw [pb_yes (by rw [bd_yes hgo, ← e92]; simpa using hz9), bd_yes hgo, ← e91]; exact hpi)⟩
end
section
theorem hardModel_ok {br : Nat} {vbr : Value} {Hr : Hp} {bsr : List Int} (pr : Nat) (hp : pr + (800) ≤ 1000000) (hr : Bytes Hr vbr bsr) : SpecT Tryz.prog 65 [.pointer (some ⟨br, 0, none⟩)] [sing br (.cells [vbr, .int .i64 (pr : Int)].toArray 84 (0, 0))] [Hr] (fun vq L1 Ln Kq => ∃ q : Nat, q ≤ pr + (800) ∧ L1 = [sing br (.cells [vbr, .int .i64 (q : Int)].toArray 84 (0, 0))] ∧ ∃ (Hq Mq : Hp) (va vc : Value) (mq : Mod), vq = .agg #[va, vc] ∧ Ln = [Hq, Mq] ∧ OwnL 3 1 Hq noHp IntV va mq.doms ∧ OwnL 88 5 Mq Kq ConV vc mq.cons ∧ ModSm 100 mq) := by
 refine specT_of Tryz.func65 rfl rfl rfl (fun B => ?_)
 refine cS (cr (kl_alloc (cs := [.slice none 0 0, .slice none 0 0]) rfl (fun b1 hb2 => ?_)))
 refine ln (qc (cS (cr (mv rfl (cT rfl rfl (randomModel_ok pr (by omega) hr) (fun v3 L1 Ln K7 h4 f5 f6 => ?_))))))
 obtain ⟨q8, h9, rfl, H12, M14, v15, v16, z10, rfl, rfl, o13, o17, h11⟩ := h4
 have f18 := f5 _ (.head _)
 have f19 := f5 _ (.tail _ (.head _))
 have hd1 := h11.d1
 have hd4 := h11.d
 have hc1 := h11.c
 have hcc := h11.cc
 refine nm ?_
 refine kl_alloc (cs := [.slice none 0 0, .slice none 0 0]) rfl (fun b20 hb21 => ?_)
 refine kl_stW (us := [v15, v16]) rfl rfl rfl rfl (oc (OwnL.oneCell ‹_›) (oc (OwnL.oneCell ‹_›) oc_nil)) rfl ?_
 refine cg [sing b20 (.cells [v15, v16].toArray 26 (0, 0)), sing br (.cells [vbr, .int .i64 (q8 : Int)].toArray 84 (0, 0)), H12, M14, sing b1 (.cells [.slice none 0 0, .slice none 0 0].toArray 26 (0, 0))] rfl ?_
 refine ln (qc (cS (cS (cr (mv rfl (cT rfl rfl (pick_ok q8 (3 : Int) (by omega) hr) (fun v22 L1 Ln K26 h23 f24 f25 => ?_)))))))
 obtain ⟨q27, h28, rfl, rfl, z29, rfl, h30⟩ := h23
 refine nm ?_
 refine sg rfl (ln (qc (bl (kc_loopK (A := Int × List Con × Value × Hp × Hp × Nat) (fun zz => (0 ≤ zz.1 ∧ zz.1 ≤ 2 ∧ zz.2.1.length + zz.1.toNat ≤ 52 ∧ ∀ c ∈ zz.2.1, ConSm 50 c) ∧ Fr B zz.2.2.2.2.1 ∧ OwnL 88 5 zz.2.2.2.1 zz.2.2.2.2.1 ConV zz.2.2.1 zz.2.1 ∧ Fr B zz.2.2.2.1 ∧ zz.2.2.2.2.2 ≤ q27 + 100 * (2 - zz.1).toNat) (fun zz => zz.1.toNat) (fun zz => zz.2.2.2.2.1) (fun zz => [sing br (.cells [vbr, .int .i64 (zz.2.2.2.2.2 : Int)].toArray 84 (0, 0)), sing b20 (.cells [v15, zz.2.2.1].toArray 26 (0, 0)), H12, zz.2.2.2.1, sing b1 (.cells [.slice none 0 0, .slice none 0 0].toArray 26 (0, 0))]) (fun zz => [(4, .int .i64 zz.1)]) (z29, z10.cons, v16, M14, K7, q27) (pk [0, 2, 3] rfl) (pc 4 rfl pn) rfl ⟨⟨by dsimp only; omega, by dsimp only; omega, by dsimp only; omega, hcc⟩, f6, o17, f19, (by first | omega | (dsimp only; omega))⟩ ?_))))
 rintro ⟨k, cs, v38, H35, K39, q41⟩ hJ43
 obtain ⟨hi34, f40, o36, f37, hq42⟩ : (0 ≤ k ∧ k ≤ 2 ∧ cs.length + k.toNat ≤ 52 ∧ ∀ c ∈ cs, ConSm 50 c) ∧ Fr B K39 ∧ OwnL 88 5 H35 K39 ConV v38 cs ∧ Fr B H35 ∧ q41 ≤ q27 + 100 * (2 - k).toNat := hJ43
 change KC _ _ (K39 :: _) [sing br (.cells [vbr, .int .i64 (q41 : Int)].toArray 84 (0, 0)), sing b20 (.cells [v15, v38].toArray 26 (0, 0)), H12, H35, sing b1 (.cells [.slice none 0 0, .slice none 0 0].toArray 26 (0, 0))] _ ([(4, .int .i64 k)] ++ _)
 have hall := hi34.2.2.2
 refine cS (cS (cr (mv rfl (kl_gtr rfl rfl ?_))))
 refine mv rfl (jn 5 17 (.bool (decide ((0 : Int) < k) && decide ((cs.length : Int) < (6 : Int)))) (pk [0, 2, 3, 4, 10, 11, 12] rfl) (fun J46 => ?_) ?_)
 ·rcases Bool.eq_false_or_eq_true (decide ((0 : Int) < k)) with g44 | g44
  ·have g44p := of_decide_eq_true g44
   refine gT rfl rfl g44 (fV rfl (gT rfl rfl g44 (lB rfl rfl (gT rfl rfl g44 (lL rfl o36 (fun l45 => ?_))))))
   refine gT rfl rfl g44 (ls9 rfl rfl ?_)
   refine aT rfl rfl g44 ?_
   exact J46 _ (pk [17, 0, 2, 3, 4, 10, 11, 12] rfl)
  ·refine gF rfl rfl g44 (gF rfl rfl g44 (gF rfl rfl g44 (gF rfl rfl g44 (aF (decide ((cs.length : Int) < (6 : Int))) rfl rfl g44 ?_))))
   exact J46 _ (pk [17, 0, 2, 3, 4, 10, 11, 12] rfl)
 refine ln (qc (cd9 rfl (fun c47 => ?_) (fun c47 => ?_)))
 ·have c47r := c47
  try simp only [smpE] at c47
  refine sk (qc (cS (bl (kc_tree (fun i => ([8, 10] : List Nat).contains i) [sing b20 (.cells [v15, v38].toArray 26 (0, 0))] (by kernel_rfl) ?_))))
  refine kt_q 0 (.cons _ (.cons_cons _ nsl)) rfl (by kernel_rfl) (fV rfl (ln (qq (kt_q 1 (.cons _ (.cons_cons _ nsl)) rfl (by kernel_rfl) (ld rfl (at_box (T := 26) (cs := [v15, v38]) (off := 1) (fz := (0, 0))) (ln (qq (kt_q 2 (.cons _ (.cons_cons _ nsl)) rfl (by kernel_rfl) (mv rfl (ln (qq ?_)))))))))))
  refine kt_q 3 (.cons _ (.cons_cons _ nsl)) rfl (by kernel_rfl) (fV rfl (ln (qq (kt_q 4 (.cons _ (.cons_cons _ nsl)) rfl (by kernel_rfl) (ld rfl (at_box (T := 26) (cs := [v15, v38]) (off := 0) (fz := (0, 0))) (ln (qq (kt_q 5 (.cons _ (.cons_cons _ nsl)) rfl (by kernel_rfl) (lL rfl o13 (fun l48 => ?_))))))))))
  refine ln (qq (ta 6 rfl (cT rfl rfl (randomConstraint_ok q41 (z10.doms.length : Int) (by first | assumption | omega) (by omega) hr) (fun v49 L1 Ln K53 h50 f51 f52 => ?_))))
  obtain ⟨q54, h55, rfl, z56, rfl, h60, h57⟩ := h50
  obtain ⟨_, rfl, h64⟩ := h60
  have h64' := h64
  obtain ⟨u61, u62, u63, rfl, h65, h66, h67⟩ := h64
  refine nm ?_
  refine ln (qa (.cons _ (.cons_cons _ nsl)) (ta 7 rfl (kl_bsK rfl (fun v68 H69 f70 r71 => ?_))))
  refine ln (qa (.cons _ (.cons_cons _ nsl)) (ta 8 rfl (cm9 K39 K53 (fun c72 => ?_))))
  have o73 := OwnL.mono (K' := orHp K39 K53) o36 orL
  refine aL9 z56 rfl rfl o73 r71 (RMono.mono (orC c72) ‹_›) (oc rfl (oc (Sl.oneCell ‹_›) (oc (Sl.oneCell ‹_›) (oc rfl (oc (Sl.oneCell ‹_›) oc_nil))))) (by omega) (by decide) (fun v74 H75 o76 f77 => ?_)
  have f78 := f77 B f37 (Nat.le_refl _)
  refine ln (qx rfl (kt_q 9 (.cons _ (.cons_cons _ nsl)) rfl (by kernel_rfl) (fV rfl (ln (qq (ta 10 rfl (sB rfl rfl rfl (OwnL.oneCell ‹_›) (OwnL.cells ‹_›) ?_)))))))
  refine cg [sing br (.cells [vbr, .int .i64 (q54 : Int)].toArray 84 (0, 0)), sing b20 (.cells [v15, v74].toArray 26 (0, 0)), H12, H75, sing b1 (.cells [.slice none 0 0, .slice none 0 0].toArray 26 (0, 0))] rfl ?_
  refine ln (qx rfl (kt_end (by kernel_rfl) ?_))
  refine qc (cr (mv rfl (sb9 rfl rfl (by omega) ?_)))
  refine sg rfl (ln (tk [sing br (.cells [vbr, .int .i64 (q54 : Int)].toArray 84 (0, 0)), sing b20 (.cells [v15, v74].toArray 26 (0, 0)), H12, H75, sing b1 (.cells [.slice none 0 0, .slice none 0 0].toArray 26 (0, 0))] ?_))
  refine kq_roundK ((k - (1 : Int)), (cs ++ [z56]), v74, H75, (orHp K39 K53), q54) (by (dsimp only; omega)) (⟨⟨by dsimp only; omega, by dsimp only; omega, by simp; omega, all_snoc hi34.2.2.2 ‹_›⟩, (fr_or f40 f52), o76, f78, (by first | omega | (dsimp only; omega))⟩) (pc 4 rfl pn) (pk [0, 2, 3] rfl) rfl slr9
 ·have c47r := c47
  try simp only [smpE] at c47
  refine ex9 (qc (cS (cS (cr (mv rfl (cT rfl rfl (pick_ok q41 (3 : Int) (by omega) hr) (fun v79 L1 Ln K83 h80 f81 f82 => ?_)))))))
  obtain ⟨q84, h85, rfl, rfl, z86, rfl, h87⟩ := h80
  refine nm ?_
  refine eq9 rfl rfl ?_
  refine mv rfl (jn 5 38 (.bool (decide (z86 = (0 : Int)) && decide ((cs.length : Int) < (6 : Int)))) (pk [2, 3, 33] rfl) (fun J92 => ?_) ?_)
  ·rcases Bool.eq_false_or_eq_true (decide (z86 = (0 : Int))) with g90 | g90
   ·have g90p := of_decide_eq_true g90
    refine gT rfl rfl g90 (fV rfl (gT rfl rfl g90 (lB rfl rfl (gT rfl rfl g90 (lL rfl o36 (fun l91 => ?_))))))
    refine gT rfl rfl g90 (ls9 rfl rfl ?_)
    refine aT rfl rfl g90 ?_
    exact J92 _ (pk [38, 2, 3, 33] rfl)
   ·refine gF rfl rfl g90 (gF rfl rfl g90 (gF rfl rfl g90 (gF rfl rfl g90 (aF (decide ((cs.length : Int) < (6 : Int))) rfl rfl g90 ?_))))
    exact J92 _ (pk [38, 2, 3, 33] rfl)
  refine mv rfl (jn 5 44 (.bool ((decide (z86 = (0 : Int)) && decide ((cs.length : Int) < (6 : Int))) && decide ((2 : Int) < (z10.doms.length : Int)))) (pk [2, 3, 39] rfl) (fun J95 => ?_) ?_)
  ·rcases Bool.eq_false_or_eq_true (decide (z86 = (0 : Int)) && decide ((cs.length : Int) < (6 : Int))) with g93 | g93
   ·have g93p := g93
    try simp only [smpD] at g93p
    refine gT rfl rfl g93 (fV rfl (gT rfl rfl g93 (lB rfl rfl (gT rfl rfl g93 (lL rfl o13 (fun l94 => ?_))))))
    refine gT rfl rfl g93 (kl_gtr rfl rfl ?_)
    refine aT rfl rfl g93 ?_
    exact J95 _ (pk [44, 2, 3, 39] rfl)
   ·refine gF rfl rfl g93 (gF rfl rfl g93 (gF rfl rfl g93 (gF rfl rfl g93 (aF (decide ((2 : Int) < (z10.doms.length : Int))) rfl rfl g93 ?_))))
    exact J95 _ (pk [44, 2, 3, 39] rfl)
  refine ln (qc (cd9 rfl (fun c96 => ?_) (fun c96 => ?_)))
  ·have c96r := c96
   try simp only [smpE] at c96
   have h3c := c96r
   simp only [Bool.and_eq_true, decide_eq_true_eq] at h3c
   refine cS (cS (cr (sg rfl (ln (qc (bl (kc_loopL (A := Nat × List Int × Value × Hp) (fun zz => (zz.1 ≤ 4) ∧ (2 < zz.2.1.length ∧ zz.2.1.length ≤ 4) ∧ OwnL 3 1 zz.2.2.2 noHp IntV zz.2.2.1 zz.2.1 ∧ Fr B zz.2.2.2) (fun zz => 4 - zz.1) (fun zz => [sing br (.cells [vbr, .int .i64 (q84 : Int)].toArray 84 (0, 0)), sing b20 (.cells [zz.2.2.1, v38].toArray 26 (0, 0)), zz.2.2.2, H35, sing b1 (.cells [.slice none 0 0, .slice none 0 0].toArray 26 (0, 0))]) (fun zz => [(5, .int .i64 (zz.1 : Int))]) (0, z10.doms, v15, H12) (pk [2, 3] rfl) (pc 5 rfl pn) rfl ⟨Nat.zero_le _, ⟨by have h9 := h3c.2; dsimp only; omega, by dsimp only; omega⟩, o13, f18⟩ ?_)))))))
   rintro ⟨i, ds, v102, H99⟩ hJ103
   obtain ⟨hk97, hi98, o100, f101⟩ : (i ≤ 4) ∧ (2 < ds.length ∧ ds.length ≤ 4) ∧ OwnL 3 1 H99 noHp IntV v102 ds ∧ Fr B H99 := hJ103
   change KC _ _ (_) [sing br (.cells [vbr, .int .i64 (q84 : Int)].toArray 84 (0, 0)), sing b20 (.cells [v102, v38].toArray 26 (0, 0)), H99, H35, sing b1 (.cells [.slice none 0 0, .slice none 0 0].toArray 26 (0, 0))] _ ([(5, .int .i64 (i : Int))] ++ _)
   refine cS (cS (cr (mv rfl (fV rfl (lB rfl rfl (lL rfl o100 (fun l104 => ?_)))))))
   refine ls9 rfl rfl ?_
   refine ln (qc (ci9 rfl (fun c105 => ?_) (fun c105 => ?_)))
   ·refine sk (qc (cS (bl (kc_tree (fun i => ([9] : List Nat).contains i) [sing b20 (.cells [v102, v38].toArray 26 (0, 0))] (by kernel_rfl) ?_))))
    refine kt_q 0 (.cons _ (.cons_cons _ nsl)) rfl (by kernel_rfl) (fV rfl (ln (qq (kt_q 1 (.cons _ (.cons_cons _ nsl)) rfl (by kernel_rfl) (ld rfl (at_box (T := 26) (cs := [v102, v38]) (off := 0) (fz := (0, 0))) (ln (qq (kt_q 2 (.cons _ (.cons_cons _ nsl)) rfl (by kernel_rfl) (mv rfl (ln (qq ?_)))))))))))
    refine kt_q 3 (.cons _ (.cons_cons _ nsl)) rfl (by kernel_rfl) (fV rfl (ln (qq (kt_q 4 (.cons _ (.cons_cons _ nsl)) rfl (by kernel_rfl) (ld rfl (at_box (T := 26) (cs := [v102, v38]) (off := 0) (fz := (0, 0))) (ln (qq (kt_q 5 (.cons _ (.cons_cons _ nsl)) rfl (by kernel_rfl) (lL rfl o100 (fun l106 => ?_))))))))))
    refine ln (qq (kt_q 6 (.cons _ (.cons_cons _ nsl)) rfl (by kernel_rfl) (sb9 rfl rfl (by omega) ?_)))
    refine ln (qq (ta 7 rfl (kl_call rfl rfl (domainRange_ok (0 : Int) ((ds.length : Int) - (2 : Int))) (fun v107 H108 f109 h110 => ?_))))
    obtain ⟨z111, rfl, h112⟩ := h110
    refine ln (qa (.cons _ (.cons_cons _ nsl)) (kt_q 8 (.cons _ (.cons_cons _ nsl)) rfl (by kernel_rfl) (kl_ixLn rfl rfl ‹_› (by omega) (fun p113 q114 => ?_))))
    refine ln (qq (ta 9 rfl (kl_stL z111 rfl rfl ‹_› o100 (by omega) rfl rfl rfl (fun H115 o116 f117 => ?_))))
    have f118 := f117 _ f101
    refine cg [sing br (.cells [vbr, .int .i64 (q84 : Int)].toArray 84 (0, 0)), sing b20 (.cells [v102, v38].toArray 26 (0, 0)), H115, H35, sing b1 (.cells [.slice none 0 0, .slice none 0 0].toArray 26 (0, 0))] rfl ?_
    refine ln (qx rfl (kt_end (by kernel_rfl) ?_))
    refine qc (cr (mv rfl (ic9 rfl rfl (by omega) ?_)))
    refine sg rfl (ln (tk [sing br (.cells [vbr, .int .i64 (q84 : Int)].toArray 84 (0, 0)), sing b20 (.cells [v102, v38].toArray 26 (0, 0)), H115, H35, sing b1 (.cells [.slice none 0 0, .slice none 0 0].toArray 26 (0, 0))] ?_))
    refine rL ((i + 1), (ds.set i z111), v102, H115) (by omega) (⟨by omega, ⟨by simp; omega, by simp; omega⟩, o116, f118⟩) (pc 5 rfl pn) (pk [2, 3] rfl) rfl slr9
   ·refine ex9 (qc (kc_tree (fun i => ([8, 10] : List Nat).contains i) [sing b20 (.cells [v102, v38].toArray 26 (0, 0))] (by kernel_rfl) ?_))
    refine kt_q 0 (.cons _ (.cons_cons _ nsl)) rfl (by kernel_rfl) (fV rfl (ln (qq (kt_q 1 (.cons _ (.cons_cons _ nsl)) rfl (by kernel_rfl) (ld rfl (at_box (T := 26) (cs := [v102, v38]) (off := 1) (fz := (0, 0))) (ln (qq (kt_q 2 (.cons _ (.cons_cons _ nsl)) rfl (by kernel_rfl) (fV rfl (ln (qq ?_)))))))))))
    refine kt_q 3 (.cons _ (.cons_cons _ nsl)) rfl (by kernel_rfl) (ld rfl (at_box (T := 26) (cs := [v102, v38]) (off := 0) (fz := (0, 0))) (ln (qq (kt_q 4 (.cons _ (.cons_cons _ nsl)) rfl (by kernel_rfl) (lL rfl o100 (fun l119 => ?_))))))
    refine ln (qq (ta 5 rfl (kl_callL rfl rfl (allIndices_ok (ds.length : Int) (by first | assumption | omega)) (fun v120 H121 f122 h123 => ?_))))
    obtain ⟨z124, o126, h125⟩ := h123
    refine ln (qa (.cons _ (.cons _ (.cons_cons _ nsl))) (ta 6 rfl (kl_bd rfl (cp rfl (cp (OwnL.cells ‹_›) cp_nil)) rfl ?_)))
    refine ln (qa (.cons _ (.cons _ (.cons_cons _ nsl))) (ta 7 rfl (kl_bsK rfl (fun v127 H128 f129 r130 => ?_))))
    refine ln (qa (.cons _ (.cons _ (.cons_cons _ nsl))) (kt_frz H121 ?_))
    have h131 := OwnL.ints o126
    refine ta 8 rfl (cm9 K39 H121 (fun c132 => ?_))
    have o133 := OwnL.mono (K' := orHp K39 H121) o36 orL
    refine aL9 ⟨(3 : Int), z124, [], (0 : Int), []⟩ rfl rfl o133 r130 ⟨_, _, _, rfl, (Sl.mono ‹_› (fun b o h => orC c132 b o h) (fun _ _ h => h)), Sl.nil, Sl.nil⟩ (oc rfl (oc (Sl.oneCell ‹_›) (oc rfl (oc rfl (oc rfl oc_nil))))) (by omega) (by decide) (fun v134 H135 o136 f137 => ?_)
    have f138 := f137 B f37 (Nat.le_refl _)
    refine ln (qx rfl (kt_q 9 (.cons _ (.cons_cons _ nsl)) rfl (by kernel_rfl) (fV rfl (ln (qq (ta 10 rfl (sB rfl rfl rfl (OwnL.oneCell ‹_›) (OwnL.cells ‹_›) ?_)))))))
    refine cg [sing br (.cells [vbr, .int .i64 (q84 : Int)].toArray 84 (0, 0)), sing b20 (.cells [v102, v134].toArray 26 (0, 0)), H99, H135, sing b1 (.cells [.slice none 0 0, .slice none 0 0].toArray 26 (0, 0))] rfl ?_
    refine ln (qx rfl (kt_end (by kernel_rfl) ?_))
    refine qc (cS (cr (kl_ldW rfl rfl (kl_stW (us := [v102, v134]) rfl rfl rfl rfl (oc (OwnL.oneCell ‹_›) (oc (OwnL.oneCell ‹_›) oc_nil)) rfl ?_))))
    refine cg [sing br (.cells [vbr, .int .i64 (q84 : Int)].toArray 84 (0, 0)), sing b20 (.cells [v102, v134].toArray 26 (0, 0)), H99, H135, sing b1 (.cells [v102, v134].toArray 26 (0, 0))] rfl ?_
    refine ln (qc (rt ?_))
    exact rC rfl rfl rfl [sing br (.cells [vbr, .int .i64 (q84 : Int)].toArray 84 (0, 0))] [H99, H135] (orHp K39 H121) (frc f101 (fr1 f138)) (fr_or f40 f122) ⟨q84, by omega, rfl, H99, H135, _, _, (⟨ds, (cs ++ [⟨(3 : Int), z124, [], (0 : Int), []⟩])⟩ : Mod), rfl, rfl, o100, o136, by (constructor <;> dsimp only <;> first | omega | assumption | exact all_mono ‹_› | (simp; done) | (simp only [List.length_append, List.length_cons, List.length_nil]; omega) | exact all_snoc (all_mono hi34.2.2.2) (by constructor <;> dsimp only <;> first | (simp; done) | omega | exact all_nil))⟩
  ·have c96r := c96
   try simp only [smpE] at c96
   refine sk (qc (cS (cr (kl_ldW rfl rfl (kl_stW (us := [v15, v38]) rfl rfl rfl rfl (oc (OwnL.oneCell ‹_›) (oc (OwnL.oneCell ‹_›) oc_nil)) rfl ?_)))))
   refine cg [sing br (.cells [vbr, .int .i64 (q84 : Int)].toArray 84 (0, 0)), sing b20 (.cells [v15, v38].toArray 26 (0, 0)), H12, H35, sing b1 (.cells [v15, v38].toArray 26 (0, 0))] rfl ?_
   refine ln (qc (rt ?_))
   exact rC rfl rfl rfl [sing br (.cells [vbr, .int .i64 (q84 : Int)].toArray 84 (0, 0))] [H12, H35] K39 (frc f18 (fr1 f37)) f40 ⟨q84, by omega, rfl, H12, H35, _, _, (⟨z10.doms, cs⟩ : Mod), rfl, rfl, o13, o36, by (constructor <;> dsimp only <;> first | omega | assumption | exact all_mono ‹_› | (simp; done) | (simp only [List.length_append, List.length_cons, List.length_nil]; omega) | exact all_snoc (all_mono hi34.2.2.2) (by constructor <;> dsimp only <;> first | (simp; done) | omega | exact all_nil))⟩
set_option maxHeartbeats 1000000 in
theorem tightModel_ok {br : Nat} {vbr : Value} {Hr : Hp} {bsr : List Int} (pr : Nat) (hp : pr + (700) ≤ 1000000) (hr : Bytes Hr vbr bsr) : SpecT Tryz.prog 66 [.pointer (some ⟨br, 0, none⟩)] [sing br (.cells [vbr, .int .i64 (pr : Int)].toArray 84 (0, 0))] [Hr] (fun vq L1 Ln Kq => ∃ q : Nat, q ≤ pr + (700) ∧ L1 = [sing br (.cells [vbr, .int .i64 (q : Int)].toArray 84 (0, 0))] ∧ ∃ (Hq Mq : Hp) (va vc : Value) (mq : Mod), vq = .agg #[va, vc] ∧ Ln = [Hq, Mq] ∧ OwnL 3 1 Hq noHp IntV va mq.doms ∧ OwnL 88 5 Mq Kq ConV vc mq.cons ∧ ModSm 100 mq) := by
 refine specT_of Tryz.func66 rfl rfl rfl (fun B => ?_)
 refine cS (cr (kl_alloc (cs := [.slice none 0 0, .slice none 0 0]) rfl (fun b1 hb2 => ?_)))
 refine ln (qc (cS (cr (kl_bd rfl cp_nil rfl ?_))))
 refine kl_alloc (cs := [.slice none 0 0, .slice none 0 0]) rfl (fun b3 hb4 => ?_)
 refine kl_stW (us := [.slice none 0 0, .slice none 0 0]) rfl rfl rfl rfl (oc rfl (oc rfl oc_nil)) rfl ?_
 refine cg [sing b3 (.cells [.slice none 0 0, .slice none 0 0].toArray 26 (0, 0)), sing b1 (.cells [.slice none 0 0, .slice none 0 0].toArray 26 (0, 0)), sing br (.cells [vbr, .int .i64 (pr : Int)].toArray 84 (0, 0))] rfl ?_
 refine ln (qc (cS (cr (mv rfl (cT rfl rfl (pick_ok pr (2 : Int) (by omega) hr) (fun v5 L1 Ln K9 h6 f7 f8 => ?_))))))
 obtain ⟨q10, h11, rfl, rfl, z12, rfl, h13⟩ := h6
 refine nm ?_
 refine ad9 rfl rfl (by omega) ?_
 refine sg rfl (ln (qc (cS (cS (cr (sg rfl (ln (qc (bl (kc_no ?_))))))))))
 refine kc_loopL (A := Nat × List Int × Value × Hp × Nat) (fun zz => (zz.1 ≤ 4) ∧ (zz.2.1.length = zz.1) ∧ OwnL 3 1 zz.2.2.2.1 noHp IntV zz.2.2.1 zz.2.1 ∧ Fr B zz.2.2.2.1 ∧ zz.2.2.2.2 ≤ q10 + 1 * zz.1) (fun zz => 4 - zz.1) (fun zz => [zz.2.2.2.1, sing br (.cells [vbr, .int .i64 (zz.2.2.2.2 : Int)].toArray 84 (0, 0)), sing b3 (.cells [zz.2.2.1, .slice none 0 0].toArray 26 (0, 0)), sing b1 (.cells [.slice none 0 0, .slice none 0 0].toArray 26 (0, 0))]) (fun zz => [(5, .int .i64 (zz.1 : Int))]) (0, [], .slice none 0 0, noHp, q10) (pk [0, 2, 3, 4] rfl) (pc 5 rfl pn) rfl ⟨Nat.zero_le _, rfl, OwnL.nil, (fr_no _), (by first | omega | (dsimp only; omega))⟩ ?_
 rintro ⟨i, ds, v21, H18, q23⟩ hJ25
 obtain ⟨hk16, hi17, o19, f20, hq24⟩ : (i ≤ 4) ∧ (ds.length = i) ∧ OwnL 3 1 H18 noHp IntV v21 ds ∧ Fr B H18 ∧ q23 ≤ q10 + 1 * i := hJ25
 change KC _ _ (_) [H18, sing br (.cells [vbr, .int .i64 (q23 : Int)].toArray 84 (0, 0)), sing b3 (.cells [v21, .slice none 0 0].toArray 26 (0, 0)), sing b1 (.cells [.slice none 0 0, .slice none 0 0].toArray 26 (0, 0))] _ ([(5, .int .i64 (i : Int))] ++ _)
 refine cS (cS (cr (mv rfl (mv rfl (ls9 rfl rfl ?_)))))
 refine ln (qc (ci9 rfl (fun c26 => ?_) (fun c26 => ?_)))
 ·refine sk (qc (cS (bl (kc_tree (fun i => ([7, 9] : List Nat).contains i) [sing b3 (.cells [v21, .slice none 0 0].toArray 26 (0, 0))] (by kernel_rfl) ?_))))
  refine kt_q 0 (.cons _ (.cons _ (.cons_cons _ nsl))) rfl (by kernel_rfl) (fV rfl (ln (qq (kt_q 1 (.cons _ (.cons _ (.cons_cons _ nsl))) rfl (by kernel_rfl) (ld rfl (at_box (T := 26) (cs := [v21, .slice none 0 0]) (off := 0) (fz := (0, 0))) (ln (qq (kt_q 2 (.cons _ (.cons _ (.cons_cons _ nsl))) rfl (by kernel_rfl) (mv rfl ?_)))))))))
  refine ln (qq (ta 3 rfl (cT rfl rfl (pick_ok q23 (3 : Int) (by omega) hr) (fun v27 L1 Ln K31 h28 f29 f30 => ?_))))
  obtain ⟨q32, h33, rfl, rfl, z34, rfl, h35⟩ := h28
  refine nm ?_
  refine ln (qa (.cons _ (.cons _ (.cons_cons _ nsl))) (kt_q 4 (.cons _ (.cons _ (.cons_cons _ nsl))) rfl (by kernel_rfl) (ad9 rfl rfl (by omega) ?_)))
  refine ln (qq (ta 5 rfl (kl_call rfl rfl (domainRange_ok (0 : Int) ((2 : Int) + z34)) (fun v38 H39 f40 h41 => ?_))))
  obtain ⟨z42, rfl, h43⟩ := h41
  refine ln (qa (.cons _ (.cons _ (.cons_cons _ nsl))) (ta 6 rfl (bs9 rfl rfl rfl (by decide) (ca rfl ca_nil) (fun v44 H45 f46 r47 s48 => ?_))))
  have h49 : Ints H45 v44 [z42] := litInts (xs := [z42]) (by simpa using s48)
  refine ln (qa (.cons _ (.cons _ (.cons_cons _ nsl))) (ta 7 rfl (aL9 z42 rfl rfl o19 ‹_› rfl (oc rfl oc_nil) (by omega) (by decide) (fun v50 H51 o52 f53 => ?_))))
  have f54 := f53 B f20 (Nat.le_refl _)
  refine ln (qx rfl (kt_q 8 (.cons _ (.cons _ (.cons_cons _ nsl))) rfl (by kernel_rfl) (fV rfl (ln (qq (ta 9 rfl (sB rfl rfl rfl (OwnL.oneCell ‹_›) (OwnL.cells ‹_›) ?_)))))))
  refine cg [sing br (.cells [vbr, .int .i64 (q32 : Int)].toArray 84 (0, 0)), H51, sing b3 (.cells [v50, .slice none 0 0].toArray 26 (0, 0)), sing b1 (.cells [.slice none 0 0, .slice none 0 0].toArray 26 (0, 0))] rfl ?_
  refine ln (qx rfl (kt_end (by kernel_rfl) ?_))
  refine qc (cr (mv rfl (ic9 rfl rfl (by omega) ?_)))
  refine sg rfl (ln (tk [H51, sing br (.cells [vbr, .int .i64 (q32 : Int)].toArray 84 (0, 0)), sing b3 (.cells [v50, .slice none 0 0].toArray 26 (0, 0)), sing b1 (.cells [.slice none 0 0, .slice none 0 0].toArray 26 (0, 0))] ?_))
  refine rL ((i + 1), (ds ++ [z42]), v50, H51, q32) (by omega) (⟨by omega, (by simp; omega), o52, f54, (by first | omega | (dsimp only; omega))⟩) (pc 5 rfl pn) (pk [0, 2, 3, 4] rfl) rfl slr9
 ·refine ex9 (qc (cS (cS (cr (mv rfl (cT rfl rfl (pick_ok q23 (4 : Int) (by omega) hr) (fun v55 L1 Ln K59 h56 f57 f58 => ?_)))))))
  obtain ⟨q60, h61, rfl, rfl, z62, rfl, h63⟩ := h56
  refine nm ?_
  refine ad9 rfl rfl (by omega) ?_
  refine sg rfl (ln (qc (bl (kc_no ?_))))
  refine kc_loopK (A := Int × List Con × Value × Hp × Hp × Nat) (fun zz => (0 ≤ zz.1 ∧ zz.1 ≤ 5 ∧ zz.2.1.length + zz.1.toNat ≤ 5 ∧ ∀ c ∈ zz.2.1, ConSm 50 c) ∧ Fr B zz.2.2.2.2.1 ∧ OwnL 88 5 zz.2.2.2.1 zz.2.2.2.2.1 ConV zz.2.2.1 zz.2.1 ∧ Fr B zz.2.2.2.1 ∧ zz.2.2.2.2.2 ≤ q60 + 104 * (5 - zz.1).toNat) (fun zz => zz.1.toNat) (fun zz => zz.2.2.2.2.1) (fun zz => [zz.2.2.2.1, sing br (.cells [vbr, .int .i64 (zz.2.2.2.2.2 : Int)].toArray 84 (0, 0)), H18, sing b3 (.cells [v21, zz.2.2.1].toArray 26 (0, 0)), sing b1 (.cells [.slice none 0 0, .slice none 0 0].toArray 26 (0, 0))]) (fun zz => [(6, .int .i64 zz.1)]) (((2 : Int) + z62), [], .slice none 0 0, noHp, noHp, q60) (pk [0, 2, 3, 4] rfl) (pc 6 rfl pn) rfl ⟨⟨by dsimp only; omega, by dsimp only; omega, by dsimp only; simp; omega, all_nil⟩, (fr_no _), OwnL.nil, (fr_no _), (by first | omega | (dsimp only; omega))⟩ ?_
  rintro ⟨k, cs, v71, H68, K72, q75⟩ hJ77
  obtain ⟨hi67, f73, o69, f70, hq76⟩ : (0 ≤ k ∧ k ≤ 5 ∧ cs.length + k.toNat ≤ 5 ∧ ∀ c ∈ cs, ConSm 50 c) ∧ Fr B K72 ∧ OwnL 88 5 H68 K72 ConV v71 cs ∧ Fr B H68 ∧ q75 ≤ q60 + 104 * (5 - k).toNat := hJ77
  change KC _ _ (K72 :: _) [H68, sing br (.cells [vbr, .int .i64 (q75 : Int)].toArray 84 (0, 0)), H18, sing b3 (.cells [v21, v71].toArray 26 (0, 0)), sing b1 (.cells [.slice none 0 0, .slice none 0 0].toArray 26 (0, 0))] _ ([(6, .int .i64 k)] ++ _)
  have hall := hi67.2.2.2
  refine cS (cS (cr (mv rfl (kl_gtr rfl rfl ?_))))
  refine ln (qc (ci9 rfl (fun c78 => ?_) (fun c78 => ?_)))
  ·refine sk (qc (cS (bl (cS (cr (mv rfl (mv rfl (cT rfl rfl (pick_ok q75 ((3 : Int) + z12) (by omega) hr) (fun v79 L1 Ln K83 h80 f81 f82 => ?_)))))))))
   obtain ⟨q84, h85, rfl, rfl, z86, rfl, h87⟩ := h80
   refine nm ?_
   refine sg rfl (ln (qc (cS (kc_treeJ (A := Nat × Nat × Hp × Value × (List Int) × Hp × Value × (List Int)) (fun i => ([15, 17] : List Nat).contains i) [] (by kernel_rfl) (fun zz => B.heap.size ≤ zz.1 ∧ zz.2.1 ≤ q84 + 2 ∧ Ints zz.2.2.1 zz.2.2.2.1 zz.2.2.2.2.1 ∧ Fr B zz.2.2.1 ∧ zz.2.2.2.2.1.length = 2 ∧ Ints zz.2.2.2.2.2.1 zz.2.2.2.2.2.2.1 zz.2.2.2.2.2.2.2 ∧ Fr B zz.2.2.2.2.2.1 ∧ zz.2.2.2.2.2.2.2.length = 1) (fun zz => [zz.2.2.1, zz.2.2.2.2.2.1]) (fun zz => [sing zz.1 (.cells [.int .i64 (2 : Int), zz.2.2.2.1, zz.2.2.2.2.2.2.1, .int .i64 (0 : Int), .slice none 0 0].toArray 88 (0, 0)), sing br (.cells [vbr, .int .i64 (zz.2.1 : Int)].toArray 84 (0, 0)), H68, H18, sing b3 (.cells [v21, v71].toArray 26 (0, 0)), sing b1 (.cells [.slice none 0 0, .slice none 0 0].toArray 26 (0, 0))]) (fun zz => [(0, .pointer (some ⟨br, 0, none⟩)), (2, .pointer (some ⟨b1, 0, none⟩)), (3, .pointer (some ⟨b3, 0, none⟩)), (4, .int .i64 ((3 : Int) + z12)), (6, .int .i64 k), (8, .pointer (some ⟨zz.1, 0, none⟩))]) ?_ ?_))))
   ·refine tq 0 nsl rfl (mv rfl (ln (qq (tq 1 nsl rfl (mv rfl (ln (qq (tq 2 nsl rfl (ad9 rfl rfl (by omega) ?_)))))))))
    refine ln (qq (tq 3 nsl rfl (mv rfl (ln (qq (tq 4 nsl rfl (mv rfl (ln (qq (tq 5 nsl rfl (sb9 rfl rfl (by omega) ?_)))))))))))
    refine ln (qq (tq 8 nsl rfl (mv rfl (ln (qq (tq 11 nsl rfl (mv rfl (ln (qq (kt_b 6 16 rfl rfl (by kernel_rfl) ?_ ?_))))))))))
    ·refine cT rfl rfl (pick_ok q84 (((3 : Int) + z12) - (1 : Int)) (by omega) hr) (fun v143 L1 Ln K147 h144 f145 f146 => ?_)
     obtain ⟨q148, h149, rfl, rfl, z150, rfl, h151⟩ := h144
     refine nm ?_
     refine ln (qa nsl (tq 7 nsl rfl (ad9 rfl rfl (by omega) ?_)))
     refine ln (qq (tq 9 nsl rfl ?_))
     have h154 := tmod_in (m := ((z86 + (1 : Int)) + z150)) (k := ((3 : Int) + z12)) (by omega) (by omega)
     refine kl_rem rfl rfl (by omega) ?_
     refine ln (qq (kt_c 10 12 16 rfl rfl rfl (by kernel_rfl) ?_ ?_ ?_))
     ·refine bs9 rfl rfl rfl (by decide) (ca rfl (ca rfl ca_nil)) (fun v155 H156 f157 r158 s159 => ?_)
      have h160 : Ints H156 v155 [z86, (Int.tmod ((z86 + (1 : Int)) + z150) ((3 : Int) + z12))] := litInts (xs := [z86, (Int.tmod ((z86 + (1 : Int)) + z150) ((3 : Int) + z12))]) (by simpa using s159)
      refine ln (qa nsl (kt_b 12 16 rfl rfl (by kernel_rfl) ?_ ?_))
      ·refine cT rfl rfl (pick_ok q148 (3 : Int) (by omega) hr) (fun v161 L1 Ln K165 h162 f163 f164 => ?_)
       obtain ⟨q166, h167, rfl, rfl, z168, rfl, h169⟩ := h162
       refine nm ?_
       refine ln (qa nsl (tq 13 nsl rfl (sb9 rfl rfl (by omega) ?_)))
       refine ln (qq (kt_b 14 16 rfl rfl (by kernel_rfl) ?_ ?_))
       ·refine bs9 rfl rfl rfl (by decide) (ca rfl ca_nil) (fun v172 H173 f174 r175 s176 => ?_)
        have h177 : Ints H173 v172 [(z168 - (1 : Int))] := litInts (xs := [(z168 - (1 : Int))]) (by simpa using s176)
        refine ln (qa nsl (kt_b 15 16 rfl rfl (by kernel_rfl) ?_ ?_))
        ·refine kl_bd rfl (cp rfl (cp (Sl.cells ‹_›) (cp (Sl.cells ‹_›) cp_nil))) rfl ?_
         refine ln (qx rfl (ta 16 rfl (kl_alloc (cs := [.int .i64 (0 : Int), .slice none 0 0, .slice none 0 0, .int .i64 (0 : Int), .slice none 0 0]) rfl (fun b178 hb179 => ?_))))
         refine ln (qa nsl (ta 17 rfl (kl_stW (us := [.int .i64 (2 : Int), v155, v172, .int .i64 (0 : Int), .slice none 0 0]) rfl rfl rfl rfl (oc rfl (oc (Sl.oneCell ‹_›) (oc (Sl.oneCell ‹_›) (oc rfl (oc rfl oc_nil))))) rfl ?_)))
         refine cg [sing b178 (.cells [.int .i64 (2 : Int), v155, v172, .int .i64 (0 : Int), .slice none 0 0].toArray 88 (0, 0)), sing br (.cells [vbr, .int .i64 (q166 : Int)].toArray 84 (0, 0)), H68, H18, sing b3 (.cells [v21, v71].toArray 26 (0, 0)), sing b1 (.cells [.slice none 0 0, .slice none 0 0].toArray 26 (0, 0))] rfl ?_
         refine ln (qx rfl (kt_end (by kernel_rfl) ?_))
         exact kq_rj (b178, q166, H156, v155, ([z86, (Int.tmod ((z86 + (1 : Int)) + z150) ((3 : Int) + z12))]), H173, v172, ([(z168 - (1 : Int))])) [H156, H173] [sing b178 (.cells [.int .i64 (2 : Int), v155, v172, .int .i64 (0 : Int), .slice none 0 0].toArray 88 (0, 0)), sing br (.cells [vbr, .int .i64 (q166 : Int)].toArray 84 (0, 0)), H68, H18, sing b3 (.cells [v21, v71].toArray 26 (0, 0)), sing b1 (.cells [.slice none 0 0, .slice none 0 0].toArray 26 (0, 0))] rfl rfl ⟨hb179, (by dsimp only; omega), ‹_›, f157, (by dsimp only; first | omega | (simp; done) | (simp; omega)), ‹_›, f174, (by dsimp only; first | omega | (simp; done) | (simp; omega))⟩ (pk [0, 2, 3, 4, 6, 8] rfl)
        ·refine kl_alloc (cs := [.int .i64 (0 : Int), .slice none 0 0, .slice none 0 0, .int .i64 (0 : Int), .slice none 0 0]) rfl (fun b180 hb181 => ?_)
         refine ln (qa nsl (ta 15 rfl (kl_bd rfl (cp rfl (cp (Sl.cells ‹_›) (cp (Sl.cells ‹_›) cp_nil))) rfl ?_)))
         refine ln (qx rfl (ta 17 rfl (kl_stW (us := [.int .i64 (2 : Int), v155, v172, .int .i64 (0 : Int), .slice none 0 0]) rfl rfl rfl rfl (oc rfl (oc (Sl.oneCell ‹_›) (oc (Sl.oneCell ‹_›) (oc rfl (oc rfl oc_nil))))) rfl ?_)))
         refine cg [sing b180 (.cells [.int .i64 (2 : Int), v155, v172, .int .i64 (0 : Int), .slice none 0 0].toArray 88 (0, 0)), sing br (.cells [vbr, .int .i64 (q166 : Int)].toArray 84 (0, 0)), H68, H18, sing b3 (.cells [v21, v71].toArray 26 (0, 0)), sing b1 (.cells [.slice none 0 0, .slice none 0 0].toArray 26 (0, 0))] rfl ?_
         refine ln (qx rfl (kt_end (by kernel_rfl) ?_))
         exact kq_rj (b180, q166, H156, v155, ([z86, (Int.tmod ((z86 + (1 : Int)) + z150) ((3 : Int) + z12))]), H173, v172, ([(z168 - (1 : Int))])) [H156, H173] [sing b180 (.cells [.int .i64 (2 : Int), v155, v172, .int .i64 (0 : Int), .slice none 0 0].toArray 88 (0, 0)), sing br (.cells [vbr, .int .i64 (q166 : Int)].toArray 84 (0, 0)), H68, H18, sing b3 (.cells [v21, v71].toArray 26 (0, 0)), sing b1 (.cells [.slice none 0 0, .slice none 0 0].toArray 26 (0, 0))] rfl rfl ⟨hb181, (by dsimp only; omega), ‹_›, f157, (by dsimp only; first | omega | (simp; done) | (simp; omega)), ‹_›, f174, (by dsimp only; first | omega | (simp; done) | (simp; omega))⟩ (pk [0, 2, 3, 4, 6, 8] rfl)
       ·refine kl_alloc (cs := [.int .i64 (0 : Int), .slice none 0 0, .slice none 0 0, .int .i64 (0 : Int), .slice none 0 0]) rfl (fun b182 hb183 => ?_)
        refine ln (qa nsl (ta 14 rfl (bs9 rfl rfl rfl (by decide) (ca rfl ca_nil) (fun v184 H185 f186 r187 s188 => ?_))))
        have h189 : Ints H185 v184 [(z168 - (1 : Int))] := litInts (xs := [(z168 - (1 : Int))]) (by simpa using s188)
        refine ln (qa nsl (ta 15 rfl (kl_bd rfl (cp rfl (cp (Sl.cells ‹_›) (cp (Sl.cells ‹_›) cp_nil))) rfl ?_)))
        refine ln (qx rfl (ta 17 rfl (kl_stW (us := [.int .i64 (2 : Int), v155, v184, .int .i64 (0 : Int), .slice none 0 0]) rfl rfl rfl rfl (oc rfl (oc (Sl.oneCell ‹_›) (oc (Sl.oneCell ‹_›) (oc rfl (oc rfl oc_nil))))) rfl ?_)))
        refine cg [sing b182 (.cells [.int .i64 (2 : Int), v155, v184, .int .i64 (0 : Int), .slice none 0 0].toArray 88 (0, 0)), sing br (.cells [vbr, .int .i64 (q166 : Int)].toArray 84 (0, 0)), H68, H18, sing b3 (.cells [v21, v71].toArray 26 (0, 0)), sing b1 (.cells [.slice none 0 0, .slice none 0 0].toArray 26 (0, 0))] rfl ?_
        refine ln (qx rfl (kt_end (by kernel_rfl) ?_))
        exact kq_rj (b182, q166, H156, v155, ([z86, (Int.tmod ((z86 + (1 : Int)) + z150) ((3 : Int) + z12))]), H185, v184, ([(z168 - (1 : Int))])) [H156, H185] [sing b182 (.cells [.int .i64 (2 : Int), v155, v184, .int .i64 (0 : Int), .slice none 0 0].toArray 88 (0, 0)), sing br (.cells [vbr, .int .i64 (q166 : Int)].toArray 84 (0, 0)), H68, H18, sing b3 (.cells [v21, v71].toArray 26 (0, 0)), sing b1 (.cells [.slice none 0 0, .slice none 0 0].toArray 26 (0, 0))] rfl rfl ⟨hb183, (by dsimp only; omega), ‹_›, f157, (by dsimp only; first | omega | (simp; done) | (simp; omega)), ‹_›, f186, (by dsimp only; first | omega | (simp; done) | (simp; omega))⟩ (pk [0, 2, 3, 4, 6, 8] rfl)
      ·refine kl_alloc (cs := [.int .i64 (0 : Int), .slice none 0 0, .slice none 0 0, .int .i64 (0 : Int), .slice none 0 0]) rfl (fun b190 hb191 => ?_)
       refine ln (qa nsl (ta 12 rfl (cT rfl rfl (pick_ok q148 (3 : Int) (by omega) hr) (fun v192 L1 Ln K196 h193 f194 f195 => ?_))))
       obtain ⟨q197, h198, rfl, rfl, z199, rfl, h200⟩ := h193
       refine nm ?_
       refine ln (qa nsl (tq 13 nsl rfl (sb9 rfl rfl (by omega) ?_)))
       refine ln (qq (ta 14 rfl (bs9 rfl rfl rfl (by decide) (ca rfl ca_nil) (fun v203 H204 f205 r206 s207 => ?_))))
       have h208 : Ints H204 v203 [(z199 - (1 : Int))] := litInts (xs := [(z199 - (1 : Int))]) (by simpa using s207)
       refine ln (qa nsl (ta 15 rfl (kl_bd rfl (cp rfl (cp (Sl.cells ‹_›) (cp (Sl.cells ‹_›) cp_nil))) rfl ?_)))
       refine ln (qx rfl (ta 17 rfl (kl_stW (us := [.int .i64 (2 : Int), v155, v203, .int .i64 (0 : Int), .slice none 0 0]) rfl rfl rfl rfl (oc rfl (oc (Sl.oneCell ‹_›) (oc (Sl.oneCell ‹_›) (oc rfl (oc rfl oc_nil))))) rfl ?_)))
       refine cg [sing br (.cells [vbr, .int .i64 (q197 : Int)].toArray 84 (0, 0)), sing b190 (.cells [.int .i64 (2 : Int), v155, v203, .int .i64 (0 : Int), .slice none 0 0].toArray 88 (0, 0)), H68, H18, sing b3 (.cells [v21, v71].toArray 26 (0, 0)), sing b1 (.cells [.slice none 0 0, .slice none 0 0].toArray 26 (0, 0))] rfl ?_
       refine ln (qx rfl (kt_end (by kernel_rfl) ?_))
       exact kq_rj (b190, q197, H156, v155, ([z86, (Int.tmod ((z86 + (1 : Int)) + z150) ((3 : Int) + z12))]), H204, v203, ([(z199 - (1 : Int))])) [H156, H204] [sing b190 (.cells [.int .i64 (2 : Int), v155, v203, .int .i64 (0 : Int), .slice none 0 0].toArray 88 (0, 0)), sing br (.cells [vbr, .int .i64 (q197 : Int)].toArray 84 (0, 0)), H68, H18, sing b3 (.cells [v21, v71].toArray 26 (0, 0)), sing b1 (.cells [.slice none 0 0, .slice none 0 0].toArray 26 (0, 0))] rfl rfl ⟨hb191, (by dsimp only; omega), ‹_›, f157, (by dsimp only; first | omega | (simp; done) | (simp; omega)), ‹_›, f205, (by dsimp only; first | omega | (simp; done) | (simp; omega))⟩ (pk [0, 2, 3, 4, 6, 8] rfl)
     ·refine cT rfl rfl (pick_ok q148 (3 : Int) (by omega) hr) (fun v209 L1 Ln K213 h210 f211 f212 => ?_)
      obtain ⟨q214, h215, rfl, rfl, z216, rfl, h217⟩ := h210
      refine nm ?_
      refine ln (qa nsl (tq 13 nsl rfl (sb9 rfl rfl (by omega) ?_)))
      refine ln (qq (kt_c 10 14 16 rfl rfl rfl (by kernel_rfl) ?_ ?_ ?_))
      ·refine bs9 rfl rfl rfl (by decide) (ca rfl (ca rfl ca_nil)) (fun v220 H221 f222 r223 s224 => ?_)
       have h225 : Ints H221 v220 [z86, (Int.tmod ((z86 + (1 : Int)) + z150) ((3 : Int) + z12))] := litInts (xs := [z86, (Int.tmod ((z86 + (1 : Int)) + z150) ((3 : Int) + z12))]) (by simpa using s224)
       refine ln (qa nsl (kt_b 14 16 rfl rfl (by kernel_rfl) ?_ ?_))
       ·refine bs9 rfl rfl rfl (by decide) (ca rfl ca_nil) (fun v226 H227 f228 r229 s230 => ?_)
        have h231 : Ints H227 v226 [(z216 - (1 : Int))] := litInts (xs := [(z216 - (1 : Int))]) (by simpa using s230)
        refine ln (qa nsl (kt_b 15 16 rfl rfl (by kernel_rfl) ?_ ?_))
        ·refine kl_bd rfl (cp rfl (cp (Sl.cells ‹_›) (cp (Sl.cells ‹_›) cp_nil))) rfl ?_
         refine ln (qx rfl (ta 16 rfl (kl_alloc (cs := [.int .i64 (0 : Int), .slice none 0 0, .slice none 0 0, .int .i64 (0 : Int), .slice none 0 0]) rfl (fun b232 hb233 => ?_))))
         refine ln (qa nsl (ta 17 rfl (kl_stW (us := [.int .i64 (2 : Int), v220, v226, .int .i64 (0 : Int), .slice none 0 0]) rfl rfl rfl rfl (oc rfl (oc (Sl.oneCell ‹_›) (oc (Sl.oneCell ‹_›) (oc rfl (oc rfl oc_nil))))) rfl ?_)))
         refine cg [sing b232 (.cells [.int .i64 (2 : Int), v220, v226, .int .i64 (0 : Int), .slice none 0 0].toArray 88 (0, 0)), sing br (.cells [vbr, .int .i64 (q214 : Int)].toArray 84 (0, 0)), H68, H18, sing b3 (.cells [v21, v71].toArray 26 (0, 0)), sing b1 (.cells [.slice none 0 0, .slice none 0 0].toArray 26 (0, 0))] rfl ?_
         refine ln (qx rfl (kt_end (by kernel_rfl) ?_))
         exact kq_rj (b232, q214, H221, v220, ([z86, (Int.tmod ((z86 + (1 : Int)) + z150) ((3 : Int) + z12))]), H227, v226, ([(z216 - (1 : Int))])) [H221, H227] [sing b232 (.cells [.int .i64 (2 : Int), v220, v226, .int .i64 (0 : Int), .slice none 0 0].toArray 88 (0, 0)), sing br (.cells [vbr, .int .i64 (q214 : Int)].toArray 84 (0, 0)), H68, H18, sing b3 (.cells [v21, v71].toArray 26 (0, 0)), sing b1 (.cells [.slice none 0 0, .slice none 0 0].toArray 26 (0, 0))] rfl rfl ⟨hb233, (by dsimp only; omega), ‹_›, f222, (by dsimp only; first | omega | (simp; done) | (simp; omega)), ‹_›, f228, (by dsimp only; first | omega | (simp; done) | (simp; omega))⟩ (pk [0, 2, 3, 4, 6, 8] rfl)
        ·refine kl_alloc (cs := [.int .i64 (0 : Int), .slice none 0 0, .slice none 0 0, .int .i64 (0 : Int), .slice none 0 0]) rfl (fun b234 hb235 => ?_)
         refine ln (qa nsl (ta 15 rfl (kl_bd rfl (cp rfl (cp (Sl.cells ‹_›) (cp (Sl.cells ‹_›) cp_nil))) rfl ?_)))
         refine ln (qx rfl (ta 17 rfl (kl_stW (us := [.int .i64 (2 : Int), v220, v226, .int .i64 (0 : Int), .slice none 0 0]) rfl rfl rfl rfl (oc rfl (oc (Sl.oneCell ‹_›) (oc (Sl.oneCell ‹_›) (oc rfl (oc rfl oc_nil))))) rfl ?_)))
         refine cg [sing b234 (.cells [.int .i64 (2 : Int), v220, v226, .int .i64 (0 : Int), .slice none 0 0].toArray 88 (0, 0)), sing br (.cells [vbr, .int .i64 (q214 : Int)].toArray 84 (0, 0)), H68, H18, sing b3 (.cells [v21, v71].toArray 26 (0, 0)), sing b1 (.cells [.slice none 0 0, .slice none 0 0].toArray 26 (0, 0))] rfl ?_
         refine ln (qx rfl (kt_end (by kernel_rfl) ?_))
         exact kq_rj (b234, q214, H221, v220, ([z86, (Int.tmod ((z86 + (1 : Int)) + z150) ((3 : Int) + z12))]), H227, v226, ([(z216 - (1 : Int))])) [H221, H227] [sing b234 (.cells [.int .i64 (2 : Int), v220, v226, .int .i64 (0 : Int), .slice none 0 0].toArray 88 (0, 0)), sing br (.cells [vbr, .int .i64 (q214 : Int)].toArray 84 (0, 0)), H68, H18, sing b3 (.cells [v21, v71].toArray 26 (0, 0)), sing b1 (.cells [.slice none 0 0, .slice none 0 0].toArray 26 (0, 0))] rfl rfl ⟨hb235, (by dsimp only; omega), ‹_›, f222, (by dsimp only; first | omega | (simp; done) | (simp; omega)), ‹_›, f228, (by dsimp only; first | omega | (simp; done) | (simp; omega))⟩ (pk [0, 2, 3, 4, 6, 8] rfl)
       ·refine kl_alloc (cs := [.int .i64 (0 : Int), .slice none 0 0, .slice none 0 0, .int .i64 (0 : Int), .slice none 0 0]) rfl (fun b236 hb237 => ?_)
        refine ln (qa nsl (ta 14 rfl (bs9 rfl rfl rfl (by decide) (ca rfl ca_nil) (fun v238 H239 f240 r241 s242 => ?_))))
        have h243 : Ints H239 v238 [(z216 - (1 : Int))] := litInts (xs := [(z216 - (1 : Int))]) (by simpa using s242)
        refine ln (qa nsl (ta 15 rfl (kl_bd rfl (cp rfl (cp (Sl.cells ‹_›) (cp (Sl.cells ‹_›) cp_nil))) rfl ?_)))
        refine ln (qx rfl (ta 17 rfl (kl_stW (us := [.int .i64 (2 : Int), v220, v238, .int .i64 (0 : Int), .slice none 0 0]) rfl rfl rfl rfl (oc rfl (oc (Sl.oneCell ‹_›) (oc (Sl.oneCell ‹_›) (oc rfl (oc rfl oc_nil))))) rfl ?_)))
        refine cg [sing b236 (.cells [.int .i64 (2 : Int), v220, v238, .int .i64 (0 : Int), .slice none 0 0].toArray 88 (0, 0)), sing br (.cells [vbr, .int .i64 (q214 : Int)].toArray 84 (0, 0)), H68, H18, sing b3 (.cells [v21, v71].toArray 26 (0, 0)), sing b1 (.cells [.slice none 0 0, .slice none 0 0].toArray 26 (0, 0))] rfl ?_
        refine ln (qx rfl (kt_end (by kernel_rfl) ?_))
        exact kq_rj (b236, q214, H221, v220, ([z86, (Int.tmod ((z86 + (1 : Int)) + z150) ((3 : Int) + z12))]), H239, v238, ([(z216 - (1 : Int))])) [H221, H239] [sing b236 (.cells [.int .i64 (2 : Int), v220, v238, .int .i64 (0 : Int), .slice none 0 0].toArray 88 (0, 0)), sing br (.cells [vbr, .int .i64 (q214 : Int)].toArray 84 (0, 0)), H68, H18, sing b3 (.cells [v21, v71].toArray 26 (0, 0)), sing b1 (.cells [.slice none 0 0, .slice none 0 0].toArray 26 (0, 0))] rfl rfl ⟨hb237, (by dsimp only; omega), ‹_›, f222, (by dsimp only; first | omega | (simp; done) | (simp; omega)), ‹_›, f240, (by dsimp only; first | omega | (simp; done) | (simp; omega))⟩ (pk [0, 2, 3, 4, 6, 8] rfl)
      ·refine bs9 rfl rfl rfl (by decide) (ca rfl ca_nil) (fun v244 H245 f246 r247 s248 => ?_)
       have h249 : Ints H245 v244 [(z216 - (1 : Int))] := litInts (xs := [(z216 - (1 : Int))]) (by simpa using s248)
       refine ln (qa nsl (kt_b 10 16 rfl rfl (by kernel_rfl) ?_ ?_))
       ·refine bs9 rfl rfl rfl (by decide) (ca rfl (ca rfl ca_nil)) (fun v250 H251 f252 r253 s254 => ?_)
        have h255 : Ints H251 v250 [z86, (Int.tmod ((z86 + (1 : Int)) + z150) ((3 : Int) + z12))] := litInts (xs := [z86, (Int.tmod ((z86 + (1 : Int)) + z150) ((3 : Int) + z12))]) (by simpa using s254)
        refine ln (qa nsl (kt_b 15 16 rfl rfl (by kernel_rfl) ?_ ?_))
        ·refine kl_bd rfl (cp rfl (cp (Sl.cells ‹_›) (cp (Sl.cells ‹_›) cp_nil))) rfl ?_
         refine ln (qx rfl (ta 16 rfl (kl_alloc (cs := [.int .i64 (0 : Int), .slice none 0 0, .slice none 0 0, .int .i64 (0 : Int), .slice none 0 0]) rfl (fun b256 hb257 => ?_))))
         refine ln (qa nsl (ta 17 rfl (kl_stW (us := [.int .i64 (2 : Int), v250, v244, .int .i64 (0 : Int), .slice none 0 0]) rfl rfl rfl rfl (oc rfl (oc (Sl.oneCell ‹_›) (oc (Sl.oneCell ‹_›) (oc rfl (oc rfl oc_nil))))) rfl ?_)))
         refine cg [sing b256 (.cells [.int .i64 (2 : Int), v250, v244, .int .i64 (0 : Int), .slice none 0 0].toArray 88 (0, 0)), sing br (.cells [vbr, .int .i64 (q214 : Int)].toArray 84 (0, 0)), H68, H18, sing b3 (.cells [v21, v71].toArray 26 (0, 0)), sing b1 (.cells [.slice none 0 0, .slice none 0 0].toArray 26 (0, 0))] rfl ?_
         refine ln (qx rfl (kt_end (by kernel_rfl) ?_))
         exact kq_rj (b256, q214, H251, v250, ([z86, (Int.tmod ((z86 + (1 : Int)) + z150) ((3 : Int) + z12))]), H245, v244, ([(z216 - (1 : Int))])) [H251, H245] [sing b256 (.cells [.int .i64 (2 : Int), v250, v244, .int .i64 (0 : Int), .slice none 0 0].toArray 88 (0, 0)), sing br (.cells [vbr, .int .i64 (q214 : Int)].toArray 84 (0, 0)), H68, H18, sing b3 (.cells [v21, v71].toArray 26 (0, 0)), sing b1 (.cells [.slice none 0 0, .slice none 0 0].toArray 26 (0, 0))] rfl rfl ⟨hb257, (by dsimp only; omega), ‹_›, f252, (by dsimp only; first | omega | (simp; done) | (simp; omega)), ‹_›, f246, (by dsimp only; first | omega | (simp; done) | (simp; omega))⟩ (pk [0, 2, 3, 4, 6, 8] rfl)
        ·refine kl_alloc (cs := [.int .i64 (0 : Int), .slice none 0 0, .slice none 0 0, .int .i64 (0 : Int), .slice none 0 0]) rfl (fun b258 hb259 => ?_)
         refine ln (qa nsl (ta 15 rfl (kl_bd rfl (cp rfl (cp (Sl.cells ‹_›) (cp (Sl.cells ‹_›) cp_nil))) rfl ?_)))
         refine ln (qx rfl (ta 17 rfl (kl_stW (us := [.int .i64 (2 : Int), v250, v244, .int .i64 (0 : Int), .slice none 0 0]) rfl rfl rfl rfl (oc rfl (oc (Sl.oneCell ‹_›) (oc (Sl.oneCell ‹_›) (oc rfl (oc rfl oc_nil))))) rfl ?_)))
         refine cg [sing b258 (.cells [.int .i64 (2 : Int), v250, v244, .int .i64 (0 : Int), .slice none 0 0].toArray 88 (0, 0)), sing br (.cells [vbr, .int .i64 (q214 : Int)].toArray 84 (0, 0)), H68, H18, sing b3 (.cells [v21, v71].toArray 26 (0, 0)), sing b1 (.cells [.slice none 0 0, .slice none 0 0].toArray 26 (0, 0))] rfl ?_
         refine ln (qx rfl (kt_end (by kernel_rfl) ?_))
         exact kq_rj (b258, q214, H251, v250, ([z86, (Int.tmod ((z86 + (1 : Int)) + z150) ((3 : Int) + z12))]), H245, v244, ([(z216 - (1 : Int))])) [H251, H245] [sing b258 (.cells [.int .i64 (2 : Int), v250, v244, .int .i64 (0 : Int), .slice none 0 0].toArray 88 (0, 0)), sing br (.cells [vbr, .int .i64 (q214 : Int)].toArray 84 (0, 0)), H68, H18, sing b3 (.cells [v21, v71].toArray 26 (0, 0)), sing b1 (.cells [.slice none 0 0, .slice none 0 0].toArray 26 (0, 0))] rfl rfl ⟨hb259, (by dsimp only; omega), ‹_›, f252, (by dsimp only; first | omega | (simp; done) | (simp; omega)), ‹_›, f246, (by dsimp only; first | omega | (simp; done) | (simp; omega))⟩ (pk [0, 2, 3, 4, 6, 8] rfl)
       ·refine kl_alloc (cs := [.int .i64 (0 : Int), .slice none 0 0, .slice none 0 0, .int .i64 (0 : Int), .slice none 0 0]) rfl (fun b260 hb261 => ?_)
        refine ln (qa nsl (ta 10 rfl (bs9 rfl rfl rfl (by decide) (ca rfl (ca rfl ca_nil)) (fun v262 H263 f264 r265 s266 => ?_))))
        have h267 : Ints H263 v262 [z86, (Int.tmod ((z86 + (1 : Int)) + z150) ((3 : Int) + z12))] := litInts (xs := [z86, (Int.tmod ((z86 + (1 : Int)) + z150) ((3 : Int) + z12))]) (by simpa using s266)
        refine ln (qa nsl (ta 15 rfl (kl_bd rfl (cp rfl (cp (Sl.cells ‹_›) (cp (Sl.cells ‹_›) cp_nil))) rfl ?_)))
        refine ln (qx rfl (ta 17 rfl (kl_stW (us := [.int .i64 (2 : Int), v262, v244, .int .i64 (0 : Int), .slice none 0 0]) rfl rfl rfl rfl (oc rfl (oc (Sl.oneCell ‹_›) (oc (Sl.oneCell ‹_›) (oc rfl (oc rfl oc_nil))))) rfl ?_)))
        refine cg [sing b260 (.cells [.int .i64 (2 : Int), v262, v244, .int .i64 (0 : Int), .slice none 0 0].toArray 88 (0, 0)), sing br (.cells [vbr, .int .i64 (q214 : Int)].toArray 84 (0, 0)), H68, H18, sing b3 (.cells [v21, v71].toArray 26 (0, 0)), sing b1 (.cells [.slice none 0 0, .slice none 0 0].toArray 26 (0, 0))] rfl ?_
        refine ln (qx rfl (kt_end (by kernel_rfl) ?_))
        exact kq_rj (b260, q214, H263, v262, ([z86, (Int.tmod ((z86 + (1 : Int)) + z150) ((3 : Int) + z12))]), H245, v244, ([(z216 - (1 : Int))])) [H263, H245] [sing b260 (.cells [.int .i64 (2 : Int), v262, v244, .int .i64 (0 : Int), .slice none 0 0].toArray 88 (0, 0)), sing br (.cells [vbr, .int .i64 (q214 : Int)].toArray 84 (0, 0)), H68, H18, sing b3 (.cells [v21, v71].toArray 26 (0, 0)), sing b1 (.cells [.slice none 0 0, .slice none 0 0].toArray 26 (0, 0))] rfl rfl ⟨hb261, (by dsimp only; omega), ‹_›, f264, (by dsimp only; first | omega | (simp; done) | (simp; omega)), ‹_›, f246, (by dsimp only; first | omega | (simp; done) | (simp; omega))⟩ (pk [0, 2, 3, 4, 6, 8] rfl)
      ·refine kl_alloc (cs := [.int .i64 (0 : Int), .slice none 0 0, .slice none 0 0, .int .i64 (0 : Int), .slice none 0 0]) rfl (fun b268 hb269 => ?_)
       refine ln (qa nsl (kt_b 10 14 rfl rfl (by kernel_rfl) ?_ ?_))
       ·refine bs9 rfl rfl rfl (by decide) (ca rfl (ca rfl ca_nil)) (fun v270 H271 f272 r273 s274 => ?_)
        have h275 : Ints H271 v270 [z86, (Int.tmod ((z86 + (1 : Int)) + z150) ((3 : Int) + z12))] := litInts (xs := [z86, (Int.tmod ((z86 + (1 : Int)) + z150) ((3 : Int) + z12))]) (by simpa using s274)
        refine ln (qa nsl (ta 14 rfl (bs9 rfl rfl rfl (by decide) (ca rfl ca_nil) (fun v276 H277 f278 r279 s280 => ?_))))
        have h281 : Ints H277 v276 [(z216 - (1 : Int))] := litInts (xs := [(z216 - (1 : Int))]) (by simpa using s280)
        refine ln (qa nsl (ta 15 rfl (kl_bd rfl (cp rfl (cp (Sl.cells ‹_›) (cp (Sl.cells ‹_›) cp_nil))) rfl ?_)))
        refine ln (qx rfl (ta 17 rfl (kl_stW (us := [.int .i64 (2 : Int), v270, v276, .int .i64 (0 : Int), .slice none 0 0]) rfl rfl rfl rfl (oc rfl (oc (Sl.oneCell ‹_›) (oc (Sl.oneCell ‹_›) (oc rfl (oc rfl oc_nil))))) rfl ?_)))
        refine cg [sing b268 (.cells [.int .i64 (2 : Int), v270, v276, .int .i64 (0 : Int), .slice none 0 0].toArray 88 (0, 0)), sing br (.cells [vbr, .int .i64 (q214 : Int)].toArray 84 (0, 0)), H68, H18, sing b3 (.cells [v21, v71].toArray 26 (0, 0)), sing b1 (.cells [.slice none 0 0, .slice none 0 0].toArray 26 (0, 0))] rfl ?_
        refine ln (qx rfl (kt_end (by kernel_rfl) ?_))
        exact kq_rj (b268, q214, H271, v270, ([z86, (Int.tmod ((z86 + (1 : Int)) + z150) ((3 : Int) + z12))]), H277, v276, ([(z216 - (1 : Int))])) [H271, H277] [sing b268 (.cells [.int .i64 (2 : Int), v270, v276, .int .i64 (0 : Int), .slice none 0 0].toArray 88 (0, 0)), sing br (.cells [vbr, .int .i64 (q214 : Int)].toArray 84 (0, 0)), H68, H18, sing b3 (.cells [v21, v71].toArray 26 (0, 0)), sing b1 (.cells [.slice none 0 0, .slice none 0 0].toArray 26 (0, 0))] rfl rfl ⟨hb269, (by dsimp only; omega), ‹_›, f272, (by dsimp only; first | omega | (simp; done) | (simp; omega)), ‹_›, f278, (by dsimp only; first | omega | (simp; done) | (simp; omega))⟩ (pk [0, 2, 3, 4, 6, 8] rfl)
       ·refine bs9 rfl rfl rfl (by decide) (ca rfl ca_nil) (fun v282 H283 f284 r285 s286 => ?_)
        have h287 : Ints H283 v282 [(z216 - (1 : Int))] := litInts (xs := [(z216 - (1 : Int))]) (by simpa using s286)
        refine ln (qa nsl (ta 10 rfl (bs9 rfl rfl rfl (by decide) (ca rfl (ca rfl ca_nil)) (fun v288 H289 f290 r291 s292 => ?_))))
        have h293 : Ints H289 v288 [z86, (Int.tmod ((z86 + (1 : Int)) + z150) ((3 : Int) + z12))] := litInts (xs := [z86, (Int.tmod ((z86 + (1 : Int)) + z150) ((3 : Int) + z12))]) (by simpa using s292)
        refine ln (qa nsl (ta 15 rfl (kl_bd rfl (cp rfl (cp (Sl.cells ‹_›) (cp (Sl.cells ‹_›) cp_nil))) rfl ?_)))
        refine ln (qx rfl (ta 17 rfl (kl_stW (us := [.int .i64 (2 : Int), v288, v282, .int .i64 (0 : Int), .slice none 0 0]) rfl rfl rfl rfl (oc rfl (oc (Sl.oneCell ‹_›) (oc (Sl.oneCell ‹_›) (oc rfl (oc rfl oc_nil))))) rfl ?_)))
        refine cg [sing b268 (.cells [.int .i64 (2 : Int), v288, v282, .int .i64 (0 : Int), .slice none 0 0].toArray 88 (0, 0)), sing br (.cells [vbr, .int .i64 (q214 : Int)].toArray 84 (0, 0)), H68, H18, sing b3 (.cells [v21, v71].toArray 26 (0, 0)), sing b1 (.cells [.slice none 0 0, .slice none 0 0].toArray 26 (0, 0))] rfl ?_
        refine ln (qx rfl (kt_end (by kernel_rfl) ?_))
        exact kq_rj (b268, q214, H289, v288, ([z86, (Int.tmod ((z86 + (1 : Int)) + z150) ((3 : Int) + z12))]), H283, v282, ([(z216 - (1 : Int))])) [H289, H283] [sing b268 (.cells [.int .i64 (2 : Int), v288, v282, .int .i64 (0 : Int), .slice none 0 0].toArray 88 (0, 0)), sing br (.cells [vbr, .int .i64 (q214 : Int)].toArray 84 (0, 0)), H68, H18, sing b3 (.cells [v21, v71].toArray 26 (0, 0)), sing b1 (.cells [.slice none 0 0, .slice none 0 0].toArray 26 (0, 0))] rfl rfl ⟨hb269, (by dsimp only; omega), ‹_›, f290, (by dsimp only; first | omega | (simp; done) | (simp; omega)), ‹_›, f284, (by dsimp only; first | omega | (simp; done) | (simp; omega))⟩ (pk [0, 2, 3, 4, 6, 8] rfl)
     ·refine kl_alloc (cs := [.int .i64 (0 : Int), .slice none 0 0, .slice none 0 0, .int .i64 (0 : Int), .slice none 0 0]) rfl (fun b294 hb295 => ?_)
      refine ln (qa nsl (kt_b 10 12 rfl rfl (by kernel_rfl) ?_ ?_))
      ·refine bs9 rfl rfl rfl (by decide) (ca rfl (ca rfl ca_nil)) (fun v296 H297 f298 r299 s300 => ?_)
       have h301 : Ints H297 v296 [z86, (Int.tmod ((z86 + (1 : Int)) + z150) ((3 : Int) + z12))] := litInts (xs := [z86, (Int.tmod ((z86 + (1 : Int)) + z150) ((3 : Int) + z12))]) (by simpa using s300)
       refine ln (qa nsl (ta 12 rfl (cT rfl rfl (pick_ok q148 (3 : Int) (by omega) hr) (fun v302 L1 Ln K306 h303 f304 f305 => ?_))))
       obtain ⟨q307, h308, rfl, rfl, z309, rfl, h310⟩ := h303
       refine nm ?_
       refine ln (qa nsl (tq 13 nsl rfl (sb9 rfl rfl (by omega) ?_)))
       refine ln (qq (ta 14 rfl (bs9 rfl rfl rfl (by decide) (ca rfl ca_nil) (fun v313 H314 f315 r316 s317 => ?_))))
       have h318 : Ints H314 v313 [(z309 - (1 : Int))] := litInts (xs := [(z309 - (1 : Int))]) (by simpa using s317)
       refine ln (qa nsl (ta 15 rfl (kl_bd rfl (cp rfl (cp (Sl.cells ‹_›) (cp (Sl.cells ‹_›) cp_nil))) rfl ?_)))
       refine ln (qx rfl (ta 17 rfl (kl_stW (us := [.int .i64 (2 : Int), v296, v313, .int .i64 (0 : Int), .slice none 0 0]) rfl rfl rfl rfl (oc rfl (oc (Sl.oneCell ‹_›) (oc (Sl.oneCell ‹_›) (oc rfl (oc rfl oc_nil))))) rfl ?_)))
       refine cg [sing br (.cells [vbr, .int .i64 (q307 : Int)].toArray 84 (0, 0)), sing b294 (.cells [.int .i64 (2 : Int), v296, v313, .int .i64 (0 : Int), .slice none 0 0].toArray 88 (0, 0)), H68, H18, sing b3 (.cells [v21, v71].toArray 26 (0, 0)), sing b1 (.cells [.slice none 0 0, .slice none 0 0].toArray 26 (0, 0))] rfl ?_
       refine ln (qx rfl (kt_end (by kernel_rfl) ?_))
       exact kq_rj (b294, q307, H297, v296, ([z86, (Int.tmod ((z86 + (1 : Int)) + z150) ((3 : Int) + z12))]), H314, v313, ([(z309 - (1 : Int))])) [H297, H314] [sing b294 (.cells [.int .i64 (2 : Int), v296, v313, .int .i64 (0 : Int), .slice none 0 0].toArray 88 (0, 0)), sing br (.cells [vbr, .int .i64 (q307 : Int)].toArray 84 (0, 0)), H68, H18, sing b3 (.cells [v21, v71].toArray 26 (0, 0)), sing b1 (.cells [.slice none 0 0, .slice none 0 0].toArray 26 (0, 0))] rfl rfl ⟨hb295, (by dsimp only; omega), ‹_›, f298, (by dsimp only; first | omega | (simp; done) | (simp; omega)), ‹_›, f315, (by dsimp only; first | omega | (simp; done) | (simp; omega))⟩ (pk [0, 2, 3, 4, 6, 8] rfl)
      ·refine cT rfl rfl (pick_ok q148 (3 : Int) (by omega) hr) (fun v319 L1 Ln K323 h320 f321 f322 => ?_)
       obtain ⟨q324, h325, rfl, rfl, z326, rfl, h327⟩ := h320
       refine nm ?_
       refine ln (qa nsl (tq 13 nsl rfl (sb9 rfl rfl (by omega) ?_)))
       refine ln (qq (kt_b 10 14 rfl rfl (by kernel_rfl) ?_ ?_))
       ·refine bs9 rfl rfl rfl (by decide) (ca rfl (ca rfl ca_nil)) (fun v330 H331 f332 r333 s334 => ?_)
        have h335 : Ints H331 v330 [z86, (Int.tmod ((z86 + (1 : Int)) + z150) ((3 : Int) + z12))] := litInts (xs := [z86, (Int.tmod ((z86 + (1 : Int)) + z150) ((3 : Int) + z12))]) (by simpa using s334)
        refine ln (qa nsl (ta 14 rfl (bs9 rfl rfl rfl (by decide) (ca rfl ca_nil) (fun v336 H337 f338 r339 s340 => ?_))))
        have h341 : Ints H337 v336 [(z326 - (1 : Int))] := litInts (xs := [(z326 - (1 : Int))]) (by simpa using s340)
        refine ln (qa nsl (ta 15 rfl (kl_bd rfl (cp rfl (cp (Sl.cells ‹_›) (cp (Sl.cells ‹_›) cp_nil))) rfl ?_)))
        refine ln (qx rfl (ta 17 rfl (kl_stW (us := [.int .i64 (2 : Int), v330, v336, .int .i64 (0 : Int), .slice none 0 0]) rfl rfl rfl rfl (oc rfl (oc (Sl.oneCell ‹_›) (oc (Sl.oneCell ‹_›) (oc rfl (oc rfl oc_nil))))) rfl ?_)))
        refine cg [sing br (.cells [vbr, .int .i64 (q324 : Int)].toArray 84 (0, 0)), sing b294 (.cells [.int .i64 (2 : Int), v330, v336, .int .i64 (0 : Int), .slice none 0 0].toArray 88 (0, 0)), H68, H18, sing b3 (.cells [v21, v71].toArray 26 (0, 0)), sing b1 (.cells [.slice none 0 0, .slice none 0 0].toArray 26 (0, 0))] rfl ?_
        refine ln (qx rfl (kt_end (by kernel_rfl) ?_))
        exact kq_rj (b294, q324, H331, v330, ([z86, (Int.tmod ((z86 + (1 : Int)) + z150) ((3 : Int) + z12))]), H337, v336, ([(z326 - (1 : Int))])) [H331, H337] [sing b294 (.cells [.int .i64 (2 : Int), v330, v336, .int .i64 (0 : Int), .slice none 0 0].toArray 88 (0, 0)), sing br (.cells [vbr, .int .i64 (q324 : Int)].toArray 84 (0, 0)), H68, H18, sing b3 (.cells [v21, v71].toArray 26 (0, 0)), sing b1 (.cells [.slice none 0 0, .slice none 0 0].toArray 26 (0, 0))] rfl rfl ⟨hb295, (by dsimp only; omega), ‹_›, f332, (by dsimp only; first | omega | (simp; done) | (simp; omega)), ‹_›, f338, (by dsimp only; first | omega | (simp; done) | (simp; omega))⟩ (pk [0, 2, 3, 4, 6, 8] rfl)
       ·refine bs9 rfl rfl rfl (by decide) (ca rfl ca_nil) (fun v342 H343 f344 r345 s346 => ?_)
        have h347 : Ints H343 v342 [(z326 - (1 : Int))] := litInts (xs := [(z326 - (1 : Int))]) (by simpa using s346)
        refine ln (qa nsl (ta 10 rfl (bs9 rfl rfl rfl (by decide) (ca rfl (ca rfl ca_nil)) (fun v348 H349 f350 r351 s352 => ?_))))
        have h353 : Ints H349 v348 [z86, (Int.tmod ((z86 + (1 : Int)) + z150) ((3 : Int) + z12))] := litInts (xs := [z86, (Int.tmod ((z86 + (1 : Int)) + z150) ((3 : Int) + z12))]) (by simpa using s352)
        refine ln (qa nsl (ta 15 rfl (kl_bd rfl (cp rfl (cp (Sl.cells ‹_›) (cp (Sl.cells ‹_›) cp_nil))) rfl ?_)))
        refine ln (qx rfl (ta 17 rfl (kl_stW (us := [.int .i64 (2 : Int), v348, v342, .int .i64 (0 : Int), .slice none 0 0]) rfl rfl rfl rfl (oc rfl (oc (Sl.oneCell ‹_›) (oc (Sl.oneCell ‹_›) (oc rfl (oc rfl oc_nil))))) rfl ?_)))
        refine cg [sing br (.cells [vbr, .int .i64 (q324 : Int)].toArray 84 (0, 0)), sing b294 (.cells [.int .i64 (2 : Int), v348, v342, .int .i64 (0 : Int), .slice none 0 0].toArray 88 (0, 0)), H68, H18, sing b3 (.cells [v21, v71].toArray 26 (0, 0)), sing b1 (.cells [.slice none 0 0, .slice none 0 0].toArray 26 (0, 0))] rfl ?_
        refine ln (qx rfl (kt_end (by kernel_rfl) ?_))
        exact kq_rj (b294, q324, H349, v348, ([z86, (Int.tmod ((z86 + (1 : Int)) + z150) ((3 : Int) + z12))]), H343, v342, ([(z326 - (1 : Int))])) [H349, H343] [sing b294 (.cells [.int .i64 (2 : Int), v348, v342, .int .i64 (0 : Int), .slice none 0 0].toArray 88 (0, 0)), sing br (.cells [vbr, .int .i64 (q324 : Int)].toArray 84 (0, 0)), H68, H18, sing b3 (.cells [v21, v71].toArray 26 (0, 0)), sing b1 (.cells [.slice none 0 0, .slice none 0 0].toArray 26 (0, 0))] rfl rfl ⟨hb295, (by dsimp only; omega), ‹_›, f350, (by dsimp only; first | omega | (simp; done) | (simp; omega)), ‹_›, f344, (by dsimp only; first | omega | (simp; done) | (simp; omega))⟩ (pk [0, 2, 3, 4, 6, 8] rfl)
    ·refine kl_alloc (cs := [.int .i64 (0 : Int), .slice none 0 0, .slice none 0 0, .int .i64 (0 : Int), .slice none 0 0]) rfl (fun b354 hb355 => ?_)
     refine ln (qa nsl (ta 6 rfl (cT rfl rfl (pick_ok q84 (((3 : Int) + z12) - (1 : Int)) (by omega) hr) (fun v356 L1 Ln K360 h357 f358 f359 => ?_))))
     obtain ⟨q361, h362, rfl, rfl, z363, rfl, h364⟩ := h357
     refine nm ?_
     refine ln (qa nsl (tq 7 nsl rfl (ad9 rfl rfl (by omega) ?_)))
     refine ln (qq (tq 9 nsl rfl ?_))
     have h367 := tmod_in (m := ((z86 + (1 : Int)) + z363)) (k := ((3 : Int) + z12)) (by omega) (by omega)
     refine kl_rem rfl rfl (by omega) ?_
     refine ln (qq (kt_b 10 12 rfl rfl (by kernel_rfl) ?_ ?_))
     ·refine bs9 rfl rfl rfl (by decide) (ca rfl (ca rfl ca_nil)) (fun v368 H369 f370 r371 s372 => ?_)
      have h373 : Ints H369 v368 [z86, (Int.tmod ((z86 + (1 : Int)) + z363) ((3 : Int) + z12))] := litInts (xs := [z86, (Int.tmod ((z86 + (1 : Int)) + z363) ((3 : Int) + z12))]) (by simpa using s372)
      refine ln (qa nsl (ta 12 rfl (cT rfl rfl (pick_ok q361 (3 : Int) (by omega) hr) (fun v374 L1 Ln K378 h375 f376 f377 => ?_))))
      obtain ⟨q379, h380, rfl, rfl, z381, rfl, h382⟩ := h375
      refine nm ?_
      refine ln (qa nsl (tq 13 nsl rfl (sb9 rfl rfl (by omega) ?_)))
      refine ln (qq (ta 14 rfl (bs9 rfl rfl rfl (by decide) (ca rfl ca_nil) (fun v385 H386 f387 r388 s389 => ?_))))
      have h390 : Ints H386 v385 [(z381 - (1 : Int))] := litInts (xs := [(z381 - (1 : Int))]) (by simpa using s389)
      refine ln (qa nsl (ta 15 rfl (kl_bd rfl (cp rfl (cp (Sl.cells ‹_›) (cp (Sl.cells ‹_›) cp_nil))) rfl ?_)))
      refine ln (qx rfl (ta 17 rfl (kl_stW (us := [.int .i64 (2 : Int), v368, v385, .int .i64 (0 : Int), .slice none 0 0]) rfl rfl rfl rfl (oc rfl (oc (Sl.oneCell ‹_›) (oc (Sl.oneCell ‹_›) (oc rfl (oc rfl oc_nil))))) rfl ?_)))
      refine cg [sing br (.cells [vbr, .int .i64 (q379 : Int)].toArray 84 (0, 0)), sing b354 (.cells [.int .i64 (2 : Int), v368, v385, .int .i64 (0 : Int), .slice none 0 0].toArray 88 (0, 0)), H68, H18, sing b3 (.cells [v21, v71].toArray 26 (0, 0)), sing b1 (.cells [.slice none 0 0, .slice none 0 0].toArray 26 (0, 0))] rfl ?_
      refine ln (qx rfl (kt_end (by kernel_rfl) ?_))
      exact kq_rj (b354, q379, H369, v368, ([z86, (Int.tmod ((z86 + (1 : Int)) + z363) ((3 : Int) + z12))]), H386, v385, ([(z381 - (1 : Int))])) [H369, H386] [sing b354 (.cells [.int .i64 (2 : Int), v368, v385, .int .i64 (0 : Int), .slice none 0 0].toArray 88 (0, 0)), sing br (.cells [vbr, .int .i64 (q379 : Int)].toArray 84 (0, 0)), H68, H18, sing b3 (.cells [v21, v71].toArray 26 (0, 0)), sing b1 (.cells [.slice none 0 0, .slice none 0 0].toArray 26 (0, 0))] rfl rfl ⟨hb355, (by dsimp only; omega), ‹_›, f370, (by dsimp only; first | omega | (simp; done) | (simp; omega)), ‹_›, f387, (by dsimp only; first | omega | (simp; done) | (simp; omega))⟩ (pk [0, 2, 3, 4, 6, 8] rfl)
     ·refine cT rfl rfl (pick_ok q361 (3 : Int) (by omega) hr) (fun v391 L1 Ln K395 h392 f393 f394 => ?_)
      obtain ⟨q396, h397, rfl, rfl, z398, rfl, h399⟩ := h392
      refine nm ?_
      refine ln (qa nsl (tq 13 nsl rfl (sb9 rfl rfl (by omega) ?_)))
      refine ln (qq (kt_b 10 14 rfl rfl (by kernel_rfl) ?_ ?_))
      ·refine bs9 rfl rfl rfl (by decide) (ca rfl (ca rfl ca_nil)) (fun v402 H403 f404 r405 s406 => ?_)
       have h407 : Ints H403 v402 [z86, (Int.tmod ((z86 + (1 : Int)) + z363) ((3 : Int) + z12))] := litInts (xs := [z86, (Int.tmod ((z86 + (1 : Int)) + z363) ((3 : Int) + z12))]) (by simpa using s406)
       refine ln (qa nsl (ta 14 rfl (bs9 rfl rfl rfl (by decide) (ca rfl ca_nil) (fun v408 H409 f410 r411 s412 => ?_))))
       have h413 : Ints H409 v408 [(z398 - (1 : Int))] := litInts (xs := [(z398 - (1 : Int))]) (by simpa using s412)
       refine ln (qa nsl (ta 15 rfl (kl_bd rfl (cp rfl (cp (Sl.cells ‹_›) (cp (Sl.cells ‹_›) cp_nil))) rfl ?_)))
       refine ln (qx rfl (ta 17 rfl (kl_stW (us := [.int .i64 (2 : Int), v402, v408, .int .i64 (0 : Int), .slice none 0 0]) rfl rfl rfl rfl (oc rfl (oc (Sl.oneCell ‹_›) (oc (Sl.oneCell ‹_›) (oc rfl (oc rfl oc_nil))))) rfl ?_)))
       refine cg [sing br (.cells [vbr, .int .i64 (q396 : Int)].toArray 84 (0, 0)), sing b354 (.cells [.int .i64 (2 : Int), v402, v408, .int .i64 (0 : Int), .slice none 0 0].toArray 88 (0, 0)), H68, H18, sing b3 (.cells [v21, v71].toArray 26 (0, 0)), sing b1 (.cells [.slice none 0 0, .slice none 0 0].toArray 26 (0, 0))] rfl ?_
       refine ln (qx rfl (kt_end (by kernel_rfl) ?_))
       exact kq_rj (b354, q396, H403, v402, ([z86, (Int.tmod ((z86 + (1 : Int)) + z363) ((3 : Int) + z12))]), H409, v408, ([(z398 - (1 : Int))])) [H403, H409] [sing b354 (.cells [.int .i64 (2 : Int), v402, v408, .int .i64 (0 : Int), .slice none 0 0].toArray 88 (0, 0)), sing br (.cells [vbr, .int .i64 (q396 : Int)].toArray 84 (0, 0)), H68, H18, sing b3 (.cells [v21, v71].toArray 26 (0, 0)), sing b1 (.cells [.slice none 0 0, .slice none 0 0].toArray 26 (0, 0))] rfl rfl ⟨hb355, (by dsimp only; omega), ‹_›, f404, (by dsimp only; first | omega | (simp; done) | (simp; omega)), ‹_›, f410, (by dsimp only; first | omega | (simp; done) | (simp; omega))⟩ (pk [0, 2, 3, 4, 6, 8] rfl)
      ·refine bs9 rfl rfl rfl (by decide) (ca rfl ca_nil) (fun v414 H415 f416 r417 s418 => ?_)
       have h419 : Ints H415 v414 [(z398 - (1 : Int))] := litInts (xs := [(z398 - (1 : Int))]) (by simpa using s418)
       refine ln (qa nsl (ta 10 rfl (bs9 rfl rfl rfl (by decide) (ca rfl (ca rfl ca_nil)) (fun v420 H421 f422 r423 s424 => ?_))))
       have h425 : Ints H421 v420 [z86, (Int.tmod ((z86 + (1 : Int)) + z363) ((3 : Int) + z12))] := litInts (xs := [z86, (Int.tmod ((z86 + (1 : Int)) + z363) ((3 : Int) + z12))]) (by simpa using s424)
       refine ln (qa nsl (ta 15 rfl (kl_bd rfl (cp rfl (cp (Sl.cells ‹_›) (cp (Sl.cells ‹_›) cp_nil))) rfl ?_)))
       refine ln (qx rfl (ta 17 rfl (kl_stW (us := [.int .i64 (2 : Int), v420, v414, .int .i64 (0 : Int), .slice none 0 0]) rfl rfl rfl rfl (oc rfl (oc (Sl.oneCell ‹_›) (oc (Sl.oneCell ‹_›) (oc rfl (oc rfl oc_nil))))) rfl ?_)))
       refine cg [sing br (.cells [vbr, .int .i64 (q396 : Int)].toArray 84 (0, 0)), sing b354 (.cells [.int .i64 (2 : Int), v420, v414, .int .i64 (0 : Int), .slice none 0 0].toArray 88 (0, 0)), H68, H18, sing b3 (.cells [v21, v71].toArray 26 (0, 0)), sing b1 (.cells [.slice none 0 0, .slice none 0 0].toArray 26 (0, 0))] rfl ?_
       refine ln (qx rfl (kt_end (by kernel_rfl) ?_))
       exact kq_rj (b354, q396, H421, v420, ([z86, (Int.tmod ((z86 + (1 : Int)) + z363) ((3 : Int) + z12))]), H415, v414, ([(z398 - (1 : Int))])) [H421, H415] [sing b354 (.cells [.int .i64 (2 : Int), v420, v414, .int .i64 (0 : Int), .slice none 0 0].toArray 88 (0, 0)), sing br (.cells [vbr, .int .i64 (q396 : Int)].toArray 84 (0, 0)), H68, H18, sing b3 (.cells [v21, v71].toArray 26 (0, 0)), sing b1 (.cells [.slice none 0 0, .slice none 0 0].toArray 26 (0, 0))] rfl rfl ⟨hb355, (by dsimp only; omega), ‹_›, f422, (by dsimp only; first | omega | (simp; done) | (simp; omega)), ‹_›, f416, (by dsimp only; first | omega | (simp; done) | (simp; omega))⟩ (pk [0, 2, 3, 4, 6, 8] rfl)
   ·rintro ⟨b127, q129, H131, v132, x133, H137, v138, x139⟩ hJ426
    obtain ⟨h128, h130, h134, h135, h136, h140, h141, h142⟩ : B.heap.size ≤ b127 ∧ q129 ≤ q84 + 2 ∧ Ints H131 v132 x133 ∧ Fr B H131 ∧ x133.length = 2 ∧ Ints H137 v138 x139 ∧ Fr B H137 ∧ x139.length = 1 := hJ426
    change KQ _ ([H131, H137] ++ _) [sing b127 (.cells [.int .i64 (2 : Int), v132, v138, .int .i64 (0 : Int), .slice none 0 0].toArray 88 (0, 0)), sing br (.cells [vbr, .int .i64 (q129 : Int)].toArray 84 (0, 0)), H68, H18, sing b3 (.cells [v21, v71].toArray 26 (0, 0)), sing b1 (.cells [.slice none 0 0, .slice none 0 0].toArray 26 (0, 0))] [(0, .pointer (some ⟨br, 0, none⟩)), (2, .pointer (some ⟨b1, 0, none⟩)), (3, .pointer (some ⟨b3, 0, none⟩)), (4, .int .i64 ((3 : Int) + z12)), (6, .int .i64 k), (8, .pointer (some ⟨b127, 0, none⟩))] _
    refine kq_normI ?_
    refine qc (cS (cS (cr (mv rfl (cT rfl rfl (pick_ok q129 (3 : Int) (by omega) hr) (fun v427 L1 Ln K431 h428 f429 f430 => ?_))))))
    obtain ⟨q432, h433, rfl, rfl, z434, rfl, h435⟩ := h428
    refine nm ?_
    refine eq9 rfl rfl ?_
    refine ln (qc (ci9 rfl (fun c438 => ?_) (fun c438 => ?_)))
    ·refine cr (mv rfl (mv rfl (cT rfl rfl (randomConstraint_ok q432 ((3 : Int) + z12) (by first | assumption | omega) (by omega) hr) (fun v439 L1 Ln K443 h440 f441 f442 => ?_))))
     obtain ⟨q444, h445, rfl, z446, rfl, h450, h447⟩ := h440
     obtain ⟨_, rfl, h454⟩ := h450
     have h454' := h454
     obtain ⟨u451, u452, u453, rfl, h455, h456, h457⟩ := h454
     refine nm ?_
     refine kl_stW (us := [.int .i64 z446.kind, u451, u452, .int .i64 z446.bound, u453]) rfl rfl rfl rfl (oc rfl (oc (Sl.oneCell ‹_›) (oc (Sl.oneCell ‹_›) (oc rfl (oc (Sl.oneCell ‹_›) oc_nil))))) rfl ?_
     refine cg [sing br (.cells [vbr, .int .i64 (q444 : Int)].toArray 84 (0, 0)), sing b127 (.cells [.int .i64 z446.kind, u451, u452, .int .i64 z446.bound, u453].toArray 88 (0, 0)), H68, H18, sing b3 (.cells [v21, v71].toArray 26 (0, 0)), sing b1 (.cells [.slice none 0 0, .slice none 0 0].toArray 26 (0, 0))] rfl ?_
     refine ln (qc (cr (fV rfl (lB rfl rfl (kl_ldW rfl rfl (kl_bsK rfl (fun v458 H459 f460 r461 => ?_)))))))
     refine cm9 K72 K443 (fun c462 => ?_)
     have o463 := OwnL.mono (K' := orHp K72 K443) o69 orL
     refine cm9 (orHp K72 K443) K443 (fun c464 => ?_)
     have o465 := OwnL.mono (K' := orHp (orHp K72 K443) K443) o463 orL
     refine cm9 (orHp (orHp K72 K443) K443) K443 (fun c466 => ?_)
     have o467 := OwnL.mono (K' := orHp (orHp (orHp K72 K443) K443) K443) o465 orL
     refine aL9 z446 rfl rfl o467 r461 ⟨_, _, _, rfl, (Sl.mono ‹_› (fun b o h => orL b o (orL b o (orC c462 b o h))) (fun _ _ h => h)), (Sl.mono ‹_› (fun b o h => orL b o (orC c464 b o h)) (fun _ _ h => h)), (Rows.mono' ‹_› (fun b o h => orC c466 b o h))⟩ (oc rfl (oc (Sl.oneCell ‹_›) (oc (Sl.oneCell ‹_›) (oc rfl (oc (Sl.oneCell ‹_›) oc_nil))))) (by omega) (by decide) (fun v468 H469 o470 f471 => ?_)
     have f472 := f471 B f70 (Nat.le_refl _)
     refine fV rfl (sB rfl rfl rfl (OwnL.oneCell ‹_›) (OwnL.cells ‹_›) ?_)
     refine cg [sing br (.cells [vbr, .int .i64 (q444 : Int)].toArray 84 (0, 0)), sing b127 (.cells [.int .i64 z446.kind, u451, u452, .int .i64 z446.bound, u453].toArray 88 (0, 0)), H469, H18, sing b3 (.cells [v21, v468].toArray 26 (0, 0)), sing b1 (.cells [.slice none 0 0, .slice none 0 0].toArray 26 (0, 0))] rfl ?_
     refine ln (qc (cr (mv rfl (sb9 rfl rfl (by omega) ?_))))
     refine sg rfl (ln (tk [H469, sing br (.cells [vbr, .int .i64 (q444 : Int)].toArray 84 (0, 0)), H18, sing b3 (.cells [v21, v468].toArray 26 (0, 0)), sing b1 (.cells [.slice none 0 0, .slice none 0 0].toArray 26 (0, 0))] ?_))
     refine kq_roundK ((k - (1 : Int)), (cs ++ [z446]), v468, H469, (orHp (orHp (orHp K72 K443) K443) K443), q444) (by (dsimp only; omega)) (⟨⟨by dsimp only; omega, by dsimp only; omega, by simp; omega, all_snoc hi67.2.2.2 (by first | assumption | exact (by constructor <;> dsimp only <;> first | (simp; done) | omega | exact all_nil))⟩, (fr_or (fr_or (fr_or f73 f442) f442) f442), o470, f472, (by first | omega | (dsimp only; omega))⟩) (pc 6 rfl pn) (pk [0, 2, 3, 4] rfl) rfl slr9
    ·refine sk (qc (cr (fV rfl (lB rfl rfl (kl_ldW rfl rfl (kl_bsK rfl (fun v473 H474 f475 r476 => ?_)))))))
     refine cm9 K72 H131 (fun c477 => ?_)
     have o478 := OwnL.mono (K' := orHp K72 H131) o69 orL
     refine cm9 (orHp K72 H131) H137 (fun c479 => ?_)
     have o480 := OwnL.mono (K' := orHp (orHp K72 H131) H137) o478 orL
     refine aL9 ⟨(2 : Int), x133, x139, (0 : Int), []⟩ rfl rfl o480 r476 ⟨_, _, _, rfl, (Sl.mono ‹_› (fun b o h => orL b o (orC c477 b o h)) (fun _ _ h => h)), (Sl.mono ‹_› (fun b o h => orC c479 b o h) (fun _ _ h => h)), Sl.nil⟩ (oc rfl (oc (Sl.oneCell ‹_›) (oc (Sl.oneCell ‹_›) (oc rfl (oc rfl oc_nil))))) (by omega) (by decide) (fun v481 H482 o483 f484 => ?_)
     have f485 := f484 B f70 (Nat.le_refl _)
     refine fV rfl (sB rfl rfl rfl (OwnL.oneCell ‹_›) (OwnL.cells ‹_›) ?_)
     refine cg [sing br (.cells [vbr, .int .i64 (q432 : Int)].toArray 84 (0, 0)), sing b127 (.cells [.int .i64 (2 : Int), v132, v138, .int .i64 (0 : Int), .slice none 0 0].toArray 88 (0, 0)), H482, H18, sing b3 (.cells [v21, v481].toArray 26 (0, 0)), sing b1 (.cells [.slice none 0 0, .slice none 0 0].toArray 26 (0, 0))] rfl ?_
     refine ln (qc (cr (mv rfl (sb9 rfl rfl (by omega) ?_))))
     refine sg rfl (ln (tk [H482, sing br (.cells [vbr, .int .i64 (q432 : Int)].toArray 84 (0, 0)), H18, sing b3 (.cells [v21, v481].toArray 26 (0, 0)), sing b1 (.cells [.slice none 0 0, .slice none 0 0].toArray 26 (0, 0))] ?_))
     refine kq_roundK ((k - (1 : Int)), (cs ++ [⟨(2 : Int), x133, x139, (0 : Int), []⟩]), v481, H482, (orHp (orHp K72 H131) H137), q432) (by (dsimp only; omega)) (⟨⟨by dsimp only; omega, by dsimp only; omega, by simp; omega, all_snoc hi67.2.2.2 (by first | assumption | exact (by constructor <;> dsimp only <;> first | (simp; done) | omega | exact all_nil))⟩, (fr_or (fr_or f73 h135) h141), o483, f485, (by first | omega | (dsimp only; omega))⟩) (pc 6 rfl pn) (pk [0, 2, 3, 4] rfl) rfl slr9
  ·refine ex9 (qc (cS (cr (kl_ldW rfl rfl (kl_stW (us := [v21, v71]) rfl rfl rfl rfl (oc (OwnL.oneCell ‹_›) (oc (OwnL.oneCell ‹_›) oc_nil)) rfl ?_)))))
   refine cg [H68, sing br (.cells [vbr, .int .i64 (q75 : Int)].toArray 84 (0, 0)), H18, sing b3 (.cells [v21, v71].toArray 26 (0, 0)), sing b1 (.cells [v21, v71].toArray 26 (0, 0))] rfl ?_
   refine ln (qc (rt ?_))
   exact rC rfl rfl rfl [sing br (.cells [vbr, .int .i64 (q75 : Int)].toArray 84 (0, 0))] [H18, H68] K72 (frc f20 (fr1 f70)) f73 ⟨q75, by omega, rfl, H18, H68, _, _, (⟨ds, cs⟩ : Mod), rfl, rfl, o19, o69, by (constructor <;> dsimp only <;> first | omega | assumption | exact all_mono ‹_› | (simp; done) | (simp only [List.length_append, List.length_cons, List.length_nil]; omega) | exact all_snoc (all_mono hi17.2.2.2) (by constructor <;> dsimp only <;> first | (simp; done) | omega | exact all_nil))⟩
theorem searchModel_ok {br : Nat} {vbr : Value} {Hr : Hp} {bsr : List Int} (pr : Nat) (hp : pr + (900) ≤ 1000000) (hr : Bytes Hr vbr bsr) : SpecT Tryz.prog 29 [.pointer (some ⟨br, 0, none⟩)] [sing br (.cells [vbr, .int .i64 (pr : Int)].toArray 84 (0, 0))] [Hr] (fun vq L1 Ln Kq => ∃ q : Nat, q ≤ pr + (900) ∧ L1 = [sing br (.cells [vbr, .int .i64 (q : Int)].toArray 84 (0, 0))] ∧ ∃ (Hq Mq : Hp) (va vc : Value) (mq : Mod), vq = .agg #[va, vc] ∧ Ln = [Hq, Mq] ∧ OwnL 3 1 Hq noHp IntV va mq.doms ∧ OwnL 88 5 Mq Kq ConV vc mq.cons ∧ ModSm 100 mq) := by
 refine specT_of Tryz.func29 rfl rfl rfl (fun B => ?_)
 refine cS (cr (kl_alloc (cs := [.slice none 0 0, .slice none 0 0]) rfl (fun b1 hb2 => ?_)))
 refine ln (qc (cS (cS (cr (mv rfl (cT rfl rfl (pick_ok pr (5 : Int) (by omega) hr) (fun v3 L1 Ln K7 h4 f5 f6 => ?_)))))))
 obtain ⟨q8, h9, rfl, rfl, z10, rfl, h11⟩ := h4
 refine nm ?_
 refine ln (qc (bl (cS (cr (eq9 rfl rfl ?_)))))
 refine sg rfl (ln (qc (ci9 rfl (fun c14 => ?_) (fun c14 => ?_))))
 ·refine cS (cr (mv rfl (cT rfl rfl (anyModel_ok q8 (by omega) hr) (fun v15 L1 Ln K19 h16 f17 f18 => ?_))))
  obtain ⟨q20, h21, rfl, H24, M26, v27, v28, z22, rfl, rfl, o25, o29, h23⟩ := h16
  have f30 := f17 _ (.head _)
  have f31 := f17 _ (.tail _ (.head _))
  refine nm ?_
  refine kl_stW (us := [v27, v28]) rfl rfl rfl rfl (oc (OwnL.oneCell ‹_›) (oc (OwnL.oneCell ‹_›) oc_nil)) rfl ?_
  refine cg [sing br (.cells [vbr, .int .i64 (q20 : Int)].toArray 84 (0, 0)), H24, M26, sing b1 (.cells [v27, v28].toArray 26 (0, 0))] rfl ?_
  refine ln (qc (rt ?_))
  exact rC rfl rfl rfl [sing br (.cells [vbr, .int .i64 (q20 : Int)].toArray 84 (0, 0))] [H24, M26] K19 (frc f30 (fr1 f31)) f18 ⟨q20, by omega, rfl, H24, M26, _, _, (⟨z22.doms, z22.cons⟩ : Mod), rfl, rfl, o25, o29, by first | assumption | trivial⟩
 ·refine cS (cr (eq9 rfl rfl ?_))
  refine sg rfl (ln (qc (ci9 rfl (fun c32 => ?_) (fun c32 => ?_))))
  ·refine cS (cr (mv rfl (cT rfl rfl (hardModel_ok q8 (by omega) hr) (fun v33 L1 Ln K37 h34 f35 f36 => ?_))))
   obtain ⟨q38, h39, rfl, H42, M44, v45, v46, z40, rfl, rfl, o43, o47, h41⟩ := h34
   have f48 := f35 _ (.head _)
   have f49 := f35 _ (.tail _ (.head _))
   refine nm ?_
   refine kl_stW (us := [v45, v46]) rfl rfl rfl rfl (oc (OwnL.oneCell ‹_›) (oc (OwnL.oneCell ‹_›) oc_nil)) rfl ?_
   refine cg [sing br (.cells [vbr, .int .i64 (q38 : Int)].toArray 84 (0, 0)), H42, M44, sing b1 (.cells [v45, v46].toArray 26 (0, 0))] rfl ?_
   refine ln (qc (rt ?_))
   exact rC rfl rfl rfl [sing br (.cells [vbr, .int .i64 (q38 : Int)].toArray 84 (0, 0))] [H42, M44] K37 (frc f48 (fr1 f49)) f36 ⟨q38, by omega, rfl, H42, M44, _, _, (⟨z40.doms, z40.cons⟩ : Mod), rfl, rfl, o43, o47, by first | assumption | trivial⟩
  ·refine sk (qc (cS (cr (mv rfl (cT rfl rfl (tightModel_ok q8 (by omega) hr) (fun v50 L1 Ln K54 h51 f52 f53 => ?_))))))
   obtain ⟨q55, h56, rfl, H59, M61, v62, v63, z57, rfl, rfl, o60, o64, h58⟩ := h51
   have f65 := f52 _ (.head _)
   have f66 := f52 _ (.tail _ (.head _))
   refine nm ?_
   refine kl_stW (us := [v62, v63]) rfl rfl rfl rfl (oc (OwnL.oneCell ‹_›) (oc (OwnL.oneCell ‹_›) oc_nil)) rfl ?_
   refine cg [sing br (.cells [vbr, .int .i64 (q55 : Int)].toArray 84 (0, 0)), H59, M61, sing b1 (.cells [v62, v63].toArray 26 (0, 0))] rfl ?_
   refine ln (qc (rt ?_))
   exact rC rfl rfl rfl [sing br (.cells [vbr, .int .i64 (q55 : Int)].toArray 84 (0, 0))] [H59, M61] K54 (frc f65 (fr1 f66)) f53 ⟨q55, by omega, rfl, H59, M61, _, _, (⟨z57.doms, z57.cons⟩ : Mod), rfl, rfl, o60, o64, by first | assumption | trivial⟩
end
section
theorem objective_ok {br : Nat} {vbr : Value} {Hr : Hp} {bsr : List Int} (pr : Nat) (n : Int) (hn : 0 ≤ n ∧ n ≤ 4) (hp : pr + (6) ≤ 1000000) (hr : Bytes Hr vbr bsr) : SpecT Tryz.prog 30 [.pointer (some ⟨br, 0, none⟩), .int .i64 n] [sing br (.cells [vbr, .int .i64 (pr : Int)].toArray 84 (0, 0))] [Hr] (fun vq L1 Ln Kq => ∃ q : Nat, q ≤ pr + (6) ∧ L1 = [sing br (.cells [vbr, .int .i64 (q : Int)].toArray 84 (0, 0))] ∧ ∃ (Hq : Hp) (xq : List Int), Ln = [Hq] ∧ OwnL 3 1 Hq noHp IntV vq xq ∧ ((xq.length : Int) = n → Coef xq) ∧ xq.length ≤ 5) := by
 refine specT_of Tryz.func30 rfl rfl rfl (fun B => ?_)
 refine cS (cr (sg rfl (ln (qc (cS (cr (kl_bsI [] rfl rfl rfl (by decide) (fun v1 H2 f3 o4 => ?_))))))))
 refine sg rfl (ln (qc (cS (cS (cr (sg rfl (ln (qc (bl (kc_loopL (A := Nat × List Int × Value × Hp × Nat) (fun zz => (zz.1 ≤ n.toNat) ∧ (zz.2.1.length = zz.1 ∧ Coef zz.2.1) ∧ OwnL 3 1 zz.2.2.2.1 noHp IntV zz.2.2.1 zz.2.1 ∧ Fr B zz.2.2.2.1 ∧ zz.2.2.2.2 ≤ pr + zz.1) (fun zz => n.toNat - zz.1) (fun zz => [zz.2.2.2.1, sing br (.cells [vbr, .int .i64 (zz.2.2.2.2 : Int)].toArray 84 (0, 0))]) (fun zz => [(6, .int .i64 (zz.1 : Int)), (5, zz.2.2.1)]) (0, ([]), v1, H2, pr) (pk [0, 1, 4] rfl) (pk [6, 5] rfl) rfl ⟨Nat.zero_le _, ⟨rfl, all_nil⟩, o4, f3, (by first | omega | (dsimp only; omega))⟩ ?_))))))))))
 rintro ⟨i, out, v10, H7, q11⟩ hJ13
 obtain ⟨hk5, hi6, o8, f9, hq12⟩ : (i ≤ n.toNat) ∧ (out.length = i ∧ Coef out) ∧ OwnL 3 1 H7 noHp IntV v10 out ∧ Fr B H7 ∧ q11 ≤ pr + i := hJ13
 change KC _ _ (_) [H7, sing br (.cells [vbr, .int .i64 (q11 : Int)].toArray 84 (0, 0))] _ ([(6, .int .i64 (i : Int)), (5, v10)] ++ _)
 refine cS (cS (cr (mv rfl (mv rfl (ls9 rfl rfl ?_)))))
 refine ln (qc (ci9 rfl (fun c14 => ?_) (fun c14 => ?_)))
 ·refine sk (qc (cS (bl (cr (mv rfl (mv rfl (bs9 rfl rfl rfl (by decide) (ca rfl (ca rfl (ca rfl (ca rfl (ca rfl (ca rfl ca_nil)))))) (fun v15 H16 f17 r18 s19 => ?_))))))))
  have h20 : Ints H16 v15 [(1 : Int), (0 : Int), (-1 : Int), (2 : Int), (-9 : Int), (9 : Int)] := litInts (xs := [(1 : Int), (0 : Int), (-1 : Int), (2 : Int), (-9 : Int), (9 : Int)]) (by simpa using s19)
  refine cT rfl rfl (one_ok q11 ([(1 : Int), (0 : Int), (-1 : Int), (2 : Int), (-9 : Int), (9 : Int)]) (by simp) (by omega) hr ‹_›) (fun v21 L1 Ln K25 h22 f23 f24 => ?_)
  obtain ⟨q26, h27, rfl, rfl, z28, rfl, h29⟩ := h22
  have ho9 := obj_one h29
  refine nm ?_
  refine bs9 rfl rfl rfl (by decide) (ca rfl ca_nil) (fun v32 H33 f34 r35 s36 => ?_)
  have h37 : Ints H33 v32 [z28] := litInts (xs := [z28]) (by simpa using s36)
  refine aL9 z28 rfl rfl o8 ‹_› rfl (oc rfl oc_nil) (by omega) (by decide) (fun v38 H39 o40 f41 => ?_)
  have f42 := f41 B f9 (Nat.le_refl _)
  refine sg rfl (ln (qc (cr (mv rfl (ic9 rfl rfl (by omega) ?_)))))
  refine sg rfl (ln (tk [H39, sing br (.cells [vbr, .int .i64 (q26 : Int)].toArray 84 (0, 0))] ?_))
  refine rL ((i + 1), (out ++ [z28]), v38, H39, q26) (by omega) (⟨by omega, ⟨by simp; omega, all_snoc hi6.2 ho9⟩, o40, f42, (by first | omega | (dsimp only; omega))⟩) (pk [6, 5] rfl) (pk [0, 1, 4] rfl) rfl slr9
 ·refine ex9 (qc (cS (cS (cr (mv rfl (cT rfl rfl (pick_ok q11 (14 : Int) (by omega) hr) (fun v43 L1 Ln K47 h44 f45 f46 => ?_)))))))
  obtain ⟨q48, h49, rfl, rfl, z50, rfl, h51⟩ := h44
  refine nm ?_
  refine eq9 rfl rfl ?_
  refine ln (qc (ci9 rfl (fun c54 => ?_) (fun c54 => ?_)))
  ·refine cS (cr (mv rfl (bs9 rfl rfl rfl (by decide) (ca rfl ca_nil) (fun v55 H56 f57 r58 s59 => ?_))))
   have h60 : Ints H56 v55 [(10 : Int)] := litInts (xs := [(10 : Int)]) (by simpa using s59)
   refine aL9 (10 : Int) rfl rfl o8 ‹_› rfl (oc rfl oc_nil) (by omega) (by decide) (fun v61 H62 o63 f64 => ?_)
   have f65 := f64 B f9 (Nat.le_refl _)
   refine sg rfl (ln (qc (rt ?_)))
   exact kq_retT rfl rfl [sing br (.cells [vbr, .int .i64 (q48 : Int)].toArray 84 (0, 0))] [H62] noHp (fr1 f65) (fr_no _) ⟨q48, by omega, rfl, H62, (out ++ [(10 : Int)]), rfl, o63, by first | exact ⟨fun _ => hi6.2, by omega⟩ | exact ⟨fun h => by have h8 := hi6.1; simp at h; omega, by simp; omega⟩⟩
  ·refine sk (qc (cS (cr (mv rfl (sg rfl (ln (qc (rt ?_))))))))
   exact kq_retT rfl rfl [sing br (.cells [vbr, .int .i64 (q48 : Int)].toArray 84 (0, 0))] [H7] noHp (fr1 f9) (fr_no _) ⟨q48, by omega, rfl, H7, out, rfl, o8, by first | exact ⟨fun _ => hi6.2, by omega⟩ | exact ⟨fun h => by have h8 := hi6.1; simp at h; omega, by simp; omega⟩⟩
end
section
theorem randomClause_ok {br : Nat} {vbr : Value} {Hr : Hp} {bsr : List Int} (pr : Nat) (n : Int) (hp : pr + (60) ≤ 1000000) (hr : Bytes Hr vbr bsr) : SpecT Tryz.prog 83 [.pointer (some ⟨br, 0, none⟩), .int .i64 n] [sing br (.cells [vbr, .int .i64 (pr : Int)].toArray 84 (0, 0))] [Hr] (fun vq L1 Ln Kq => ∃ q : Nat, q ≤ pr + (60) ∧ L1 = [sing br (.cells [vbr, .int .i64 (q : Int)].toArray 84 (0, 0))] ∧ ∃ (Hq : Hp) (xq : List Lit), Ln = [Hq] ∧ OwnL 100 3 Hq noHp LitV vq xq ∧ xq.length ≤ 4) := by
 refine specT_of Tryz.func83 rfl rfl rfl (fun B => ?_)
 refine cS (cr (sg rfl (ln (qc (cS (cr (kl_bs0k (K := noHp) LitV rfl (fun v1 H2 f3 o4 => ?_))))))))
 refine sg rfl (ln (qc (cS (cS (cr (mv rfl (cT rfl rfl (pick_ok pr (4 : Int) (by omega) hr) (fun v5 L1 Ln K9 h6 f7 f8 => ?_))))))))
 obtain ⟨q10, h11, rfl, rfl, z12, rfl, h13⟩ := h6
 refine nm ?_
 refine sg rfl (ln (qc (bl (kc_loopL (A := Int × List Lit × Value × Hp × Nat) (fun zz => (0 ≤ zz.1 ∧ zz.1 ≤ 4 ∧ zz.2.1.length + zz.1.toNat ≤ 4) ∧ OwnL 100 3 zz.2.2.2.1 noHp LitV zz.2.2.1 zz.2.1 ∧ Fr B zz.2.2.2.1 ∧ zz.2.2.2.2 ≤ q10 + 10 * (4 - zz.1).toNat) (fun zz => zz.1.toNat) (fun zz => [sing br (.cells [vbr, .int .i64 (zz.2.2.2.2 : Int)].toArray 84 (0, 0)), zz.2.2.2.1]) (fun zz => [(6, .int .i64 zz.1), (5, zz.2.2.1)]) (z12, ([]), v1, H2, q10) (pk [0, 1, 4] rfl) (pk [6, 5] rfl) rfl ⟨⟨by dsimp only; omega, by dsimp only; omega, by simp; omega⟩, o4, f3, (by first | omega | (dsimp only; omega))⟩ ?_))))
 rintro ⟨k, out, v21, H18, q22⟩ hJ24
 obtain ⟨hi17, o19, f20, hq23⟩ : (0 ≤ k ∧ k ≤ 4 ∧ out.length + k.toNat ≤ 4) ∧ OwnL 100 3 H18 noHp LitV v21 out ∧ Fr B H18 ∧ q22 ≤ q10 + 10 * (4 - k).toNat := hJ24
 change KC _ _ (_) [sing br (.cells [vbr, .int .i64 (q22 : Int)].toArray 84 (0, 0)), H18] _ ([(6, .int .i64 k), (5, v21)] ++ _)
 refine cS (cS (cr (mv rfl (kl_gtr rfl rfl ?_))))
 refine ln (qc (ci9 rfl (fun c25 => ?_) (fun c25 => ?_)))
 ·refine sk (qc (cS (bl (cr (mv rfl (mv rfl (mv rfl (cT rfl rfl (pick_ok q22 n (by omega) hr) (fun v26 L1 Ln K30 h27 f28 f29 => ?_)))))))))
  obtain ⟨q31, h32, rfl, rfl, z33, rfl, h34⟩ := h27
  refine nm ?_
  refine mv rfl (cT rfl rfl (pick_ok q31 (4 : Int) (by omega) hr) (fun v37 L1 Ln K41 h38 f39 f40 => ?_))
  obtain ⟨q42, h43, rfl, rfl, z44, rfl, h45⟩ := h38
  refine nm ?_
  refine mv rfl (cT rfl rfl (pick_ok q42 (2 : Int) (by omega) hr) (fun v48 L1 Ln K52 h49 f50 f51 => ?_))
  obtain ⟨q53, h54, rfl, rfl, z55, rfl, h56⟩ := h49
  refine nm ?_
  refine eq9 rfl rfl ?_
  refine kl_bd rfl (cp rfl (cp rfl (cp rfl cp_nil))) rfl ?_
  refine kl_bsQ rfl (fun v59 H60 f61 r62 h63 => ?_)
  refine kl_callL rfl rfl (mergeCl_ok out ([(⟨z33, z44, decide (z55 = (0 : Int))⟩ : Lit)]) (by simp; omega) (OwnL.lits o19) ‹_›) (fun v64 H65 f66 h67 => ?_)
  obtain ⟨z68, o70, h69⟩ := h67
  have hmc := h69
  refine sg rfl (ln (qc (cr (mv rfl (sb9 rfl rfl (by omega) ?_)))))
  refine sg rfl (ln (tk [sing br (.cells [vbr, .int .i64 (q53 : Int)].toArray 84 (0, 0)), H65] ?_))
  refine rL ((k - (1 : Int)), z68, v64, H65, q53) (by (dsimp only; omega)) (⟨⟨by dsimp only; omega, by dsimp only; omega, by have h9 := hmc; simp at h9; dsimp only; omega⟩, o70, f66, (by first | omega | (dsimp only; omega))⟩) (pk [6, 5] rfl) (pk [0, 1, 4] rfl) rfl slr9
 ·refine ex9 (qc (cS (cr (mv rfl (sg rfl (ln (qc (rt ?_))))))))
  exact kq_retT rfl rfl [sing br (.cells [vbr, .int .i64 (q22 : Int)].toArray 84 (0, 0))] [H18] noHp (fr1 f20) (fr_no _) ⟨q22, by omega, rfl, H18, out, rfl, o19, by omega⟩
theorem anyClause_ok {br : Nat} {vbr : Value} {Hr : Hp} {bsr : List Int} (pr : Nat) (n : Int) (hp : pr + (70) ≤ 1000000) (hr : Bytes Hr vbr bsr) : SpecT Tryz.prog 84 [.pointer (some ⟨br, 0, none⟩), .int .i64 n] [sing br (.cells [vbr, .int .i64 (pr : Int)].toArray 84 (0, 0))] [Hr] (fun vq L1 Ln Kq => ∃ q : Nat, q ≤ pr + (70) ∧ L1 = [sing br (.cells [vbr, .int .i64 (q : Int)].toArray 84 (0, 0))] ∧ ∃ (Hq : Hp) (xq : List Lit), Ln = [Hq] ∧ OwnL 100 3 Hq noHp LitV vq xq ∧ xq.length ≤ 5) := by
 refine specT_of Tryz.func84 rfl rfl rfl (fun B => ?_)
 refine cS (cr (sg rfl (ln (qc (cS (cr (mv rfl (mv rfl (cT rfl rfl (randomClause_ok pr n (by omega) hr) (fun v1 L1 Ln K5 h2 f3 f4 => ?_))))))))))
 obtain ⟨q6, h7, rfl, H10, z8, rfl, o11, h9⟩ := h2
 have f12 := f3 _ (.head _)
 have hrc := h9
 refine nm ?_
 refine sg rfl (ln (qc (cS (cS (cr (mv rfl (cT rfl rfl (pick_ok q6 (16 : Int) (by omega) hr) (fun v13 L1 Ln K17 h14 f15 f16 => ?_))))))))
 obtain ⟨q18, h19, rfl, rfl, z20, rfl, h21⟩ := h14
 refine nm ?_
 refine ln (qc (bl (cS (cr (eq9 rfl rfl ?_)))))
 refine sg rfl (ln (qc (ci9 rfl (fun c24 => ?_) (fun c24 => ?_))))
 ·refine cS (cr (mv rfl (mv rfl (mv rfl (bs9 rfl rfl rfl (by decide) (ca rfl (ca rfl ca_nil)) (fun v25 H26 f27 r28 s29 => ?_))))))
  have h30 : Ints H26 v25 [(-1 : Int), n] := litInts (xs := [(-1 : Int), n]) (by simpa using s29)
  refine cT rfl rfl (one_ok q18 ([(-1 : Int), n]) (by simp) (by omega) hr ‹_›) (fun v31 L1 Ln K35 h32 f33 f34 => ?_)
  obtain ⟨q36, h37, rfl, rfl, z38, rfl, h39⟩ := h32
  refine nm ?_
  refine mv rfl (bs9 rfl rfl rfl (by decide) (ca rfl (ca rfl ca_nil)) (fun v42 H43 f44 r45 s46 => ?_))
  have h47 : Ints H43 v42 [(0 : Int), (6 : Int)] := litInts (xs := [(0 : Int), (6 : Int)]) (by simpa using s46)
  refine cT rfl rfl (one_ok q36 ([(0 : Int), (6 : Int)]) (by simp) (by omega) hr ‹_›) (fun v48 L1 Ln K52 h49 f50 f51 => ?_)
  obtain ⟨q53, h54, rfl, rfl, z55, rfl, h56⟩ := h49
  refine nm ?_
  refine kl_bd rfl (cp rfl (cp rfl cp_nil)) rfl ?_
  refine kl_bsQ rfl (fun v59 H60 f61 r62 h63 => ?_)
  refine aL9 (⟨z38, z55, false⟩ : Lit) rfl rfl o11 r62 rfl (oc rfl (oc rfl (oc rfl oc_nil))) (by (simp; omega)) (by decide) (fun v64 H65 o66 f67 => ?_)
  have f68 := f67 B f12 (Nat.le_refl _)
  refine sg rfl (ln (qc (rt ?_)))
  exact kq_retT rfl rfl [sing br (.cells [vbr, .int .i64 (q53 : Int)].toArray 84 (0, 0))] [H65] noHp (fr1 f68) (fr_no _) ⟨q53, by omega, rfl, H65, (z8 ++ [(⟨z38, z55, false⟩ : Lit)]), rfl, o66, by first | omega | (simp; omega)⟩
 ·refine cS (cr (eq9 rfl rfl ?_))
  refine sg rfl (ln (qc (ci9 rfl (fun c69 => ?_) (fun c69 => ?_))))
  ·refine cS (cr (mv rfl (lL rfl o11 (fun l70 => ?_))))
   refine kl_gtr rfl rfl ?_
   refine ln (qc (ci9 rfl (fun c71 => ?_) (fun c71 => ?_)))
   ·refine cS (kc_frz H10 ?_)
    have h72 := OwnL.lits o11
    refine kc_tree (fun i => ([8] : List Nat).contains i) [] (by kernel_rfl) ?_
    refine tq 1 nsl rfl (mv rfl (ln (qq (tq 2 nsl rfl (kl_slDrop (j := 1) rfl rfl ‹_› (by omega) (fun u73 h74 => ?_))))))
    refine ln (qq (tq 4 nsl rfl (mv rfl (ln (qq (tq 5 nsl rfl (kl_inQ (i := 0) rfl rfl ‹_› (by omega) (fun p75 a76 => ?_))))))))
    refine ln (qq (tq 6 nsl rfl (kl_ldS rfl ‹_› rfl ?_)))
    refine ln (qq (kt_b 0 7 rfl rfl (by kernel_rfl) ?_ ?_))
    ·refine kl_bs0k (K := noHp) LitV rfl (fun v77 H78 f79 o80 => ?_)
     refine ln (qa nsl (kt_b 3 7 rfl rfl (by kernel_rfl) ?_ ?_))
     ·refine kl_apS rfl rfl o80 ‹_› (fun _ _ h => h) (by (simp; omega)) (by decide) (fun v81 H82 o83 f84 => ?_)
      have f85 := f84 B f79 (Nat.le_refl _)
      refine ln (qa nsl (ta 7 rfl (kl_bsQ rfl (fun v86 H87 f88 r89 h90 => ?_))))
      refine ln (qa nsl (ta 8 rfl (aL9 (z8.getD 0 nilLit) rfl rfl o83 r89 rfl (oc rfl (oc rfl (oc rfl oc_nil))) (by (simp; omega)) (by decide) (fun v91 H92 o93 f94 => ?_))))
      have f95 := f94 B f85 (Nat.le_refl _)
      refine ln (qx rfl (tq 9 nsl rfl (sg rfl (ln (qq (kt_end (by kernel_rfl) ?_))))))
      refine qc (rt ?_)
      exact kq_retT rfl rfl [sing br (.cells [vbr, .int .i64 (q18 : Int)].toArray 84 (0, 0))] [H92] noHp (fr1 f95) (fr_no _) ⟨q18, by omega, rfl, H92, (([] ++ (z8.drop 1)) ++ [(z8.getD 0 nilLit)]), rfl, o93, by first | omega | (simp; omega)⟩
     ·refine kl_bsQ rfl (fun v96 H97 f98 r99 h100 => ?_)
      refine ln (qa nsl (ta 3 rfl (kl_apS rfl rfl o80 ‹_› (fun _ _ h => h) (by (simp; omega)) (by decide) (fun v101 H102 o103 f104 => ?_))))
      have f105 := f104 B f79 (Nat.le_refl _)
      refine ln (qa nsl (ta 8 rfl (aL9 (z8.getD 0 nilLit) rfl rfl o103 r99 rfl (oc rfl (oc rfl (oc rfl oc_nil))) (by (simp; omega)) (by decide) (fun v106 H107 o108 f109 => ?_))))
      have f110 := f109 B f105 (Nat.le_refl _)
      refine ln (qx rfl (tq 9 nsl rfl (sg rfl (ln (qq (kt_end (by kernel_rfl) ?_))))))
      refine qc (rt ?_)
      exact kq_retT rfl rfl [sing br (.cells [vbr, .int .i64 (q18 : Int)].toArray 84 (0, 0))] [H107] noHp (fr1 f110) (fr_no _) ⟨q18, by omega, rfl, H107, (([] ++ (z8.drop 1)) ++ [(z8.getD 0 nilLit)]), rfl, o108, by first | omega | (simp; omega)⟩
    ·refine kl_bsQ rfl (fun v111 H112 f113 r114 h115 => ?_)
     refine ln (qa nsl (ta 0 rfl (kl_bs0k (K := noHp) LitV rfl (fun v116 H117 f118 o119 => ?_))))
     refine ln (qa nsl (ta 3 rfl (kl_apS rfl rfl o119 ‹_› (fun _ _ h => h) (by (simp; omega)) (by decide) (fun v120 H121 o122 f123 => ?_))))
     have f124 := f123 B f118 (Nat.le_refl _)
     refine ln (qa nsl (ta 8 rfl (aL9 (z8.getD 0 nilLit) rfl rfl o122 r114 rfl (oc rfl (oc rfl (oc rfl oc_nil))) (by (simp; omega)) (by decide) (fun v125 H126 o127 f128 => ?_))))
     have f129 := f128 B f124 (Nat.le_refl _)
     refine ln (qx rfl (tq 9 nsl rfl (sg rfl (ln (qq (kt_end (by kernel_rfl) ?_))))))
     refine qc (rt ?_)
     exact kq_retT rfl rfl [sing br (.cells [vbr, .int .i64 (q18 : Int)].toArray 84 (0, 0))] [H126] noHp (fr1 f129) (fr_no _) ⟨q18, by omega, rfl, H126, (([] ++ (z8.drop 1)) ++ [(z8.getD 0 nilLit)]), rfl, o127, by first | omega | (simp; omega)⟩
   ·refine sk (qc (cS (cr (mv rfl (sg rfl (ln (qc (rt ?_))))))))
    exact kq_retT rfl rfl [sing br (.cells [vbr, .int .i64 (q18 : Int)].toArray 84 (0, 0))] [H10] noHp (fr1 f12) (fr_no _) ⟨q18, by omega, rfl, H10, z8, rfl, o11, by first | omega | (simp; omega)⟩
  ·refine sk (qc (cS (cr (mv rfl (sg rfl (ln (qc (rt ?_))))))))
   exact kq_retT rfl rfl [sing br (.cells [vbr, .int .i64 (q18 : Int)].toArray 84 (0, 0))] [H10] noHp (fr1 f12) (fr_no _) ⟨q18, by omega, rfl, H10, z8, rfl, o11, by first | omega | (simp; omega)⟩
end
end Go.Proofs.YtolndgeihijlbaaGreat
