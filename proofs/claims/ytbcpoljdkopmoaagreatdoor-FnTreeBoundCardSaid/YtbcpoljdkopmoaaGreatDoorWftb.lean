/- Walks of functions of the program: each returns what the plain function gives. Conditions: those that each statement names. -/
import Derived.Test.YtbcpoljdkopmoaaGreatDoorWtb
import Derived.Test.YtbcpoljdkopmoaaGreatDoorWtbs
import Derived.Test.YtbcpoljdkopmoaaGreatDoorWmin
import Derived.Test.YtbcpoljdkopmoaaGreatDoorWobj
import Derived.Test.YtbcpoljdkopmoaaGreatDoorWsm
import Derived.Test.YtbcpoljdkopmoaaGreatDoorPureU
namespace Go.Proofs.YtbcpoljdkopmoaaGreatDoor
open Go
set_option linter.unusedSimpArgs false
set_option linter.unusedVariables false
theorem boundBy_ok {Hds : Hp} {vds : Value} {Hobj : Hp} {vobj : Value} {Ht : Hp} (ds : List Int) (obj : List Int) (hl : obj.length = ds.length) (h4 : ds.length ≤ 4) (hO : Coef obj) (hD : ds.contains 0 = false → ∀ i, i < ds.length → 1 ≤ ds.getD i 0 ∧ ds.getD i 0 ≤ 63) (hds : Ints Hds vds ds) (hobj : Ints Hobj vobj obj) (htab : At Ht (.pointer (some ⟨1, 0, none⟩)) tabV) : SpecP Tryz.prog 21 [vds, vobj] [Hds, Hobj, Ht] (.tuple #[.int .i64 ((bbI ds obj).1), .bool ((bbI ds obj).2)]) := by
 refine spec_of Tryz.func21 rfl rfl rfl (fun B => ?_)
 refine kc_seq (kc_region ?_)
 refine kl_as rfl ?_
 refine kl_as rfl ?_
 refine kl_nil (kq_code ?_)
 refine kc_seq ?_
 refine kc_seq (kc_region ?_)
 refine kl_mv rfl ?_
 refine kl_callP rfl rfl (containsInts_ok ds (0 : Int) (by assumption)) ?_
 refine kl_nil (kq_code ?_)
 refine kc_cond rfl (fun c1 => ?_) (fun c1 => ?_)
 ·skip
  have c1r := c1
  try simp only [Bool.not_eq_true', Bool.not_eq_false', Bool.not_true, Bool.not_false, decide_eq_true_eq, decide_eq_false_iff_not, Bool.and_eq_true, Bool.or_eq_false_iff] at c1
  refine kc_seq (kc_region ?_)
  refine kl_as rfl ?_
  refine kl_as rfl ?_
  refine kl_nil (kq_code ?_)
  refine kc_ret ?_
  refine kq_ret2 rfl rfl rfl noHp (fr_no _) (tup2 (congrArg (Value.int .i64) ?_) (congrArg Value.bool ?_))
  ·rw [bb_0 (by assumption)]
  ·rw [bb_0 (by assumption)]
 ·skip
  have c1r := c1
  try simp only [Bool.not_eq_true', Bool.not_eq_false', Bool.not_true, Bool.not_false, decide_eq_true_eq, decide_eq_false_iff_not, Bool.and_eq_true, Bool.or_eq_false_iff] at c1
  have hz : ds.contains 0 = false := (by simpa using c1r)
  refine kc_skipQ ?_
  refine kq_code ?_
  refine kc_seq (kc_region ?_)
  refine kl_mv rfl ?_
  refine kl_mv rfl ?_
  refine kl_callP rfl rfl (lowest_ok ds obj hl h4 hO (hD hz) (by assumption) (by assumption) htab) ?_
  refine kl_as rfl ?_
  refine kl_as rfl ?_
  refine kl_nil (kq_code ?_)
  refine kc_ret ?_
  refine kq_ret2 rfl rfl rfl noHp (fr_no _) (tup2 (congrArg (Value.int .i64) ?_) (congrArg Value.bool ?_))
  ·rw [bb_1 hz]
  ·rw [bb_1 hz]
theorem lbImp_ok {Hmd : Hp} {vmd : Value} {Hmc : Hp} {vmc : Value} {Hobj : Hp} {vobj : Value} {Ht : Hp} (m : Mod) (obj : List Int) (hmd : Ints Hmd vmd m.doms) (hmc : Cons Hmc vmc m.cons) (hobj : Ints Hobj vobj obj) (htab : At Ht (.pointer (some ⟨1, 0, none⟩)) tabV) : SpecP Tryz.prog 7 [.agg #[vmd, vmc], vobj] [Hmd, Hmc, Hobj, Ht] (.tuple #[.int .i64 ((lbI m obj).1), .bool ((lbI m obj).2)]) := by
 refine spec_of Tryz.func7 rfl rfl rfl (fun B => ?_)
 refine kc_seq (kc_region ?_)
 refine kl_box rfl rfl (fun p1 H2 f3 a4 => ?_)
 refine kl_as rfl ?_
 refine kl_as rfl ?_
 refine kl_nil (kq_code ?_)
 refine kc_seq ?_
 refine kc_seq (kc_region ?_)
 refine kl_ldS rfl (by assumption) rfl ?_
 refine kl_mv rfl ?_
 refine kl_callP rfl rfl (objectiveOk_ok m obj (by assumption) (by assumption) (by assumption)) ?_
 refine kl_not rfl ?_
 refine kl_nil (kq_code ?_)
 refine kc_cond rfl (fun c5 => ?_) (fun c5 => ?_)
 ·skip
  have c5r := c5
  try simp only [Bool.not_eq_true', Bool.not_eq_false', Bool.not_true, Bool.not_false, decide_eq_true_eq, decide_eq_false_iff_not, Bool.and_eq_true, Bool.or_eq_false_iff] at c5
  refine kc_seq (kc_region ?_)
  refine kl_as rfl ?_
  refine kl_as rfl ?_
  refine kl_nil (kq_code ?_)
  refine kc_ret ?_
  refine kq_ret2 rfl rfl rfl noHp (fr_no _) (tup2 (congrArg (Value.int .i64) ?_) (congrArg Value.bool ?_))
  ·rw [lb_noI (by assumption)]
  ·rw [lb_noI (by assumption)]
 ·skip
  have c5r := c5
  try simp only [Bool.not_eq_true', Bool.not_eq_false', Bool.not_true, Bool.not_false, decide_eq_true_eq, decide_eq_false_iff_not, Bool.and_eq_true, Bool.or_eq_false_iff] at c5
  have hc := lb_cI c5r
  have hg := lb_ok hc
  have hM := hg.1
  have hn := hM.n
  have hpl := (propOk hM hM.dok).ok.l
  have hol := hg.2.1
  refine kc_skipQ ?_
  refine kq_code ?_
  refine kc_seq (kc_region ?_)
  refine kl_ldS rfl (by assumption) rfl ?_
  refine kl_fd rfl (by assumption) (fun p6 a7 => ?_)
  refine kl_ld rfl (by assumption) ?_
  refine kl_call rfl rfl (propagate_ok m m.doms hM hM.dok (by assumption) (by assumption) (by assumption)) (fun v8 H9 f10 h11 => ?_)
  refine kl_mv rfl ?_
  refine kl_callP rfl rfl (boundBy_ok (prop m m.doms) obj (by omega) (by omega) hg.2.2 (propD hM) (by assumption) (by assumption) htab) ?_
  refine kl_xt rfl rfl ?_
  refine kl_xt rfl rfl ?_
  refine kl_as rfl ?_
  refine kl_as rfl ?_
  refine kl_nil (kq_code ?_)
  refine kc_ret ?_
  refine kq_ret2 rfl rfl rfl noHp (fr_no _) (tup2 (congrArg (Value.int .i64) ?_) (congrArg Value.bool ?_))
  ·rw [lb_bb hc]
  ·rw [lb_bb hc]
theorem drawTb_ok {Hcode : Hp} {vcode : Value} (code : List Int) (hcode : Bytes Hcode vcode code) : Spec Tryz.prog 4 [vcode] [Hcode] (fun Hq vq => ∃ (mq : Mod) (oq : List Int) (z : Int) (uq0a uq0b uq1 : Value), vq = .tuple #[.agg #[uq0a, uq0b], uq1, .int .i64 z] ∧ Ints Hq uq0a mq.doms ∧ Cons Hq uq0b mq.cons ∧ Ints Hq uq1 oq ∧ ModSm 100 mq) := by
 refine spec_ofR Tryz.func4 rfl rfl rfl (fun B => ?_)
 refine kc_seq (kc_region ?_)
 refine kl_alloc (cs := [.slice none 0 0, .slice none 0 0]) rfl (fun b1 hb2 => ?_)
 refine kl_as rfl ?_
 refine kl_as rfl ?_
 refine kl_nil (kq_code (kc_seq (kc_region ?_)))
 refine kl_mv rfl ?_
 refine kl_callT rfl rfl (newReader_ok code hcode) (fun v3 L1 Ln K7 h4 f5 f6 => ?_)
 obtain ⟨rfl, b8, v9, x10, rfl, rfl, h11⟩ := h4
 refine kl_norm ?_
 refine kl_as rfl ?_
 refine kl_nil (kq_code (kc_seq (kc_region ?_)))
 refine kl_mv rfl ?_
 refine kl_callT rfl rfl (searchModel_ok 0 (by omega) h11) (fun v12 L1 Ln K16 h13 f14 f15 => ?_)
 obtain ⟨q17, h18, rfl, H21, M23, v24, v25, z19, rfl, rfl, o22, o26, h20⟩ := h13
 have f27 := f14 _ (.head _)
 have f28 := f14 _ (.tail _ (.head _))
 have hd1 := h20.d1
 have hd4 := h20.d
 have hc1 := h20.c
 have hcc := h20.cc
 refine kl_norm ?_
 refine kl_alloc (cs := [.slice none 0 0, .slice none 0 0]) rfl (fun b29 hb30 => ?_)
 refine kl_stW (us := [v24, v25]) rfl rfl rfl rfl (oc (OwnL.oneCell (by assumption)) (oc (OwnL.oneCell (by assumption)) oc_nil)) rfl ?_
 refine kl_chg [sing b29 (.cells [v24, v25].toArray 26 (0, 0)), sing b8 (.cells [v9, .int .i64 (q17 : Int)].toArray 54 (0, 0)), H21, M23, sing b1 (.cells [.slice none 0 0, .slice none 0 0].toArray 26 (0, 0))] rfl ?_
 refine kl_nil (kq_code ?_)
 refine kc_seq ?_
 refine kc_tree (fun i => ([9] : List Nat).contains i) [sing b29 (.cells [v24, v25].toArray 26 (0, 0))] (by kernel_rfl) ?_
 refine kt_q 0 (.cons_cons _ (List.nil_sublist _)) rfl (by kernel_rfl) ?_
 refine kl_ldS rfl (at_box (T := 26) (cs := [v24, v25]) (off := 0) (fz := (0, 0))) rfl ?_
 refine kl_nil (kq_q ?_)
 refine kt_q 1 (.cons_cons _ (List.nil_sublist _)) rfl (by kernel_rfl) ?_
 refine kl_mv rfl ?_
 refine kl_nil (kq_q ?_)
 refine kt_q 2 (.cons_cons _ (List.nil_sublist _)) rfl (by kernel_rfl) ?_
 refine kl_fdV rfl ?_
 refine kl_nil (kq_q ?_)
 refine kt_q 3 (.cons_cons _ (List.nil_sublist _)) rfl (by kernel_rfl) ?_
 refine kl_ld rfl (at_box (T := 26) (cs := [v24, v25]) (off := 0) (fz := (0, 0))) ?_
 refine kl_nil (kq_q ?_)
 refine kt_q 4 (.cons_cons _ (List.nil_sublist _)) rfl (by kernel_rfl) ?_
 refine kl_lenL rfl o22 (fun l31 => ?_)
 refine kl_nil (kq_q ?_)
 refine kt_q 6 (.cons_cons _ (List.nil_sublist _)) rfl (by kernel_rfl) ?_
 refine kl_mv rfl ?_
 refine kl_nil (kq_q ?_)
 refine kt_b 5 7 rfl rfl (by kernel_rfl) ?_ ?_
 ·skip
  refine kl_callT rfl rfl (objective_ok q17 (z19.doms.length : Int) (by first | assumption | omega) (by omega) h11) (fun v32 L1 Ln K36 h33 f34 f35 => ?_)
  obtain ⟨q37, h38, rfl, H41, z39, rfl, o42, h40⟩ := h33
  have f43 := f34 _ (.head _)
  have hj9 := h40
  refine kl_norm ?_
  refine kl_nil (kq_a (.cons _ (.cons _ (.cons_cons _ (List.nil_sublist _)))) ?_)
  refine kt_a 7 rfl (by kernel_rfl) ?_
  refine kl_bs rfl rfl rfl (by decide) (ca rfl (ca rfl (ca rfl (ca rfl (ca rfl (ca rfl (ca rfl ca_nil))))))) (fun v44 H45 f46 r47 s48 => ?_)
  have h49 : Ints H45 v44 [(0 : Int), (1 : Int), (2 : Int), (3 : Int), (4 : Int), (-1 : Int), (5 : Int)] := litInts (xs := [(0 : Int), (1 : Int), (2 : Int), (3 : Int), (4 : Int), (-1 : Int), (5 : Int)]) (by simpa using s48)
  refine kl_nil (kq_a (.cons _ (.cons _ (.cons_cons _ (List.nil_sublist _)))) ?_)
  refine kt_a 8 rfl (by kernel_rfl) ?_
  refine kl_callT rfl rfl (one_ok q37 ([(0 : Int), (1 : Int), (2 : Int), (3 : Int), (4 : Int), (-1 : Int), (5 : Int)]) (by simp) (by omega) h11 (by assumption)) (fun v50 L1 Ln K54 h51 f52 f53 => ?_)
  obtain ⟨q55, h56, rfl, rfl, z57, rfl, h58⟩ := h51
  refine kl_norm ?_
  refine kl_nil (kq_a (.cons _ (.cons _ (.cons_cons _ (List.nil_sublist _)))) ?_)
  refine kt_a 9 rfl (by kernel_rfl) ?_
  refine kl_stW (us := [v24, v25]) rfl rfl rfl rfl (oc (OwnL.oneCell (by assumption)) (oc (OwnL.oneCell (by assumption)) oc_nil)) rfl ?_
  refine kl_chg [sing b8 (.cells [v9, .int .i64 (q55 : Int)].toArray 54 (0, 0)), H41, sing b29 (.cells [v24, v25].toArray 26 (0, 0)), H21, M23, sing b1 (.cells [v24, v25].toArray 26 (0, 0))] rfl ?_
  refine kl_nil (kq_x rfl ?_)
  refine kt_q 10 (.cons _ (.cons _ (.cons_cons _ (List.nil_sublist _)))) rfl (by kernel_rfl) ?_
  refine kl_as rfl ?_
  refine kl_nil (kq_q ?_)
  refine kt_q 11 (.cons _ (.cons _ (.cons_cons _ (List.nil_sublist _)))) rfl (by kernel_rfl) ?_
  refine kl_as rfl ?_
  refine kl_nil (kq_q ?_)
  refine kt_end (by kernel_rfl) ?_
  refine kq_code ?_
  refine kc_ret ?_
  refine kq_frz H21 ?_
  refine kq_frz M23 ?_
  refine kq_cmp M23 K16 (fun c61 => ?_)
  refine kq_frz H41 ?_
  refine kq_cmp (orHp M23 K16) H41 (fun c62 => ?_)
  refine kq_cmp H21 (orHp (orHp M23 K16) H41) (fun c63 => ?_)
  exact kq_retR (rss3 rfl (rs_agg rfl rfl) (rs_tmp rfl) (rs_tmp rfl)) (orHp H21 (orHp (orHp M23 K16) H41)) (fr_or f27 (fr_or (fr_or f28 f15) f43)) ⟨(⟨z19.doms, z19.cons⟩ : Mod), z39, z57, _, _, _, rfl, (Sl.mono (OwnL.ints o22) (fun b o h => orL b o h) (fun _ _ h => h)), (Cons.mono' (OwnL.consK o26 c61) (fun b o h => orC c63 b o (orL b o h))), (Sl.mono (OwnL.ints o42) (fun b o h => orC c63 b o (orC c62 b o h)) (fun _ _ h => h)), by (constructor <;> dsimp only <;> first | omega | assumption)⟩ .none
 ·skip
  refine kl_bs rfl rfl rfl (by decide) (ca rfl (ca rfl (ca rfl (ca rfl (ca rfl (ca rfl (ca rfl ca_nil))))))) (fun v64 H65 f66 r67 s68 => ?_)
  have h69 : Ints H65 v64 [(0 : Int), (1 : Int), (2 : Int), (3 : Int), (4 : Int), (-1 : Int), (5 : Int)] := litInts (xs := [(0 : Int), (1 : Int), (2 : Int), (3 : Int), (4 : Int), (-1 : Int), (5 : Int)]) (by simpa using s68)
  refine kl_nil (kq_a (.cons_cons _ (List.nil_sublist _)) ?_)
  refine kt_a 5 rfl (by kernel_rfl) ?_
  refine kl_callT rfl rfl (objective_ok q17 (z19.doms.length : Int) (by first | assumption | omega) (by omega) h11) (fun v70 L1 Ln K74 h71 f72 f73 => ?_)
  obtain ⟨q75, h76, rfl, H79, z77, rfl, o80, h78⟩ := h71
  have f81 := f72 _ (.head _)
  have hj9 := h78
  refine kl_norm ?_
  refine kl_nil (kq_a (.cons _ (.cons _ (.cons_cons _ (List.nil_sublist _)))) ?_)
  refine kt_a 8 rfl (by kernel_rfl) ?_
  refine kl_callT rfl rfl (one_ok q75 ([(0 : Int), (1 : Int), (2 : Int), (3 : Int), (4 : Int), (-1 : Int), (5 : Int)]) (by simp) (by omega) h11 (by assumption)) (fun v82 L1 Ln K86 h83 f84 f85 => ?_)
  obtain ⟨q87, h88, rfl, rfl, z89, rfl, h90⟩ := h83
  refine kl_norm ?_
  refine kl_nil (kq_a (.cons _ (.cons _ (.cons_cons _ (List.nil_sublist _)))) ?_)
  refine kt_a 9 rfl (by kernel_rfl) ?_
  refine kl_stW (us := [v24, v25]) rfl rfl rfl rfl (oc (OwnL.oneCell (by assumption)) (oc (OwnL.oneCell (by assumption)) oc_nil)) rfl ?_
  refine kl_chg [sing b8 (.cells [v9, .int .i64 (q87 : Int)].toArray 54 (0, 0)), H79, sing b29 (.cells [v24, v25].toArray 26 (0, 0)), H21, M23, sing b1 (.cells [v24, v25].toArray 26 (0, 0))] rfl ?_
  refine kl_nil (kq_x rfl ?_)
  refine kt_q 10 (.cons _ (.cons _ (.cons_cons _ (List.nil_sublist _)))) rfl (by kernel_rfl) ?_
  refine kl_as rfl ?_
  refine kl_nil (kq_q ?_)
  refine kt_q 11 (.cons _ (.cons _ (.cons_cons _ (List.nil_sublist _)))) rfl (by kernel_rfl) ?_
  refine kl_as rfl ?_
  refine kl_nil (kq_q ?_)
  refine kt_end (by kernel_rfl) ?_
  refine kq_code ?_
  refine kc_ret ?_
  refine kq_frz H21 ?_
  refine kq_frz M23 ?_
  refine kq_cmp M23 K16 (fun c93 => ?_)
  refine kq_frz H79 ?_
  refine kq_cmp (orHp M23 K16) H79 (fun c94 => ?_)
  refine kq_cmp H21 (orHp (orHp M23 K16) H79) (fun c95 => ?_)
  exact kq_retR (rss3 rfl (rs_agg rfl rfl) (rs_tmp rfl) (rs_tmp rfl)) (orHp H21 (orHp (orHp M23 K16) H79)) (fr_or f27 (fr_or (fr_or f28 f15) f81)) ⟨(⟨z19.doms, z19.cons⟩ : Mod), z77, z89, _, _, _, rfl, (Sl.mono (OwnL.ints o22) (fun b o h => orL b o h) (fun _ _ h => h)), (Cons.mono' (OwnL.consK o26 c93) (fun b o h => orC c95 b o (orL b o h))), (Sl.mono (OwnL.ints o80) (fun b o h => orC c95 b o (orC c94 b o h)) (fun _ _ h => h)), by (constructor <;> dsimp only <;> first | omega | assumption)⟩ .none
theorem lawFnTb_ok {Hcode : Hp} {vcode : Value} {Ht : Hp} (code : List Int) (hcode : Bytes Hcode vcode code) (htab : At Ht (.pointer (some ⟨1, 0, none⟩)) tabV) : SpecP Tryz.prog 3 [vcode] [Hcode, Ht] (.bool true) := by
 refine spec_of Tryz.func3 rfl rfl rfl (fun B => ?_)
 refine kc_seq (kc_region ?_)
 refine kl_as rfl ?_
 refine kl_nil (kq_code ?_)
 refine kc_seq ?_
 refine kc_seq (kc_region ?_)
 refine kl_mv rfl ?_
 refine kl_len rfl (by assumption) (fun l1 => ?_)
 refine kl_gtr rfl rfl ?_
 refine kl_nil (kq_code ?_)
 refine kc_if rfl (fun c2 => ?_) (fun c2 => ?_)
 ·skip
  refine kc_seq (kc_region ?_)
  refine kl_as rfl ?_
  refine kl_nil (kq_code ?_)
  refine kc_ret ?_
  refine kq_retP rfl rfl (congrArg Value.bool ?_)
  first | rfl | (simp; done) | exact tree_end htb
 ·skip
  refine kc_skipQ ?_
  refine kq_code ?_
  refine kc_seq (kc_region ?_)
  refine kl_mv rfl ?_
  refine kl_call rfl rfl (drawTb_ok code hcode) (fun v3 H4 f5 h6 => ?_)
  obtain ⟨z9, z14, z17, u10, u11, u15, rfl, h12, h13, h16, h8⟩ := h6
  refine kl_mv rfl ?_
  refine kl_xt rfl rfl ?_
  refine kl_xt rfl rfl ?_
  refine kl_xt rfl rfl ?_
  refine kl_alloc (cs := [.slice none 0 0, .slice none 0 0]) rfl (fun b18 hb19 => ?_)
  refine kl_stW (us := [u10, u11]) rfl rfl rfl rfl (oc (Sl.oneCell (by assumption)) (oc (Sl.oneCell (by assumption)) oc_nil)) rfl ?_
  refine kl_chg [sing b18 (.cells [u10, u11].toArray 26 (0, 0))] rfl ?_
  refine kl_as rfl ?_
  refine kl_as rfl ?_
  refine kl_nil (kq_code (kc_seq (kc_region ?_)))
  refine kl_ldW rfl rfl ?_
  refine kl_mv rfl ?_
  refine kl_mv rfl ?_
  refine kl_callP rfl rfl (treeBI_ok z9 z14 z17 (by assumption) (by assumption) (by assumption) htab) ?_
  refine kl_mv rfl ?_
  refine kl_xt rfl rfl ?_
  refine kl_xt rfl rfl ?_
  refine kl_as rfl ?_
  refine kl_as rfl ?_
  refine kl_nil (kq_code (kc_seq (kc_region ?_)))
  refine kl_ldW rfl rfl ?_
  refine kl_mv rfl ?_
  refine kl_mv rfl ?_
  refine kl_callP rfl rfl (treeBS_ok z9 z14 z17 (by assumption) (by assumption) (by assumption)) ?_
  refine kl_mv rfl ?_
  refine kl_xt rfl rfl ?_
  refine kl_xt rfl rfl ?_
  refine kl_as rfl ?_
  refine kl_as rfl ?_
  refine kl_nil (kq_code ?_)
  refine kc_seq ?_
  refine kc_seq (kc_region ?_)
  refine kl_mv rfl ?_
  refine kl_mv rfl ?_
  refine kl_bne rfl rfl ?_
  refine kl_mv rfl ?_
  refine kl_join 4 50 (.bool ((((tbI z9 z14 z17).2) != ((tbI z9 z14 z17).2)) || decide (((tbI z9 z14 z17).1) ≠ ((tbI z9 z14 z17).1)))) (pc 2 rfl (pc 3 rfl (pc 4 rfl (pc 5 rfl (pc 6 rfl (pc 7 rfl (pc 8 rfl (pc 9 rfl (pc 46 rfl pn))))))))) (fun J21 => ?_) ?_
  ·rcases Bool.eq_false_or_eq_true (((tbI z9 z14 z17).2) != ((tbI z9 z14 z17).2)) with g20 | g20
   ·skip
    refine kl_gF rfl rfl g20 ?_
    refine kl_gF rfl rfl g20 ?_
    refine kl_gF rfl rfl g20 ?_
    refine kl_orT (decide (((tbI z9 z14 z17).1) ≠ ((tbI z9 z14 z17).1))) rfl rfl g20 ?_
    exact J21 _ (pc 50 rfl (pc 2 rfl (pc 3 rfl (pc 4 rfl (pc 5 rfl (pc 6 rfl (pc 7 rfl (pc 8 rfl (pc 9 rfl (pc 46 rfl pn))))))))))
   ·skip
    have g20p := g20
    try simp only [Bool.not_eq_true', Bool.not_eq_false', decide_eq_true_eq, decide_eq_false_iff_not, Bool.and_eq_true, Bool.or_eq_false_iff, withinB_iff] at g20p
    refine kl_gT rfl rfl g20 ?_
    refine kl_mv rfl ?_
    refine kl_gT rfl rfl g20 ?_
    refine kl_mv rfl ?_
    refine kl_gT rfl rfl g20 ?_
    refine kl_neq rfl rfl ?_
    refine kl_orF rfl rfl g20 ?_
    exact J21 _ (pc 50 rfl (pc 2 rfl (pc 3 rfl (pc 4 rfl (pc 5 rfl (pc 6 rfl (pc 7 rfl (pc 8 rfl (pc 9 rfl (pc 46 rfl pn))))))))))
  refine kl_mv rfl ?_
  refine kl_join 3 54 (.bool (((((tbI z9 z14 z17).2) != ((tbI z9 z14 z17).2)) || decide (((tbI z9 z14 z17).1) ≠ ((tbI z9 z14 z17).1))) || !((tbI z9 z14 z17).2))) (pc 2 rfl (pc 3 rfl (pc 4 rfl (pc 5 rfl (pc 6 rfl (pc 7 rfl (pc 8 rfl (pc 9 rfl (pc 51 rfl pn))))))))) (fun J23 => ?_) ?_
  ·rcases Bool.eq_false_or_eq_true ((((tbI z9 z14 z17).2) != ((tbI z9 z14 z17).2)) || decide (((tbI z9 z14 z17).1) ≠ ((tbI z9 z14 z17).1))) with g22 | g22
   ·skip
    refine kl_gF rfl rfl g22 ?_
    refine kl_gF rfl rfl g22 ?_
    refine kl_orT (!((tbI z9 z14 z17).2)) rfl rfl g22 ?_
    exact J23 _ (pc 54 rfl (pc 2 rfl (pc 3 rfl (pc 4 rfl (pc 5 rfl (pc 6 rfl (pc 7 rfl (pc 8 rfl (pc 9 rfl (pc 51 rfl pn))))))))))
   ·skip
    have g22p := g22
    try simp only [Bool.not_eq_true', Bool.not_eq_false', decide_eq_true_eq, decide_eq_false_iff_not, Bool.and_eq_true, Bool.or_eq_false_iff, withinB_iff] at g22p
    refine kl_gT rfl rfl g22 ?_
    refine kl_mv rfl ?_
    refine kl_gT rfl rfl g22 ?_
    refine kl_not rfl ?_
    refine kl_orF rfl rfl g22 ?_
    exact J23 _ (pc 54 rfl (pc 2 rfl (pc 3 rfl (pc 4 rfl (pc 5 rfl (pc 6 rfl (pc 7 rfl (pc 8 rfl (pc 9 rfl (pc 51 rfl pn))))))))))
  refine kl_nil (kq_code ?_)
  refine kc_cond rfl (fun c24 => ?_) (fun c24 => ?_)
  ·skip
   have c24r := c24
   try simp only [Bool.not_eq_true', Bool.not_eq_false', Bool.not_true, Bool.not_false, decide_eq_true_eq, decide_eq_false_iff_not, Bool.and_eq_true, Bool.or_eq_false_iff] at c24
   refine kc_seq (kc_region ?_)
   refine kl_mv rfl ?_
   refine kl_mv rfl ?_
   refine kl_beq rfl rfl ?_
   refine kl_mv rfl ?_
   refine kl_join 4 62 (.bool ((((tbI z9 z14 z17).2) == ((tbI z9 z14 z17).2)) && decide (((tbI z9 z14 z17).1) = ((tbI z9 z14 z17).1)))) (pc 2 rfl (pc 3 rfl (pc 4 rfl (pc 5 rfl (pc 6 rfl (pc 58 rfl pn)))))) (fun J26 => ?_) ?_
   ·rcases Bool.eq_false_or_eq_true (((tbI z9 z14 z17).2) == ((tbI z9 z14 z17).2)) with g25 | g25
    ·skip
     have g25p := g25
     try simp only [Bool.not_eq_true', Bool.not_eq_false', decide_eq_true_eq, decide_eq_false_iff_not, Bool.and_eq_true, Bool.or_eq_false_iff, withinB_iff] at g25p
     refine kl_gT rfl rfl g25 ?_
     refine kl_mv rfl ?_
     refine kl_gT rfl rfl g25 ?_
     refine kl_mv rfl ?_
     refine kl_gT rfl rfl g25 ?_
     refine kl_eql rfl rfl ?_
     refine kl_andT rfl rfl g25 ?_
     exact J26 _ (pc 62 rfl (pc 2 rfl (pc 3 rfl (pc 4 rfl (pc 5 rfl (pc 6 rfl (pc 58 rfl pn)))))))
    ·skip
     refine kl_gF rfl rfl g25 ?_
     refine kl_gF rfl rfl g25 ?_
     refine kl_gF rfl rfl g25 ?_
     refine kl_andF (decide (((tbI z9 z14 z17).1) = ((tbI z9 z14 z17).1))) rfl rfl g25 ?_
     exact J26 _ (pc 62 rfl (pc 2 rfl (pc 3 rfl (pc 4 rfl (pc 5 rfl (pc 6 rfl (pc 58 rfl pn)))))))
   refine kl_as rfl ?_
   refine kl_nil (kq_code ?_)
   refine kc_ret ?_
   refine kq_retP rfl rfl (congrArg Value.bool ?_)
   first | rfl | (simp; done) | exact tree_end htb
  ·skip
   have c24r := c24
   try simp only [Bool.not_eq_true', Bool.not_eq_false', Bool.not_true, Bool.not_false, decide_eq_true_eq, decide_eq_false_iff_not, Bool.and_eq_true, Bool.or_eq_false_iff] at c24
   have htb := tb_g c24r
   obtain ⟨_, _, hz0, hz4, _⟩ := tb_facts htb
   refine kc_skipQ ?_
   refine kq_code ?_
   refine kc_seq (kc_region ?_)
   refine kl_ldW rfl rfl ?_
   refine kl_mv rfl ?_
   refine kl_callP rfl rfl (lbImp_ok z9 z14 (by assumption) (by assumption) (by assumption) htab) ?_
   refine kl_mv rfl ?_
   refine kl_xt rfl rfl ?_
   refine kl_xt rfl rfl ?_
   refine kl_as rfl ?_
   refine kl_as rfl ?_
   refine kl_nil (kq_code (kc_seq (kc_region ?_)))
   refine kl_ldW rfl rfl ?_
   refine kl_mv rfl ?_
   refine kl_callP rfl rfl (treeBI_ok z9 z14 (0 : Int) (by assumption) (by assumption) (by assumption) htab) ?_
   refine kl_mv rfl ?_
   refine kl_xt rfl rfl ?_
   refine kl_xt rfl rfl ?_
   refine kl_as rfl ?_
   refine kl_as rfl ?_
   refine kl_nil (kq_code (kc_seq (kc_region ?_)))
   refine kl_ldW rfl rfl ?_
   refine kl_mv rfl ?_
   refine kl_callP rfl rfl (treeBI_ok z9 z14 (4 : Int) (by assumption) (by assumption) (by assumption) htab) ?_
   refine kl_mv rfl ?_
   refine kl_xt rfl rfl ?_
   refine kl_xt rfl rfl ?_
   refine kl_as rfl ?_
   refine kl_as rfl ?_
   refine kl_nil (kq_code (kc_seq (kc_region ?_)))
   refine kl_ldW rfl rfl ?_
   refine kl_mv rfl ?_
   refine kl_call rfl rfl (minI_ok z9 z14 (by assumption) (by assumption) (by assumption)) (fun v27 H28 f29 h30 => ?_)
   obtain ⟨u31, rfl, h32⟩ := h30
   refine kl_mv rfl ?_
   refine kl_xt rfl rfl ?_
   refine kl_xt rfl rfl ?_
   refine kl_as rfl ?_
   refine kl_as rfl ?_
   refine kl_nil (kq_code ?_)
   refine kc_seq ?_
   refine kc_seq (kc_region ?_)
   refine kl_mv rfl ?_
   refine kl_gtr rfl rfl ?_
   refine kl_nil (kq_code ?_)
   refine kc_if rfl (fun c33 => ?_) (fun c33 => ?_)
   ·skip
    refine kc_seq (kc_region ?_)
    refine kl_ldW rfl rfl ?_
    refine kl_mv rfl ?_
    refine kl_mv rfl ?_
    refine kl_sub rfl rfl (by omega) ?_
    refine kl_callP rfl rfl (treeBI_ok z9 z14 (z17 - (1 : Int)) (by assumption) (by assumption) (by assumption) htab) ?_
    refine kl_mv rfl ?_
    refine kl_xt rfl rfl ?_
    refine kl_xt rfl rfl ?_
    refine kl_as rfl ?_
    refine kl_as rfl ?_
    refine kl_nil (kq_code (kc_seq (kc_region ?_)))
    refine kl_mv rfl ?_
    refine kl_not rfl ?_
    refine kl_mv rfl ?_
    refine kl_join 4 103 (.bool (!((tbI z9 z14 (z17 - (1 : Int))).2) || decide (((tbI z9 z14 z17).1) < ((tbI z9 z14 (z17 - (1 : Int))).1)))) (pc 2 rfl (pc 4 rfl (pc 6 rfl (pc 10 rfl (pc 11 rfl (pc 12 rfl (pc 13 rfl (pc 14 rfl (pc 15 rfl (pc 16 rfl (pc 17 rfl (pc 99 rfl pn)))))))))))) (fun J35 => ?_) ?_
    ·rcases Bool.eq_false_or_eq_true (!((tbI z9 z14 (z17 - (1 : Int))).2)) with g34 | g34
     ·skip
      refine kl_gF rfl rfl g34 ?_
      refine kl_gF rfl rfl g34 ?_
      refine kl_gF rfl rfl g34 ?_
      refine kl_orT (decide (((tbI z9 z14 z17).1) < ((tbI z9 z14 (z17 - (1 : Int))).1))) rfl rfl g34 ?_
      exact J35 _ (pc 103 rfl (pc 2 rfl (pc 4 rfl (pc 6 rfl (pc 10 rfl (pc 11 rfl (pc 12 rfl (pc 13 rfl (pc 14 rfl (pc 15 rfl (pc 16 rfl (pc 17 rfl (pc 99 rfl pn)))))))))))))
     ·skip
      have g34p := g34
      try simp only [Bool.not_eq_true', Bool.not_eq_false', decide_eq_true_eq, decide_eq_false_iff_not, Bool.and_eq_true, Bool.or_eq_false_iff, withinB_iff] at g34p
      refine kl_gT rfl rfl g34 ?_
      refine kl_mv rfl ?_
      refine kl_gT rfl rfl g34 ?_
      refine kl_mv rfl ?_
      refine kl_gT rfl rfl g34 ?_
      refine kl_gtr rfl rfl ?_
      refine kl_orF rfl rfl g34 ?_
      exact J35 _ (pc 103 rfl (pc 2 rfl (pc 4 rfl (pc 6 rfl (pc 10 rfl (pc 11 rfl (pc 12 rfl (pc 13 rfl (pc 14 rfl (pc 15 rfl (pc 16 rfl (pc 17 rfl (pc 99 rfl pn)))))))))))))
    refine kl_nil (kq_code ?_)
    refine kc_cond rfl (fun c36 => ?_) (fun c36 => ?_)
    ·skip
     have c36r := c36
     try simp only [Bool.not_eq_true', Bool.not_eq_false', Bool.not_true, Bool.not_false, decide_eq_true_eq, decide_eq_false_iff_not, Bool.and_eq_true, Bool.or_eq_false_iff] at c36
     exact absurd c36r (by rw [tree_no htb (by assumption)]; simp)
    ·skip
     have c36r := c36
     try simp only [Bool.not_eq_true', Bool.not_eq_false', Bool.not_true, Bool.not_false, decide_eq_true_eq, decide_eq_false_iff_not, Bool.and_eq_true, Bool.or_eq_false_iff] at c36
     refine kc_skipQ ?_
     refine kq_code ?_
     refine kc_seq (kc_region ?_)
     refine kl_mv rfl ?_
     refine kl_mv rfl ?_
     refine kl_join 2 107 (.bool (((lbI z9 z14).2) && ((tbI z9 z14 (0 : Int)).2))) (pc 2 rfl (pc 4 rfl (pc 6 rfl (pc 10 rfl (pc 12 rfl (pc 14 rfl (pc 15 rfl (pc 16 rfl (pc 17 rfl (pc 105 rfl pn)))))))))) (fun J38 => ?_) ?_
     ·rcases Bool.eq_false_or_eq_true ((lbI z9 z14).2) with g37 | g37
      ·skip
       have g37p := g37
       try simp only [Bool.not_eq_true', Bool.not_eq_false', decide_eq_true_eq, decide_eq_false_iff_not, Bool.and_eq_true, Bool.or_eq_false_iff, withinB_iff] at g37p
       refine kl_gT rfl rfl g37 ?_
       refine kl_mv rfl ?_
       refine kl_andT rfl rfl g37 ?_
       exact J38 _ (pc 107 rfl (pc 2 rfl (pc 4 rfl (pc 6 rfl (pc 10 rfl (pc 12 rfl (pc 14 rfl (pc 15 rfl (pc 16 rfl (pc 17 rfl (pc 105 rfl pn)))))))))))
      ·skip
       refine kl_gF rfl rfl g37 ?_
       refine kl_andF ((tbI z9 z14 (0 : Int)).2) rfl rfl g37 ?_
       exact J38 _ (pc 107 rfl (pc 2 rfl (pc 4 rfl (pc 6 rfl (pc 10 rfl (pc 12 rfl (pc 14 rfl (pc 15 rfl (pc 16 rfl (pc 17 rfl (pc 105 rfl pn)))))))))))
     refine kl_mv rfl ?_
     refine kl_join 4 112 (.bool ((((lbI z9 z14).2) && ((tbI z9 z14 (0 : Int)).2)) && decide (((tbI z9 z14 (0 : Int)).1) = ((lbI z9 z14).1)))) (pc 2 rfl (pc 4 rfl (pc 6 rfl (pc 14 rfl (pc 15 rfl (pc 16 rfl (pc 17 rfl (pc 108 rfl pn)))))))) (fun J40 => ?_) ?_
     ·rcases Bool.eq_false_or_eq_true (((lbI z9 z14).2) && ((tbI z9 z14 (0 : Int)).2)) with g39 | g39
      ·skip
       have g39p := g39
       try simp only [Bool.not_eq_true', Bool.not_eq_false', decide_eq_true_eq, decide_eq_false_iff_not, Bool.and_eq_true, Bool.or_eq_false_iff, withinB_iff] at g39p
       refine kl_gT rfl rfl g39 ?_
       refine kl_mv rfl ?_
       refine kl_gT rfl rfl g39 ?_
       refine kl_mv rfl ?_
       refine kl_gT rfl rfl g39 ?_
       refine kl_eql rfl rfl ?_
       refine kl_andT rfl rfl g39 ?_
       exact J40 _ (pc 112 rfl (pc 2 rfl (pc 4 rfl (pc 6 rfl (pc 14 rfl (pc 15 rfl (pc 16 rfl (pc 17 rfl (pc 108 rfl pn)))))))))
      ·skip
       refine kl_gF rfl rfl g39 ?_
       refine kl_gF rfl rfl g39 ?_
       refine kl_gF rfl rfl g39 ?_
       refine kl_andF (decide (((tbI z9 z14 (0 : Int)).1) = ((lbI z9 z14).1))) rfl rfl g39 ?_
       exact J40 _ (pc 112 rfl (pc 2 rfl (pc 4 rfl (pc 6 rfl (pc 14 rfl (pc 15 rfl (pc 16 rfl (pc 17 rfl (pc 108 rfl pn)))))))))
     refine kl_mv rfl ?_
     refine kl_join 4 117 (.bool (((((lbI z9 z14).2) && ((tbI z9 z14 (0 : Int)).2)) && decide (((tbI z9 z14 (0 : Int)).1) = ((lbI z9 z14).1))) && (((tbI z9 z14 (4 : Int)).2) == ((minI z9 z14).2)))) (pc 2 rfl (pc 4 rfl (pc 6 rfl (pc 14 rfl (pc 16 rfl (pc 17 rfl (pc 113 rfl pn))))))) (fun J42 => ?_) ?_
     ·rcases Bool.eq_false_or_eq_true ((((lbI z9 z14).2) && ((tbI z9 z14 (0 : Int)).2)) && decide (((tbI z9 z14 (0 : Int)).1) = ((lbI z9 z14).1))) with g41 | g41
      ·skip
       have g41p := g41
       try simp only [Bool.not_eq_true', Bool.not_eq_false', decide_eq_true_eq, decide_eq_false_iff_not, Bool.and_eq_true, Bool.or_eq_false_iff, withinB_iff] at g41p
       refine kl_gT rfl rfl g41 ?_
       refine kl_mv rfl ?_
       refine kl_gT rfl rfl g41 ?_
       refine kl_mv rfl ?_
       refine kl_gT rfl rfl g41 ?_
       refine kl_beq rfl rfl ?_
       refine kl_andT rfl rfl g41 ?_
       exact J42 _ (pc 117 rfl (pc 2 rfl (pc 4 rfl (pc 6 rfl (pc 14 rfl (pc 16 rfl (pc 17 rfl (pc 113 rfl pn))))))))
      ·skip
       refine kl_gF rfl rfl g41 ?_
       refine kl_gF rfl rfl g41 ?_
       refine kl_gF rfl rfl g41 ?_
       refine kl_andF (((tbI z9 z14 (4 : Int)).2) == ((minI z9 z14).2)) rfl rfl g41 ?_
       exact J42 _ (pc 117 rfl (pc 2 rfl (pc 4 rfl (pc 6 rfl (pc 14 rfl (pc 16 rfl (pc 17 rfl (pc 113 rfl pn))))))))
     refine kl_mv rfl ?_
     refine kl_join 15 133 (.bool ((((((lbI z9 z14).2) && ((tbI z9 z14 (0 : Int)).2)) && decide (((tbI z9 z14 (0 : Int)).1) = ((lbI z9 z14).1))) && (((tbI z9 z14 (4 : Int)).2) == ((minI z9 z14).2))) && (!((minI z9 z14).2) || (decide (((tbI z9 z14 (4 : Int)).1) = (objVal z14 ((minI z9 z14).1))) && decide (((tbI z9 z14 z17).1) ≤ ((tbI z9 z14 (4 : Int)).1)))))) (pc 2 rfl (pc 118 rfl pn)) (fun J48 => ?_) ?_
     ·rcases Bool.eq_false_or_eq_true (((((lbI z9 z14).2) && ((tbI z9 z14 (0 : Int)).2)) && decide (((tbI z9 z14 (0 : Int)).1) = ((lbI z9 z14).1))) && (((tbI z9 z14 (4 : Int)).2) == ((minI z9 z14).2))) with g43 | g43
      ·skip
       have g43p := g43
       try simp only [Bool.not_eq_true', Bool.not_eq_false', decide_eq_true_eq, decide_eq_false_iff_not, Bool.and_eq_true, Bool.or_eq_false_iff, withinB_iff] at g43p
       refine kl_gT rfl rfl g43 ?_
       refine kl_mv rfl ?_
       refine kl_gT rfl rfl g43 ?_
       refine kl_not rfl ?_
       refine kl_gT rfl rfl g43 ?_
       refine kl_mv rfl ?_
       refine kl_join 11 132 (.bool (!((minI z9 z14).2) || (decide (((tbI z9 z14 (4 : Int)).1) = (objVal z14 ((minI z9 z14).1))) && decide (((tbI z9 z14 z17).1) ≤ ((tbI z9 z14 (4 : Int)).1))))) (pc 2 rfl (pc 118 rfl (pc 121 rfl pn))) (fun J47 => ?_) ?_
       ·rcases Bool.eq_false_or_eq_true (!((minI z9 z14).2)) with g44 | g44
        ·skip
         refine kl_gF rfl rfl g44 ?_
         refine kl_gF rfl rfl g44 ?_
         refine kl_gF rfl rfl g44 ?_
         refine kl_gF rfl rfl g44 ?_
         refine kl_gF rfl rfl g44 ?_
         refine kl_gF rfl rfl g44 ?_
         refine kl_gU rfl rfl ?_
         refine kl_gU rfl rfl ?_
         refine kl_gU rfl rfl ?_
         refine kl_gF rfl rfl g44 ?_
         refine kl_gT rfl rfl g43 ?_
         refine kl_orT (decide (((tbI z9 z14 (4 : Int)).1) = (objVal z14 ((minI z9 z14).1))) && decide (((tbI z9 z14 z17).1) ≤ ((tbI z9 z14 (4 : Int)).1))) rfl rfl g44 ?_
         exact J47 _ (pc 132 rfl (pc 2 rfl (pc 118 rfl (pc 121 rfl pn))))
        ·skip
         have g44p := g44
         try simp only [Bool.not_eq_true', Bool.not_eq_false', decide_eq_true_eq, decide_eq_false_iff_not, Bool.and_eq_true, Bool.or_eq_false_iff, withinB_iff] at g44p
         refine kl_gT rfl rfl g44 ?_
         refine kl_mv rfl ?_
         refine kl_gT rfl rfl g44 ?_
         refine kl_mv rfl ?_
         refine kl_gT rfl rfl g44 ?_
         refine kl_mv rfl ?_
         refine kl_gT rfl rfl g44 ?_
         refine kl_callP rfl rfl (objValI_ok z14 ((minI z9 z14).1) (by assumption) (by assumption)) ?_
         refine kl_gT rfl rfl g44 ?_
         refine kl_eql rfl rfl ?_
         refine kl_gT rfl rfl g44 ?_
         refine kl_mv rfl ?_
         refine kl_join 4 131 (.bool (decide (((tbI z9 z14 (4 : Int)).1) = (objVal z14 ((minI z9 z14).1))) && decide (((tbI z9 z14 z17).1) ≤ ((tbI z9 z14 (4 : Int)).1)))) (pc 2 rfl (pc 118 rfl (pc 121 rfl (pc 127 rfl pn)))) (fun J46 => ?_) ?_
         ·rcases Bool.eq_false_or_eq_true (decide (((tbI z9 z14 (4 : Int)).1) = (objVal z14 ((minI z9 z14).1)))) with g45 | g45
          ·skip
           have g45p := of_decide_eq_true g45
           refine kl_gT rfl rfl g45 ?_
           refine kl_mv rfl ?_
           refine kl_gT rfl rfl g45 ?_
           refine kl_mv rfl ?_
           refine kl_gT rfl rfl g45 ?_
           refine kl_leq rfl rfl ?_
           refine kl_gT rfl rfl g44 ?_
           refine kl_andT rfl rfl g45 ?_
           exact J46 _ (pc 131 rfl (pc 2 rfl (pc 118 rfl (pc 121 rfl (pc 127 rfl pn)))))
          ·skip
           refine kl_gF rfl rfl g45 ?_
           refine kl_gF rfl rfl g45 ?_
           refine kl_gF rfl rfl g45 ?_
           refine kl_gT rfl rfl g44 ?_
           refine kl_andF (decide (((tbI z9 z14 z17).1) ≤ ((tbI z9 z14 (4 : Int)).1))) rfl rfl g45 ?_
           exact J46 _ (pc 131 rfl (pc 2 rfl (pc 118 rfl (pc 121 rfl (pc 127 rfl pn)))))
         refine kl_gT rfl rfl g43 ?_
         refine kl_orF rfl rfl g44 ?_
         exact J47 _ (pc 132 rfl (pc 2 rfl (pc 118 rfl (pc 121 rfl pn))))
       refine kl_andT rfl rfl g43 ?_
       exact J48 _ (pc 133 rfl (pc 2 rfl (pc 118 rfl pn)))
      ·skip
       refine kl_gF rfl rfl g43 ?_
       refine kl_gF rfl rfl g43 ?_
       refine kl_gF rfl rfl g43 ?_
       refine kl_gU rfl rfl ?_
       refine kl_gU rfl rfl ?_
       refine kl_gU rfl rfl ?_
       refine kl_gU rfl rfl ?_
       refine kl_gU rfl rfl ?_
       refine kl_gU rfl rfl ?_
       refine kl_gU rfl rfl ?_
       refine kl_gU rfl rfl ?_
       refine kl_gU rfl rfl ?_
       refine kl_gU rfl rfl ?_
       refine kl_gF rfl rfl g43 ?_
       refine kl_andF (!((minI z9 z14).2) || (decide (((tbI z9 z14 (4 : Int)).1) = (objVal z14 ((minI z9 z14).1))) && decide (((tbI z9 z14 z17).1) ≤ ((tbI z9 z14 (4 : Int)).1)))) rfl rfl g43 ?_
       exact J48 _ (pc 133 rfl (pc 2 rfl (pc 118 rfl pn)))
     refine kl_as rfl ?_
     refine kl_nil (kq_code ?_)
     refine kc_ret ?_
     refine kq_retP rfl rfl (congrArg Value.bool ?_)
     first | rfl | (simp; done) | exact tree_end htb
   ·skip
    refine kc_skipQ ?_
    refine kq_code ?_
    refine kc_seq (kc_region ?_)
    refine kl_mv rfl ?_
    refine kl_mv rfl ?_
    refine kl_join 2 107 (.bool (((lbI z9 z14).2) && ((tbI z9 z14 (0 : Int)).2))) (pc 2 rfl (pc 4 rfl (pc 6 rfl (pc 10 rfl (pc 12 rfl (pc 14 rfl (pc 15 rfl (pc 16 rfl (pc 17 rfl (pc 105 rfl pn)))))))))) (fun J50 => ?_) ?_
    ·rcases Bool.eq_false_or_eq_true ((lbI z9 z14).2) with g49 | g49
     ·skip
      have g49p := g49
      try simp only [Bool.not_eq_true', Bool.not_eq_false', decide_eq_true_eq, decide_eq_false_iff_not, Bool.and_eq_true, Bool.or_eq_false_iff, withinB_iff] at g49p
      refine kl_gT rfl rfl g49 ?_
      refine kl_mv rfl ?_
      refine kl_andT rfl rfl g49 ?_
      exact J50 _ (pc 107 rfl (pc 2 rfl (pc 4 rfl (pc 6 rfl (pc 10 rfl (pc 12 rfl (pc 14 rfl (pc 15 rfl (pc 16 rfl (pc 17 rfl (pc 105 rfl pn)))))))))))
     ·skip
      refine kl_gF rfl rfl g49 ?_
      refine kl_andF ((tbI z9 z14 (0 : Int)).2) rfl rfl g49 ?_
      exact J50 _ (pc 107 rfl (pc 2 rfl (pc 4 rfl (pc 6 rfl (pc 10 rfl (pc 12 rfl (pc 14 rfl (pc 15 rfl (pc 16 rfl (pc 17 rfl (pc 105 rfl pn)))))))))))
    refine kl_mv rfl ?_
    refine kl_join 4 112 (.bool ((((lbI z9 z14).2) && ((tbI z9 z14 (0 : Int)).2)) && decide (((tbI z9 z14 (0 : Int)).1) = ((lbI z9 z14).1)))) (pc 2 rfl (pc 4 rfl (pc 6 rfl (pc 14 rfl (pc 15 rfl (pc 16 rfl (pc 17 rfl (pc 108 rfl pn)))))))) (fun J52 => ?_) ?_
    ·rcases Bool.eq_false_or_eq_true (((lbI z9 z14).2) && ((tbI z9 z14 (0 : Int)).2)) with g51 | g51
     ·skip
      have g51p := g51
      try simp only [Bool.not_eq_true', Bool.not_eq_false', decide_eq_true_eq, decide_eq_false_iff_not, Bool.and_eq_true, Bool.or_eq_false_iff, withinB_iff] at g51p
      refine kl_gT rfl rfl g51 ?_
      refine kl_mv rfl ?_
      refine kl_gT rfl rfl g51 ?_
      refine kl_mv rfl ?_
      refine kl_gT rfl rfl g51 ?_
      refine kl_eql rfl rfl ?_
      refine kl_andT rfl rfl g51 ?_
      exact J52 _ (pc 112 rfl (pc 2 rfl (pc 4 rfl (pc 6 rfl (pc 14 rfl (pc 15 rfl (pc 16 rfl (pc 17 rfl (pc 108 rfl pn)))))))))
     ·skip
      refine kl_gF rfl rfl g51 ?_
      refine kl_gF rfl rfl g51 ?_
      refine kl_gF rfl rfl g51 ?_
      refine kl_andF (decide (((tbI z9 z14 (0 : Int)).1) = ((lbI z9 z14).1))) rfl rfl g51 ?_
      exact J52 _ (pc 112 rfl (pc 2 rfl (pc 4 rfl (pc 6 rfl (pc 14 rfl (pc 15 rfl (pc 16 rfl (pc 17 rfl (pc 108 rfl pn)))))))))
    refine kl_mv rfl ?_
    refine kl_join 4 117 (.bool (((((lbI z9 z14).2) && ((tbI z9 z14 (0 : Int)).2)) && decide (((tbI z9 z14 (0 : Int)).1) = ((lbI z9 z14).1))) && (((tbI z9 z14 (4 : Int)).2) == ((minI z9 z14).2)))) (pc 2 rfl (pc 4 rfl (pc 6 rfl (pc 14 rfl (pc 16 rfl (pc 17 rfl (pc 113 rfl pn))))))) (fun J54 => ?_) ?_
    ·rcases Bool.eq_false_or_eq_true ((((lbI z9 z14).2) && ((tbI z9 z14 (0 : Int)).2)) && decide (((tbI z9 z14 (0 : Int)).1) = ((lbI z9 z14).1))) with g53 | g53
     ·skip
      have g53p := g53
      try simp only [Bool.not_eq_true', Bool.not_eq_false', decide_eq_true_eq, decide_eq_false_iff_not, Bool.and_eq_true, Bool.or_eq_false_iff, withinB_iff] at g53p
      refine kl_gT rfl rfl g53 ?_
      refine kl_mv rfl ?_
      refine kl_gT rfl rfl g53 ?_
      refine kl_mv rfl ?_
      refine kl_gT rfl rfl g53 ?_
      refine kl_beq rfl rfl ?_
      refine kl_andT rfl rfl g53 ?_
      exact J54 _ (pc 117 rfl (pc 2 rfl (pc 4 rfl (pc 6 rfl (pc 14 rfl (pc 16 rfl (pc 17 rfl (pc 113 rfl pn))))))))
     ·skip
      refine kl_gF rfl rfl g53 ?_
      refine kl_gF rfl rfl g53 ?_
      refine kl_gF rfl rfl g53 ?_
      refine kl_andF (((tbI z9 z14 (4 : Int)).2) == ((minI z9 z14).2)) rfl rfl g53 ?_
      exact J54 _ (pc 117 rfl (pc 2 rfl (pc 4 rfl (pc 6 rfl (pc 14 rfl (pc 16 rfl (pc 17 rfl (pc 113 rfl pn))))))))
    refine kl_mv rfl ?_
    refine kl_join 15 133 (.bool ((((((lbI z9 z14).2) && ((tbI z9 z14 (0 : Int)).2)) && decide (((tbI z9 z14 (0 : Int)).1) = ((lbI z9 z14).1))) && (((tbI z9 z14 (4 : Int)).2) == ((minI z9 z14).2))) && (!((minI z9 z14).2) || (decide (((tbI z9 z14 (4 : Int)).1) = (objVal z14 ((minI z9 z14).1))) && decide (((tbI z9 z14 z17).1) ≤ ((tbI z9 z14 (4 : Int)).1)))))) (pc 2 rfl (pc 118 rfl pn)) (fun J60 => ?_) ?_
    ·rcases Bool.eq_false_or_eq_true (((((lbI z9 z14).2) && ((tbI z9 z14 (0 : Int)).2)) && decide (((tbI z9 z14 (0 : Int)).1) = ((lbI z9 z14).1))) && (((tbI z9 z14 (4 : Int)).2) == ((minI z9 z14).2))) with g55 | g55
     ·skip
      have g55p := g55
      try simp only [Bool.not_eq_true', Bool.not_eq_false', decide_eq_true_eq, decide_eq_false_iff_not, Bool.and_eq_true, Bool.or_eq_false_iff, withinB_iff] at g55p
      refine kl_gT rfl rfl g55 ?_
      refine kl_mv rfl ?_
      refine kl_gT rfl rfl g55 ?_
      refine kl_not rfl ?_
      refine kl_gT rfl rfl g55 ?_
      refine kl_mv rfl ?_
      refine kl_join 11 132 (.bool (!((minI z9 z14).2) || (decide (((tbI z9 z14 (4 : Int)).1) = (objVal z14 ((minI z9 z14).1))) && decide (((tbI z9 z14 z17).1) ≤ ((tbI z9 z14 (4 : Int)).1))))) (pc 2 rfl (pc 118 rfl (pc 121 rfl pn))) (fun J59 => ?_) ?_
      ·rcases Bool.eq_false_or_eq_true (!((minI z9 z14).2)) with g56 | g56
       ·skip
        refine kl_gF rfl rfl g56 ?_
        refine kl_gF rfl rfl g56 ?_
        refine kl_gF rfl rfl g56 ?_
        refine kl_gF rfl rfl g56 ?_
        refine kl_gF rfl rfl g56 ?_
        refine kl_gF rfl rfl g56 ?_
        refine kl_gU rfl rfl ?_
        refine kl_gU rfl rfl ?_
        refine kl_gU rfl rfl ?_
        refine kl_gF rfl rfl g56 ?_
        refine kl_gT rfl rfl g55 ?_
        refine kl_orT (decide (((tbI z9 z14 (4 : Int)).1) = (objVal z14 ((minI z9 z14).1))) && decide (((tbI z9 z14 z17).1) ≤ ((tbI z9 z14 (4 : Int)).1))) rfl rfl g56 ?_
        exact J59 _ (pc 132 rfl (pc 2 rfl (pc 118 rfl (pc 121 rfl pn))))
       ·skip
        have g56p := g56
        try simp only [Bool.not_eq_true', Bool.not_eq_false', decide_eq_true_eq, decide_eq_false_iff_not, Bool.and_eq_true, Bool.or_eq_false_iff, withinB_iff] at g56p
        refine kl_gT rfl rfl g56 ?_
        refine kl_mv rfl ?_
        refine kl_gT rfl rfl g56 ?_
        refine kl_mv rfl ?_
        refine kl_gT rfl rfl g56 ?_
        refine kl_mv rfl ?_
        refine kl_gT rfl rfl g56 ?_
        refine kl_callP rfl rfl (objValI_ok z14 ((minI z9 z14).1) (by assumption) (by assumption)) ?_
        refine kl_gT rfl rfl g56 ?_
        refine kl_eql rfl rfl ?_
        refine kl_gT rfl rfl g56 ?_
        refine kl_mv rfl ?_
        refine kl_join 4 131 (.bool (decide (((tbI z9 z14 (4 : Int)).1) = (objVal z14 ((minI z9 z14).1))) && decide (((tbI z9 z14 z17).1) ≤ ((tbI z9 z14 (4 : Int)).1)))) (pc 2 rfl (pc 118 rfl (pc 121 rfl (pc 127 rfl pn)))) (fun J58 => ?_) ?_
        ·rcases Bool.eq_false_or_eq_true (decide (((tbI z9 z14 (4 : Int)).1) = (objVal z14 ((minI z9 z14).1)))) with g57 | g57
         ·skip
          have g57p := of_decide_eq_true g57
          refine kl_gT rfl rfl g57 ?_
          refine kl_mv rfl ?_
          refine kl_gT rfl rfl g57 ?_
          refine kl_mv rfl ?_
          refine kl_gT rfl rfl g57 ?_
          refine kl_leq rfl rfl ?_
          refine kl_gT rfl rfl g56 ?_
          refine kl_andT rfl rfl g57 ?_
          exact J58 _ (pc 131 rfl (pc 2 rfl (pc 118 rfl (pc 121 rfl (pc 127 rfl pn)))))
         ·skip
          refine kl_gF rfl rfl g57 ?_
          refine kl_gF rfl rfl g57 ?_
          refine kl_gF rfl rfl g57 ?_
          refine kl_gT rfl rfl g56 ?_
          refine kl_andF (decide (((tbI z9 z14 z17).1) ≤ ((tbI z9 z14 (4 : Int)).1))) rfl rfl g57 ?_
          exact J58 _ (pc 131 rfl (pc 2 rfl (pc 118 rfl (pc 121 rfl (pc 127 rfl pn)))))
        refine kl_gT rfl rfl g55 ?_
        refine kl_orF rfl rfl g56 ?_
        exact J59 _ (pc 132 rfl (pc 2 rfl (pc 118 rfl (pc 121 rfl pn))))
      refine kl_andT rfl rfl g55 ?_
      exact J60 _ (pc 133 rfl (pc 2 rfl (pc 118 rfl pn)))
     ·skip
      refine kl_gF rfl rfl g55 ?_
      refine kl_gF rfl rfl g55 ?_
      refine kl_gF rfl rfl g55 ?_
      refine kl_gU rfl rfl ?_
      refine kl_gU rfl rfl ?_
      refine kl_gU rfl rfl ?_
      refine kl_gU rfl rfl ?_
      refine kl_gU rfl rfl ?_
      refine kl_gU rfl rfl ?_
      refine kl_gU rfl rfl ?_
      refine kl_gU rfl rfl ?_
      refine kl_gU rfl rfl ?_
      refine kl_gU rfl rfl ?_
      refine kl_gF rfl rfl g55 ?_
      refine kl_andF (!((minI z9 z14).2) || (decide (((tbI z9 z14 (4 : Int)).1) = (objVal z14 ((minI z9 z14).1))) && decide (((tbI z9 z14 z17).1) ≤ ((tbI z9 z14 (4 : Int)).1)))) rfl rfl g55 ?_
      exact J60 _ (pc 133 rfl (pc 2 rfl (pc 118 rfl pn)))
    refine kl_as rfl ?_
    refine kl_nil (kq_code ?_)
    refine kc_ret ?_
    refine kq_retP rfl rfl (congrArg Value.bool ?_)
    first | rfl | (simp; done) | exact tree_end htb
end Go.Proofs.YtbcpoljdkopmoaaGreatDoor
