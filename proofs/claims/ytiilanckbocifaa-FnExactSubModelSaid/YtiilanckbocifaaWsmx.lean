/- Walks of functions of the program: each returns what the plain function gives. Conditions: those that each statement names. -/
import Derived.Test.YtiilanckbocifaaWmcx
import Derived.Test.YtiilanckbocifaaWsmi
namespace Go.Proofs.Ytiilanckbocifaa
open Go
set_option linter.unusedSimpArgs false
set_option linter.unusedVariables false
theorem subX_ok {Hmd : Hp} {vmd : Value} {Hmc : Hp} {vmc : Value} {Hvars : Hp} {vvars : Value} (m : Mod) (vars : List Int) (hmd : Ints Hmd vmd m.doms) (hmc : Cons Hmc vmc m.cons) (hvars : Ints Hvars vvars vars) : Spec Try.prog 7 [.agg #[vmd, vmc], vvars] [Hmd, Hmc, Hvars] ((fun Hq vq => ∃ (mq : Mod) (bq : Bool) (ud uc : Value), vq = .tuple #[.agg #[ud, uc], .bool bq] ∧ ModX 53 23 3 Hq ud uc mq ∧ (mq, bq) = subR m vars)) := by
 refine spec_ofR Try.func7 rfl rfl rfl (fun B => ?_)
 refine kc_seq (kc_region (kl_box rfl rfl (fun p1 H2 f3 a4 => ?_)))
 refine kl_box rfl (Sl.cells (by assumption)) (fun p5 H6 f7 a8 => ?_)
 refine kl_alloc (cs := [.slice none 0 0, .slice none 0 0]) rfl (fun b9 hb10 => ?_)
 refine kl_as rfl (kl_nil (kq_code (kc_seq (kc_seq (kc_region (kl_ldS rfl (by assumption) rfl ?_))))))
 refine kl_ld rfl (by assumption) (kl_callP rfl rfl (variableSet_ok m vars (by assumption) (by assumption) (by assumption)) ?_)
 refine kl_not rfl (kl_mv rfl (kl_join 4 21 (.bool (!(varSetI m vars) || decide ((vars.length : Int) = (0 : Int)))) (pc 2 rfl (pc 3 rfl (pc 4 rfl (pc 5 rfl (pc 17 rfl pn))))) (fun J13 => ?_) ?_))
 ·rcases Bool.eq_false_or_eq_true (!(varSetI m vars)) with g11 | g11
  ·skip
   refine kl_gF rfl rfl g11 (kl_gF rfl rfl g11 (kl_gF rfl rfl g11 (kl_orT (decide ((vars.length : Int) = (0 : Int))) rfl rfl g11 ?_)))
   exact J13 _ (pc 21 rfl (pc 2 rfl (pc 3 rfl (pc 4 rfl (pc 5 rfl (pc 17 rfl pn))))))
  ·skip
   have g11p := g11
   try simp only [Bool.not_eq_true', Bool.not_eq_false', decide_eq_true_eq, decide_eq_false_iff_not, Bool.and_eq_true, Bool.or_eq_false_iff, withinB_iff] at g11p
   refine kl_gT rfl rfl g11 (kl_ld rfl (by assumption) (kl_gT rfl rfl g11 (kl_len rfl (by assumption) (fun l12 => ?_))))
   refine kl_gT rfl rfl g11 (kl_eql rfl rfl ?_)
   refine kl_orF rfl rfl g11 ?_
   exact J13 _ (pc 21 rfl (pc 2 rfl (pc 3 rfl (pc 4 rfl (pc 5 rfl (pc 17 rfl pn))))))
 refine kl_nil (kq_code (kc_cond rfl (fun c14 => ?_) (fun c14 => ?_)))
 ·skip
  have c14r := c14
  try simp only [smpC, decide_eq_true_eq, decide_eq_false_iff_not] at c14
  refine kc_seq (kc_region (kl_bd rfl cp_nil rfl ?_))
  refine kl_stW (us := [.slice none 0 0, .slice none 0 0]) rfl rfl rfl rfl (oc rfl (oc rfl oc_nil)) rfl ?_
  refine kl_chg [sing b9 (.cells [.slice none 0 0, .slice none 0 0].toArray 26 (0, 0))] rfl ?_
  refine kl_as rfl (kl_nil (kq_code (kc_ret ?_)))
  exact kq_retR (rss2 rfl (rs_agg rfl rfl) (rs_tmp rfl)) noHp (fr_no _) ⟨(⟨[], []⟩ : Mod), false, _, _, rfl, ModX.nil, (sub_noI (by assumption)).symm⟩ .none
 ·skip
  have c14r := c14
  try simp only [smpC, decide_eq_true_eq, decide_eq_false_iff_not] at c14
  have hS := sub_go c14r
  have hvl := sub_few hS
  have hsm := ok_small hS.hM
  have hfew := hS.hM.few
  refine kc_skipQ (kq_code (kc_seq (kc_region (kl_bd rfl cp_nil rfl ?_))))
  refine kl_alloc (cs := [.slice none 0 0, .slice none 0 0]) rfl (fun b15 hb16 => ?_)
  refine kl_stW (us := [.slice none 0 0, .slice none 0 0]) rfl rfl rfl rfl (oc rfl (oc rfl oc_nil)) rfl ?_
  refine kl_chg [sing b15 (.cells [.slice none 0 0, .slice none 0 0].toArray 26 (0, 0)), sing b9 (.cells [.slice none 0 0, .slice none 0 0].toArray 26 (0, 0))] rfl ?_
  refine kl_nil (kq_code (kc_seq (kc_seq (kc_region (kl_ld rfl (by assumption) (kl_len rfl (by assumption) (fun l17 => ?_)))))))
  refine kl_mv rfl (kl_nil (kq_code (kc_block (kc_no ?_))))
  refine kc_loopL (A := Nat × List Int × Value × Hp) (fun zz => (zz.1 ≤ vars.length) ∧ (zz.2.1 = wordTo vars m.doms zz.1) ∧ OwnL 3 1 zz.2.2.2 noHp IntV zz.2.2.1 zz.2.1 ∧ Fr B zz.2.2.2) (fun zz => vars.length - zz.1) (fun zz => [zz.2.2.2, sing b15 (.cells [zz.2.2.1, .slice none 0 0].toArray 26 (0, 0)), sing b9 (.cells [.slice none 0 0, .slice none 0 0].toArray 26 (0, 0))]) (fun zz => [(26, .int .i64 (zz.1 : Int))]) (0, [], .slice none 0 0, noHp) (pc 2 rfl (pc 3 rfl (pc 4 rfl (pc 5 rfl (pc 6 rfl (pc 24 rfl (pc 25 rfl pn))))))) (pc 26 rfl pn) rfl ⟨Nat.zero_le _, rfl, OwnL.nil, (fr_no _)⟩ ?_
  rintro ⟨k, ds, v23, H20⟩ hJ25
  obtain ⟨hk18, hi19, o21, f22⟩ : (k ≤ vars.length) ∧ (ds = wordTo vars m.doms k) ∧ OwnL 3 1 H20 noHp IntV v23 ds ∧ Fr B H20 := hJ25
  change KC _ _ (_) [H20, sing b15 (.cells [v23, .slice none 0 0].toArray 26 (0, 0)), sing b9 (.cells [.slice none 0 0, .slice none 0 0].toArray 26 (0, 0))] _ ([(26, .int .i64 (k : Int))] ++ _)
  have hdl := word_len hi19
  refine kc_seq (kc_region (kl_lss rfl rfl ?_))
  refine kl_nil (kq_code (kc_seq (kc_if rfl (fun c26 => ?_) (fun c26 => ?_))))
  ·skip
   have hvk := hS.inn _ (getD_mem (d := (0 : Int)) (by omega : k < vars.length))
   refine kc_skipQ (kq_code (kc_seq (kc_block (kc_seq (kc_region (kl_inI rfl rfl (by assumption) (by first | omega | (simp; omega)) (fun p27 a28 => ?_)))))))
   refine kl_ld rfl (by assumption) (kl_as rfl (kl_nil (kq_code (kc_tree (fun i => ([8, 10] : List Nat).contains i) [sing b15 (.cells [v23, .slice none 0 0].toArray 26 (0, 0))] (by kernel_rfl) ?_))))
   refine kt_q 0 (.cons _ (.cons_cons _ (List.nil_sublist _))) rfl (by kernel_rfl) (kl_fdV rfl (kl_nil (kq_q (kt_q 1 (.cons _ (.cons_cons _ (List.nil_sublist _))) rfl (by kernel_rfl) (kl_ld rfl (at_box (T := 26) (cs := [v23, .slice none 0 0]) (off := 0) (fz := (0, 0))) (kl_nil (kq_q (kt_q 2 (.cons _ (.cons_cons _ (List.nil_sublist _))) rfl (by kernel_rfl) (kl_fd rfl (by assumption) (fun p29 a30 => ?_))))))))))
   refine kl_nil (kq_q (kt_q 3 (.cons _ (.cons_cons _ (List.nil_sublist _))) rfl (by kernel_rfl) (kl_ld rfl (by assumption) (kl_nil (kq_q (kt_q 4 (.cons _ (.cons_cons _ (List.nil_sublist _))) rfl (by kernel_rfl) (kl_mv rfl (kl_nil (kq_q (kt_q 5 (.cons _ (.cons_cons _ (List.nil_sublist _))) rfl (by kernel_rfl) (kl_ixI rfl rfl (by assumption) (by first | omega | (simp; omega)) (by first | omega | (simp; omega)) (fun p31 a32 => ?_))))))))))))
   refine kl_nil (kq_q (kt_q 6 (.cons _ (.cons_cons _ (List.nil_sublist _))) rfl (by kernel_rfl) (kl_ld rfl (by assumption) (kl_nil (kq_q (kt_a 7 rfl (by kernel_rfl) (kl_bs rfl rfl rfl (by decide) (ca rfl ca_nil) (fun v33 H34 f35 r36 s37 => ?_))))))))
   have h38 : Ints H34 v33 [(m.doms.getD (vars.getD k 0).toNat 0)] := litInts (xs := [(m.doms.getD (vars.getD k 0).toNat 0)]) (by simpa using s37)
   refine kl_nil (kq_a (.cons _ (.cons_cons _ (List.nil_sublist _))) (kt_a 8 rfl (by kernel_rfl) (kl_apL (m.doms.getD (vars.getD k 0).toNat 0) rfl rfl o21 (by assumption) rfl (oc rfl oc_nil) (by omega) (by decide) (fun v39 H40 o41 f42 => ?_))))
   have f43 := f42 B f22 (Nat.le_refl _)
   refine kl_nil (kq_x rfl (kt_q 9 (.cons _ (.cons_cons _ (List.nil_sublist _))) rfl (by kernel_rfl) (kl_fdV rfl (kl_nil (kq_q (kt_a 10 rfl (by kernel_rfl) (kl_stB rfl rfl rfl (OwnL.oneCell (by assumption)) (OwnL.cells (by assumption)) ?_)))))))
   refine kl_chg [H40, sing b15 (.cells [v39, .slice none 0 0].toArray 26 (0, 0)), sing b9 (.cells [.slice none 0 0, .slice none 0 0].toArray 26 (0, 0))] rfl ?_
   refine kl_nil (kq_x rfl (kt_end (by kernel_rfl) ?_))
   refine kq_code (kc_region (kl_inc rfl rfl (by omega) ?_))
   refine kl_mv rfl (kl_nil (kq_take [H40, sing b15 (.cells [v39, .slice none 0 0].toArray 26 (0, 0)), sing b9 (.cells [.slice none 0 0, .slice none 0 0].toArray 26 (0, 0))] ?_))
   refine kq_roundL ((k + 1), (ds ++ [(m.doms.getD (vars.getD k 0).toNat 0)]), v39, H40) (by omega) (⟨by omega, (word_step hi19 (by omega)), o41, f43⟩) (pc 26 rfl pn) (pc 2 rfl (pc 3 rfl (pc 4 rfl (pc 5 rfl (pc 6 rfl (pc 24 rfl (pc 25 rfl pn))))))) rfl (List.Sublist.refl _)
  ·skip
   refine kc_exit (kq_code (kc_seq (kc_seq (kc_region (kl_fd rfl (by assumption) (fun p44 a45 => ?_))))))
   refine kl_ld rfl (by assumption) (kl_len rfl (by assumption) (fun l46 => ?_))
   refine kl_mv rfl (kl_nil (kq_code (kc_block (kc_no ?_))))
   refine kc_loopK (A := Nat × List Con × Value × Hp × Hp) (fun zz => (zz.1 ≤ m.cons.length) ∧ (zz.2.1 = subTo m vars zz.1) ∧ Fr B zz.2.2.2.2 ∧ OwnL 53 5 zz.2.2.2.1 zz.2.2.2.2 ConV zz.2.2.1 zz.2.1 ∧ Fr B zz.2.2.2.1) (fun zz => m.cons.length - zz.1) (fun zz => zz.2.2.2.2) (fun zz => [zz.2.2.2.1, H20, sing b15 (.cells [v23, zz.2.2.1].toArray 26 (0, 0)), sing b9 (.cells [.slice none 0 0, .slice none 0 0].toArray 26 (0, 0))]) (fun zz => [(44, .int .i64 (zz.1 : Int))]) (0, [], .slice none 0 0, noHp, noHp) (pc 3 rfl (pc 4 rfl (pc 5 rfl (pc 6 rfl (pc 42 rfl (pc 43 rfl pn)))))) (pc 44 rfl pn) rfl ⟨Nat.zero_le _, rfl, (fr_no _), OwnL.nil, (fr_no _)⟩ ?_
   rintro ⟨j, cs, v52, H49, K53⟩ hJ56
   obtain ⟨hk47, hi48, f54, o50, f51⟩ : (j ≤ m.cons.length) ∧ (cs = subTo m vars j) ∧ Fr B K53 ∧ OwnL 53 5 H49 K53 ConV v52 cs ∧ Fr B H49 := hJ56
   change KC _ _ (K53 :: _) [H49, H20, sing b15 (.cells [v23, v52].toArray 26 (0, 0)), sing b9 (.cells [.slice none 0 0, .slice none 0 0].toArray 26 (0, 0))] _ ([(44, .int .i64 (j : Int))] ++ _)
   have hcl : cs.length ≤ 6 := (by rw [hi48]; exact subTo_len hS.hM)
   refine kc_seq (kc_region (kl_lss rfl rfl ?_))
   refine kl_nil (kq_code (kc_seq (kc_if rfl (fun c57 => ?_) (fun c57 => ?_))))
   ·skip
    refine kc_skipQ (kq_code (kc_seq (kc_block (kc_seq (kc_region (kl_inC rfl rfl (by assumption) (by first | omega | (simp; omega)) (fun p58 u60 u61 u62 h63 h64 h65 a59 => ?_)))))))
    refine kl_ldS rfl (by assumption) rfl ?_
    refine kl_alloc (cs := [.int .i64 (0 : Int), .slice none 0 0, .slice none 0 0, .int .i64 (0 : Int), .slice none 0 0]) rfl (fun b66 hb67 => ?_)
    refine kl_stW (us := [.int .i64 ((m.cons.getD j nilCon).kind), u60, u61, .int .i64 ((m.cons.getD j nilCon).bound), u62]) rfl rfl rfl rfl (oc rfl (oc (Sl.oneCell (by assumption)) (oc (Sl.oneCell (by assumption)) (oc rfl (oc (Sl.oneCell (by assumption)) oc_nil))))) rfl ?_
    refine kl_chg [sing b66 (.cells [.int .i64 ((m.cons.getD j nilCon).kind), u60, u61, .int .i64 ((m.cons.getD j nilCon).bound), u62].toArray 53 (0, 0)), H49, H20, sing b15 (.cells [v23, v52].toArray 26 (0, 0)), sing b9 (.cells [.slice none 0 0, .slice none 0 0].toArray 26 (0, 0))] rfl ?_
    refine kl_nil (kq_code (kc_seq (kc_seq (kc_region (kl_fdV rfl (kl_ldB rfl rfl (kl_mkf rfl ?_)))))))
    refine kl_callP rfl rfl (cf_int_ok ((m.cons.getD j nilCon).vars) (fun x67 => !(vars.contains x67)) (by assumption) (fun x67 _ => subM1_ok x67 vars (by assumption) (by assumption))) ?_
    refine kl_nil (kq_code (kc_cond rfl (fun c69 => ?_) (fun c69 => ?_)))
    ·skip
     have c69r := c69
     try simp only [smpC, decide_eq_true_eq, decide_eq_false_iff_not] at c69
     refine kc_exit (kq_code (kc_region (kl_inc rfl rfl (by omega) ?_)))
     refine kl_mv rfl (kl_nil (kq_take [H49, H20, sing b15 (.cells [v23, v52].toArray 26 (0, 0)), sing b9 (.cells [.slice none 0 0, .slice none 0 0].toArray 26 (0, 0))] ?_))
     refine kq_roundK ((j + 1), cs, v52, H49, K53) (by omega) (⟨by omega, (by first | exact subTo_T (by omega) hi48 (by first | assumption | exact ins_any (by assumption)) (posTo_end hnone (by omega)) | exact subTo_F (by omega) hi48 (by first | assumption | exact ins_any' (by assumption))), f54, o50, f51⟩) (pc 44 rfl pn) (pc 3 rfl (pc 4 rfl (pc 5 rfl (pc 6 rfl (pc 42 rfl (pc 43 rfl pn)))))) rfl (List.Sublist.refl _)
    ·skip
     have c69r := c69
     try simp only [smpC, decide_eq_true_eq, decide_eq_false_iff_not] at c69
     refine kc_skipQ (kq_code (kc_seq (kc_region (kl_ldW rfl rfl (kl_callT rfl rfl (copyConV_ok (m.cons.getD j nilCon) (hsm.cc _ (getD_mem (by omega))) (by assumption) (by assumption) (by assumption)) (fun v70 L1 Ln K71 h72 f73 f74 => ?_))))))
     obtain ⟨rfl, H75, u78, u79, u80, rfl, rfl, o76, h81, h82⟩ := h72
     have f77 := f73 _ (.head _)
     refine kl_norm ?_
     refine kl_stW (us := [.int .i64 ((m.cons.getD j nilCon).kind), u78, u79, .int .i64 ((m.cons.getD j nilCon).bound), u80]) rfl rfl rfl rfl (oc rfl (oc (OwnL.oneCell (by assumption)) (oc (Sl.oneCell (by assumption)) (oc rfl (oc (Sl.oneCell (by assumption)) oc_nil))))) rfl ?_
     refine kl_chg [H75, sing b66 (.cells [.int .i64 ((m.cons.getD j nilCon).kind), u78, u79, .int .i64 ((m.cons.getD j nilCon).bound), u80].toArray 53 (0, 0)), H49, H20, sing b15 (.cells [v23, v52].toArray 26 (0, 0)), sing b9 (.cells [.slice none 0 0, .slice none 0 0].toArray 26 (0, 0))] rfl ?_
     refine kl_nil (kq_code (kc_seq (kc_seq (kc_region (kl_fdV rfl (kl_ldB rfl rfl (kl_lenL rfl o76 (fun l83 => ?_))))))))
     refine kl_mv rfl (kl_nil (kq_code (kc_block (kc_loopL (A := Nat × List Int × Hp) (fun zz => (zz.1 ≤ (m.cons.getD j nilCon).vars.length) ∧ (zz.2.1 = posTo vars (m.cons.getD j nilCon).vars zz.1) ∧ OwnL 3 1 zz.2.2 noHp IntV u78 zz.2.1 ∧ Fr B zz.2.2) (fun zz => (m.cons.getD j nilCon).vars.length - zz.1) (fun zz => [zz.2.2, sing b66 (.cells [.int .i64 ((m.cons.getD j nilCon).kind), u78, u79, .int .i64 ((m.cons.getD j nilCon).bound), u80].toArray 53 (0, 0)), H49, H20, sing b15 (.cells [v23, v52].toArray 26 (0, 0)), sing b9 (.cells [.slice none 0 0, .slice none 0 0].toArray 26 (0, 0))]) (fun zz => [(57, .int .i64 (zz.1 : Int))]) (0, ((m.cons.getD j nilCon).vars), H75) (pc 3 rfl (pc 4 rfl (pc 5 rfl (pc 6 rfl (pc 10 rfl (pc 42 rfl (pc 43 rfl (pc 44 rfl (pc 45 rfl (pc 46 rfl (pc 47 rfl (pc 48 rfl (pc 49 rfl (pc 50 rfl (pc 51 rfl (pc 52 rfl (pc 53 rfl (pc 54 rfl (pc 55 rfl (pc 56 rfl pn)))))))))))))))))))) (pc 57 rfl pn) rfl ⟨Nat.zero_le _, posTo_0, o76, f77⟩ ?_))))
     rintro ⟨i, ws, H86⟩ hJ89
     obtain ⟨hk84, hi85, o87, f88⟩ : (i ≤ (m.cons.getD j nilCon).vars.length) ∧ (ws = posTo vars (m.cons.getD j nilCon).vars i) ∧ OwnL 3 1 H86 noHp IntV u78 ws ∧ Fr B H86 := hJ89
     change KC _ _ (_) [H86, sing b66 (.cells [.int .i64 ((m.cons.getD j nilCon).kind), u78, u79, .int .i64 ((m.cons.getD j nilCon).bound), u80].toArray 53 (0, 0)), H49, H20, sing b15 (.cells [v23, v52].toArray 26 (0, 0)), sing b9 (.cells [.slice none 0 0, .slice none 0 0].toArray 26 (0, 0))] _ ([(57, .int .i64 (i : Int))] ++ _)
     have hwl : ws.length = (m.cons.getD j nilCon).vars.length := (by rw [hi85]; exact posTo_len _ _ _)
     refine kc_seq (kc_region (kl_lss rfl rfl ?_))
     refine kl_nil (kq_code (kc_seq (kc_if rfl (fun c90 => ?_) (fun c90 => ?_))))
     ·skip
      refine kc_skipQ (kq_code (kc_seq (kc_block (kc_seq (kc_region (kl_mv rfl (kl_ixLn rfl rfl (by assumption) (by first | omega | (simp; omega)) (fun p91 q92 => ?_))))))))
      refine kl_ldLI rfl (by assumption) (by assumption) (by first | omega | (simp; omega)) ?_
      refine kl_as rfl (kl_as rfl (kl_nil (kq_code (kc_tree (fun i => ([7] : List Nat).contains i) [sing b66 (.cells [.int .i64 ((m.cons.getD j nilCon).kind), u78, u79, .int .i64 ((m.cons.getD j nilCon).bound), u80].toArray 53 (0, 0))] (by kernel_rfl) ?_))))
      refine kt_q 0 (.cons _ (.cons_cons _ (List.nil_sublist _))) rfl (by kernel_rfl) (kl_fdV rfl (kl_nil (kq_q (kt_q 1 (.cons _ (.cons_cons _ (List.nil_sublist _))) rfl (by kernel_rfl) (kl_ld rfl (at_box (T := 53) (cs := [.int .i64 ((m.cons.getD j nilCon).kind), u78, u79, .int .i64 ((m.cons.getD j nilCon).bound), u80]) (off := 1) (fz := (0, 0))) (kl_nil (kq_q (kt_q 2 (.cons _ (.cons_cons _ (List.nil_sublist _))) rfl (by kernel_rfl) ?_))))))))
      refine kl_mv rfl (kl_nil (kq_q (kt_q 3 (.cons _ (.cons_cons _ (List.nil_sublist _))) rfl (by kernel_rfl) (kl_ld rfl (by assumption) (kl_nil (kq_q (kt_q 4 (.cons _ (.cons_cons _ (List.nil_sublist _))) rfl (by kernel_rfl) (kl_mv rfl (kl_nil (kq_q (kt_a 5 rfl (by kernel_rfl) ?_)))))))))))
      refine kl_callP rfl rfl (indexInts_ok vars (ws.getD i 0) (by assumption)) ?_
      refine kl_nil (kq_a (.cons _ (.cons_cons _ (List.nil_sublist _))) (kt_q 6 (.cons _ (.cons_cons _ (List.nil_sublist _))) rfl (by kernel_rfl) (kl_ixLn rfl rfl (by assumption) (by first | omega | (simp; omega)) (fun p93 q94 => ?_))))
      refine kl_nil (kq_q (kt_a 7 rfl (by kernel_rfl) (kl_stL (indexBy (fun y => decide ((ws.getD i 0) = y)) vars) rfl rfl (by assumption) o87 (by first | omega | (simp; omega)) rfl rfl rfl (fun H95 o96 f97 => ?_))))
      have f98 := f97 _ f88
      refine kl_chg [H95, sing b66 (.cells [.int .i64 ((m.cons.getD j nilCon).kind), u78, u79, .int .i64 ((m.cons.getD j nilCon).bound), u80].toArray 53 (0, 0)), H49, H20, sing b15 (.cells [v23, v52].toArray 26 (0, 0)), sing b9 (.cells [.slice none 0 0, .slice none 0 0].toArray 26 (0, 0))] rfl ?_
      refine kl_nil (kq_x rfl (kt_end (by kernel_rfl) ?_))
      refine kq_code (kc_region (kl_inc rfl rfl (by omega) ?_))
      refine kl_mv rfl (kl_nil (kq_take [H95, sing b66 (.cells [.int .i64 ((m.cons.getD j nilCon).kind), u78, u79, .int .i64 ((m.cons.getD j nilCon).bound), u80].toArray 53 (0, 0)), H49, H20, sing b15 (.cells [v23, v52].toArray 26 (0, 0)), sing b9 (.cells [.slice none 0 0, .slice none 0 0].toArray 26 (0, 0))] ?_))
      refine kq_roundL ((i + 1), (ws.set i (indexBy (fun y => decide ((ws.getD i 0) = y)) vars)), H95) (by omega) (⟨by omega, (posTo_step hi85 (by omega)), o96, f98⟩) (pc 57 rfl pn) (pc 3 rfl (pc 4 rfl (pc 5 rfl (pc 6 rfl (pc 10 rfl (pc 42 rfl (pc 43 rfl (pc 44 rfl (pc 45 rfl (pc 46 rfl (pc 47 rfl (pc 48 rfl (pc 49 rfl (pc 50 rfl (pc 51 rfl (pc 52 rfl (pc 53 rfl (pc 54 rfl (pc 55 rfl (pc 56 rfl pn)))))))))))))))))))) rfl (List.Sublist.refl _)
     ·skip
      refine kc_exit (kq_code (kc_region (kl_fdV rfl (kl_ldB rfl rfl (kl_ldW rfl rfl (kl_bsK rfl (fun v99 H100 f101 r102 => ?_)))))))
      refine kl_frz H86 ?_
      have h103 := OwnL.ints o87
      refine kl_cmp K53 H86 (fun c104 => ?_)
      have o105 := OwnL.mono (K' := orHp K53 H86) o50 orL
      refine kl_cmp (orHp K53 H86) K71 (fun c106 => ?_)
      have o107 := OwnL.mono (K' := orHp (orHp K53 H86) K71) o105 orL
      refine kl_cmp (orHp (orHp K53 H86) K71) K71 (fun c108 => ?_)
      have o109 := OwnL.mono (K' := orHp (orHp (orHp K53 H86) K71) K71) o107 orL
      refine kl_apL ⟨(m.cons.getD j nilCon).kind, ws, ((m.cons.getD j nilCon).args), (m.cons.getD j nilCon).bound, ((m.cons.getD j nilCon).rows)⟩ rfl rfl o109 r102 ⟨_, _, _, rfl, (Sl.mono (by assumption) (fun b o h => orL b o (orL b o (orC c104 b o h))) (fun _ _ h => h)), (Sl.mono (by assumption) (fun b o h => orL b o (orC c106 b o h)) (fun _ _ h => h)), (Rows.mono' (by assumption) (fun b o h => orC c108 b o h))⟩ (oc rfl (oc (Sl.oneCell (by assumption)) (oc (Sl.oneCell (by assumption)) (oc rfl (oc (Sl.oneCell (by assumption)) oc_nil))))) (by omega) (by decide) (fun v110 H111 o112 f113 => ?_)
      have f114 := f113 B f51 (Nat.le_refl _)
      refine kl_fdV rfl (kl_stB rfl rfl rfl (OwnL.oneCell (by assumption)) (OwnL.cells (by assumption)) ?_)
      refine kl_chg [sing b66 (.cells [.int .i64 ((m.cons.getD j nilCon).kind), u78, u79, .int .i64 ((m.cons.getD j nilCon).bound), u80].toArray 53 (0, 0)), H111, H20, sing b15 (.cells [v23, v110].toArray 26 (0, 0)), sing b9 (.cells [.slice none 0 0, .slice none 0 0].toArray 26 (0, 0))] rfl ?_
      refine kl_nil (kq_code (kc_region (kl_inc rfl rfl (by omega) ?_)))
      refine kl_mv rfl (kl_nil (kq_take [H111, H20, sing b15 (.cells [v23, v110].toArray 26 (0, 0)), sing b9 (.cells [.slice none 0 0, .slice none 0 0].toArray 26 (0, 0))] ?_))
      refine kq_roundK ((j + 1), (cs ++ [⟨(m.cons.getD j nilCon).kind, ws, ((m.cons.getD j nilCon).args), (m.cons.getD j nilCon).bound, ((m.cons.getD j nilCon).rows)⟩]), v110, H111, (orHp (orHp (orHp K53 H86) K71) K71)) (by omega) (⟨by omega, (by first | exact subTo_T (by omega) hi48 (by first | assumption | exact ins_any (by assumption)) (posTo_end hi85 (by omega)) | exact subTo_F (by omega) hi48 (by first | assumption | exact ins_any' (by assumption))), (fr_or (fr_or (fr_or f54 f88) f74) f74), o112, f114⟩) (pc 44 rfl pn) (pc 3 rfl (pc 4 rfl (pc 5 rfl (pc 6 rfl (pc 42 rfl (pc 43 rfl pn)))))) rfl (List.Sublist.refl _)
   ·skip
    refine kc_exit (kq_code (kc_seq (kc_region (kl_ldW rfl rfl ?_))))
    have h115 := OwnL.ints o21
    refine kl_cmp H49 K53 (fun c117 => ?_)
    have h116 := OwnL.consK o50 c117
    refine kl_callL rfl rfl (copyModX_ok (⟨ds, cs⟩ : Mod) (sub_smallE hS hi19 (by omega) hi48 (by omega)).1 (by have e9 := (sub_smallE hS hi19 (by omega) hi48 (by omega)).2; rw [e9]; exact ok_rowsP (sub_valid hS)) (by assumption) (by assumption)) (fun v118 H119 f120 h121 => ?_)
    obtain ⟨u122, u123, rfl, h121⟩ := h121
    have h124 := ModX.doms h121
    have h125 := ModX.cons h121
    refine kl_stW (us := [u122, u123]) rfl rfl rfl rfl (oc (Sl.oneCell (by assumption)) (oc (Sl.oneCell (by assumption)) oc_nil)) rfl ?_
    refine kl_chg [H119, H49, H20, sing b15 (.cells [v23, v52].toArray 26 (0, 0)), sing b9 (.cells [u122, u123].toArray 26 (0, 0))] rfl ?_
    refine kl_as rfl (kl_nil (kq_code (kc_ret ?_)))
    exact kq_retR (rss2 rfl (rs_agg rfl rfl) (rs_tmp rfl)) H119 f120 ⟨(⟨ds, cs⟩ : Mod), true, _, _, rfl, h121, (sub_fin hS hi19 (by omega) hi48 (by omega))⟩ .none
end Go.Proofs.Ytiilanckbocifaa
