/- Walks of functions of the program: each returns what the plain function gives. Conditions: those that each statement names. -/
import Derived.Test.YtiilanckbocifaaWsmi
import Derived.Test.YtiilanckbocifaaWsms
import Derived.Test.YtiilanckbocifaaWeqm
import Derived.Test.YtiilanckbocifaaWvs
import Derived.Test.YtiilanckbocifaaWsp
import Derived.Test.YtiilanckbocifaaWsa
import Derived.Test.YtiilanckbocifaaWis
import Derived.Test.YtiilanckbocifaaWfl
namespace Go.Proofs.Ytiilanckbocifaa
open Go
set_option linter.unusedSimpArgs false
set_option linter.unusedVariables false
theorem drawSm_ok {Hcode : Hp} {vcode : Value} (code : List Int) (hcode : Bytes Hcode vcode code) : Spec Try.prog 6 [vcode] [Hcode] (fun Hq vq => ∃ (mq : Mod) (sq : List Int) (uq0a uq0b uq1 : Value), vq = .tuple #[.agg #[uq0a, uq0b], uq1] ∧ Ints Hq uq0a mq.doms ∧ Cons Hq uq0b mq.cons ∧ Ints Hq uq1 sq ∧ ModSm 50 mq ∧ sq.length ≤ 5) := by
 refine spec_ofR Try.func6 rfl rfl rfl (fun B => ?_)
 refine kc_seq (kc_region (kl_alloc (cs := [.slice none 0 0, .slice none 0 0]) rfl (fun b1 hb2 => ?_)))
 refine kl_as rfl (kl_nil (kq_code (kc_seq (kc_region (kl_mv rfl (kl_callT rfl rfl (newReader_ok code hcode) (fun v3 L1 Ln K7 h4 f5 f6 => ?_)))))))
 obtain ⟨rfl, b8, v9, x10, rfl, rfl, h11⟩ := h4
 refine kl_norm ?_
 refine kl_as rfl (kl_nil (kq_code (kc_seq (kc_region (kl_mv rfl (kl_callT rfl rfl (sparseModel_ok 0 (by omega) h11) (fun v12 L1 Ln K16 h13 f14 f15 => ?_)))))))
 obtain ⟨q17, h18, rfl, H21, M23, v24, v25, z19, rfl, rfl, o22, o26, h20⟩ := h13
 have f27 := f14 _ (.head _)
 have f28 := f14 _ (.tail _ (.head _))
 have hsm := h20
 have hd1 := h20.d1
 have hd4 := h20.d
 have hc1 := h20.c
 have hcc := h20.cc
 refine kl_norm ?_
 refine kl_alloc (cs := [.slice none 0 0, .slice none 0 0]) rfl (fun b29 hb30 => ?_)
 refine kl_stW (us := [v24, v25]) rfl rfl rfl rfl (oc (OwnL.oneCell (by assumption)) (oc (OwnL.oneCell (by assumption)) oc_nil)) rfl ?_
 refine kl_chg [sing b29 (.cells [v24, v25].toArray 26 (0, 0)), sing b8 (.cells [v9, .int .i64 (q17 : Int)].toArray 73 (0, 0)), H21, M23, sing b1 (.cells [.slice none 0 0, .slice none 0 0].toArray 26 (0, 0))] rfl ?_
 refine kl_nil (kq_code (kc_seq (kc_tree (fun i => ([6] : List Nat).contains i) [sing b29 (.cells [v24, v25].toArray 26 (0, 0))] (by kernel_rfl) ?_)))
 refine kt_q 0 (.cons_cons _ (List.nil_sublist _)) rfl (by kernel_rfl) (kl_ldS rfl (at_box (T := 26) (cs := [v24, v25]) (off := 0) (fz := (0, 0))) rfl ?_)
 refine kl_nil (kq_q (kt_q 1 (.cons_cons _ (List.nil_sublist _)) rfl (by kernel_rfl) (kl_mv rfl (kl_nil (kq_q (kt_q 2 (.cons_cons _ (List.nil_sublist _)) rfl (by kernel_rfl) (kl_fdV rfl (kl_nil (kq_q (kt_q 3 (.cons_cons _ (List.nil_sublist _)) rfl (by kernel_rfl) (kl_ld rfl (at_box (T := 26) (cs := [v24, v25]) (off := 0) (fz := (0, 0))) ?_)))))))))))
 refine kl_nil (kq_q (kt_q 4 (.cons_cons _ (List.nil_sublist _)) rfl (by kernel_rfl) (kl_lenL rfl o22 (fun l31 => ?_))))
 refine kl_nil (kq_q (kt_a 5 rfl (by kernel_rfl) (kl_callT rfl rfl (varSet_ok q17 (z19.doms.length : Int) (by first | assumption | omega) (by omega) h11) (fun v32 L1 Ln K36 h33 f34 f35 => ?_))))
 obtain ⟨q37, h38, rfl, H41, z39, rfl, o42, h40⟩ := h33
 have f43 := f34 _ (.head _)
 have hv9 := h40
 refine kl_norm ?_
 refine kl_nil (kq_a (.cons _ (.cons _ (.cons_cons _ (List.nil_sublist _)))) (kt_a 6 rfl (by kernel_rfl) (kl_stW (us := [v24, v25]) rfl rfl rfl rfl (oc (OwnL.oneCell (by assumption)) (oc (OwnL.oneCell (by assumption)) oc_nil)) rfl ?_)))
 refine kl_chg [sing b8 (.cells [v9, .int .i64 (q37 : Int)].toArray 73 (0, 0)), H41, sing b29 (.cells [v24, v25].toArray 26 (0, 0)), H21, M23, sing b1 (.cells [v24, v25].toArray 26 (0, 0))] rfl ?_
 refine kl_nil (kq_x rfl (kt_q 7 (.cons _ (.cons _ (.cons_cons _ (List.nil_sublist _)))) rfl (by kernel_rfl) (kl_as rfl (kl_nil (kq_q (kt_end (by kernel_rfl) ?_))))))
 refine kq_code (kc_ret (kq_frz H21 ?_))
 refine kq_frz M23 ?_
 refine kq_cmp M23 K16 (fun c44 => ?_)
 refine kq_frz H41 ?_
 refine kq_cmp (orHp M23 K16) H41 (fun c45 => ?_)
 refine kq_cmp H21 (orHp (orHp M23 K16) H41) (fun c46 => ?_)
 exact kq_retR (rss2 rfl (rs_agg rfl rfl) (rs_tmp rfl)) (orHp H21 (orHp (orHp M23 K16) H41)) (fr_or f27 (fr_or (fr_or f28 f15) f43)) ⟨(⟨z19.doms, z19.cons⟩ : Mod), z39, _, _, _, rfl, (Sl.mono (OwnL.ints o22) (fun b o h => orL b o h) (fun _ _ h => h)), (Cons.mono' (OwnL.consK o26 c44) (fun b o h => orC c46 b o (orL b o h))), (Sl.mono (OwnL.ints o42) (fun b o h => orC c46 b o (orC c45 b o h)) (fun _ _ h => h)), by exact ⟨by (constructor <;> dsimp only <;> first | omega | assumption), by assumption⟩⟩ .none
theorem lawFnSm_ok {Hcode : Hp} {vcode : Value} (code : List Int) (hcode : Bytes Hcode vcode code) : SpecP Try.prog 3 [vcode] [Hcode] (.bool true) := by
 refine spec_of Try.func3 rfl rfl rfl (fun B => ?_)
 refine kc_seq (kc_region (kl_as rfl (kl_nil (kq_code (kc_seq (kc_seq (kc_region (kl_mv rfl (kl_len rfl (by assumption) (fun l1 => ?_))))))))))
 refine kl_gtr rfl rfl ?_
 refine kl_nil (kq_code (kc_if rfl (fun c2 => ?_) (fun c2 => ?_)))
 ·skip
  refine kc_seq (kc_region (kl_as rfl (kl_nil (kq_code (kc_ret (kq_retP rfl rfl (congrArg Value.bool ?_)))))))
  first | rfl | (simp; done) | exact sm_ret hn1 hns | exact sm_fin hgo hn1 hnone (by omega)
 ·skip
  refine kc_skipQ (kq_code (kc_seq (kc_region (kl_mv rfl (kl_call rfl rfl (drawSm_ok code hcode) (fun v3 H4 f5 h6 => ?_))))))
  obtain ⟨z9, z14, u10, u11, u15, rfl, h12, h13, h16, h8⟩ := h6
  have hd1 := h8.1.d1
  have hd4 := h8.1.d
  have hvl := h8.2
  refine kl_mv rfl (kl_xt rfl rfl (kl_xt rfl rfl (kl_alloc (cs := [.slice none 0 0, .slice none 0 0]) rfl (fun b17 hb18 => ?_))))
  refine kl_stW (us := [u10, u11]) rfl rfl rfl rfl (oc (Sl.oneCell (by assumption)) (oc (Sl.oneCell (by assumption)) oc_nil)) rfl ?_
  refine kl_chg [sing b17 (.cells [u10, u11].toArray 26 (0, 0))] rfl ?_
  refine kl_as rfl (kl_nil (kq_code (kc_seq (kc_region (kl_ldW rfl rfl (kl_mv rfl (kl_call rfl rfl (subI_ok z9 z14 (by assumption) (by assumption) (by assumption)) (fun v19 H20 f21 h22 => ?_))))))))
  obtain ⟨z25, z30, u26, u27, rfl, h28, h29, h24⟩ := h22
  have hn1 := h24
  refine kl_mv rfl (kl_xt rfl rfl (kl_xt rfl rfl (kl_alloc (cs := [.slice none 0 0, .slice none 0 0]) rfl (fun b31 hb32 => ?_))))
  refine kl_stW (us := [u26, u27]) rfl rfl rfl rfl (oc (Sl.oneCell (by assumption)) (oc (Sl.oneCell (by assumption)) oc_nil)) rfl ?_
  refine kl_chg [sing b31 (.cells [u26, u27].toArray 26 (0, 0)), sing b17 (.cells [u10, u11].toArray 26 (0, 0))] rfl ?_
  refine kl_as rfl (kl_nil (kq_code (kc_seq (kc_region (kl_ldW rfl rfl (kl_mv rfl (kl_call rfl rfl (subS_ok z9 z14 (by assumption) (by assumption) (by assumption)) (fun v33 H34 f35 h36 => ?_))))))))
  obtain ⟨z39, z44, u40, u41, rfl, h42, h43, h38⟩ := h36
  have hns := h38
  refine kl_mv rfl (kl_xt rfl rfl (kl_xt rfl rfl (kl_alloc (cs := [.slice none 0 0, .slice none 0 0]) rfl (fun b45 hb46 => ?_))))
  refine kl_stW (us := [u40, u41]) rfl rfl rfl rfl (oc (Sl.oneCell (by assumption)) (oc (Sl.oneCell (by assumption)) oc_nil)) rfl ?_
  refine kl_chg [sing b45 (.cells [u40, u41].toArray 26 (0, 0)), sing b31 (.cells [u26, u27].toArray 26 (0, 0)), sing b17 (.cells [u10, u11].toArray 26 (0, 0))] rfl ?_
  refine kl_as rfl (kl_nil (kq_code (kc_seq (kc_seq (kc_region (kl_mv rfl (kl_mv rfl (kl_bne rfl rfl ?_))))))))
  refine kl_mv rfl (kl_join 5 45 (.bool ((z30 != z44) || !(decide (z25 = z39)))) (pc 2 rfl (pc 3 rfl (pc 4 rfl (pc 5 rfl (pc 6 rfl (pc 7 rfl (pc 8 rfl (pc 40 rfl pn)))))))) (fun J48 => ?_) ?_)
  ·rcases Bool.eq_false_or_eq_true (z30 != z44) with g47 | g47
   ·skip
    refine kl_gF rfl rfl g47 (kl_gF rfl rfl g47 (kl_gF rfl rfl g47 (kl_gF rfl rfl g47 (kl_orT (!(decide (z25 = z39))) rfl rfl g47 ?_))))
    exact J48 _ (pc 45 rfl (pc 2 rfl (pc 3 rfl (pc 4 rfl (pc 5 rfl (pc 6 rfl (pc 7 rfl (pc 8 rfl (pc 40 rfl pn)))))))))
   ·skip
    have g47p := g47
    try simp only [Bool.not_eq_true', Bool.not_eq_false', decide_eq_true_eq, decide_eq_false_iff_not, Bool.and_eq_true, Bool.or_eq_false_iff, withinB_iff] at g47p
    refine kl_gT rfl rfl g47 (kl_ldW rfl rfl (kl_gT rfl rfl g47 (kl_ldW rfl rfl (kl_gT rfl rfl g47 (kl_callP rfl rfl (equalMod_ok z25 z39 (by assumption) (by assumption) (by assumption) (by assumption)) ?_)))))
    refine kl_gT rfl rfl g47 (kl_not rfl (kl_orF rfl rfl g47 ?_))
    exact J48 _ (pc 45 rfl (pc 2 rfl (pc 3 rfl (pc 4 rfl (pc 5 rfl (pc 6 rfl (pc 7 rfl (pc 8 rfl (pc 40 rfl pn)))))))))
  refine kl_mv rfl (kl_join 3 49 (.bool (((z30 != z44) || !(decide (z25 = z39))) || !z30)) (pc 2 rfl (pc 3 rfl (pc 4 rfl (pc 5 rfl (pc 6 rfl (pc 7 rfl (pc 8 rfl (pc 46 rfl pn)))))))) (fun J50 => ?_) ?_)
  ·rcases Bool.eq_false_or_eq_true ((z30 != z44) || !(decide (z25 = z39))) with g49 | g49
   ·skip
    refine kl_gF rfl rfl g49 (kl_gF rfl rfl g49 (kl_orT (!z30) rfl rfl g49 ?_))
    exact J50 _ (pc 49 rfl (pc 2 rfl (pc 3 rfl (pc 4 rfl (pc 5 rfl (pc 6 rfl (pc 7 rfl (pc 8 rfl (pc 46 rfl pn)))))))))
   ·skip
    have g49p := g49
    try simp only [Bool.not_eq_true', Bool.not_eq_false', decide_eq_true_eq, decide_eq_false_iff_not, Bool.and_eq_true, Bool.or_eq_false_iff, withinB_iff] at g49p
    refine kl_gT rfl rfl g49 (kl_mv rfl (kl_gT rfl rfl g49 (kl_not rfl (kl_orF rfl rfl g49 ?_))))
    exact J50 _ (pc 49 rfl (pc 2 rfl (pc 3 rfl (pc 4 rfl (pc 5 rfl (pc 6 rfl (pc 7 rfl (pc 8 rfl (pc 46 rfl pn)))))))))
  refine kl_nil (kq_code (kc_cond rfl (fun c51 => ?_) (fun c51 => ?_)))
  ·skip
   have c51r := c51
   try simp only [smpC, decide_eq_true_eq, decide_eq_false_iff_not] at c51
   refine kc_seq (kc_region (kl_mv rfl (kl_mv rfl (kl_beq rfl rfl ?_))))
   refine kl_mv rfl (kl_join 4 57 (.bool ((z30 == z44) && (decide (z25 = z39)))) (pc 2 rfl (pc 3 rfl (pc 4 rfl (pc 5 rfl (pc 53 rfl pn))))) (fun J53 => ?_) ?_)
   ·rcases Bool.eq_false_or_eq_true (z30 == z44) with g52 | g52
    ·skip
     have g52p := g52
     try simp only [Bool.not_eq_true', Bool.not_eq_false', decide_eq_true_eq, decide_eq_false_iff_not, Bool.and_eq_true, Bool.or_eq_false_iff, withinB_iff] at g52p
     refine kl_gT rfl rfl g52 (kl_ldW rfl rfl (kl_gT rfl rfl g52 (kl_ldW rfl rfl (kl_gT rfl rfl g52 (kl_callP rfl rfl (equalMod_ok z25 z39 (by assumption) (by assumption) (by assumption) (by assumption)) ?_)))))
     refine kl_andT rfl rfl g52 ?_
     exact J53 _ (pc 57 rfl (pc 2 rfl (pc 3 rfl (pc 4 rfl (pc 5 rfl (pc 53 rfl pn))))))
    ·skip
     refine kl_gF rfl rfl g52 (kl_gF rfl rfl g52 (kl_gF rfl rfl g52 (kl_andF (decide (z25 = z39)) rfl rfl g52 ?_)))
     exact J53 _ (pc 57 rfl (pc 2 rfl (pc 3 rfl (pc 4 rfl (pc 5 rfl (pc 53 rfl pn))))))
   refine kl_as rfl (kl_nil (kq_code (kc_ret (kq_retP rfl rfl (congrArg Value.bool ?_)))))
   first | rfl | (simp; done) | exact sm_ret hn1 hns | exact sm_fin hgo hn1 hnone (by omega)
  ·skip
   have c51r := c51
   try simp only [smpC, decide_eq_true_eq, decide_eq_false_iff_not] at c51
   have hgo := sm_go hn1 hns c51r
   refine kc_skipQ (kq_code (kc_seq (kc_region (kl_bsI [] rfl rfl rfl (by decide) (fun v54 H55 f56 o57 => ?_)))))
   refine kl_as rfl (kl_nil (kq_code (kc_seq (kc_seq (kc_region (kl_as rfl (kl_nil (kq_code (kc_block (kc_loopL (A := Nat × List Int × Value × Hp) (fun zz => (zz.1 ≤ (z9).doms.length) ∧ (zz.2.1 = natsI (List.range zz.1)) ∧ OwnL 3 1 zz.2.2.2 noHp IntV zz.2.2.1 zz.2.1 ∧ Fr B zz.2.2.2) (fun zz => (z9).doms.length - zz.1) (fun zz => [zz.2.2.2, sing b45 (.cells [u40, u41].toArray 26 (0, 0)), sing b31 (.cells [u26, u27].toArray 26 (0, 0)), sing b17 (.cells [u10, u11].toArray 26 (0, 0))]) (fun zz => [(10, .int .i64 (zz.1 : Int)), (9, zz.2.2.1)]) (0, ([]), v54, H55) (pc 2 rfl (pc 3 rfl (pc 4 rfl (pc 5 rfl pn)))) (pc 10 rfl (pc 9 rfl pn)) rfl ⟨Nat.zero_le _, rfl, o57, f56⟩ ?_))))))))))
   rintro ⟨k, al, v63, H60⟩ hJ64
   obtain ⟨hk58, hi59, o61, f62⟩ : (k ≤ (z9).doms.length) ∧ (al = natsI (List.range k)) ∧ OwnL 3 1 H60 noHp IntV v63 al ∧ Fr B H60 := hJ64
   change KC _ _ (_) [H60, sing b45 (.cells [u40, u41].toArray 26 (0, 0)), sing b31 (.cells [u26, u27].toArray 26 (0, 0)), sing b17 (.cells [u10, u11].toArray 26 (0, 0))] _ ([(10, .int .i64 (k : Int)), (9, v63)] ++ _)
   have hal : al.length = k := (by rw [hi59]; simp [natsI])
   refine kc_seq (kc_seq (kc_region (kl_mv rfl (kl_fdV rfl (kl_ldB rfl rfl (kl_len rfl (by assumption) (fun l65 => ?_)))))))
   refine kl_lss rfl rfl ?_
   refine kl_nil (kq_code (kc_if rfl (fun c66 => ?_) (fun c66 => ?_)))
   ·skip
    refine kc_skipQ (kq_code (kc_seq (kc_block (kc_region (kl_mv rfl (kl_mv rfl (kl_bs rfl rfl rfl (by decide) (ca rfl ca_nil) (fun v67 H68 f69 r70 s71 => ?_))))))))
    have h72 : Ints H68 v67 [(k : Int)] := litInts (xs := [(k : Int)]) (by simpa using s71)
    refine kl_apL (k : Int) rfl rfl o61 (by assumption) rfl (oc rfl oc_nil) (by omega) (by decide) (fun v73 H74 o75 f76 => ?_)
    have f77 := f76 B f62 (Nat.le_refl _)
    refine kl_as rfl (kl_nil (kq_code (kc_region (kl_mv rfl (kl_inc rfl rfl (by omega) ?_)))))
    refine kl_as rfl (kl_nil (kq_take [H74, sing b45 (.cells [u40, u41].toArray 26 (0, 0)), sing b31 (.cells [u26, u27].toArray 26 (0, 0)), sing b17 (.cells [u10, u11].toArray 26 (0, 0))] ?_))
    refine kq_roundL ((k + 1), (al ++ [(k : Int)]), v73, H74) (by omega) (⟨by omega, (iota_step hi59), o75, f77⟩) (pc 10 rfl (pc 9 rfl pn)) (pc 2 rfl (pc 3 rfl (pc 4 rfl (pc 5 rfl pn)))) rfl (List.Sublist.refl _)
   ·skip
    refine kc_exit (kq_code (kc_seq (kc_region (kl_ldW rfl rfl (kl_mv rfl (kl_call rfl rfl (subI_ok z9 al (by assumption) (by assumption) (OwnL.ints o61)) (fun v78 H79 f80 h81 => ?_)))))))
    obtain ⟨z84, z89, u85, u86, rfl, h87, h88, h83⟩ := h81
    have hn1 := h83
    refine kl_mv rfl (kl_xt rfl rfl (kl_xt rfl rfl (kl_alloc (cs := [.slice none 0 0, .slice none 0 0]) rfl (fun b90 hb91 => ?_))))
    refine kl_stW (us := [u85, u86]) rfl rfl rfl rfl (oc (Sl.oneCell (by assumption)) (oc (Sl.oneCell (by assumption)) oc_nil)) rfl ?_
    refine kl_chg [sing b90 (.cells [u85, u86].toArray 26 (0, 0)), H60, sing b45 (.cells [u40, u41].toArray 26 (0, 0)), sing b31 (.cells [u26, u27].toArray 26 (0, 0)), sing b17 (.cells [u10, u11].toArray 26 (0, 0))] rfl ?_
    refine kl_as rfl (kl_nil (kq_code (kc_seq (kc_region (kl_ldW rfl rfl (kl_call rfl rfl (solveAll_ok z9 (by assumption) (by assumption)) (fun v92 H93 f94 h95 => ?_)))))))
    refine kl_as rfl (kl_nil (kq_code (kc_seq (kc_seq (kc_region (kl_as rfl (kl_nil (kq_code (kc_block (kc_loop0 (A := Nat) (fun zz => (zz ≤ (solL z9).length)) (fun zz => (solL z9).length - zz) (fun zz => [(14, .int .i64 (zz : Int))]) (0) (pc 3 rfl (pc 4 rfl (pc 5 rfl (pc 11 rfl (pc 12 rfl (pc 13 rfl pn)))))) (pc 14 rfl pn) (Nat.zero_le _) ?_))))))))))
    rintro j hJ98
    have hk96 : (j ≤ (solL z9).length) := hJ98
    change KC _ _ (_) _ _ ([(14, .int .i64 (j : Int))] ++ _)
    refine kc_seq (kc_seq (kc_region (kl_mv rfl (kl_mv rfl (kl_len rfl (by assumption) (fun l99 => ?_))))))
    refine kl_lss rfl rfl ?_
    refine kl_nil (kq_code (kc_if rfl (fun c100 => ?_) (fun c100 => ?_)))
    ·skip
     have hyl := solLk_len c100
     have hjl := nat_lt c100
     refine kc_skipQ (kq_code (kc_seq (kc_block (kc_seq (kc_region (kl_bsI [] rfl rfl rfl (by decide) (fun v101 H102 f103 o104 => ?_)))))))
     refine kl_as rfl (kl_nil (kq_code (kc_seq (kc_seq (kc_region (kl_as rfl (kl_nil (kq_code (kc_block (kc_loopL (A := Nat × List Int × Value × Hp) (fun zz => (zz.1 ≤ (z14).length) ∧ (zz.2.1 = wordTo (z14) ((solL (z9)).getD j []) zz.1) ∧ OwnL 3 1 zz.2.2.2 noHp IntV zz.2.2.1 zz.2.1 ∧ Fr B zz.2.2.2) (fun zz => (z14).length - zz.1) (fun zz => [zz.2.2.2, sing b90 (.cells [u85, u86].toArray 26 (0, 0)), H60, sing b45 (.cells [u40, u41].toArray 26 (0, 0)), sing b31 (.cells [u26, u27].toArray 26 (0, 0)), sing b17 (.cells [u10, u11].toArray 26 (0, 0))]) (fun zz => [(16, .int .i64 (zz.1 : Int)), (15, zz.2.2.1)]) (0, ([]), v101, H102) (pc 3 rfl (pc 4 rfl (pc 5 rfl (pc 11 rfl (pc 12 rfl (pc 13 rfl (pc 14 rfl (pc 78 rfl (pc 79 rfl (pc 80 rfl (pc 81 rfl (pc 84 rfl pn)))))))))))) (pc 16 rfl (pc 15 rfl pn)) rfl ⟨Nat.zero_le _, rfl, o104, f103⟩ ?_))))))))))
     rintro ⟨i, xs, v110, H107⟩ hJ111
     obtain ⟨hk105, hi106, o108, f109⟩ : (i ≤ (z14).length) ∧ (xs = wordTo (z14) ((solL (z9)).getD j []) i) ∧ OwnL 3 1 H107 noHp IntV v110 xs ∧ Fr B H107 := hJ111
     change KC _ _ (_) [H107, sing b90 (.cells [u85, u86].toArray 26 (0, 0)), H60, sing b45 (.cells [u40, u41].toArray 26 (0, 0)), sing b31 (.cells [u26, u27].toArray 26 (0, 0)), sing b17 (.cells [u10, u11].toArray 26 (0, 0))] _ ([(16, .int .i64 (i : Int)), (15, v110)] ++ _)
     have hxl := word_len hi106
     refine kc_seq (kc_seq (kc_region (kl_mv rfl (kl_mv rfl (kl_len rfl (by assumption) (fun l112 => ?_))))))
     refine kl_lss rfl rfl ?_
     refine kl_nil (kq_code (kc_if rfl (fun c113 => ?_) (fun c113 => ?_)))
     ·skip
      have hvi := sub_inn hgo c113
      refine kc_skipQ (kq_code (kc_seq (kc_block (kc_tree (fun i => ([12] : List Nat).contains i) [] (by kernel_rfl) ?_))))
      refine kt_q 0 (List.nil_sublist _) rfl (by kernel_rfl) (kl_mv rfl (kl_nil (kq_q (kt_q 1 (List.nil_sublist _) rfl (by kernel_rfl) (kl_mv rfl (kl_nil (kq_q (kt_q 2 (List.nil_sublist _) rfl (by kernel_rfl) (kl_mv rfl (kl_nil (kq_q ?_)))))))))))
      refine kt_q 3 (List.nil_sublist _) rfl (by kernel_rfl) (kl_inS rfl rfl (by assumption) (by first | omega | (simp; omega)) (fun p114 u116 h117 a115 => ?_))
      refine kl_nil (kq_q (kt_q 4 (List.nil_sublist _) rfl (by kernel_rfl) (kl_ld rfl (by assumption) (kl_nil (kq_q (kt_q 5 (List.nil_sublist _) rfl (by kernel_rfl) (kl_mv rfl (kl_nil (kq_q (kt_q 6 (List.nil_sublist _) rfl (by kernel_rfl) (kl_mv rfl ?_)))))))))))
      refine kl_nil (kq_q (kt_q 7 (List.nil_sublist _) rfl (by kernel_rfl) (kl_inI rfl rfl (by assumption) (by first | omega | (simp; omega)) (fun p118 a119 => ?_))))
      refine kl_nil (kq_q (kt_q 8 (List.nil_sublist _) rfl (by kernel_rfl) (kl_ld rfl (by assumption) (kl_nil (kq_q (kt_q 9 (List.nil_sublist _) rfl (by kernel_rfl) (kl_ixI rfl rfl (by assumption) (by first | omega | (simp; omega)) (by first | omega | (simp; omega)) (fun p120 a121 => ?_))))))))
      refine kl_nil (kq_q (kt_q 10 (List.nil_sublist _) rfl (by kernel_rfl) (kl_ld rfl (by assumption) (kl_nil (kq_q (kt_a 11 rfl (by kernel_rfl) (kl_bs rfl rfl rfl (by decide) (ca rfl ca_nil) (fun v122 H123 f124 r125 s126 => ?_))))))))
      have h127 : Ints H123 v122 [(((solL z9).getD j []).getD (z14.getD i 0).toNat 0)] := litInts (xs := [(((solL z9).getD j []).getD (z14.getD i 0).toNat 0)]) (by simpa using s126)
      refine kl_nil (kq_a (List.nil_sublist _) (kt_a 12 rfl (by kernel_rfl) (kl_apL (((solL z9).getD j []).getD (z14.getD i 0).toNat 0) rfl rfl o108 (by assumption) rfl (oc rfl oc_nil) (by omega) (by decide) (fun v128 H129 o130 f131 => ?_))))
      have f132 := f131 B f109 (Nat.le_refl _)
      refine kl_nil (kq_x rfl (kt_q 13 (List.nil_sublist _) rfl (by kernel_rfl) (kl_as rfl (kl_nil (kq_q (kt_end (by kernel_rfl) ?_))))))
      refine kq_code (kc_region (kl_mv rfl (kl_inc rfl rfl (by omega) ?_)))
      refine kl_as rfl (kl_nil (kq_take [H129, sing b90 (.cells [u85, u86].toArray 26 (0, 0)), H60, sing b45 (.cells [u40, u41].toArray 26 (0, 0)), sing b31 (.cells [u26, u27].toArray 26 (0, 0)), sing b17 (.cells [u10, u11].toArray 26 (0, 0))] ?_))
      refine kq_roundL ((i + 1), (xs ++ [(((solL z9).getD j []).getD (z14.getD i 0).toNat 0)]), v128, H129) (by omega) (⟨by omega, (word_step hi106 (by omega)), o130, f132⟩) (pc 16 rfl (pc 15 rfl pn)) (pc 3 rfl (pc 4 rfl (pc 5 rfl (pc 11 rfl (pc 12 rfl (pc 13 rfl (pc 14 rfl (pc 78 rfl (pc 79 rfl (pc 80 rfl (pc 81 rfl (pc 84 rfl pn)))))))))))) rfl (List.Sublist.refl _)
     ·skip
      refine kc_exit (kq_code (kc_seq (kc_region (kl_ldW rfl rfl (kl_mv rfl (kl_callP rfl rfl (isSolI_ok z25 xs (by assumption) (by assumption) (OwnL.ints o108)) ?_))))))
      refine kl_not rfl (kl_nil (kq_code (kc_cond rfl (fun c133 => ?_) (fun c133 => ?_))))
      ·skip
       have c133r := c133
       try simp only [smpC, decide_eq_true_eq, decide_eq_false_iff_not] at c133
       exact absurd c133r (by rw [sm_at hgo hjl (by omega) hi106]; simp)
      ·skip
       have c133r := c133
       try simp only [smpC, decide_eq_true_eq, decide_eq_false_iff_not] at c133
       refine kc_skipQ (kq_code (kc_region (kl_mv rfl (kl_inc rfl rfl (by omega) ?_))))
       refine kl_as rfl (kl_nil (kq_round0 ((j + 1)) (by omega) (by omega) (pc 14 rfl pn) (pc 3 rfl (pc 4 rfl (pc 5 rfl (pc 11 rfl (pc 12 rfl (pc 13 rfl pn)))))) (.cons _ (List.Sublist.refl _))))
    ·skip
     refine kc_exit (kq_code (kc_seq (kc_region (kl_mv rfl (kl_mv rfl (kl_join 4 113 (.bool (z89 && (decide (z84 = z9)))) (pc 109 rfl pn) (fun J135 => ?_) ?_))))))
     ·rcases Bool.eq_false_or_eq_true z89 with g134 | g134
      ·skip
       have g134p := g134
       try simp only [Bool.not_eq_true', Bool.not_eq_false', decide_eq_true_eq, decide_eq_false_iff_not, Bool.and_eq_true, Bool.or_eq_false_iff, withinB_iff] at g134p
       refine kl_gT rfl rfl g134 (kl_ldW rfl rfl (kl_gT rfl rfl g134 (kl_ldW rfl rfl (kl_gT rfl rfl g134 (kl_callP rfl rfl (equalMod_ok z84 z9 (by assumption) (by assumption) (by assumption) (by assumption)) ?_)))))
       refine kl_andT rfl rfl g134 ?_
       exact J135 _ (pc 113 rfl (pc 109 rfl pn))
      ·skip
       refine kl_gF rfl rfl g134 (kl_gF rfl rfl g134 (kl_gF rfl rfl g134 (kl_andF (decide (z84 = z9)) rfl rfl g134 ?_)))
       exact J135 _ (pc 113 rfl (pc 109 rfl pn))
     refine kl_as rfl (kl_nil (kq_code (kc_ret (kq_retP rfl rfl (congrArg Value.bool ?_)))))
     first | rfl | (simp; done) | exact sm_ret hn1 hns | exact sm_fin hgo hn1 hi59 (by omega)
end Go.Proofs.Ytiilanckbocifaa
