/- Walks of functions of the program: each returns what the plain function gives. Conditions: those that each statement names. -/
import Derived.Test.YtbbphbihgikmdaaGreatWrobi
import Derived.Test.YtbbphbihgikmdaaGreatWrobs
import Derived.Test.YtbbphbihgikmdaaGreatWgm
import Derived.Test.YtbbphbihgikmdaaGreatWfl
import Derived.Test.YtbbphbihgikmdaaGreatWcnt
import Derived.Test.YtbbphbihgikmdaaGreatWats
import Derived.Test.YtbbphbihgikmdaaGreatWwd
namespace Go.Proofs.YtbbphbihgikmdaaGreat
open Go
set_option linter.unusedSimpArgs false
set_option linter.unusedVariables false
theorem drawRob_ok {Hcode : Hp} {vcode : Value} (code : List Int) (hcode : Bytes Hcode vcode code) : Spec Tryz.prog 18 [vcode] [Hcode] (fun Hq vq => ∃ (mq : Mod) (z : Int) (uq0a uq0b : Value), vq = .tuple #[.agg #[uq0a, uq0b], .int .i64 z] ∧ Ints Hq uq0a mq.doms ∧ Cons Hq uq0b mq.cons ∧ ModSm 100 mq) := by
 refine spec_ofR Tryz.func18 rfl rfl rfl (fun B => ?_)
 refine kc_seq (kc_region ?_)
 refine kl_alloc (cs := [.slice none 0 0, .slice none 0 0]) rfl (fun b1 hb2 => ?_)
 refine kl_as rfl ?_
 refine kl_nil (kq_code (kc_seq (kc_region ?_)))
 refine kl_mv rfl ?_
 refine kl_callT rfl rfl (newReader_ok code hcode) (fun v3 L1 Ln K7 h4 f5 f6 => ?_)
 obtain ⟨rfl, b8, v9, x10, rfl, rfl, h11⟩ := h4
 refine kl_norm ?_
 refine kl_as rfl ?_
 refine kl_nil (kq_code (kc_seq (kc_region ?_)))
 refine kl_mv rfl ?_
 refine kl_callT rfl rfl (gameModel_ok 0 (by omega) h11) (fun v12 L1 Ln K16 h13 f14 f15 => ?_)
 obtain ⟨q17, h18, rfl, H21, M23, v24, v25, z19, rfl, rfl, o22, o26, h20⟩ := h13
 have f27 := f14 _ (.head _)
 have f28 := f14 _ (.tail _ (.head _))
 have hd1 := h20.d1
 have hd4 := h20.d
 have hc1 := h20.c
 have hcc := h20.cc
 refine kl_norm ?_
 refine kl_alloc (cs := [.slice none 0 0, .slice none 0 0]) rfl (fun b29 hb30 => ?_)
 refine kl_stW (us := [v24, v25]) rfl rfl rfl rfl (oc (OwnL.oneCell (by assumption)) (oc (OwnL.oneCell (by assumption)) oc_nil)) rfl ?_
 refine kl_chg [sing b29 (.cells [v24, v25].toArray 32 (0, 0)), sing b8 (.cells [v9, .int .i64 (q17 : Int)].toArray 113 (0, 0)), H21, M23, sing b1 (.cells [.slice none 0 0, .slice none 0 0].toArray 32 (0, 0))] rfl ?_
 refine kl_nil (kq_code ?_)
 refine kc_seq ?_
 refine kc_tree (fun i => ([] : List Nat).contains i) [sing b29 (.cells [v24, v25].toArray 32 (0, 0))] (by kernel_rfl) ?_
 refine kt_q 0 (.cons_cons _ (List.nil_sublist _)) rfl (by kernel_rfl) ?_
 refine kl_ldS rfl (at_box (T := 32) (cs := [v24, v25]) (off := 0) (fz := (0, 0))) rfl ?_
 refine kl_nil (kq_q ?_)
 refine kt_q 1 (.cons_cons _ (List.nil_sublist _)) rfl (by kernel_rfl) ?_
 refine kl_mv rfl ?_
 refine kl_nil (kq_q ?_)
 refine kt_q 2 (.cons_cons _ (List.nil_sublist _)) rfl (by kernel_rfl) ?_
 refine kl_fdV rfl ?_
 refine kl_nil (kq_q ?_)
 refine kt_q 3 (.cons_cons _ (List.nil_sublist _)) rfl (by kernel_rfl) ?_
 refine kl_ld rfl (at_box (T := 32) (cs := [v24, v25]) (off := 0) (fz := (0, 0))) ?_
 refine kl_nil (kq_q ?_)
 refine kt_q 4 (.cons_cons _ (List.nil_sublist _)) rfl (by kernel_rfl) ?_
 refine kl_lenL rfl o22 (fun l31 => ?_)
 refine kl_nil (kq_q ?_)
 refine kt_q 5 (.cons_cons _ (List.nil_sublist _)) rfl (by kernel_rfl) ?_
 refine kl_add rfl rfl (by omega) ?_
 refine kl_nil (kq_q ?_)
 refine kt_a 6 rfl (by kernel_rfl) ?_
 refine kl_callT rfl rfl (pick_ok q17 ((z19.doms.length : Int) + (3 : Int)) (by omega) h11) (fun v32 L1 Ln K36 h33 f34 f35 => ?_)
 obtain ⟨q37, h38, rfl, rfl, z39, rfl, h40⟩ := h33
 refine kl_norm ?_
 refine kl_nil (kq_a (.cons _ (.cons_cons _ (List.nil_sublist _))) ?_)
 refine kt_q 7 (.cons _ (.cons_cons _ (List.nil_sublist _))) rfl (by kernel_rfl) ?_
 refine kl_sub rfl rfl (by omega) ?_
 refine kl_nil (kq_q ?_)
 refine kt_a 8 rfl (by kernel_rfl) ?_
 refine kl_stW (us := [v24, v25]) rfl rfl rfl rfl (oc (OwnL.oneCell (by assumption)) (oc (OwnL.oneCell (by assumption)) oc_nil)) rfl ?_
 refine kl_chg [sing b8 (.cells [v9, .int .i64 (q37 : Int)].toArray 113 (0, 0)), sing b29 (.cells [v24, v25].toArray 32 (0, 0)), H21, M23, sing b1 (.cells [v24, v25].toArray 32 (0, 0))] rfl ?_
 refine kl_nil (kq_a (.cons _ (.cons_cons _ (List.nil_sublist _))) ?_)
 refine kt_q 9 (.cons _ (.cons_cons _ (List.nil_sublist _))) rfl (by kernel_rfl) ?_
 refine kl_as rfl ?_
 refine kl_nil (kq_q ?_)
 refine kt_end (by kernel_rfl) ?_
 refine kq_code ?_
 refine kc_ret ?_
 refine kq_frz H21 ?_
 refine kq_frz M23 ?_
 refine kq_cmp M23 K16 (fun c43 => ?_)
 refine kq_cmp H21 (orHp M23 K16) (fun c44 => ?_)
 exact kq_retR (rss2 rfl (rs_agg rfl rfl) (rs_tmp rfl)) (orHp H21 (orHp M23 K16)) (fr_or f27 (fr_or f28 f15)) ⟨(⟨z19.doms, z19.cons⟩ : Mod), (z39 - (1 : Int)), _, _, rfl, (Sl.mono (OwnL.ints o22) (fun b o h => orL b o h) (fun _ _ h => h)), (Cons.mono' (OwnL.consK o26 c43) (fun b o h => orC c44 b o h)), by (constructor <;> dsimp only <;> first | omega | assumption)⟩ .none
theorem lawFnRob_ok {Hcode : Hp} {vcode : Value} (code : List Int) (hcode : Bytes Hcode vcode code) : SpecP Tryz.prog 5 [vcode] [Hcode] (.bool true) := by
 refine spec_of Tryz.func5 rfl rfl rfl (fun B => ?_)
 refine kc_seq (kc_region ?_)
 refine kl_as rfl ?_
 refine kl_nil (kq_code ?_)
 refine kc_seq ?_
 refine kc_seq (kc_region ?_)
 refine kl_mv rfl ?_
 refine kl_len rfl (by assumption) (fun l1 => ?_)
 refine kl_gtr rfl rfl ?_
 refine kl_nil (kq_code ?_)
 refine kc_if rfl (fun c2 => ?_) (fun c2 => ?_)
 ·skip
  refine kc_seq (kc_region ?_)
  refine kl_as rfl ?_
  refine kl_nil (kq_code ?_)
  refine kc_ret ?_
  refine kq_retP rfl rfl (congrArg Value.bool ?_)
  first | rfl | (simp; done) | exact rob_law2 hro hnone (by omega)
 ·skip
  refine kc_skipQ ?_
  refine kq_code ?_
  refine kc_seq (kc_region ?_)
  refine kl_mv rfl ?_
  refine kl_call rfl rfl (drawRob_ok code hcode) (fun v3 H4 f5 h6 => ?_)
  obtain ⟨z9, z14, u10, u11, rfl, h12, h13, h8⟩ := h6
  have hd1 := h8.d1
  have hd4 := h8.d
  refine kl_mv rfl ?_
  refine kl_xt rfl rfl ?_
  refine kl_xt rfl rfl ?_
  refine kl_alloc (cs := [.slice none 0 0, .slice none 0 0]) rfl (fun b15 hb16 => ?_)
  refine kl_stW (us := [u10, u11]) rfl rfl rfl rfl (oc (Sl.oneCell (by assumption)) (oc (Sl.oneCell (by assumption)) oc_nil)) rfl ?_
  refine kl_chg [sing b15 (.cells [u10, u11].toArray 32 (0, 0))] rfl ?_
  refine kl_as rfl ?_
  refine kl_nil (kq_code (kc_seq (kc_region ?_)))
  refine kl_ldW rfl rfl ?_
  refine kl_mv rfl ?_
  refine kl_call rfl rfl (robI_ok z9 z14 (by assumption) (by assumption)) (fun v17 H18 f19 h20 => ?_)
  obtain ⟨u21, rfl, h22⟩ := h20
  refine kl_mv rfl ?_
  refine kl_xt rfl rfl ?_
  refine kl_xt rfl rfl ?_
  refine kl_as rfl ?_
  refine kl_as rfl ?_
  refine kl_nil (kq_code (kc_seq (kc_region ?_)))
  refine kl_ldW rfl rfl ?_
  refine kl_mv rfl ?_
  refine kl_call rfl rfl (robS_ok z9 z14 (by assumption) (by assumption)) (fun v23 H24 f25 h26 => ?_)
  obtain ⟨u27, rfl, h28⟩ := h26
  refine kl_mv rfl ?_
  refine kl_xt rfl rfl ?_
  refine kl_xt rfl rfl ?_
  refine kl_as rfl ?_
  refine kl_as rfl ?_
  refine kl_nil (kq_code ?_)
  refine kc_seq ?_
  refine kc_seq (kc_region ?_)
  refine kl_mv rfl ?_
  refine kl_mv rfl ?_
  refine kl_bne rfl rfl ?_
  refine kl_mv rfl ?_
  refine kl_join 5 39 (.bool ((((robB z9 z14).2) != ((robB z9 z14).2)) || !(decide (((robB z9 z14).1) = ((robB z9 z14).1))))) (pc 2 rfl (pc 3 rfl (pc 4 rfl (pc 5 rfl (pc 6 rfl (pc 7 rfl (pc 8 rfl (pc 34 rfl pn)))))))) (fun J30 => ?_) ?_
  ·rcases Bool.eq_false_or_eq_true (((robB z9 z14).2) != ((robB z9 z14).2)) with g29 | g29
   ·skip
    refine kl_gF rfl rfl g29 ?_
    refine kl_gF rfl rfl g29 ?_
    refine kl_gF rfl rfl g29 ?_
    refine kl_gF rfl rfl g29 ?_
    refine kl_orT (!(decide (((robB z9 z14).1) = ((robB z9 z14).1)))) rfl rfl g29 ?_
    exact J30 _ (pc 39 rfl (pc 2 rfl (pc 3 rfl (pc 4 rfl (pc 5 rfl (pc 6 rfl (pc 7 rfl (pc 8 rfl (pc 34 rfl pn)))))))))
   ·skip
    have g29p := g29
    try simp only [Bool.not_eq_true', Bool.not_eq_false', decide_eq_true_eq, decide_eq_false_iff_not, Bool.and_eq_true, Bool.or_eq_false_iff, withinB_iff] at g29p
    refine kl_gT rfl rfl g29 ?_
    refine kl_mv rfl ?_
    refine kl_gT rfl rfl g29 ?_
    refine kl_mv rfl ?_
    refine kl_gT rfl rfl g29 ?_
    refine kl_callP rfl rfl (equalInts_ok ((robB z9 z14).1) ((robB z9 z14).1) (by assumption) (by assumption)) ?_
    refine kl_gT rfl rfl g29 ?_
    refine kl_not rfl ?_
    refine kl_orF rfl rfl g29 ?_
    exact J30 _ (pc 39 rfl (pc 2 rfl (pc 3 rfl (pc 4 rfl (pc 5 rfl (pc 6 rfl (pc 7 rfl (pc 8 rfl (pc 34 rfl pn)))))))))
  refine kl_mv rfl ?_
  refine kl_join 3 43 (.bool (((((robB z9 z14).2) != ((robB z9 z14).2)) || !(decide (((robB z9 z14).1) = ((robB z9 z14).1)))) || !((robB z9 z14).2))) (pc 2 rfl (pc 3 rfl (pc 4 rfl (pc 5 rfl (pc 6 rfl (pc 7 rfl (pc 8 rfl (pc 40 rfl pn)))))))) (fun J32 => ?_) ?_
  ·rcases Bool.eq_false_or_eq_true ((((robB z9 z14).2) != ((robB z9 z14).2)) || !(decide (((robB z9 z14).1) = ((robB z9 z14).1)))) with g31 | g31
   ·skip
    refine kl_gF rfl rfl g31 ?_
    refine kl_gF rfl rfl g31 ?_
    refine kl_orT (!((robB z9 z14).2)) rfl rfl g31 ?_
    exact J32 _ (pc 43 rfl (pc 2 rfl (pc 3 rfl (pc 4 rfl (pc 5 rfl (pc 6 rfl (pc 7 rfl (pc 8 rfl (pc 40 rfl pn)))))))))
   ·skip
    have g31p := g31
    try simp only [Bool.not_eq_true', Bool.not_eq_false', decide_eq_true_eq, decide_eq_false_iff_not, Bool.and_eq_true, Bool.or_eq_false_iff, withinB_iff] at g31p
    refine kl_gT rfl rfl g31 ?_
    refine kl_mv rfl ?_
    refine kl_gT rfl rfl g31 ?_
    refine kl_not rfl ?_
    refine kl_orF rfl rfl g31 ?_
    exact J32 _ (pc 43 rfl (pc 2 rfl (pc 3 rfl (pc 4 rfl (pc 5 rfl (pc 6 rfl (pc 7 rfl (pc 8 rfl (pc 40 rfl pn)))))))))
  refine kl_nil (kq_code ?_)
  refine kc_cond rfl (fun c33 => ?_) (fun c33 => ?_)
  ·skip
   have c33r := c33
   try simp only [Bool.not_eq_true', Bool.not_eq_false', Bool.not_true, Bool.not_false, decide_eq_true_eq, decide_eq_false_iff_not, Bool.and_eq_true, Bool.or_eq_false_iff] at c33
   refine kc_seq (kc_region ?_)
   refine kl_mv rfl ?_
   refine kl_mv rfl ?_
   refine kl_beq rfl rfl ?_
   refine kl_mv rfl ?_
   refine kl_join 4 51 (.bool ((((robB z9 z14).2) == ((robB z9 z14).2)) && (decide (((robB z9 z14).1) = ((robB z9 z14).1))))) (pc 2 rfl (pc 3 rfl (pc 4 rfl (pc 5 rfl (pc 47 rfl pn))))) (fun J35 => ?_) ?_
   ·rcases Bool.eq_false_or_eq_true (((robB z9 z14).2) == ((robB z9 z14).2)) with g34 | g34
    ·skip
     have g34p := g34
     try simp only [Bool.not_eq_true', Bool.not_eq_false', decide_eq_true_eq, decide_eq_false_iff_not, Bool.and_eq_true, Bool.or_eq_false_iff, withinB_iff] at g34p
     refine kl_gT rfl rfl g34 ?_
     refine kl_mv rfl ?_
     refine kl_gT rfl rfl g34 ?_
     refine kl_mv rfl ?_
     refine kl_gT rfl rfl g34 ?_
     refine kl_callP rfl rfl (equalInts_ok ((robB z9 z14).1) ((robB z9 z14).1) (by assumption) (by assumption)) ?_
     refine kl_andT rfl rfl g34 ?_
     exact J35 _ (pc 51 rfl (pc 2 rfl (pc 3 rfl (pc 4 rfl (pc 5 rfl (pc 47 rfl pn))))))
    ·skip
     refine kl_gF rfl rfl g34 ?_
     refine kl_gF rfl rfl g34 ?_
     refine kl_gF rfl rfl g34 ?_
     refine kl_andF (decide (((robB z9 z14).1) = ((robB z9 z14).1))) rfl rfl g34 ?_
     exact J35 _ (pc 51 rfl (pc 2 rfl (pc 3 rfl (pc 4 rfl (pc 5 rfl (pc 47 rfl pn))))))
   refine kl_as rfl ?_
   refine kl_nil (kq_code ?_)
   refine kc_ret ?_
   refine kq_retP rfl rfl (congrArg Value.bool ?_)
   first | rfl | (simp; done) | exact rob_law2 hro hnone (by omega)
  ·skip
   have c33r := c33
   try simp only [Bool.not_eq_true', Bool.not_eq_false', Bool.not_true, Bool.not_false, decide_eq_true_eq, decide_eq_false_iff_not, Bool.and_eq_true, Bool.or_eq_false_iff] at c33
   have hro := rob_g c33r
   have hr2 := rob_all hro
   obtain ⟨hrk, hrM, hrv, hrb, hrl, hrp⟩ := hr2
   have hrn := hrM.n
   refine kc_skipQ ?_
   refine kq_code ?_
   refine kc_seq (kc_region ?_)
   refine kl_bsI [] rfl rfl rfl (by decide) (fun v36 H37 f38 o39 => ?_)
   refine kl_fdV rfl ?_
   refine kl_ldB rfl rfl ?_
   refine kl_apS rfl rfl o39 (by assumption) (fun _ _ h => h) (by (simp; omega)) (by decide) (fun v40 H41 o42 f43 => ?_)
   have f44 := f43 B f38 (Nat.le_refl _)
   refine kl_as rfl ?_
   refine kl_nil (kq_code ?_)
   refine kc_seq ?_
   refine kc_seq (kc_region ?_)
   refine kl_as rfl ?_
   refine kl_nil (kq_code ?_)
   refine kc_block ?_
   refine kc_loopL (A := Nat × List Int × Hp) (fun zz => (zz.1 ≤ ((robB z9 z14).1).length) ∧ (zz.2.1 = robD z9.doms ((robB z9 z14).1) zz.1) ∧ OwnL 3 1 zz.2.2 noHp IntV v40 zz.2.1 ∧ Fr B zz.2.2) (fun zz => ((robB z9 z14).1).length - zz.1) (fun zz => [zz.2.2, sing b15 (.cells [u10, u11].toArray 32 (0, 0))]) (fun zz => [(10, .int .i64 (zz.1 : Int))]) (0, ([] ++ z9.doms), H41) (pc 2 rfl (pc 3 rfl (pc 4 rfl (pc 5 rfl (pc 9 rfl pn))))) (pc 10 rfl pn) rfl ⟨Nat.zero_le _, (by unfold robD; simp), o42, f44⟩ ?_
   rintro ⟨k, d, H47⟩ hJ50
   obtain ⟨hk45, hi46, o48, f49⟩ : (k ≤ ((robB z9 z14).1).length) ∧ (d = robD z9.doms ((robB z9 z14).1) k) ∧ OwnL 3 1 H47 noHp IntV v40 d ∧ Fr B H47 := hJ50
   change KC _ _ (_) [H47, sing b15 (.cells [u10, u11].toArray 32 (0, 0))] _ ([(10, .int .i64 (k : Int))] ++ _)
   have hdl : d.length = z9.doms.length := (by rw [hi46, robD_len (by omega) hrl])
   refine kc_seq ?_
   refine kc_seq (kc_region ?_)
   refine kl_mv rfl ?_
   refine kl_mv rfl ?_
   refine kl_len rfl (by assumption) (fun l51 => ?_)
   refine kl_lss rfl rfl ?_
   refine kl_nil (kq_code ?_)
   refine kc_if rfl (fun c52 => ?_) (fun c52 => ?_)
   ·skip
    have hxv := hrv.at (k := k) (by omega)
    refine kc_skipQ ?_
    refine kq_code ?_
    refine kc_seq ?_
    refine kc_block ?_
    refine kc_region ?_
    refine kl_mv rfl ?_
    refine kl_mv rfl ?_
    refine kl_mv rfl ?_
    refine kl_mv rfl ?_
    refine kl_inI rfl rfl (by assumption) (by omega) (fun p53 a54 => ?_)
    refine kl_ld rfl (by assumption) ?_
    refine kl_shl rfl rfl (by omega) ?_
    refine kl_ixLn rfl rfl (by assumption) (by omega) (fun p55 q56 => ?_)
    refine kl_stL (ishl (1 : Int) (((robB z9 z14).1).getD k 0)) rfl rfl (by assumption) o48 (by omega) rfl rfl rfl (fun H57 o58 f59 => ?_)
    have f60 := f59 _ f49
    refine kl_chg [H57, sing b15 (.cells [u10, u11].toArray 32 (0, 0))] rfl ?_
    refine kl_nil (kq_code ?_)
    refine kc_region ?_
    refine kl_mv rfl ?_
    refine kl_inc rfl rfl (by omega) ?_
    refine kl_as rfl ?_
    refine kl_nil ?_
    refine kq_take [H57, sing b15 (.cells [u10, u11].toArray 32 (0, 0))] ?_
    refine kq_roundL ((k + 1), (d.set k (ishl (1 : Int) (((robB z9 z14).1).getD k 0))), H57) (by omega) (⟨by omega, (robD_step hrl hi46 (by omega)), o58, f60⟩) (pc 10 rfl pn) (pc 2 rfl (pc 3 rfl (pc 4 rfl (pc 5 rfl (pc 9 rfl pn))))) rfl (List.Sublist.refl _)
   ·skip
    refine kc_exit ?_
    refine kq_code ?_
    refine kc_seq (kc_region ?_)
    refine kl_mv rfl ?_
    refine kl_len rfl (by assumption) (fun l61 => ?_)
    refine kl_mv rfl ?_
    refine kl_eql rfl rfl ?_
    refine kl_mv rfl ?_
    refine kl_join 8 82 (.bool (decide ((((robB z9 z14).1).length : Int) = z14) && decide ((cntI (⟨d, z9.cons⟩ : Mod)) = (prodTo d d.length)))) (pc 2 rfl (pc 74 rfl pn)) (fun J69 => ?_) ?_
    ·rcases Bool.eq_false_or_eq_true (decide ((((robB z9 z14).1).length : Int) = z14)) with g62 | g62
     ·skip
      have g62p := of_decide_eq_true g62
      refine kl_gT rfl rfl g62 ?_
      refine kl_ldW rfl rfl ?_
      refine kl_gT rfl rfl g62 ?_
      refine kl_mv rfl ?_
      refine kl_gT rfl rfl g62 ?_
      refine kl_call rfl rfl (withDomains_ok z9 d (by rw [hi46, robD_len (by omega) hrl]; omega) (by assumption) (by assumption) (OwnL.ints o48)) (fun v63 H64 f65 h66 => ?_)
      obtain ⟨u67, rfl, h68⟩ := h66
      refine kl_gT rfl rfl g62 ?_
      refine kl_callP rfl rfl (countSols_ok (⟨d, z9.cons⟩ : Mod) (by assumption) (by assumption)) ?_
      refine kl_gT rfl rfl g62 ?_
      refine kl_mv rfl ?_
      refine kl_gT rfl rfl g62 ?_
      refine kl_callP rfl rfl (ltuples_ok d (by rw [hi46, robD_len (by omega) hrl]; omega) (rob_D hro hi46 (by omega)).d (OwnL.ints o48)) ?_
      refine kl_gT rfl rfl g62 ?_
      refine kl_eql rfl rfl ?_
      refine kl_andT rfl rfl g62 ?_
      exact kl_fg (List.Sublist.refl _) (J69 _ (pc 82 rfl (pc 2 rfl (pc 74 rfl pn))))
     ·skip
      refine kl_gF rfl rfl g62 ?_
      refine kl_gF rfl rfl g62 ?_
      refine kl_gF rfl rfl g62 ?_
      refine kl_gF rfl rfl g62 ?_
      refine kl_gF rfl rfl g62 ?_
      refine kl_gF rfl rfl g62 ?_
      refine kl_gF rfl rfl g62 ?_
      refine kl_andF (decide ((cntI (⟨d, z9.cons⟩ : Mod)) = (prodTo d d.length))) rfl rfl g62 ?_
      exact J69 _ (pc 82 rfl (pc 2 rfl (pc 74 rfl pn)))
    refine kl_as rfl ?_
    refine kl_nil (kq_code ?_)
    refine kc_ret ?_
    refine kq_retP rfl rfl (congrArg Value.bool ?_)
    first | rfl | (simp; done) | exact rob_law2 hro hi46 (by omega)
end Go.Proofs.YtbbphbihgikmdaaGreat
