/- Walks of functions of the program: each returns what the plain function gives. Conditions: those that each statement names. -/
import Derived.Test.YtidllhcfcmjggaaSub
import Derived.Test.YtidllhcfcmjggaaWsp
import Derived.Test.YtidllhcfcmjggaaWior
import Derived.Test.YtidllhcfcmjggaaWsel
import Derived.Test.YtidllhcfcmjggaaWfl
import Derived.Test.YtidllhcfcmjggaaWnb
import Derived.Test.YtidllhcfcmjggaaPureH
namespace Go.Proofs.Ytidllhcfcmjggaa
open Go
set_option linter.unusedSimpArgs false
set_option linter.unusedVariables false
theorem drawEw_ok {Hcode : Hp} {vcode : Value} (code : List Int) (hcode : Bytes Hcode vcode code) : Spec Try.prog 6 [vcode] [Hcode] (fun Hq vq => ∃ (mq : Mod) (sq : List Int) (uq0a uq0b uq1 : Value), vq = .tuple #[.agg #[uq0a, uq0b], uq1] ∧ Ints Hq uq0a mq.doms ∧ Cons Hq uq0b mq.cons ∧ Ints Hq uq1 sq ∧ ModSm 50 mq ∧ sq.length ≤ 5) := by
 refine spec_ofR Try.func6 rfl rfl rfl (fun B => ?_)
 refine kc_seq (kc_region ?_)
 refine kl_alloc (cs := [.slice none 0 0, .slice none 0 0]) rfl (fun b1 hb2 => ?_)
 refine kl_as rfl ?_
 refine kl_nil (kq_code (kc_seq (kc_region ?_)))
 refine kl_mv rfl ?_
 refine kl_callT rfl rfl (newReader_ok code hcode) (fun v3 L1 Ln K7 h4 f5 f6 => ?_)
 obtain ⟨rfl, b8, v9, x10, rfl, rfl, h11⟩ := h4
 refine kl_norm ?_
 refine kl_as rfl ?_
 refine kl_nil (kq_code (kc_seq (kc_region ?_)))
 refine kl_mv rfl ?_
 refine kl_callT rfl rfl (sparseModel_ok 0 (by omega) h11) (fun v12 L1 Ln K16 h13 f14 f15 => ?_)
 obtain ⟨q17, h18, rfl, H21, M23, v24, v25, z19, rfl, rfl, o22, o26, h20⟩ := h13
 have f27 := f14 _ (.head _)
 have f28 := f14 _ (.tail _ (.head _))
 have hd1 := h20.d1
 have hd4 := h20.d
 have hc1 := h20.c
 have hcc := h20.cc
 refine kl_norm ?_
 refine kl_alloc (cs := [.slice none 0 0, .slice none 0 0]) rfl (fun b29 hb30 => ?_)
 refine kl_stW (us := [v24, v25]) rfl rfl rfl rfl (oc (OwnL.oneCell (by assumption)) (oc (OwnL.oneCell (by assumption)) oc_nil)) rfl ?_
 refine kl_chg [sing b29 (.cells [v24, v25].toArray 26 (0, 0)), sing b8 (.cells [v9, .int .i64 (q17 : Int)].toArray 81 (0, 0)), H21, M23, sing b1 (.cells [.slice none 0 0, .slice none 0 0].toArray 26 (0, 0))] rfl ?_
 refine kl_nil (kq_code (kc_seq (kc_region ?_)))
 refine kl_mv rfl ?_
 refine kl_fdV rfl ?_
 refine kl_ldB rfl rfl ?_
 refine kl_lenL rfl o22 (fun l31 => ?_)
 refine kl_fdV rfl ?_
 refine kl_ldB rfl rfl ?_
 refine kl_lenL rfl o22 (fun l32 => ?_)
 refine kl_callT rfl rfl (someVars_ok q17 (z19.doms.length : Int) (z19.doms.length : Int) (by omega) (by omega) (by omega) h11) (fun v33 L1 Ln K37 h34 f35 f36 => ?_)
 obtain ⟨q38, h39, rfl, H42, z40, rfl, o43, h41⟩ := h34
 have f44 := f35 _ (.head _)
 have hsv := h41
 refine kl_norm ?_
 refine kl_as rfl ?_
 refine kl_nil (kq_code ?_)
 refine kc_seq ?_
 refine kc_seq (kc_region ?_)
 refine kl_mv rfl ?_
 refine kl_callT rfl rfl (pick_ok q38 (14 : Int) (by omega) h11) (fun v45 L1 Ln K49 h46 f47 f48 => ?_)
 obtain ⟨q50, h51, rfl, rfl, z52, rfl, h53⟩ := h46
 refine kl_norm ?_
 refine kl_nil (kq_code ?_)
 refine kc_block ?_
 refine kc_seq (kc_region ?_)
 refine kl_eql rfl rfl ?_
 refine kl_as rfl ?_
 refine kl_nil (kq_code ?_)
 refine kc_if rfl (fun c56 => ?_) (fun c56 => ?_)
 ·skip
  refine kc_region ?_
  refine kl_mv rfl ?_
  refine kl_mv rfl ?_
  refine kl_mv rfl ?_
  refine kl_lenL rfl o43 (fun l57 => ?_)
  refine kl_sub rfl rfl (by omega) ?_
  refine kl_ixL rfl rfl (by assumption) (by omega) (by omega) (fun p58 q59 => ?_)
  refine kl_ldLI rfl (by assumption) (by assumption) (by omega) ?_
  refine kl_ixLn (i := 0) rfl rfl (by assumption) (by omega) (fun p60 q61 => ?_)
  refine kl_stL (z40.getD (((z40.length : Int) - (1 : Int)).toNat) 0) rfl rfl (by assumption) o43 (by omega) rfl rfl rfl (fun H62 o63 f64 => ?_)
  have f65 := f64 _ f44
  refine kl_chg [sing b8 (.cells [v9, .int .i64 (q50 : Int)].toArray 81 (0, 0)), H62, sing b29 (.cells [v24, v25].toArray 26 (0, 0)), H21, M23, sing b1 (.cells [.slice none 0 0, .slice none 0 0].toArray 26 (0, 0))] rfl ?_
  refine kl_nil (kq_code (kc_seq (kc_region ?_)))
  refine kl_ldW rfl rfl ?_
  refine kl_mv rfl ?_
  refine kl_stW (us := [v24, v25]) rfl rfl rfl rfl (oc (OwnL.oneCell (by assumption)) (oc (OwnL.oneCell (by assumption)) oc_nil)) rfl ?_
  refine kl_chg [sing b8 (.cells [v9, .int .i64 (q50 : Int)].toArray 81 (0, 0)), H62, sing b29 (.cells [v24, v25].toArray 26 (0, 0)), H21, M23, sing b1 (.cells [v24, v25].toArray 26 (0, 0))] rfl ?_
  refine kl_as rfl ?_
  refine kl_nil (kq_code ?_)
  refine kc_ret ?_
  refine kq_frz H21 ?_
  refine kq_frz M23 ?_
  refine kq_cmp M23 K16 (fun c66 => ?_)
  refine kq_frz H62 ?_
  refine kq_cmp (orHp M23 K16) H62 (fun c67 => ?_)
  refine kq_cmp H21 (orHp (orHp M23 K16) H62) (fun c68 => ?_)
  exact kq_retR (rss2 rfl (rs_agg rfl rfl) (rs_tmp rfl)) (orHp H21 (orHp (orHp M23 K16) H62)) (fr_or f27 (fr_or (fr_or f28 f15) f65)) ⟨(⟨z19.doms, z19.cons⟩ : Mod), (z40.set 0 (z40.getD (((z40.length : Int) - (1 : Int)).toNat) 0)), _, _, _, rfl, (Sl.mono (OwnL.ints o22) (fun b o h => orL b o h) (fun _ _ h => h)), (Cons.mono' (OwnL.consK o26 c66) (fun b o h => orC c68 b o (orL b o h))), (Sl.mono (OwnL.ints o63) (fun b o h => orC c68 b o (orC c67 b o h)) (fun _ _ h => h)), by exact ⟨by (constructor <;> dsimp only <;> first | omega | assumption), by first | omega | (simp; omega)⟩⟩ .none
 ·skip
  refine kc_seq (kc_region ?_)
  refine kl_eql rfl rfl ?_
  refine kl_as rfl ?_
  refine kl_nil (kq_code ?_)
  refine kc_if rfl (fun c69 => ?_) (fun c69 => ?_)
  ·skip
   refine kc_frz H42 ?_
   have h70 := OwnL.ints o43
   refine kc_region ?_
   refine kl_mv rfl ?_
   refine kl_slDrop (j := 1) rfl rfl (by assumption) (by omega) (fun u71 h72 => ?_)
   refine kl_as rfl ?_
   refine kl_nil (kq_code (kc_seq (kc_region ?_)))
   refine kl_ldW rfl rfl ?_
   refine kl_mv rfl ?_
   refine kl_stW (us := [v24, v25]) rfl rfl rfl rfl (oc (OwnL.oneCell (by assumption)) (oc (OwnL.oneCell (by assumption)) oc_nil)) rfl ?_
   refine kl_chg [sing b8 (.cells [v9, .int .i64 (q50 : Int)].toArray 81 (0, 0)), sing b29 (.cells [v24, v25].toArray 26 (0, 0)), H21, M23, sing b1 (.cells [v24, v25].toArray 26 (0, 0))] rfl ?_
   refine kl_as rfl ?_
   refine kl_nil (kq_code ?_)
   refine kc_ret ?_
   refine kq_frz H21 ?_
   refine kq_frz M23 ?_
   refine kq_cmp M23 K16 (fun c73 => ?_)
   refine kq_cmp (orHp M23 K16) H42 (fun c74 => ?_)
   refine kq_cmp H21 (orHp (orHp M23 K16) H42) (fun c75 => ?_)
   exact kq_retR (rss2 rfl (rs_agg rfl rfl) (rs_tmp rfl)) (orHp H21 (orHp (orHp M23 K16) H42)) (fr_or f27 (fr_or (fr_or f28 f15) f44)) ⟨(⟨z19.doms, z19.cons⟩ : Mod), (z40.drop 1), _, _, _, rfl, (Sl.mono (OwnL.ints o22) (fun b o h => orL b o h) (fun _ _ h => h)), (Cons.mono' (OwnL.consK o26 c73) (fun b o h => orC c75 b o (orL b o h))), (Sl.mono (by assumption) (fun b o h => orC c75 b o (orC c74 b o h)) (fun _ _ h => h)), by exact ⟨by (constructor <;> dsimp only <;> first | omega | assumption), by first | omega | (simp; omega)⟩⟩ .none
  ·skip
   refine kc_seq (kc_region ?_)
   refine kl_eql rfl rfl ?_
   refine kl_as rfl ?_
   refine kl_nil (kq_code ?_)
   refine kc_if rfl (fun c76 => ?_) (fun c76 => ?_)
   ·skip
    refine kc_region ?_
    refine kl_mv rfl ?_
    refine kl_mv rfl ?_
    refine kl_bs rfl rfl rfl (by decide) (ca rfl (ca rfl ca_nil)) (fun v77 H78 f79 r80 s81 => ?_)
    have h82 : Ints H78 v77 [(-1 : Int), (4 : Int)] := litInts (xs := [(-1 : Int), (4 : Int)]) (by simpa using s81)
    refine kl_callT rfl rfl (one_ok q50 ([(-1 : Int), (4 : Int)]) (by simp) (by omega) h11 (by assumption)) (fun v83 L1 Ln K87 h84 f85 f86 => ?_)
    obtain ⟨q88, h89, rfl, rfl, z90, rfl, h91⟩ := h84
    refine kl_norm ?_
    refine kl_ixLn (i := 0) rfl rfl (by assumption) (by omega) (fun p94 q95 => ?_)
    refine kl_stL z90 rfl rfl (by assumption) o43 (by omega) rfl rfl rfl (fun H96 o97 f98 => ?_)
    have f99 := f98 _ f44
    refine kl_chg [sing b8 (.cells [v9, .int .i64 (q88 : Int)].toArray 81 (0, 0)), H96, sing b29 (.cells [v24, v25].toArray 26 (0, 0)), H21, M23, sing b1 (.cells [.slice none 0 0, .slice none 0 0].toArray 26 (0, 0))] rfl ?_
    refine kl_nil (kq_code (kc_seq (kc_region ?_)))
    refine kl_ldW rfl rfl ?_
    refine kl_mv rfl ?_
    refine kl_stW (us := [v24, v25]) rfl rfl rfl rfl (oc (OwnL.oneCell (by assumption)) (oc (OwnL.oneCell (by assumption)) oc_nil)) rfl ?_
    refine kl_chg [sing b8 (.cells [v9, .int .i64 (q88 : Int)].toArray 81 (0, 0)), H96, sing b29 (.cells [v24, v25].toArray 26 (0, 0)), H21, M23, sing b1 (.cells [v24, v25].toArray 26 (0, 0))] rfl ?_
    refine kl_as rfl ?_
    refine kl_nil (kq_code ?_)
    refine kc_ret ?_
    refine kq_frz H21 ?_
    refine kq_frz M23 ?_
    refine kq_cmp M23 K16 (fun c100 => ?_)
    refine kq_frz H96 ?_
    refine kq_cmp (orHp M23 K16) H96 (fun c101 => ?_)
    refine kq_cmp H21 (orHp (orHp M23 K16) H96) (fun c102 => ?_)
    exact kq_retR (rss2 rfl (rs_agg rfl rfl) (rs_tmp rfl)) (orHp H21 (orHp (orHp M23 K16) H96)) (fr_or f27 (fr_or (fr_or f28 f15) f99)) ⟨(⟨z19.doms, z19.cons⟩ : Mod), (z40.set 0 z90), _, _, _, rfl, (Sl.mono (OwnL.ints o22) (fun b o h => orL b o h) (fun _ _ h => h)), (Cons.mono' (OwnL.consK o26 c100) (fun b o h => orC c102 b o (orL b o h))), (Sl.mono (OwnL.ints o97) (fun b o h => orC c102 b o (orC c101 b o h)) (fun _ _ h => h)), by exact ⟨by (constructor <;> dsimp only <;> first | omega | assumption), by first | omega | (simp; omega)⟩⟩ .none
   ·skip
    refine kc_skipQ ?_
    refine kq_code ?_
    refine kc_seq (kc_region ?_)
    refine kl_ldW rfl rfl ?_
    refine kl_mv rfl ?_
    refine kl_stW (us := [v24, v25]) rfl rfl rfl rfl (oc (OwnL.oneCell (by assumption)) (oc (OwnL.oneCell (by assumption)) oc_nil)) rfl ?_
    refine kl_chg [sing b8 (.cells [v9, .int .i64 (q50 : Int)].toArray 81 (0, 0)), H42, sing b29 (.cells [v24, v25].toArray 26 (0, 0)), H21, M23, sing b1 (.cells [v24, v25].toArray 26 (0, 0))] rfl ?_
    refine kl_as rfl ?_
    refine kl_nil (kq_code ?_)
    refine kc_ret ?_
    refine kq_frz H21 ?_
    refine kq_frz M23 ?_
    refine kq_cmp M23 K16 (fun c103 => ?_)
    refine kq_frz H42 ?_
    refine kq_cmp (orHp M23 K16) H42 (fun c104 => ?_)
    refine kq_cmp H21 (orHp (orHp M23 K16) H42) (fun c105 => ?_)
    exact kq_retR (rss2 rfl (rs_agg rfl rfl) (rs_tmp rfl)) (orHp H21 (orHp (orHp M23 K16) H42)) (fr_or f27 (fr_or (fr_or f28 f15) f44)) ⟨(⟨z19.doms, z19.cons⟩ : Mod), z40, _, _, _, rfl, (Sl.mono (OwnL.ints o22) (fun b o h => orL b o h) (fun _ _ h => h)), (Cons.mono' (OwnL.consK o26 c103) (fun b o h => orC c105 b o (orL b o h))), (Sl.mono (OwnL.ints o43) (fun b o h => orC c105 b o (orC c104 b o h)) (fun _ _ h => h)), by exact ⟨by (constructor <;> dsimp only <;> first | omega | assumption), by first | omega | (simp; omega)⟩⟩ .none
theorem lawFnWd_ok {Hcode : Hp} {vcode : Value} (code : List Int) (hcode : Bytes Hcode vcode code) : SpecP Try.prog 3 [vcode] [Hcode] (.bool true) := by
 refine spec_of Try.func3 rfl rfl rfl (fun B => ?_)
 refine kc_seq (kc_region ?_)
 refine kl_as rfl ?_
 refine kl_nil (kq_code ?_)
 refine kc_seq ?_
 refine kc_seq (kc_region ?_)
 refine kl_mv rfl ?_
 refine kl_len rfl (by assumption) (fun l1 => ?_)
 refine kl_gtr rfl rfl ?_
 refine kl_nil (kq_code ?_)
 refine kc_if rfl (fun c2 => ?_) (fun c2 => ?_)
 ·skip
  refine kc_seq (kc_region ?_)
  refine kl_as rfl ?_
  refine kl_nil (kq_code ?_)
  refine kc_ret ?_
  refine kq_retP rfl rfl (congrArg Value.bool ?_)
  first | exact wd_fin hok hnone (by omega) | rfl | (simp; done)
 ·skip
  refine kc_skipQ ?_
  refine kq_code ?_
  refine kc_seq (kc_region ?_)
  refine kl_mv rfl ?_
  refine kl_call rfl rfl (drawEw_ok code hcode) (fun v3 H4 f5 h6 => ?_)
  obtain ⟨z9, z14, u10, u11, u15, rfl, h12, h13, h16, h8⟩ := h6
  have hd1 := h8.1.d1
  have hd4 := h8.1.d
  refine kl_mv rfl ?_
  refine kl_xt rfl rfl ?_
  refine kl_xt rfl rfl ?_
  refine kl_alloc (cs := [.slice none 0 0, .slice none 0 0]) rfl (fun b17 hb18 => ?_)
  refine kl_stW (us := [u10, u11]) rfl rfl rfl rfl (oc (Sl.oneCell (by assumption)) (oc (Sl.oneCell (by assumption)) oc_nil)) rfl ?_
  refine kl_chg [sing b17 (.cells [u10, u11].toArray 26 (0, 0))] rfl ?_
  refine kl_as rfl ?_
  refine kl_nil (kq_code (kc_seq (kc_region ?_)))
  refine kl_ldW rfl rfl ?_
  refine kl_mv rfl ?_
  refine kl_callP rfl rfl (ielim_ok z9 z14 (by assumption) (by assumption) (by assumption)) ?_
  refine kl_as rfl ?_
  refine kl_nil (kq_code ?_)
  refine kc_seq ?_
  refine kc_seq (kc_region ?_)
  refine kl_mv rfl ?_
  refine kl_ldW rfl rfl ?_
  refine kl_mv rfl ?_
  refine kl_callP rfl rfl (selim_ok z9 z14 (by assumption) (by assumption) (by assumption)) ?_
  refine kl_neq rfl rfl ?_
  refine kl_mv rfl ?_
  refine kl_join 3 29 (.bool (decide ((elimW z9 z14) ≠ (elimW z9 z14)) || decide ((elimW z9 z14) < (0 : Int)))) (pc 2 rfl (pc 3 rfl (pc 4 rfl (pc 5 rfl (pc 26 rfl pn))))) (fun J20 => ?_) ?_
  ·rcases Bool.eq_false_or_eq_true (decide ((elimW z9 z14) ≠ (elimW z9 z14))) with g19 | g19
   ·skip
    refine kl_gF rfl rfl g19 ?_
    refine kl_gF rfl rfl g19 ?_
    refine kl_orT (decide ((elimW z9 z14) < (0 : Int))) rfl rfl g19 ?_
    exact J20 _ (pc 29 rfl (pc 2 rfl (pc 3 rfl (pc 4 rfl (pc 5 rfl (pc 26 rfl pn))))))
   ·skip
    have g19p := of_decide_eq_false g19
    refine kl_gT rfl rfl g19 ?_
    refine kl_mv rfl ?_
    refine kl_gT rfl rfl g19 ?_
    refine kl_lss rfl rfl ?_
    refine kl_orF rfl rfl g19 ?_
    exact J20 _ (pc 29 rfl (pc 2 rfl (pc 3 rfl (pc 4 rfl (pc 5 rfl (pc 26 rfl pn))))))
  refine kl_nil (kq_code ?_)
  refine kc_cond rfl (fun c21 => ?_) (fun c21 => ?_)
  ·skip
   have c21r := c21
   try simp only [Bool.not_eq_true', Bool.not_eq_false', Bool.not_true, Bool.not_false, decide_eq_true_eq, decide_eq_false_iff_not, Bool.and_eq_true, Bool.or_eq_false_iff] at c21
   refine kc_seq (kc_region ?_)
   refine kl_mv rfl ?_
   refine kl_ldW rfl rfl ?_
   refine kl_mv rfl ?_
   refine kl_callP rfl rfl (selim_ok z9 z14 (by assumption) (by assumption) (by assumption)) ?_
   refine kl_eql rfl rfl ?_
   refine kl_as rfl ?_
   refine kl_nil (kq_code ?_)
   refine kc_ret ?_
   refine kq_retP rfl rfl (congrArg Value.bool ?_)
   first | exact wd_fin hok hnone (by omega) | rfl | (simp; done)
  ·skip
   have c21r := c21
   try simp only [Bool.not_eq_true', Bool.not_eq_false', Bool.not_true, Bool.not_false, decide_eq_true_eq, decide_eq_false_iff_not, Bool.and_eq_true, Bool.or_eq_false_iff] at c21
   have hok := wd_ok c21r
   refine kc_skipQ ?_
   refine kq_code ?_
   refine kc_seq (kc_region ?_)
   refine kl_ldW rfl rfl ?_
   refine kl_call rfl rfl (iorder_ok z9 (by assumption) (by assumption)) (fun v22 H23 f24 h25 => ?_)
   obtain ⟨u26, rfl, h27⟩ := h25
   refine kl_mv rfl ?_
   refine kl_xt rfl rfl ?_
   refine kl_xt rfl rfl ?_
   refine kl_as rfl ?_
   refine kl_as rfl ?_
   refine kl_nil (kq_code (kc_seq (kc_region ?_)))
   refine kl_as rfl ?_
   refine kl_nil (kq_code ?_)
   refine kc_seq ?_
   refine kc_seq (kc_region ?_)
   refine kl_as rfl ?_
   refine kl_nil (kq_code ?_)
   refine kc_block ?_
   refine kc_loop0 (A := Nat × Bool) (fun zz => (zz.1 ≤ z9.doms.length) ∧ (zz.2 = (List.range zz.1).all (fun v => decide (((nbI z9 ((v : Nat) : Int)).length : Int) = 0)))) (fun zz => z9.doms.length - zz.1) (fun zz => [(9, .int .i64 (zz.1 : Int)), (8, .bool zz.2)]) (0, true) (pc 2 rfl (pc 3 rfl (pc 5 rfl (pc 6 rfl (pc 7 rfl pn))))) (pc 9 rfl (pc 8 rfl pn)) ⟨Nat.zero_le _, rfl⟩ ?_
   rintro ⟨k, b⟩ hJ30
   obtain ⟨hk28, hi29⟩ : (k ≤ z9.doms.length) ∧ (b = (List.range k).all (fun v => decide (((nbI z9 ((v : Nat) : Int)).length : Int) = 0))) := hJ30
   change KC _ _ (_) _ _ ([(9, .int .i64 (k : Int)), (8, .bool b)] ++ _)
   refine kc_seq ?_
   refine kc_seq (kc_region ?_)
   refine kl_mv rfl ?_
   refine kl_fdV rfl ?_
   refine kl_ldB rfl rfl ?_
   refine kl_len rfl (by assumption) (fun l31 => ?_)
   refine kl_lss rfl rfl ?_
   refine kl_nil (kq_code ?_)
   refine kc_if rfl (fun c32 => ?_) (fun c32 => ?_)
   ·skip
    refine kc_skipQ ?_
    refine kq_code ?_
    refine kc_seq ?_
    refine kc_block ?_
    refine kc_region ?_
    refine kl_mv rfl ?_
    refine kl_mv rfl ?_
    refine kl_join 6 54 (.bool (b && decide (((nbI z9 (k : Int)).length : Int) = (0 : Int)))) (pc 2 rfl (pc 3 rfl (pc 5 rfl (pc 6 rfl (pc 7 rfl (pc 8 rfl (pc 9 rfl (pc 40 rfl (pc 41 rfl (pc 42 rfl (pc 43 rfl (pc 44 rfl (pc 47 rfl (pc 48 rfl pn)))))))))))))) (fun J39 => ?_) ?_
    ·rcases Bool.eq_false_or_eq_true b with g33 | g33
     ·skip
      have g33p := g33
      try simp only [Bool.not_eq_true', Bool.not_eq_false', decide_eq_true_eq, decide_eq_false_iff_not, Bool.and_eq_true, Bool.or_eq_false_iff, withinB_iff] at g33p
      refine kl_gT rfl rfl g33 ?_
      refine kl_ldW rfl rfl ?_
      refine kl_gT rfl rfl g33 ?_
      refine kl_mv rfl ?_
      refine kl_gT rfl rfl g33 ?_
      refine kl_call rfl rfl (neighbours_ok z9 (k : Int) (by assumption) (by assumption)) (fun v34 H35 f36 h37 => ?_)
      refine kl_gT rfl rfl g33 ?_
      refine kl_len rfl (by assumption) (fun l38 => ?_)
      refine kl_gT rfl rfl g33 ?_
      refine kl_eql rfl rfl ?_
      refine kl_andT rfl rfl g33 ?_
      exact kl_fg (List.Sublist.refl _) (J39 _ (pc 54 rfl (pc 2 rfl (pc 3 rfl (pc 5 rfl (pc 6 rfl (pc 7 rfl (pc 8 rfl (pc 9 rfl (pc 40 rfl (pc 41 rfl (pc 42 rfl (pc 43 rfl (pc 44 rfl (pc 47 rfl (pc 48 rfl pn))))))))))))))))
     ·skip
      refine kl_gF rfl rfl g33 ?_
      refine kl_gF rfl rfl g33 ?_
      refine kl_gF rfl rfl g33 ?_
      refine kl_gF rfl rfl g33 ?_
      refine kl_gF rfl rfl g33 ?_
      refine kl_andF (decide (((nbI z9 (k : Int)).length : Int) = (0 : Int))) rfl rfl g33 ?_
      exact J39 _ (pc 54 rfl (pc 2 rfl (pc 3 rfl (pc 5 rfl (pc 6 rfl (pc 7 rfl (pc 8 rfl (pc 9 rfl (pc 40 rfl (pc 41 rfl (pc 42 rfl (pc 43 rfl (pc 44 rfl (pc 47 rfl (pc 48 rfl pn)))))))))))))))
    refine kl_as rfl ?_
    refine kl_nil (kq_code ?_)
    refine kc_region ?_
    refine kl_mv rfl ?_
    refine kl_inc rfl rfl (by omega) ?_
    refine kl_as rfl ?_
    refine kl_nil ?_
    refine kq_round0 ((k + 1), (b && decide (((nbI z9 (k : Int)).length : Int) = (0 : Int)))) (by omega) (⟨by omega, (by rw [List.range_succ, List.all_append, ← hi29]; simp)⟩) (pc 9 rfl (pc 8 rfl pn)) (pc 2 rfl (pc 3 rfl (pc 5 rfl (pc 6 rfl (pc 7 rfl pn))))) (List.Sublist.refl _)
   ·skip
    refine kc_exit ?_
    refine kq_code ?_
    refine kc_seq (kc_region ?_)
    refine kl_mv rfl ?_
    refine kl_mv rfl ?_
    refine kl_leq rfl rfl ?_
    refine kl_mv rfl ?_
    refine kl_join 6 64 (.bool (decide (((bestOrd z9).2) ≤ (elimW z9 z14)) && decide ((elimW z9 ((bestOrd z9).1)) = ((bestOrd z9).2)))) (pc 2 rfl (pc 3 rfl (pc 5 rfl (pc 7 rfl (pc 8 rfl (pc 58 rfl pn)))))) (fun J41 => ?_) ?_
    ·rcases Bool.eq_false_or_eq_true (decide (((bestOrd z9).2) ≤ (elimW z9 z14))) with g40 | g40
     ·skip
      have g40p := of_decide_eq_true g40
      refine kl_gT rfl rfl g40 ?_
      refine kl_ldW rfl rfl ?_
      refine kl_gT rfl rfl g40 ?_
      refine kl_mv rfl ?_
      refine kl_gT rfl rfl g40 ?_
      refine kl_callP rfl rfl (ielim_ok z9 ((bestOrd z9).1) (by assumption) (by assumption) (by assumption)) ?_
      refine kl_gT rfl rfl g40 ?_
      refine kl_mv rfl ?_
      refine kl_gT rfl rfl g40 ?_
      refine kl_eql rfl rfl ?_
      refine kl_andT rfl rfl g40 ?_
      exact J41 _ (pc 64 rfl (pc 2 rfl (pc 3 rfl (pc 5 rfl (pc 7 rfl (pc 8 rfl (pc 58 rfl pn)))))))
     ·skip
      refine kl_gF rfl rfl g40 ?_
      refine kl_gF rfl rfl g40 ?_
      refine kl_gF rfl rfl g40 ?_
      refine kl_gF rfl rfl g40 ?_
      refine kl_gF rfl rfl g40 ?_
      refine kl_andF (decide ((elimW z9 ((bestOrd z9).1)) = ((bestOrd z9).2))) rfl rfl g40 ?_
      exact J41 _ (pc 64 rfl (pc 2 rfl (pc 3 rfl (pc 5 rfl (pc 7 rfl (pc 8 rfl (pc 58 rfl pn)))))))
    refine kl_mv rfl ?_
    refine kl_join 5 70 (.bool ((decide (((bestOrd z9).2) ≤ (elimW z9 z14)) && decide ((elimW z9 ((bestOrd z9).1)) = ((bestOrd z9).2))) && (decide (((bestOrd z9).2) = (0 : Int)) == b))) (pc 2 rfl (pc 3 rfl (pc 5 rfl (pc 65 rfl pn)))) (fun J43 => ?_) ?_
    ·rcases Bool.eq_false_or_eq_true (decide (((bestOrd z9).2) ≤ (elimW z9 z14)) && decide ((elimW z9 ((bestOrd z9).1)) = ((bestOrd z9).2))) with g42 | g42
     ·skip
      have g42p := g42
      try simp only [Bool.not_eq_true', Bool.not_eq_false', decide_eq_true_eq, decide_eq_false_iff_not, Bool.and_eq_true, Bool.or_eq_false_iff, withinB_iff] at g42p
      refine kl_gT rfl rfl g42 ?_
      refine kl_mv rfl ?_
      refine kl_gT rfl rfl g42 ?_
      refine kl_eql rfl rfl ?_
      refine kl_gT rfl rfl g42 ?_
      refine kl_mv rfl ?_
      refine kl_gT rfl rfl g42 ?_
      refine kl_beq rfl rfl ?_
      refine kl_andT rfl rfl g42 ?_
      exact J43 _ (pc 70 rfl (pc 2 rfl (pc 3 rfl (pc 5 rfl (pc 65 rfl pn)))))
     ·skip
      refine kl_gF rfl rfl g42 ?_
      refine kl_gF rfl rfl g42 ?_
      refine kl_gF rfl rfl g42 ?_
      refine kl_gF rfl rfl g42 ?_
      refine kl_andF (decide (((bestOrd z9).2) = (0 : Int)) == b) rfl rfl g42 ?_
      exact J43 _ (pc 70 rfl (pc 2 rfl (pc 3 rfl (pc 5 rfl (pc 65 rfl pn)))))
    refine kl_mv rfl ?_
    refine kl_join 6 77 (.bool (((decide (((bestOrd z9).2) ≤ (elimW z9 z14)) && decide ((elimW z9 ((bestOrd z9).1)) = ((bestOrd z9).2))) && (decide (((bestOrd z9).2) = (0 : Int)) == b)) && decide ((elimW z9 z14) < (z9.doms.length : Int)))) (pc 2 rfl (pc 71 rfl pn)) (fun J46 => ?_) ?_
    ·rcases Bool.eq_false_or_eq_true ((decide (((bestOrd z9).2) ≤ (elimW z9 z14)) && decide ((elimW z9 ((bestOrd z9).1)) = ((bestOrd z9).2))) && (decide (((bestOrd z9).2) = (0 : Int)) == b)) with g44 | g44
     ·skip
      have g44p := g44
      try simp only [Bool.not_eq_true', Bool.not_eq_false', decide_eq_true_eq, decide_eq_false_iff_not, Bool.and_eq_true, Bool.or_eq_false_iff, withinB_iff] at g44p
      refine kl_gT rfl rfl g44 ?_
      refine kl_mv rfl ?_
      refine kl_gT rfl rfl g44 ?_
      refine kl_fdV rfl ?_
      refine kl_gT rfl rfl g44 ?_
      refine kl_ldB rfl rfl ?_
      refine kl_gT rfl rfl g44 ?_
      refine kl_len rfl (by assumption) (fun l45 => ?_)
      refine kl_gT rfl rfl g44 ?_
      refine kl_lss rfl rfl ?_
      refine kl_andT rfl rfl g44 ?_
      exact J46 _ (pc 77 rfl (pc 2 rfl (pc 71 rfl pn)))
     ·skip
      refine kl_gF rfl rfl g44 ?_
      refine kl_gF rfl rfl g44 ?_
      refine kl_gF rfl rfl g44 ?_
      refine kl_gF rfl rfl g44 ?_
      refine kl_gF rfl rfl g44 ?_
      refine kl_andF (decide ((elimW z9 z14) < (z9.doms.length : Int))) rfl rfl g44 ?_
      exact J46 _ (pc 77 rfl (pc 2 rfl (pc 71 rfl pn)))
    refine kl_as rfl ?_
    refine kl_nil (kq_code ?_)
    refine kc_ret ?_
    refine kq_retP rfl rfl (congrArg Value.bool ?_)
    first | exact wd_fin hok hi29 (by omega) | rfl | (simp; done)
end Go.Proofs.Ytidllhcfcmjggaa
