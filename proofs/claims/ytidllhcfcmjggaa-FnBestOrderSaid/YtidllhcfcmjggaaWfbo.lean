/- Walks of functions of the program: each returns what the plain function gives. Conditions: those that each statement names. -/
import Derived.Test.YtidllhcfcmjggaaWwo
import Derived.Test.YtidllhcfcmjggaaWsp
import Derived.Test.YtidllhcfcmjggaaWior
import Derived.Test.YtidllhcfcmjggaaWsor
import Derived.Test.YtidllhcfcmjggaaWfl
import Derived.Test.YtidllhcfcmjggaaPureG
namespace Go.Proofs.Ytidllhcfcmjggaa
open Go
set_option linter.unusedSimpArgs false
set_option linter.unusedVariables false
theorem delCi_ok {Hs Ks : Hp} {vs : Value} (cs : List Con) (i : Nat) (h0 : i < cs.length) (os : OwnL 73 5 Hs Ks ConV vs cs) : SpecT Try.prog 43 [vs, .int .i64 (i : Int), .int .i64 ((i + 1 : Nat) : Int)] [Hs] [Ks] (fun vq L1 Ln _ => ∃ Hq, L1 = [Hq] ∧ Ln = [] ∧ OwnL 73 5 Hq Ks ConV vq (cs.take i ++ cs.drop (i + 1))) := by
 have hlen := os.len
 refine specT_of Try.func43 rfl rfl rfl (fun B => ?_)
 refine kc_seq (kc_region ?_)
 refine kl_as rfl ?_
 refine kl_nil (kq_code (kc_seq (kc_region ?_)))
 refine kl_mv rfl ?_
 refine kl_mv rfl ?_
 refine kl_mv rfl ?_
 refine kl_mv rfl ?_
 refine kl_lenL rfl os (fun l1 => ?_)
 refine kl_sl3 (i := i) (j := (i + 1)) (n := cs.length) rfl rfl rfl rfl os (by omega) (by omega) (by omega) (by omega) (fun u2 => ?_)
 refine kl_nil (kq_code ?_)
 refine kc_seq ?_
 refine kc_seq (kc_region ?_)
 refine kl_mv rfl ?_
 refine kl_mv rfl ?_
 refine kl_eql rfl rfl ?_
 refine kl_nil (kq_code ?_)
 refine kc_if rfl (fun c4 => ?_) (fun c4 => ?_)
 ·skip
  exfalso; omega
 ·skip
  refine kc_skipQ ?_
  refine kq_code ?_
  refine kc_seq (kc_region ?_)
  refine kl_mv rfl ?_
  refine kl_lenL rfl os (fun l5 => ?_)
  refine kl_as rfl ?_
  refine kl_nil (kq_code ?_)
  refine kc_seq ?_
  refine kc_tree (fun i => ([6] : List Nat).contains i) [] (by kernel_rfl) ?_
  refine kt_q 0 (List.nil_sublist _) rfl (by kernel_rfl) ?_
  refine kl_mv rfl ?_
  refine kl_nil (kq_q ?_)
  refine kt_q 1 (List.nil_sublist _) rfl (by kernel_rfl) ?_
  refine kl_mv rfl ?_
  refine kl_nil (kq_q ?_)
  refine kt_q 2 (List.nil_sublist _) rfl (by kernel_rfl) ?_
  refine kl_head (i := i) rfl rfl os (by omega) (by first | omega | (simp; omega)) (fun u6 h7 => ?_)
  refine kl_nil (kq_q ?_)
  refine kt_q 3 (List.nil_sublist _) rfl (by kernel_rfl) ?_
  refine kl_mv rfl ?_
  refine kl_nil (kq_q ?_)
  refine kt_q 4 (List.nil_sublist _) rfl (by kernel_rfl) ?_
  refine kl_mv rfl ?_
  refine kl_nil (kq_q ?_)
  refine kt_q 5 (List.nil_sublist _) rfl (by kernel_rfl) ?_
  refine kl_tail (j := (i + 1)) rfl rfl os (by omega) (by first | omega | (simp; omega)) (fun u8 h9 => ?_)
  refine kl_nil (kq_q ?_)
  refine kt_a 6 rfl (by kernel_rfl) ?_
  refine kl_apT rfl rfl h7 h9 os (by omega) (by omega) (by first | omega | (simp; omega)) (fun v10 H11 o12 c13 f14 => ?_)
  refine kl_nil (kq_x rfl ?_)
  refine kt_q 7 (List.nil_sublist _) rfl (by kernel_rfl) ?_
  refine kl_as rfl ?_
  refine kl_nil (kq_q ?_)
  refine kt_end (by kernel_rfl) ?_
  refine kq_code ?_
  refine kc_seq (kc_region ?_)
  refine kl_mv rfl ?_
  refine kl_mv rfl ?_
  refine kl_lenL rfl o12 (fun l16 => ?_)
  refine kl_mv rfl ?_
  refine kl_rest (n := cs.length) rfl rfl rfl o12 c13 (by (simp; omega)) (fun u17 h18 => ?_)
  refine kl_clr rfl h18 o12 (by rfl) (fun H19 o20 f21 => ?_)
  refine kl_nil (kq_code (kc_seq (kc_region ?_)))
  refine kl_mv rfl ?_
  refine kl_as rfl ?_
  refine kl_nil (kq_code ?_)
  refine kc_ret ?_
  exact kq_retT rfl rfl [H19] [] noHp frn (fr_no _) ⟨H19, rfl, rfl, o20⟩
theorem withoutI_ok {Hmd : Hp} {vmd : Value} {Hmc : Hp} {vmc : Value} (m : Mod) (i : Nat) (hm : ModSm 100 m) (hM : MOk m) (hi : i < m.cons.length) (hmd : Ints Hmd vmd m.doms) (hmc : Cons Hmc vmc m.cons) : Spec Try.prog 15 [.agg #[vmd, vmc], .int .i64 (i : Int)] [Hmd, Hmc] (fun Hq vq => ∃ (mq : Mod) (bq : Bool) (uq0a uq0b : Value), vq = .tuple #[.agg #[uq0a, uq0b], .bool bq] ∧ Ints Hq uq0a mq.doms ∧ Cons Hq uq0b mq.cons ∧ (bq = true ∧ mq = woI m i)) := by
 have h1 := hm.d1
 have h2 := hm.d
 have h3 := hm.c
 have h4 := hm.cc
 refine spec_ofR Try.func15 rfl rfl rfl (fun B => ?_)
 refine kc_seq (kc_region ?_)
 refine kl_box rfl rfl (fun p1 H2 f3 a4 => ?_)
 refine kl_alloc (cs := [.slice none 0 0, .slice none 0 0]) rfl (fun b5 hb6 => ?_)
 refine kl_as rfl ?_
 refine kl_nil (kq_code ?_)
 refine kc_seq ?_
 refine kc_seq (kc_region ?_)
 refine kl_ldS rfl (by assumption) rfl ?_
 refine kl_callP rfl rfl (validMod_ok m (by assumption) (by assumption)) ?_
 refine kl_not rfl ?_
 refine kl_mv rfl ?_
 refine kl_join 8 17 (.bool (!(validModB m) || !(withinB (i : Int) (0 : Int) ((m.cons.length : Int) - (1 : Int))))) (pc 1 rfl (pc 2 rfl (pc 4 rfl (pc 5 rfl (pc 9 rfl pn))))) (fun J11 => ?_) ?_
 ·rcases Bool.eq_false_or_eq_true (!(validModB m)) with g7 | g7
  ·skip
   refine kl_gF rfl rfl g7 ?_
   refine kl_gF rfl rfl g7 ?_
   refine kl_gF rfl rfl g7 ?_
   refine kl_gF rfl rfl g7 ?_
   refine kl_gF rfl rfl g7 ?_
   refine kl_gF rfl rfl g7 ?_
   refine kl_gF rfl rfl g7 ?_
   refine kl_orT (!(withinB (i : Int) (0 : Int) ((m.cons.length : Int) - (1 : Int)))) rfl rfl g7 ?_
   exact J11 _ (pc 17 rfl (pc 1 rfl (pc 2 rfl (pc 4 rfl (pc 5 rfl (pc 9 rfl pn))))))
  ·skip
   have g7p := g7
   try simp only [Bool.not_eq_true', Bool.not_eq_false', decide_eq_true_eq, decide_eq_false_iff_not, Bool.and_eq_true, Bool.or_eq_false_iff, withinB_iff] at g7p
   refine kl_gT rfl rfl g7 ?_
   refine kl_mv rfl ?_
   refine kl_gT rfl rfl g7 ?_
   refine kl_fd rfl (by assumption) (fun p8 a9 => ?_)
   refine kl_gT rfl rfl g7 ?_
   refine kl_ld rfl (by assumption) ?_
   refine kl_gT rfl rfl g7 ?_
   refine kl_len rfl (by assumption) (fun l10 => ?_)
   refine kl_gT rfl rfl g7 ?_
   refine kl_sub rfl rfl (by omega) ?_
   refine kl_gT rfl rfl g7 ?_
   refine kl_callP rfl rfl (within_ok (i : Int) (0 : Int) ((m.cons.length : Int) - (1 : Int))) ?_
   refine kl_gT rfl rfl g7 ?_
   refine kl_not rfl ?_
   refine kl_orF rfl rfl g7 ?_
   exact J11 _ (pc 17 rfl (pc 1 rfl (pc 2 rfl (pc 4 rfl (pc 5 rfl (pc 9 rfl pn))))))
 refine kl_nil (kq_code ?_)
 refine kc_cond rfl (fun c12 => ?_) (fun c12 => ?_)
 ·skip
  have c12r := c12
  try simp only [Bool.not_eq_true', Bool.not_eq_false', Bool.not_true, Bool.not_false, decide_eq_true_eq, decide_eq_false_iff_not, Bool.and_eq_true, Bool.or_eq_false_iff] at c12
  exfalso; have hv := hM.v; simp [hv, withinB] at c12r; omega
 ·skip
  have c12r := c12
  try simp only [Bool.not_eq_true', Bool.not_eq_false', Bool.not_true, Bool.not_false, decide_eq_true_eq, decide_eq_false_iff_not, Bool.and_eq_true, Bool.or_eq_false_iff] at c12
  refine kc_skipQ ?_
  refine kq_code ?_
  refine kc_seq ?_
  refine kc_tree (fun i => ([9, 10, 11] : List Nat).contains i) [] (by kernel_rfl) ?_
  refine kt_q 0 (List.nil_sublist _) rfl (by kernel_rfl) ?_
  refine kl_fd rfl (by assumption) (fun p13 a14 => ?_)
  refine kl_nil (kq_q ?_)
  refine kt_q 1 (List.nil_sublist _) rfl (by kernel_rfl) ?_
  refine kl_ld rfl (by assumption) ?_
  refine kl_nil (kq_q ?_)
  refine kt_q 2 (List.nil_sublist _) rfl (by kernel_rfl) ?_
  refine kl_fd rfl (by assumption) (fun p15 a16 => ?_)
  refine kl_nil (kq_q ?_)
  refine kt_q 3 (List.nil_sublist _) rfl (by kernel_rfl) ?_
  refine kl_ld rfl (by assumption) ?_
  refine kl_nil (kq_q ?_)
  refine kt_q 5 (List.nil_sublist _) rfl (by kernel_rfl) ?_
  refine kl_mv rfl ?_
  refine kl_nil (kq_q ?_)
  refine kt_q 6 (List.nil_sublist _) rfl (by kernel_rfl) ?_
  refine kl_mv rfl ?_
  refine kl_nil (kq_q ?_)
  refine kt_q 7 (List.nil_sublist _) rfl (by kernel_rfl) ?_
  refine kl_inc rfl rfl (by omega) ?_
  refine kl_nil (kq_q ?_)
  refine kt_a 4 rfl (by kernel_rfl) ?_
  refine kl_callL rfl rfl (cloneC_ok m.cons (by omega) (by assumption)) (fun v17 H18 f19 o20 => ?_)
  refine kl_nil (kq_a (List.nil_sublist _) ?_)
  refine kt_a 8 rfl (by kernel_rfl) ?_
  refine kl_callT rfl rfl (delCi_ok m.cons i (by omega) o20) (fun v21 L1 Ln K22 h23 g24 g25 => ?_)
  obtain ⟨H26, rfl, rfl, o27⟩ := h23
  refine kl_norm ?_
  refine kl_nil (kq_a (List.nil_sublist _) ?_)
  refine kt_a 9 rfl (by kernel_rfl) ?_
  refine kl_bd rfl (cp (Sl.cells (by assumption)) (cp (OwnL.cells (by assumption)) cp_nil)) rfl ?_
  refine kl_nil (kq_x rfl ?_)
  refine kt_a 10 rfl (by kernel_rfl) ?_
  refine kl_cmp H26 Hmc (fun c29 => ?_)
  have h28 := OwnL.consK o27 c29
  refine kl_call rfl rfl (copyModI_ok (⟨m.doms, (m.cons.take i ++ m.cons.drop (i + 1))⟩ : Mod) ⟨h1, h2, (by simp; omega), fun c hc => h4 c (wo_sub (m := m) (i := i) c hc)⟩ (by assumption) (by assumption)) (fun v30 H31 f32 h33 => ?_)
  obtain ⟨u34, u35, rfl, h36, h37⟩ := h33
  refine kl_nil (kq_x rfl ?_)
  refine kt_a 11 rfl (by kernel_rfl) ?_
  refine kl_stW (us := [u34, u35]) rfl rfl rfl rfl (oc (Sl.oneCell (by assumption)) (oc (Sl.oneCell (by assumption)) oc_nil)) rfl ?_
  refine kl_chg [H26, sing b5 (.cells [u34, u35].toArray 26 (0, 0))] rfl ?_
  refine kl_nil (kq_x rfl ?_)
  refine kt_q 12 (List.nil_sublist _) rfl (by kernel_rfl) ?_
  refine kl_as rfl ?_
  refine kl_nil (kq_q ?_)
  refine kt_end (by kernel_rfl) ?_
  refine kq_code ?_
  refine kc_ret ?_
  refine kq_cmp H31 H31 (fun c38 => ?_)
  exact kq_retR (rss2 rfl (rs_agg rfl rfl) (rs_tmp rfl)) (orHp H31 H31) (fr_or f32 f32) ⟨(⟨(⟨m.doms, (m.cons.take i ++ m.cons.drop (i + 1))⟩ : Mod).doms, (⟨m.doms, (m.cons.take i ++ m.cons.drop (i + 1))⟩ : Mod).cons⟩ : Mod), true, _, _, rfl, (Sl.mono (by assumption) (fun b o h => orL b o h) (fun _ _ h => h)), (Cons.mono' (by assumption) (fun b o h => orC c38 b o h)), by exact ⟨rfl, rfl⟩⟩ .none
theorem drawBo_ok {Hcode : Hp} {vcode : Value} (code : List Int) (hcode : Bytes Hcode vcode code) : Spec Try.prog 11 [vcode] [Hcode] (fun Hq vq => ∃ mq : Mod, ModR Hq vq mq ∧ ModSm 50 mq) := by
 refine spec_of Try.func11 rfl rfl rfl (fun B => ?_)
 refine kc_seq (kc_region ?_)
 refine kl_alloc (cs := [.slice none 0 0, .slice none 0 0]) rfl (fun b1 hb2 => ?_)
 refine kl_nil (kq_code (kc_seq (kc_region ?_)))
 refine kl_mv rfl ?_
 refine kl_callT rfl rfl (newReader_ok code hcode) (fun v3 L1 Ln K7 h4 f5 f6 => ?_)
 obtain ⟨rfl, b8, v9, x10, rfl, rfl, h11⟩ := h4
 refine kl_norm ?_
 refine kl_callT rfl rfl (sparseModel_ok 0 (by omega) h11) (fun v12 L1 Ln K16 h13 f14 f15 => ?_)
 obtain ⟨q17, h18, rfl, H21, M23, v24, v25, z19, rfl, rfl, o22, o26, h20⟩ := h13
 have f27 := f14 _ (.head _)
 have f28 := f14 _ (.tail _ (.head _))
 have hd1 := h20.d1
 have hd4 := h20.d
 have hc1 := h20.c
 have hcc := h20.cc
 refine kl_norm ?_
 refine kl_stW (us := [v24, v25]) rfl rfl rfl rfl (oc (OwnL.oneCell (by assumption)) (oc (OwnL.oneCell (by assumption)) oc_nil)) rfl ?_
 refine kl_chg [sing b8 (.cells [v9, .int .i64 (q17 : Int)].toArray 81 (0, 0)), H21, M23, sing b1 (.cells [v24, v25].toArray 26 (0, 0))] rfl ?_
 refine kl_nil (kq_code ?_)
 refine kc_ret ?_
 refine kq_frz H21 ?_
 refine kq_frz M23 ?_
 refine kq_cmp M23 K16 (fun c29 => ?_)
 refine kq_cmp H21 (orHp M23 K16) (fun c30 => ?_)
 exact kq_retC rfl rfl rfl (orHp H21 (orHp M23 K16)) (fr_or f27 (fr_or f28 f15)) ⟨(⟨z19.doms, z19.cons⟩ : Mod), ⟨_, _, rfl, (Sl.mono (OwnL.ints o22) (fun b o h => orL b o h) (fun _ _ h => h)), (Cons.mono' (OwnL.consK o26 c29) (fun b o h => orC c30 b o h))⟩, by assumption⟩
theorem lawFnBo_ok {Hcode : Hp} {vcode : Value} (code : List Int) (hcode : Bytes Hcode vcode code) : SpecP Try.prog 4 [vcode] [Hcode] (.bool true) := by
 refine spec_of Try.func4 rfl rfl rfl (fun B => ?_)
 refine kc_seq (kc_region ?_)
 refine kl_as rfl ?_
 refine kl_nil (kq_code ?_)
 refine kc_seq ?_
 refine kc_seq (kc_region ?_)
 refine kl_mv rfl ?_
 refine kl_len rfl (by assumption) (fun l1 => ?_)
 refine kl_gtr rfl rfl ?_
 refine kl_nil (kq_code ?_)
 refine kc_if rfl (fun c2 => ?_) (fun c2 => ?_)
 ·skip
  refine kc_seq (kc_region ?_)
  refine kl_as rfl ?_
  refine kl_nil (kq_code ?_)
  refine kc_ret ?_
  refine kq_retP rfl rfl (congrArg Value.bool ?_)
  first | exact bo_fin hM | rfl | (simp; done) | exact (bo_gt hM hwo (by assumption)).elim | exact absurd (by assumption : (!true) = true) (by decide)
 ·skip
  refine kc_skipQ ?_
  refine kq_code ?_
  refine kc_seq (kc_region ?_)
  refine kl_mv rfl ?_
  refine kl_call rfl rfl (drawBo_ok code hcode) (fun v3 H4 f5 h6 => ?_)
  obtain ⟨z7, ⟨u9, u10, rfl, h11, h12⟩, h8⟩ := h6
  have hd1 := h8.d1
  have hd4 := h8.d
  have hd3 := h8.c
  have hsm : ModSm 100 _ := h8.mono (by decide)
  refine kl_alloc (cs := [.slice none 0 0, .slice none 0 0]) rfl (fun b13 hb14 => ?_)
  refine kl_stW (us := [u9, u10]) rfl rfl rfl rfl (oc (Sl.oneCell (by assumption)) (oc (Sl.oneCell (by assumption)) oc_nil)) rfl ?_
  refine kl_chg [sing b13 (.cells [u9, u10].toArray 26 (0, 0))] rfl ?_
  refine kl_nil (kq_code (kc_seq (kc_region ?_)))
  refine kl_ldW rfl rfl ?_
  refine kl_call rfl rfl (iorder_ok z7 (by assumption) (by assumption)) (fun v15 H16 f17 h18 => ?_)
  obtain ⟨u19, rfl, h20⟩ := h18
  refine kl_mv rfl ?_
  refine kl_xt rfl rfl ?_
  refine kl_xt rfl rfl ?_
  refine kl_as rfl ?_
  refine kl_as rfl ?_
  refine kl_nil (kq_code (kc_seq (kc_region ?_)))
  refine kl_ldW rfl rfl ?_
  refine kl_call rfl rfl (sorder_ok z7 (by assumption) (by assumption)) (fun v21 H22 f23 h24 => ?_)
  obtain ⟨u25, rfl, h26⟩ := h24
  refine kl_mv rfl ?_
  refine kl_xt rfl rfl ?_
  refine kl_xt rfl rfl ?_
  refine kl_as rfl ?_
  refine kl_as rfl ?_
  refine kl_nil (kq_code ?_)
  refine kc_seq ?_
  refine kc_seq (kc_region ?_)
  refine kl_mv rfl ?_
  refine kl_mv rfl ?_
  refine kl_neq rfl rfl ?_
  refine kl_mv rfl ?_
  refine kl_join 5 37 (.bool (decide (((bestOrd z7).2) ≠ ((bestOrd z7).2)) || !(decide (((bestOrd z7).1) = ((bestOrd z7).1))))) (pc 2 rfl (pc 3 rfl (pc 4 rfl (pc 5 rfl (pc 6 rfl (pc 7 rfl (pc 32 rfl pn))))))) (fun J28 => ?_) ?_
  ·rcases Bool.eq_false_or_eq_true (decide (((bestOrd z7).2) ≠ ((bestOrd z7).2))) with g27 | g27
   ·skip
    refine kl_gF rfl rfl g27 ?_
    refine kl_gF rfl rfl g27 ?_
    refine kl_gF rfl rfl g27 ?_
    refine kl_gF rfl rfl g27 ?_
    refine kl_orT (!(decide (((bestOrd z7).1) = ((bestOrd z7).1)))) rfl rfl g27 ?_
    exact J28 _ (pc 37 rfl (pc 2 rfl (pc 3 rfl (pc 4 rfl (pc 5 rfl (pc 6 rfl (pc 7 rfl (pc 32 rfl pn))))))))
   ·skip
    have g27p := of_decide_eq_false g27
    refine kl_gT rfl rfl g27 ?_
    refine kl_mv rfl ?_
    refine kl_gT rfl rfl g27 ?_
    refine kl_mv rfl ?_
    refine kl_gT rfl rfl g27 ?_
    refine kl_callP rfl rfl (equalInts_ok ((bestOrd z7).1) ((bestOrd z7).1) (by assumption) (by assumption)) ?_
    refine kl_gT rfl rfl g27 ?_
    refine kl_not rfl ?_
    refine kl_orF rfl rfl g27 ?_
    exact J28 _ (pc 37 rfl (pc 2 rfl (pc 3 rfl (pc 4 rfl (pc 5 rfl (pc 6 rfl (pc 7 rfl (pc 32 rfl pn))))))))
  refine kl_mv rfl ?_
  refine kl_join 3 41 (.bool ((decide (((bestOrd z7).2) ≠ ((bestOrd z7).2)) || !(decide (((bestOrd z7).1) = ((bestOrd z7).1)))) || decide (((bestOrd z7).2) < (0 : Int)))) (pc 2 rfl (pc 3 rfl (pc 4 rfl (pc 5 rfl (pc 6 rfl (pc 7 rfl (pc 38 rfl pn))))))) (fun J30 => ?_) ?_
  ·rcases Bool.eq_false_or_eq_true (decide (((bestOrd z7).2) ≠ ((bestOrd z7).2)) || !(decide (((bestOrd z7).1) = ((bestOrd z7).1)))) with g29 | g29
   ·skip
    refine kl_gF rfl rfl g29 ?_
    refine kl_gF rfl rfl g29 ?_
    refine kl_orT (decide (((bestOrd z7).2) < (0 : Int))) rfl rfl g29 ?_
    exact J30 _ (pc 41 rfl (pc 2 rfl (pc 3 rfl (pc 4 rfl (pc 5 rfl (pc 6 rfl (pc 7 rfl (pc 38 rfl pn))))))))
   ·skip
    have g29p := g29
    try simp only [Bool.not_eq_true', Bool.not_eq_false', decide_eq_true_eq, decide_eq_false_iff_not, Bool.and_eq_true, Bool.or_eq_false_iff, withinB_iff] at g29p
    refine kl_gT rfl rfl g29 ?_
    refine kl_mv rfl ?_
    refine kl_gT rfl rfl g29 ?_
    refine kl_lss rfl rfl ?_
    refine kl_orF rfl rfl g29 ?_
    exact J30 _ (pc 41 rfl (pc 2 rfl (pc 3 rfl (pc 4 rfl (pc 5 rfl (pc 6 rfl (pc 7 rfl (pc 38 rfl pn))))))))
  refine kl_nil (kq_code ?_)
  refine kc_cond rfl (fun c31 => ?_) (fun c31 => ?_)
  ·skip
   have c31r := c31
   try simp only [Bool.not_eq_true', Bool.not_eq_false', Bool.not_true, Bool.not_false, decide_eq_true_eq, decide_eq_false_iff_not, Bool.and_eq_true, Bool.or_eq_false_iff] at c31
   refine kc_seq (kc_region ?_)
   refine kl_mv rfl ?_
   refine kl_mv rfl ?_
   refine kl_eql rfl rfl ?_
   refine kl_mv rfl ?_
   refine kl_join 4 49 (.bool (decide (((bestOrd z7).2) = ((bestOrd z7).2)) && (decide (((bestOrd z7).1) = ((bestOrd z7).1))))) (pc 2 rfl (pc 3 rfl (pc 4 rfl (pc 5 rfl (pc 45 rfl pn))))) (fun J33 => ?_) ?_
   ·rcases Bool.eq_false_or_eq_true (decide (((bestOrd z7).2) = ((bestOrd z7).2))) with g32 | g32
    ·skip
     have g32p := of_decide_eq_true g32
     refine kl_gT rfl rfl g32 ?_
     refine kl_mv rfl ?_
     refine kl_gT rfl rfl g32 ?_
     refine kl_mv rfl ?_
     refine kl_gT rfl rfl g32 ?_
     refine kl_callP rfl rfl (equalInts_ok ((bestOrd z7).1) ((bestOrd z7).1) (by assumption) (by assumption)) ?_
     refine kl_andT rfl rfl g32 ?_
     exact J33 _ (pc 49 rfl (pc 2 rfl (pc 3 rfl (pc 4 rfl (pc 5 rfl (pc 45 rfl pn))))))
    ·skip
     refine kl_gF rfl rfl g32 ?_
     refine kl_gF rfl rfl g32 ?_
     refine kl_gF rfl rfl g32 ?_
     refine kl_andF (decide (((bestOrd z7).1) = ((bestOrd z7).1))) rfl rfl g32 ?_
     exact J33 _ (pc 49 rfl (pc 2 rfl (pc 3 rfl (pc 4 rfl (pc 5 rfl (pc 45 rfl pn))))))
   refine kl_as rfl ?_
   refine kl_nil (kq_code ?_)
   refine kc_ret ?_
   refine kq_retP rfl rfl (congrArg Value.bool ?_)
   first | exact bo_fin hM | rfl | (simp; done) | exact (bo_gt hM hwo (by assumption)).elim | exact absurd (by assumption : (!true) = true) (by decide)
  ·skip
   have c31r := c31
   try simp only [Bool.not_eq_true', Bool.not_eq_false', Bool.not_true, Bool.not_false, decide_eq_true_eq, decide_eq_false_iff_not, Bool.and_eq_true, Bool.or_eq_false_iff] at c31
   have hM := bo_g c31r
   refine kc_skipQ ?_
   refine kq_code ?_
   refine kc_seq ?_
   refine kc_seq (kc_region ?_)
   refine kl_as rfl ?_
   refine kl_nil (kq_code ?_)
   refine kc_block ?_
   refine kc_loop0 (A := Nat) (fun zz => (zz ≤ z7.doms.length)) (fun zz => z7.doms.length - zz) (fun zz => [(8, .int .i64 (zz : Int))]) (0) (pc 3 rfl (pc 4 rfl (pc 5 rfl pn))) (pc 8 rfl pn) (Nat.zero_le _) ?_
   rintro k hJ36
   have hk34 : (k ≤ z7.doms.length) := hJ36
   change KC _ _ (_) _ _ ([(8, .int .i64 (k : Int))] ++ _)
   refine kc_seq ?_
   refine kc_seq (kc_region ?_)
   refine kl_mv rfl ?_
   refine kl_fdV rfl ?_
   refine kl_ldB rfl rfl ?_
   refine kl_len rfl (by assumption) (fun l37 => ?_)
   refine kl_lss rfl rfl ?_
   refine kl_nil (kq_code ?_)
   refine kc_if rfl (fun c38 => ?_) (fun c38 => ?_)
   ·skip
    refine kc_skipQ ?_
    refine kq_code ?_
    refine kc_seq ?_
    refine kc_block ?_
    refine kc_seq (kc_region ?_)
    refine kl_mv rfl ?_
    refine kl_mv rfl ?_
    refine kl_callP rfl rfl (lcontains_ok ((bestOrd z7).1) (k : Int) (by assumption)) ?_
    refine kl_not rfl ?_
    refine kl_nil (kq_code ?_)
    refine kc_cond rfl (fun c39 => ?_) (fun c39 => ?_)
    ·skip
     have c39r := c39
     try simp only [Bool.not_eq_true', Bool.not_eq_false', Bool.not_true, Bool.not_false, decide_eq_true_eq, decide_eq_false_iff_not, Bool.and_eq_true, Bool.or_eq_false_iff] at c39
     exact (bo_out hM (by omega) c39r).elim
    ·skip
     have c39r := c39
     try simp only [Bool.not_eq_true', Bool.not_eq_false', Bool.not_true, Bool.not_false, decide_eq_true_eq, decide_eq_false_iff_not, Bool.and_eq_true, Bool.or_eq_false_iff] at c39
     refine kc_skipQ ?_
     refine kq_code ?_
     refine kc_region ?_
     refine kl_mv rfl ?_
     refine kl_inc rfl rfl (by omega) ?_
     refine kl_as rfl ?_
     refine kl_nil ?_
     refine kq_round0 ((k + 1)) (by omega) (by omega) (pc 8 rfl pn) (pc 3 rfl (pc 4 rfl (pc 5 rfl pn))) (List.Sublist.refl _)
   ·skip
    refine kc_exit ?_
    refine kq_code ?_
    refine kc_seq ?_
    refine kc_seq (kc_region ?_)
    refine kl_as rfl ?_
    refine kl_nil (kq_code ?_)
    refine kc_block ?_
    refine kc_loop0 (A := Nat) (fun zz => (zz ≤ z7.cons.length)) (fun zz => z7.cons.length - zz) (fun zz => [(9, .int .i64 (zz : Int))]) (0) (pc 3 rfl (pc 4 rfl (pc 5 rfl pn))) (pc 9 rfl pn) (Nat.zero_le _) ?_
    rintro k2 hJ42
    have hk40 : (k2 ≤ z7.cons.length) := hJ42
    change KC _ _ (_) _ _ ([(9, .int .i64 (k2 : Int))] ++ _)
    refine kc_seq ?_
    refine kc_seq (kc_region ?_)
    refine kl_mv rfl ?_
    refine kl_fdV rfl ?_
    refine kl_ldB rfl rfl ?_
    refine kl_len rfl (by assumption) (fun l43 => ?_)
    refine kl_lss rfl rfl ?_
    refine kl_nil (kq_code ?_)
    refine kc_if rfl (fun c44 => ?_) (fun c44 => ?_)
    ·skip
     refine kc_skipQ ?_
     refine kq_code ?_
     refine kc_seq ?_
     refine kc_block ?_
     refine kc_seq (kc_region ?_)
     refine kl_ldW rfl rfl ?_
     refine kl_mv rfl ?_
     refine kl_call rfl rfl (withoutI_ok z7 k2 hsm hM (by omega) (by assumption) (by assumption)) (fun v45 H46 f47 h48 => ?_)
     obtain ⟨z51, z56, u52, u53, rfl, h54, h55, h50⟩ := h48
     obtain ⟨rfl, hwo⟩ := h50
     refine kl_mv rfl ?_
     refine kl_xt rfl rfl ?_
     refine kl_xt rfl rfl ?_
     refine kl_alloc (cs := [.slice none 0 0, .slice none 0 0]) rfl (fun b57 hb58 => ?_)
     refine kl_stW (us := [u52, u53]) rfl rfl rfl rfl (oc (Sl.oneCell (by assumption)) (oc (Sl.oneCell (by assumption)) oc_nil)) rfl ?_
     refine kl_chg [sing b57 (.cells [u52, u53].toArray 26 (0, 0)), sing b13 (.cells [u9, u10].toArray 26 (0, 0))] rfl ?_
     refine kl_as rfl ?_
     refine kl_nil (kq_code ?_)
     refine kc_seq ?_
     refine kc_seq (kc_region ?_)
     refine kl_mv rfl ?_
     refine kl_not rfl ?_
     refine kl_nil (kq_code ?_)
     refine kc_cond rfl (fun c59 => ?_) (fun c59 => ?_)
     ·skip
      have c59r := c59
      try simp only [Bool.not_eq_true', Bool.not_eq_false', Bool.not_true, Bool.not_false, decide_eq_true_eq, decide_eq_false_iff_not, Bool.and_eq_true, Bool.or_eq_false_iff] at c59
      refine kc_seq (kc_region ?_)
      refine kl_as rfl ?_
      refine kl_nil (kq_code ?_)
      refine kc_ret ?_
      refine kq_retP rfl rfl (congrArg Value.bool ?_)
      first | exact bo_fin hM | rfl | (simp; done) | exact (bo_gt hM hwo (by assumption)).elim | exact absurd (by assumption : (!true) = true) (by decide)
     ·skip
      have c59r := c59
      try simp only [Bool.not_eq_true', Bool.not_eq_false', Bool.not_true, Bool.not_false, decide_eq_true_eq, decide_eq_false_iff_not, Bool.and_eq_true, Bool.or_eq_false_iff] at c59
      refine kc_skipQ ?_
      refine kq_code ?_
      refine kc_seq (kc_region ?_)
      refine kl_ldW rfl rfl ?_
      refine kl_call rfl rfl (iorder_ok z51 (by assumption) (by assumption)) (fun v60 H61 f62 h63 => ?_)
      obtain ⟨u64, rfl, h65⟩ := h63
      refine kl_mv rfl ?_
      refine kl_xt rfl rfl ?_
      refine kl_xt rfl rfl ?_
      refine kl_as rfl ?_
      refine kl_as rfl ?_
      refine kl_nil (kq_code (kc_seq (kc_region ?_)))
      refine kl_mv rfl ?_
      refine kl_mv rfl ?_
      refine kl_gtr rfl rfl ?_
      refine kl_nil (kq_code ?_)
      refine kc_if rfl (fun c66 => ?_) (fun c66 => ?_)
      ·skip
       refine kc_seq (kc_region ?_)
       refine kl_as rfl ?_
       refine kl_nil (kq_code ?_)
       refine kc_ret ?_
       refine kq_retP rfl rfl (congrArg Value.bool ?_)
       first | exact bo_fin hM | rfl | (simp; done) | exact (bo_gt hM hwo (by assumption)).elim | exact absurd (by assumption : (!true) = true) (by decide)
      ·skip
       refine kc_skipQ ?_
       refine kq_code ?_
       refine kc_region ?_
       refine kl_mv rfl ?_
       refine kl_inc rfl rfl (by omega) ?_
       refine kl_as rfl ?_
       refine kl_nil ?_
       refine kq_round0 ((k2 + 1)) (by omega) (by omega) (pc 9 rfl pn) (pc 3 rfl (pc 4 rfl (pc 5 rfl pn))) (.cons _ (List.Sublist.refl _))
    ·skip
     refine kc_exit ?_
     refine kq_code ?_
     refine kc_seq (kc_region ?_)
     refine kl_mv rfl ?_
     refine kl_len rfl (by assumption) (fun l67 => ?_)
     refine kl_fdV rfl ?_
     refine kl_ldB rfl rfl ?_
     refine kl_len rfl (by assumption) (fun l68 => ?_)
     refine kl_eql rfl rfl ?_
     refine kl_as rfl ?_
     refine kl_nil (kq_code ?_)
     refine kc_ret ?_
     refine kq_retP rfl rfl (congrArg Value.bool ?_)
     first | exact bo_fin hM | rfl | (simp; done) | exact (bo_gt hM hwo (by assumption)).elim | exact absurd (by assumption : (!true) = true) (by decide)
end Go.Proofs.Ytidllhcfcmjggaa
