/- Walks of functions of the program: each returns what the plain function gives. Conditions: those that each statement names. -/
import Derived.Test.YtidllhcfcmjggaaWiel
import Derived.Test.YtidllhcfcmjggaaWfilt
import Derived.Test.YtidllhcfcmjggaaWrep
import Derived.Test.YtidllhcfcmjggaaWbest
import Derived.Test.YtidllhcfcmjggaaOrd
import Derived.Test.YtidllhcfcmjggaaPureF
namespace Go.Proofs.Ytidllhcfcmjggaa
open Go
set_option linter.unusedSimpArgs false
set_option linter.unusedVariables false
theorem bestB_ok {Hxs : Hp} {vxs : Value} {gp : Nat} {bp : Value} {imp : List Hp} [FnC Try.prog gp] (xs : List (List Int)) (p : List Int → Int) (hn : ∀ x ∈ xs, x ≠ []) (hl : ∀ x ∈ xs, x.length ≤ 4) (hxs : Rows Hxs vxs xs) (hp : ∀ (H : Hp) (u : Value) (r : List Int), r ∈ xs → Ints H u r → SpecP Try.prog gp [bp, u] (H :: imp) (.int .i64 (p r))) : Spec Try.prog 38 [vxs, .func (.func gp) #[bp] #[]] (Hxs :: imp) (fun Hq vq => ∃ uq0 : Value, vq = .tuple #[uq0, .bool ((bestI p xs).2)] ∧ Ints Hq uq0 ((bestI p xs).1)) := by
 refine spec_of Try.func38 rfl rfl rfl (fun B => ?_)
 refine kc_seq (kc_region ?_)
 refine kl_as rfl ?_
 refine kl_as rfl ?_
 refine kl_nil (kq_code (kc_seq (kc_region ?_)))
 refine kl_as rfl ?_
 refine kl_nil (kq_code (kc_seq (kc_region ?_)))
 refine kl_as rfl ?_
 refine kl_nil (kq_code ?_)
 refine kc_seq ?_
 refine kc_seq (kc_region ?_)
 refine kl_mv rfl ?_
 refine kl_len rfl (by assumption) (fun l1 => ?_)
 refine kl_mv rfl ?_
 refine kl_nil (kq_code ?_)
 refine kc_block ?_
 refine kc_loop0 (A := Nat × Int × List Int × Value) (fun zz => (zz.1 ≤ xs.length) ∧ ((zz.2.2.1, zz.2.1) = bestTo p xs zz.1 ∧ (zz.1 = 0 → zz.2.2.2 = .slice none 0 0)) ∧ Ints Hxs zz.2.2.2 zz.2.2.1) (fun zz => xs.length - zz.1) (fun zz => [(13, .int .i64 (zz.1 : Int)), (7, .int .i64 zz.2.1), (6, zz.2.2.2)]) (0, (0 : Int), [], (.slice none 0 0)) (pc 1 rfl (pc 4 rfl (pc 5 rfl (pc 11 rfl (pc 12 rfl pn))))) (pc 13 rfl (pc 7 rfl (pc 6 rfl pn))) ⟨Nat.zero_le _, ⟨rfl, fun _ => rfl⟩, Sl.nil⟩ ?_
 rintro ⟨k, s, o, vo⟩ hJ5
 obtain ⟨hk2, hi3, h4⟩ : (k ≤ xs.length) ∧ ((o, s) = bestTo p xs k ∧ (k = 0 → vo = .slice none 0 0)) ∧ Ints Hxs vo o := hJ5
 change KC _ _ (_) _ _ ([(13, .int .i64 (k : Int)), (7, .int .i64 s), (6, vo)] ++ _)
 refine kc_seq (kc_region ?_)
 refine kl_lss rfl rfl ?_
 refine kl_nil (kq_code ?_)
 refine kc_seq ?_
 refine kc_if rfl (fun c6 => ?_) (fun c6 => ?_)
 ·skip
  have hk9 : k < xs.length := (by omega)
  refine kc_skipQ ?_
  refine kq_code ?_
  refine kc_seq ?_
  refine kc_block ?_
  refine kc_seq (kc_region ?_)
  refine kl_inS rfl rfl (by assumption) (by omega) (fun p7 u9 h10 a8 => ?_)
  refine kl_ld rfl (by assumption) ?_
  refine kl_as rfl ?_
  refine kl_nil (kq_code (kc_seq (kc_region ?_)))
  refine kl_mv rfl ?_
  refine kl_mv rfl ?_
  refine kl_callPB rfl rfl (hp _ _ (xs.getD k []) (getD_mem (by omega)) (by assumption)) ?_
  refine kl_as rfl ?_
  refine kl_nil (kq_code (kc_seq (kc_region ?_)))
  refine kl_mv rfl ?_
  refine kl_eqlnilX rfl rfl (by assumption) (fun bn nn nx => ?_)
  refine kl_mv rfl ?_
  refine kl_join 4 26 (.bool (bn || decide ((p (xs.getD k [])) < s))) (pc 1 rfl (pc 4 rfl (pc 5 rfl (pc 6 rfl (pc 7 rfl (pc 9 rfl (pc 10 rfl (pc 11 rfl (pc 12 rfl (pc 13 rfl (pc 14 rfl (pc 15 rfl (pc 16 rfl (pc 17 rfl (pc 18 rfl (pc 19 rfl (pc 20 rfl (pc 21 rfl (pc 22 rfl pn))))))))))))))))))) (fun J14 => ?_) ?_
  ·rcases Bool.eq_false_or_eq_true bn with g13 | g13
   ·skip
    refine kl_gF rfl rfl g13 ?_
    refine kl_gF rfl rfl g13 ?_
    refine kl_gF rfl rfl g13 ?_
    refine kl_orT (decide ((p (xs.getD k [])) < s)) rfl rfl g13 ?_
    exact J14 _ (pc 26 rfl (pc 1 rfl (pc 4 rfl (pc 5 rfl (pc 6 rfl (pc 7 rfl (pc 9 rfl (pc 10 rfl (pc 11 rfl (pc 12 rfl (pc 13 rfl (pc 14 rfl (pc 15 rfl (pc 16 rfl (pc 17 rfl (pc 18 rfl (pc 19 rfl (pc 20 rfl (pc 21 rfl (pc 22 rfl pn))))))))))))))))))))
   ·skip
    have g13p := g13
    try simp only [Bool.not_eq_true', Bool.not_eq_false', decide_eq_true_eq, decide_eq_false_iff_not, Bool.and_eq_true, Bool.or_eq_false_iff, withinB_iff] at g13p
    refine kl_gT rfl rfl g13 ?_
    refine kl_mv rfl ?_
    refine kl_gT rfl rfl g13 ?_
    refine kl_mv rfl ?_
    refine kl_gT rfl rfl g13 ?_
    refine kl_lss rfl rfl ?_
    refine kl_orF rfl rfl g13 ?_
    exact J14 _ (pc 26 rfl (pc 1 rfl (pc 4 rfl (pc 5 rfl (pc 6 rfl (pc 7 rfl (pc 9 rfl (pc 10 rfl (pc 11 rfl (pc 12 rfl (pc 13 rfl (pc 14 rfl (pc 15 rfl (pc 16 rfl (pc 17 rfl (pc 18 rfl (pc 19 rfl (pc 20 rfl (pc 21 rfl (pc 22 rfl pn))))))))))))))))))))
  refine kl_nil (kq_code ?_)
  refine kc_cond rfl (fun c15 => ?_) (fun c15 => ?_)
  ·skip
   have c15r := c15
   try simp only [Bool.not_eq_true', Bool.not_eq_false', Bool.not_true, Bool.not_false, decide_eq_true_eq, decide_eq_false_iff_not, Bool.and_eq_true, Bool.or_eq_false_iff] at c15
   refine kc_region ?_
   refine kl_mv rfl ?_
   refine kl_mv rfl ?_
   refine kl_as rfl ?_
   refine kl_as rfl ?_
   refine kl_nil (kq_code ?_)
   refine kc_region ?_
   refine kl_inc rfl rfl (by omega) ?_
   refine kl_mv rfl ?_
   refine kl_nil ?_
   refine kq_round0 ((k + 1), (p (xs.getD k [])), (xs.getD k []), u9) (by omega) (⟨by omega, (by first | exact ⟨br_T hi3.1 hn hk9 nn (by assumption), fun h => absurd h (by omega)⟩ | exact ⟨br_F hi3.1 (fun h => nx (hi3.2 h)) (by assumption), fun h => absurd h (by omega)⟩ | skip), (by assumption)⟩) (pc 13 rfl (pc 7 rfl (pc 6 rfl pn))) (pc 1 rfl (pc 4 rfl (pc 5 rfl (pc 11 rfl (pc 12 rfl pn))))) (List.Sublist.refl _)
  ·skip
   have c15r := c15
   try simp only [Bool.not_eq_true', Bool.not_eq_false', Bool.not_true, Bool.not_false, decide_eq_true_eq, decide_eq_false_iff_not, Bool.and_eq_true, Bool.or_eq_false_iff] at c15
   refine kc_skipQ ?_
   refine kq_code ?_
   refine kc_region ?_
   refine kl_inc rfl rfl (by omega) ?_
   refine kl_mv rfl ?_
   refine kl_nil ?_
   refine kq_round0 ((k + 1), s, o, vo) (by omega) (⟨by omega, (by first | exact ⟨br_T hi3.1 hn hk9 nn (by assumption), fun h => absurd h (by omega)⟩ | exact ⟨br_F hi3.1 (fun h => nx (hi3.2 h)) (by assumption), fun h => absurd h (by omega)⟩ | skip), (by assumption)⟩) (pc 13 rfl (pc 7 rfl (pc 6 rfl pn))) (pc 1 rfl (pc 4 rfl (pc 5 rfl (pc 11 rfl (pc 12 rfl pn))))) (List.Sublist.refl _)
 ·skip
  have hk8 : k = xs.length := (by omega)
  refine kc_exit ?_
  refine kq_code ?_
  refine kc_seq (kc_region ?_)
  refine kl_mv rfl ?_
  refine kl_call rfl rfl (copied_ok o (best_cp hl hi3.1 (by omega)) (by assumption)) (fun v16 H17 f18 o19 => ?_)
  have h20 := OwnL.ints o19
  refine kl_mv rfl ?_
  refine kl_neqnilX rfl rfl (by assumption) (fun bn nn nx => ?_)
  refine kl_as rfl ?_
  refine kl_as rfl ?_
  refine kl_nil (kq_code ?_)
  refine kc_ret ?_
  refine kq_ret2 rfl rfl rfl H17 f18 ⟨_, tup2 rfl (congrArg Value.bool (by exact (best_b hi3.1 (by omega) hn nn (fun h => nx (hi3.2 h))).symm)), ?_⟩
  exact (by have e9 : (bestI p xs).1 = o := (by exact best_o hi3.1 (by omega)); rw [e9]; assumption)
theorem iorder_ok {Hmd : Hp} {vmd : Value} {Hmc : Hp} {vmc : Value} (m : Mod) (hmd : Ints Hmd vmd m.doms) (hmc : Cons Hmc vmc m.cons) : Spec Try.prog 9 [.agg #[vmd, vmc]] [Hmd, Hmc] (fun Hq vq => ∃ uq0 : Value, vq = .tuple #[uq0, .int .i64 ((bestOrd m).2)] ∧ Ints Hq uq0 ((bestOrd m).1)) := by
 refine spec_ofR Try.func9 rfl rfl rfl (fun B => ?_)
 refine kc_seq (kc_region ?_)
 refine kl_box rfl rfl (fun p1 H2 f3 a4 => ?_)
 refine kl_as rfl ?_
 refine kl_as rfl ?_
 refine kl_nil (kq_code ?_)
 refine kc_seq ?_
 refine kc_seq (kc_region ?_)
 refine kl_ldS rfl (by assumption) rfl ?_
 refine kl_callP rfl rfl (validMod_ok m (by assumption) (by assumption)) ?_
 refine kl_not rfl ?_
 refine kl_nil (kq_code ?_)
 refine kc_cond rfl (fun c5 => ?_) (fun c5 => ?_)
 ·skip
  have c5r := c5
  try simp only [Bool.not_eq_true', Bool.not_eq_false', Bool.not_true, Bool.not_false, decide_eq_true_eq, decide_eq_false_iff_not, Bool.and_eq_true, Bool.or_eq_false_iff] at c5
  refine kc_seq (kc_region ?_)
  refine kl_as rfl ?_
  refine kl_as rfl ?_
  refine kl_nil (kq_code ?_)
  refine kc_ret ?_
  refine kq_retR (rss2 rfl (rs_tmp rfl) (rs_tmp rfl)) noHp (fr_no _) ⟨_, tup2 rfl (congrArg (Value.int .i64) (by rw [bo_no (by assumption)])), ?_⟩ .none
  exact (by have e9 : (bestOrd m).1 = [] := (by rw [bo_no (by assumption)]); rw [e9]; exact Sl.nil)
 ·skip
  have c5r := c5
  try simp only [Bool.not_eq_true', Bool.not_eq_false', Bool.not_true, Bool.not_false, decide_eq_true_eq, decide_eq_false_iff_not, Bool.and_eq_true, Bool.or_eq_false_iff] at c5
  have hM : MOk m := ⟨by simpa using c5r⟩
  have hn := hM.n
  have hsh := shl_n hn
  refine kc_skipQ ?_
  refine kq_code ?_
  refine kc_seq (kc_region ?_)
  refine kl_fd rfl (by assumption) (fun p6 a7 => ?_)
  refine kl_ld rfl (by assumption) ?_
  refine kl_len rfl (by assumption) (fun l8 => ?_)
  refine kl_as rfl ?_
  refine kl_nil (kq_code (kc_seq (kc_region ?_)))
  refine kl_bs0 RowV rfl (fun v9 H10 f11 o12 => ?_)
  refine kl_alloc (cs := [.slice none 0 0]) rfl (fun b13 hb14 => ?_)
  refine kl_stB rfl rfl rfl (OwnL.oneCell (by assumption)) (OwnL.cells (by assumption)) ?_
  refine kl_chg [sing b13 (.cells [v9].toArray 57 (0, 0)), H10] rfl ?_
  refine kl_nil (kq_code ?_)
  refine kc_seq ?_
  refine kc_seq (kc_region ?_)
  refine kl_mv rfl ?_
  refine kl_shl rfl rfl (by omega) ?_
  refine kl_sub rfl rfl (by omega) ?_
  refine kl_bs rfl rfl rfl (by decide) (ca rfl ca_nil) (fun v15 H16 f17 r18 s19 => ?_)
  have h20 : Ints H16 v15 [((ishl (1 : Int) (m.doms.length : Int)) - (1 : Int))] := litInts (xs := [((ishl (1 : Int) (m.doms.length : Int)) - (1 : Int))]) (by simpa using s19)
  refine kl_mv rfl ?_
  refine kl_call rfl rfl (repeat_int_ok ([((ishl (1 : Int) (m.doms.length : Int)) - (1 : Int))]) m.doms.length rfl (by omega) (by assumption)) (fun v21 H22 f23 h24 => ?_)
  refine kl_call rfl rfl (tuples_ok (List.replicate m.doms.length (([((ishl (1 : Int) (m.doms.length : Int)) - (1 : Int))]).getD 0 (0 : Int))) (by assumption)) (fun v25 H26 f27 h28 => ?_)
  obtain ⟨p29, rfl, a30⟩ := h28
  refine kl_nil (kq_code ?_)
  refine kc_block ?_
  refine kc_noO ?_
  refine kc_range (A := List (List Int) × Value × Hp × Hp) (fun zz => [zz.2.2.2, sing b13 (.cells [zz.2.1].toArray 57 (0, 0)), zz.2.2.1]) (fun n zz => (zz.1 = ((tupL (ordD m.doms.length)).take n).filter distinctB) ∧ Fr B zz.2.2.2 ∧ OwnL 23 1 zz.2.2.1 zz.2.2.2 RowV zz.2.1 zz.1 ∧ Fr B zz.2.2.1) (fun _ _ => False) (([]), v9, H10, noHp) rfl (tuples_it (List.replicate m.doms.length (([((ishl (1 : Int) (m.doms.length : Int)) - (1 : Int))]).getD 0 (0 : Int))) (ordD_dom hn) (by simp; omega) a30 (by assumption)) (pc 1 rfl (pc 2 rfl (pc 3 rfl (pc 5 rfl pn)))) rfl rfl ⟨rfl, (fr_no _), o12, f11⟩ ?_ ?_ (fun _ _ _ _ h => h.elim)
  ·skip
   rintro l38 m39 D40 r41 H42 v43 n ⟨out, v32, H33, K36⟩ hk44 hJ45 h46
   obtain ⟨hi31, f37, o34, f35⟩ : (out = ((tupL (ordD m.doms.length)).take n).filter distinctB) ∧ Fr B K36 ∧ OwnL 23 1 H33 K36 RowV v32 out ∧ Fr B H33 := hJ45
   have hT := take_succ_getD [] (show n < (tupL (ordD m.doms.length)).length from hk44)
   have hr := ord_room hn hi31
   have hb := mem_tupL.1 (getD_mem (d := []) (show n < (tupL (ordD m.doms.length)).length from hk44))
   have hbl : ((tupL (ordD m.doms.length)).getD n []).length ≤ 4 := (by rw [hb.1]; simp [ordD]; omega)
   obtain ⟨x, hx⟩ : ∃ x, (tupL (ordD m.doms.length)).getD n [] = x := ⟨_, rfl⟩
   change Ints _ _ ((tupL (ordD m.doms.length)).getD n []) at h46
   rw [hx] at h46 hbl hT
   change KC _ _ _ (rdy l38 r41 :: [K36, sing b13 (.cells [v32].toArray 57 (0, 0)), H33]) _ _
   refine kc_region ?_
   refine kl_as rfl ?_
   refine kl_nil ?_
   refine kq_begin (r := r41) ?_
   refine kc_block ?_
   refine kc_seq (kc_region ?_)
   refine kl_mv rfl ?_
   refine kl_callP rfl rfl (distinct_ok x (by assumption)) ?_
   refine kl_nil (kq_code ?_)
   refine kc_cond rfl (fun c48 => ?_) (fun c48 => ?_)
   ·skip
    have c48r := c48
    try simp only [Bool.not_eq_true', Bool.not_eq_false', Bool.not_true, Bool.not_false, decide_eq_true_eq, decide_eq_false_iff_not, Bool.and_eq_true, Bool.or_eq_false_iff] at c48
    refine kc_tree (fun i => ([4, 5] : List Nat).contains i) [sing b13 (.cells [v32].toArray 57 (0, 0))] (by kernel_rfl) ?_
    refine kt_q 0 (.cons _ (.cons _ (.cons_cons _ (List.nil_sublist _)))) rfl (by kernel_rfl) ?_
    refine kl_ld rfl (at_box (T := 57) (cs := [v32]) (off := 0) (fz := (0, 0))) ?_
    refine kl_nil (kq_q ?_)
    refine kt_q 1 (.cons _ (.cons _ (.cons_cons _ (List.nil_sublist _)))) rfl (by kernel_rfl) ?_
    refine kl_mv rfl ?_
    refine kl_nil (kq_q ?_)
    refine kt_a 2 rfl (by kernel_rfl) ?_
    refine kl_callL rfl rfl (copied_ok x (by omega) (by assumption)) (fun v49 H50 f51 o52 => ?_)
    refine kl_nil (kq_a (.cons _ (.cons _ (.cons _ (.cons_cons _ (List.nil_sublist _))))) ?_)
    refine kt_a 3 rfl (by kernel_rfl) ?_
    refine kl_bs rfl rfl rfl (by decide) (ca (by first | exact Sl.cells (by assumption) | exact OwnL.cells (by assumption)) ca_nil) (fun v53 H54 f55 r56 s57 => ?_)
    refine kl_nil (kq_a (.cons _ (.cons _ (.cons _ (.cons_cons _ (List.nil_sublist _))))) ?_)
    have h58 := OwnL.ints o52
    refine kt_a 4 rfl (by kernel_rfl) ?_
    refine kl_cmp K36 H50 (fun c59 => ?_)
    have o60 := OwnL.mono (K' := orHp K36 H50) o34 orL
    refine kl_apL x rfl rfl o60 (by assumption) ⟨_, rfl, Sl.mono (by assumption) (orC c59) (fun _ _ h => h)⟩ (oc (Sl.oneCell (by assumption)) oc_nil) (by omega) (by decide) (fun v61 H62 o63 f64 => ?_)
    have f65 := f64 B f35 (Nat.le_refl _)
    refine kl_nil (kq_x rfl ?_)
    refine kt_a 5 rfl (by kernel_rfl) ?_
    refine kl_stB rfl rfl rfl (OwnL.oneCell (by assumption)) (OwnL.cells (by assumption)) ?_
    refine kl_chg [H50, bsy l38 r41, K36, sing b13 (.cells [v61].toArray 57 (0, 0)), H62] rfl ?_
    refine kl_nil (kq_x rfl ?_)
    refine kt_end (by kernel_rfl) ?_
    refine kq_mrg K36 H50 ?_
    refine kq_take [bsy l38 r41, orHp K36 H50, sing b13 (.cells [v61].toArray 57 (0, 0)), H62] ?_
    exact kq_rend (invx := fun _ _ => False) ((out ++ [x]), v61, H62, (orHp K36 H50)) ⟨(by rw [hT, List.filter_append, ← hi31]; first | rw [filter_oneT (by assumption)] | (rw [filter_oneF (by assumption), List.append_nil])), (fr_or f37 f51), o63, f65⟩ rfl inferInstance (List.Sublist.refl _)
   ·skip
    have c48r := c48
    try simp only [Bool.not_eq_true', Bool.not_eq_false', Bool.not_true, Bool.not_false, decide_eq_true_eq, decide_eq_false_iff_not, Bool.and_eq_true, Bool.or_eq_false_iff] at c48
    refine kc_skipQ ?_
    refine kq_take [bsy l38 r41, K36, sing b13 (.cells [v32].toArray 57 (0, 0)), H33] ?_
    exact kq_rend (invx := fun _ _ => False) (out, v32, H33, K36) ⟨(by rw [hT, List.filter_append, ← hi31]; first | rw [filter_oneT (by assumption)] | (rw [filter_oneF (by assumption), List.append_nil])), f37, o34, f35⟩ rfl inferInstance (List.Sublist.refl _)
  ·skip
   rintro D66 ⟨out, v32, H33, K36⟩ hD67 hJ68
   obtain ⟨hi31, f37, o34, f35⟩ : (out = ((tupL (ordD m.doms.length)).take ((tupL (List.replicate m.doms.length (([((ishl (1 : Int) (m.doms.length : Int)) - (1 : Int))]).getD 0 (0 : Int)))).length)).filter distinctB) ∧ Fr B K36 ∧ OwnL 23 1 H33 K36 RowV v32 out ∧ Fr B H33 := hJ68
   change KQ _ _ ([K36, sing b13 (.cells [v32].toArray 57 (0, 0)), H33]) _ _
   have hrows : out = perms m.doms.length := (by rw [← perms_eq hn, hi31]; congr 1; exact List.take_of_length_le (Nat.le_refl _))
   refine kq_code ?_
   refine kc_seq (kc_region ?_)
   refine kl_ldB rfl rfl ?_
   refine kl_ldS rfl (by assumption) rfl ?_
   refine kl_mkfB rfl rfl ?_
   refine kl_cmp H33 K36 (fun c69 => ?_)
   have h70 := OwnL.rowsK o34 c69
   refine kl_call rfl rfl (bestB_ok (imp := [Hmd, Hmc]) out (widI m) (by rw [hrows]; exact ord_ne hn) (by rw [hrows]; exact ord_le hn) (by assumption) (fun _ _ r hm hu => (iwidth_ok m r hM (ord_ok hn (by rw [hrows] at hm; exact hm)) (by assumption) (by assumption) hu).ims (by simp))) (fun v71 H72 f73 h74 => ?_)
   obtain ⟨u75, rfl, h76⟩ := h74
   refine kl_mv rfl ?_
   refine kl_xt rfl rfl ?_
   refine kl_xt rfl rfl ?_
   refine kl_as rfl ?_
   refine kl_as rfl ?_
   refine kl_nil (kq_code (kc_seq (kc_region ?_)))
   refine kl_mv rfl ?_
   refine kl_ldS rfl (by assumption) rfl ?_
   refine kl_mv rfl ?_
   refine kl_callP rfl rfl (iwidth_ok m ((bestI (widI m) out).1) hM (by rw [hrows]; exact ord_ok hn (ord_best hn _).1) (by assumption) (by assumption) (by assumption)) ?_
   refine kl_as rfl ?_
   refine kl_as rfl ?_
   refine kl_nil (kq_code ?_)
   refine kc_ret ?_
   refine kq_retR (rss2 rfl (rs_tmp rfl) (rs_tmp rfl)) H72 f73 ⟨_, tup2 rfl (congrArg (Value.int .i64) (by rw [hrows]; exact bo_2 hM)), ?_⟩ (df1 hD67)
   exact (by have e9 : (bestOrd m).1 = ((bestI (widI m) out).1) := (by rw [hrows]; exact bo_1 hM); rw [e9]; assumption)
end Go.Proofs.Ytidllhcfcmjggaa
