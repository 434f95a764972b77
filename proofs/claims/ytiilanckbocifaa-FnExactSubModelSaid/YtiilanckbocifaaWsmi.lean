/- Walks of functions of the program: each returns what the plain function gives. Conditions: those that each statement names. -/
import Derived.Test.YtiilanckbocifaaWwo
import Derived.Test.YtiilanckbocifaaWvalid
import Derived.Test.YtiilanckbocifaaWgraph
import Derived.Test.YtiilanckbocifaaPureSm
import Derived.Test.YtiilanckbocifaaCut
namespace Go.Proofs.Ytiilanckbocifaa
open Go
set_option linter.unusedSimpArgs false
set_option linter.unusedVariables false
theorem subM1_ok {Hvars : Hp} {vvars : Value} {Hpv : Hp} {ptrpv : Value} (v : Int) (vars : List Int) (hvars : Ints Hvars vvars vars) (apv : At Hpv ptrpv [vvars]) : SpecP Try.prog 27 [.int .i64 v, ptrpv] [Hvars, Hpv] (.bool (!(vars.contains v))) := by
 refine spec_of Try.func27 rfl rfl rfl (fun B => ?_)
 refine kc_seq (kc_region (kl_as rfl (kl_nil (kq_code (kc_seq (kc_region (kl_ld rfl (by assumption) (kl_mv rfl (kl_callP rfl rfl (containsInts_ok vars v (by assumption)) ?_)))))))))
 refine kl_not rfl (kl_as rfl (kl_nil (kq_code (kc_ret (kq_retP rfl rfl (congrArg Value.bool ?_))))))
 rfl
theorem copyConV_ok {Hcv : Hp} {vcv : Value} {Hca : Hp} {vca : Value} {Hcr : Hp} {vcr : Value} (c : Con) (hc : ConSm 100 c) (hcv : Ints Hcv vcv c.vars) (hca : Ints Hca vca c.args) (hcr : Rows Hcr vcr c.rows) : SpecT Try.prog 29 [.agg #[.int .i64 c.kind, vcv, vca, .int .i64 c.bound, vcr]] [] [Hcv, Hca, Hcr] (fun vq L1 Ln Kq => L1 = [] ∧ ∃ (Ha : Hp) (a b r : Value), Ln = [Ha] ∧ vq = .agg #[.int .i64 c.kind, a, b, .int .i64 c.bound, r] ∧ OwnL 3 1 Ha noHp IntV a c.vars ∧ Ints Kq b c.args ∧ Rows Kq r c.rows) := by
 have h1 := hc.v1
 have h2 := hc.v
 have h3 := hc.a
 have h4 := hc.r
 have h5 := hc.rr
 refine specT_of Try.func29 rfl rfl rfl (fun B => ?_)
 refine kc_seq (kc_region (kl_box rfl rfl (fun p1 H2 f3 a4 => ?_)))
 refine kl_alloc (cs := [.int .i64 (0 : Int), .slice none 0 0, .slice none 0 0, .int .i64 (0 : Int), .slice none 0 0]) rfl (fun b5 hb6 => ?_)
 refine kl_nil (kq_code (kc_seq (kc_region (kl_fd rfl (by assumption) (fun p7 a8 => ?_)))))
 refine kl_ld rfl (by assumption) (kl_len rfl (by assumption) (fun l9 => ?_))
 refine kl_mkL0 (R := RowV) rfl rfl (by omega) (by omega) (by decide) (fun v10 H11 f12 o13 => ?_)
 refine kl_as rfl (kl_nil (kq_code (kc_seq (kc_seq (kc_region (kl_fd rfl (by assumption) (fun p14 a15 => ?_)))))))
 refine kl_ld rfl (by assumption) (kl_len rfl (by assumption) (fun l16 => ?_))
 refine kl_mv rfl (kl_nil (kq_code (kc_block (kc_loopK (A := Nat × List (List Int) × Value × Hp × Hp) (fun zz => (zz.1 ≤ c.rows.length) ∧ (zz.2.1 = c.rows.take zz.1) ∧ Fr B zz.2.2.2.2 ∧ OwnL 23 1 zz.2.2.2.1 zz.2.2.2.2 RowV zz.2.2.1 zz.2.1 ∧ Fr B zz.2.2.2.1) (fun zz => c.rows.length - zz.1) (fun zz => zz.2.2.2.2) (fun zz => [zz.2.2.2.1, sing b5 (.cells [.int .i64 (0 : Int), .slice none 0 0, .slice none 0 0, .int .i64 (0 : Int), .slice none 0 0].toArray 53 (0, 0))]) (fun zz => [(13, .int .i64 (zz.1 : Int)), (3, zz.2.2.1)]) (0, ([]), v10, H11, noHp) (pc 1 rfl (pc 2 rfl (pc 11 rfl (pc 12 rfl pn)))) (pc 13 rfl (pc 3 rfl pn)) rfl ⟨Nat.zero_le _, rfl, (fr_no _), o13, f12⟩ ?_))))
 rintro ⟨k, out, v22, H19, K23⟩ hJ25
 obtain ⟨hk17, hi18, f24, o20, f21⟩ : (k ≤ c.rows.length) ∧ (out = c.rows.take k) ∧ Fr B K23 ∧ OwnL 23 1 H19 K23 RowV v22 out ∧ Fr B H19 := hJ25
 change KC _ _ (K23 :: _) [H19, sing b5 (.cells [.int .i64 (0 : Int), .slice none 0 0, .slice none 0 0, .int .i64 (0 : Int), .slice none 0 0].toArray 53 (0, 0))] _ ([(13, .int .i64 (k : Int)), (3, v22)] ++ _)
 refine kc_seq (kc_region (kl_lss rfl rfl ?_))
 refine kl_nil (kq_code (kc_seq (kc_if rfl (fun c26 => ?_) (fun c26 => ?_))))
 ·skip
  refine kc_skipQ (kq_code (kc_seq (kc_block (kc_seq (kc_region (kl_inS rfl rfl (by assumption) (by omega) (fun p27 u29 h30 a28 => ?_)))))))
  refine kl_ld rfl (by assumption) (kl_as rfl (kl_nil (kq_code (kc_region (kl_mv rfl (kl_mv rfl (kl_call rfl rfl (copied_ok (c.rows.getD k []) (by first | omega | (have h6 := h5 _ (getD_mem (d := []) (by omega : k < c.rows.length)); omega)) (by assumption)) (fun v31 H32 f33 o34 => ?_))))))))
  have h35 := OwnL.ints o34
  refine kl_bs rfl rfl rfl (by decide) (ca (by first | exact Sl.cells (by assumption) | exact OwnL.cells (by assumption)) ca_nil) (fun v36 H37 f38 r39 s40 => ?_)
  refine kl_cmp K23 H32 (fun c41 => ?_)
  have o42 := OwnL.mono (K' := orHp K23 H32) o20 orL
  refine kl_apL (c.rows.getD k []) rfl rfl o42 (by assumption) ⟨_, rfl, Sl.mono (by assumption) (orC c41) (fun _ _ h => h)⟩ (oc (Sl.oneCell (by assumption)) oc_nil) (by (have h9 := congrArg List.length hi18; simp at h9; omega)) (by decide) (fun v43 H44 o45 f46 => ?_)
  have f47 := f46 B f21 (Nat.le_refl _)
  refine kl_as rfl (kl_nil (kq_code (kc_region (kl_inc rfl rfl (by omega) ?_))))
  refine kl_mv rfl (kl_nil (kq_take [H44, sing b5 (.cells [.int .i64 (0 : Int), .slice none 0 0, .slice none 0 0, .int .i64 (0 : Int), .slice none 0 0].toArray 53 (0, 0))] ?_))
  refine kq_roundK ((k + 1), (out ++ [(c.rows.getD k [])]), v43, H44, (orHp K23 H32)) (by omega) (⟨by omega, (by rw [hi18, take_succ_getD [] (by omega)]), (fr_or f24 f33), o45, f47⟩) (pc 13 rfl (pc 3 rfl pn)) (pc 1 rfl (pc 2 rfl (pc 11 rfl (pc 12 rfl pn)))) rfl (List.Sublist.refl _)
 ·skip
  refine kc_exit (kq_code (kc_seq (kc_tree (fun i => ([11, 12] : List Nat).contains i) [] (by kernel_rfl) ?_)))
  refine kt_q 0 (List.nil_sublist _) rfl (by kernel_rfl) (kl_fd rfl (by assumption) (fun p48 a49 => ?_))
  refine kl_nil (kq_q (kt_q 1 (List.nil_sublist _) rfl (by kernel_rfl) (kl_ld rfl (by assumption) (kl_nil (kq_q (kt_q 2 (List.nil_sublist _) rfl (by kernel_rfl) (kl_fd rfl (by assumption) (fun p50 a51 => ?_))))))))
  refine kl_nil (kq_q (kt_q 3 (List.nil_sublist _) rfl (by kernel_rfl) (kl_ld rfl (by assumption) (kl_nil (kq_q (kt_q 5 (List.nil_sublist _) rfl (by kernel_rfl) (kl_fd rfl (by assumption) (fun p52 a53 => ?_))))))))
  refine kl_nil (kq_q (kt_q 6 (List.nil_sublist _) rfl (by kernel_rfl) (kl_ld rfl (by assumption) (kl_nil (kq_q (kt_q 8 (List.nil_sublist _) rfl (by kernel_rfl) (kl_fd rfl (by assumption) (fun p54 a55 => ?_))))))))
  refine kl_nil (kq_q (kt_q 9 (List.nil_sublist _) rfl (by kernel_rfl) (kl_ld rfl (by assumption) (kl_nil (kq_q (kt_q 10 (List.nil_sublist _) rfl (by kernel_rfl) (kl_mv rfl (kl_nil (kq_q (kt_a 4 rfl (by kernel_rfl) (kl_callL rfl rfl (copied_ok c.vars (by first | omega | (have h6 := h5 _ (getD_mem (d := []) (by omega : k < c.rows.length)); omega)) (by assumption)) (fun v56 H57 f58 o59 => ?_))))))))))))
  refine kl_nil (kq_a (List.nil_sublist _) (kt_a 7 rfl (by kernel_rfl) (kl_call rfl rfl (copied_ok c.args (by first | omega | (have h6 := h5 _ (getD_mem (d := []) (by omega : k < c.rows.length)); omega)) (by assumption)) (fun v60 H61 f62 o63 => ?_))))
  have h64 := OwnL.ints o63
  refine kl_nil (kq_a (List.nil_sublist _) (kt_a 11 rfl (by kernel_rfl) (kl_bd rfl (cp rfl (cp (OwnL.cells (by assumption)) (cp (Sl.cells (by assumption)) (cp rfl (cp (OwnL.cells (by assumption)) cp_nil))))) rfl ?_)))
  refine kl_nil (kq_x rfl (kt_a 12 rfl (by kernel_rfl) (kl_stW (us := [.int .i64 c.kind, v56, v60, .int .i64 c.bound, v22]) rfl rfl rfl rfl (oc rfl (oc (OwnL.oneCell (by assumption)) (oc (Sl.oneCell (by assumption)) (oc rfl (oc (OwnL.oneCell (by assumption)) oc_nil))))) rfl ?_)))
  refine kl_chg [H57, H19, sing b5 (.cells [.int .i64 c.kind, v56, v60, .int .i64 c.bound, v22].toArray 53 (0, 0))] rfl ?_
  refine kl_nil (kq_x rfl (kt_end (by kernel_rfl) ?_))
  refine kq_code (kc_ret (kq_frz H19 ?_))
  refine kq_cmp H19 K23 (fun c65 => ?_)
  refine kq_cmp H61 (orHp H19 K23) (fun c66 => ?_)
  exact kq_retTC rfl rfl rfl [] [H57] (orHp H61 (orHp H19 K23)) (fr1 f58) (fr_or f62 (fr_or f21 f24)) ⟨rfl, H57, _, _, _, rfl, rfl, o59, (Sl.mono (by assumption) (fun b o h => orL b o h) (fun _ _ h => h)), (by have e9 : out = c.rows := (by rw [hi18, List.take_of_length_le (by omega)]); rw [← e9]; exact (Rows.mono' (OwnL.rowsK o20 c65) (fun b o h => orC c66 b o h)))⟩
theorem subI_ok {Hmd : Hp} {vmd : Value} {Hmc : Hp} {vmc : Value} {Hvars : Hp} {vvars : Value} (m : Mod) (vars : List Int) (hmd : Ints Hmd vmd m.doms) (hmc : Cons Hmc vmc m.cons) (hvars : Ints Hvars vvars vars) : Spec Try.prog 7 [.agg #[vmd, vmc], vvars] [Hmd, Hmc, Hvars] (fun Hq vq => ∃ (mq : Mod) (bq : Bool) (uq0a uq0b : Value), vq = .tuple #[.agg #[uq0a, uq0b], .bool bq] ∧ Ints Hq uq0a mq.doms ∧ Cons Hq uq0b mq.cons ∧ (mq, bq) = subR m vars) := by
 refine spec_ofR Try.func7 rfl rfl rfl (fun B => ?_)
 refine kc_seq (kc_region (kl_box rfl rfl (fun p1 H2 f3 a4 => ?_)))
 refine kl_box rfl (Sl.cells (by assumption)) (fun p5 H6 f7 a8 => ?_)
 refine kl_alloc (cs := [.slice none 0 0, .slice none 0 0]) rfl (fun b9 hb10 => ?_)
 refine kl_as rfl (kl_nil (kq_code (kc_seq (kc_seq (kc_region (kl_ldS rfl (by assumption) rfl ?_))))))
 refine kl_ld rfl (by assumption) (kl_callP rfl rfl (variableSet_ok m vars (by assumption) (by assumption) (by assumption)) ?_)
 refine kl_not rfl (kl_mv rfl (kl_join 4 21 (.bool (!(varSetI m vars) || decide ((vars.length : Int) = (0 : Int)))) (pc 2 rfl (pc 3 rfl (pc 4 rfl (pc 5 rfl (pc 17 rfl pn))))) (fun J13 => ?_) ?_))
 ·rcases Bool.eq_false_or_eq_true (!(varSetI m vars)) with g11 | g11
  ·skip
   refine kl_gF rfl rfl g11 (kl_gF rfl rfl g11 (kl_gF rfl rfl g11 (kl_orT (decide ((vars.length : Int) = (0 : Int))) rfl rfl g11 ?_)))
   exact J13 _ (pc 21 rfl (pc 2 rfl (pc 3 rfl (pc 4 rfl (pc 5 rfl (pc 17 rfl pn))))))
  ·skip
   have g11p := g11
   try simp only [Bool.not_eq_true', Bool.not_eq_false', decide_eq_true_eq, decide_eq_false_iff_not, Bool.and_eq_true, Bool.or_eq_false_iff, withinB_iff] at g11p
   refine kl_gT rfl rfl g11 (kl_ld rfl (by assumption) (kl_gT rfl rfl g11 (kl_len rfl (by assumption) (fun l12 => ?_))))
   refine kl_gT rfl rfl g11 (kl_eql rfl rfl ?_)
   refine kl_orF rfl rfl g11 ?_
   exact J13 _ (pc 21 rfl (pc 2 rfl (pc 3 rfl (pc 4 rfl (pc 5 rfl (pc 17 rfl pn))))))
 refine kl_nil (kq_code (kc_cond rfl (fun c14 => ?_) (fun c14 => ?_)))
 ·skip
  have c14r := c14
  try simp only [smpC, decide_eq_true_eq, decide_eq_false_iff_not] at c14
  refine kc_seq (kc_region (kl_bd rfl cp_nil rfl ?_))
  refine kl_stW (us := [.slice none 0 0, .slice none 0 0]) rfl rfl rfl rfl (oc rfl (oc rfl oc_nil)) rfl ?_
  refine kl_chg [sing b9 (.cells [.slice none 0 0, .slice none 0 0].toArray 26 (0, 0))] rfl ?_
  refine kl_as rfl (kl_nil (kq_code (kc_ret (kq_cmp noHp noHp (fun c15 => ?_)))))
  exact kq_retR (rss2 rfl (rs_agg rfl rfl) (rs_tmp rfl)) (orHp noHp noHp) (fr_or (fr_no _) (fr_no _)) ⟨(⟨[], []⟩ : Mod), false, _, _, rfl, (Sl.mono Sl.nil (fun b o h => orL b o h) (fun _ _ h => h)), (Sl.mono Sl.nil (fun b o h => orC c15 b o h) (fun _ _ h => h)), by first | exact (sub_noI (by assumption)).symm | exact sub_fin hS hnone (by omega) hnone (by omega)⟩ .none
 ·skip
  have c14r := c14
  try simp only [smpC, decide_eq_true_eq, decide_eq_false_iff_not] at c14
  have hS := sub_go c14r
  have hvl := sub_few hS
  have hsm := ok_small hS.hM
  have hfew := hS.hM.few
  refine kc_skipQ (kq_code (kc_seq (kc_region (kl_bd rfl cp_nil rfl ?_))))
  refine kl_alloc (cs := [.slice none 0 0, .slice none 0 0]) rfl (fun b16 hb17 => ?_)
  refine kl_stW (us := [.slice none 0 0, .slice none 0 0]) rfl rfl rfl rfl (oc rfl (oc rfl oc_nil)) rfl ?_
  refine kl_chg [sing b16 (.cells [.slice none 0 0, .slice none 0 0].toArray 26 (0, 0)), sing b9 (.cells [.slice none 0 0, .slice none 0 0].toArray 26 (0, 0))] rfl ?_
  refine kl_nil (kq_code (kc_seq (kc_seq (kc_region (kl_ld rfl (by assumption) (kl_len rfl (by assumption) (fun l18 => ?_)))))))
  refine kl_mv rfl (kl_nil (kq_code (kc_block (kc_no ?_))))
  refine kc_loopL (A := Nat × List Int × Value × Hp) (fun zz => (zz.1 ≤ vars.length) ∧ (zz.2.1 = wordTo vars m.doms zz.1) ∧ OwnL 3 1 zz.2.2.2 noHp IntV zz.2.2.1 zz.2.1 ∧ Fr B zz.2.2.2) (fun zz => vars.length - zz.1) (fun zz => [zz.2.2.2, sing b16 (.cells [zz.2.2.1, .slice none 0 0].toArray 26 (0, 0)), sing b9 (.cells [.slice none 0 0, .slice none 0 0].toArray 26 (0, 0))]) (fun zz => [(26, .int .i64 (zz.1 : Int))]) (0, [], .slice none 0 0, noHp) (pc 2 rfl (pc 3 rfl (pc 4 rfl (pc 5 rfl (pc 6 rfl (pc 24 rfl (pc 25 rfl pn))))))) (pc 26 rfl pn) rfl ⟨Nat.zero_le _, rfl, OwnL.nil, (fr_no _)⟩ ?_
  rintro ⟨k, ds, v24, H21⟩ hJ26
  obtain ⟨hk19, hi20, o22, f23⟩ : (k ≤ vars.length) ∧ (ds = wordTo vars m.doms k) ∧ OwnL 3 1 H21 noHp IntV v24 ds ∧ Fr B H21 := hJ26
  change KC _ _ (_) [H21, sing b16 (.cells [v24, .slice none 0 0].toArray 26 (0, 0)), sing b9 (.cells [.slice none 0 0, .slice none 0 0].toArray 26 (0, 0))] _ ([(26, .int .i64 (k : Int))] ++ _)
  have hdl := word_len hi20
  refine kc_seq (kc_region (kl_lss rfl rfl ?_))
  refine kl_nil (kq_code (kc_seq (kc_if rfl (fun c27 => ?_) (fun c27 => ?_))))
  ·skip
   have hvk := hS.inn _ (getD_mem (d := (0 : Int)) (by omega : k < vars.length))
   refine kc_skipQ (kq_code (kc_seq (kc_block (kc_seq (kc_region (kl_inI rfl rfl (by assumption) (by first | omega | (simp; omega)) (fun p28 a29 => ?_)))))))
   refine kl_ld rfl (by assumption) (kl_as rfl (kl_nil (kq_code (kc_tree (fun i => ([8, 10] : List Nat).contains i) [sing b16 (.cells [v24, .slice none 0 0].toArray 26 (0, 0))] (by kernel_rfl) ?_))))
   refine kt_q 0 (.cons _ (.cons_cons _ (List.nil_sublist _))) rfl (by kernel_rfl) (kl_fdV rfl (kl_nil (kq_q (kt_q 1 (.cons _ (.cons_cons _ (List.nil_sublist _))) rfl (by kernel_rfl) (kl_ld rfl (at_box (T := 26) (cs := [v24, .slice none 0 0]) (off := 0) (fz := (0, 0))) (kl_nil (kq_q (kt_q 2 (.cons _ (.cons_cons _ (List.nil_sublist _))) rfl (by kernel_rfl) (kl_fd rfl (by assumption) (fun p30 a31 => ?_))))))))))
   refine kl_nil (kq_q (kt_q 3 (.cons _ (.cons_cons _ (List.nil_sublist _))) rfl (by kernel_rfl) (kl_ld rfl (by assumption) (kl_nil (kq_q (kt_q 4 (.cons _ (.cons_cons _ (List.nil_sublist _))) rfl (by kernel_rfl) (kl_mv rfl (kl_nil (kq_q (kt_q 5 (.cons _ (.cons_cons _ (List.nil_sublist _))) rfl (by kernel_rfl) (kl_ixI rfl rfl (by assumption) (by first | omega | (simp; omega)) (by first | omega | (simp; omega)) (fun p32 a33 => ?_))))))))))))
   refine kl_nil (kq_q (kt_q 6 (.cons _ (.cons_cons _ (List.nil_sublist _))) rfl (by kernel_rfl) (kl_ld rfl (by assumption) (kl_nil (kq_q (kt_a 7 rfl (by kernel_rfl) (kl_bs rfl rfl rfl (by decide) (ca rfl ca_nil) (fun v34 H35 f36 r37 s38 => ?_))))))))
   have h39 : Ints H35 v34 [(m.doms.getD (vars.getD k 0).toNat 0)] := litInts (xs := [(m.doms.getD (vars.getD k 0).toNat 0)]) (by simpa using s38)
   refine kl_nil (kq_a (.cons _ (.cons_cons _ (List.nil_sublist _))) (kt_a 8 rfl (by kernel_rfl) (kl_apL (m.doms.getD (vars.getD k 0).toNat 0) rfl rfl o22 (by assumption) rfl (oc rfl oc_nil) (by omega) (by decide) (fun v40 H41 o42 f43 => ?_))))
   have f44 := f43 B f23 (Nat.le_refl _)
   refine kl_nil (kq_x rfl (kt_q 9 (.cons _ (.cons_cons _ (List.nil_sublist _))) rfl (by kernel_rfl) (kl_fdV rfl (kl_nil (kq_q (kt_a 10 rfl (by kernel_rfl) (kl_stB rfl rfl rfl (OwnL.oneCell (by assumption)) (OwnL.cells (by assumption)) ?_)))))))
   refine kl_chg [H41, sing b16 (.cells [v40, .slice none 0 0].toArray 26 (0, 0)), sing b9 (.cells [.slice none 0 0, .slice none 0 0].toArray 26 (0, 0))] rfl ?_
   refine kl_nil (kq_x rfl (kt_end (by kernel_rfl) ?_))
   refine kq_code (kc_region (kl_inc rfl rfl (by omega) ?_))
   refine kl_mv rfl (kl_nil (kq_take [H41, sing b16 (.cells [v40, .slice none 0 0].toArray 26 (0, 0)), sing b9 (.cells [.slice none 0 0, .slice none 0 0].toArray 26 (0, 0))] ?_))
   refine kq_roundL ((k + 1), (ds ++ [(m.doms.getD (vars.getD k 0).toNat 0)]), v40, H41) (by omega) (⟨by omega, (word_step hi20 (by omega)), o42, f44⟩) (pc 26 rfl pn) (pc 2 rfl (pc 3 rfl (pc 4 rfl (pc 5 rfl (pc 6 rfl (pc 24 rfl (pc 25 rfl pn))))))) rfl (List.Sublist.refl _)
  ·skip
   refine kc_exit (kq_code (kc_seq (kc_seq (kc_region (kl_fd rfl (by assumption) (fun p45 a46 => ?_))))))
   refine kl_ld rfl (by assumption) (kl_len rfl (by assumption) (fun l47 => ?_))
   refine kl_mv rfl (kl_nil (kq_code (kc_block (kc_no ?_))))
   refine kc_loopK (A := Nat × List Con × Value × Hp × Hp) (fun zz => (zz.1 ≤ m.cons.length) ∧ (zz.2.1 = subTo m vars zz.1) ∧ Fr B zz.2.2.2.2 ∧ OwnL 53 5 zz.2.2.2.1 zz.2.2.2.2 ConV zz.2.2.1 zz.2.1 ∧ Fr B zz.2.2.2.1) (fun zz => m.cons.length - zz.1) (fun zz => zz.2.2.2.2) (fun zz => [zz.2.2.2.1, H21, sing b16 (.cells [v24, zz.2.2.1].toArray 26 (0, 0)), sing b9 (.cells [.slice none 0 0, .slice none 0 0].toArray 26 (0, 0))]) (fun zz => [(44, .int .i64 (zz.1 : Int))]) (0, [], .slice none 0 0, noHp, noHp) (pc 3 rfl (pc 4 rfl (pc 5 rfl (pc 6 rfl (pc 42 rfl (pc 43 rfl pn)))))) (pc 44 rfl pn) rfl ⟨Nat.zero_le _, rfl, (fr_no _), OwnL.nil, (fr_no _)⟩ ?_
   rintro ⟨j, cs, v53, H50, K54⟩ hJ57
   obtain ⟨hk48, hi49, f55, o51, f52⟩ : (j ≤ m.cons.length) ∧ (cs = subTo m vars j) ∧ Fr B K54 ∧ OwnL 53 5 H50 K54 ConV v53 cs ∧ Fr B H50 := hJ57
   change KC _ _ (K54 :: _) [H50, H21, sing b16 (.cells [v24, v53].toArray 26 (0, 0)), sing b9 (.cells [.slice none 0 0, .slice none 0 0].toArray 26 (0, 0))] _ ([(44, .int .i64 (j : Int))] ++ _)
   have hcl : cs.length ≤ 6 := (by rw [hi49]; exact subTo_len hS.hM)
   refine kc_seq (kc_region (kl_lss rfl rfl ?_))
   refine kl_nil (kq_code (kc_seq (kc_if rfl (fun c58 => ?_) (fun c58 => ?_))))
   ·skip
    refine kc_skipQ (kq_code (kc_seq (kc_block (kc_seq (kc_region (kl_inC rfl rfl (by assumption) (by first | omega | (simp; omega)) (fun p59 u61 u62 u63 h64 h65 h66 a60 => ?_)))))))
    refine kl_ldS rfl (by assumption) rfl ?_
    refine kl_alloc (cs := [.int .i64 (0 : Int), .slice none 0 0, .slice none 0 0, .int .i64 (0 : Int), .slice none 0 0]) rfl (fun b67 hb68 => ?_)
    refine kl_stW (us := [.int .i64 ((m.cons.getD j nilCon).kind), u61, u62, .int .i64 ((m.cons.getD j nilCon).bound), u63]) rfl rfl rfl rfl (oc rfl (oc (Sl.oneCell (by assumption)) (oc (Sl.oneCell (by assumption)) (oc rfl (oc (Sl.oneCell (by assumption)) oc_nil))))) rfl ?_
    refine kl_chg [sing b67 (.cells [.int .i64 ((m.cons.getD j nilCon).kind), u61, u62, .int .i64 ((m.cons.getD j nilCon).bound), u63].toArray 53 (0, 0)), H50, H21, sing b16 (.cells [v24, v53].toArray 26 (0, 0)), sing b9 (.cells [.slice none 0 0, .slice none 0 0].toArray 26 (0, 0))] rfl ?_
    refine kl_nil (kq_code (kc_seq (kc_seq (kc_region (kl_fdV rfl (kl_ldB rfl rfl (kl_mkf rfl ?_)))))))
    refine kl_callP rfl rfl (cf_int_ok ((m.cons.getD j nilCon).vars) (fun x68 => !(vars.contains x68)) (by assumption) (fun x68 _ => subM1_ok x68 vars (by assumption) (by assumption))) ?_
    refine kl_nil (kq_code (kc_cond rfl (fun c70 => ?_) (fun c70 => ?_)))
    ·skip
     have c70r := c70
     try simp only [smpC, decide_eq_true_eq, decide_eq_false_iff_not] at c70
     refine kc_exit (kq_code (kc_region (kl_inc rfl rfl (by omega) ?_)))
     refine kl_mv rfl (kl_nil (kq_take [H50, H21, sing b16 (.cells [v24, v53].toArray 26 (0, 0)), sing b9 (.cells [.slice none 0 0, .slice none 0 0].toArray 26 (0, 0))] ?_))
     refine kq_roundK ((j + 1), cs, v53, H50, K54) (by omega) (⟨by omega, (by first | exact subTo_T (by omega) hi49 (by first | assumption | exact ins_any (by assumption)) (posTo_end hnone (by omega)) | exact subTo_F (by omega) hi49 (by first | assumption | exact ins_any' (by assumption))), f55, o51, f52⟩) (pc 44 rfl pn) (pc 3 rfl (pc 4 rfl (pc 5 rfl (pc 6 rfl (pc 42 rfl (pc 43 rfl pn)))))) rfl (List.Sublist.refl _)
    ·skip
     have c70r := c70
     try simp only [smpC, decide_eq_true_eq, decide_eq_false_iff_not] at c70
     refine kc_skipQ (kq_code (kc_seq (kc_region (kl_ldW rfl rfl (kl_callT rfl rfl (copyConV_ok (m.cons.getD j nilCon) (hsm.cc _ (getD_mem (by omega))) (by assumption) (by assumption) (by assumption)) (fun v71 L1 Ln K72 h73 f74 f75 => ?_))))))
     obtain ⟨rfl, H76, u79, u80, u81, rfl, rfl, o77, h82, h83⟩ := h73
     have f78 := f74 _ (.head _)
     refine kl_norm ?_
     refine kl_stW (us := [.int .i64 ((m.cons.getD j nilCon).kind), u79, u80, .int .i64 ((m.cons.getD j nilCon).bound), u81]) rfl rfl rfl rfl (oc rfl (oc (OwnL.oneCell (by assumption)) (oc (Sl.oneCell (by assumption)) (oc rfl (oc (Sl.oneCell (by assumption)) oc_nil))))) rfl ?_
     refine kl_chg [H76, sing b67 (.cells [.int .i64 ((m.cons.getD j nilCon).kind), u79, u80, .int .i64 ((m.cons.getD j nilCon).bound), u81].toArray 53 (0, 0)), H50, H21, sing b16 (.cells [v24, v53].toArray 26 (0, 0)), sing b9 (.cells [.slice none 0 0, .slice none 0 0].toArray 26 (0, 0))] rfl ?_
     refine kl_nil (kq_code (kc_seq (kc_seq (kc_region (kl_fdV rfl (kl_ldB rfl rfl (kl_lenL rfl o77 (fun l84 => ?_))))))))
     refine kl_mv rfl (kl_nil (kq_code (kc_block (kc_loopL (A := Nat × List Int × Hp) (fun zz => (zz.1 ≤ (m.cons.getD j nilCon).vars.length) ∧ (zz.2.1 = posTo vars (m.cons.getD j nilCon).vars zz.1) ∧ OwnL 3 1 zz.2.2 noHp IntV u79 zz.2.1 ∧ Fr B zz.2.2) (fun zz => (m.cons.getD j nilCon).vars.length - zz.1) (fun zz => [zz.2.2, sing b67 (.cells [.int .i64 ((m.cons.getD j nilCon).kind), u79, u80, .int .i64 ((m.cons.getD j nilCon).bound), u81].toArray 53 (0, 0)), H50, H21, sing b16 (.cells [v24, v53].toArray 26 (0, 0)), sing b9 (.cells [.slice none 0 0, .slice none 0 0].toArray 26 (0, 0))]) (fun zz => [(57, .int .i64 (zz.1 : Int))]) (0, ((m.cons.getD j nilCon).vars), H76) (pc 3 rfl (pc 4 rfl (pc 5 rfl (pc 6 rfl (pc 10 rfl (pc 42 rfl (pc 43 rfl (pc 44 rfl (pc 45 rfl (pc 46 rfl (pc 47 rfl (pc 48 rfl (pc 49 rfl (pc 50 rfl (pc 51 rfl (pc 52 rfl (pc 53 rfl (pc 54 rfl (pc 55 rfl (pc 56 rfl pn)))))))))))))))))))) (pc 57 rfl pn) rfl ⟨Nat.zero_le _, posTo_0, o77, f78⟩ ?_))))
     rintro ⟨i, ws, H87⟩ hJ90
     obtain ⟨hk85, hi86, o88, f89⟩ : (i ≤ (m.cons.getD j nilCon).vars.length) ∧ (ws = posTo vars (m.cons.getD j nilCon).vars i) ∧ OwnL 3 1 H87 noHp IntV u79 ws ∧ Fr B H87 := hJ90
     change KC _ _ (_) [H87, sing b67 (.cells [.int .i64 ((m.cons.getD j nilCon).kind), u79, u80, .int .i64 ((m.cons.getD j nilCon).bound), u81].toArray 53 (0, 0)), H50, H21, sing b16 (.cells [v24, v53].toArray 26 (0, 0)), sing b9 (.cells [.slice none 0 0, .slice none 0 0].toArray 26 (0, 0))] _ ([(57, .int .i64 (i : Int))] ++ _)
     have hwl : ws.length = (m.cons.getD j nilCon).vars.length := (by rw [hi86]; exact posTo_len _ _ _)
     refine kc_seq (kc_region (kl_lss rfl rfl ?_))
     refine kl_nil (kq_code (kc_seq (kc_if rfl (fun c91 => ?_) (fun c91 => ?_))))
     ·skip
      refine kc_skipQ (kq_code (kc_seq (kc_block (kc_seq (kc_region (kl_mv rfl (kl_ixLn rfl rfl (by assumption) (by first | omega | (simp; omega)) (fun p92 q93 => ?_))))))))
      refine kl_ldLI rfl (by assumption) (by assumption) (by first | omega | (simp; omega)) ?_
      refine kl_as rfl (kl_as rfl (kl_nil (kq_code (kc_tree (fun i => ([7] : List Nat).contains i) [sing b67 (.cells [.int .i64 ((m.cons.getD j nilCon).kind), u79, u80, .int .i64 ((m.cons.getD j nilCon).bound), u81].toArray 53 (0, 0))] (by kernel_rfl) ?_))))
      refine kt_q 0 (.cons _ (.cons_cons _ (List.nil_sublist _))) rfl (by kernel_rfl) (kl_fdV rfl (kl_nil (kq_q (kt_q 1 (.cons _ (.cons_cons _ (List.nil_sublist _))) rfl (by kernel_rfl) (kl_ld rfl (at_box (T := 53) (cs := [.int .i64 ((m.cons.getD j nilCon).kind), u79, u80, .int .i64 ((m.cons.getD j nilCon).bound), u81]) (off := 1) (fz := (0, 0))) (kl_nil (kq_q (kt_q 2 (.cons _ (.cons_cons _ (List.nil_sublist _))) rfl (by kernel_rfl) ?_))))))))
      refine kl_mv rfl (kl_nil (kq_q (kt_q 3 (.cons _ (.cons_cons _ (List.nil_sublist _))) rfl (by kernel_rfl) (kl_ld rfl (by assumption) (kl_nil (kq_q (kt_q 4 (.cons _ (.cons_cons _ (List.nil_sublist _))) rfl (by kernel_rfl) (kl_mv rfl (kl_nil (kq_q (kt_a 5 rfl (by kernel_rfl) ?_)))))))))))
      refine kl_callP rfl rfl (indexInts_ok vars (ws.getD i 0) (by assumption)) ?_
      refine kl_nil (kq_a (.cons _ (.cons_cons _ (List.nil_sublist _))) (kt_q 6 (.cons _ (.cons_cons _ (List.nil_sublist _))) rfl (by kernel_rfl) (kl_ixLn rfl rfl (by assumption) (by first | omega | (simp; omega)) (fun p94 q95 => ?_))))
      refine kl_nil (kq_q (kt_a 7 rfl (by kernel_rfl) (kl_stL (indexBy (fun y => decide ((ws.getD i 0) = y)) vars) rfl rfl (by assumption) o88 (by first | omega | (simp; omega)) rfl rfl rfl (fun H96 o97 f98 => ?_))))
      have f99 := f98 _ f89
      refine kl_chg [H96, sing b67 (.cells [.int .i64 ((m.cons.getD j nilCon).kind), u79, u80, .int .i64 ((m.cons.getD j nilCon).bound), u81].toArray 53 (0, 0)), H50, H21, sing b16 (.cells [v24, v53].toArray 26 (0, 0)), sing b9 (.cells [.slice none 0 0, .slice none 0 0].toArray 26 (0, 0))] rfl ?_
      refine kl_nil (kq_x rfl (kt_end (by kernel_rfl) ?_))
      refine kq_code (kc_region (kl_inc rfl rfl (by omega) ?_))
      refine kl_mv rfl (kl_nil (kq_take [H96, sing b67 (.cells [.int .i64 ((m.cons.getD j nilCon).kind), u79, u80, .int .i64 ((m.cons.getD j nilCon).bound), u81].toArray 53 (0, 0)), H50, H21, sing b16 (.cells [v24, v53].toArray 26 (0, 0)), sing b9 (.cells [.slice none 0 0, .slice none 0 0].toArray 26 (0, 0))] ?_))
      refine kq_roundL ((i + 1), (ws.set i (indexBy (fun y => decide ((ws.getD i 0) = y)) vars)), H96) (by omega) (⟨by omega, (posTo_step hi86 (by omega)), o97, f99⟩) (pc 57 rfl pn) (pc 3 rfl (pc 4 rfl (pc 5 rfl (pc 6 rfl (pc 10 rfl (pc 42 rfl (pc 43 rfl (pc 44 rfl (pc 45 rfl (pc 46 rfl (pc 47 rfl (pc 48 rfl (pc 49 rfl (pc 50 rfl (pc 51 rfl (pc 52 rfl (pc 53 rfl (pc 54 rfl (pc 55 rfl (pc 56 rfl pn)))))))))))))))))))) rfl (List.Sublist.refl _)
     ·skip
      refine kc_exit (kq_code (kc_region (kl_fdV rfl (kl_ldB rfl rfl (kl_ldW rfl rfl (kl_bsK rfl (fun v100 H101 f102 r103 => ?_)))))))
      refine kl_frz H87 ?_
      have h104 := OwnL.ints o88
      refine kl_cmp K54 H87 (fun c105 => ?_)
      have o106 := OwnL.mono (K' := orHp K54 H87) o51 orL
      refine kl_cmp (orHp K54 H87) K72 (fun c107 => ?_)
      have o108 := OwnL.mono (K' := orHp (orHp K54 H87) K72) o106 orL
      refine kl_cmp (orHp (orHp K54 H87) K72) K72 (fun c109 => ?_)
      have o110 := OwnL.mono (K' := orHp (orHp (orHp K54 H87) K72) K72) o108 orL
      refine kl_apL ⟨(m.cons.getD j nilCon).kind, ws, ((m.cons.getD j nilCon).args), (m.cons.getD j nilCon).bound, ((m.cons.getD j nilCon).rows)⟩ rfl rfl o110 r103 ⟨_, _, _, rfl, (Sl.mono (by assumption) (fun b o h => orL b o (orL b o (orC c105 b o h))) (fun _ _ h => h)), (Sl.mono (by assumption) (fun b o h => orL b o (orC c107 b o h)) (fun _ _ h => h)), (Rows.mono' (by assumption) (fun b o h => orC c109 b o h))⟩ (oc rfl (oc (Sl.oneCell (by assumption)) (oc (Sl.oneCell (by assumption)) (oc rfl (oc (Sl.oneCell (by assumption)) oc_nil))))) (by omega) (by decide) (fun v111 H112 o113 f114 => ?_)
      have f115 := f114 B f52 (Nat.le_refl _)
      refine kl_fdV rfl (kl_stB rfl rfl rfl (OwnL.oneCell (by assumption)) (OwnL.cells (by assumption)) ?_)
      refine kl_chg [sing b67 (.cells [.int .i64 ((m.cons.getD j nilCon).kind), u79, u80, .int .i64 ((m.cons.getD j nilCon).bound), u81].toArray 53 (0, 0)), H112, H21, sing b16 (.cells [v24, v111].toArray 26 (0, 0)), sing b9 (.cells [.slice none 0 0, .slice none 0 0].toArray 26 (0, 0))] rfl ?_
      refine kl_nil (kq_code (kc_region (kl_inc rfl rfl (by omega) ?_)))
      refine kl_mv rfl (kl_nil (kq_take [H112, H21, sing b16 (.cells [v24, v111].toArray 26 (0, 0)), sing b9 (.cells [.slice none 0 0, .slice none 0 0].toArray 26 (0, 0))] ?_))
      refine kq_roundK ((j + 1), (cs ++ [⟨(m.cons.getD j nilCon).kind, ws, ((m.cons.getD j nilCon).args), (m.cons.getD j nilCon).bound, ((m.cons.getD j nilCon).rows)⟩]), v111, H112, (orHp (orHp (orHp K54 H87) K72) K72)) (by omega) (⟨by omega, (by first | exact subTo_T (by omega) hi49 (by first | assumption | exact ins_any (by assumption)) (posTo_end hi86 (by omega)) | exact subTo_F (by omega) hi49 (by first | assumption | exact ins_any' (by assumption))), (fr_or (fr_or (fr_or f55 f89) f75) f75), o113, f115⟩) (pc 44 rfl pn) (pc 3 rfl (pc 4 rfl (pc 5 rfl (pc 6 rfl (pc 42 rfl (pc 43 rfl pn)))))) rfl (List.Sublist.refl _)
   ·skip
    refine kc_exit (kq_code (kc_seq (kc_region (kl_ldW rfl rfl ?_))))
    have h116 := OwnL.ints o22
    refine kl_cmp H50 K54 (fun c118 => ?_)
    have h117 := OwnL.consK o51 c118
    refine kl_call rfl rfl (copyModI_ok (⟨ds, cs⟩ : Mod) (sub_smallE hS hi20 (by omega) hi49 (by omega)).1 (by assumption) (by assumption)) (fun v119 H120 f121 h122 => ?_)
    obtain ⟨u123, u124, rfl, h125, h126⟩ := h122
    refine kl_stW (us := [u123, u124]) rfl rfl rfl rfl (oc (Sl.oneCell (by assumption)) (oc (Sl.oneCell (by assumption)) oc_nil)) rfl ?_
    refine kl_chg [H50, H21, sing b16 (.cells [v24, v53].toArray 26 (0, 0)), sing b9 (.cells [u123, u124].toArray 26 (0, 0))] rfl ?_
    refine kl_as rfl (kl_nil (kq_code (kc_ret (kq_cmp H120 H120 (fun c127 => ?_)))))
    exact kq_retR (rss2 rfl (rs_agg rfl rfl) (rs_tmp rfl)) (orHp H120 H120) (fr_or f121 f121) ⟨(⟨(⟨ds, cs⟩ : Mod).doms, (⟨ds, cs⟩ : Mod).cons⟩ : Mod), true, _, _, rfl, (Sl.mono (by assumption) (fun b o h => orL b o h) (fun _ _ h => h)), (Cons.mono' (by assumption) (fun b o h => orC c127 b o h)), by first | exact (sub_noI (by assumption)).symm | exact sub_fin hS hi20 (by omega) hi49 (by omega)⟩ .none
end Go.Proofs.Ytiilanckbocifaa
