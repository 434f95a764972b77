/- Walks of functions of the program: each returns what the plain function gives. Conditions: those that each statement names. -/
import Derived.Test.YtiilanckbocifaaWrd
import Derived.Test.YtiilanckbocifaaWssat
import Derived.Test.YtiilanckbocifaaWsat
import Derived.Test.YtiilanckbocifaaWvalid
import Derived.Test.YtiilanckbocifaaCut
import Derived.Test.YtiilanckbocifaaPureE
import Derived.Test.YtiilanckbocifaaWfilt
import Derived.Test.YtiilanckbocifaaWis
import Derived.Test.YtiilanckbocifaaWgraph
import Derived.Test.YtiilanckbocifaaWspecv
import Derived.Test.YtiilanckbocifaaTwo
import Derived.Test.YtiilanckbocifaaPureL
namespace Go.Proofs.Ytiilanckbocifaa
open Go
set_option linter.unusedSimpArgs false
set_option linter.unusedVariables false
theorem atM_ok {Hmd : Hp} {vmd : Value} {Hmc : Hp} {vmc : Value} {Hds : Hp} {vds : Value} (m : Mod) (ds : List Int) (hmd : Ints Hmd vmd m.doms) (hmc : Cons Hmc vmc m.cons) (hds : Ints Hds vds ds) : Spec Try.prog 85 [.agg #[vmd, vmc], vds] [Hmd, Hmc, Hds] ((fun Hq vq => vq = .agg #[vds, vmc])) := by
 refine spec_of Try.func85 rfl rfl rfl (fun B => ?_)
 refine kc_seq (kc_region (kl_box rfl rfl (fun p1 H2 f3 a4 => ?_)))
 refine kl_alloc (cs := [.slice none 0 0, .slice none 0 0]) rfl (fun b5 hb6 => ?_)
 refine kl_nil (kq_code (kc_seq (kc_region (kl_mv rfl (kl_fd rfl (by assumption) (fun p7 a8 => ?_))))))
 refine kl_ld rfl (by assumption) (kl_bd rfl (cp (Sl.cells (by assumption)) (cp (Sl.cells (by assumption)) cp_nil)) rfl ?_)
 refine kl_stW (us := [vds, vmc]) rfl rfl rfl rfl (oc (Sl.oneCell (by assumption)) (oc (Sl.oneCell (by assumption)) oc_nil)) rfl ?_
 refine kl_chg [sing b5 (.cells [vds, vmc].toArray 26 (0, 0))] rfl ?_
 refine kl_nil (kq_code (kc_ret ?_))
 exact kq_retC rfl rfl rfl noHp (fr_no _) rfl
theorem nearM_ok {Hmd : Hp} {vmd : Value} {Hmc : Hp} {vmc : Value} {Hx : Hp} {vx : Value} {Hfree : Hp} {vfree : Value} (m : Mod) (x : List Int) (free : List Int) (hM : MOk m) (hX : Vals x) (hlX : x.length = m.doms.length) (hmd : Ints Hmd vmd m.doms) (hmc : Cons Hmc vmc m.cons) (hx : Ints Hx vx x) (hfree : Ints Hfree vfree free) : Spec Try.prog 52 [.agg #[vmd, vmc], vx, vfree] [Hmd, Hmc, Hx, Hfree] ((fun Hq vq => ∃ va : Value, vq = .agg #[va, vmc] ∧ Ints Hq va (nearT m.doms x free x.length))) := by
 have hn := hM.n
 refine spec_of Try.func52 rfl rfl rfl (fun B => ?_)
 refine kc_seq (kc_region (kl_box rfl rfl (fun p1 H2 f3 a4 => ?_)))
 refine kl_alloc (cs := [.slice none 0 0, .slice none 0 0]) rfl (fun b5 hb6 => ?_)
 refine kl_nil (kq_code (kc_seq (kc_region (kl_fd rfl (by assumption) (fun p7 a8 => ?_)))))
 refine kl_ld rfl (by assumption) (kl_callL rfl rfl (copied_ok m.doms (by omega) (by assumption)) (fun v9 H10 f11 o12 => ?_))
 refine kl_as rfl (kl_nil (kq_code (kc_seq (kc_seq (kc_region (kl_mv rfl (kl_len rfl (by assumption) (fun l13 => ?_))))))))
 refine kl_mv rfl (kl_nil (kq_code (kc_block (kc_loopL (A := Nat × List Int × Hp) (fun zz => (zz.1 ≤ x.length) ∧ (zz.2.1 = nearT m.doms x free zz.1) ∧ OwnL 3 1 zz.2.2 noHp IntV v9 zz.2.1 ∧ Fr B zz.2.2) (fun zz => x.length - zz.1) (fun zz => [zz.2.2, sing b5 (.cells [.slice none 0 0, .slice none 0 0].toArray 26 (0, 0))]) (fun zz => [(15, .int .i64 (zz.1 : Int))]) (0, m.doms, H10) (pc 2 rfl (pc 3 rfl (pc 6 rfl (pc 7 rfl (pc 13 rfl (pc 14 rfl pn)))))) (pc 15 rfl pn) rfl ⟨Nat.zero_le _, rfl, o12, f11⟩ ?_))))
 rintro ⟨k, ds, H16⟩ hJ19
 obtain ⟨hk14, hi15, o17, f18⟩ : (k ≤ x.length) ∧ (ds = nearT m.doms x free k) ∧ OwnL 3 1 H16 noHp IntV v9 ds ∧ Fr B H16 := hJ19
 change KC _ _ (_) [H16, sing b5 (.cells [.slice none 0 0, .slice none 0 0].toArray 26 (0, 0))] _ ([(15, .int .i64 (k : Int))] ++ _)
 have hdl : ds.length = m.doms.length := (by rw [hi15]; exact near_len _ _ _ _)
 refine kc_seq (kc_region (kl_lss rfl rfl ?_))
 refine kl_nil (kq_code (kc_seq (kc_if rfl (fun c20 => ?_) (fun c20 => ?_))))
 ·skip
  have hxk := hX.at (k := k) (by omega)
  have hsl := shl_le hxk
  refine kc_skipQ (kq_code (kc_seq (kc_block (kc_seq (kc_region (kl_mv rfl (kl_inI rfl rfl (by assumption) (by omega) (fun p21 a22 => ?_))))))))
  refine kl_ld rfl (by assumption) (kl_as rfl (kl_as rfl (kl_nil (kq_code (kc_seq (kc_region (kl_mv rfl (kl_mv rfl (kl_callP rfl rfl (containsInts_ok free (k : Int) (by assumption)) ?_)))))))))
  refine kl_not rfl (kl_nil (kq_code (kc_cond rfl (fun c23 => ?_) (fun c23 => ?_))))
  ·skip
   have c23r := c23
   try simp only [smpC, decide_eq_true_eq, decide_eq_false_iff_not] at c23
   refine kc_tree (fun i => ([8] : List Nat).contains i) [H16] (by kernel_rfl) ?_
   refine kt_q 0 (.cons_cons _ (List.nil_sublist _)) rfl (by kernel_rfl) (kl_mv rfl (kl_nil (kq_q (kt_q 1 (.cons_cons _ (List.nil_sublist _)) rfl (by kernel_rfl) (kl_mv rfl (kl_nil (kq_q (kt_q 2 (.cons_cons _ (List.nil_sublist _)) rfl (by kernel_rfl) (kl_ixLn rfl rfl (by assumption) (by omega) (fun p24 q25 => ?_))))))))))
   refine kl_nil (kq_q (kt_q 3 (.cons_cons _ (List.nil_sublist _)) rfl (by kernel_rfl) (kl_ldLIe rfl (by assumption) (by assumption) (by omega) ?_)))
   refine kl_nil (kq_q (kt_q 4 (.cons_cons _ (List.nil_sublist _)) rfl (by kernel_rfl) (kl_mv rfl (kl_nil (kq_q (kt_q 5 (.cons_cons _ (List.nil_sublist _)) rfl (by kernel_rfl) (kl_shl rfl rfl (by omega) ?_)))))))
   refine kl_nil (kq_q (kt_q 6 (.cons_cons _ (List.nil_sublist _)) rfl (by kernel_rfl) (kl_and rfl rfl ?_)))
   refine kl_nil (kq_q (kt_q 7 (.cons_cons _ (List.nil_sublist _)) rfl (by kernel_rfl) (kl_ixLn rfl rfl (by assumption) (by omega) (fun p26 q27 => ?_))))
   refine kl_nil (kq_q (kt_a 8 rfl (by kernel_rfl) (kl_stL (iand (ds.getD k 0) (ishl (1 : Int) (x.getD k 0))) rfl rfl (by assumption) o17 (by omega) rfl rfl rfl (fun H28 o29 f30 => ?_))))
   have f31 := f30 _ f18
   refine kl_chg [H28, sing b5 (.cells [.slice none 0 0, .slice none 0 0].toArray 26 (0, 0))] rfl ?_
   refine kl_nil (kq_x rfl (kt_end (by kernel_rfl) ?_))
   refine kq_code (kc_region (kl_inc rfl rfl (by omega) ?_))
   refine kl_mv rfl (kl_nil (kq_take [H28, sing b5 (.cells [.slice none 0 0, .slice none 0 0].toArray 26 (0, 0))] ?_))
   refine kq_roundL ((k + 1), (ds.set k (iand (ds.getD k 0) (ishl (1 : Int) (x.getD k 0)))), H28) (by omega) (⟨by omega, (by first | exact near_T hi15 (by assumption) | exact near_F hi15 (by assumption)), o29, f31⟩) (pc 15 rfl pn) (pc 2 rfl (pc 3 rfl (pc 6 rfl (pc 7 rfl (pc 13 rfl (pc 14 rfl pn)))))) rfl (List.Sublist.refl _)
  ·skip
   have c23r := c23
   try simp only [smpC, decide_eq_true_eq, decide_eq_false_iff_not] at c23
   refine kc_skipQ (kq_code (kc_region (kl_inc rfl rfl (by omega) ?_)))
   refine kl_mv rfl (kl_nil (kq_take [H16, sing b5 (.cells [.slice none 0 0, .slice none 0 0].toArray 26 (0, 0))] ?_))
   refine kq_roundL ((k + 1), ds, H16) (by omega) (⟨by omega, (by first | exact near_T hi15 (by assumption) | exact near_F hi15 (by assumption)), o17, f18⟩) (pc 15 rfl pn) (pc 2 rfl (pc 3 rfl (pc 6 rfl (pc 7 rfl (pc 13 rfl (pc 14 rfl pn)))))) rfl (List.Sublist.refl _)
 ·skip
  refine kc_exit (kq_code (kc_seq (kc_region (kl_ldS rfl (by assumption) rfl ?_))))
  refine kl_mv rfl (kl_call rfl rfl (atM_ok m ds (by assumption) (by assumption) (OwnL.ints o17)) (fun v32 H33 f34 h35 => ?_))
  subst h35
  refine kl_stW (us := [v9, vmc]) rfl rfl rfl rfl (oc (OwnL.oneCell (by assumption)) (oc (Sl.oneCell (by assumption)) oc_nil)) rfl ?_
  refine kl_chg [H16, sing b5 (.cells [v9, vmc].toArray 26 (0, 0))] rfl ?_
  refine kl_nil (kq_code (kc_ret ?_))
  exact kq_retC rfl rfl rfl H16 f18 ⟨_, rfl, (by have h9 := OwnL.ints o17; rw [(by assumption : ds = nearT m.doms x free k)] at h9; rw [show x.length = k from by omega]; exact h9)⟩
theorem copyConE_ok {Hcv : Hp} {vcv : Value} {Hca : Hp} {vca : Value} {Hcr : Hp} {vcr : Value} (c : Con) (hc : ConSm 100 c) (hcv : Ints Hcv vcv c.vars) (hca : Ints Hca vca c.args) (hcr : Rows Hcr vcr c.rows) : Spec Try.prog 64 [.agg #[.int .i64 c.kind, vcv, vca, .int .i64 c.bound, vcr]] [Hcv, Hca, Hcr] (fun Hq vq => ∃ cq : Con, ConR Hq vq cq ∧ cq = c) := by
 have h1 := hc.v1
 have h2 := hc.v
 have h3 := hc.a
 have h4 := hc.r
 have h5 := hc.rr
 refine spec_of Try.func64 rfl rfl rfl (fun B => ?_)
 refine kc_seq (kc_region (kl_box rfl rfl (fun p1 H2 f3 a4 => ?_)))
 refine kl_alloc (cs := [.int .i64 (0 : Int), .slice none 0 0, .slice none 0 0, .int .i64 (0 : Int), .slice none 0 0]) rfl (fun b5 hb6 => ?_)
 refine kl_nil (kq_code (kc_seq (kc_tree (fun i => ([10, 12] : List Nat).contains i) [] (by kernel_rfl) ?_)))
 refine kt_q 0 (List.nil_sublist _) rfl (by kernel_rfl) (kl_fd rfl (by assumption) (fun p7 a8 => ?_))
 refine kl_nil (kq_q (kt_q 1 (List.nil_sublist _) rfl (by kernel_rfl) (kl_ld rfl (by assumption) (kl_nil (kq_q (kt_q 2 (List.nil_sublist _) rfl (by kernel_rfl) (kl_fd rfl (by assumption) (fun p9 a10 => ?_))))))))
 refine kl_nil (kq_q (kt_q 3 (List.nil_sublist _) rfl (by kernel_rfl) (kl_ld rfl (by assumption) (kl_nil (kq_q (kt_q 5 (List.nil_sublist _) rfl (by kernel_rfl) (kl_fd rfl (by assumption) (fun p11 a12 => ?_))))))))
 refine kl_nil (kq_q (kt_q 6 (List.nil_sublist _) rfl (by kernel_rfl) (kl_ld rfl (by assumption) (kl_nil (kq_q (kt_q 8 (List.nil_sublist _) rfl (by kernel_rfl) (kl_fd rfl (by assumption) (fun p13 a14 => ?_))))))))
 refine kl_nil (kq_q (kt_q 9 (List.nil_sublist _) rfl (by kernel_rfl) (kl_ld rfl (by assumption) (kl_nil (kq_q (kt_b 4 11 rfl rfl (by kernel_rfl) ?_ ?_))))))
 ·skip
  refine kl_call rfl rfl (copyInts_ok c.vars (by first | omega | (have h6 := h5 _ (getD_mem (d := []) (by omega : k < c.rows.length)); omega)) (by assumption)) (fun v15 H16 f17 o18 => ?_)
  have h19 := OwnL.ints o18
  refine kl_nil (kq_a (List.nil_sublist _) (kt_b 7 11 rfl rfl (by kernel_rfl) ?_ ?_))
  ·skip
   refine kl_call rfl rfl (copyInts_ok c.args (by first | omega | (have h6 := h5 _ (getD_mem (d := []) (by omega : k < c.rows.length)); omega)) (by assumption)) (fun v20 H21 f22 o23 => ?_)
   have h24 := OwnL.ints o23
   refine kl_nil (kq_a (List.nil_sublist _) (kt_b 10 11 rfl rfl (by kernel_rfl) ?_ ?_))
   ·skip
    refine kl_bd rfl (cp rfl (cp (Sl.cells (by assumption)) (cp (Sl.cells (by assumption)) (cp rfl cp_nil)))) rfl ?_
    refine kl_nil (kq_x rfl (kt_a 11 rfl (by kernel_rfl) (kl_alloc (cs := [.int .i64 (0 : Int), .slice none 0 0, .slice none 0 0, .int .i64 (0 : Int), .slice none 0 0]) rfl (fun b25 hb26 => ?_))))
    refine kl_nil (kq_a (List.nil_sublist _) (kt_a 12 rfl (by kernel_rfl) (kl_stW (us := [.int .i64 c.kind, v15, v20, .int .i64 c.bound, .slice none 0 0]) rfl rfl rfl rfl (oc rfl (oc (Sl.oneCell (by assumption)) (oc (Sl.oneCell (by assumption)) (oc rfl (oc rfl oc_nil))))) rfl ?_)))
    refine kl_chg [sing b25 (.cells [.int .i64 c.kind, v15, v20, .int .i64 c.bound, .slice none 0 0].toArray 53 (0, 0)), sing b5 (.cells [.int .i64 (0 : Int), .slice none 0 0, .slice none 0 0, .int .i64 (0 : Int), .slice none 0 0].toArray 53 (0, 0))] rfl ?_
    refine kl_nil (kq_x rfl (kt_end (by kernel_rfl) ?_))
    refine kq_code (kc_seq (kc_seq (kc_region (kl_as rfl (kl_nil (kq_code (kc_block (kc_no ?_))))))))
    refine kc_loopK (A := Nat × List (List Int) × Value × Hp × Hp) (fun zz => (zz.1 ≤ c.rows.length) ∧ (zz.2.1 = c.rows.take zz.1) ∧ Fr B zz.2.2.2.2 ∧ OwnL 23 1 zz.2.2.2.1 zz.2.2.2.2 RowV zz.2.2.1 zz.2.1 ∧ Fr B zz.2.2.2.1) (fun zz => c.rows.length - zz.1) (fun zz => zz.2.2.2.2) (fun zz => [zz.2.2.2.1, sing b25 (.cells [.int .i64 c.kind, v15, v20, .int .i64 c.bound, zz.2.2.1].toArray 53 (0, 0)), sing b5 (.cells [.int .i64 (0 : Int), .slice none 0 0, .slice none 0 0, .int .i64 (0 : Int), .slice none 0 0].toArray 53 (0, 0))]) (fun zz => [(4, .int .i64 (zz.1 : Int))]) (0, [], .slice none 0 0, noHp, noHp) (pc 1 rfl (pc 2 rfl (pc 3 rfl pn))) (pc 4 rfl pn) rfl ⟨Nat.zero_le _, rfl, (fr_no _), OwnL.nil, (fr_no _)⟩ ?_
    rintro ⟨k, out, v32, H29, K33⟩ hJ36
    obtain ⟨hk27, hi28, f34, o30, f31⟩ : (k ≤ c.rows.length) ∧ (out = c.rows.take k) ∧ Fr B K33 ∧ OwnL 23 1 H29 K33 RowV v32 out ∧ Fr B H29 := hJ36
    change KC _ _ (K33 :: _) [H29, sing b25 (.cells [.int .i64 c.kind, v15, v20, .int .i64 c.bound, v32].toArray 53 (0, 0)), sing b5 (.cells [.int .i64 (0 : Int), .slice none 0 0, .slice none 0 0, .int .i64 (0 : Int), .slice none 0 0].toArray 53 (0, 0))] _ ([(4, .int .i64 (k : Int))] ++ _)
    refine kc_seq (kc_seq (kc_region (kl_mv rfl (kl_fd rfl (by assumption) (fun p37 a38 => ?_)))))
    refine kl_ld rfl (by assumption) (kl_len rfl (by assumption) (fun l39 => ?_))
    refine kl_lss rfl rfl ?_
    refine kl_nil (kq_code (kc_if rfl (fun c40 => ?_) (fun c40 => ?_)))
    ·skip
     refine kc_skipQ (kq_code (kc_seq (kc_block (kc_tree (fun i => ([9, 11] : List Nat).contains i) [sing b25 (.cells [.int .i64 c.kind, v15, v20, .int .i64 c.bound, v32].toArray 53 (0, 0))] (by kernel_rfl) ?_))))
     refine kt_q 0 (.cons _ (.cons_cons _ (List.nil_sublist _))) rfl (by kernel_rfl) (kl_fdV rfl (kl_nil (kq_q (kt_q 1 (.cons _ (.cons_cons _ (List.nil_sublist _))) rfl (by kernel_rfl) (kl_ld rfl (at_box (T := 53) (cs := [.int .i64 c.kind, v15, v20, .int .i64 c.bound, v32]) (off := 4) (fz := (0, 0))) (kl_nil (kq_q (kt_q 2 (.cons _ (.cons_cons _ (List.nil_sublist _))) rfl (by kernel_rfl) (kl_fd rfl (by assumption) (fun p41 a42 => ?_))))))))))
     refine kl_nil (kq_q (kt_q 3 (.cons _ (.cons_cons _ (List.nil_sublist _))) rfl (by kernel_rfl) (kl_ld rfl (by assumption) (kl_nil (kq_q (kt_q 4 (.cons _ (.cons_cons _ (List.nil_sublist _))) rfl (by kernel_rfl) (kl_mv rfl (kl_nil (kq_q (kt_q 5 (.cons _ (.cons_cons _ (List.nil_sublist _))) rfl (by kernel_rfl) (kl_inS rfl rfl (by assumption) (by omega) (fun p43 u45 h46 a44 => ?_))))))))))))
     refine kl_nil (kq_q (kt_q 6 (.cons _ (.cons_cons _ (List.nil_sublist _))) rfl (by kernel_rfl) (kl_ld rfl (by assumption) (kl_nil (kq_q (kt_a 7 rfl (by kernel_rfl) (kl_call rfl rfl (copyInts_ok (c.rows.getD k []) (by first | omega | (have h6 := h5 _ (getD_mem (d := []) (by omega : k < c.rows.length)); omega)) (by assumption)) (fun v47 H48 f49 o50 => ?_))))))))
     have h51 := OwnL.ints o50
     refine kl_nil (kq_a (.cons _ (.cons_cons _ (List.nil_sublist _))) (kt_a 8 rfl (by kernel_rfl) (kl_bs rfl rfl rfl (by decide) (ca (by first | exact Sl.cells (by assumption) | exact OwnL.cells (by assumption)) ca_nil) (fun v52 H53 f54 r55 s56 => ?_))))
     refine kl_nil (kq_a (.cons _ (.cons_cons _ (List.nil_sublist _))) (kt_a 9 rfl (by kernel_rfl) (kl_cmp K33 H48 (fun c57 => ?_))))
     have o58 := OwnL.mono (K' := orHp K33 H48) o30 orL
     refine kl_apL (c.rows.getD k []) rfl rfl o58 (by assumption) ⟨_, rfl, Sl.mono (by assumption) (orC c57) (fun _ _ h => h)⟩ (oc (Sl.oneCell (by assumption)) oc_nil) (by (have h9 := congrArg List.length hi28; simp at h9; omega)) (by decide) (fun v59 H60 o61 f62 => ?_)
     have f63 := f62 B f31 (Nat.le_refl _)
     refine kl_nil (kq_x rfl (kt_q 10 (.cons _ (.cons_cons _ (List.nil_sublist _))) rfl (by kernel_rfl) (kl_fdV rfl (kl_nil (kq_q (kt_a 11 rfl (by kernel_rfl) (kl_stB rfl rfl rfl (OwnL.oneCell (by assumption)) (OwnL.cells (by assumption)) ?_)))))))
     refine kl_chg [H60, sing b25 (.cells [.int .i64 c.kind, v15, v20, .int .i64 c.bound, v59].toArray 53 (0, 0)), sing b5 (.cells [.int .i64 (0 : Int), .slice none 0 0, .slice none 0 0, .int .i64 (0 : Int), .slice none 0 0].toArray 53 (0, 0))] rfl ?_
     refine kl_nil (kq_x rfl (kt_end (by kernel_rfl) ?_))
     refine kq_code (kc_region (kl_mv rfl (kl_inc rfl rfl (by omega) ?_)))
     refine kl_as rfl (kl_nil (kq_take [H60, sing b25 (.cells [.int .i64 c.kind, v15, v20, .int .i64 c.bound, v59].toArray 53 (0, 0)), sing b5 (.cells [.int .i64 (0 : Int), .slice none 0 0, .slice none 0 0, .int .i64 (0 : Int), .slice none 0 0].toArray 53 (0, 0))] ?_))
     refine kq_roundK ((k + 1), (out ++ [(c.rows.getD k [])]), v59, H60, (orHp K33 H48)) (by omega) (⟨by omega, (by rw [hi28, take_succ_getD [] (by omega)]), (fr_or f34 f49), o61, f63⟩) (pc 4 rfl pn) (pc 1 rfl (pc 2 rfl (pc 3 rfl pn))) rfl (List.Sublist.refl _)
    ·skip
     refine kc_exit (kq_code (kc_seq (kc_region (kl_ldW rfl rfl (kl_stW (us := [.int .i64 c.kind, v15, v20, .int .i64 c.bound, v32]) rfl rfl rfl rfl (oc rfl (oc (Sl.oneCell (by assumption)) (oc (Sl.oneCell (by assumption)) (oc rfl (oc (OwnL.oneCell (by assumption)) oc_nil))))) rfl ?_)))))
     refine kl_chg [H29, sing b25 (.cells [.int .i64 c.kind, v15, v20, .int .i64 c.bound, v32].toArray 53 (0, 0)), sing b5 (.cells [.int .i64 c.kind, v15, v20, .int .i64 c.bound, v32].toArray 53 (0, 0))] rfl ?_
     refine kl_nil (kq_code (kc_ret (kq_frz H29 ?_)))
     refine kq_cmp H29 K33 (fun c64 => ?_)
     refine kq_cmp H21 (orHp H29 K33) (fun c65 => ?_)
     refine kq_cmp H16 (orHp H21 (orHp H29 K33)) (fun c66 => ?_)
     exact kq_retC rfl rfl rfl (orHp H16 (orHp H21 (orHp H29 K33))) (fr_or f17 (fr_or f22 (fr_or f31 f34))) ⟨⟨c.kind, c.vars, c.args, c.bound, out⟩, ⟨_, rfl, _, _, _, rfl, (Sl.mono (by assumption) (fun b o h => orL b o h) (fun _ _ h => h)), (Sl.mono (by assumption) (fun b o h => orC c66 b o (orL b o h)) (fun _ _ h => h)), (Rows.mono' (OwnL.rowsK o30 c64) (fun b o h => orC c66 b o (orC c65 b o h)))⟩, by (have h9 := hi28; rw [List.take_of_length_le (by omega)] at h9; rw [h9])⟩
   ·skip
    refine kl_alloc (cs := [.int .i64 (0 : Int), .slice none 0 0, .slice none 0 0, .int .i64 (0 : Int), .slice none 0 0]) rfl (fun b67 hb68 => ?_)
    refine kl_nil (kq_a (List.nil_sublist _) (kt_a 10 rfl (by kernel_rfl) (kl_bd rfl (cp rfl (cp (Sl.cells (by assumption)) (cp (Sl.cells (by assumption)) (cp rfl cp_nil)))) rfl ?_)))
    refine kl_nil (kq_x rfl (kt_a 12 rfl (by kernel_rfl) (kl_stW (us := [.int .i64 c.kind, v15, v20, .int .i64 c.bound, .slice none 0 0]) rfl rfl rfl rfl (oc rfl (oc (Sl.oneCell (by assumption)) (oc (Sl.oneCell (by assumption)) (oc rfl (oc rfl oc_nil))))) rfl ?_)))
    refine kl_chg [sing b67 (.cells [.int .i64 c.kind, v15, v20, .int .i64 c.bound, .slice none 0 0].toArray 53 (0, 0)), sing b5 (.cells [.int .i64 (0 : Int), .slice none 0 0, .slice none 0 0, .int .i64 (0 : Int), .slice none 0 0].toArray 53 (0, 0))] rfl ?_
    refine kl_nil (kq_x rfl (kt_end (by kernel_rfl) ?_))
    refine kq_code (kc_seq (kc_seq (kc_region (kl_as rfl (kl_nil (kq_code (kc_block (kc_no ?_))))))))
    refine kc_loopK (A := Nat × List (List Int) × Value × Hp × Hp) (fun zz => (zz.1 ≤ c.rows.length) ∧ (zz.2.1 = c.rows.take zz.1) ∧ Fr B zz.2.2.2.2 ∧ OwnL 23 1 zz.2.2.2.1 zz.2.2.2.2 RowV zz.2.2.1 zz.2.1 ∧ Fr B zz.2.2.2.1) (fun zz => c.rows.length - zz.1) (fun zz => zz.2.2.2.2) (fun zz => [zz.2.2.2.1, sing b67 (.cells [.int .i64 c.kind, v15, v20, .int .i64 c.bound, zz.2.2.1].toArray 53 (0, 0)), sing b5 (.cells [.int .i64 (0 : Int), .slice none 0 0, .slice none 0 0, .int .i64 (0 : Int), .slice none 0 0].toArray 53 (0, 0))]) (fun zz => [(4, .int .i64 (zz.1 : Int))]) (0, [], .slice none 0 0, noHp, noHp) (pc 1 rfl (pc 2 rfl (pc 3 rfl pn))) (pc 4 rfl pn) rfl ⟨Nat.zero_le _, rfl, (fr_no _), OwnL.nil, (fr_no _)⟩ ?_
    rintro ⟨k, out, v74, H71, K75⟩ hJ78
    obtain ⟨hk69, hi70, f76, o72, f73⟩ : (k ≤ c.rows.length) ∧ (out = c.rows.take k) ∧ Fr B K75 ∧ OwnL 23 1 H71 K75 RowV v74 out ∧ Fr B H71 := hJ78
    change KC _ _ (K75 :: _) [H71, sing b67 (.cells [.int .i64 c.kind, v15, v20, .int .i64 c.bound, v74].toArray 53 (0, 0)), sing b5 (.cells [.int .i64 (0 : Int), .slice none 0 0, .slice none 0 0, .int .i64 (0 : Int), .slice none 0 0].toArray 53 (0, 0))] _ ([(4, .int .i64 (k : Int))] ++ _)
    refine kc_seq (kc_seq (kc_region (kl_mv rfl (kl_fd rfl (by assumption) (fun p79 a80 => ?_)))))
    refine kl_ld rfl (by assumption) (kl_len rfl (by assumption) (fun l81 => ?_))
    refine kl_lss rfl rfl ?_
    refine kl_nil (kq_code (kc_if rfl (fun c82 => ?_) (fun c82 => ?_)))
    ·skip
     refine kc_skipQ (kq_code (kc_seq (kc_block (kc_tree (fun i => ([9, 11] : List Nat).contains i) [sing b67 (.cells [.int .i64 c.kind, v15, v20, .int .i64 c.bound, v74].toArray 53 (0, 0))] (by kernel_rfl) ?_))))
     refine kt_q 0 (.cons _ (.cons_cons _ (List.nil_sublist _))) rfl (by kernel_rfl) (kl_fdV rfl (kl_nil (kq_q (kt_q 1 (.cons _ (.cons_cons _ (List.nil_sublist _))) rfl (by kernel_rfl) (kl_ld rfl (at_box (T := 53) (cs := [.int .i64 c.kind, v15, v20, .int .i64 c.bound, v74]) (off := 4) (fz := (0, 0))) (kl_nil (kq_q (kt_q 2 (.cons _ (.cons_cons _ (List.nil_sublist _))) rfl (by kernel_rfl) (kl_fd rfl (by assumption) (fun p83 a84 => ?_))))))))))
     refine kl_nil (kq_q (kt_q 3 (.cons _ (.cons_cons _ (List.nil_sublist _))) rfl (by kernel_rfl) (kl_ld rfl (by assumption) (kl_nil (kq_q (kt_q 4 (.cons _ (.cons_cons _ (List.nil_sublist _))) rfl (by kernel_rfl) (kl_mv rfl (kl_nil (kq_q (kt_q 5 (.cons _ (.cons_cons _ (List.nil_sublist _))) rfl (by kernel_rfl) (kl_inS rfl rfl (by assumption) (by omega) (fun p85 u87 h88 a86 => ?_))))))))))))
     refine kl_nil (kq_q (kt_q 6 (.cons _ (.cons_cons _ (List.nil_sublist _))) rfl (by kernel_rfl) (kl_ld rfl (by assumption) (kl_nil (kq_q (kt_a 7 rfl (by kernel_rfl) (kl_call rfl rfl (copyInts_ok (c.rows.getD k []) (by first | omega | (have h6 := h5 _ (getD_mem (d := []) (by omega : k < c.rows.length)); omega)) (by assumption)) (fun v89 H90 f91 o92 => ?_))))))))
     have h93 := OwnL.ints o92
     refine kl_nil (kq_a (.cons _ (.cons_cons _ (List.nil_sublist _))) (kt_a 8 rfl (by kernel_rfl) (kl_bs rfl rfl rfl (by decide) (ca (by first | exact Sl.cells (by assumption) | exact OwnL.cells (by assumption)) ca_nil) (fun v94 H95 f96 r97 s98 => ?_))))
     refine kl_nil (kq_a (.cons _ (.cons_cons _ (List.nil_sublist _))) (kt_a 9 rfl (by kernel_rfl) (kl_cmp K75 H90 (fun c99 => ?_))))
     have o100 := OwnL.mono (K' := orHp K75 H90) o72 orL
     refine kl_apL (c.rows.getD k []) rfl rfl o100 (by assumption) ⟨_, rfl, Sl.mono (by assumption) (orC c99) (fun _ _ h => h)⟩ (oc (Sl.oneCell (by assumption)) oc_nil) (by (have h9 := congrArg List.length hi70; simp at h9; omega)) (by decide) (fun v101 H102 o103 f104 => ?_)
     have f105 := f104 B f73 (Nat.le_refl _)
     refine kl_nil (kq_x rfl (kt_q 10 (.cons _ (.cons_cons _ (List.nil_sublist _))) rfl (by kernel_rfl) (kl_fdV rfl (kl_nil (kq_q (kt_a 11 rfl (by kernel_rfl) (kl_stB rfl rfl rfl (OwnL.oneCell (by assumption)) (OwnL.cells (by assumption)) ?_)))))))
     refine kl_chg [H102, sing b67 (.cells [.int .i64 c.kind, v15, v20, .int .i64 c.bound, v101].toArray 53 (0, 0)), sing b5 (.cells [.int .i64 (0 : Int), .slice none 0 0, .slice none 0 0, .int .i64 (0 : Int), .slice none 0 0].toArray 53 (0, 0))] rfl ?_
     refine kl_nil (kq_x rfl (kt_end (by kernel_rfl) ?_))
     refine kq_code (kc_region (kl_mv rfl (kl_inc rfl rfl (by omega) ?_)))
     refine kl_as rfl (kl_nil (kq_take [H102, sing b67 (.cells [.int .i64 c.kind, v15, v20, .int .i64 c.bound, v101].toArray 53 (0, 0)), sing b5 (.cells [.int .i64 (0 : Int), .slice none 0 0, .slice none 0 0, .int .i64 (0 : Int), .slice none 0 0].toArray 53 (0, 0))] ?_))
     refine kq_roundK ((k + 1), (out ++ [(c.rows.getD k [])]), v101, H102, (orHp K75 H90)) (by omega) (⟨by omega, (by rw [hi70, take_succ_getD [] (by omega)]), (fr_or f76 f91), o103, f105⟩) (pc 4 rfl pn) (pc 1 rfl (pc 2 rfl (pc 3 rfl pn))) rfl (List.Sublist.refl _)
    ·skip
     refine kc_exit (kq_code (kc_seq (kc_region (kl_ldW rfl rfl (kl_stW (us := [.int .i64 c.kind, v15, v20, .int .i64 c.bound, v74]) rfl rfl rfl rfl (oc rfl (oc (Sl.oneCell (by assumption)) (oc (Sl.oneCell (by assumption)) (oc rfl (oc (OwnL.oneCell (by assumption)) oc_nil))))) rfl ?_)))))
     refine kl_chg [H71, sing b67 (.cells [.int .i64 c.kind, v15, v20, .int .i64 c.bound, v74].toArray 53 (0, 0)), sing b5 (.cells [.int .i64 c.kind, v15, v20, .int .i64 c.bound, v74].toArray 53 (0, 0))] rfl ?_
     refine kl_nil (kq_code (kc_ret (kq_frz H71 ?_)))
     refine kq_cmp H71 K75 (fun c106 => ?_)
     refine kq_cmp H21 (orHp H71 K75) (fun c107 => ?_)
     refine kq_cmp H16 (orHp H21 (orHp H71 K75)) (fun c108 => ?_)
     exact kq_retC rfl rfl rfl (orHp H16 (orHp H21 (orHp H71 K75))) (fr_or f17 (fr_or f22 (fr_or f73 f76))) ⟨⟨c.kind, c.vars, c.args, c.bound, out⟩, ⟨_, rfl, _, _, _, rfl, (Sl.mono (by assumption) (fun b o h => orL b o h) (fun _ _ h => h)), (Sl.mono (by assumption) (fun b o h => orC c108 b o (orL b o h)) (fun _ _ h => h)), (Rows.mono' (OwnL.rowsK o72 c106) (fun b o h => orC c108 b o (orC c107 b o h)))⟩, by (have h9 := hi70; rw [List.take_of_length_le (by omega)] at h9; rw [h9])⟩
  ·skip
   refine kl_alloc (cs := [.int .i64 (0 : Int), .slice none 0 0, .slice none 0 0, .int .i64 (0 : Int), .slice none 0 0]) rfl (fun b109 hb110 => ?_)
   refine kl_nil (kq_a (List.nil_sublist _) (kt_a 7 rfl (by kernel_rfl) (kl_call rfl rfl (copyInts_ok c.args (by first | omega | (have h6 := h5 _ (getD_mem (d := []) (by omega : k < c.rows.length)); omega)) (by assumption)) (fun v111 H112 f113 o114 => ?_))))
   have h115 := OwnL.ints o114
   refine kl_nil (kq_a (List.nil_sublist _) (kt_a 10 rfl (by kernel_rfl) (kl_bd rfl (cp rfl (cp (Sl.cells (by assumption)) (cp (Sl.cells (by assumption)) (cp rfl cp_nil)))) rfl ?_)))
   refine kl_nil (kq_x rfl (kt_a 12 rfl (by kernel_rfl) (kl_stW (us := [.int .i64 c.kind, v15, v111, .int .i64 c.bound, .slice none 0 0]) rfl rfl rfl rfl (oc rfl (oc (Sl.oneCell (by assumption)) (oc (Sl.oneCell (by assumption)) (oc rfl (oc rfl oc_nil))))) rfl ?_)))
   refine kl_chg [sing b109 (.cells [.int .i64 c.kind, v15, v111, .int .i64 c.bound, .slice none 0 0].toArray 53 (0, 0)), sing b5 (.cells [.int .i64 (0 : Int), .slice none 0 0, .slice none 0 0, .int .i64 (0 : Int), .slice none 0 0].toArray 53 (0, 0))] rfl ?_
   refine kl_nil (kq_x rfl (kt_end (by kernel_rfl) ?_))
   refine kq_code (kc_seq (kc_seq (kc_region (kl_as rfl (kl_nil (kq_code (kc_block (kc_no ?_))))))))
   refine kc_loopK (A := Nat × List (List Int) × Value × Hp × Hp) (fun zz => (zz.1 ≤ c.rows.length) ∧ (zz.2.1 = c.rows.take zz.1) ∧ Fr B zz.2.2.2.2 ∧ OwnL 23 1 zz.2.2.2.1 zz.2.2.2.2 RowV zz.2.2.1 zz.2.1 ∧ Fr B zz.2.2.2.1) (fun zz => c.rows.length - zz.1) (fun zz => zz.2.2.2.2) (fun zz => [zz.2.2.2.1, sing b109 (.cells [.int .i64 c.kind, v15, v111, .int .i64 c.bound, zz.2.2.1].toArray 53 (0, 0)), sing b5 (.cells [.int .i64 (0 : Int), .slice none 0 0, .slice none 0 0, .int .i64 (0 : Int), .slice none 0 0].toArray 53 (0, 0))]) (fun zz => [(4, .int .i64 (zz.1 : Int))]) (0, [], .slice none 0 0, noHp, noHp) (pc 1 rfl (pc 2 rfl (pc 3 rfl pn))) (pc 4 rfl pn) rfl ⟨Nat.zero_le _, rfl, (fr_no _), OwnL.nil, (fr_no _)⟩ ?_
   rintro ⟨k, out, v121, H118, K122⟩ hJ125
   obtain ⟨hk116, hi117, f123, o119, f120⟩ : (k ≤ c.rows.length) ∧ (out = c.rows.take k) ∧ Fr B K122 ∧ OwnL 23 1 H118 K122 RowV v121 out ∧ Fr B H118 := hJ125
   change KC _ _ (K122 :: _) [H118, sing b109 (.cells [.int .i64 c.kind, v15, v111, .int .i64 c.bound, v121].toArray 53 (0, 0)), sing b5 (.cells [.int .i64 (0 : Int), .slice none 0 0, .slice none 0 0, .int .i64 (0 : Int), .slice none 0 0].toArray 53 (0, 0))] _ ([(4, .int .i64 (k : Int))] ++ _)
   refine kc_seq (kc_seq (kc_region (kl_mv rfl (kl_fd rfl (by assumption) (fun p126 a127 => ?_)))))
   refine kl_ld rfl (by assumption) (kl_len rfl (by assumption) (fun l128 => ?_))
   refine kl_lss rfl rfl ?_
   refine kl_nil (kq_code (kc_if rfl (fun c129 => ?_) (fun c129 => ?_)))
   ·skip
    refine kc_skipQ (kq_code (kc_seq (kc_block (kc_tree (fun i => ([9, 11] : List Nat).contains i) [sing b109 (.cells [.int .i64 c.kind, v15, v111, .int .i64 c.bound, v121].toArray 53 (0, 0))] (by kernel_rfl) ?_))))
    refine kt_q 0 (.cons _ (.cons_cons _ (List.nil_sublist _))) rfl (by kernel_rfl) (kl_fdV rfl (kl_nil (kq_q (kt_q 1 (.cons _ (.cons_cons _ (List.nil_sublist _))) rfl (by kernel_rfl) (kl_ld rfl (at_box (T := 53) (cs := [.int .i64 c.kind, v15, v111, .int .i64 c.bound, v121]) (off := 4) (fz := (0, 0))) (kl_nil (kq_q (kt_q 2 (.cons _ (.cons_cons _ (List.nil_sublist _))) rfl (by kernel_rfl) (kl_fd rfl (by assumption) (fun p130 a131 => ?_))))))))))
    refine kl_nil (kq_q (kt_q 3 (.cons _ (.cons_cons _ (List.nil_sublist _))) rfl (by kernel_rfl) (kl_ld rfl (by assumption) (kl_nil (kq_q (kt_q 4 (.cons _ (.cons_cons _ (List.nil_sublist _))) rfl (by kernel_rfl) (kl_mv rfl (kl_nil (kq_q (kt_q 5 (.cons _ (.cons_cons _ (List.nil_sublist _))) rfl (by kernel_rfl) (kl_inS rfl rfl (by assumption) (by omega) (fun p132 u134 h135 a133 => ?_))))))))))))
    refine kl_nil (kq_q (kt_q 6 (.cons _ (.cons_cons _ (List.nil_sublist _))) rfl (by kernel_rfl) (kl_ld rfl (by assumption) (kl_nil (kq_q (kt_a 7 rfl (by kernel_rfl) (kl_call rfl rfl (copyInts_ok (c.rows.getD k []) (by first | omega | (have h6 := h5 _ (getD_mem (d := []) (by omega : k < c.rows.length)); omega)) (by assumption)) (fun v136 H137 f138 o139 => ?_))))))))
    have h140 := OwnL.ints o139
    refine kl_nil (kq_a (.cons _ (.cons_cons _ (List.nil_sublist _))) (kt_a 8 rfl (by kernel_rfl) (kl_bs rfl rfl rfl (by decide) (ca (by first | exact Sl.cells (by assumption) | exact OwnL.cells (by assumption)) ca_nil) (fun v141 H142 f143 r144 s145 => ?_))))
    refine kl_nil (kq_a (.cons _ (.cons_cons _ (List.nil_sublist _))) (kt_a 9 rfl (by kernel_rfl) (kl_cmp K122 H137 (fun c146 => ?_))))
    have o147 := OwnL.mono (K' := orHp K122 H137) o119 orL
    refine kl_apL (c.rows.getD k []) rfl rfl o147 (by assumption) ⟨_, rfl, Sl.mono (by assumption) (orC c146) (fun _ _ h => h)⟩ (oc (Sl.oneCell (by assumption)) oc_nil) (by (have h9 := congrArg List.length hi117; simp at h9; omega)) (by decide) (fun v148 H149 o150 f151 => ?_)
    have f152 := f151 B f120 (Nat.le_refl _)
    refine kl_nil (kq_x rfl (kt_q 10 (.cons _ (.cons_cons _ (List.nil_sublist _))) rfl (by kernel_rfl) (kl_fdV rfl (kl_nil (kq_q (kt_a 11 rfl (by kernel_rfl) (kl_stB rfl rfl rfl (OwnL.oneCell (by assumption)) (OwnL.cells (by assumption)) ?_)))))))
    refine kl_chg [H149, sing b109 (.cells [.int .i64 c.kind, v15, v111, .int .i64 c.bound, v148].toArray 53 (0, 0)), sing b5 (.cells [.int .i64 (0 : Int), .slice none 0 0, .slice none 0 0, .int .i64 (0 : Int), .slice none 0 0].toArray 53 (0, 0))] rfl ?_
    refine kl_nil (kq_x rfl (kt_end (by kernel_rfl) ?_))
    refine kq_code (kc_region (kl_mv rfl (kl_inc rfl rfl (by omega) ?_)))
    refine kl_as rfl (kl_nil (kq_take [H149, sing b109 (.cells [.int .i64 c.kind, v15, v111, .int .i64 c.bound, v148].toArray 53 (0, 0)), sing b5 (.cells [.int .i64 (0 : Int), .slice none 0 0, .slice none 0 0, .int .i64 (0 : Int), .slice none 0 0].toArray 53 (0, 0))] ?_))
    refine kq_roundK ((k + 1), (out ++ [(c.rows.getD k [])]), v148, H149, (orHp K122 H137)) (by omega) (⟨by omega, (by rw [hi117, take_succ_getD [] (by omega)]), (fr_or f123 f138), o150, f152⟩) (pc 4 rfl pn) (pc 1 rfl (pc 2 rfl (pc 3 rfl pn))) rfl (List.Sublist.refl _)
   ·skip
    refine kc_exit (kq_code (kc_seq (kc_region (kl_ldW rfl rfl (kl_stW (us := [.int .i64 c.kind, v15, v111, .int .i64 c.bound, v121]) rfl rfl rfl rfl (oc rfl (oc (Sl.oneCell (by assumption)) (oc (Sl.oneCell (by assumption)) (oc rfl (oc (OwnL.oneCell (by assumption)) oc_nil))))) rfl ?_)))))
    refine kl_chg [H118, sing b109 (.cells [.int .i64 c.kind, v15, v111, .int .i64 c.bound, v121].toArray 53 (0, 0)), sing b5 (.cells [.int .i64 c.kind, v15, v111, .int .i64 c.bound, v121].toArray 53 (0, 0))] rfl ?_
    refine kl_nil (kq_code (kc_ret (kq_frz H118 ?_)))
    refine kq_cmp H118 K122 (fun c153 => ?_)
    refine kq_cmp H112 (orHp H118 K122) (fun c154 => ?_)
    refine kq_cmp H16 (orHp H112 (orHp H118 K122)) (fun c155 => ?_)
    exact kq_retC rfl rfl rfl (orHp H16 (orHp H112 (orHp H118 K122))) (fr_or f17 (fr_or f113 (fr_or f120 f123))) ⟨⟨c.kind, c.vars, c.args, c.bound, out⟩, ⟨_, rfl, _, _, _, rfl, (Sl.mono (by assumption) (fun b o h => orL b o h) (fun _ _ h => h)), (Sl.mono (by assumption) (fun b o h => orC c155 b o (orL b o h)) (fun _ _ h => h)), (Rows.mono' (OwnL.rowsK o119 c153) (fun b o h => orC c155 b o (orC c154 b o h)))⟩, by (have h9 := hi117; rw [List.take_of_length_le (by omega)] at h9; rw [h9])⟩
 ·skip
  refine kl_alloc (cs := [.int .i64 (0 : Int), .slice none 0 0, .slice none 0 0, .int .i64 (0 : Int), .slice none 0 0]) rfl (fun b156 hb157 => ?_)
  refine kl_nil (kq_a (List.nil_sublist _) (kt_a 4 rfl (by kernel_rfl) (kl_call rfl rfl (copyInts_ok c.vars (by first | omega | (have h6 := h5 _ (getD_mem (d := []) (by omega : k < c.rows.length)); omega)) (by assumption)) (fun v158 H159 f160 o161 => ?_))))
  have h162 := OwnL.ints o161
  refine kl_nil (kq_a (List.nil_sublist _) (kt_a 7 rfl (by kernel_rfl) (kl_call rfl rfl (copyInts_ok c.args (by first | omega | (have h6 := h5 _ (getD_mem (d := []) (by omega : k < c.rows.length)); omega)) (by assumption)) (fun v163 H164 f165 o166 => ?_))))
  have h167 := OwnL.ints o166
  refine kl_nil (kq_a (List.nil_sublist _) (kt_a 10 rfl (by kernel_rfl) (kl_bd rfl (cp rfl (cp (Sl.cells (by assumption)) (cp (Sl.cells (by assumption)) (cp rfl cp_nil)))) rfl ?_)))
  refine kl_nil (kq_x rfl (kt_a 12 rfl (by kernel_rfl) (kl_stW (us := [.int .i64 c.kind, v158, v163, .int .i64 c.bound, .slice none 0 0]) rfl rfl rfl rfl (oc rfl (oc (Sl.oneCell (by assumption)) (oc (Sl.oneCell (by assumption)) (oc rfl (oc rfl oc_nil))))) rfl ?_)))
  refine kl_chg [sing b156 (.cells [.int .i64 c.kind, v158, v163, .int .i64 c.bound, .slice none 0 0].toArray 53 (0, 0)), sing b5 (.cells [.int .i64 (0 : Int), .slice none 0 0, .slice none 0 0, .int .i64 (0 : Int), .slice none 0 0].toArray 53 (0, 0))] rfl ?_
  refine kl_nil (kq_x rfl (kt_end (by kernel_rfl) ?_))
  refine kq_code (kc_seq (kc_seq (kc_region (kl_as rfl (kl_nil (kq_code (kc_block (kc_no ?_))))))))
  refine kc_loopK (A := Nat × List (List Int) × Value × Hp × Hp) (fun zz => (zz.1 ≤ c.rows.length) ∧ (zz.2.1 = c.rows.take zz.1) ∧ Fr B zz.2.2.2.2 ∧ OwnL 23 1 zz.2.2.2.1 zz.2.2.2.2 RowV zz.2.2.1 zz.2.1 ∧ Fr B zz.2.2.2.1) (fun zz => c.rows.length - zz.1) (fun zz => zz.2.2.2.2) (fun zz => [zz.2.2.2.1, sing b156 (.cells [.int .i64 c.kind, v158, v163, .int .i64 c.bound, zz.2.2.1].toArray 53 (0, 0)), sing b5 (.cells [.int .i64 (0 : Int), .slice none 0 0, .slice none 0 0, .int .i64 (0 : Int), .slice none 0 0].toArray 53 (0, 0))]) (fun zz => [(4, .int .i64 (zz.1 : Int))]) (0, [], .slice none 0 0, noHp, noHp) (pc 1 rfl (pc 2 rfl (pc 3 rfl pn))) (pc 4 rfl pn) rfl ⟨Nat.zero_le _, rfl, (fr_no _), OwnL.nil, (fr_no _)⟩ ?_
  rintro ⟨k, out, v173, H170, K174⟩ hJ177
  obtain ⟨hk168, hi169, f175, o171, f172⟩ : (k ≤ c.rows.length) ∧ (out = c.rows.take k) ∧ Fr B K174 ∧ OwnL 23 1 H170 K174 RowV v173 out ∧ Fr B H170 := hJ177
  change KC _ _ (K174 :: _) [H170, sing b156 (.cells [.int .i64 c.kind, v158, v163, .int .i64 c.bound, v173].toArray 53 (0, 0)), sing b5 (.cells [.int .i64 (0 : Int), .slice none 0 0, .slice none 0 0, .int .i64 (0 : Int), .slice none 0 0].toArray 53 (0, 0))] _ ([(4, .int .i64 (k : Int))] ++ _)
  refine kc_seq (kc_seq (kc_region (kl_mv rfl (kl_fd rfl (by assumption) (fun p178 a179 => ?_)))))
  refine kl_ld rfl (by assumption) (kl_len rfl (by assumption) (fun l180 => ?_))
  refine kl_lss rfl rfl ?_
  refine kl_nil (kq_code (kc_if rfl (fun c181 => ?_) (fun c181 => ?_)))
  ·skip
   refine kc_skipQ (kq_code (kc_seq (kc_block (kc_tree (fun i => ([9, 11] : List Nat).contains i) [sing b156 (.cells [.int .i64 c.kind, v158, v163, .int .i64 c.bound, v173].toArray 53 (0, 0))] (by kernel_rfl) ?_))))
   refine kt_q 0 (.cons _ (.cons_cons _ (List.nil_sublist _))) rfl (by kernel_rfl) (kl_fdV rfl (kl_nil (kq_q (kt_q 1 (.cons _ (.cons_cons _ (List.nil_sublist _))) rfl (by kernel_rfl) (kl_ld rfl (at_box (T := 53) (cs := [.int .i64 c.kind, v158, v163, .int .i64 c.bound, v173]) (off := 4) (fz := (0, 0))) (kl_nil (kq_q (kt_q 2 (.cons _ (.cons_cons _ (List.nil_sublist _))) rfl (by kernel_rfl) (kl_fd rfl (by assumption) (fun p182 a183 => ?_))))))))))
   refine kl_nil (kq_q (kt_q 3 (.cons _ (.cons_cons _ (List.nil_sublist _))) rfl (by kernel_rfl) (kl_ld rfl (by assumption) (kl_nil (kq_q (kt_q 4 (.cons _ (.cons_cons _ (List.nil_sublist _))) rfl (by kernel_rfl) (kl_mv rfl (kl_nil (kq_q (kt_q 5 (.cons _ (.cons_cons _ (List.nil_sublist _))) rfl (by kernel_rfl) (kl_inS rfl rfl (by assumption) (by omega) (fun p184 u186 h187 a185 => ?_))))))))))))
   refine kl_nil (kq_q (kt_q 6 (.cons _ (.cons_cons _ (List.nil_sublist _))) rfl (by kernel_rfl) (kl_ld rfl (by assumption) (kl_nil (kq_q (kt_a 7 rfl (by kernel_rfl) (kl_call rfl rfl (copyInts_ok (c.rows.getD k []) (by first | omega | (have h6 := h5 _ (getD_mem (d := []) (by omega : k < c.rows.length)); omega)) (by assumption)) (fun v188 H189 f190 o191 => ?_))))))))
   have h192 := OwnL.ints o191
   refine kl_nil (kq_a (.cons _ (.cons_cons _ (List.nil_sublist _))) (kt_a 8 rfl (by kernel_rfl) (kl_bs rfl rfl rfl (by decide) (ca (by first | exact Sl.cells (by assumption) | exact OwnL.cells (by assumption)) ca_nil) (fun v193 H194 f195 r196 s197 => ?_))))
   refine kl_nil (kq_a (.cons _ (.cons_cons _ (List.nil_sublist _))) (kt_a 9 rfl (by kernel_rfl) (kl_cmp K174 H189 (fun c198 => ?_))))
   have o199 := OwnL.mono (K' := orHp K174 H189) o171 orL
   refine kl_apL (c.rows.getD k []) rfl rfl o199 (by assumption) ⟨_, rfl, Sl.mono (by assumption) (orC c198) (fun _ _ h => h)⟩ (oc (Sl.oneCell (by assumption)) oc_nil) (by (have h9 := congrArg List.length hi169; simp at h9; omega)) (by decide) (fun v200 H201 o202 f203 => ?_)
   have f204 := f203 B f172 (Nat.le_refl _)
   refine kl_nil (kq_x rfl (kt_q 10 (.cons _ (.cons_cons _ (List.nil_sublist _))) rfl (by kernel_rfl) (kl_fdV rfl (kl_nil (kq_q (kt_a 11 rfl (by kernel_rfl) (kl_stB rfl rfl rfl (OwnL.oneCell (by assumption)) (OwnL.cells (by assumption)) ?_)))))))
   refine kl_chg [H201, sing b156 (.cells [.int .i64 c.kind, v158, v163, .int .i64 c.bound, v200].toArray 53 (0, 0)), sing b5 (.cells [.int .i64 (0 : Int), .slice none 0 0, .slice none 0 0, .int .i64 (0 : Int), .slice none 0 0].toArray 53 (0, 0))] rfl ?_
   refine kl_nil (kq_x rfl (kt_end (by kernel_rfl) ?_))
   refine kq_code (kc_region (kl_mv rfl (kl_inc rfl rfl (by omega) ?_)))
   refine kl_as rfl (kl_nil (kq_take [H201, sing b156 (.cells [.int .i64 c.kind, v158, v163, .int .i64 c.bound, v200].toArray 53 (0, 0)), sing b5 (.cells [.int .i64 (0 : Int), .slice none 0 0, .slice none 0 0, .int .i64 (0 : Int), .slice none 0 0].toArray 53 (0, 0))] ?_))
   refine kq_roundK ((k + 1), (out ++ [(c.rows.getD k [])]), v200, H201, (orHp K174 H189)) (by omega) (⟨by omega, (by rw [hi169, take_succ_getD [] (by omega)]), (fr_or f175 f190), o202, f204⟩) (pc 4 rfl pn) (pc 1 rfl (pc 2 rfl (pc 3 rfl pn))) rfl (List.Sublist.refl _)
  ·skip
   refine kc_exit (kq_code (kc_seq (kc_region (kl_ldW rfl rfl (kl_stW (us := [.int .i64 c.kind, v158, v163, .int .i64 c.bound, v173]) rfl rfl rfl rfl (oc rfl (oc (Sl.oneCell (by assumption)) (oc (Sl.oneCell (by assumption)) (oc rfl (oc (OwnL.oneCell (by assumption)) oc_nil))))) rfl ?_)))))
   refine kl_chg [H170, sing b156 (.cells [.int .i64 c.kind, v158, v163, .int .i64 c.bound, v173].toArray 53 (0, 0)), sing b5 (.cells [.int .i64 c.kind, v158, v163, .int .i64 c.bound, v173].toArray 53 (0, 0))] rfl ?_
   refine kl_nil (kq_code (kc_ret (kq_frz H170 ?_)))
   refine kq_cmp H170 K174 (fun c205 => ?_)
   refine kq_cmp H164 (orHp H170 K174) (fun c206 => ?_)
   refine kq_cmp H159 (orHp H164 (orHp H170 K174)) (fun c207 => ?_)
   exact kq_retC rfl rfl rfl (orHp H159 (orHp H164 (orHp H170 K174))) (fr_or f160 (fr_or f165 (fr_or f172 f175))) ⟨⟨c.kind, c.vars, c.args, c.bound, out⟩, ⟨_, rfl, _, _, _, rfl, (Sl.mono (by assumption) (fun b o h => orL b o h) (fun _ _ h => h)), (Sl.mono (by assumption) (fun b o h => orC c207 b o (orL b o h)) (fun _ _ h => h)), (Rows.mono' (OwnL.rowsK o171 c205) (fun b o h => orC c207 b o (orC c206 b o h)))⟩, by (have h9 := hi169; rw [List.take_of_length_le (by omega)] at h9; rw [h9])⟩
theorem copyModE_ok {Hmd : Hp} {vmd : Value} {Hmc : Hp} {vmc : Value} (m : Mod) (hm : ModSm 100 m) (hmd : Ints Hmd vmd m.doms) (hmc : Cons Hmc vmc m.cons) : SpecT Try.prog 83 [.agg #[vmd, vmc]] [] [Hmd, Hmc] (fun vq L1 Ln Kq => L1 = [] ∧ ∃ (Hq Mq : Hp) (va vc : Value) (mq : Mod), vq = .agg #[va, vc] ∧ Ln = [Hq, Mq] ∧ OwnL 3 1 Hq noHp IntV va mq.doms ∧ OwnL 53 5 Mq Kq ConV vc mq.cons ∧ mq = m) := by
 have h1 := hm.d1
 have h2 := hm.d
 have h3 := hm.c
 have h4 := hm.cc
 refine specT_of Try.func83 rfl rfl rfl (fun B => ?_)
 refine kc_seq (kc_region (kl_box rfl rfl (fun p1 H2 f3 a4 => ?_)))
 refine kl_alloc (cs := [.slice none 0 0, .slice none 0 0]) rfl (fun b5 hb6 => ?_)
 refine kl_nil (kq_code (kc_seq (kc_region (kl_fd rfl (by assumption) (fun p7 a8 => ?_)))))
 refine kl_ld rfl (by assumption) (kl_callL rfl rfl (copyInts_ok m.doms (by omega) (by assumption)) (fun v9 H10 f11 o12 => ?_))
 refine kl_bd rfl (cp (OwnL.cells (by assumption)) cp_nil) rfl ?_
 refine kl_alloc (cs := [.slice none 0 0, .slice none 0 0]) rfl (fun b13 hb14 => ?_)
 refine kl_stW (us := [v9, .slice none 0 0]) rfl rfl rfl rfl (oc (OwnL.oneCell (by assumption)) (oc rfl oc_nil)) rfl ?_
 refine kl_chg [sing b13 (.cells [v9, .slice none 0 0].toArray 26 (0, 0)), H10, sing b5 (.cells [.slice none 0 0, .slice none 0 0].toArray 26 (0, 0))] rfl ?_
 refine kl_nil (kq_code (kc_seq (kc_seq (kc_region (kl_as rfl (kl_nil (kq_code (kc_block (kc_no ?_)))))))))
 refine kc_loopK (A := Nat × List Con × Value × Hp × Hp) (fun zz => (zz.1 ≤ m.cons.length) ∧ (zz.2.1 = m.cons.take zz.1) ∧ Fr B zz.2.2.2.2 ∧ OwnL 53 5 zz.2.2.2.1 zz.2.2.2.2 ConV zz.2.2.1 zz.2.1 ∧ Fr B zz.2.2.2.1) (fun zz => m.cons.length - zz.1) (fun zz => zz.2.2.2.2) (fun zz => [zz.2.2.2.1, sing b13 (.cells [v9, zz.2.2.1].toArray 26 (0, 0)), H10, sing b5 (.cells [.slice none 0 0, .slice none 0 0].toArray 26 (0, 0))]) (fun zz => [(4, .int .i64 (zz.1 : Int))]) (0, [], .slice none 0 0, noHp, noHp) (pc 1 rfl (pc 2 rfl (pc 3 rfl pn))) (pc 4 rfl pn) rfl ⟨Nat.zero_le _, rfl, (fr_no _), OwnL.nil, (fr_no _)⟩ ?_
 rintro ⟨k, out, v20, H17, K21⟩ hJ24
 obtain ⟨hk15, hi16, f22, o18, f19⟩ : (k ≤ m.cons.length) ∧ (out = m.cons.take k) ∧ Fr B K21 ∧ OwnL 53 5 H17 K21 ConV v20 out ∧ Fr B H17 := hJ24
 change KC _ _ (K21 :: _) [H17, sing b13 (.cells [v9, v20].toArray 26 (0, 0)), H10, sing b5 (.cells [.slice none 0 0, .slice none 0 0].toArray 26 (0, 0))] _ ([(4, .int .i64 (k : Int))] ++ _)
 refine kc_seq (kc_seq (kc_region (kl_mv rfl (kl_fd rfl (by assumption) (fun p25 a26 => ?_)))))
 refine kl_ld rfl (by assumption) (kl_len rfl (by assumption) (fun l27 => ?_))
 refine kl_lss rfl rfl ?_
 refine kl_nil (kq_code (kc_if rfl (fun c28 => ?_) (fun c28 => ?_)))
 ·skip
  refine kc_skipQ (kq_code (kc_seq (kc_block (kc_tree (fun i => ([9, 11] : List Nat).contains i) [sing b13 (.cells [v9, v20].toArray 26 (0, 0))] (by kernel_rfl) ?_))))
  refine kt_q 0 (.cons _ (.cons_cons _ (List.nil_sublist _))) rfl (by kernel_rfl) (kl_fdV rfl (kl_nil (kq_q (kt_q 1 (.cons _ (.cons_cons _ (List.nil_sublist _))) rfl (by kernel_rfl) (kl_ld rfl (at_box (T := 26) (cs := [v9, v20]) (off := 1) (fz := (0, 0))) (kl_nil (kq_q (kt_q 2 (.cons _ (.cons_cons _ (List.nil_sublist _))) rfl (by kernel_rfl) (kl_fd rfl (by assumption) (fun p29 a30 => ?_))))))))))
  refine kl_nil (kq_q (kt_q 3 (.cons _ (.cons_cons _ (List.nil_sublist _))) rfl (by kernel_rfl) (kl_ld rfl (by assumption) (kl_nil (kq_q (kt_q 4 (.cons _ (.cons_cons _ (List.nil_sublist _))) rfl (by kernel_rfl) (kl_mv rfl (kl_nil (kq_q (kt_q 5 (.cons _ (.cons_cons _ (List.nil_sublist _))) rfl (by kernel_rfl) (kl_inC rfl rfl (by assumption) (by omega) (fun p31 u33 u34 u35 h36 h37 h38 a32 => ?_))))))))))))
  refine kl_nil (kq_q (kt_q 6 (.cons _ (.cons_cons _ (List.nil_sublist _))) rfl (by kernel_rfl) (kl_ldS rfl (by assumption) rfl ?_)))
  refine kl_nil (kq_q (kt_a 7 rfl (by kernel_rfl) (kl_call rfl rfl (copyConE_ok (m.cons.getD k nilCon) (h4 _ (getD_mem (by omega))) (by assumption) (by assumption) (by assumption)) (fun v39 H40 f41 h42 => ?_))))
  obtain ⟨z43, h45, h44⟩ := h42
  have hce := h44
  obtain ⟨_, rfl, h49⟩ := h45
  have h49' := h49
  obtain ⟨u46, u47, u48, rfl, h50, h51, h52⟩ := h49
  refine kl_nil (kq_a (.cons _ (.cons_cons _ (List.nil_sublist _))) (kt_a 8 rfl (by kernel_rfl) (kl_bsK rfl (fun v53 H54 f55 r56 => ?_))))
  refine kl_nil (kq_a (.cons _ (.cons_cons _ (List.nil_sublist _))) (kt_a 9 rfl (by kernel_rfl) (kl_cmp K21 H40 (fun c57 => ?_))))
  have o58 := OwnL.mono (K' := orHp K21 H40) o18 orL
  refine kl_apL z43 rfl rfl o58 r56 (RMono.mono (orC c57) (by assumption)) (oc rfl (oc (Sl.oneCell (by assumption)) (oc (Sl.oneCell (by assumption)) (oc rfl (oc (Sl.oneCell (by assumption)) oc_nil))))) (by (have h9 := congrArg List.length hi16; simp at h9; omega)) (by decide) (fun v59 H60 o61 f62 => ?_)
  have f63 := f62 B f19 (Nat.le_refl _)
  refine kl_nil (kq_x rfl (kt_q 10 (.cons _ (.cons_cons _ (List.nil_sublist _))) rfl (by kernel_rfl) (kl_fdV rfl (kl_nil (kq_q (kt_a 11 rfl (by kernel_rfl) (kl_stB rfl rfl rfl (OwnL.oneCell (by assumption)) (OwnL.cells (by assumption)) ?_)))))))
  refine kl_chg [H60, sing b13 (.cells [v9, v59].toArray 26 (0, 0)), H10, sing b5 (.cells [.slice none 0 0, .slice none 0 0].toArray 26 (0, 0))] rfl ?_
  refine kl_nil (kq_x rfl (kt_end (by kernel_rfl) ?_))
  refine kq_code (kc_region (kl_mv rfl (kl_inc rfl rfl (by omega) ?_)))
  refine kl_as rfl (kl_nil (kq_take [H60, sing b13 (.cells [v9, v59].toArray 26 (0, 0)), H10, sing b5 (.cells [.slice none 0 0, .slice none 0 0].toArray 26 (0, 0))] ?_))
  refine kq_roundK ((k + 1), (out ++ [z43]), v59, H60, (orHp K21 H40)) (by omega) (⟨by omega, (by rw [hi16, hce, take_succ_getD nilCon (by omega)]), (fr_or f22 f41), o61, f63⟩) (pc 4 rfl pn) (pc 1 rfl (pc 2 rfl (pc 3 rfl pn))) rfl (List.Sublist.refl _)
 ·skip
  refine kc_exit (kq_code (kc_seq (kc_region (kl_ldW rfl rfl (kl_stW (us := [v9, v20]) rfl rfl rfl rfl (oc (OwnL.oneCell (by assumption)) (oc (OwnL.oneCell (by assumption)) oc_nil)) rfl ?_)))))
  refine kl_chg [H17, sing b13 (.cells [v9, v20].toArray 26 (0, 0)), H10, sing b5 (.cells [v9, v20].toArray 26 (0, 0))] rfl ?_
  refine kl_nil (kq_code (kc_ret ?_))
  exact kq_retTC rfl rfl rfl [] [H10, H17] K21 (frc f11 (fr1 f19)) f22 ⟨rfl, H10, H17, _, _, (⟨m.doms, out⟩ : Mod), rfl, rfl, o12, o18, by (have h9 := hi16; rw [List.take_of_length_le (by omega)] at h9; rw [h9])⟩
theorem fixAll_ok {Hmd : Hp} {vmd : Value} {Hmc : Hp} {vmc : Value} {Hx : Hp} {vx : Value} {Hfree : Hp} {vfree : Value} (m : Mod) (x : List Int) (free : List Int) (hm : ModSm 100 m) (hM : MOk m) (hX : Vals x) (hlX : x.length = m.doms.length) (hmd : Ints Hmd vmd m.doms) (hmc : Cons Hmc vmc m.cons) (hx : Ints Hx vx x) (hfree : Ints Hfree vfree free) : Spec Try.prog 51 [.agg #[vmd, vmc], vx, vfree] [Hmd, Hmc, Hx, Hfree] (fun Hq vq => ∃ mq : Mod, ModR Hq vq mq ∧ mq = ⟨nearT m.doms x free x.length, m.cons⟩) := by
 have hn := hM.n
 refine spec_of Try.func51 rfl rfl rfl (fun B => ?_)
 refine kc_seq (kc_region (kl_box rfl rfl (fun p1 H2 f3 a4 => ?_)))
 refine kl_alloc (cs := [.slice none 0 0, .slice none 0 0]) rfl (fun b5 hb6 => ?_)
 refine kl_nil (kq_code (kc_seq (kc_region (kl_ldS rfl (by assumption) rfl ?_))))
 refine kl_callT rfl rfl (copyModE_ok m hm (by assumption) (by assumption)) (fun v7 L1 Ln K11 h8 f9 f10 => ?_)
 obtain ⟨rfl, H12, M13, v14, v15, z16, rfl, rfl, o18, o19, h17⟩ := h8
 have f20 := f9 _ (.head _)
 have f21 := f9 _ (.tail _ (.head _))
 have hcm := h17
 refine kl_norm ?_
 refine kl_alloc (cs := [.slice none 0 0, .slice none 0 0]) rfl (fun b22 hb23 => ?_)
 refine kl_stW (us := [v14, v15]) rfl rfl rfl rfl (oc (OwnL.oneCell (by assumption)) (oc (OwnL.oneCell (by assumption)) oc_nil)) rfl ?_
 refine kl_chg [sing b22 (.cells [v14, v15].toArray 26 (0, 0)), H12, M13, sing b5 (.cells [.slice none 0 0, .slice none 0 0].toArray 26 (0, 0))] rfl ?_
 refine kl_nil (kq_code (kc_seq (kc_seq (kc_region (kl_as rfl (kl_nil (kq_code (kc_block (kc_loopL (A := Nat × List Int × Value × Hp) (fun zz => (zz.1 ≤ x.length) ∧ (zz.2.1 = nearT m.doms x free zz.1) ∧ OwnL 3 1 zz.2.2.2 noHp IntV zz.2.2.1 zz.2.1 ∧ Fr B zz.2.2.2) (fun zz => x.length - zz.1) (fun zz => [sing b22 (.cells [zz.2.2.1, v15].toArray 26 (0, 0)), zz.2.2.2, M13, sing b5 (.cells [.slice none 0 0, .slice none 0 0].toArray 26 (0, 0))]) (fun zz => [(8, .int .i64 (zz.1 : Int))]) (0, z16.doms, v14, H12) (pc 1 rfl (pc 2 rfl (pc 6 rfl (pc 7 rfl pn)))) (pc 8 rfl pn) rfl ⟨Nat.zero_le _, (by dsimp only; rw [hcm]; rfl), o18, f20⟩ ?_)))))))))
 rintro ⟨k, ds, v29, H26⟩ hJ30
 obtain ⟨hk24, hi25, o27, f28⟩ : (k ≤ x.length) ∧ (ds = nearT m.doms x free k) ∧ OwnL 3 1 H26 noHp IntV v29 ds ∧ Fr B H26 := hJ30
 change KC _ _ (_) [sing b22 (.cells [v29, v15].toArray 26 (0, 0)), H26, M13, sing b5 (.cells [.slice none 0 0, .slice none 0 0].toArray 26 (0, 0))] _ ([(8, .int .i64 (k : Int))] ++ _)
 have hdl : ds.length = m.doms.length := (by rw [hi25]; exact near_len _ _ _ _)
 refine kc_seq (kc_seq (kc_region (kl_mv rfl (kl_mv rfl (kl_len rfl (by assumption) (fun l31 => ?_))))))
 refine kl_lss rfl rfl ?_
 refine kl_nil (kq_code (kc_if rfl (fun c32 => ?_) (fun c32 => ?_)))
 ·skip
  have hxk := hX.at (k := k) (by omega)
  have hsl := shl_le hxk
  refine kc_skipQ (kq_code (kc_seq (kc_block (kc_seq (kc_region (kl_mv rfl (kl_mv rfl (kl_callP rfl rfl (containsInt_ok free (k : Int) (by assumption)) ?_))))))))
  refine kl_not rfl (kl_nil (kq_code (kc_cond rfl (fun c33 => ?_) (fun c33 => ?_))))
  ·skip
   have c33r := c33
   try simp only [smpC, decide_eq_true_eq, decide_eq_false_iff_not] at c33
   refine kc_tree (fun i => ([15] : List Nat).contains i) [sing b22 (.cells [v29, v15].toArray 26 (0, 0)), H26] (by kernel_rfl) ?_
   refine kt_q 0 (.cons_cons _ (.cons_cons _ (List.nil_sublist _))) rfl (by kernel_rfl) (kl_fdV rfl (kl_nil (kq_q (kt_q 1 (.cons_cons _ (.cons_cons _ (List.nil_sublist _))) rfl (by kernel_rfl) (kl_ld rfl (at_box (T := 26) (cs := [v29, v15]) (off := 0) (fz := (0, 0))) (kl_nil (kq_q (kt_q 2 (.cons_cons _ (.cons_cons _ (List.nil_sublist _))) rfl (by kernel_rfl) (kl_mv rfl (kl_nil (kq_q ?_)))))))))))
   refine kt_q 3 (.cons_cons _ (.cons_cons _ (List.nil_sublist _))) rfl (by kernel_rfl) (kl_fdV rfl (kl_nil (kq_q (kt_q 4 (.cons_cons _ (.cons_cons _ (List.nil_sublist _))) rfl (by kernel_rfl) (kl_ld rfl (at_box (T := 26) (cs := [v29, v15]) (off := 0) (fz := (0, 0))) (kl_nil (kq_q (kt_q 5 (.cons_cons _ (.cons_cons _ (List.nil_sublist _))) rfl (by kernel_rfl) (kl_mv rfl (kl_nil (kq_q ?_)))))))))))
   refine kt_q 6 (.cons_cons _ (.cons_cons _ (List.nil_sublist _))) rfl (by kernel_rfl) (kl_ixLn rfl rfl (by assumption) (by omega) (fun p34 q35 => ?_))
   refine kl_nil (kq_q (kt_q 7 (.cons_cons _ (.cons_cons _ (List.nil_sublist _))) rfl (by kernel_rfl) (kl_ldLIe rfl (by assumption) (by assumption) (by omega) ?_)))
   refine kl_nil (kq_q (kt_q 8 (.cons_cons _ (.cons_cons _ (List.nil_sublist _))) rfl (by kernel_rfl) (kl_mv rfl (kl_nil (kq_q (kt_q 9 (.cons_cons _ (.cons_cons _ (List.nil_sublist _))) rfl (by kernel_rfl) (kl_mv rfl (kl_nil (kq_q (kt_q 10 (.cons_cons _ (.cons_cons _ (List.nil_sublist _))) rfl (by kernel_rfl) (kl_inI rfl rfl (by assumption) (by omega) (fun p36 a37 => ?_))))))))))))
   refine kl_nil (kq_q (kt_q 11 (.cons_cons _ (.cons_cons _ (List.nil_sublist _))) rfl (by kernel_rfl) (kl_ld rfl (by assumption) (kl_nil (kq_q (kt_q 12 (.cons_cons _ (.cons_cons _ (List.nil_sublist _))) rfl (by kernel_rfl) (kl_shl rfl rfl (by omega) ?_)))))))
   refine kl_nil (kq_q (kt_q 13 (.cons_cons _ (.cons_cons _ (List.nil_sublist _))) rfl (by kernel_rfl) (kl_and rfl rfl ?_)))
   refine kl_nil (kq_q (kt_q 14 (.cons_cons _ (.cons_cons _ (List.nil_sublist _))) rfl (by kernel_rfl) (kl_ixLn rfl rfl (by assumption) (by omega) (fun p38 q39 => ?_))))
   refine kl_nil (kq_q (kt_a 15 rfl (by kernel_rfl) (kl_stL (iand (ds.getD k 0) (ishl (1 : Int) (x.getD k 0))) rfl rfl (by assumption) o27 (by omega) rfl rfl rfl (fun H40 o41 f42 => ?_))))
   have f43 := f42 _ f28
   refine kl_chg [sing b22 (.cells [v29, v15].toArray 26 (0, 0)), H40, M13, sing b5 (.cells [.slice none 0 0, .slice none 0 0].toArray 26 (0, 0))] rfl ?_
   refine kl_nil (kq_x rfl (kt_end (by kernel_rfl) ?_))
   refine kq_code (kc_region (kl_mv rfl (kl_inc rfl rfl (by omega) ?_)))
   refine kl_as rfl (kl_nil (kq_take [sing b22 (.cells [v29, v15].toArray 26 (0, 0)), H40, M13, sing b5 (.cells [.slice none 0 0, .slice none 0 0].toArray 26 (0, 0))] ?_))
   refine kq_roundL ((k + 1), (ds.set k (iand (ds.getD k 0) (ishl (1 : Int) (x.getD k 0)))), v29, H40) (by omega) (⟨by omega, (by first | exact near_T hi25 (by assumption) | exact near_F hi25 (by assumption)), o41, f43⟩) (pc 8 rfl pn) (pc 1 rfl (pc 2 rfl (pc 6 rfl (pc 7 rfl pn)))) rfl (List.Sublist.refl _)
  ·skip
   have c33r := c33
   try simp only [smpC, decide_eq_true_eq, decide_eq_false_iff_not] at c33
   refine kc_skipQ (kq_code (kc_region (kl_mv rfl (kl_inc rfl rfl (by omega) ?_))))
   refine kl_as rfl (kl_nil (kq_take [sing b22 (.cells [v29, v15].toArray 26 (0, 0)), H26, M13, sing b5 (.cells [.slice none 0 0, .slice none 0 0].toArray 26 (0, 0))] ?_))
   refine kq_roundL ((k + 1), ds, v29, H26) (by omega) (⟨by omega, (by first | exact near_T hi25 (by assumption) | exact near_F hi25 (by assumption)), o27, f28⟩) (pc 8 rfl pn) (pc 1 rfl (pc 2 rfl (pc 6 rfl (pc 7 rfl pn)))) rfl (List.Sublist.refl _)
 ·skip
  refine kc_exit (kq_code (kc_seq (kc_region (kl_ldW rfl rfl (kl_stW (us := [v29, v15]) rfl rfl rfl rfl (oc (OwnL.oneCell (by assumption)) (oc (OwnL.oneCell (by assumption)) oc_nil)) rfl ?_)))))
  refine kl_chg [sing b22 (.cells [v29, v15].toArray 26 (0, 0)), H26, M13, sing b5 (.cells [v29, v15].toArray 26 (0, 0))] rfl ?_
  refine kl_nil (kq_code (kc_ret (kq_frz H26 ?_)))
  refine kq_frz M13 ?_
  refine kq_cmp M13 K11 (fun c44 => ?_)
  refine kq_cmp H26 (orHp M13 K11) (fun c45 => ?_)
  exact kq_retC rfl rfl rfl (orHp H26 (orHp M13 K11)) (fr_or f28 (fr_or f21 f10)) ⟨(⟨ds, z16.cons⟩ : Mod), ⟨_, _, rfl, (Sl.mono (OwnL.ints o27) (fun b o h => orL b o h) (fun _ _ h => h)), (Cons.mono' (OwnL.consK o19 c44) (fun b o h => orC c45 b o h))⟩, by (have h9 := hi25; rw [show x.length = k from by omega, ← h9, hcm])⟩
end Go.Proofs.Ytiilanckbocifaa
