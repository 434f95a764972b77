/- Walks of functions of the program: each returns what the plain function gives. Conditions: those that each statement names. -/
import Derived.Test.YtiilanckbocifaaWspecv
import Derived.Test.YtiilanckbocifaaPure
import Derived.Test.YtiilanckbocifaaPureSm
import Derived.Test.YtiilanckbocifaaWcpc
namespace Go.Proofs.Ytiilanckbocifaa
open Go
set_option linter.unusedSimpArgs false
set_option linter.unusedVariables false
theorem inside_ok {Hcv : Hp} {vcv : Value} {Hca : Hp} {vca : Value} {Hcr : Hp} {vcr : Value} {Hvars : Hp} {vvars : Value} (c : Con) (vars : List Int) (hcv : Ints Hcv vcv c.vars) (hca : Ints Hca vca c.args) (hcr : Rows Hcr vcr c.rows) (hvars : Ints Hvars vvars vars) : SpecP Try.prog 63 [.agg #[.int .i64 c.kind, vcv, vca, .int .i64 c.bound, vcr], vvars] [Hcv, Hca, Hcr, Hvars] (.bool (insB vars c)) := by
 refine spec_of Try.func63 rfl rfl rfl (fun B => ?_)
 refine kc_seq (kc_region (kl_box rfl rfl (fun p1 H2 f3 a4 => ?_)))
 refine kl_as rfl (kl_nil (kq_code (kc_seq (kc_seq (kc_region (kl_as rfl (kl_nil (kq_code (kc_block (kc_loop0 (A := Nat) (fun zz => (zz ≤ c.vars.length) ∧ ((c.vars.take zz).all (fun v => vars.contains v) = true)) (fun zz => c.vars.length - zz) (fun zz => [(5, .int .i64 (zz : Int))]) (0) (pc 1 rfl (pc 2 rfl pn)) (pc 5 rfl pn) ⟨Nat.zero_le _, by simp⟩ ?_))))))))))
 rintro k hJ7
 obtain ⟨hk5, hi6⟩ : (k ≤ c.vars.length) ∧ ((c.vars.take k).all (fun v => vars.contains v) = true) := hJ7
 change KC _ _ (_) _ _ ([(5, .int .i64 (k : Int))] ++ _)
 refine kc_seq (kc_seq (kc_region (kl_mv rfl (kl_fd rfl (by assumption) (fun p8 a9 => ?_)))))
 refine kl_ld rfl (by assumption) (kl_len rfl (by assumption) (fun l10 => ?_))
 refine kl_lss rfl rfl ?_
 refine kl_nil (kq_code (kc_if rfl (fun c11 => ?_) (fun c11 => ?_)))
 ·skip
  refine kc_skipQ (kq_code (kc_seq (kc_block (kc_seq (kc_region (kl_mv rfl (kl_fd rfl (by assumption) (fun p12 a13 => ?_))))))))
  refine kl_ld rfl (by assumption) (kl_mv rfl (kl_inI rfl rfl (by assumption) (by omega) (fun p14 a15 => ?_)))
  refine kl_ld rfl (by assumption) (kl_callP rfl rfl (containsInt_ok vars (c.vars.getD k 0) (by assumption)) ?_)
  refine kl_not rfl (kl_nil (kq_code (kc_cond rfl (fun c16 => ?_) (fun c16 => ?_))))
  ·skip
   have c16r := c16
   try simp only [smpC, decide_eq_true_eq, decide_eq_false_iff_not] at c16
   refine kc_seq (kc_region (kl_as rfl (kl_nil (kq_code (kc_ret (kq_retP rfl rfl (congrArg Value.bool ?_)))))))
   exact ins_hit (k := k) (by omega) (by assumption)
  ·skip
   have c16r := c16
   try simp only [smpC, decide_eq_true_eq, decide_eq_false_iff_not] at c16
   refine kc_skipQ (kq_code (kc_region (kl_mv rfl (kl_inc rfl rfl (by omega) ?_))))
   refine kl_as rfl (kl_nil (kq_round0 ((k + 1)) (by omega) (⟨by omega, all_take_step (d := 0) (by omega) hi6 (by simpa using (by assumption : (!(vars.contains (c.vars.getD k 0))) = false))⟩) (pc 5 rfl pn) (pc 1 rfl (pc 2 rfl pn)) (List.Sublist.refl _)))
 ·skip
  refine kc_exit (kq_code (kc_seq (kc_region (kl_as rfl (kl_nil (kq_code (kc_ret (kq_retP rfl rfl (congrArg Value.bool ?_)))))))))
  exact ins_end (k := k) (by omega) (by assumption)
theorem placeOf_ok {Hxs : Hp} {vxs : Value} (xs : List Int) (n : Int) (hxs : Ints Hxs vxs xs) : SpecP Try.prog 65 [vxs, .int .i64 n] [Hxs] (.int .i64 (posI xs n)) := by
 refine spec_of Try.func65 rfl rfl rfl (fun B => ?_)
 refine kc_seq (kc_region (kl_as rfl (kl_nil (kq_code (kc_seq (kc_seq (kc_region (kl_as rfl (kl_nil (kq_code (kc_block (kc_loop0 (A := Nat) (fun zz => (zz ≤ xs.length) ∧ ((xs.take zz).any (fun y => decide (y = n)) = false)) (fun zz => xs.length - zz) (fun zz => [(5, .int .i64 (zz : Int))]) (0) (pc 0 rfl (pc 1 rfl pn)) (pc 5 rfl pn) ⟨Nat.zero_le _, by simp⟩ ?_))))))))))))
 rintro k hJ3
 obtain ⟨hk1, hi2⟩ : (k ≤ xs.length) ∧ ((xs.take k).any (fun y => decide (y = n)) = false) := hJ3
 change KC _ _ (_) _ _ ([(5, .int .i64 (k : Int))] ++ _)
 refine kc_seq (kc_seq (kc_region (kl_mv rfl (kl_mv rfl (kl_len rfl (by assumption) (fun l4 => ?_))))))
 refine kl_lss rfl rfl ?_
 refine kl_nil (kq_code (kc_if rfl (fun c5 => ?_) (fun c5 => ?_)))
 ·skip
  refine kc_skipQ (kq_code (kc_seq (kc_block (kc_seq (kc_region (kl_mv rfl (kl_mv rfl (kl_inI rfl rfl (by assumption) (by omega) (fun p6 a7 => ?_)))))))))
  refine kl_ld rfl (by assumption) (kl_mv rfl (kl_eql rfl rfl ?_))
  refine kl_nil (kq_code (kc_if rfl (fun c8 => ?_) (fun c8 => ?_)))
  ·skip
   refine kc_seq (kc_region (kl_mv rfl (kl_as rfl (kl_nil (kq_code (kc_ret (kq_retP rfl rfl (congrArg (Value.int .i64) ?_))))))))
   rw [← pos_place]; exact indexBy_hit (d := 0) (by omega) (by assumption) (by simpa using by assumption)
  ·skip
   refine kc_skipQ (kq_code (kc_region (kl_mv rfl (kl_inc rfl rfl (by omega) ?_))))
   refine kl_as rfl (kl_nil (kq_round0 ((k + 1)) (by omega) (⟨by omega, any_take_step (d := 0) (by omega) hi2 (by simpa using by assumption)⟩) (pc 5 rfl pn) (pc 0 rfl (pc 1 rfl pn)) (List.Sublist.refl _)))
 ·skip
  refine kc_exit (kq_code (kc_seq (kc_region (kl_as rfl (kl_nil (kq_code (kc_ret (kq_retP rfl rfl (congrArg (Value.int .i64) ?_)))))))))
  rw [← pos_place]; exact indexBy_none (by omega) (by assumption)
theorem copyConW_ok {Hcv : Hp} {vcv : Value} {Hca : Hp} {vca : Value} {Hcr : Hp} {vcr : Value} (c : Con) (hc : ConSm 100 c) (hcv : Ints Hcv vcv c.vars) (hca : Ints Hca vca c.args) (hcr : Rows Hcr vcr c.rows) : SpecT Try.prog 64 [.agg #[.int .i64 c.kind, vcv, vca, .int .i64 c.bound, vcr]] [] [Hcv, Hca, Hcr] (fun vq L1 Ln Kq => L1 = [] ∧ ∃ (Ha : Hp) (a b r : Value), Ln = [Ha] ∧ vq = .agg #[.int .i64 c.kind, a, b, .int .i64 c.bound, r] ∧ OwnL 3 1 Ha noHp IntV a c.vars ∧ Ints Kq b c.args ∧ Rows Kq r c.rows) := by
 have h1 := hc.v1
 have h2 := hc.v
 have h3 := hc.a
 have h4 := hc.r
 have h5 := hc.rr
 refine specT_of Try.func64 rfl rfl rfl (fun B => ?_)
 refine kc_seq (kc_region (kl_box rfl rfl (fun p1 H2 f3 a4 => ?_)))
 refine kl_alloc (cs := [.int .i64 (0 : Int), .slice none 0 0, .slice none 0 0, .int .i64 (0 : Int), .slice none 0 0]) rfl (fun b5 hb6 => ?_)
 refine kl_nil (kq_code (kc_seq (kc_tree (fun i => ([10, 12] : List Nat).contains i) [] (by kernel_rfl) ?_)))
 refine kt_q 0 (List.nil_sublist _) rfl (by kernel_rfl) (kl_fd rfl (by assumption) (fun p7 a8 => ?_))
 refine kl_nil (kq_q (kt_q 1 (List.nil_sublist _) rfl (by kernel_rfl) (kl_ld rfl (by assumption) (kl_nil (kq_q (kt_q 2 (List.nil_sublist _) rfl (by kernel_rfl) (kl_fd rfl (by assumption) (fun p9 a10 => ?_))))))))
 refine kl_nil (kq_q (kt_q 3 (List.nil_sublist _) rfl (by kernel_rfl) (kl_ld rfl (by assumption) (kl_nil (kq_q (kt_q 5 (List.nil_sublist _) rfl (by kernel_rfl) (kl_fd rfl (by assumption) (fun p11 a12 => ?_))))))))
 refine kl_nil (kq_q (kt_q 6 (List.nil_sublist _) rfl (by kernel_rfl) (kl_ld rfl (by assumption) (kl_nil (kq_q (kt_q 8 (List.nil_sublist _) rfl (by kernel_rfl) (kl_fd rfl (by assumption) (fun p13 a14 => ?_))))))))
 refine kl_nil (kq_q (kt_q 9 (List.nil_sublist _) rfl (by kernel_rfl) (kl_ld rfl (by assumption) (kl_nil (kq_q (kt_b 4 11 rfl rfl (by kernel_rfl) ?_ ?_))))))
 ·skip
  refine kl_callL rfl rfl (copyInts_ok c.vars (by first | omega | (have h6 := h5 _ (getD_mem (d := []) (by omega : k < c.rows.length)); omega)) (by assumption)) (fun v15 H16 f17 o18 => ?_)
  refine kl_nil (kq_a (List.nil_sublist _) (kt_b 7 11 rfl rfl (by kernel_rfl) ?_ ?_))
  ·skip
   refine kl_call rfl rfl (copyInts_ok c.args (by first | omega | (have h6 := h5 _ (getD_mem (d := []) (by omega : k < c.rows.length)); omega)) (by assumption)) (fun v19 H20 f21 o22 => ?_)
   have h23 := OwnL.ints o22
   refine kl_nil (kq_a (List.nil_sublist _) (kt_b 10 11 rfl rfl (by kernel_rfl) ?_ ?_))
   ·skip
    refine kl_bd rfl (cp rfl (cp (OwnL.cells (by assumption)) (cp (Sl.cells (by assumption)) (cp rfl cp_nil)))) rfl ?_
    refine kl_nil (kq_x rfl (kt_a 11 rfl (by kernel_rfl) (kl_alloc (cs := [.int .i64 (0 : Int), .slice none 0 0, .slice none 0 0, .int .i64 (0 : Int), .slice none 0 0]) rfl (fun b24 hb25 => ?_))))
    refine kl_nil (kq_a (List.nil_sublist _) (kt_a 12 rfl (by kernel_rfl) (kl_stW (us := [.int .i64 c.kind, v15, v19, .int .i64 c.bound, .slice none 0 0]) rfl rfl rfl rfl (oc rfl (oc (OwnL.oneCell (by assumption)) (oc (Sl.oneCell (by assumption)) (oc rfl (oc rfl oc_nil))))) rfl ?_)))
    refine kl_chg [sing b24 (.cells [.int .i64 c.kind, v15, v19, .int .i64 c.bound, .slice none 0 0].toArray 53 (0, 0)), H16, sing b5 (.cells [.int .i64 (0 : Int), .slice none 0 0, .slice none 0 0, .int .i64 (0 : Int), .slice none 0 0].toArray 53 (0, 0))] rfl ?_
    refine kl_nil (kq_x rfl (kt_end (by kernel_rfl) ?_))
    refine kq_code (kc_seq (kc_seq (kc_region (kl_as rfl (kl_nil (kq_code (kc_block (kc_no ?_))))))))
    refine kc_loopK (A := Nat × List (List Int) × Value × Hp × Hp) (fun zz => (zz.1 ≤ c.rows.length) ∧ (zz.2.1 = c.rows.take zz.1) ∧ Fr B zz.2.2.2.2 ∧ OwnL 23 1 zz.2.2.2.1 zz.2.2.2.2 RowV zz.2.2.1 zz.2.1 ∧ Fr B zz.2.2.2.1) (fun zz => c.rows.length - zz.1) (fun zz => zz.2.2.2.2) (fun zz => [zz.2.2.2.1, sing b24 (.cells [.int .i64 c.kind, v15, v19, .int .i64 c.bound, zz.2.2.1].toArray 53 (0, 0)), H16, sing b5 (.cells [.int .i64 (0 : Int), .slice none 0 0, .slice none 0 0, .int .i64 (0 : Int), .slice none 0 0].toArray 53 (0, 0))]) (fun zz => [(4, .int .i64 (zz.1 : Int))]) (0, [], .slice none 0 0, noHp, noHp) (pc 1 rfl (pc 2 rfl (pc 3 rfl pn))) (pc 4 rfl pn) rfl ⟨Nat.zero_le _, rfl, (fr_no _), OwnL.nil, (fr_no _)⟩ ?_
    rintro ⟨k, out, v31, H28, K32⟩ hJ35
    obtain ⟨hk26, hi27, f33, o29, f30⟩ : (k ≤ c.rows.length) ∧ (out = c.rows.take k) ∧ Fr B K32 ∧ OwnL 23 1 H28 K32 RowV v31 out ∧ Fr B H28 := hJ35
    change KC _ _ (K32 :: _) [H28, sing b24 (.cells [.int .i64 c.kind, v15, v19, .int .i64 c.bound, v31].toArray 53 (0, 0)), H16, sing b5 (.cells [.int .i64 (0 : Int), .slice none 0 0, .slice none 0 0, .int .i64 (0 : Int), .slice none 0 0].toArray 53 (0, 0))] _ ([(4, .int .i64 (k : Int))] ++ _)
    refine kc_seq (kc_seq (kc_region (kl_mv rfl (kl_fd rfl (by assumption) (fun p36 a37 => ?_)))))
    refine kl_ld rfl (by assumption) (kl_len rfl (by assumption) (fun l38 => ?_))
    refine kl_lss rfl rfl ?_
    refine kl_nil (kq_code (kc_if rfl (fun c39 => ?_) (fun c39 => ?_)))
    ·skip
     refine kc_skipQ (kq_code (kc_seq (kc_block (kc_tree (fun i => ([9, 11] : List Nat).contains i) [sing b24 (.cells [.int .i64 c.kind, v15, v19, .int .i64 c.bound, v31].toArray 53 (0, 0))] (by kernel_rfl) ?_))))
     refine kt_q 0 (.cons _ (.cons_cons _ (List.nil_sublist _))) rfl (by kernel_rfl) (kl_fdV rfl (kl_nil (kq_q (kt_q 1 (.cons _ (.cons_cons _ (List.nil_sublist _))) rfl (by kernel_rfl) (kl_ld rfl (at_box (T := 53) (cs := [.int .i64 c.kind, v15, v19, .int .i64 c.bound, v31]) (off := 4) (fz := (0, 0))) (kl_nil (kq_q (kt_q 2 (.cons _ (.cons_cons _ (List.nil_sublist _))) rfl (by kernel_rfl) (kl_fd rfl (by assumption) (fun p40 a41 => ?_))))))))))
     refine kl_nil (kq_q (kt_q 3 (.cons _ (.cons_cons _ (List.nil_sublist _))) rfl (by kernel_rfl) (kl_ld rfl (by assumption) (kl_nil (kq_q (kt_q 4 (.cons _ (.cons_cons _ (List.nil_sublist _))) rfl (by kernel_rfl) (kl_mv rfl (kl_nil (kq_q (kt_q 5 (.cons _ (.cons_cons _ (List.nil_sublist _))) rfl (by kernel_rfl) (kl_inS rfl rfl (by assumption) (by omega) (fun p42 u44 h45 a43 => ?_))))))))))))
     refine kl_nil (kq_q (kt_q 6 (.cons _ (.cons_cons _ (List.nil_sublist _))) rfl (by kernel_rfl) (kl_ld rfl (by assumption) (kl_nil (kq_q (kt_a 7 rfl (by kernel_rfl) (kl_call rfl rfl (copyInts_ok (c.rows.getD k []) (by first | omega | (have h6 := h5 _ (getD_mem (d := []) (by omega : k < c.rows.length)); omega)) (by assumption)) (fun v46 H47 f48 o49 => ?_))))))))
     have h50 := OwnL.ints o49
     refine kl_nil (kq_a (.cons _ (.cons_cons _ (List.nil_sublist _))) (kt_a 8 rfl (by kernel_rfl) (kl_bs rfl rfl rfl (by decide) (ca (by first | exact Sl.cells (by assumption) | exact OwnL.cells (by assumption)) ca_nil) (fun v51 H52 f53 r54 s55 => ?_))))
     refine kl_nil (kq_a (.cons _ (.cons_cons _ (List.nil_sublist _))) (kt_a 9 rfl (by kernel_rfl) (kl_cmp K32 H47 (fun c56 => ?_))))
     have o57 := OwnL.mono (K' := orHp K32 H47) o29 orL
     refine kl_apL (c.rows.getD k []) rfl rfl o57 (by assumption) ⟨_, rfl, Sl.mono (by assumption) (orC c56) (fun _ _ h => h)⟩ (oc (Sl.oneCell (by assumption)) oc_nil) (by (have h9 := congrArg List.length hi27; simp at h9; omega)) (by decide) (fun v58 H59 o60 f61 => ?_)
     have f62 := f61 B f30 (Nat.le_refl _)
     refine kl_nil (kq_x rfl (kt_q 10 (.cons _ (.cons_cons _ (List.nil_sublist _))) rfl (by kernel_rfl) (kl_fdV rfl (kl_nil (kq_q (kt_a 11 rfl (by kernel_rfl) (kl_stB rfl rfl rfl (OwnL.oneCell (by assumption)) (OwnL.cells (by assumption)) ?_)))))))
     refine kl_chg [H59, sing b24 (.cells [.int .i64 c.kind, v15, v19, .int .i64 c.bound, v58].toArray 53 (0, 0)), H16, sing b5 (.cells [.int .i64 (0 : Int), .slice none 0 0, .slice none 0 0, .int .i64 (0 : Int), .slice none 0 0].toArray 53 (0, 0))] rfl ?_
     refine kl_nil (kq_x rfl (kt_end (by kernel_rfl) ?_))
     refine kq_code (kc_region (kl_mv rfl (kl_inc rfl rfl (by omega) ?_)))
     refine kl_as rfl (kl_nil (kq_take [H59, sing b24 (.cells [.int .i64 c.kind, v15, v19, .int .i64 c.bound, v58].toArray 53 (0, 0)), H16, sing b5 (.cells [.int .i64 (0 : Int), .slice none 0 0, .slice none 0 0, .int .i64 (0 : Int), .slice none 0 0].toArray 53 (0, 0))] ?_))
     refine kq_roundK ((k + 1), (out ++ [(c.rows.getD k [])]), v58, H59, (orHp K32 H47)) (by omega) (⟨by omega, (by rw [hi27, take_succ_getD [] (by omega)]), (fr_or f33 f48), o60, f62⟩) (pc 4 rfl pn) (pc 1 rfl (pc 2 rfl (pc 3 rfl pn))) rfl (List.Sublist.refl _)
    ·skip
     refine kc_exit (kq_code (kc_seq (kc_region (kl_ldW rfl rfl (kl_stW (us := [.int .i64 c.kind, v15, v19, .int .i64 c.bound, v31]) rfl rfl rfl rfl (oc rfl (oc (OwnL.oneCell (by assumption)) (oc (Sl.oneCell (by assumption)) (oc rfl (oc (OwnL.oneCell (by assumption)) oc_nil))))) rfl ?_)))))
     refine kl_chg [H28, sing b24 (.cells [.int .i64 c.kind, v15, v19, .int .i64 c.bound, v31].toArray 53 (0, 0)), H16, sing b5 (.cells [.int .i64 c.kind, v15, v19, .int .i64 c.bound, v31].toArray 53 (0, 0))] rfl ?_
     refine kl_nil (kq_code (kc_ret (kq_frz H28 ?_)))
     refine kq_cmp H28 K32 (fun c63 => ?_)
     refine kq_cmp H20 (orHp H28 K32) (fun c64 => ?_)
     exact kq_retTC rfl rfl rfl [] [H16] (orHp H20 (orHp H28 K32)) (fr1 f17) (fr_or f21 (fr_or f30 f33)) ⟨rfl, H16, _, _, _, rfl, rfl, o18, (Sl.mono (by assumption) (fun b o h => orL b o h) (fun _ _ h => h)), (by have e9 : out = c.rows := (by rw [hi27, List.take_of_length_le (by omega)]); rw [← e9]; exact (Rows.mono' (OwnL.rowsK o29 c63) (fun b o h => orC c64 b o h)))⟩
   ·skip
    refine kl_alloc (cs := [.int .i64 (0 : Int), .slice none 0 0, .slice none 0 0, .int .i64 (0 : Int), .slice none 0 0]) rfl (fun b65 hb66 => ?_)
    refine kl_nil (kq_a (List.nil_sublist _) (kt_a 10 rfl (by kernel_rfl) (kl_bd rfl (cp rfl (cp (OwnL.cells (by assumption)) (cp (Sl.cells (by assumption)) (cp rfl cp_nil)))) rfl ?_)))
    refine kl_nil (kq_x rfl (kt_a 12 rfl (by kernel_rfl) (kl_stW (us := [.int .i64 c.kind, v15, v19, .int .i64 c.bound, .slice none 0 0]) rfl rfl rfl rfl (oc rfl (oc (OwnL.oneCell (by assumption)) (oc (Sl.oneCell (by assumption)) (oc rfl (oc rfl oc_nil))))) rfl ?_)))
    refine kl_chg [sing b65 (.cells [.int .i64 c.kind, v15, v19, .int .i64 c.bound, .slice none 0 0].toArray 53 (0, 0)), H16, sing b5 (.cells [.int .i64 (0 : Int), .slice none 0 0, .slice none 0 0, .int .i64 (0 : Int), .slice none 0 0].toArray 53 (0, 0))] rfl ?_
    refine kl_nil (kq_x rfl (kt_end (by kernel_rfl) ?_))
    refine kq_code (kc_seq (kc_seq (kc_region (kl_as rfl (kl_nil (kq_code (kc_block (kc_no ?_))))))))
    refine kc_loopK (A := Nat × List (List Int) × Value × Hp × Hp) (fun zz => (zz.1 ≤ c.rows.length) ∧ (zz.2.1 = c.rows.take zz.1) ∧ Fr B zz.2.2.2.2 ∧ OwnL 23 1 zz.2.2.2.1 zz.2.2.2.2 RowV zz.2.2.1 zz.2.1 ∧ Fr B zz.2.2.2.1) (fun zz => c.rows.length - zz.1) (fun zz => zz.2.2.2.2) (fun zz => [zz.2.2.2.1, sing b65 (.cells [.int .i64 c.kind, v15, v19, .int .i64 c.bound, zz.2.2.1].toArray 53 (0, 0)), H16, sing b5 (.cells [.int .i64 (0 : Int), .slice none 0 0, .slice none 0 0, .int .i64 (0 : Int), .slice none 0 0].toArray 53 (0, 0))]) (fun zz => [(4, .int .i64 (zz.1 : Int))]) (0, [], .slice none 0 0, noHp, noHp) (pc 1 rfl (pc 2 rfl (pc 3 rfl pn))) (pc 4 rfl pn) rfl ⟨Nat.zero_le _, rfl, (fr_no _), OwnL.nil, (fr_no _)⟩ ?_
    rintro ⟨k, out, v72, H69, K73⟩ hJ76
    obtain ⟨hk67, hi68, f74, o70, f71⟩ : (k ≤ c.rows.length) ∧ (out = c.rows.take k) ∧ Fr B K73 ∧ OwnL 23 1 H69 K73 RowV v72 out ∧ Fr B H69 := hJ76
    change KC _ _ (K73 :: _) [H69, sing b65 (.cells [.int .i64 c.kind, v15, v19, .int .i64 c.bound, v72].toArray 53 (0, 0)), H16, sing b5 (.cells [.int .i64 (0 : Int), .slice none 0 0, .slice none 0 0, .int .i64 (0 : Int), .slice none 0 0].toArray 53 (0, 0))] _ ([(4, .int .i64 (k : Int))] ++ _)
    refine kc_seq (kc_seq (kc_region (kl_mv rfl (kl_fd rfl (by assumption) (fun p77 a78 => ?_)))))
    refine kl_ld rfl (by assumption) (kl_len rfl (by assumption) (fun l79 => ?_))
    refine kl_lss rfl rfl ?_
    refine kl_nil (kq_code (kc_if rfl (fun c80 => ?_) (fun c80 => ?_)))
    ·skip
     refine kc_skipQ (kq_code (kc_seq (kc_block (kc_tree (fun i => ([9, 11] : List Nat).contains i) [sing b65 (.cells [.int .i64 c.kind, v15, v19, .int .i64 c.bound, v72].toArray 53 (0, 0))] (by kernel_rfl) ?_))))
     refine kt_q 0 (.cons _ (.cons_cons _ (List.nil_sublist _))) rfl (by kernel_rfl) (kl_fdV rfl (kl_nil (kq_q (kt_q 1 (.cons _ (.cons_cons _ (List.nil_sublist _))) rfl (by kernel_rfl) (kl_ld rfl (at_box (T := 53) (cs := [.int .i64 c.kind, v15, v19, .int .i64 c.bound, v72]) (off := 4) (fz := (0, 0))) (kl_nil (kq_q (kt_q 2 (.cons _ (.cons_cons _ (List.nil_sublist _))) rfl (by kernel_rfl) (kl_fd rfl (by assumption) (fun p81 a82 => ?_))))))))))
     refine kl_nil (kq_q (kt_q 3 (.cons _ (.cons_cons _ (List.nil_sublist _))) rfl (by kernel_rfl) (kl_ld rfl (by assumption) (kl_nil (kq_q (kt_q 4 (.cons _ (.cons_cons _ (List.nil_sublist _))) rfl (by kernel_rfl) (kl_mv rfl (kl_nil (kq_q (kt_q 5 (.cons _ (.cons_cons _ (List.nil_sublist _))) rfl (by kernel_rfl) (kl_inS rfl rfl (by assumption) (by omega) (fun p83 u85 h86 a84 => ?_))))))))))))
     refine kl_nil (kq_q (kt_q 6 (.cons _ (.cons_cons _ (List.nil_sublist _))) rfl (by kernel_rfl) (kl_ld rfl (by assumption) (kl_nil (kq_q (kt_a 7 rfl (by kernel_rfl) (kl_call rfl rfl (copyInts_ok (c.rows.getD k []) (by first | omega | (have h6 := h5 _ (getD_mem (d := []) (by omega : k < c.rows.length)); omega)) (by assumption)) (fun v87 H88 f89 o90 => ?_))))))))
     have h91 := OwnL.ints o90
     refine kl_nil (kq_a (.cons _ (.cons_cons _ (List.nil_sublist _))) (kt_a 8 rfl (by kernel_rfl) (kl_bs rfl rfl rfl (by decide) (ca (by first | exact Sl.cells (by assumption) | exact OwnL.cells (by assumption)) ca_nil) (fun v92 H93 f94 r95 s96 => ?_))))
     refine kl_nil (kq_a (.cons _ (.cons_cons _ (List.nil_sublist _))) (kt_a 9 rfl (by kernel_rfl) (kl_cmp K73 H88 (fun c97 => ?_))))
     have o98 := OwnL.mono (K' := orHp K73 H88) o70 orL
     refine kl_apL (c.rows.getD k []) rfl rfl o98 (by assumption) ⟨_, rfl, Sl.mono (by assumption) (orC c97) (fun _ _ h => h)⟩ (oc (Sl.oneCell (by assumption)) oc_nil) (by (have h9 := congrArg List.length hi68; simp at h9; omega)) (by decide) (fun v99 H100 o101 f102 => ?_)
     have f103 := f102 B f71 (Nat.le_refl _)
     refine kl_nil (kq_x rfl (kt_q 10 (.cons _ (.cons_cons _ (List.nil_sublist _))) rfl (by kernel_rfl) (kl_fdV rfl (kl_nil (kq_q (kt_a 11 rfl (by kernel_rfl) (kl_stB rfl rfl rfl (OwnL.oneCell (by assumption)) (OwnL.cells (by assumption)) ?_)))))))
     refine kl_chg [H100, sing b65 (.cells [.int .i64 c.kind, v15, v19, .int .i64 c.bound, v99].toArray 53 (0, 0)), H16, sing b5 (.cells [.int .i64 (0 : Int), .slice none 0 0, .slice none 0 0, .int .i64 (0 : Int), .slice none 0 0].toArray 53 (0, 0))] rfl ?_
     refine kl_nil (kq_x rfl (kt_end (by kernel_rfl) ?_))
     refine kq_code (kc_region (kl_mv rfl (kl_inc rfl rfl (by omega) ?_)))
     refine kl_as rfl (kl_nil (kq_take [H100, sing b65 (.cells [.int .i64 c.kind, v15, v19, .int .i64 c.bound, v99].toArray 53 (0, 0)), H16, sing b5 (.cells [.int .i64 (0 : Int), .slice none 0 0, .slice none 0 0, .int .i64 (0 : Int), .slice none 0 0].toArray 53 (0, 0))] ?_))
     refine kq_roundK ((k + 1), (out ++ [(c.rows.getD k [])]), v99, H100, (orHp K73 H88)) (by omega) (⟨by omega, (by rw [hi68, take_succ_getD [] (by omega)]), (fr_or f74 f89), o101, f103⟩) (pc 4 rfl pn) (pc 1 rfl (pc 2 rfl (pc 3 rfl pn))) rfl (List.Sublist.refl _)
    ·skip
     refine kc_exit (kq_code (kc_seq (kc_region (kl_ldW rfl rfl (kl_stW (us := [.int .i64 c.kind, v15, v19, .int .i64 c.bound, v72]) rfl rfl rfl rfl (oc rfl (oc (OwnL.oneCell (by assumption)) (oc (Sl.oneCell (by assumption)) (oc rfl (oc (OwnL.oneCell (by assumption)) oc_nil))))) rfl ?_)))))
     refine kl_chg [H69, sing b65 (.cells [.int .i64 c.kind, v15, v19, .int .i64 c.bound, v72].toArray 53 (0, 0)), H16, sing b5 (.cells [.int .i64 c.kind, v15, v19, .int .i64 c.bound, v72].toArray 53 (0, 0))] rfl ?_
     refine kl_nil (kq_code (kc_ret (kq_frz H69 ?_)))
     refine kq_cmp H69 K73 (fun c104 => ?_)
     refine kq_cmp H20 (orHp H69 K73) (fun c105 => ?_)
     exact kq_retTC rfl rfl rfl [] [H16] (orHp H20 (orHp H69 K73)) (fr1 f17) (fr_or f21 (fr_or f71 f74)) ⟨rfl, H16, _, _, _, rfl, rfl, o18, (Sl.mono (by assumption) (fun b o h => orL b o h) (fun _ _ h => h)), (by have e9 : out = c.rows := (by rw [hi68, List.take_of_length_le (by omega)]); rw [← e9]; exact (Rows.mono' (OwnL.rowsK o70 c104) (fun b o h => orC c105 b o h)))⟩
  ·skip
   refine kl_alloc (cs := [.int .i64 (0 : Int), .slice none 0 0, .slice none 0 0, .int .i64 (0 : Int), .slice none 0 0]) rfl (fun b106 hb107 => ?_)
   refine kl_nil (kq_a (List.nil_sublist _) (kt_a 7 rfl (by kernel_rfl) (kl_call rfl rfl (copyInts_ok c.args (by first | omega | (have h6 := h5 _ (getD_mem (d := []) (by omega : k < c.rows.length)); omega)) (by assumption)) (fun v108 H109 f110 o111 => ?_))))
   have h112 := OwnL.ints o111
   refine kl_nil (kq_a (List.nil_sublist _) (kt_a 10 rfl (by kernel_rfl) (kl_bd rfl (cp rfl (cp (OwnL.cells (by assumption)) (cp (Sl.cells (by assumption)) (cp rfl cp_nil)))) rfl ?_)))
   refine kl_nil (kq_x rfl (kt_a 12 rfl (by kernel_rfl) (kl_stW (us := [.int .i64 c.kind, v15, v108, .int .i64 c.bound, .slice none 0 0]) rfl rfl rfl rfl (oc rfl (oc (OwnL.oneCell (by assumption)) (oc (Sl.oneCell (by assumption)) (oc rfl (oc rfl oc_nil))))) rfl ?_)))
   refine kl_chg [sing b106 (.cells [.int .i64 c.kind, v15, v108, .int .i64 c.bound, .slice none 0 0].toArray 53 (0, 0)), H16, sing b5 (.cells [.int .i64 (0 : Int), .slice none 0 0, .slice none 0 0, .int .i64 (0 : Int), .slice none 0 0].toArray 53 (0, 0))] rfl ?_
   refine kl_nil (kq_x rfl (kt_end (by kernel_rfl) ?_))
   refine kq_code (kc_seq (kc_seq (kc_region (kl_as rfl (kl_nil (kq_code (kc_block (kc_no ?_))))))))
   refine kc_loopK (A := Nat × List (List Int) × Value × Hp × Hp) (fun zz => (zz.1 ≤ c.rows.length) ∧ (zz.2.1 = c.rows.take zz.1) ∧ Fr B zz.2.2.2.2 ∧ OwnL 23 1 zz.2.2.2.1 zz.2.2.2.2 RowV zz.2.2.1 zz.2.1 ∧ Fr B zz.2.2.2.1) (fun zz => c.rows.length - zz.1) (fun zz => zz.2.2.2.2) (fun zz => [zz.2.2.2.1, sing b106 (.cells [.int .i64 c.kind, v15, v108, .int .i64 c.bound, zz.2.2.1].toArray 53 (0, 0)), H16, sing b5 (.cells [.int .i64 (0 : Int), .slice none 0 0, .slice none 0 0, .int .i64 (0 : Int), .slice none 0 0].toArray 53 (0, 0))]) (fun zz => [(4, .int .i64 (zz.1 : Int))]) (0, [], .slice none 0 0, noHp, noHp) (pc 1 rfl (pc 2 rfl (pc 3 rfl pn))) (pc 4 rfl pn) rfl ⟨Nat.zero_le _, rfl, (fr_no _), OwnL.nil, (fr_no _)⟩ ?_
   rintro ⟨k, out, v118, H115, K119⟩ hJ122
   obtain ⟨hk113, hi114, f120, o116, f117⟩ : (k ≤ c.rows.length) ∧ (out = c.rows.take k) ∧ Fr B K119 ∧ OwnL 23 1 H115 K119 RowV v118 out ∧ Fr B H115 := hJ122
   change KC _ _ (K119 :: _) [H115, sing b106 (.cells [.int .i64 c.kind, v15, v108, .int .i64 c.bound, v118].toArray 53 (0, 0)), H16, sing b5 (.cells [.int .i64 (0 : Int), .slice none 0 0, .slice none 0 0, .int .i64 (0 : Int), .slice none 0 0].toArray 53 (0, 0))] _ ([(4, .int .i64 (k : Int))] ++ _)
   refine kc_seq (kc_seq (kc_region (kl_mv rfl (kl_fd rfl (by assumption) (fun p123 a124 => ?_)))))
   refine kl_ld rfl (by assumption) (kl_len rfl (by assumption) (fun l125 => ?_))
   refine kl_lss rfl rfl ?_
   refine kl_nil (kq_code (kc_if rfl (fun c126 => ?_) (fun c126 => ?_)))
   ·skip
    refine kc_skipQ (kq_code (kc_seq (kc_block (kc_tree (fun i => ([9, 11] : List Nat).contains i) [sing b106 (.cells [.int .i64 c.kind, v15, v108, .int .i64 c.bound, v118].toArray 53 (0, 0))] (by kernel_rfl) ?_))))
    refine kt_q 0 (.cons _ (.cons_cons _ (List.nil_sublist _))) rfl (by kernel_rfl) (kl_fdV rfl (kl_nil (kq_q (kt_q 1 (.cons _ (.cons_cons _ (List.nil_sublist _))) rfl (by kernel_rfl) (kl_ld rfl (at_box (T := 53) (cs := [.int .i64 c.kind, v15, v108, .int .i64 c.bound, v118]) (off := 4) (fz := (0, 0))) (kl_nil (kq_q (kt_q 2 (.cons _ (.cons_cons _ (List.nil_sublist _))) rfl (by kernel_rfl) (kl_fd rfl (by assumption) (fun p127 a128 => ?_))))))))))
    refine kl_nil (kq_q (kt_q 3 (.cons _ (.cons_cons _ (List.nil_sublist _))) rfl (by kernel_rfl) (kl_ld rfl (by assumption) (kl_nil (kq_q (kt_q 4 (.cons _ (.cons_cons _ (List.nil_sublist _))) rfl (by kernel_rfl) (kl_mv rfl (kl_nil (kq_q (kt_q 5 (.cons _ (.cons_cons _ (List.nil_sublist _))) rfl (by kernel_rfl) (kl_inS rfl rfl (by assumption) (by omega) (fun p129 u131 h132 a130 => ?_))))))))))))
    refine kl_nil (kq_q (kt_q 6 (.cons _ (.cons_cons _ (List.nil_sublist _))) rfl (by kernel_rfl) (kl_ld rfl (by assumption) (kl_nil (kq_q (kt_a 7 rfl (by kernel_rfl) (kl_call rfl rfl (copyInts_ok (c.rows.getD k []) (by first | omega | (have h6 := h5 _ (getD_mem (d := []) (by omega : k < c.rows.length)); omega)) (by assumption)) (fun v133 H134 f135 o136 => ?_))))))))
    have h137 := OwnL.ints o136
    refine kl_nil (kq_a (.cons _ (.cons_cons _ (List.nil_sublist _))) (kt_a 8 rfl (by kernel_rfl) (kl_bs rfl rfl rfl (by decide) (ca (by first | exact Sl.cells (by assumption) | exact OwnL.cells (by assumption)) ca_nil) (fun v138 H139 f140 r141 s142 => ?_))))
    refine kl_nil (kq_a (.cons _ (.cons_cons _ (List.nil_sublist _))) (kt_a 9 rfl (by kernel_rfl) (kl_cmp K119 H134 (fun c143 => ?_))))
    have o144 := OwnL.mono (K' := orHp K119 H134) o116 orL
    refine kl_apL (c.rows.getD k []) rfl rfl o144 (by assumption) ⟨_, rfl, Sl.mono (by assumption) (orC c143) (fun _ _ h => h)⟩ (oc (Sl.oneCell (by assumption)) oc_nil) (by (have h9 := congrArg List.length hi114; simp at h9; omega)) (by decide) (fun v145 H146 o147 f148 => ?_)
    have f149 := f148 B f117 (Nat.le_refl _)
    refine kl_nil (kq_x rfl (kt_q 10 (.cons _ (.cons_cons _ (List.nil_sublist _))) rfl (by kernel_rfl) (kl_fdV rfl (kl_nil (kq_q (kt_a 11 rfl (by kernel_rfl) (kl_stB rfl rfl rfl (OwnL.oneCell (by assumption)) (OwnL.cells (by assumption)) ?_)))))))
    refine kl_chg [H146, sing b106 (.cells [.int .i64 c.kind, v15, v108, .int .i64 c.bound, v145].toArray 53 (0, 0)), H16, sing b5 (.cells [.int .i64 (0 : Int), .slice none 0 0, .slice none 0 0, .int .i64 (0 : Int), .slice none 0 0].toArray 53 (0, 0))] rfl ?_
    refine kl_nil (kq_x rfl (kt_end (by kernel_rfl) ?_))
    refine kq_code (kc_region (kl_mv rfl (kl_inc rfl rfl (by omega) ?_)))
    refine kl_as rfl (kl_nil (kq_take [H146, sing b106 (.cells [.int .i64 c.kind, v15, v108, .int .i64 c.bound, v145].toArray 53 (0, 0)), H16, sing b5 (.cells [.int .i64 (0 : Int), .slice none 0 0, .slice none 0 0, .int .i64 (0 : Int), .slice none 0 0].toArray 53 (0, 0))] ?_))
    refine kq_roundK ((k + 1), (out ++ [(c.rows.getD k [])]), v145, H146, (orHp K119 H134)) (by omega) (⟨by omega, (by rw [hi114, take_succ_getD [] (by omega)]), (fr_or f120 f135), o147, f149⟩) (pc 4 rfl pn) (pc 1 rfl (pc 2 rfl (pc 3 rfl pn))) rfl (List.Sublist.refl _)
   ·skip
    refine kc_exit (kq_code (kc_seq (kc_region (kl_ldW rfl rfl (kl_stW (us := [.int .i64 c.kind, v15, v108, .int .i64 c.bound, v118]) rfl rfl rfl rfl (oc rfl (oc (OwnL.oneCell (by assumption)) (oc (Sl.oneCell (by assumption)) (oc rfl (oc (OwnL.oneCell (by assumption)) oc_nil))))) rfl ?_)))))
    refine kl_chg [H115, sing b106 (.cells [.int .i64 c.kind, v15, v108, .int .i64 c.bound, v118].toArray 53 (0, 0)), H16, sing b5 (.cells [.int .i64 c.kind, v15, v108, .int .i64 c.bound, v118].toArray 53 (0, 0))] rfl ?_
    refine kl_nil (kq_code (kc_ret (kq_frz H115 ?_)))
    refine kq_cmp H115 K119 (fun c150 => ?_)
    refine kq_cmp H109 (orHp H115 K119) (fun c151 => ?_)
    exact kq_retTC rfl rfl rfl [] [H16] (orHp H109 (orHp H115 K119)) (fr1 f17) (fr_or f110 (fr_or f117 f120)) ⟨rfl, H16, _, _, _, rfl, rfl, o18, (Sl.mono (by assumption) (fun b o h => orL b o h) (fun _ _ h => h)), (by have e9 : out = c.rows := (by rw [hi114, List.take_of_length_le (by omega)]); rw [← e9]; exact (Rows.mono' (OwnL.rowsK o116 c150) (fun b o h => orC c151 b o h)))⟩
 ·skip
  refine kl_alloc (cs := [.int .i64 (0 : Int), .slice none 0 0, .slice none 0 0, .int .i64 (0 : Int), .slice none 0 0]) rfl (fun b152 hb153 => ?_)
  refine kl_nil (kq_a (List.nil_sublist _) (kt_a 4 rfl (by kernel_rfl) (kl_callL rfl rfl (copyInts_ok c.vars (by first | omega | (have h6 := h5 _ (getD_mem (d := []) (by omega : k < c.rows.length)); omega)) (by assumption)) (fun v154 H155 f156 o157 => ?_))))
  refine kl_nil (kq_a (List.nil_sublist _) (kt_a 7 rfl (by kernel_rfl) (kl_call rfl rfl (copyInts_ok c.args (by first | omega | (have h6 := h5 _ (getD_mem (d := []) (by omega : k < c.rows.length)); omega)) (by assumption)) (fun v158 H159 f160 o161 => ?_))))
  have h162 := OwnL.ints o161
  refine kl_nil (kq_a (List.nil_sublist _) (kt_a 10 rfl (by kernel_rfl) (kl_bd rfl (cp rfl (cp (OwnL.cells (by assumption)) (cp (Sl.cells (by assumption)) (cp rfl cp_nil)))) rfl ?_)))
  refine kl_nil (kq_x rfl (kt_a 12 rfl (by kernel_rfl) (kl_stW (us := [.int .i64 c.kind, v154, v158, .int .i64 c.bound, .slice none 0 0]) rfl rfl rfl rfl (oc rfl (oc (OwnL.oneCell (by assumption)) (oc (Sl.oneCell (by assumption)) (oc rfl (oc rfl oc_nil))))) rfl ?_)))
  refine kl_chg [H155, sing b152 (.cells [.int .i64 c.kind, v154, v158, .int .i64 c.bound, .slice none 0 0].toArray 53 (0, 0)), sing b5 (.cells [.int .i64 (0 : Int), .slice none 0 0, .slice none 0 0, .int .i64 (0 : Int), .slice none 0 0].toArray 53 (0, 0))] rfl ?_
  refine kl_nil (kq_x rfl (kt_end (by kernel_rfl) ?_))
  refine kq_code (kc_seq (kc_seq (kc_region (kl_as rfl (kl_nil (kq_code (kc_block (kc_no ?_))))))))
  refine kc_loopK (A := Nat × List (List Int) × Value × Hp × Hp) (fun zz => (zz.1 ≤ c.rows.length) ∧ (zz.2.1 = c.rows.take zz.1) ∧ Fr B zz.2.2.2.2 ∧ OwnL 23 1 zz.2.2.2.1 zz.2.2.2.2 RowV zz.2.2.1 zz.2.1 ∧ Fr B zz.2.2.2.1) (fun zz => c.rows.length - zz.1) (fun zz => zz.2.2.2.2) (fun zz => [zz.2.2.2.1, H155, sing b152 (.cells [.int .i64 c.kind, v154, v158, .int .i64 c.bound, zz.2.2.1].toArray 53 (0, 0)), sing b5 (.cells [.int .i64 (0 : Int), .slice none 0 0, .slice none 0 0, .int .i64 (0 : Int), .slice none 0 0].toArray 53 (0, 0))]) (fun zz => [(4, .int .i64 (zz.1 : Int))]) (0, [], .slice none 0 0, noHp, noHp) (pc 1 rfl (pc 2 rfl (pc 3 rfl pn))) (pc 4 rfl pn) rfl ⟨Nat.zero_le _, rfl, (fr_no _), OwnL.nil, (fr_no _)⟩ ?_
  rintro ⟨k, out, v168, H165, K169⟩ hJ172
  obtain ⟨hk163, hi164, f170, o166, f167⟩ : (k ≤ c.rows.length) ∧ (out = c.rows.take k) ∧ Fr B K169 ∧ OwnL 23 1 H165 K169 RowV v168 out ∧ Fr B H165 := hJ172
  change KC _ _ (K169 :: _) [H165, H155, sing b152 (.cells [.int .i64 c.kind, v154, v158, .int .i64 c.bound, v168].toArray 53 (0, 0)), sing b5 (.cells [.int .i64 (0 : Int), .slice none 0 0, .slice none 0 0, .int .i64 (0 : Int), .slice none 0 0].toArray 53 (0, 0))] _ ([(4, .int .i64 (k : Int))] ++ _)
  refine kc_seq (kc_seq (kc_region (kl_mv rfl (kl_fd rfl (by assumption) (fun p173 a174 => ?_)))))
  refine kl_ld rfl (by assumption) (kl_len rfl (by assumption) (fun l175 => ?_))
  refine kl_lss rfl rfl ?_
  refine kl_nil (kq_code (kc_if rfl (fun c176 => ?_) (fun c176 => ?_)))
  ·skip
   refine kc_skipQ (kq_code (kc_seq (kc_block (kc_tree (fun i => ([9, 11] : List Nat).contains i) [sing b152 (.cells [.int .i64 c.kind, v154, v158, .int .i64 c.bound, v168].toArray 53 (0, 0))] (by kernel_rfl) ?_))))
   refine kt_q 0 (.cons _ (.cons _ (.cons_cons _ (List.nil_sublist _)))) rfl (by kernel_rfl) (kl_fdV rfl (kl_nil (kq_q (kt_q 1 (.cons _ (.cons _ (.cons_cons _ (List.nil_sublist _)))) rfl (by kernel_rfl) (kl_ld rfl (at_box (T := 53) (cs := [.int .i64 c.kind, v154, v158, .int .i64 c.bound, v168]) (off := 4) (fz := (0, 0))) (kl_nil (kq_q (kt_q 2 (.cons _ (.cons _ (.cons_cons _ (List.nil_sublist _)))) rfl (by kernel_rfl) ?_))))))))
   refine kl_fd rfl (by assumption) (fun p177 a178 => ?_)
   refine kl_nil (kq_q (kt_q 3 (.cons _ (.cons _ (.cons_cons _ (List.nil_sublist _)))) rfl (by kernel_rfl) (kl_ld rfl (by assumption) (kl_nil (kq_q (kt_q 4 (.cons _ (.cons _ (.cons_cons _ (List.nil_sublist _)))) rfl (by kernel_rfl) (kl_mv rfl (kl_nil (kq_q (kt_q 5 (.cons _ (.cons _ (.cons_cons _ (List.nil_sublist _)))) rfl (by kernel_rfl) (kl_inS rfl rfl (by assumption) (by omega) (fun p179 u181 h182 a180 => ?_))))))))))))
   refine kl_nil (kq_q (kt_q 6 (.cons _ (.cons _ (.cons_cons _ (List.nil_sublist _)))) rfl (by kernel_rfl) (kl_ld rfl (by assumption) (kl_nil (kq_q (kt_a 7 rfl (by kernel_rfl) (kl_call rfl rfl (copyInts_ok (c.rows.getD k []) (by first | omega | (have h6 := h5 _ (getD_mem (d := []) (by omega : k < c.rows.length)); omega)) (by assumption)) (fun v183 H184 f185 o186 => ?_))))))))
   have h187 := OwnL.ints o186
   refine kl_nil (kq_a (.cons _ (.cons _ (.cons_cons _ (List.nil_sublist _)))) (kt_a 8 rfl (by kernel_rfl) (kl_bs rfl rfl rfl (by decide) (ca (by first | exact Sl.cells (by assumption) | exact OwnL.cells (by assumption)) ca_nil) (fun v188 H189 f190 r191 s192 => ?_))))
   refine kl_nil (kq_a (.cons _ (.cons _ (.cons_cons _ (List.nil_sublist _)))) (kt_a 9 rfl (by kernel_rfl) (kl_cmp K169 H184 (fun c193 => ?_))))
   have o194 := OwnL.mono (K' := orHp K169 H184) o166 orL
   refine kl_apL (c.rows.getD k []) rfl rfl o194 (by assumption) ⟨_, rfl, Sl.mono (by assumption) (orC c193) (fun _ _ h => h)⟩ (oc (Sl.oneCell (by assumption)) oc_nil) (by (have h9 := congrArg List.length hi164; simp at h9; omega)) (by decide) (fun v195 H196 o197 f198 => ?_)
   have f199 := f198 B f167 (Nat.le_refl _)
   refine kl_nil (kq_x rfl (kt_q 10 (.cons _ (.cons _ (.cons_cons _ (List.nil_sublist _)))) rfl (by kernel_rfl) (kl_fdV rfl (kl_nil (kq_q (kt_a 11 rfl (by kernel_rfl) (kl_stB rfl rfl rfl (OwnL.oneCell (by assumption)) (OwnL.cells (by assumption)) ?_)))))))
   refine kl_chg [H196, H155, sing b152 (.cells [.int .i64 c.kind, v154, v158, .int .i64 c.bound, v195].toArray 53 (0, 0)), sing b5 (.cells [.int .i64 (0 : Int), .slice none 0 0, .slice none 0 0, .int .i64 (0 : Int), .slice none 0 0].toArray 53 (0, 0))] rfl ?_
   refine kl_nil (kq_x rfl (kt_end (by kernel_rfl) ?_))
   refine kq_code (kc_region (kl_mv rfl (kl_inc rfl rfl (by omega) ?_)))
   refine kl_as rfl (kl_nil (kq_take [H196, H155, sing b152 (.cells [.int .i64 c.kind, v154, v158, .int .i64 c.bound, v195].toArray 53 (0, 0)), sing b5 (.cells [.int .i64 (0 : Int), .slice none 0 0, .slice none 0 0, .int .i64 (0 : Int), .slice none 0 0].toArray 53 (0, 0))] ?_))
   refine kq_roundK ((k + 1), (out ++ [(c.rows.getD k [])]), v195, H196, (orHp K169 H184)) (by omega) (⟨by omega, (by rw [hi164, take_succ_getD [] (by omega)]), (fr_or f170 f185), o197, f199⟩) (pc 4 rfl pn) (pc 1 rfl (pc 2 rfl (pc 3 rfl pn))) rfl (List.Sublist.refl _)
  ·skip
   refine kc_exit (kq_code (kc_seq (kc_region (kl_ldW rfl rfl (kl_stW (us := [.int .i64 c.kind, v154, v158, .int .i64 c.bound, v168]) rfl rfl rfl rfl (oc rfl (oc (OwnL.oneCell (by assumption)) (oc (Sl.oneCell (by assumption)) (oc rfl (oc (OwnL.oneCell (by assumption)) oc_nil))))) rfl ?_)))))
   refine kl_chg [H165, H155, sing b152 (.cells [.int .i64 c.kind, v154, v158, .int .i64 c.bound, v168].toArray 53 (0, 0)), sing b5 (.cells [.int .i64 c.kind, v154, v158, .int .i64 c.bound, v168].toArray 53 (0, 0))] rfl ?_
   refine kl_nil (kq_code (kc_ret (kq_frz H165 ?_)))
   refine kq_cmp H165 K169 (fun c200 => ?_)
   refine kq_cmp H159 (orHp H165 K169) (fun c201 => ?_)
   exact kq_retTC rfl rfl rfl [] [H155] (orHp H159 (orHp H165 K169)) (fr1 f156) (fr_or f160 (fr_or f167 f170)) ⟨rfl, H155, _, _, _, rfl, rfl, o157, (Sl.mono (by assumption) (fun b o h => orL b o h) (fun _ _ h => h)), (by have e9 : out = c.rows := (by rw [hi164, List.take_of_length_le (by omega)]); rw [← e9]; exact (Rows.mono' (OwnL.rowsK o166 c200) (fun b o h => orC c201 b o h)))⟩
theorem subMS_ok {Hmd : Hp} {vmd : Value} {Hmc : Hp} {vmc : Value} {Hvars : Hp} {vvars : Value} (m : Mod) (vars : List Int) (hS : SubOk m vars) (hmd : Ints Hmd vmd m.doms) (hmc : Cons Hmc vmc m.cons) (hvars : Ints Hvars vvars vars) : Spec Try.prog 34 [.agg #[vmd, vmc], vvars] [Hmd, Hmc, Hvars] (fun Hq vq => ∃ mq : Mod, ModR Hq vq mq ∧ mq = subM m vars) := by
 have hvl := sub_few hS
 have hsm := ok_small hS.hM
 have hfew := hS.hM.few
 refine spec_of Try.func34 rfl rfl rfl (fun B => ?_)
 refine kc_seq (kc_region (kl_box rfl rfl (fun p1 H2 f3 a4 => ?_)))
 refine kl_alloc (cs := [.slice none 0 0, .slice none 0 0]) rfl (fun b5 hb6 => ?_)
 refine kl_nil (kq_code (kc_seq (kc_region (kl_bd rfl cp_nil rfl ?_))))
 refine kl_alloc (cs := [.slice none 0 0, .slice none 0 0]) rfl (fun b7 hb8 => ?_)
 refine kl_stW (us := [.slice none 0 0, .slice none 0 0]) rfl rfl rfl rfl (oc rfl (oc rfl oc_nil)) rfl ?_
 refine kl_chg [sing b7 (.cells [.slice none 0 0, .slice none 0 0].toArray 26 (0, 0)), sing b5 (.cells [.slice none 0 0, .slice none 0 0].toArray 26 (0, 0))] rfl ?_
 refine kl_nil (kq_code (kc_seq (kc_seq (kc_region (kl_as rfl (kl_nil (kq_code (kc_block (kc_no ?_)))))))))
 refine kc_loopL (A := Nat × List Int × Value × Hp) (fun zz => (zz.1 ≤ vars.length) ∧ (zz.2.1 = wordTo vars m.doms zz.1) ∧ OwnL 3 1 zz.2.2.2 noHp IntV zz.2.2.1 zz.2.1 ∧ Fr B zz.2.2.2) (fun zz => vars.length - zz.1) (fun zz => [zz.2.2.2, sing b7 (.cells [zz.2.2.1, .slice none 0 0].toArray 26 (0, 0)), sing b5 (.cells [.slice none 0 0, .slice none 0 0].toArray 26 (0, 0))]) (fun zz => [(6, .int .i64 (zz.1 : Int))]) (0, [], .slice none 0 0, noHp) (pc 1 rfl (pc 2 rfl (pc 4 rfl (pc 5 rfl pn)))) (pc 6 rfl pn) rfl ⟨Nat.zero_le _, rfl, OwnL.nil, (fr_no _)⟩ ?_
 rintro ⟨k, ds, v14, H11⟩ hJ16
 obtain ⟨hk9, hi10, o12, f13⟩ : (k ≤ vars.length) ∧ (ds = wordTo vars m.doms k) ∧ OwnL 3 1 H11 noHp IntV v14 ds ∧ Fr B H11 := hJ16
 change KC _ _ (_) [H11, sing b7 (.cells [v14, .slice none 0 0].toArray 26 (0, 0)), sing b5 (.cells [.slice none 0 0, .slice none 0 0].toArray 26 (0, 0))] _ ([(6, .int .i64 (k : Int))] ++ _)
 have hdl := word_len hi10
 refine kc_seq (kc_seq (kc_region (kl_mv rfl (kl_mv rfl (kl_len rfl (by assumption) (fun l17 => ?_))))))
 refine kl_lss rfl rfl ?_
 refine kl_nil (kq_code (kc_if rfl (fun c18 => ?_) (fun c18 => ?_)))
 ·skip
  have hvk := hS.inn _ (getD_mem (d := (0 : Int)) (by omega : k < vars.length))
  refine kc_skipQ (kq_code (kc_seq (kc_block (kc_tree (fun i => ([11, 13] : List Nat).contains i) [sing b7 (.cells [v14, .slice none 0 0].toArray 26 (0, 0))] (by kernel_rfl) ?_))))
  refine kt_q 0 (.cons _ (.cons_cons _ (List.nil_sublist _))) rfl (by kernel_rfl) (kl_fdV rfl (kl_nil (kq_q (kt_q 1 (.cons _ (.cons_cons _ (List.nil_sublist _))) rfl (by kernel_rfl) (kl_ld rfl (at_box (T := 26) (cs := [v14, .slice none 0 0]) (off := 0) (fz := (0, 0))) (kl_nil (kq_q (kt_q 2 (.cons _ (.cons_cons _ (List.nil_sublist _))) rfl (by kernel_rfl) (kl_fd rfl (by assumption) (fun p19 a20 => ?_))))))))))
  refine kl_nil (kq_q (kt_q 3 (.cons _ (.cons_cons _ (List.nil_sublist _))) rfl (by kernel_rfl) (kl_ld rfl (by assumption) (kl_nil (kq_q (kt_q 4 (.cons _ (.cons_cons _ (List.nil_sublist _))) rfl (by kernel_rfl) (kl_mv rfl (kl_nil (kq_q (kt_q 5 (.cons _ (.cons_cons _ (List.nil_sublist _))) rfl (by kernel_rfl) (kl_mv rfl ?_)))))))))))
  refine kl_nil (kq_q (kt_q 6 (.cons _ (.cons_cons _ (List.nil_sublist _))) rfl (by kernel_rfl) (kl_inI rfl rfl (by assumption) (by first | omega | (simp; omega)) (fun p21 a22 => ?_))))
  refine kl_nil (kq_q (kt_q 7 (.cons _ (.cons_cons _ (List.nil_sublist _))) rfl (by kernel_rfl) (kl_ld rfl (by assumption) (kl_nil (kq_q (kt_q 8 (.cons _ (.cons_cons _ (List.nil_sublist _))) rfl (by kernel_rfl) (kl_ixI rfl rfl (by assumption) (by first | omega | (simp; omega)) (by first | omega | (simp; omega)) (fun p23 a24 => ?_))))))))
  refine kl_nil (kq_q (kt_q 9 (.cons _ (.cons_cons _ (List.nil_sublist _))) rfl (by kernel_rfl) (kl_ld rfl (by assumption) (kl_nil (kq_q (kt_a 10 rfl (by kernel_rfl) (kl_bs rfl rfl rfl (by decide) (ca rfl ca_nil) (fun v25 H26 f27 r28 s29 => ?_))))))))
  have h30 : Ints H26 v25 [(m.doms.getD (vars.getD k 0).toNat 0)] := litInts (xs := [(m.doms.getD (vars.getD k 0).toNat 0)]) (by simpa using s29)
  refine kl_nil (kq_a (.cons _ (.cons_cons _ (List.nil_sublist _))) (kt_a 11 rfl (by kernel_rfl) (kl_apL (m.doms.getD (vars.getD k 0).toNat 0) rfl rfl o12 (by assumption) rfl (oc rfl oc_nil) (by omega) (by decide) (fun v31 H32 o33 f34 => ?_))))
  have f35 := f34 B f13 (Nat.le_refl _)
  refine kl_nil (kq_x rfl (kt_q 12 (.cons _ (.cons_cons _ (List.nil_sublist _))) rfl (by kernel_rfl) (kl_fdV rfl (kl_nil (kq_q (kt_a 13 rfl (by kernel_rfl) (kl_stB rfl rfl rfl (OwnL.oneCell (by assumption)) (OwnL.cells (by assumption)) ?_)))))))
  refine kl_chg [H32, sing b7 (.cells [v31, .slice none 0 0].toArray 26 (0, 0)), sing b5 (.cells [.slice none 0 0, .slice none 0 0].toArray 26 (0, 0))] rfl ?_
  refine kl_nil (kq_x rfl (kt_end (by kernel_rfl) ?_))
  refine kq_code (kc_region (kl_mv rfl (kl_inc rfl rfl (by omega) ?_)))
  refine kl_as rfl (kl_nil (kq_take [H32, sing b7 (.cells [v31, .slice none 0 0].toArray 26 (0, 0)), sing b5 (.cells [.slice none 0 0, .slice none 0 0].toArray 26 (0, 0))] ?_))
  refine kq_roundL ((k + 1), (ds ++ [(m.doms.getD (vars.getD k 0).toNat 0)]), v31, H32) (by omega) (⟨by omega, (word_step hi10 (by omega)), o33, f35⟩) (pc 6 rfl pn) (pc 1 rfl (pc 2 rfl (pc 4 rfl (pc 5 rfl pn)))) rfl (List.Sublist.refl _)
 ·skip
  refine kc_exit (kq_code (kc_seq (kc_seq (kc_region (kl_as rfl (kl_nil (kq_code (kc_block (kc_no ?_)))))))))
  refine kc_loopK (A := Nat × List Con × Value × Hp × Hp) (fun zz => (zz.1 ≤ m.cons.length) ∧ (zz.2.1 = subTo m vars zz.1) ∧ Fr B zz.2.2.2.2 ∧ OwnL 53 5 zz.2.2.2.1 zz.2.2.2.2 ConV zz.2.2.1 zz.2.1 ∧ Fr B zz.2.2.2.1) (fun zz => m.cons.length - zz.1) (fun zz => zz.2.2.2.2) (fun zz => [zz.2.2.2.1, H11, sing b7 (.cells [v14, zz.2.2.1].toArray 26 (0, 0)), sing b5 (.cells [.slice none 0 0, .slice none 0 0].toArray 26 (0, 0))]) (fun zz => [(7, .int .i64 (zz.1 : Int))]) (0, [], .slice none 0 0, noHp, noHp) (pc 1 rfl (pc 2 rfl (pc 4 rfl (pc 5 rfl pn)))) (pc 7 rfl pn) rfl ⟨Nat.zero_le _, rfl, (fr_no _), OwnL.nil, (fr_no _)⟩ ?_
  rintro ⟨j, cs, v41, H38, K42⟩ hJ45
  obtain ⟨hk36, hi37, f43, o39, f40⟩ : (j ≤ m.cons.length) ∧ (cs = subTo m vars j) ∧ Fr B K42 ∧ OwnL 53 5 H38 K42 ConV v41 cs ∧ Fr B H38 := hJ45
  change KC _ _ (K42 :: _) [H38, H11, sing b7 (.cells [v14, v41].toArray 26 (0, 0)), sing b5 (.cells [.slice none 0 0, .slice none 0 0].toArray 26 (0, 0))] _ ([(7, .int .i64 (j : Int))] ++ _)
  have hcl : cs.length ≤ 6 := (by rw [hi37]; exact subTo_len hS.hM)
  refine kc_seq (kc_seq (kc_region (kl_mv rfl (kl_fd rfl (by assumption) (fun p46 a47 => ?_)))))
  refine kl_ld rfl (by assumption) (kl_len rfl (by assumption) (fun l48 => ?_))
  refine kl_lss rfl rfl ?_
  refine kl_nil (kq_code (kc_if rfl (fun c49 => ?_) (fun c49 => ?_)))
  ·skip
   refine kc_skipQ (kq_code (kc_seq (kc_block (kc_seq (kc_region (kl_fd rfl (by assumption) (fun p50 a51 => ?_)))))))
   refine kl_ld rfl (by assumption) (kl_mv rfl (kl_inC rfl rfl (by assumption) (by first | omega | (simp; omega)) (fun p52 u54 u55 u56 h57 h58 h59 a53 => ?_)))
   refine kl_ldS rfl (by assumption) rfl ?_
   refine kl_mv rfl (kl_callP rfl rfl (inside_ok (m.cons.getD j nilCon) vars (by assumption) (by assumption) (by assumption) (by assumption)) ?_)
   refine kl_nil (kq_code (kc_cond rfl (fun c60 => ?_) (fun c60 => ?_)))
   ·skip
    have c60r := c60
    try simp only [smpC, decide_eq_true_eq, decide_eq_false_iff_not] at c60
    refine kc_seq (kc_region (kl_fd rfl (by assumption) (fun p61 a62 => ?_)))
    refine kl_ld rfl (by assumption) (kl_mv rfl (kl_inC rfl rfl (by assumption) (by first | omega | (simp; omega)) (fun p63 u65 u66 u67 h68 h69 h70 a64 => ?_)))
    refine kl_ldS rfl (by assumption) rfl ?_
    refine kl_callT rfl rfl (copyConW_ok (m.cons.getD j nilCon) (hsm.cc _ (getD_mem (by omega))) (by assumption) (by assumption) (by assumption)) (fun v71 L1 Ln K72 h73 f74 f75 => ?_)
    obtain ⟨rfl, H76, u79, u80, u81, rfl, rfl, o77, h82, h83⟩ := h73
    have f78 := f74 _ (.head _)
    refine kl_norm ?_
    refine kl_alloc (cs := [.int .i64 (0 : Int), .slice none 0 0, .slice none 0 0, .int .i64 (0 : Int), .slice none 0 0]) rfl (fun b84 hb85 => ?_)
    refine kl_stW (us := [.int .i64 ((m.cons.getD j nilCon).kind), u79, u80, .int .i64 ((m.cons.getD j nilCon).bound), u81]) rfl rfl rfl rfl (oc rfl (oc (OwnL.oneCell (by assumption)) (oc (Sl.oneCell (by assumption)) (oc rfl (oc (Sl.oneCell (by assumption)) oc_nil))))) rfl ?_
    refine kl_chg [sing b84 (.cells [.int .i64 ((m.cons.getD j nilCon).kind), u79, u80, .int .i64 ((m.cons.getD j nilCon).bound), u81].toArray 53 (0, 0)), H76, H38, H11, sing b7 (.cells [v14, v41].toArray 26 (0, 0)), sing b5 (.cells [.slice none 0 0, .slice none 0 0].toArray 26 (0, 0))] rfl ?_
    refine kl_nil (kq_code (kc_seq (kc_seq (kc_region (kl_as rfl (kl_nil (kq_code (kc_block (kc_loopL (A := Nat × List Int × Hp) (fun zz => (zz.1 ≤ (m.cons.getD j nilCon).vars.length) ∧ (zz.2.1 = posTo vars (m.cons.getD j nilCon).vars zz.1) ∧ OwnL 3 1 zz.2.2 noHp IntV u79 zz.2.1 ∧ Fr B zz.2.2) (fun zz => (m.cons.getD j nilCon).vars.length - zz.1) (fun zz => [sing b84 (.cells [.int .i64 ((m.cons.getD j nilCon).kind), u79, u80, .int .i64 ((m.cons.getD j nilCon).bound), u81].toArray 53 (0, 0)), zz.2.2, H38, H11, sing b7 (.cells [v14, v41].toArray 26 (0, 0)), sing b5 (.cells [.slice none 0 0, .slice none 0 0].toArray 26 (0, 0))]) (fun zz => [(9, .int .i64 (zz.1 : Int))]) (0, ((m.cons.getD j nilCon).vars), H76) (pc 1 rfl (pc 2 rfl (pc 4 rfl (pc 5 rfl (pc 7 rfl (pc 8 rfl (pc 30 rfl (pc 31 rfl (pc 32 rfl (pc 33 rfl (pc 34 rfl (pc 37 rfl (pc 38 rfl (pc 39 rfl (pc 40 rfl (pc 41 rfl (pc 42 rfl (pc 43 rfl (pc 44 rfl (pc 45 rfl (pc 46 rfl (pc 47 rfl (pc 48 rfl (pc 49 rfl pn)))))))))))))))))))))))) (pc 9 rfl pn) rfl ⟨Nat.zero_le _, posTo_0, o77, f78⟩ ?_)))))))))
    rintro ⟨i, ws, H88⟩ hJ91
    obtain ⟨hk86, hi87, o89, f90⟩ : (i ≤ (m.cons.getD j nilCon).vars.length) ∧ (ws = posTo vars (m.cons.getD j nilCon).vars i) ∧ OwnL 3 1 H88 noHp IntV u79 ws ∧ Fr B H88 := hJ91
    change KC _ _ (_) [sing b84 (.cells [.int .i64 ((m.cons.getD j nilCon).kind), u79, u80, .int .i64 ((m.cons.getD j nilCon).bound), u81].toArray 53 (0, 0)), H88, H38, H11, sing b7 (.cells [v14, v41].toArray 26 (0, 0)), sing b5 (.cells [.slice none 0 0, .slice none 0 0].toArray 26 (0, 0))] _ ([(9, .int .i64 (i : Int))] ++ _)
    have hwl : ws.length = (m.cons.getD j nilCon).vars.length := (by rw [hi87]; exact posTo_len _ _ _)
    refine kc_seq (kc_seq (kc_region (kl_mv rfl (kl_fdV rfl (kl_ldB rfl rfl (kl_lenL rfl o89 (fun l92 => ?_)))))))
    refine kl_lss rfl rfl ?_
    refine kl_nil (kq_code (kc_if rfl (fun c93 => ?_) (fun c93 => ?_)))
    ·skip
     refine kc_skipQ (kq_code (kc_seq (kc_block (kc_tree (fun i => ([11] : List Nat).contains i) [sing b84 (.cells [.int .i64 ((m.cons.getD j nilCon).kind), u79, u80, .int .i64 ((m.cons.getD j nilCon).bound), u81].toArray 53 (0, 0)), H88] (by kernel_rfl) ?_))))
     refine kt_q 0 (.cons_cons _ (.cons_cons _ (List.nil_sublist _))) rfl (by kernel_rfl) (kl_fdV rfl (kl_nil (kq_q (kt_q 1 (.cons_cons _ (.cons_cons _ (List.nil_sublist _))) rfl (by kernel_rfl) (kl_ld rfl (at_box (T := 53) (cs := [.int .i64 ((m.cons.getD j nilCon).kind), u79, u80, .int .i64 ((m.cons.getD j nilCon).bound), u81]) (off := 1) (fz := (0, 0))) (kl_nil (kq_q (kt_q 2 (.cons_cons _ (.cons_cons _ (List.nil_sublist _))) rfl (by kernel_rfl) ?_))))))))
     refine kl_mv rfl (kl_nil (kq_q (kt_q 3 (.cons_cons _ (.cons_cons _ (List.nil_sublist _))) rfl (by kernel_rfl) (kl_mv rfl (kl_nil (kq_q (kt_q 4 (.cons_cons _ (.cons_cons _ (List.nil_sublist _))) rfl (by kernel_rfl) (kl_fdV rfl (kl_nil (kq_q (kt_q 5 (.cons_cons _ (.cons_cons _ (List.nil_sublist _))) rfl (by kernel_rfl) ?_)))))))))))
     refine kl_ld rfl (at_box (T := 53) (cs := [.int .i64 ((m.cons.getD j nilCon).kind), u79, u80, .int .i64 ((m.cons.getD j nilCon).bound), u81]) (off := 1) (fz := (0, 0))) (kl_nil (kq_q (kt_q 6 (.cons_cons _ (.cons_cons _ (List.nil_sublist _))) rfl (by kernel_rfl) (kl_mv rfl (kl_nil (kq_q (kt_q 7 (.cons_cons _ (.cons_cons _ (List.nil_sublist _))) rfl (by kernel_rfl) (kl_ixLn rfl rfl (by assumption) (by first | omega | (simp; omega)) (fun p94 q95 => ?_)))))))))
     refine kl_nil (kq_q (kt_q 8 (.cons_cons _ (.cons_cons _ (List.nil_sublist _))) rfl (by kernel_rfl) (kl_ldLIe rfl (by assumption) (by assumption) (by first | omega | (simp; omega)) ?_)))
     refine kl_nil (kq_q (kt_a 9 rfl (by kernel_rfl) (kl_callP rfl rfl (placeOf_ok vars (ws.getD i 0) (by assumption)) ?_)))
     refine kl_nil (kq_a (.cons_cons _ (.cons_cons _ (List.nil_sublist _))) (kt_q 10 (.cons_cons _ (.cons_cons _ (List.nil_sublist _))) rfl (by kernel_rfl) (kl_ixLn rfl rfl (by assumption) (by first | omega | (simp; omega)) (fun p96 q97 => ?_))))
     refine kl_nil (kq_q (kt_a 11 rfl (by kernel_rfl) (kl_stL (posI vars (ws.getD i 0)) rfl rfl (by assumption) o89 (by first | omega | (simp; omega)) rfl rfl rfl (fun H98 o99 f100 => ?_))))
     have f101 := f100 _ f90
     refine kl_chg [sing b84 (.cells [.int .i64 ((m.cons.getD j nilCon).kind), u79, u80, .int .i64 ((m.cons.getD j nilCon).bound), u81].toArray 53 (0, 0)), H98, H38, H11, sing b7 (.cells [v14, v41].toArray 26 (0, 0)), sing b5 (.cells [.slice none 0 0, .slice none 0 0].toArray 26 (0, 0))] rfl ?_
     refine kl_nil (kq_x rfl (kt_end (by kernel_rfl) ?_))
     refine kq_code (kc_region (kl_mv rfl (kl_inc rfl rfl (by omega) ?_)))
     refine kl_as rfl (kl_nil (kq_take [sing b84 (.cells [.int .i64 ((m.cons.getD j nilCon).kind), u79, u80, .int .i64 ((m.cons.getD j nilCon).bound), u81].toArray 53 (0, 0)), H98, H38, H11, sing b7 (.cells [v14, v41].toArray 26 (0, 0)), sing b5 (.cells [.slice none 0 0, .slice none 0 0].toArray 26 (0, 0))] ?_))
     refine kq_roundL ((i + 1), (ws.set i (posI vars (ws.getD i 0))), H98) (by omega) (⟨by omega, (posTo_step hi87 (by omega)), o99, f101⟩) (pc 9 rfl pn) (pc 1 rfl (pc 2 rfl (pc 4 rfl (pc 5 rfl (pc 7 rfl (pc 8 rfl (pc 30 rfl (pc 31 rfl (pc 32 rfl (pc 33 rfl (pc 34 rfl (pc 37 rfl (pc 38 rfl (pc 39 rfl (pc 40 rfl (pc 41 rfl (pc 42 rfl (pc 43 rfl (pc 44 rfl (pc 45 rfl (pc 46 rfl (pc 47 rfl (pc 48 rfl (pc 49 rfl pn)))))))))))))))))))))))) rfl (List.Sublist.refl _)
    ·skip
     refine kc_exit (kq_code (kc_region (kl_fdV rfl (kl_ldB rfl rfl (kl_ldW rfl rfl (kl_bsK rfl (fun v102 H103 f104 r105 => ?_)))))))
     refine kl_frz H88 ?_
     have h106 := OwnL.ints o89
     refine kl_cmp K42 H88 (fun c107 => ?_)
     have o108 := OwnL.mono (K' := orHp K42 H88) o39 orL
     refine kl_cmp (orHp K42 H88) K72 (fun c109 => ?_)
     have o110 := OwnL.mono (K' := orHp (orHp K42 H88) K72) o108 orL
     refine kl_cmp (orHp (orHp K42 H88) K72) K72 (fun c111 => ?_)
     have o112 := OwnL.mono (K' := orHp (orHp (orHp K42 H88) K72) K72) o110 orL
     refine kl_apL ⟨(m.cons.getD j nilCon).kind, ws, ((m.cons.getD j nilCon).args), (m.cons.getD j nilCon).bound, ((m.cons.getD j nilCon).rows)⟩ rfl rfl o112 r105 ⟨_, _, _, rfl, (Sl.mono (by assumption) (fun b o h => orL b o (orL b o (orC c107 b o h))) (fun _ _ h => h)), (Sl.mono (by assumption) (fun b o h => orL b o (orC c109 b o h)) (fun _ _ h => h)), (Rows.mono' (by assumption) (fun b o h => orC c111 b o h))⟩ (oc rfl (oc (Sl.oneCell (by assumption)) (oc (Sl.oneCell (by assumption)) (oc rfl (oc (Sl.oneCell (by assumption)) oc_nil))))) (by omega) (by decide) (fun v113 H114 o115 f116 => ?_)
     have f117 := f116 B f40 (Nat.le_refl _)
     refine kl_fdV rfl (kl_stB rfl rfl rfl (OwnL.oneCell (by assumption)) (OwnL.cells (by assumption)) ?_)
     refine kl_chg [sing b84 (.cells [.int .i64 ((m.cons.getD j nilCon).kind), u79, u80, .int .i64 ((m.cons.getD j nilCon).bound), u81].toArray 53 (0, 0)), H114, H11, sing b7 (.cells [v14, v113].toArray 26 (0, 0)), sing b5 (.cells [.slice none 0 0, .slice none 0 0].toArray 26 (0, 0))] rfl ?_
     refine kl_nil (kq_code (kc_region (kl_mv rfl (kl_inc rfl rfl (by omega) ?_))))
     refine kl_as rfl (kl_nil (kq_take [H114, H11, sing b7 (.cells [v14, v113].toArray 26 (0, 0)), sing b5 (.cells [.slice none 0 0, .slice none 0 0].toArray 26 (0, 0))] ?_))
     refine kq_roundK ((j + 1), (cs ++ [⟨(m.cons.getD j nilCon).kind, ws, ((m.cons.getD j nilCon).args), (m.cons.getD j nilCon).bound, ((m.cons.getD j nilCon).rows)⟩]), v113, H114, (orHp (orHp (orHp K42 H88) K72) K72)) (by omega) (⟨by omega, (by first | exact subTo_T (by omega) hi37 (by first | assumption | exact ins_any (by assumption)) (posTo_end hi87 (by omega)) | exact subTo_F (by omega) hi37 (by first | assumption | exact ins_any' (by assumption))), (fr_or (fr_or (fr_or f43 f90) f75) f75), o115, f117⟩) (pc 7 rfl pn) (pc 1 rfl (pc 2 rfl (pc 4 rfl (pc 5 rfl pn)))) rfl (List.Sublist.refl _)
   ·skip
    have c60r := c60
    try simp only [smpC, decide_eq_true_eq, decide_eq_false_iff_not] at c60
    refine kc_skipQ (kq_code (kc_region (kl_mv rfl (kl_inc rfl rfl (by omega) ?_))))
    refine kl_as rfl (kl_nil (kq_take [H38, H11, sing b7 (.cells [v14, v41].toArray 26 (0, 0)), sing b5 (.cells [.slice none 0 0, .slice none 0 0].toArray 26 (0, 0))] ?_))
    refine kq_roundK ((j + 1), cs, v41, H38, K42) (by omega) (⟨by omega, (by first | exact subTo_T (by omega) hi37 (by first | assumption | exact ins_any (by assumption)) (posTo_end hi87 (by omega)) | exact subTo_F (by omega) hi37 (by first | assumption | exact ins_any' (by assumption))), f43, o39, f40⟩) (pc 7 rfl pn) (pc 1 rfl (pc 2 rfl (pc 4 rfl (pc 5 rfl pn)))) rfl (List.Sublist.refl _)
  ·skip
   refine kc_exit (kq_code (kc_seq (kc_region (kl_ldW rfl rfl (kl_stW (us := [v14, v41]) rfl rfl rfl rfl (oc (OwnL.oneCell (by assumption)) (oc (OwnL.oneCell (by assumption)) oc_nil)) rfl ?_)))))
   refine kl_chg [H38, H11, sing b7 (.cells [v14, v41].toArray 26 (0, 0)), sing b5 (.cells [v14, v41].toArray 26 (0, 0))] rfl ?_
   refine kl_nil (kq_code (kc_ret (kq_frz H11 ?_)))
   refine kq_frz H38 ?_
   refine kq_cmp H38 K42 (fun c118 => ?_)
   refine kq_cmp H11 (orHp H38 K42) (fun c119 => ?_)
   exact kq_retC rfl rfl rfl (orHp H11 (orHp H38 K42)) (fr_or f13 (fr_or f40 f43)) ⟨(⟨ds, cs⟩ : Mod), ⟨_, _, rfl, (Sl.mono (OwnL.ints o12) (fun b o h => orL b o h) (fun _ _ h => h)), (Cons.mono' (OwnL.consK o39 c118) (fun b o h => orC c119 b o h))⟩, by exact (sub_smallE hS hi10 (by omega) hi37 (by omega)).2⟩
theorem subS_ok {Hmd : Hp} {vmd : Value} {Hmc : Hp} {vmc : Value} {Hvars : Hp} {vvars : Value} (m : Mod) (vars : List Int) (hmd : Ints Hmd vmd m.doms) (hmc : Cons Hmc vmc m.cons) (hvars : Ints Hvars vvars vars) : Spec Try.prog 8 [.agg #[vmd, vmc], vvars] [Hmd, Hmc, Hvars] (fun Hq vq => ∃ (mq : Mod) (bq : Bool) (uq0a uq0b : Value), vq = .tuple #[.agg #[uq0a, uq0b], .bool bq] ∧ Ints Hq uq0a mq.doms ∧ Cons Hq uq0b mq.cons ∧ (mq, bq) = subR m vars) := by
 refine spec_ofR Try.func8 rfl rfl rfl (fun B => ?_)
 refine kc_seq (kc_region (kl_box rfl rfl (fun p1 H2 f3 a4 => ?_)))
 refine kl_alloc (cs := [.slice none 0 0, .slice none 0 0]) rfl (fun b5 hb6 => ?_)
 refine kl_as rfl (kl_nil (kq_code (kc_seq (kc_seq (kc_region (kl_ldS rfl (by assumption) rfl ?_))))))
 refine kl_callP rfl rfl (svalidMod_ok m (by assumption) (by assumption)) ?_
 refine kl_not rfl (kl_mv rfl (kl_join 4 13 (.bool (!(validModB m) || decide ((vars.length : Int) = (0 : Int)))) (pc 1 rfl (pc 2 rfl (pc 4 rfl (pc 5 rfl (pc 9 rfl pn))))) (fun J9 => ?_) ?_))
 ·rcases Bool.eq_false_or_eq_true (!(validModB m)) with g7 | g7
  ·skip
   refine kl_gF rfl rfl g7 (kl_gF rfl rfl g7 (kl_gF rfl rfl g7 (kl_orT (decide ((vars.length : Int) = (0 : Int))) rfl rfl g7 ?_)))
   exact J9 _ (pc 13 rfl (pc 1 rfl (pc 2 rfl (pc 4 rfl (pc 5 rfl (pc 9 rfl pn))))))
  ·skip
   have g7p := g7
   try simp only [Bool.not_eq_true', Bool.not_eq_false', decide_eq_true_eq, decide_eq_false_iff_not, Bool.and_eq_true, Bool.or_eq_false_iff, withinB_iff] at g7p
   refine kl_gT rfl rfl g7 (kl_mv rfl (kl_gT rfl rfl g7 (kl_len rfl (by assumption) (fun l8 => ?_))))
   refine kl_gT rfl rfl g7 (kl_eql rfl rfl ?_)
   refine kl_orF rfl rfl g7 ?_
   exact J9 _ (pc 13 rfl (pc 1 rfl (pc 2 rfl (pc 4 rfl (pc 5 rfl (pc 9 rfl pn))))))
 refine kl_mv rfl (kl_join 5 19 (.bool ((!(validModB m) || decide ((vars.length : Int) = (0 : Int))) || !(varSetS m.doms.length vars))) (pc 1 rfl (pc 2 rfl (pc 4 rfl (pc 5 rfl (pc 14 rfl pn))))) (fun J11 => ?_) ?_)
 ·rcases Bool.eq_false_or_eq_true (!(validModB m) || decide ((vars.length : Int) = (0 : Int))) with g10 | g10
  ·skip
   refine kl_gF rfl rfl g10 (kl_gF rfl rfl g10 (kl_gF rfl rfl g10 (kl_gF rfl rfl g10 (kl_orT (!(varSetS m.doms.length vars)) rfl rfl g10 ?_))))
   exact J11 _ (pc 19 rfl (pc 1 rfl (pc 2 rfl (pc 4 rfl (pc 5 rfl (pc 14 rfl pn))))))
  ·skip
   have g10p := g10
   try simp only [Bool.not_eq_true', Bool.not_eq_false', decide_eq_true_eq, decide_eq_false_iff_not, Bool.and_eq_true, Bool.or_eq_false_iff, withinB_iff] at g10p
   refine kl_gT rfl rfl g10 (kl_ldS rfl (by assumption) rfl ?_)
   refine kl_gT rfl rfl g10 (kl_mv rfl (kl_gT rfl rfl g10 (kl_callP rfl rfl (validVarSet_ok m vars (by assumption) (by assumption) (by assumption)) ?_)))
   refine kl_gT rfl rfl g10 (kl_not rfl (kl_orF rfl rfl g10 ?_))
   exact J11 _ (pc 19 rfl (pc 1 rfl (pc 2 rfl (pc 4 rfl (pc 5 rfl (pc 14 rfl pn))))))
 refine kl_nil (kq_code (kc_cond rfl (fun c12 => ?_) (fun c12 => ?_)))
 ·skip
  have c12r := c12
  try simp only [smpC, decide_eq_true_eq, decide_eq_false_iff_not] at c12
  refine kc_seq (kc_region (kl_bd rfl cp_nil rfl ?_))
  refine kl_stW (us := [.slice none 0 0, .slice none 0 0]) rfl rfl rfl rfl (oc rfl (oc rfl oc_nil)) rfl ?_
  refine kl_chg [sing b5 (.cells [.slice none 0 0, .slice none 0 0].toArray 26 (0, 0))] rfl ?_
  refine kl_as rfl (kl_nil (kq_code (kc_ret (kq_cmp noHp noHp (fun c13 => ?_)))))
  exact kq_retR (rss2 rfl (rs_agg rfl rfl) (rs_tmp rfl)) (orHp noHp noHp) (fr_or (fr_no _) (fr_no _)) ⟨(⟨[], []⟩ : Mod), false, _, _, rfl, (Sl.mono Sl.nil (fun b o h => orL b o h) (fun _ _ h => h)), (Sl.mono Sl.nil (fun b o h => orC c13 b o h) (fun _ _ h => h)), by first | exact (sub_noS (by assumption)).symm | (rw [hsm9]; exact (sub_yes hS).symm)⟩ .none
 ·skip
  have c12r := c12
  try simp only [smpC, decide_eq_true_eq, decide_eq_false_iff_not] at c12
  have hS := subS_go c12r
  refine kc_skipQ (kq_code (kc_seq (kc_region (kl_ldS rfl (by assumption) rfl ?_))))
  refine kl_mv rfl (kl_call rfl rfl (subMS_ok m vars hS (by assumption) (by assumption) (by assumption)) (fun v14 H15 f16 h17 => ?_))
  obtain ⟨z18, ⟨u20, u21, rfl, h22, h23⟩, h19⟩ := h17
  have hsm9 := h19
  refine kl_stW (us := [u20, u21]) rfl rfl rfl rfl (oc (Sl.oneCell (by assumption)) (oc (Sl.oneCell (by assumption)) oc_nil)) rfl ?_
  refine kl_chg [sing b5 (.cells [u20, u21].toArray 26 (0, 0))] rfl ?_
  refine kl_as rfl (kl_nil (kq_code (kc_ret (kq_cmp H15 H15 (fun c24 => ?_)))))
  exact kq_retR (rss2 rfl (rs_agg rfl rfl) (rs_tmp rfl)) (orHp H15 H15) (fr_or f16 f16) ⟨(⟨z18.doms, z18.cons⟩ : Mod), true, _, _, rfl, (Sl.mono (by assumption) (fun b o h => orL b o h) (fun _ _ h => h)), (Cons.mono' (by assumption) (fun b o h => orC c24 b o h)), by first | exact (sub_noS (by assumption)).symm | (rw [hsm9]; exact (sub_yes hS).symm)⟩ .none
end Go.Proofs.Ytiilanckbocifaa
