/- Walks of functions of the program: each returns what the plain function gives. Conditions: those that each statement names. -/
import Derived.Test.YtiilanckbocifaaGreatWrc
namespace Go.Proofs.YtiilanckbocifaaGreat
open Go
set_option linter.unusedSimpArgs false
set_option linter.unusedVariables false
theorem damage_ok {br : Nat} {vbr : Value} {Hr : Hp} {bsr : List Int} {Hcv : Hp} {vcv : Value} {Hca : Hp} {vca : Value} {Hcr : Hp} {vcr : Value} (pr : Nat) (c : Con) (hc : ConSm 50 c) (hp : pr + (3) ≤ 1000000) (hr : Bytes Hr vbr bsr) (hcv : Ints Hcv vcv c.vars) (hca : Ints Hca vca c.args) (hcr : Rows Hcr vcr c.rows) : SpecT Tryz.prog 108 [.pointer (some ⟨br, 0, none⟩), .agg #[.int .i64 c.kind, vcv, vca, .int .i64 c.bound, vcr]] [sing br (.cells [vbr, .int .i64 (pr : Int)].toArray 85 (0, 0))] [Hr, Hcv, Hca, Hcr] (fun vq L1 Ln Kq => ∃ q : Nat, q ≤ pr + (3) ∧ L1 = [sing br (.cells [vbr, .int .i64 (q : Int)].toArray 85 (0, 0))] ∧ ∃ cq : Con, Ln = [] ∧ ConR (orHp Kq (orHp Hcv (orHp Hca Hcr))) vq cq ∧ ConSm 100 cq) := by
 refine specT_of Tryz.func108 rfl rfl rfl (fun B => ?_)
 refine kc_seq (kc_region (kl_boxL (cs := [.int .i64 c.kind, vcv, vca, .int .i64 c.bound, vcr]) rfl rfl (fun b1 hb2 => ?_)))
 refine kl_alloc (cs := [.int .i64 (0 : Int), .slice none 0 0, .slice none 0 0, .int .i64 (0 : Int), .slice none 0 0]) rfl (fun b3 hb4 => ?_)
 refine kl_nil (kq_code (kc_seq (kc_seq (kc_region (kl_mv rfl (kl_callT rfl rfl (pick_ok pr (5 : Int) (by omega) hr) (fun v5 L1 Ln K9 h6 f7 f8 => ?_)))))))
 obtain ⟨q10, h11, rfl, rfl, z12, rfl, h13⟩ := h6
 refine kl_norm ?_
 refine kl_nil (kq_code (kc_block (kc_seq (kc_region (kl_eql rfl rfl ?_)))))
 refine kl_as rfl (kl_nil (kq_code (kc_if rfl (fun c16 => ?_) (fun c16 => ?_))))
 ·skip
  refine kc_region (kl_mv rfl (kl_bs rfl rfl rfl (by decide) (ca rfl (ca rfl (ca rfl (ca rfl ca_nil)))) (fun v17 H18 f19 r20 s21 => ?_)))
  have h22 : Ints H18 v17 [(0 : Int), (10 : Int), (1 : Int), (5 : Int)] := litInts (xs := [(0 : Int), (10 : Int), (1 : Int), (5 : Int)]) (by simpa using s21)
  refine kl_callT rfl rfl (one_ok q10 ([(0 : Int), (10 : Int), (1 : Int), (5 : Int)]) (by first | (simp; done) | omega) (by omega) hr (by assumption)) (fun v23 L1 Ln K27 h24 f25 f26 => ?_)
  obtain ⟨q28, h29, rfl, rfl, z30, rfl, h31⟩ := h24
  refine kl_norm ?_
  refine kl_fdV rfl (kl_stB rfl rfl rfl rfl rfl ?_)
  refine kl_chg [sing br (.cells [vbr, .int .i64 (q28 : Int)].toArray 85 (0, 0)), sing b3 (.cells [.int .i64 (0 : Int), .slice none 0 0, .slice none 0 0, .int .i64 (0 : Int), .slice none 0 0].toArray 70 (0, 0)), sing b1 (.cells [.int .i64 z30, vcv, vca, .int .i64 c.bound, vcr].toArray 70 (0, 0))] rfl ?_
  refine kl_nil (kq_code (kc_seq (kc_region (kl_ldW rfl rfl (kl_stW (us := [.int .i64 z30, vcv, vca, .int .i64 c.bound, vcr]) rfl rfl rfl rfl (oc rfl (oc (Sl.oneCell (by assumption)) (oc (Sl.oneCell (by assumption)) (oc rfl (oc (Sl.oneCell (by assumption)) oc_nil))))) rfl ?_)))))
  refine kl_chg [sing br (.cells [vbr, .int .i64 (q28 : Int)].toArray 85 (0, 0)), sing b3 (.cells [.int .i64 z30, vcv, vca, .int .i64 c.bound, vcr].toArray 70 (0, 0)), sing b1 (.cells [.int .i64 z30, vcv, vca, .int .i64 c.bound, vcr].toArray 70 (0, 0))] rfl ?_
  refine kl_nil (kq_code (kc_ret (kq_cmp Hca Hcr (fun c34 => ?_))))
  refine kq_cmp Hcv (orHp Hca Hcr) (fun c35 => ?_)
  refine kq_cmp noHp (orHp Hcv (orHp Hca Hcr)) (fun c36 => ?_)
  exact kq_retTC rfl rfl rfl [sing br (.cells [vbr, .int .i64 (q28 : Int)].toArray 85 (0, 0))] [] noHp frn (fr_no _) ⟨q28, by omega, rfl, ⟨z30, c.vars, c.args, c.bound, c.rows⟩, rfl, ⟨_, rfl, _, _, _, rfl, (Sl.mono (by assumption) (fun b o h => orC c36 b o (orL b o h)) (fun _ _ h => h)), (Sl.mono (by assumption) (fun b o h => orC c36 b o (orC c35 b o (orL b o h))) (fun _ _ h => h)), (Rows.mono' (by assumption) (fun b o h => orC c36 b o (orC c35 b o (orC c34 b o h))))⟩, by (have h1 := hc.v1; have h2 := hc.v; have h3 := hc.a; have h4 := hc.r; have h5 := hc.rr; constructor <;> dsimp only <;> first | omega | assumption | (simp; done) | (simp; omega))⟩
 ·skip
  refine kc_seq (kc_region (kl_eql rfl rfl ?_))
  refine kl_as rfl (kl_nil (kq_code (kc_if rfl (fun c37 => ?_) (fun c37 => ?_))))
  ·skip
   refine kc_tree (fun i => ([8, 10] : List Nat).contains i) [sing b1 (.cells [.int .i64 c.kind, vcv, vca, .int .i64 c.bound, vcr].toArray 70 (0, 0))] (by kernel_rfl) ?_
   refine kt_q 0 (.cons _ (.cons _ (.cons_cons _ (List.nil_sublist _)))) rfl (by kernel_rfl) (kl_fdV rfl (kl_nil (kq_q (kt_q 1 (.cons _ (.cons _ (.cons_cons _ (List.nil_sublist _)))) rfl (by kernel_rfl) (kl_ld rfl (at_box (T := 70) (cs := [.int .i64 c.kind, vcv, vca, .int .i64 c.bound, vcr]) (off := 1) (fz := (0, 0))) (kl_nil (kq_q (kt_q 3 (.cons _ (.cons _ (.cons_cons _ (List.nil_sublist _)))) rfl (by kernel_rfl) ?_))))))))
   refine kl_fdV rfl (kl_nil (kq_q (kt_q 4 (.cons _ (.cons _ (.cons_cons _ (List.nil_sublist _)))) rfl (by kernel_rfl) (kl_ld rfl (at_box (T := 70) (cs := [.int .i64 c.kind, vcv, vca, .int .i64 c.bound, vcr]) (off := 1) (fz := (0, 0))) (kl_nil (kq_q (kt_q 5 (.cons _ (.cons _ (.cons_cons _ (List.nil_sublist _)))) rfl (by kernel_rfl) (kl_inI (i := 0) rfl rfl (by assumption) (by (have h1 := hc.v1; omega)) (fun p38 a39 => ?_)))))))))
   refine kl_nil (kq_q (kt_q 6 (.cons _ (.cons _ (.cons_cons _ (List.nil_sublist _)))) rfl (by kernel_rfl) (kl_ld rfl (by assumption) (kl_nil (kq_q (kt_b 2 7 rfl rfl (by kernel_rfl) ?_ ?_))))))
   ·skip
    refine kl_callL rfl rfl (copyInts_ok c.vars (by have h1 := hc.v; have h2 := hc.a; omega) (by assumption)) (fun v40 H41 f42 o43 => ?_)
    refine kl_nil (kq_a (.cons _ (.cons _ (.cons _ (.cons_cons _ (List.nil_sublist _))))) (kt_a 7 rfl (by kernel_rfl) (kl_bs rfl rfl rfl (by decide) (ca rfl ca_nil) (fun v44 H45 f46 r47 s48 => ?_))))
    have h49 : Ints H45 v44 [(c.vars.getD 0 0)] := litInts (xs := [(c.vars.getD 0 0)]) (by simpa using s48)
    refine kl_nil (kq_a (.cons _ (.cons _ (.cons _ (.cons_cons _ (List.nil_sublist _))))) (kt_a 8 rfl (by kernel_rfl) (kl_apL (c.vars.getD 0 0) rfl rfl o43 (by assumption) rfl (oc rfl oc_nil) (by (have h1 := hc.v; have h2 := hc.a; omega)) (by decide) (fun v50 H51 o52 f53 => ?_))))
    have f54 := f53 B f42 (Nat.le_refl _)
    refine kl_nil (kq_x rfl (kt_q 9 (.cons _ (.cons _ (.cons _ (.cons_cons _ (List.nil_sublist _))))) rfl (by kernel_rfl) (kl_fdV rfl (kl_nil (kq_q (kt_a 10 rfl (by kernel_rfl) (kl_stB rfl rfl rfl (OwnL.oneCell (by assumption)) (OwnL.cells (by assumption)) ?_)))))))
    refine kl_chg [H51, sing br (.cells [vbr, .int .i64 (q10 : Int)].toArray 85 (0, 0)), sing b3 (.cells [.int .i64 (0 : Int), .slice none 0 0, .slice none 0 0, .int .i64 (0 : Int), .slice none 0 0].toArray 70 (0, 0)), sing b1 (.cells [.int .i64 c.kind, v50, vca, .int .i64 c.bound, vcr].toArray 70 (0, 0))] rfl ?_
    refine kl_nil (kq_x rfl (kt_end (by kernel_rfl) ?_))
    refine kq_code (kc_seq (kc_region (kl_ldW rfl rfl (kl_stW (us := [.int .i64 c.kind, v50, vca, .int .i64 c.bound, vcr]) rfl rfl rfl rfl (oc rfl (oc (OwnL.oneCell (by assumption)) (oc (Sl.oneCell (by assumption)) (oc rfl (oc (Sl.oneCell (by assumption)) oc_nil))))) rfl ?_))))
    refine kl_chg [H51, sing br (.cells [vbr, .int .i64 (q10 : Int)].toArray 85 (0, 0)), sing b3 (.cells [.int .i64 c.kind, v50, vca, .int .i64 c.bound, vcr].toArray 70 (0, 0)), sing b1 (.cells [.int .i64 c.kind, v50, vca, .int .i64 c.bound, vcr].toArray 70 (0, 0))] rfl ?_
    refine kl_nil (kq_code (kc_ret (kq_frz H51 ?_)))
    refine kq_cmp Hca Hcr (fun c55 => ?_)
    refine kq_cmp Hcv (orHp Hca Hcr) (fun c56 => ?_)
    refine kq_cmp H51 (orHp Hcv (orHp Hca Hcr)) (fun c57 => ?_)
    exact kq_retTC rfl rfl rfl [sing br (.cells [vbr, .int .i64 (q10 : Int)].toArray 85 (0, 0))] [] H51 frn f54 ⟨q10, by omega, rfl, ⟨c.kind, (c.vars ++ [(c.vars.getD 0 0)]), c.args, c.bound, c.rows⟩, rfl, ⟨_, rfl, _, _, _, rfl, (Sl.mono (OwnL.ints o52) (fun b o h => orL b o h) (fun _ _ h => h)), (Sl.mono (by assumption) (fun b o h => orC c57 b o (orC c56 b o (orL b o h))) (fun _ _ h => h)), (Rows.mono' (by assumption) (fun b o h => orC c57 b o (orC c56 b o (orC c55 b o h))))⟩, by (have h1 := hc.v1; have h2 := hc.v; have h3 := hc.a; have h4 := hc.r; have h5 := hc.rr; constructor <;> dsimp only <;> first | omega | assumption | (simp; done) | (simp; omega))⟩
   ·skip
    refine kl_bs rfl rfl rfl (by decide) (ca rfl ca_nil) (fun v58 H59 f60 r61 s62 => ?_)
    have h63 : Ints H59 v58 [(c.vars.getD 0 0)] := litInts (xs := [(c.vars.getD 0 0)]) (by simpa using s62)
    refine kl_nil (kq_a (.cons _ (.cons _ (.cons_cons _ (List.nil_sublist _)))) (kt_a 2 rfl (by kernel_rfl) (kl_callL rfl rfl (copyInts_ok c.vars (by have h1 := hc.v; have h2 := hc.a; omega) (by assumption)) (fun v64 H65 f66 o67 => ?_))))
    refine kl_nil (kq_a (.cons _ (.cons _ (.cons _ (.cons_cons _ (List.nil_sublist _))))) (kt_a 8 rfl (by kernel_rfl) (kl_apL (c.vars.getD 0 0) rfl rfl o67 (by assumption) rfl (oc rfl oc_nil) (by (have h1 := hc.v; have h2 := hc.a; omega)) (by decide) (fun v68 H69 o70 f71 => ?_))))
    have f72 := f71 B f66 (Nat.le_refl _)
    refine kl_nil (kq_x rfl (kt_q 9 (.cons _ (.cons _ (.cons _ (.cons_cons _ (List.nil_sublist _))))) rfl (by kernel_rfl) (kl_fdV rfl (kl_nil (kq_q (kt_a 10 rfl (by kernel_rfl) (kl_stB rfl rfl rfl (OwnL.oneCell (by assumption)) (OwnL.cells (by assumption)) ?_)))))))
    refine kl_chg [H69, sing br (.cells [vbr, .int .i64 (q10 : Int)].toArray 85 (0, 0)), sing b3 (.cells [.int .i64 (0 : Int), .slice none 0 0, .slice none 0 0, .int .i64 (0 : Int), .slice none 0 0].toArray 70 (0, 0)), sing b1 (.cells [.int .i64 c.kind, v68, vca, .int .i64 c.bound, vcr].toArray 70 (0, 0))] rfl ?_
    refine kl_nil (kq_x rfl (kt_end (by kernel_rfl) ?_))
    refine kq_code (kc_seq (kc_region (kl_ldW rfl rfl (kl_stW (us := [.int .i64 c.kind, v68, vca, .int .i64 c.bound, vcr]) rfl rfl rfl rfl (oc rfl (oc (OwnL.oneCell (by assumption)) (oc (Sl.oneCell (by assumption)) (oc rfl (oc (Sl.oneCell (by assumption)) oc_nil))))) rfl ?_))))
    refine kl_chg [H69, sing br (.cells [vbr, .int .i64 (q10 : Int)].toArray 85 (0, 0)), sing b3 (.cells [.int .i64 c.kind, v68, vca, .int .i64 c.bound, vcr].toArray 70 (0, 0)), sing b1 (.cells [.int .i64 c.kind, v68, vca, .int .i64 c.bound, vcr].toArray 70 (0, 0))] rfl ?_
    refine kl_nil (kq_code (kc_ret (kq_frz H69 ?_)))
    refine kq_cmp Hca Hcr (fun c73 => ?_)
    refine kq_cmp Hcv (orHp Hca Hcr) (fun c74 => ?_)
    refine kq_cmp H69 (orHp Hcv (orHp Hca Hcr)) (fun c75 => ?_)
    exact kq_retTC rfl rfl rfl [sing br (.cells [vbr, .int .i64 (q10 : Int)].toArray 85 (0, 0))] [] H69 frn f72 ⟨q10, by omega, rfl, ⟨c.kind, (c.vars ++ [(c.vars.getD 0 0)]), c.args, c.bound, c.rows⟩, rfl, ⟨_, rfl, _, _, _, rfl, (Sl.mono (OwnL.ints o70) (fun b o h => orL b o h) (fun _ _ h => h)), (Sl.mono (by assumption) (fun b o h => orC c75 b o (orC c74 b o (orL b o h))) (fun _ _ h => h)), (Rows.mono' (by assumption) (fun b o h => orC c75 b o (orC c74 b o (orC c73 b o h))))⟩, by (have h1 := hc.v1; have h2 := hc.v; have h3 := hc.a; have h4 := hc.r; have h5 := hc.rr; constructor <;> dsimp only <;> first | omega | assumption | (simp; done) | (simp; omega))⟩
  ·skip
   refine kc_seq (kc_region (kl_eql rfl rfl ?_))
   refine kl_as rfl (kl_nil (kq_code (kc_if rfl (fun c76 => ?_) (fun c76 => ?_))))
   ·skip
    refine kc_region (kl_fdV rfl (kl_ldB rfl rfl (kl_callL rfl rfl (copyInts_ok c.args (by have h1 := hc.v; have h2 := hc.a; omega) (by assumption)) (fun v77 H78 f79 o80 => ?_))))
    refine kl_bs rfl rfl rfl (by decide) (ca rfl ca_nil) (fun v81 H82 f83 r84 s85 => ?_)
    have h86 : Ints H82 v81 [(1 : Int)] := litInts (xs := [(1 : Int)]) (by simpa using s85)
    refine kl_apL (1 : Int) rfl rfl o80 (by assumption) rfl (oc rfl oc_nil) (by (have h1 := hc.v; have h2 := hc.a; omega)) (by decide) (fun v87 H88 o89 f90 => ?_)
    have f91 := f90 B f79 (Nat.le_refl _)
    refine kl_fdV rfl (kl_stB rfl rfl rfl (OwnL.oneCell (by assumption)) (OwnL.cells (by assumption)) ?_)
    refine kl_chg [H88, sing br (.cells [vbr, .int .i64 (q10 : Int)].toArray 85 (0, 0)), sing b3 (.cells [.int .i64 (0 : Int), .slice none 0 0, .slice none 0 0, .int .i64 (0 : Int), .slice none 0 0].toArray 70 (0, 0)), sing b1 (.cells [.int .i64 c.kind, vcv, v87, .int .i64 c.bound, vcr].toArray 70 (0, 0))] rfl ?_
    refine kl_nil (kq_code (kc_seq (kc_region (kl_ldW rfl rfl (kl_stW (us := [.int .i64 c.kind, vcv, v87, .int .i64 c.bound, vcr]) rfl rfl rfl rfl (oc rfl (oc (Sl.oneCell (by assumption)) (oc (OwnL.oneCell (by assumption)) (oc rfl (oc (Sl.oneCell (by assumption)) oc_nil))))) rfl ?_)))))
    refine kl_chg [H88, sing br (.cells [vbr, .int .i64 (q10 : Int)].toArray 85 (0, 0)), sing b3 (.cells [.int .i64 c.kind, vcv, v87, .int .i64 c.bound, vcr].toArray 70 (0, 0)), sing b1 (.cells [.int .i64 c.kind, vcv, v87, .int .i64 c.bound, vcr].toArray 70 (0, 0))] rfl ?_
    refine kl_nil (kq_code (kc_ret (kq_frz H88 ?_)))
    refine kq_cmp Hca Hcr (fun c92 => ?_)
    refine kq_cmp Hcv (orHp Hca Hcr) (fun c93 => ?_)
    refine kq_cmp H88 (orHp Hcv (orHp Hca Hcr)) (fun c94 => ?_)
    exact kq_retTC rfl rfl rfl [sing br (.cells [vbr, .int .i64 (q10 : Int)].toArray 85 (0, 0))] [] H88 frn f91 ⟨q10, by omega, rfl, ⟨c.kind, c.vars, (c.args ++ [(1 : Int)]), c.bound, c.rows⟩, rfl, ⟨_, rfl, _, _, _, rfl, (Sl.mono (by assumption) (fun b o h => orC c94 b o (orL b o h)) (fun _ _ h => h)), (Sl.mono (OwnL.ints o89) (fun b o h => orL b o h) (fun _ _ h => h)), (Rows.mono' (by assumption) (fun b o h => orC c94 b o (orC c93 b o (orC c92 b o h))))⟩, by (have h1 := hc.v1; have h2 := hc.v; have h3 := hc.a; have h4 := hc.r; have h5 := hc.rr; constructor <;> dsimp only <;> first | omega | assumption | (simp; done) | (simp; omega))⟩
   ·skip
    refine kc_seq (kc_region (kl_eql rfl rfl ?_))
    refine kl_as rfl (kl_nil (kq_code (kc_if rfl (fun c95 => ?_) (fun c95 => ?_))))
    ·skip
     refine kc_region (kl_mv rfl (kl_bs rfl rfl rfl (by decide) (ca rfl (ca rfl (ca rfl ca_nil))) (fun v96 H97 f98 r99 s100 => ?_)))
     have h101 : Ints H97 v96 [(-1000 : Int), (1000 : Int), (5 : Int)] := litInts (xs := [(-1000 : Int), (1000 : Int), (5 : Int)]) (by simpa using s100)
     refine kl_callT rfl rfl (one_ok q10 ([(-1000 : Int), (1000 : Int), (5 : Int)]) (by first | (simp; done) | omega) (by omega) hr (by assumption)) (fun v102 L1 Ln K106 h103 f104 f105 => ?_)
     obtain ⟨q107, h108, rfl, rfl, z109, rfl, h110⟩ := h103
     refine kl_norm ?_
     refine kl_fdV rfl (kl_stB rfl rfl rfl rfl rfl ?_)
     refine kl_chg [sing br (.cells [vbr, .int .i64 (q107 : Int)].toArray 85 (0, 0)), sing b3 (.cells [.int .i64 (0 : Int), .slice none 0 0, .slice none 0 0, .int .i64 (0 : Int), .slice none 0 0].toArray 70 (0, 0)), sing b1 (.cells [.int .i64 c.kind, vcv, vca, .int .i64 z109, vcr].toArray 70 (0, 0))] rfl ?_
     refine kl_nil (kq_code (kc_seq (kc_region (kl_ldW rfl rfl (kl_stW (us := [.int .i64 c.kind, vcv, vca, .int .i64 z109, vcr]) rfl rfl rfl rfl (oc rfl (oc (Sl.oneCell (by assumption)) (oc (Sl.oneCell (by assumption)) (oc rfl (oc (Sl.oneCell (by assumption)) oc_nil))))) rfl ?_)))))
     refine kl_chg [sing br (.cells [vbr, .int .i64 (q107 : Int)].toArray 85 (0, 0)), sing b3 (.cells [.int .i64 c.kind, vcv, vca, .int .i64 z109, vcr].toArray 70 (0, 0)), sing b1 (.cells [.int .i64 c.kind, vcv, vca, .int .i64 z109, vcr].toArray 70 (0, 0))] rfl ?_
     refine kl_nil (kq_code (kc_ret (kq_cmp Hca Hcr (fun c113 => ?_))))
     refine kq_cmp Hcv (orHp Hca Hcr) (fun c114 => ?_)
     refine kq_cmp noHp (orHp Hcv (orHp Hca Hcr)) (fun c115 => ?_)
     exact kq_retTC rfl rfl rfl [sing br (.cells [vbr, .int .i64 (q107 : Int)].toArray 85 (0, 0))] [] noHp frn (fr_no _) ⟨q107, by omega, rfl, ⟨c.kind, c.vars, c.args, z109, c.rows⟩, rfl, ⟨_, rfl, _, _, _, rfl, (Sl.mono (by assumption) (fun b o h => orC c115 b o (orL b o h)) (fun _ _ h => h)), (Sl.mono (by assumption) (fun b o h => orC c115 b o (orC c114 b o (orL b o h))) (fun _ _ h => h)), (Rows.mono' (by assumption) (fun b o h => orC c115 b o (orC c114 b o (orC c113 b o h))))⟩, by (have h1 := hc.v1; have h2 := hc.v; have h3 := hc.a; have h4 := hc.r; have h5 := hc.rr; constructor <;> dsimp only <;> first | omega | assumption | (simp; done) | (simp; omega))⟩
    ·skip
     refine kc_region (kl_mv rfl (kl_bs rfl rfl rfl (by decide) (ca rfl (ca rfl ca_nil)) (fun v116 H117 f118 r119 s120 => ?_)))
     have h121 : Ints H117 v116 [(-1 : Int), (4 : Int)] := litInts (xs := [(-1 : Int), (4 : Int)]) (by simpa using s120)
     refine kl_callT rfl rfl (one_ok q10 ([(-1 : Int), (4 : Int)]) (by first | (simp; done) | omega) (by omega) hr (by assumption)) (fun v122 L1 Ln K126 h123 f124 f125 => ?_)
     obtain ⟨q127, h128, rfl, rfl, z129, rfl, h130⟩ := h123
     refine kl_norm ?_
     refine kl_bs rfl rfl rfl (by decide) (ca rfl ca_nil) (fun v133 H134 f135 r136 s137 => ?_)
     have h138 : Ints H134 v133 [z129] := litInts (xs := [z129]) (by simpa using s137)
     refine kl_fdV rfl (kl_stB rfl rfl rfl (Sl.oneCell (by assumption)) (Sl.cells (by assumption)) ?_)
     refine kl_chg [sing br (.cells [vbr, .int .i64 (q127 : Int)].toArray 85 (0, 0)), sing b3 (.cells [.int .i64 (0 : Int), .slice none 0 0, .slice none 0 0, .int .i64 (0 : Int), .slice none 0 0].toArray 70 (0, 0)), sing b1 (.cells [.int .i64 c.kind, v133, vca, .int .i64 c.bound, vcr].toArray 70 (0, 0))] rfl ?_
     refine kl_nil (kq_code (kc_seq (kc_region (kl_ldW rfl rfl (kl_stW (us := [.int .i64 c.kind, v133, vca, .int .i64 c.bound, vcr]) rfl rfl rfl rfl (oc rfl (oc (Sl.oneCell (by assumption)) (oc (Sl.oneCell (by assumption)) (oc rfl (oc (Sl.oneCell (by assumption)) oc_nil))))) rfl ?_)))))
     refine kl_chg [sing br (.cells [vbr, .int .i64 (q127 : Int)].toArray 85 (0, 0)), sing b3 (.cells [.int .i64 c.kind, v133, vca, .int .i64 c.bound, vcr].toArray 70 (0, 0)), sing b1 (.cells [.int .i64 c.kind, v133, vca, .int .i64 c.bound, vcr].toArray 70 (0, 0))] rfl ?_
     refine kl_nil (kq_code (kc_ret (kq_cmp Hca Hcr (fun c139 => ?_))))
     refine kq_cmp Hcv (orHp Hca Hcr) (fun c140 => ?_)
     refine kq_cmp H134 (orHp Hcv (orHp Hca Hcr)) (fun c141 => ?_)
     exact kq_retTC rfl rfl rfl [sing br (.cells [vbr, .int .i64 (q127 : Int)].toArray 85 (0, 0))] [] H134 frn f135 ⟨q127, by omega, rfl, ⟨c.kind, ([z129]), c.args, c.bound, c.rows⟩, rfl, ⟨_, rfl, _, _, _, rfl, (Sl.mono (by assumption) (fun b o h => orL b o h) (fun _ _ h => h)), (Sl.mono (by assumption) (fun b o h => orC c141 b o (orC c140 b o (orL b o h))) (fun _ _ h => h)), (Rows.mono' (by assumption) (fun b o h => orC c141 b o (orC c140 b o (orC c139 b o h))))⟩, by (have h1 := hc.v1; have h2 := hc.v; have h3 := hc.a; have h4 := hc.r; have h5 := hc.rr; constructor <;> dsimp only <;> first | omega | assumption | (simp; done) | (simp; omega))⟩
theorem randomModel_ok {br : Nat} {vbr : Value} {Hr : Hp} {bsr : List Int} (pr : Nat) (hp : pr + (500) ≤ 1000000) (hr : Bytes Hr vbr bsr) : SpecT Tryz.prog 107 [.pointer (some ⟨br, 0, none⟩)] [sing br (.cells [vbr, .int .i64 (pr : Int)].toArray 85 (0, 0))] [Hr] (fun vq L1 Ln Kq => ∃ q : Nat, q ≤ pr + (500) ∧ L1 = [sing br (.cells [vbr, .int .i64 (q : Int)].toArray 85 (0, 0))] ∧ ∃ (Hq Mq : Hp) (va vc : Value) (mq : Mod), vq = .agg #[va, vc] ∧ Ln = [Hq, Mq] ∧ OwnL 3 1 Hq noHp IntV va mq.doms ∧ OwnL 70 5 Mq Kq ConV vc mq.cons ∧ ModSm 50 mq) := by
 refine specT_of Tryz.func107 rfl rfl rfl (fun B => ?_)
 refine kc_seq (kc_region (kl_alloc (cs := [.slice none 0 0, .slice none 0 0]) rfl (fun b1 hb2 => ?_)))
 refine kl_nil (kq_code (kc_seq (kc_region (kl_bd rfl cp_nil rfl ?_))))
 refine kl_alloc (cs := [.slice none 0 0, .slice none 0 0]) rfl (fun b3 hb4 => ?_)
 refine kl_stW (us := [.slice none 0 0, .slice none 0 0]) rfl rfl rfl rfl (oc rfl (oc rfl oc_nil)) rfl ?_
 refine kl_chg [sing b3 (.cells [.slice none 0 0, .slice none 0 0].toArray 26 (0, 0)), sing b1 (.cells [.slice none 0 0, .slice none 0 0].toArray 26 (0, 0)), sing br (.cells [vbr, .int .i64 (pr : Int)].toArray 85 (0, 0))] rfl ?_
 refine kl_nil (kq_code (kc_seq (kc_seq (kc_region (kl_mv rfl (kl_callT rfl rfl (pick_ok pr (4 : Int) (by omega) hr) (fun v5 L1 Ln K9 h6 f7 f8 => ?_)))))))
 obtain ⟨q10, h11, rfl, rfl, z12, rfl, h13⟩ := h6
 refine kl_norm ?_
 refine kl_add rfl rfl (by omega) ?_
 refine kl_as rfl (kl_nil (kq_code (kc_block (kc_no ?_))))
 refine kc_loopL (A := Int × List Int × Value × Hp × Nat) (fun zz => (0 ≤ zz.1 ∧ zz.1 ≤ 4 ∧ zz.2.1.length + zz.1.toNat ≤ 4 ∧ 1 ≤ zz.2.1.length + zz.1.toNat) ∧ OwnL 3 1 zz.2.2.2.1 noHp IntV zz.2.2.1 zz.2.1 ∧ Fr B zz.2.2.2.1 ∧ zz.2.2.2.2 ≤ q10 + 3 * (4 - zz.1).toNat) (fun zz => zz.1.toNat) (fun zz => [zz.2.2.2.1, sing br (.cells [vbr, .int .i64 (zz.2.2.2.2 : Int)].toArray 85 (0, 0)), sing b3 (.cells [zz.2.2.1, .slice none 0 0].toArray 26 (0, 0)), sing b1 (.cells [.slice none 0 0, .slice none 0 0].toArray 26 (0, 0))]) (fun zz => [(4, .int .i64 zz.1)]) (((1 : Int) + z12), [], .slice none 0 0, noHp, q10) (pc 0 rfl (pc 2 rfl (pc 3 rfl pn))) (pc 4 rfl pn) rfl ⟨⟨by dsimp only; omega, by dsimp only; omega, by dsimp only; simp; omega, by dsimp only; simp; omega⟩, OwnL.nil, (fr_no _), (by first | omega | (dsimp only; omega))⟩ ?_
 rintro ⟨k, ds, v21, H18, q23⟩ hJ25
 obtain ⟨hi17, o19, f20, hq24⟩ : (0 ≤ k ∧ k ≤ 4 ∧ ds.length + k.toNat ≤ 4 ∧ 1 ≤ ds.length + k.toNat) ∧ OwnL 3 1 H18 noHp IntV v21 ds ∧ Fr B H18 ∧ q23 ≤ q10 + 3 * (4 - k).toNat := hJ25
 change KC _ _ (_) [H18, sing br (.cells [vbr, .int .i64 (q23 : Int)].toArray 85 (0, 0)), sing b3 (.cells [v21, .slice none 0 0].toArray 26 (0, 0)), sing b1 (.cells [.slice none 0 0, .slice none 0 0].toArray 26 (0, 0))] _ ([(4, .int .i64 k)] ++ _)
 refine kc_seq (kc_seq (kc_region (kl_mv rfl (kl_gtr rfl rfl ?_))))
 refine kl_nil (kq_code (kc_if rfl (fun c26 => ?_) (fun c26 => ?_)))
 ·skip
  refine kc_skipQ (kq_code (kc_seq (kc_block (kc_tree (fun i => ([5, 7] : List Nat).contains i) [sing b3 (.cells [v21, .slice none 0 0].toArray 26 (0, 0))] (by kernel_rfl) ?_))))
  refine kt_q 0 (.cons _ (.cons _ (.cons_cons _ (List.nil_sublist _)))) rfl (by kernel_rfl) (kl_fdV rfl (kl_nil (kq_q (kt_q 1 (.cons _ (.cons _ (.cons_cons _ (List.nil_sublist _)))) rfl (by kernel_rfl) (kl_ld rfl (at_box (T := 26) (cs := [v21, .slice none 0 0]) (off := 0) (fz := (0, 0))) (kl_nil (kq_q (kt_q 2 (.cons _ (.cons _ (.cons_cons _ (List.nil_sublist _)))) rfl (by kernel_rfl) (kl_mv rfl ?_)))))))))
  refine kl_nil (kq_q (kt_a 3 rfl (by kernel_rfl) (kl_callT rfl rfl (randomDomain_ok q23 (by omega) hr) (fun v27 L1 Ln K31 h28 f29 f30 => ?_))))
  obtain ⟨q32, h33, rfl, rfl, z34, rfl, h35⟩ := h28
  refine kl_norm ?_
  refine kl_nil (kq_a (.cons _ (.cons _ (.cons_cons _ (List.nil_sublist _)))) (kt_a 4 rfl (by kernel_rfl) (kl_bs rfl rfl rfl (by decide) (ca rfl ca_nil) (fun v38 H39 f40 r41 s42 => ?_))))
  have h43 : Ints H39 v38 [z34] := litInts (xs := [z34]) (by simpa using s42)
  refine kl_nil (kq_a (.cons _ (.cons _ (.cons_cons _ (List.nil_sublist _)))) (kt_a 5 rfl (by kernel_rfl) (kl_apL z34 rfl rfl o19 (by assumption) rfl (oc rfl oc_nil) (by omega) (by decide) (fun v44 H45 o46 f47 => ?_))))
  have f48 := f47 B f20 (Nat.le_refl _)
  refine kl_nil (kq_x rfl (kt_q 6 (.cons _ (.cons _ (.cons_cons _ (List.nil_sublist _)))) rfl (by kernel_rfl) (kl_fdV rfl (kl_nil (kq_q (kt_a 7 rfl (by kernel_rfl) (kl_stB rfl rfl rfl (OwnL.oneCell (by assumption)) (OwnL.cells (by assumption)) ?_)))))))
  refine kl_chg [sing br (.cells [vbr, .int .i64 (q32 : Int)].toArray 85 (0, 0)), H45, sing b3 (.cells [v44, .slice none 0 0].toArray 26 (0, 0)), sing b1 (.cells [.slice none 0 0, .slice none 0 0].toArray 26 (0, 0))] rfl ?_
  refine kl_nil (kq_x rfl (kt_end (by kernel_rfl) ?_))
  refine kq_code (kc_region (kl_mv rfl (kl_sub rfl rfl (by omega) ?_)))
  refine kl_as rfl (kl_nil (kq_take [H45, sing br (.cells [vbr, .int .i64 (q32 : Int)].toArray 85 (0, 0)), sing b3 (.cells [v44, .slice none 0 0].toArray 26 (0, 0)), sing b1 (.cells [.slice none 0 0, .slice none 0 0].toArray 26 (0, 0))] ?_))
  refine kq_roundL ((k - (1 : Int)), (ds ++ [z34]), v44, H45, q32) (by (dsimp only; omega)) (⟨⟨by dsimp only; omega, by dsimp only; omega, by simp; omega, by simp; omega⟩, o46, f48, (by first | omega | (dsimp only; omega))⟩) (pc 4 rfl pn) (pc 0 rfl (pc 2 rfl (pc 3 rfl pn))) rfl (List.Sublist.refl _)
 ·skip
  refine kc_exit (kq_code (kc_seq (kc_seq (kc_region (kl_mv rfl (kl_callT rfl rfl (pick_ok q23 (5 : Int) (by omega) hr) (fun v49 L1 Ln K53 h50 f51 f52 => ?_)))))))
  obtain ⟨q54, h55, rfl, rfl, z56, rfl, h57⟩ := h50
  refine kl_norm ?_
  refine kl_as rfl (kl_nil (kq_code (kc_block (kc_no ?_))))
  refine kc_loopK (A := Int × List Con × Value × Hp × Hp × Nat) (fun zz => (0 ≤ zz.1 ∧ zz.1 ≤ 4 ∧ zz.2.1.length + zz.1.toNat ≤ 4 ∧ ∀ c ∈ zz.2.1, ConSm 50 c) ∧ Fr B zz.2.2.2.2.1 ∧ OwnL 70 5 zz.2.2.2.1 zz.2.2.2.2.1 ConV zz.2.2.1 zz.2.1 ∧ Fr B zz.2.2.2.1 ∧ zz.2.2.2.2.2 ≤ q54 + 100 * (4 - zz.1).toNat) (fun zz => zz.1.toNat) (fun zz => zz.2.2.2.2.1) (fun zz => [zz.2.2.2.1, sing br (.cells [vbr, .int .i64 (zz.2.2.2.2.2 : Int)].toArray 85 (0, 0)), H18, sing b3 (.cells [v21, zz.2.2.1].toArray 26 (0, 0)), sing b1 (.cells [.slice none 0 0, .slice none 0 0].toArray 26 (0, 0))]) (fun zz => [(5, .int .i64 zz.1)]) (z56, [], .slice none 0 0, noHp, noHp, q54) (pc 0 rfl (pc 2 rfl (pc 3 rfl pn))) (pc 5 rfl pn) rfl ⟨⟨by dsimp only; omega, by dsimp only; omega, by dsimp only; simp; omega, all_nil⟩, (fr_no _), OwnL.nil, (fr_no _), (by first | omega | (dsimp only; omega))⟩ ?_
  rintro ⟨k, cs, v65, H62, K66, q69⟩ hJ71
  obtain ⟨hi61, f67, o63, f64, hq70⟩ : (0 ≤ k ∧ k ≤ 4 ∧ cs.length + k.toNat ≤ 4 ∧ ∀ c ∈ cs, ConSm 50 c) ∧ Fr B K66 ∧ OwnL 70 5 H62 K66 ConV v65 cs ∧ Fr B H62 ∧ q69 ≤ q54 + 100 * (4 - k).toNat := hJ71
  change KC _ _ (K66 :: _) [H62, sing br (.cells [vbr, .int .i64 (q69 : Int)].toArray 85 (0, 0)), H18, sing b3 (.cells [v21, v65].toArray 26 (0, 0)), sing b1 (.cells [.slice none 0 0, .slice none 0 0].toArray 26 (0, 0))] _ ([(5, .int .i64 k)] ++ _)
  have hall := hi61.2.2.2
  refine kc_seq (kc_seq (kc_region (kl_mv rfl (kl_gtr rfl rfl ?_))))
  refine kl_nil (kq_code (kc_if rfl (fun c72 => ?_) (fun c72 => ?_)))
  ·skip
   refine kc_skipQ (kq_code (kc_seq (kc_block (kc_tree (fun i => ([8, 10] : List Nat).contains i) [sing b3 (.cells [v21, v65].toArray 26 (0, 0))] (by kernel_rfl) ?_))))
   refine kt_q 0 (.cons _ (.cons _ (.cons _ (.cons_cons _ (List.nil_sublist _))))) rfl (by kernel_rfl) (kl_fdV rfl (kl_nil (kq_q (kt_q 1 (.cons _ (.cons _ (.cons _ (.cons_cons _ (List.nil_sublist _))))) rfl (by kernel_rfl) (kl_ld rfl (at_box (T := 26) (cs := [v21, v65]) (off := 1) (fz := (0, 0))) (kl_nil (kq_q (kt_q 2 (.cons _ (.cons _ (.cons _ (.cons_cons _ (List.nil_sublist _))))) rfl (by kernel_rfl) ?_))))))))
   refine kl_mv rfl (kl_nil (kq_q (kt_q 3 (.cons _ (.cons _ (.cons _ (.cons_cons _ (List.nil_sublist _))))) rfl (by kernel_rfl) (kl_fdV rfl (kl_nil (kq_q (kt_q 4 (.cons _ (.cons _ (.cons _ (.cons_cons _ (List.nil_sublist _))))) rfl (by kernel_rfl) (kl_ld rfl (at_box (T := 26) (cs := [v21, v65]) (off := 0) (fz := (0, 0))) (kl_nil (kq_q (kt_q 5 (.cons _ (.cons _ (.cons _ (.cons_cons _ (List.nil_sublist _))))) rfl (by kernel_rfl) ?_)))))))))))
   refine kl_lenL rfl o19 (fun l73 => ?_)
   refine kl_nil (kq_q (kt_a 6 rfl (by kernel_rfl) (kl_callT rfl rfl (randomConstraint_ok q69 (ds.length : Int) (by first | assumption | omega) (by omega) hr) (fun v74 L1 Ln K78 h75 f76 f77 => ?_))))
   obtain ⟨q79, h80, rfl, z81, rfl, h85, h82⟩ := h75
   obtain ⟨_, rfl, h89⟩ := h85
   have h89' := h89
   obtain ⟨u86, u87, u88, rfl, h90, h91, h92⟩ := h89
   refine kl_norm ?_
   refine kl_nil (kq_a (.cons _ (.cons _ (.cons _ (.cons_cons _ (List.nil_sublist _))))) (kt_a 7 rfl (by kernel_rfl) (kl_bsK rfl (fun v93 H94 f95 r96 => ?_))))
   refine kl_nil (kq_a (.cons _ (.cons _ (.cons _ (.cons_cons _ (List.nil_sublist _))))) (kt_a 8 rfl (by kernel_rfl) (kl_cmp K66 K78 (fun c97 => ?_))))
   have o98 := OwnL.mono (K' := orHp K66 K78) o63 orL
   refine kl_apL z81 rfl rfl o98 r96 (RMono.mono (orC c97) (by assumption)) (oc rfl (oc (Sl.oneCell (by assumption)) (oc (Sl.oneCell (by assumption)) (oc rfl (oc (Sl.oneCell (by assumption)) oc_nil))))) (by omega) (by decide) (fun v99 H100 o101 f102 => ?_)
   have f103 := f102 B f64 (Nat.le_refl _)
   refine kl_nil (kq_x rfl (kt_q 9 (.cons _ (.cons _ (.cons _ (.cons_cons _ (List.nil_sublist _))))) rfl (by kernel_rfl) (kl_fdV rfl (kl_nil (kq_q (kt_a 10 rfl (by kernel_rfl) (kl_stB rfl rfl rfl (OwnL.oneCell (by assumption)) (OwnL.cells (by assumption)) ?_)))))))
   refine kl_chg [sing br (.cells [vbr, .int .i64 (q79 : Int)].toArray 85 (0, 0)), H100, H18, sing b3 (.cells [v21, v99].toArray 26 (0, 0)), sing b1 (.cells [.slice none 0 0, .slice none 0 0].toArray 26 (0, 0))] rfl ?_
   refine kl_nil (kq_x rfl (kt_end (by kernel_rfl) ?_))
   refine kq_code (kc_region (kl_mv rfl (kl_sub rfl rfl (by omega) ?_)))
   refine kl_as rfl (kl_nil (kq_take [H100, sing br (.cells [vbr, .int .i64 (q79 : Int)].toArray 85 (0, 0)), H18, sing b3 (.cells [v21, v99].toArray 26 (0, 0)), sing b1 (.cells [.slice none 0 0, .slice none 0 0].toArray 26 (0, 0))] ?_))
   refine kq_roundK ((k - (1 : Int)), (cs ++ [z81]), v99, H100, (orHp K66 K78), q79) (by (dsimp only; omega)) (⟨⟨by dsimp only; omega, by dsimp only; omega, by simp; omega, all_snoc hi61.2.2.2 (by assumption)⟩, (fr_or f67 f77), o101, f103, (by first | omega | (dsimp only; omega))⟩) (pc 5 rfl pn) (pc 0 rfl (pc 2 rfl (pc 3 rfl pn))) rfl (List.Sublist.refl _)
  ·skip
   refine kc_exit (kq_code (kc_seq (kc_region (kl_ldW rfl rfl (kl_stW (us := [v21, v65]) rfl rfl rfl rfl (oc (OwnL.oneCell (by assumption)) (oc (OwnL.oneCell (by assumption)) oc_nil)) rfl ?_)))))
   refine kl_chg [H62, sing br (.cells [vbr, .int .i64 (q69 : Int)].toArray 85 (0, 0)), H18, sing b3 (.cells [v21, v65].toArray 26 (0, 0)), sing b1 (.cells [v21, v65].toArray 26 (0, 0))] rfl ?_
   refine kl_nil (kq_code (kc_ret ?_))
   exact kq_retTC rfl rfl rfl [sing br (.cells [vbr, .int .i64 (q69 : Int)].toArray 85 (0, 0))] [H18, H62] K66 (frc f20 (fr1 f64)) f67 ⟨q69, by omega, rfl, H18, H62, _, _, (⟨ds, cs⟩ : Mod), rfl, rfl, o19, o63, by (constructor <;> dsimp only <;> first | omega | assumption | (simp; done) | (simp; omega))⟩
theorem anyModel_ok {br : Nat} {vbr : Value} {Hr : Hp} {bsr : List Int} (pr : Nat) (hp : pr + (600) ≤ 1000000) (hr : Bytes Hr vbr bsr) : SpecT Tryz.prog 66 [.pointer (some ⟨br, 0, none⟩)] [sing br (.cells [vbr, .int .i64 (pr : Int)].toArray 85 (0, 0))] [Hr] (fun vq L1 Ln Kq => ∃ q : Nat, q ≤ pr + (600) ∧ L1 = [sing br (.cells [vbr, .int .i64 (q : Int)].toArray 85 (0, 0))] ∧ ∃ (Hq Mq : Hp) (va vc : Value) (mq : Mod), vq = .agg #[va, vc] ∧ Ln = [Hq, Mq] ∧ OwnL 3 1 Hq noHp IntV va mq.doms ∧ OwnL 70 5 Mq Kq ConV vc mq.cons ∧ ModSm 100 mq) := by
 refine specT_of Tryz.func66 rfl rfl rfl (fun B => ?_)
 refine kc_seq (kc_region (kl_alloc (cs := [.slice none 0 0, .slice none 0 0]) rfl (fun b1 hb2 => ?_)))
 refine kl_nil (kq_code (kc_seq (kc_region (kl_mv rfl (kl_callT rfl rfl (randomModel_ok pr (by omega) hr) (fun v3 L1 Ln K7 h4 f5 f6 => ?_))))))
 obtain ⟨q8, h9, rfl, H12, M14, v15, v16, z10, rfl, rfl, o13, o17, h11⟩ := h4
 have f18 := f5 _ (.head _)
 have f19 := f5 _ (.tail _ (.head _))
 have hd1 := h11.d1
 have hd4 := h11.d
 have hc1 := h11.c
 have hcc := h11.cc
 refine kl_norm ?_
 refine kl_alloc (cs := [.slice none 0 0, .slice none 0 0]) rfl (fun b20 hb21 => ?_)
 refine kl_stW (us := [v15, v16]) rfl rfl rfl rfl (oc (OwnL.oneCell (by assumption)) (oc (OwnL.oneCell (by assumption)) oc_nil)) rfl ?_
 refine kl_chg [sing b20 (.cells [v15, v16].toArray 26 (0, 0)), sing br (.cells [vbr, .int .i64 (q8 : Int)].toArray 85 (0, 0)), H12, M14, sing b1 (.cells [.slice none 0 0, .slice none 0 0].toArray 26 (0, 0))] rfl ?_
 refine kl_nil (kq_code (kc_seq (kc_seq (kc_region (kl_mv rfl (kl_callT rfl rfl (pick_ok q8 (16 : Int) (by omega) hr) (fun v22 L1 Ln K26 h23 f24 f25 => ?_)))))))
 obtain ⟨q27, h28, rfl, rfl, z29, rfl, h30⟩ := h23
 refine kl_norm ?_
 refine kl_nil (kq_code (kc_block (kc_seq (kc_region (kl_eql rfl rfl ?_)))))
 refine kl_as rfl (kl_nil (kq_code (kc_if rfl (fun c33 => ?_) (fun c33 => ?_))))
 ·skip
  refine kc_tree (fun i => ([11] : List Nat).contains i) [sing b20 (.cells [v15, v16].toArray 26 (0, 0))] (by kernel_rfl) ?_
  refine kt_q 0 (.cons _ (.cons_cons _ (List.nil_sublist _))) rfl (by kernel_rfl) (kl_fdV rfl (kl_nil (kq_q (kt_q 1 (.cons _ (.cons_cons _ (List.nil_sublist _))) rfl (by kernel_rfl) (kl_ld rfl (at_box (T := 26) (cs := [v15, v16]) (off := 0) (fz := (0, 0))) (kl_nil (kq_q (kt_q 2 (.cons _ (.cons_cons _ (List.nil_sublist _))) rfl (by kernel_rfl) (kl_mv rfl (kl_nil (kq_q ?_)))))))))))
  refine kt_q 3 (.cons _ (.cons_cons _ (List.nil_sublist _))) rfl (by kernel_rfl) (kl_fdV rfl (kl_nil (kq_q (kt_q 4 (.cons _ (.cons_cons _ (List.nil_sublist _))) rfl (by kernel_rfl) (kl_ld rfl (at_box (T := 26) (cs := [v15, v16]) (off := 0) (fz := (0, 0))) (kl_nil (kq_q (kt_q 5 (.cons _ (.cons_cons _ (List.nil_sublist _))) rfl (by kernel_rfl) (kl_lenL rfl o13 (fun l34 => ?_))))))))))
  refine kl_nil (kq_q (kt_q 7 (.cons _ (.cons_cons _ (List.nil_sublist _))) rfl (by kernel_rfl) (kl_mv rfl (kl_nil (kq_q (kt_b 6 8 rfl rfl (by kernel_rfl) ?_ ?_))))))
  ·skip
   refine kl_callT rfl rfl (pick_ok q27 (z10.doms.length : Int) (by omega) hr) (fun v35 L1 Ln K39 h36 f37 f38 => ?_)
   obtain ⟨q40, h41, rfl, rfl, z42, rfl, h43⟩ := h36
   refine kl_norm ?_
   refine kl_nil (kq_a (.cons _ (.cons_cons _ (List.nil_sublist _))) (kt_a 8 rfl (by kernel_rfl) (kl_bs rfl rfl rfl (by decide) (ca rfl (ca rfl (ca rfl ca_nil))) (fun v46 H47 f48 r49 s50 => ?_))))
   have h51 : Ints H47 v46 [(-1 : Int), (64 : Int), (0 : Int)] := litInts (xs := [(-1 : Int), (64 : Int), (0 : Int)]) (by simpa using s50)
   refine kl_nil (kq_a (.cons _ (.cons_cons _ (List.nil_sublist _))) (kt_a 9 rfl (by kernel_rfl) (kl_callT rfl rfl (one_ok q40 ([(-1 : Int), (64 : Int), (0 : Int)]) (by simp) (by omega) hr (by assumption)) (fun v52 L1 Ln K56 h53 f54 f55 => ?_))))
   obtain ⟨q57, h58, rfl, rfl, z59, rfl, h60⟩ := h53
   refine kl_norm ?_
   refine kl_nil (kq_a (.cons _ (.cons_cons _ (List.nil_sublist _))) (kt_q 10 (.cons _ (.cons_cons _ (List.nil_sublist _))) rfl (by kernel_rfl) (kl_ixL rfl rfl (by assumption) (by omega) (by omega) (fun p63 q64 => ?_))))
   refine kl_nil (kq_q (kt_a 11 rfl (by kernel_rfl) (kl_stL z59 rfl rfl (by assumption) o13 (by omega) rfl rfl rfl (fun H65 o66 f67 => ?_))))
   have f68 := f67 _ f18
   refine kl_chg [sing br (.cells [vbr, .int .i64 (q57 : Int)].toArray 85 (0, 0)), sing b20 (.cells [v15, v16].toArray 26 (0, 0)), H65, M14, sing b1 (.cells [.slice none 0 0, .slice none 0 0].toArray 26 (0, 0))] rfl ?_
   refine kl_nil (kq_x rfl (kt_end (by kernel_rfl) ?_))
   refine kq_code (kc_seq (kc_region (kl_ldW rfl rfl (kl_stW (us := [v15, v16]) rfl rfl rfl rfl (oc (OwnL.oneCell (by assumption)) (oc (OwnL.oneCell (by assumption)) oc_nil)) rfl ?_))))
   refine kl_chg [sing br (.cells [vbr, .int .i64 (q57 : Int)].toArray 85 (0, 0)), sing b20 (.cells [v15, v16].toArray 26 (0, 0)), H65, M14, sing b1 (.cells [v15, v16].toArray 26 (0, 0))] rfl ?_
   refine kl_nil (kq_code (kc_ret ?_))
   exact kq_retTC rfl rfl rfl [sing br (.cells [vbr, .int .i64 (q57 : Int)].toArray 85 (0, 0))] [H65, M14] K7 (frc f68 (fr1 f19)) f6 ⟨q57, by omega, rfl, H65, M14, _, _, (⟨(z10.doms.set z42.toNat z59), z10.cons⟩ : Mod), rfl, rfl, o66, o17, by (constructor <;> dsimp only <;> first | omega | assumption | exact all_mono (by assumption) | exact all_set (all_mono (by assumption)) (by assumption) | (simp; done) | (simp only [List.length_set]; omega) | (simp; omega))⟩
  ·skip
   refine kl_bs rfl rfl rfl (by decide) (ca rfl (ca rfl (ca rfl ca_nil))) (fun v69 H70 f71 r72 s73 => ?_)
   have h74 : Ints H70 v69 [(-1 : Int), (64 : Int), (0 : Int)] := litInts (xs := [(-1 : Int), (64 : Int), (0 : Int)]) (by simpa using s73)
   refine kl_nil (kq_a (.cons _ (.cons_cons _ (List.nil_sublist _))) (kt_a 6 rfl (by kernel_rfl) (kl_callT rfl rfl (pick_ok q27 (z10.doms.length : Int) (by omega) hr) (fun v75 L1 Ln K79 h76 f77 f78 => ?_))))
   obtain ⟨q80, h81, rfl, rfl, z82, rfl, h83⟩ := h76
   refine kl_norm ?_
   refine kl_nil (kq_a (.cons _ (.cons_cons _ (List.nil_sublist _))) (kt_a 9 rfl (by kernel_rfl) (kl_callT rfl rfl (one_ok q80 ([(-1 : Int), (64 : Int), (0 : Int)]) (by simp) (by omega) hr (by assumption)) (fun v86 L1 Ln K90 h87 f88 f89 => ?_))))
   obtain ⟨q91, h92, rfl, rfl, z93, rfl, h94⟩ := h87
   refine kl_norm ?_
   refine kl_nil (kq_a (.cons _ (.cons_cons _ (List.nil_sublist _))) (kt_q 10 (.cons _ (.cons_cons _ (List.nil_sublist _))) rfl (by kernel_rfl) (kl_ixL rfl rfl (by assumption) (by omega) (by omega) (fun p97 q98 => ?_))))
   refine kl_nil (kq_q (kt_a 11 rfl (by kernel_rfl) (kl_stL z93 rfl rfl (by assumption) o13 (by omega) rfl rfl rfl (fun H99 o100 f101 => ?_))))
   have f102 := f101 _ f18
   refine kl_chg [sing br (.cells [vbr, .int .i64 (q91 : Int)].toArray 85 (0, 0)), sing b20 (.cells [v15, v16].toArray 26 (0, 0)), H99, M14, sing b1 (.cells [.slice none 0 0, .slice none 0 0].toArray 26 (0, 0))] rfl ?_
   refine kl_nil (kq_x rfl (kt_end (by kernel_rfl) ?_))
   refine kq_code (kc_seq (kc_region (kl_ldW rfl rfl (kl_stW (us := [v15, v16]) rfl rfl rfl rfl (oc (OwnL.oneCell (by assumption)) (oc (OwnL.oneCell (by assumption)) oc_nil)) rfl ?_))))
   refine kl_chg [sing br (.cells [vbr, .int .i64 (q91 : Int)].toArray 85 (0, 0)), sing b20 (.cells [v15, v16].toArray 26 (0, 0)), H99, M14, sing b1 (.cells [v15, v16].toArray 26 (0, 0))] rfl ?_
   refine kl_nil (kq_code (kc_ret ?_))
   exact kq_retTC rfl rfl rfl [sing br (.cells [vbr, .int .i64 (q91 : Int)].toArray 85 (0, 0))] [H99, M14] K7 (frc f102 (fr1 f19)) f6 ⟨q91, by omega, rfl, H99, M14, _, _, (⟨(z10.doms.set z82.toNat z93), z10.cons⟩ : Mod), rfl, rfl, o100, o17, by (constructor <;> dsimp only <;> first | omega | assumption | exact all_mono (by assumption) | exact all_set (all_mono (by assumption)) (by assumption) | (simp; done) | (simp only [List.length_set]; omega) | (simp; omega))⟩
 ·skip
  refine kc_seq (kc_region (kl_eql rfl rfl ?_))
  refine kl_as rfl (kl_nil (kq_code (kc_if rfl (fun c103 => ?_) (fun c103 => ?_))))
  ·skip
   refine kc_seq (kc_region (kl_fdV rfl (kl_ldB rfl rfl (kl_lenL rfl o17 (fun l104 => ?_)))))
   refine kl_gtr rfl rfl ?_
   refine kl_nil (kq_code (kc_if rfl (fun c105 => ?_) (fun c105 => ?_)))
   ·skip
    refine kc_seq (kc_region (kl_mv rfl (kl_fdV rfl (kl_ldB rfl rfl (kl_lenL rfl o17 (fun l106 => ?_))))))
    refine kl_callT rfl rfl (pick_ok q27 (z10.cons.length : Int) (by omega) hr) (fun v107 L1 Ln K111 h108 f109 f110 => ?_)
    obtain ⟨q112, h113, rfl, rfl, z114, rfl, h115⟩ := h108
    refine kl_norm ?_
    refine kl_as rfl (kl_nil (kq_code (kc_tree (fun i => ([11] : List Nat).contains i) [sing b20 (.cells [v15, v16].toArray 26 (0, 0)), M14] (by kernel_rfl) ?_)))
    refine kt_q 0 (.cons _ (.cons_cons _ (.cons _ (.cons_cons _ (List.nil_sublist _))))) rfl (by kernel_rfl) (kl_fdV rfl (kl_nil (kq_q (kt_q 1 (.cons _ (.cons_cons _ (.cons _ (.cons_cons _ (List.nil_sublist _))))) rfl (by kernel_rfl) (kl_ld rfl (at_box (T := 26) (cs := [v15, v16]) (off := 1) (fz := (0, 0))) (kl_nil (kq_q (kt_q 2 (.cons _ (.cons_cons _ (.cons _ (.cons_cons _ (List.nil_sublist _))))) rfl (by kernel_rfl) ?_))))))))
    refine kl_mv rfl (kl_nil (kq_q (kt_q 3 (.cons _ (.cons_cons _ (.cons _ (.cons_cons _ (List.nil_sublist _))))) rfl (by kernel_rfl) (kl_mv rfl (kl_nil (kq_q (kt_q 4 (.cons _ (.cons_cons _ (.cons _ (.cons_cons _ (List.nil_sublist _))))) rfl (by kernel_rfl) (kl_fdV rfl (kl_nil (kq_q (kt_q 5 (.cons _ (.cons_cons _ (.cons _ (.cons_cons _ (List.nil_sublist _))))) rfl (by kernel_rfl) ?_)))))))))))
    refine kl_ld rfl (at_box (T := 26) (cs := [v15, v16]) (off := 1) (fz := (0, 0))) (kl_nil (kq_q (kt_q 6 (.cons _ (.cons_cons _ (.cons _ (.cons_cons _ (List.nil_sublist _))))) rfl (by kernel_rfl) (kl_mv rfl (kl_nil (kq_q (kt_q 7 (.cons _ (.cons_cons _ (.cons _ (.cons_cons _ (List.nil_sublist _))))) rfl (by kernel_rfl) (kl_ixL rfl rfl (by assumption) (by omega) (by omega) (fun p118 q119 => ?_)))))))))
    refine kl_nil (kq_q (kt_q 8 (.cons _ (.cons_cons _ (.cons _ (.cons_cons _ (List.nil_sublist _))))) rfl (by kernel_rfl) ?_))
    obtain ⟨u120, u121, u122, h123, h124, h125, h126⟩ := OwnL.at5 o17 (by assumption) (by omega : z114.toNat < z10.cons.length)
    refine kl_ldS rfl h123 rfl ?_
    refine kl_nil (kq_q (kt_a 9 rfl (by kernel_rfl) (kl_callT rfl rfl (damage_ok q112 (z10.cons.getD z114.toNat nilCon) (hcc _ (getD_mem (by omega))) (by omega) hr (by assumption) (by assumption) (by assumption)) (fun v127 L1 Ln K131 h128 f129 f130 => ?_))))
    obtain ⟨q132, h133, rfl, z134, rfl, h138, h135⟩ := h128
    obtain ⟨_, rfl, h142⟩ := h138
    have h142' := h142
    obtain ⟨u139, u140, u141, rfl, h143, h144, h145⟩ := h142
    refine kl_norm ?_
    refine kl_nil (kq_a (.cons _ (.cons_cons _ (.cons _ (.cons_cons _ (List.nil_sublist _))))) (kt_q 10 (.cons _ (.cons_cons _ (.cons _ (.cons_cons _ (List.nil_sublist _))))) rfl (by kernel_rfl) (kl_ixL rfl rfl (by assumption) (by omega) (by omega) (fun p146 q147 => ?_))))
    refine kl_nil (kq_q (kt_a 11 rfl (by kernel_rfl) (kl_cmp K7 (orHp K131 (orHp K7 (orHp K7 K7))) (fun c152 => ?_))))
    have o153 := OwnL.mono (K' := orHp K7 (orHp K131 (orHp K7 (orHp K7 K7)))) o17 orL
    refine kl_stLk (us := [.int .i64 z134.kind, u139, u140, .int .i64 z134.bound, u141]) z134 rfl rfl (by assumption) o153 (by omega) (RMono.mono (orC c152) (by assumption)) rfl (oc rfl (oc (Sl.oneCell (by assumption)) (oc (Sl.oneCell (by assumption)) (oc rfl (oc (Sl.oneCell (by assumption)) oc_nil))))) rfl (fun H148 o149 f150 => ?_)
    have f151 := f150 _ f19
    refine kl_chg [sing br (.cells [vbr, .int .i64 (q132 : Int)].toArray 85 (0, 0)), sing b20 (.cells [v15, v16].toArray 26 (0, 0)), H12, H148, sing b1 (.cells [.slice none 0 0, .slice none 0 0].toArray 26 (0, 0))] rfl ?_
    refine kl_nil (kq_x rfl (kt_end (by kernel_rfl) ?_))
    refine kq_code (kc_seq (kc_region (kl_ldW rfl rfl (kl_stW (us := [v15, v16]) rfl rfl rfl rfl (oc (OwnL.oneCell (by assumption)) (oc (OwnL.oneCell (by assumption)) oc_nil)) rfl ?_))))
    refine kl_chg [sing br (.cells [vbr, .int .i64 (q132 : Int)].toArray 85 (0, 0)), sing b20 (.cells [v15, v16].toArray 26 (0, 0)), H12, H148, sing b1 (.cells [v15, v16].toArray 26 (0, 0))] rfl ?_
    refine kl_nil (kq_code (kc_ret ?_))
    exact kq_retTC rfl rfl rfl [sing br (.cells [vbr, .int .i64 (q132 : Int)].toArray 85 (0, 0))] [H12, H148] (orHp K7 (orHp K131 (orHp K7 (orHp K7 K7)))) (frc f18 (fr1 f151)) (fr_or f6 (fr_or f130 (fr_or f6 (fr_or f6 f6)))) ⟨q132, by omega, rfl, H12, H148, _, _, (⟨z10.doms, (z10.cons.set z114.toNat z134)⟩ : Mod), rfl, rfl, o13, o149, by (constructor <;> dsimp only <;> first | omega | assumption | exact all_mono (by assumption) | exact all_set (all_mono (by assumption)) (by assumption) | (simp; done) | (simp only [List.length_set]; omega) | (simp; omega))⟩
   ·skip
    refine kc_skipQ (kq_code (kc_seq (kc_region (kl_ldW rfl rfl (kl_stW (us := [v15, v16]) rfl rfl rfl rfl (oc (OwnL.oneCell (by assumption)) (oc (OwnL.oneCell (by assumption)) oc_nil)) rfl ?_)))))
    refine kl_chg [sing br (.cells [vbr, .int .i64 (q27 : Int)].toArray 85 (0, 0)), sing b20 (.cells [v15, v16].toArray 26 (0, 0)), H12, M14, sing b1 (.cells [v15, v16].toArray 26 (0, 0))] rfl ?_
    refine kl_nil (kq_code (kc_ret ?_))
    exact kq_retTC rfl rfl rfl [sing br (.cells [vbr, .int .i64 (q27 : Int)].toArray 85 (0, 0))] [H12, M14] K7 (frc f18 (fr1 f19)) f6 ⟨q27, by omega, rfl, H12, M14, _, _, (⟨z10.doms, z10.cons⟩ : Mod), rfl, rfl, o13, o17, by (constructor <;> dsimp only <;> first | omega | assumption | exact all_mono (by assumption) | exact all_set (all_mono (by assumption)) (by assumption) | (simp; done) | (simp only [List.length_set]; omega) | (simp; omega))⟩
  ·skip
   refine kc_skipQ (kq_code (kc_seq (kc_region (kl_ldW rfl rfl (kl_stW (us := [v15, v16]) rfl rfl rfl rfl (oc (OwnL.oneCell (by assumption)) (oc (OwnL.oneCell (by assumption)) oc_nil)) rfl ?_)))))
   refine kl_chg [sing br (.cells [vbr, .int .i64 (q27 : Int)].toArray 85 (0, 0)), sing b20 (.cells [v15, v16].toArray 26 (0, 0)), H12, M14, sing b1 (.cells [v15, v16].toArray 26 (0, 0))] rfl ?_
   refine kl_nil (kq_code (kc_ret ?_))
   exact kq_retTC rfl rfl rfl [sing br (.cells [vbr, .int .i64 (q27 : Int)].toArray 85 (0, 0))] [H12, M14] K7 (frc f18 (fr1 f19)) f6 ⟨q27, by omega, rfl, H12, M14, _, _, (⟨z10.doms, z10.cons⟩ : Mod), rfl, rfl, o13, o17, by (constructor <;> dsimp only <;> first | omega | assumption | exact all_mono (by assumption) | exact all_set (all_mono (by assumption)) (by assumption) | (simp; done) | (simp only [List.length_set]; omega) | (simp; omega))⟩
end Go.Proofs.YtiilanckbocifaaGreat
