/- Parts of the proof: a logic of partial frames, plain functions, walks of the program's functions. Conditions: those that each statement names. -/
import Derived.Test.YtolndgeihijlbaaGreatKProveBound3
namespace Go.Proofs.YtolndgeihijlbaaGreat
open Go
set_option linter.unusedSimpArgs false
set_option linter.unusedVariables false
section
theorem damage_ok {br : Nat} {vbr : Value} {Hr : Hp} {bsr : List Int} {Hcv : Hp} {vcv : Value} {Hca : Hp} {vca : Value} {Hcr : Hp} {vcr : Value} (pr : Nat) (c : Con) (hc : ConSm 50 c) (hp : pr + (3) ≤ 1000000) (hr : Bytes Hr vbr bsr) (hcv : Ints Hcv vcv c.vars) (hca : Ints Hca vca c.args) (hcr : Rows Hcr vcr c.rows) : SpecT Tryz.prog 102 [.pointer (some ⟨br, 0, none⟩), .agg #[.int .i64 c.kind, vcv, vca, .int .i64 c.bound, vcr]] [bxS br [vbr, .int .i64 (pr : Int)] 84] [Hr, Hcv, Hca, Hcr] (fun vq L1 Ln Kq => ∃ q : Nat, q ≤ pr + (3) ∧ L1 = [bxS br [vbr, .int .i64 (q : Int)] 84] ∧ ∃ cq : Con, Ln = [] ∧ ConR (orHp Kq (orHp Hcv (orHp Hca Hcr))) vq cq ∧ ConSm 100 cq) := by
 refine specT_of Tryz.func102 rfl rfl rfl (fun B => ?_)
 refine cS (cr (kl_boxL (cs := [.int .i64 c.kind, vcv, vca, .int .i64 c.bound, vcr]) rfl rfl (fun b1 hb2 => ?_)))
 refine kl_alloc (cs := [.int .i64 (0 : Int), .slice none 0 0, .slice none 0 0, .int .i64 (0 : Int), .slice none 0 0]) rfl (fun b3 hb4 => ?_)
 refine ln (qc (cS (cS (cr (mv rfl (cT rfl rfl (pick_ok pr (5 : Int) (by omega) hr) (fun v5 L1 Ln K9 h6 f7 f8 => ?_)))))))
 obtain ⟨q10, h11, rfl, rfl, z12, rfl, h13⟩ := h6
 refine nm ?_
 refine ln (qc (bl (cS (cr (eq9 rfl rfl ?_)))))
 refine sg rfl (ln (qc (ci9 rfl (fun c16 => ?_) (fun c16 => ?_))))
 ·refine cr (mv rfl (bs9 rfl rfl rfl (by decide) (ca rfl (ca rfl (ca rfl (ca rfl ca_nil)))) (fun v17 H18 f19 r20 s21 => ?_)))
  have h22 : Ints H18 v17 [(0 : Int), (10 : Int), (1 : Int), (5 : Int)] := litInts (xs := [(0 : Int), (10 : Int), (1 : Int), (5 : Int)]) (by simpa using s21)
  refine cT rfl rfl (one_ok q10 ([(0 : Int), (10 : Int), (1 : Int), (5 : Int)]) (by first | (simp; done) | omega) (by omega) hr ‹_›) (fun v23 L1 Ln K27 h24 f25 f26 => ?_)
  obtain ⟨q28, h29, rfl, rfl, z30, rfl, h31⟩ := h24
  refine nm ?_
  refine fV rfl (sB rfl rfl rfl rfl rfl ?_)
  refine cg [bxS br [vbr, .int .i64 (q28 : Int)] 84, bxS b3 [.int .i64 (0 : Int), .slice none 0 0, .slice none 0 0, .int .i64 (0 : Int), .slice none 0 0] 88, bxS b1 [.int .i64 z30, vcv, vca, .int .i64 c.bound, vcr] 88] rfl ?_
  refine ln (qc (cS (cr (kl_ldW rfl rfl (kl_stW (us := [.int .i64 z30, vcv, vca, .int .i64 c.bound, vcr]) rfl rfl rfl rfl (oc rfl (oc (Sl.oneCell ‹_›) (oc (Sl.oneCell ‹_›) (oc rfl (oc (Sl.oneCell ‹_›) oc_nil))))) rfl ?_)))))
  refine cg [bxS br [vbr, .int .i64 (q28 : Int)] 84, bxS b3 [.int .i64 z30, vcv, vca, .int .i64 c.bound, vcr] 88, bxS b1 [.int .i64 z30, vcv, vca, .int .i64 c.bound, vcr] 88] rfl ?_
  refine ln (qc (rt (kq_cmp Hca Hcr (fun c34 => ?_))))
  refine kq_cmp Hcv (orHp Hca Hcr) (fun c35 => ?_)
  refine kq_cmp noHp (orHp Hcv (orHp Hca Hcr)) (fun c36 => ?_)
  exact rC rfl rfl rfl [bxS br [vbr, .int .i64 (q28 : Int)] 84] [] noHp frn (fr_no _) ⟨q28, by omega, rfl, ⟨z30, c.vars, c.args, c.bound, c.rows⟩, rfl, ⟨_, rfl, _, _, _, rfl, (Sl.mono ‹_› (fun b o h => orC c36 b o (orL b o h)) (fun _ _ h => h)), (Sl.mono ‹_› (fun b o h => orC c36 b o (orC c35 b o (orL b o h))) (fun _ _ h => h)), (Rows.mono' ‹_› (fun b o h => orC c36 b o (orC c35 b o (orC c34 b o h))))⟩, by (have h1 := hc.v1; have h2 := hc.v; have h3 := hc.a; have h4 := hc.r; have h5 := hc.rr; constructor <;> dsimp only <;> first | omega | assumption | (simp; done) | (simp; omega))⟩
 ·refine cS (cr (eq9 rfl rfl ?_))
  refine sg rfl (ln (qc (ci9 rfl (fun c37 => ?_) (fun c37 => ?_))))
  ·refine kc_tree (fun i => ([8, 10] : List Nat).contains i) [bxS b1 [.int .i64 c.kind, vcv, vca, .int .i64 c.bound, vcr] 88] (by kernel_rfl) ?_
   refine kt_q 0 (.cons _ (.cons _ (.cons_cons _ nsl))) rfl (by kernel_rfl) (fV rfl (ln (qq (kt_q 1 (.cons _ (.cons _ (.cons_cons _ nsl))) rfl (by kernel_rfl) (ld rfl (at_box (T := 88) (cs := [.int .i64 c.kind, vcv, vca, .int .i64 c.bound, vcr]) (off := 1) (fz := (0, 0))) (ln (qq (kt_q 3 (.cons _ (.cons _ (.cons_cons _ nsl))) rfl (by kernel_rfl) ?_))))))))
   refine fV rfl (ln (qq (kt_q 4 (.cons _ (.cons _ (.cons_cons _ nsl))) rfl (by kernel_rfl) (ld rfl (at_box (T := 88) (cs := [.int .i64 c.kind, vcv, vca, .int .i64 c.bound, vcr]) (off := 1) (fz := (0, 0))) (ln (qq (kt_q 5 (.cons _ (.cons _ (.cons_cons _ nsl))) rfl (by kernel_rfl) (kl_inI (i := 0) rfl rfl ‹_› (by (have h1 := hc.v1; omega)) (fun p38 a39 => ?_)))))))))
   refine ln (qq (kt_q 6 (.cons _ (.cons _ (.cons_cons _ nsl))) rfl (by kernel_rfl) (ld rfl ‹_› (ln (qq (kt_b 2 7 rfl rfl (by kernel_rfl) ?_ ?_))))))
   ·refine kl_callL rfl rfl (copyInts_ok c.vars (by have h1 := hc.v; have h2 := hc.a; omega) ‹_›) (fun v40 H41 f42 o43 => ?_)
    refine ln (qa (.cons _ (.cons _ (.cons _ (.cons_cons _ nsl)))) (ta 7 rfl (bs9 rfl rfl rfl (by decide) (ca rfl ca_nil) (fun v44 H45 f46 r47 s48 => ?_))))
    have h49 : Ints H45 v44 [(c.vars.getD 0 0)] := litInts (xs := [(c.vars.getD 0 0)]) (by simpa using s48)
    refine ln (qa (.cons _ (.cons _ (.cons _ (.cons_cons _ nsl)))) (ta 8 rfl (aL9 (c.vars.getD 0 0) rfl rfl o43 ‹_› rfl (oc rfl oc_nil) (by (have h1 := hc.v; have h2 := hc.a; omega)) (by decide) (fun v50 H51 o52 f53 => ?_))))
    have f54 := f53 B f42 (Nat.le_refl _)
    refine ln (qx rfl (kt_q 9 (.cons _ (.cons _ (.cons _ (.cons_cons _ nsl)))) rfl (by kernel_rfl) (fV rfl (ln (qq (ta 10 rfl (sB rfl rfl rfl (OwnL.oneCell ‹_›) (OwnL.cells ‹_›) ?_)))))))
    refine cg [H51, bxS br [vbr, .int .i64 (q10 : Int)] 84, bxS b3 [.int .i64 (0 : Int), .slice none 0 0, .slice none 0 0, .int .i64 (0 : Int), .slice none 0 0] 88, bxS b1 [.int .i64 c.kind, v50, vca, .int .i64 c.bound, vcr] 88] rfl ?_
    refine ln (qx rfl (kt_end (by kernel_rfl) ?_))
    refine qc (cS (cr (kl_ldW rfl rfl (kl_stW (us := [.int .i64 c.kind, v50, vca, .int .i64 c.bound, vcr]) rfl rfl rfl rfl (oc rfl (oc (OwnL.oneCell ‹_›) (oc (Sl.oneCell ‹_›) (oc rfl (oc (Sl.oneCell ‹_›) oc_nil))))) rfl ?_))))
    refine cg [H51, bxS br [vbr, .int .i64 (q10 : Int)] 84, bxS b3 [.int .i64 c.kind, v50, vca, .int .i64 c.bound, vcr] 88, bxS b1 [.int .i64 c.kind, v50, vca, .int .i64 c.bound, vcr] 88] rfl ?_
    refine ln (qc (rt (kq_frz H51 ?_)))
    refine kq_cmp Hca Hcr (fun c55 => ?_)
    refine kq_cmp Hcv (orHp Hca Hcr) (fun c56 => ?_)
    refine kq_cmp H51 (orHp Hcv (orHp Hca Hcr)) (fun c57 => ?_)
    exact rC rfl rfl rfl [bxS br [vbr, .int .i64 (q10 : Int)] 84] [] H51 frn f54 ⟨q10, by omega, rfl, ⟨c.kind, (c.vars ++ [(c.vars.getD 0 0)]), c.args, c.bound, c.rows⟩, rfl, ⟨_, rfl, _, _, _, rfl, (Sl.mono (OwnL.ints o52) (fun b o h => orL b o h) (fun _ _ h => h)), (Sl.mono ‹_› (fun b o h => orC c57 b o (orC c56 b o (orL b o h))) (fun _ _ h => h)), (Rows.mono' ‹_› (fun b o h => orC c57 b o (orC c56 b o (orC c55 b o h))))⟩, by (have h1 := hc.v1; have h2 := hc.v; have h3 := hc.a; have h4 := hc.r; have h5 := hc.rr; constructor <;> dsimp only <;> first | omega | assumption | (simp; done) | (simp; omega))⟩
   ·refine bs9 rfl rfl rfl (by decide) (ca rfl ca_nil) (fun v58 H59 f60 r61 s62 => ?_)
    have h63 : Ints H59 v58 [(c.vars.getD 0 0)] := litInts (xs := [(c.vars.getD 0 0)]) (by simpa using s62)
    refine ln (qa (.cons _ (.cons _ (.cons_cons _ nsl))) (ta 2 rfl (kl_callL rfl rfl (copyInts_ok c.vars (by have h1 := hc.v; have h2 := hc.a; omega) ‹_›) (fun v64 H65 f66 o67 => ?_))))
    refine ln (qa (.cons _ (.cons _ (.cons _ (.cons_cons _ nsl)))) (ta 8 rfl (aL9 (c.vars.getD 0 0) rfl rfl o67 ‹_› rfl (oc rfl oc_nil) (by (have h1 := hc.v; have h2 := hc.a; omega)) (by decide) (fun v68 H69 o70 f71 => ?_))))
    have f72 := f71 B f66 (Nat.le_refl _)
    refine ln (qx rfl (kt_q 9 (.cons _ (.cons _ (.cons _ (.cons_cons _ nsl)))) rfl (by kernel_rfl) (fV rfl (ln (qq (ta 10 rfl (sB rfl rfl rfl (OwnL.oneCell ‹_›) (OwnL.cells ‹_›) ?_)))))))
    refine cg [H69, bxS br [vbr, .int .i64 (q10 : Int)] 84, bxS b3 [.int .i64 (0 : Int), .slice none 0 0, .slice none 0 0, .int .i64 (0 : Int), .slice none 0 0] 88, bxS b1 [.int .i64 c.kind, v68, vca, .int .i64 c.bound, vcr] 88] rfl ?_
    refine ln (qx rfl (kt_end (by kernel_rfl) ?_))
    refine qc (cS (cr (kl_ldW rfl rfl (kl_stW (us := [.int .i64 c.kind, v68, vca, .int .i64 c.bound, vcr]) rfl rfl rfl rfl (oc rfl (oc (OwnL.oneCell ‹_›) (oc (Sl.oneCell ‹_›) (oc rfl (oc (Sl.oneCell ‹_›) oc_nil))))) rfl ?_))))
    refine cg [H69, bxS br [vbr, .int .i64 (q10 : Int)] 84, bxS b3 [.int .i64 c.kind, v68, vca, .int .i64 c.bound, vcr] 88, bxS b1 [.int .i64 c.kind, v68, vca, .int .i64 c.bound, vcr] 88] rfl ?_
    refine ln (qc (rt (kq_frz H69 ?_)))
    refine kq_cmp Hca Hcr (fun c73 => ?_)
    refine kq_cmp Hcv (orHp Hca Hcr) (fun c74 => ?_)
    refine kq_cmp H69 (orHp Hcv (orHp Hca Hcr)) (fun c75 => ?_)
    exact rC rfl rfl rfl [bxS br [vbr, .int .i64 (q10 : Int)] 84] [] H69 frn f72 ⟨q10, by omega, rfl, ⟨c.kind, (c.vars ++ [(c.vars.getD 0 0)]), c.args, c.bound, c.rows⟩, rfl, ⟨_, rfl, _, _, _, rfl, (Sl.mono (OwnL.ints o70) (fun b o h => orL b o h) (fun _ _ h => h)), (Sl.mono ‹_› (fun b o h => orC c75 b o (orC c74 b o (orL b o h))) (fun _ _ h => h)), (Rows.mono' ‹_› (fun b o h => orC c75 b o (orC c74 b o (orC c73 b o h))))⟩, by (have h1 := hc.v1; have h2 := hc.v; have h3 := hc.a; have h4 := hc.r; have h5 := hc.rr; constructor <;> dsimp only <;> first | omega | assumption | (simp; done) | (simp; omega))⟩
  ·refine cS (cr (eq9 rfl rfl ?_))
   refine sg rfl (ln (qc (ci9 rfl (fun c76 => ?_) (fun c76 => ?_))))
   ·refine cr (fV rfl (lB rfl rfl (kl_callL rfl rfl (copyInts_ok c.args (by have h1 := hc.v; have h2 := hc.a; omega) ‹_›) (fun v77 H78 f79 o80 => ?_))))
    refine bs9 rfl rfl rfl (by decide) (ca rfl ca_nil) (fun v81 H82 f83 r84 s85 => ?_)
    have h86 : Ints H82 v81 [(1 : Int)] := litInts (xs := [(1 : Int)]) (by simpa using s85)
    refine aL9 (1 : Int) rfl rfl o80 ‹_› rfl (oc rfl oc_nil) (by (have h1 := hc.v; have h2 := hc.a; omega)) (by decide) (fun v87 H88 o89 f90 => ?_)
    have f91 := f90 B f79 (Nat.le_refl _)
    refine fV rfl (sB rfl rfl rfl (OwnL.oneCell ‹_›) (OwnL.cells ‹_›) ?_)
    refine cg [H88, bxS br [vbr, .int .i64 (q10 : Int)] 84, bxS b3 [.int .i64 (0 : Int), .slice none 0 0, .slice none 0 0, .int .i64 (0 : Int), .slice none 0 0] 88, bxS b1 [.int .i64 c.kind, vcv, v87, .int .i64 c.bound, vcr] 88] rfl ?_
    refine ln (qc (cS (cr (kl_ldW rfl rfl (kl_stW (us := [.int .i64 c.kind, vcv, v87, .int .i64 c.bound, vcr]) rfl rfl rfl rfl (oc rfl (oc (Sl.oneCell ‹_›) (oc (OwnL.oneCell ‹_›) (oc rfl (oc (Sl.oneCell ‹_›) oc_nil))))) rfl ?_)))))
    refine cg [H88, bxS br [vbr, .int .i64 (q10 : Int)] 84, bxS b3 [.int .i64 c.kind, vcv, v87, .int .i64 c.bound, vcr] 88, bxS b1 [.int .i64 c.kind, vcv, v87, .int .i64 c.bound, vcr] 88] rfl ?_
    refine ln (qc (rt (kq_frz H88 ?_)))
    refine kq_cmp Hca Hcr (fun c92 => ?_)
    refine kq_cmp Hcv (orHp Hca Hcr) (fun c93 => ?_)
    refine kq_cmp H88 (orHp Hcv (orHp Hca Hcr)) (fun c94 => ?_)
    exact rC rfl rfl rfl [bxS br [vbr, .int .i64 (q10 : Int)] 84] [] H88 frn f91 ⟨q10, by omega, rfl, ⟨c.kind, c.vars, (c.args ++ [(1 : Int)]), c.bound, c.rows⟩, rfl, ⟨_, rfl, _, _, _, rfl, (Sl.mono ‹_› (fun b o h => orC c94 b o (orL b o h)) (fun _ _ h => h)), (Sl.mono (OwnL.ints o89) (fun b o h => orL b o h) (fun _ _ h => h)), (Rows.mono' ‹_› (fun b o h => orC c94 b o (orC c93 b o (orC c92 b o h))))⟩, by (have h1 := hc.v1; have h2 := hc.v; have h3 := hc.a; have h4 := hc.r; have h5 := hc.rr; constructor <;> dsimp only <;> first | omega | assumption | (simp; done) | (simp; omega))⟩
   ·refine cS (cr (eq9 rfl rfl ?_))
    refine sg rfl (ln (qc (ci9 rfl (fun c95 => ?_) (fun c95 => ?_))))
    ·refine cr (mv rfl (bs9 rfl rfl rfl (by decide) (ca rfl (ca rfl (ca rfl ca_nil))) (fun v96 H97 f98 r99 s100 => ?_)))
     have h101 : Ints H97 v96 [(-1000 : Int), (1000 : Int), (5 : Int)] := litInts (xs := [(-1000 : Int), (1000 : Int), (5 : Int)]) (by simpa using s100)
     refine cT rfl rfl (one_ok q10 ([(-1000 : Int), (1000 : Int), (5 : Int)]) (by first | (simp; done) | omega) (by omega) hr ‹_›) (fun v102 L1 Ln K106 h103 f104 f105 => ?_)
     obtain ⟨q107, h108, rfl, rfl, z109, rfl, h110⟩ := h103
     refine nm ?_
     refine fV rfl (sB rfl rfl rfl rfl rfl ?_)
     refine cg [bxS br [vbr, .int .i64 (q107 : Int)] 84, bxS b3 [.int .i64 (0 : Int), .slice none 0 0, .slice none 0 0, .int .i64 (0 : Int), .slice none 0 0] 88, bxS b1 [.int .i64 c.kind, vcv, vca, .int .i64 z109, vcr] 88] rfl ?_
     refine ln (qc (cS (cr (kl_ldW rfl rfl (kl_stW (us := [.int .i64 c.kind, vcv, vca, .int .i64 z109, vcr]) rfl rfl rfl rfl (oc rfl (oc (Sl.oneCell ‹_›) (oc (Sl.oneCell ‹_›) (oc rfl (oc (Sl.oneCell ‹_›) oc_nil))))) rfl ?_)))))
     refine cg [bxS br [vbr, .int .i64 (q107 : Int)] 84, bxS b3 [.int .i64 c.kind, vcv, vca, .int .i64 z109, vcr] 88, bxS b1 [.int .i64 c.kind, vcv, vca, .int .i64 z109, vcr] 88] rfl ?_
     refine ln (qc (rt (kq_cmp Hca Hcr (fun c113 => ?_))))
     refine kq_cmp Hcv (orHp Hca Hcr) (fun c114 => ?_)
     refine kq_cmp noHp (orHp Hcv (orHp Hca Hcr)) (fun c115 => ?_)
     exact rC rfl rfl rfl [bxS br [vbr, .int .i64 (q107 : Int)] 84] [] noHp frn (fr_no _) ⟨q107, by omega, rfl, ⟨c.kind, c.vars, c.args, z109, c.rows⟩, rfl, ⟨_, rfl, _, _, _, rfl, (Sl.mono ‹_› (fun b o h => orC c115 b o (orL b o h)) (fun _ _ h => h)), (Sl.mono ‹_› (fun b o h => orC c115 b o (orC c114 b o (orL b o h))) (fun _ _ h => h)), (Rows.mono' ‹_› (fun b o h => orC c115 b o (orC c114 b o (orC c113 b o h))))⟩, by (have h1 := hc.v1; have h2 := hc.v; have h3 := hc.a; have h4 := hc.r; have h5 := hc.rr; constructor <;> dsimp only <;> first | omega | assumption | (simp; done) | (simp; omega))⟩
    ·refine cr (mv rfl (bs9 rfl rfl rfl (by decide) (ca rfl (ca rfl ca_nil)) (fun v116 H117 f118 r119 s120 => ?_)))
     have h121 : Ints H117 v116 [(-1 : Int), (4 : Int)] := litInts (xs := [(-1 : Int), (4 : Int)]) (by simpa using s120)
     refine cT rfl rfl (one_ok q10 ([(-1 : Int), (4 : Int)]) (by first | (simp; done) | omega) (by omega) hr ‹_›) (fun v122 L1 Ln K126 h123 f124 f125 => ?_)
     obtain ⟨q127, h128, rfl, rfl, z129, rfl, h130⟩ := h123
     refine nm ?_
     refine bs9 rfl rfl rfl (by decide) (ca rfl ca_nil) (fun v133 H134 f135 r136 s137 => ?_)
     have h138 : Ints H134 v133 [z129] := litInts (xs := [z129]) (by simpa using s137)
     refine fV rfl (sB rfl rfl rfl (Sl.oneCell ‹_›) (Sl.cells ‹_›) ?_)
     refine cg [bxS br [vbr, .int .i64 (q127 : Int)] 84, bxS b3 [.int .i64 (0 : Int), .slice none 0 0, .slice none 0 0, .int .i64 (0 : Int), .slice none 0 0] 88, bxS b1 [.int .i64 c.kind, v133, vca, .int .i64 c.bound, vcr] 88] rfl ?_
     refine ln (qc (cS (cr (kl_ldW rfl rfl (kl_stW (us := [.int .i64 c.kind, v133, vca, .int .i64 c.bound, vcr]) rfl rfl rfl rfl (oc rfl (oc (Sl.oneCell ‹_›) (oc (Sl.oneCell ‹_›) (oc rfl (oc (Sl.oneCell ‹_›) oc_nil))))) rfl ?_)))))
     refine cg [bxS br [vbr, .int .i64 (q127 : Int)] 84, bxS b3 [.int .i64 c.kind, v133, vca, .int .i64 c.bound, vcr] 88, bxS b1 [.int .i64 c.kind, v133, vca, .int .i64 c.bound, vcr] 88] rfl ?_
     refine ln (qc (rt (kq_cmp Hca Hcr (fun c139 => ?_))))
     refine kq_cmp Hcv (orHp Hca Hcr) (fun c140 => ?_)
     refine kq_cmp H134 (orHp Hcv (orHp Hca Hcr)) (fun c141 => ?_)
     exact rC rfl rfl rfl [bxS br [vbr, .int .i64 (q127 : Int)] 84] [] H134 frn f135 ⟨q127, by omega, rfl, ⟨c.kind, ([z129]), c.args, c.bound, c.rows⟩, rfl, ⟨_, rfl, _, _, _, rfl, (Sl.mono ‹_› (fun b o h => orL b o h) (fun _ _ h => h)), (Sl.mono ‹_› (fun b o h => orC c141 b o (orC c140 b o (orL b o h))) (fun _ _ h => h)), (Rows.mono' ‹_› (fun b o h => orC c141 b o (orC c140 b o (orC c139 b o h))))⟩, by (have h1 := hc.v1; have h2 := hc.v; have h3 := hc.a; have h4 := hc.r; have h5 := hc.rr; constructor <;> dsimp only <;> first | omega | assumption | (simp; done) | (simp; omega))⟩
theorem randomModel_ok {br : Nat} {vbr : Value} {Hr : Hp} {bsr : List Int} (pr : Nat) (hp : pr + (500) ≤ 1000000) (hr : Bytes Hr vbr bsr) : SpecT Tryz.prog 101 [.pointer (some ⟨br, 0, none⟩)] [bxS br [vbr, .int .i64 (pr : Int)] 84] [Hr] (fun vq L1 Ln Kq => ∃ q : Nat, q ≤ pr + (500) ∧ L1 = [bxS br [vbr, .int .i64 (q : Int)] 84] ∧ ∃ (Hq Mq : Hp) (va vc : Value) (mq : Mod), vq = .agg #[va, vc] ∧ Ln = [Hq, Mq] ∧ OwnL 3 1 Hq noHp IntV va mq.doms ∧ OwnL 88 5 Mq Kq ConV vc mq.cons ∧ ModSm 50 mq) := by
 refine specT_of Tryz.func101 rfl rfl rfl (fun B => ?_)
 refine cS (cr (kl_alloc (cs := [.slice none 0 0, .slice none 0 0]) rfl (fun b1 hb2 => ?_)))
 refine ln (qc (cS (cr (kl_bd rfl cp_nil rfl ?_))))
 refine kl_alloc (cs := [.slice none 0 0, .slice none 0 0]) rfl (fun b3 hb4 => ?_)
 refine kl_stW (us := [.slice none 0 0, .slice none 0 0]) rfl rfl rfl rfl (oc rfl (oc rfl oc_nil)) rfl ?_
 refine cg [bxS b3 [.slice none 0 0, .slice none 0 0] 26, bxS b1 [.slice none 0 0, .slice none 0 0] 26, bxS br [vbr, .int .i64 (pr : Int)] 84] rfl ?_
 refine ln (qc (cS (cS (cr (mv rfl (cT rfl rfl (pick_ok pr (4 : Int) (by omega) hr) (fun v5 L1 Ln K9 h6 f7 f8 => ?_)))))))
 obtain ⟨q10, h11, rfl, rfl, z12, rfl, h13⟩ := h6
 refine nm ?_
 refine ad9 rfl rfl (by omega) ?_
 refine sg rfl (ln (qc (bl (kc_no ?_))))
 refine kc_loopL (A := Int × List Int × Value × Hp × Nat) (fun zz => (0 ≤ zz.1 ∧ zz.1 ≤ 4 ∧ zz.2.1.length + zz.1.toNat ≤ 4 ∧ 1 ≤ zz.2.1.length + zz.1.toNat) ∧ OwnL 3 1 zz.2.2.2.1 noHp IntV zz.2.2.1 zz.2.1 ∧ Fr B zz.2.2.2.1 ∧ zz.2.2.2.2 ≤ q10 + 3 * (4 - zz.1).toNat) (fun zz => zz.1.toNat) (fun zz => [zz.2.2.2.1, bxS br [vbr, .int .i64 (zz.2.2.2.2 : Int)] 84, bxS b3 [zz.2.2.1, .slice none 0 0] 26, bxS b1 [.slice none 0 0, .slice none 0 0] 26]) (fun zz => [(4, .int .i64 zz.1)]) (((1 : Int) + z12), [], .slice none 0 0, noHp, q10) (pk [0, 2, 3] rfl) (pc 4 rfl pn) rfl ⟨⟨by dsimp only; omega, by dsimp only; omega, by dsimp only; simp; omega, by dsimp only; simp; omega⟩, OwnL.nil, (fr_no _), (by first | omega | (dsimp only; omega))⟩ ?_
 rintro ⟨k, ds, v21, H18, q23⟩ hJ25
 obtain ⟨hi17, o19, f20, hq24⟩ : (0 ≤ k ∧ k ≤ 4 ∧ ds.length + k.toNat ≤ 4 ∧ 1 ≤ ds.length + k.toNat) ∧ OwnL 3 1 H18 noHp IntV v21 ds ∧ Fr B H18 ∧ q23 ≤ q10 + 3 * (4 - k).toNat := hJ25
 change KC _ _ (_) [H18, bxS br [vbr, .int .i64 (q23 : Int)] 84, bxS b3 [v21, .slice none 0 0] 26, bxS b1 [.slice none 0 0, .slice none 0 0] 26] _ ([(4, .int .i64 k)] ++ _)
 refine cS (cS (cr (mv rfl (kl_gtr rfl rfl ?_))))
 refine ln (qc (ci9 rfl (fun c26 => ?_) (fun c26 => ?_)))
 ·refine sk (qc (cS (bl (kc_tree (fun i => ([5, 7] : List Nat).contains i) [bxS b3 [v21, .slice none 0 0] 26] (by kernel_rfl) ?_))))
  refine kt_q 0 (.cons _ (.cons _ (.cons_cons _ nsl))) rfl (by kernel_rfl) (fV rfl (ln (qq (kt_q 1 (.cons _ (.cons _ (.cons_cons _ nsl))) rfl (by kernel_rfl) (ld rfl (at_box (T := 26) (cs := [v21, .slice none 0 0]) (off := 0) (fz := (0, 0))) (ln (qq (kt_q 2 (.cons _ (.cons _ (.cons_cons _ nsl))) rfl (by kernel_rfl) (mv rfl ?_)))))))))
  refine ln (qq (ta 3 rfl (cT rfl rfl (randomDomain_ok q23 (by omega) hr) (fun v27 L1 Ln K31 h28 f29 f30 => ?_))))
  obtain ⟨q32, h33, rfl, rfl, z34, rfl, h35⟩ := h28
  refine nm ?_
  refine ln (qa (.cons _ (.cons _ (.cons_cons _ nsl))) (ta 4 rfl (bs9 rfl rfl rfl (by decide) (ca rfl ca_nil) (fun v38 H39 f40 r41 s42 => ?_))))
  have h43 : Ints H39 v38 [z34] := litInts (xs := [z34]) (by simpa using s42)
  refine ln (qa (.cons _ (.cons _ (.cons_cons _ nsl))) (ta 5 rfl (aL9 z34 rfl rfl o19 ‹_› rfl (oc rfl oc_nil) (by omega) (by decide) (fun v44 H45 o46 f47 => ?_))))
  have f48 := f47 B f20 (Nat.le_refl _)
  refine ln (qx rfl (kt_q 6 (.cons _ (.cons _ (.cons_cons _ nsl))) rfl (by kernel_rfl) (fV rfl (ln (qq (ta 7 rfl (sB rfl rfl rfl (OwnL.oneCell ‹_›) (OwnL.cells ‹_›) ?_)))))))
  refine cg [bxS br [vbr, .int .i64 (q32 : Int)] 84, H45, bxS b3 [v44, .slice none 0 0] 26, bxS b1 [.slice none 0 0, .slice none 0 0] 26] rfl ?_
  refine ln (qx rfl (kt_end (by kernel_rfl) ?_))
  refine qc (cr (mv rfl (sb9 rfl rfl (by omega) ?_)))
  refine sg rfl (ln (tk [H45, bxS br [vbr, .int .i64 (q32 : Int)] 84, bxS b3 [v44, .slice none 0 0] 26, bxS b1 [.slice none 0 0, .slice none 0 0] 26] ?_))
  refine rL ((k - (1 : Int)), (ds ++ [z34]), v44, H45, q32) (by (dsimp only; omega)) (⟨⟨by dsimp only; omega, by dsimp only; omega, by simp; omega, by simp; omega⟩, o46, f48, (by first | omega | (dsimp only; omega))⟩) (pc 4 rfl pn) (pk [0, 2, 3] rfl) rfl slr9
 ·refine ex9 (qc (cS (cS (cr (mv rfl (cT rfl rfl (pick_ok q23 (5 : Int) (by omega) hr) (fun v49 L1 Ln K53 h50 f51 f52 => ?_)))))))
  obtain ⟨q54, h55, rfl, rfl, z56, rfl, h57⟩ := h50
  refine nm ?_
  refine sg rfl (ln (qc (bl (kc_no ?_))))
  refine kc_loopK (A := Int × List Con × Value × Hp × Hp × Nat) (fun zz => (0 ≤ zz.1 ∧ zz.1 ≤ 4 ∧ zz.2.1.length + zz.1.toNat ≤ 4 ∧ ∀ c ∈ zz.2.1, ConSm 50 c) ∧ Fr B zz.2.2.2.2.1 ∧ OwnL 88 5 zz.2.2.2.1 zz.2.2.2.2.1 ConV zz.2.2.1 zz.2.1 ∧ Fr B zz.2.2.2.1 ∧ zz.2.2.2.2.2 ≤ q54 + 100 * (4 - zz.1).toNat) (fun zz => zz.1.toNat) (fun zz => zz.2.2.2.2.1) (fun zz => [zz.2.2.2.1, bxS br [vbr, .int .i64 (zz.2.2.2.2.2 : Int)] 84, H18, bxS b3 [v21, zz.2.2.1] 26, bxS b1 [.slice none 0 0, .slice none 0 0] 26]) (fun zz => [(5, .int .i64 zz.1)]) (z56, [], .slice none 0 0, noHp, noHp, q54) (pk [0, 2, 3] rfl) (pc 5 rfl pn) rfl ⟨⟨by dsimp only; omega, by dsimp only; omega, by dsimp only; simp; omega, all_nil⟩, (fr_no _), OwnL.nil, (fr_no _), (by first | omega | (dsimp only; omega))⟩ ?_
  rintro ⟨k, cs, v65, H62, K66, q69⟩ hJ71
  obtain ⟨hi61, f67, o63, f64, hq70⟩ : (0 ≤ k ∧ k ≤ 4 ∧ cs.length + k.toNat ≤ 4 ∧ ∀ c ∈ cs, ConSm 50 c) ∧ Fr B K66 ∧ OwnL 88 5 H62 K66 ConV v65 cs ∧ Fr B H62 ∧ q69 ≤ q54 + 100 * (4 - k).toNat := hJ71
  change KC _ _ (K66 :: _) [H62, bxS br [vbr, .int .i64 (q69 : Int)] 84, H18, bxS b3 [v21, v65] 26, bxS b1 [.slice none 0 0, .slice none 0 0] 26] _ ([(5, .int .i64 k)] ++ _)
  have hall := hi61.2.2.2
  refine cS (cS (cr (mv rfl (kl_gtr rfl rfl ?_))))
  refine ln (qc (ci9 rfl (fun c72 => ?_) (fun c72 => ?_)))
  ·refine sk (qc (cS (bl (kc_tree (fun i => ([8, 10] : List Nat).contains i) [bxS b3 [v21, v65] 26] (by kernel_rfl) ?_))))
   refine kt_q 0 (.cons _ (.cons _ (.cons _ (.cons_cons _ nsl)))) rfl (by kernel_rfl) (fV rfl (ln (qq (kt_q 1 (.cons _ (.cons _ (.cons _ (.cons_cons _ nsl)))) rfl (by kernel_rfl) (ld rfl (at_box (T := 26) (cs := [v21, v65]) (off := 1) (fz := (0, 0))) (ln (qq (kt_q 2 (.cons _ (.cons _ (.cons _ (.cons_cons _ nsl)))) rfl (by kernel_rfl) ?_))))))))
   refine mv rfl (ln (qq (kt_q 3 (.cons _ (.cons _ (.cons _ (.cons_cons _ nsl)))) rfl (by kernel_rfl) (fV rfl (ln (qq (kt_q 4 (.cons _ (.cons _ (.cons _ (.cons_cons _ nsl)))) rfl (by kernel_rfl) (ld rfl (at_box (T := 26) (cs := [v21, v65]) (off := 0) (fz := (0, 0))) (ln (qq (kt_q 5 (.cons _ (.cons _ (.cons _ (.cons_cons _ nsl)))) rfl (by kernel_rfl) ?_)))))))))))
   refine lL rfl o19 (fun l73 => ?_)
   refine ln (qq (ta 6 rfl (cT rfl rfl (randomConstraint_ok q69 (ds.length : Int) (by first | assumption | omega) (by omega) hr) (fun v74 L1 Ln K78 h75 f76 f77 => ?_))))
   obtain ⟨q79, h80, rfl, z81, rfl, h85, h82⟩ := h75
   obtain ⟨_, rfl, h89⟩ := h85
   have h89' := h89
   obtain ⟨u86, u87, u88, rfl, h90, h91, h92⟩ := h89
   refine nm ?_
   refine ln (qa (.cons _ (.cons _ (.cons _ (.cons_cons _ nsl)))) (ta 7 rfl (kl_bsK rfl (fun v93 H94 f95 r96 => ?_))))
   refine ln (qa (.cons _ (.cons _ (.cons _ (.cons_cons _ nsl)))) (ta 8 rfl (cm9 K66 K78 (fun c97 => ?_))))
   have o98 := OwnL.mono (K' := orHp K66 K78) o63 orL
   refine aL9 z81 rfl rfl o98 r96 (RMono.mono (orC c97) ‹_›) (oc rfl (oc (Sl.oneCell ‹_›) (oc (Sl.oneCell ‹_›) (oc rfl (oc (Sl.oneCell ‹_›) oc_nil))))) (by omega) (by decide) (fun v99 H100 o101 f102 => ?_)
   have f103 := f102 B f64 (Nat.le_refl _)
   refine ln (qx rfl (kt_q 9 (.cons _ (.cons _ (.cons _ (.cons_cons _ nsl)))) rfl (by kernel_rfl) (fV rfl (ln (qq (ta 10 rfl (sB rfl rfl rfl (OwnL.oneCell ‹_›) (OwnL.cells ‹_›) ?_)))))))
   refine cg [bxS br [vbr, .int .i64 (q79 : Int)] 84, H100, H18, bxS b3 [v21, v99] 26, bxS b1 [.slice none 0 0, .slice none 0 0] 26] rfl ?_
   refine ln (qx rfl (kt_end (by kernel_rfl) ?_))
   refine qc (cr (mv rfl (sb9 rfl rfl (by omega) ?_)))
   refine sg rfl (ln (tk [H100, bxS br [vbr, .int .i64 (q79 : Int)] 84, H18, bxS b3 [v21, v99] 26, bxS b1 [.slice none 0 0, .slice none 0 0] 26] ?_))
   refine kq_roundK ((k - (1 : Int)), (cs ++ [z81]), v99, H100, (orHp K66 K78), q79) (by (dsimp only; omega)) (⟨⟨by dsimp only; omega, by dsimp only; omega, by simp; omega, all_snoc hi61.2.2.2 ‹_›⟩, (fr_or f67 f77), o101, f103, (by first | omega | (dsimp only; omega))⟩) (pc 5 rfl pn) (pk [0, 2, 3] rfl) rfl slr9
  ·refine ex9 (qc (cS (cr (kl_ldW rfl rfl (kl_stW (us := [v21, v65]) rfl rfl rfl rfl (oc (OwnL.oneCell ‹_›) (oc (OwnL.oneCell ‹_›) oc_nil)) rfl ?_)))))
   refine cg [H62, bxS br [vbr, .int .i64 (q69 : Int)] 84, H18, bxS b3 [v21, v65] 26, bxS b1 [v21, v65] 26] rfl ?_
   refine ln (qc (rt ?_))
   exact rC rfl rfl rfl [bxS br [vbr, .int .i64 (q69 : Int)] 84] [H18, H62] K66 (frc f20 (fr1 f64)) f67 ⟨q69, by omega, rfl, H18, H62, _, _, (⟨ds, cs⟩ : Mod), rfl, rfl, o19, o63, by (constructor <;> dsimp only <;> first | omega | assumption | (simp; done) | (simp; omega))⟩
theorem anyModel_ok {br : Nat} {vbr : Value} {Hr : Hp} {bsr : List Int} (pr : Nat) (hp : pr + (600) ≤ 1000000) (hr : Bytes Hr vbr bsr) : SpecT Tryz.prog 64 [.pointer (some ⟨br, 0, none⟩)] [bxS br [vbr, .int .i64 (pr : Int)] 84] [Hr] (fun vq L1 Ln Kq => ∃ q : Nat, q ≤ pr + (600) ∧ L1 = [bxS br [vbr, .int .i64 (q : Int)] 84] ∧ ∃ (Hq Mq : Hp) (va vc : Value) (mq : Mod), vq = .agg #[va, vc] ∧ Ln = [Hq, Mq] ∧ OwnL 3 1 Hq noHp IntV va mq.doms ∧ OwnL 88 5 Mq Kq ConV vc mq.cons ∧ ModSm 100 mq) := by
 refine specT_of Tryz.func64 rfl rfl rfl (fun B => ?_)
 refine cS (cr (kl_alloc (cs := [.slice none 0 0, .slice none 0 0]) rfl (fun b1 hb2 => ?_)))
 refine ln (qc (cS (cr (mv rfl (cT rfl rfl (randomModel_ok pr (by omega) hr) (fun v3 L1 Ln K7 h4 f5 f6 => ?_))))))
 obtain ⟨q8, h9, rfl, H12, M14, v15, v16, z10, rfl, rfl, o13, o17, h11⟩ := h4
 have f18 := f5 _ (.head _)
 have f19 := f5 _ (.tail _ (.head _))
 have hd1 := h11.d1
 have hd4 := h11.d
 have hc1 := h11.c
 have hcc := h11.cc
 refine nm ?_
 refine kl_alloc (cs := [.slice none 0 0, .slice none 0 0]) rfl (fun b20 hb21 => ?_)
 refine kl_stW (us := [v15, v16]) rfl rfl rfl rfl (oc (OwnL.oneCell ‹_›) (oc (OwnL.oneCell ‹_›) oc_nil)) rfl ?_
 refine cg [bxS b20 [v15, v16] 26, bxS br [vbr, .int .i64 (q8 : Int)] 84, H12, M14, bxS b1 [.slice none 0 0, .slice none 0 0] 26] rfl ?_
 refine ln (qc (cS (cS (cr (mv rfl (cT rfl rfl (pick_ok q8 (16 : Int) (by omega) hr) (fun v22 L1 Ln K26 h23 f24 f25 => ?_)))))))
 obtain ⟨q27, h28, rfl, rfl, z29, rfl, h30⟩ := h23
 refine nm ?_
 refine ln (qc (bl (cS (cr (eq9 rfl rfl ?_)))))
 refine sg rfl (ln (qc (ci9 rfl (fun c33 => ?_) (fun c33 => ?_))))
 ·refine kc_tree (fun i => ([11] : List Nat).contains i) [bxS b20 [v15, v16] 26] (by kernel_rfl) ?_
  refine kt_q 0 (.cons _ (.cons_cons _ nsl)) rfl (by kernel_rfl) (fV rfl (ln (qq (kt_q 1 (.cons _ (.cons_cons _ nsl)) rfl (by kernel_rfl) (ld rfl (at_box (T := 26) (cs := [v15, v16]) (off := 0) (fz := (0, 0))) (ln (qq (kt_q 2 (.cons _ (.cons_cons _ nsl)) rfl (by kernel_rfl) (mv rfl (ln (qq ?_)))))))))))
  refine kt_q 3 (.cons _ (.cons_cons _ nsl)) rfl (by kernel_rfl) (fV rfl (ln (qq (kt_q 4 (.cons _ (.cons_cons _ nsl)) rfl (by kernel_rfl) (ld rfl (at_box (T := 26) (cs := [v15, v16]) (off := 0) (fz := (0, 0))) (ln (qq (kt_q 5 (.cons _ (.cons_cons _ nsl)) rfl (by kernel_rfl) (lL rfl o13 (fun l34 => ?_))))))))))
  refine ln (qq (kt_q 7 (.cons _ (.cons_cons _ nsl)) rfl (by kernel_rfl) (mv rfl (ln (qq (kt_b 6 8 rfl rfl (by kernel_rfl) ?_ ?_))))))
  ·refine cT rfl rfl (pick_ok q27 (z10.doms.length : Int) (by omega) hr) (fun v35 L1 Ln K39 h36 f37 f38 => ?_)
   obtain ⟨q40, h41, rfl, rfl, z42, rfl, h43⟩ := h36
   refine nm ?_
   refine ln (qa (.cons _ (.cons_cons _ nsl)) (ta 8 rfl (bs9 rfl rfl rfl (by decide) (ca rfl (ca rfl (ca rfl ca_nil))) (fun v46 H47 f48 r49 s50 => ?_))))
   have h51 : Ints H47 v46 [(-1 : Int), (64 : Int), (0 : Int)] := litInts (xs := [(-1 : Int), (64 : Int), (0 : Int)]) (by simpa using s50)
   refine ln (qa (.cons _ (.cons_cons _ nsl)) (ta 9 rfl (cT rfl rfl (one_ok q40 ([(-1 : Int), (64 : Int), (0 : Int)]) (by simp) (by omega) hr ‹_›) (fun v52 L1 Ln K56 h53 f54 f55 => ?_))))
   obtain ⟨q57, h58, rfl, rfl, z59, rfl, h60⟩ := h53
   refine nm ?_
   refine ln (qa (.cons _ (.cons_cons _ nsl)) (kt_q 10 (.cons _ (.cons_cons _ nsl)) rfl (by kernel_rfl) (kl_ixL rfl rfl ‹_› (by omega) (by omega) (fun p63 q64 => ?_))))
   refine ln (qq (ta 11 rfl (kl_stL z59 rfl rfl ‹_› o13 (by omega) rfl rfl rfl (fun H65 o66 f67 => ?_))))
   have f68 := f67 _ f18
   refine cg [bxS br [vbr, .int .i64 (q57 : Int)] 84, bxS b20 [v15, v16] 26, H65, M14, bxS b1 [.slice none 0 0, .slice none 0 0] 26] rfl ?_
   refine ln (qx rfl (kt_end (by kernel_rfl) ?_))
   refine qc (cS (cr (kl_ldW rfl rfl (kl_stW (us := [v15, v16]) rfl rfl rfl rfl (oc (OwnL.oneCell ‹_›) (oc (OwnL.oneCell ‹_›) oc_nil)) rfl ?_))))
   refine cg [bxS br [vbr, .int .i64 (q57 : Int)] 84, bxS b20 [v15, v16] 26, H65, M14, bxS b1 [v15, v16] 26] rfl ?_
   refine ln (qc (rt ?_))
   exact rC rfl rfl rfl [bxS br [vbr, .int .i64 (q57 : Int)] 84] [H65, M14] K7 (frc f68 (fr1 f19)) f6 ⟨q57, by omega, rfl, H65, M14, _, _, (⟨(z10.doms.set z42.toNat z59), z10.cons⟩ : Mod), rfl, rfl, o66, o17, by (constructor <;> dsimp only <;> first | omega | assumption | exact all_mono ‹_› | exact all_set (all_mono ‹_›) ‹_› | (simp; done) | (simp only [List.length_set]; omega) | (simp; omega))⟩
  ·refine bs9 rfl rfl rfl (by decide) (ca rfl (ca rfl (ca rfl ca_nil))) (fun v69 H70 f71 r72 s73 => ?_)
   have h74 : Ints H70 v69 [(-1 : Int), (64 : Int), (0 : Int)] := litInts (xs := [(-1 : Int), (64 : Int), (0 : Int)]) (by simpa using s73)
   refine ln (qa (.cons _ (.cons_cons _ nsl)) (ta 6 rfl (cT rfl rfl (pick_ok q27 (z10.doms.length : Int) (by omega) hr) (fun v75 L1 Ln K79 h76 f77 f78 => ?_))))
   obtain ⟨q80, h81, rfl, rfl, z82, rfl, h83⟩ := h76
   refine nm ?_
   refine ln (qa (.cons _ (.cons_cons _ nsl)) (ta 9 rfl (cT rfl rfl (one_ok q80 ([(-1 : Int), (64 : Int), (0 : Int)]) (by simp) (by omega) hr ‹_›) (fun v86 L1 Ln K90 h87 f88 f89 => ?_))))
   obtain ⟨q91, h92, rfl, rfl, z93, rfl, h94⟩ := h87
   refine nm ?_
   refine ln (qa (.cons _ (.cons_cons _ nsl)) (kt_q 10 (.cons _ (.cons_cons _ nsl)) rfl (by kernel_rfl) (kl_ixL rfl rfl ‹_› (by omega) (by omega) (fun p97 q98 => ?_))))
   refine ln (qq (ta 11 rfl (kl_stL z93 rfl rfl ‹_› o13 (by omega) rfl rfl rfl (fun H99 o100 f101 => ?_))))
   have f102 := f101 _ f18
   refine cg [bxS br [vbr, .int .i64 (q91 : Int)] 84, bxS b20 [v15, v16] 26, H99, M14, bxS b1 [.slice none 0 0, .slice none 0 0] 26] rfl ?_
   refine ln (qx rfl (kt_end (by kernel_rfl) ?_))
   refine qc (cS (cr (kl_ldW rfl rfl (kl_stW (us := [v15, v16]) rfl rfl rfl rfl (oc (OwnL.oneCell ‹_›) (oc (OwnL.oneCell ‹_›) oc_nil)) rfl ?_))))
   refine cg [bxS br [vbr, .int .i64 (q91 : Int)] 84, bxS b20 [v15, v16] 26, H99, M14, bxS b1 [v15, v16] 26] rfl ?_
   refine ln (qc (rt ?_))
   exact rC rfl rfl rfl [bxS br [vbr, .int .i64 (q91 : Int)] 84] [H99, M14] K7 (frc f102 (fr1 f19)) f6 ⟨q91, by omega, rfl, H99, M14, _, _, (⟨(z10.doms.set z82.toNat z93), z10.cons⟩ : Mod), rfl, rfl, o100, o17, by (constructor <;> dsimp only <;> first | omega | assumption | exact all_mono ‹_› | exact all_set (all_mono ‹_›) ‹_› | (simp; done) | (simp only [List.length_set]; omega) | (simp; omega))⟩
 ·refine cS (cr (eq9 rfl rfl ?_))
  refine sg rfl (ln (qc (ci9 rfl (fun c103 => ?_) (fun c103 => ?_))))
  ·refine cS (cr (fV rfl (lB rfl rfl (lL rfl o17 (fun l104 => ?_)))))
   refine kl_gtr rfl rfl ?_
   refine ln (qc (ci9 rfl (fun c105 => ?_) (fun c105 => ?_)))
   ·refine cS (cr (mv rfl (fV rfl (lB rfl rfl (lL rfl o17 (fun l106 => ?_))))))
    refine cT rfl rfl (pick_ok q27 (z10.cons.length : Int) (by omega) hr) (fun v107 L1 Ln K111 h108 f109 f110 => ?_)
    obtain ⟨q112, h113, rfl, rfl, z114, rfl, h115⟩ := h108
    refine nm ?_
    refine sg rfl (ln (qc (kc_tree (fun i => ([11] : List Nat).contains i) [bxS b20 [v15, v16] 26, M14] (by kernel_rfl) ?_)))
    refine kt_q 0 (.cons _ (.cons_cons _ (.cons _ (.cons_cons _ nsl)))) rfl (by kernel_rfl) (fV rfl (ln (qq (kt_q 1 (.cons _ (.cons_cons _ (.cons _ (.cons_cons _ nsl)))) rfl (by kernel_rfl) (ld rfl (at_box (T := 26) (cs := [v15, v16]) (off := 1) (fz := (0, 0))) (ln (qq (kt_q 2 (.cons _ (.cons_cons _ (.cons _ (.cons_cons _ nsl)))) rfl (by kernel_rfl) ?_))))))))
    refine mv rfl (ln (qq (kt_q 3 (.cons _ (.cons_cons _ (.cons _ (.cons_cons _ nsl)))) rfl (by kernel_rfl) (mv rfl (ln (qq (kt_q 4 (.cons _ (.cons_cons _ (.cons _ (.cons_cons _ nsl)))) rfl (by kernel_rfl) (fV rfl (ln (qq (kt_q 5 (.cons _ (.cons_cons _ (.cons _ (.cons_cons _ nsl)))) rfl (by kernel_rfl) ?_)))))))))))
    refine ld rfl (at_box (T := 26) (cs := [v15, v16]) (off := 1) (fz := (0, 0))) (ln (qq (kt_q 6 (.cons _ (.cons_cons _ (.cons _ (.cons_cons _ nsl)))) rfl (by kernel_rfl) (mv rfl (ln (qq (kt_q 7 (.cons _ (.cons_cons _ (.cons _ (.cons_cons _ nsl)))) rfl (by kernel_rfl) (kl_ixL rfl rfl ‹_› (by omega) (by omega) (fun p118 q119 => ?_)))))))))
    refine ln (qq (kt_q 8 (.cons _ (.cons_cons _ (.cons _ (.cons_cons _ nsl)))) rfl (by kernel_rfl) ?_))
    obtain ⟨u120, u121, u122, h123, h124, h125, h126⟩ := OwnL.at5 o17 ‹_› (by omega : z114.toNat < z10.cons.length)
    refine kl_ldS rfl h123 rfl ?_
    refine ln (qq (ta 9 rfl (cT rfl rfl (damage_ok q112 (z10.cons.getD z114.toNat nilCon) (hcc _ (getD_mem (by omega))) (by omega) hr ‹_› ‹_› ‹_›) (fun v127 L1 Ln K131 h128 f129 f130 => ?_))))
    obtain ⟨q132, h133, rfl, z134, rfl, h138, h135⟩ := h128
    obtain ⟨_, rfl, h142⟩ := h138
    have h142' := h142
    obtain ⟨u139, u140, u141, rfl, h143, h144, h145⟩ := h142
    refine nm ?_
    refine ln (qa (.cons _ (.cons_cons _ (.cons _ (.cons_cons _ nsl)))) (kt_q 10 (.cons _ (.cons_cons _ (.cons _ (.cons_cons _ nsl)))) rfl (by kernel_rfl) (kl_ixL rfl rfl ‹_› (by omega) (by omega) (fun p146 q147 => ?_))))
    refine ln (qq (ta 11 rfl (cm9 K7 (orHp K131 (orHp K7 (orHp K7 K7))) (fun c152 => ?_))))
    have o153 := OwnL.mono (K' := orHp K7 (orHp K131 (orHp K7 (orHp K7 K7)))) o17 orL
    refine kl_stLk (us := [.int .i64 z134.kind, u139, u140, .int .i64 z134.bound, u141]) z134 rfl rfl ‹_› o153 (by omega) (RMono.mono (orC c152) ‹_›) rfl (oc rfl (oc (Sl.oneCell ‹_›) (oc (Sl.oneCell ‹_›) (oc rfl (oc (Sl.oneCell ‹_›) oc_nil))))) rfl (fun H148 o149 f150 => ?_)
    have f151 := f150 _ f19
    refine cg [bxS br [vbr, .int .i64 (q132 : Int)] 84, bxS b20 [v15, v16] 26, H12, H148, bxS b1 [.slice none 0 0, .slice none 0 0] 26] rfl ?_
    refine ln (qx rfl (kt_end (by kernel_rfl) ?_))
    refine qc (cS (cr (kl_ldW rfl rfl (kl_stW (us := [v15, v16]) rfl rfl rfl rfl (oc (OwnL.oneCell ‹_›) (oc (OwnL.oneCell ‹_›) oc_nil)) rfl ?_))))
    refine cg [bxS br [vbr, .int .i64 (q132 : Int)] 84, bxS b20 [v15, v16] 26, H12, H148, bxS b1 [v15, v16] 26] rfl ?_
    refine ln (qc (rt ?_))
    exact rC rfl rfl rfl [bxS br [vbr, .int .i64 (q132 : Int)] 84] [H12, H148] (orHp K7 (orHp K131 (orHp K7 (orHp K7 K7)))) (frc f18 (fr1 f151)) (fr_or f6 (fr_or f130 (fr_or f6 (fr_or f6 f6)))) ⟨q132, by omega, rfl, H12, H148, _, _, (⟨z10.doms, (z10.cons.set z114.toNat z134)⟩ : Mod), rfl, rfl, o13, o149, by (constructor <;> dsimp only <;> first | omega | assumption | exact all_mono ‹_› | exact all_set (all_mono ‹_›) ‹_› | (simp; done) | (simp only [List.length_set]; omega) | (simp; omega))⟩
   ·refine sk (qc (cS (cr (kl_ldW rfl rfl (kl_stW (us := [v15, v16]) rfl rfl rfl rfl (oc (OwnL.oneCell ‹_›) (oc (OwnL.oneCell ‹_›) oc_nil)) rfl ?_)))))
    refine cg [bxS br [vbr, .int .i64 (q27 : Int)] 84, bxS b20 [v15, v16] 26, H12, M14, bxS b1 [v15, v16] 26] rfl ?_
    refine ln (qc (rt ?_))
    exact rC rfl rfl rfl [bxS br [vbr, .int .i64 (q27 : Int)] 84] [H12, M14] K7 (frc f18 (fr1 f19)) f6 ⟨q27, by omega, rfl, H12, M14, _, _, (⟨z10.doms, z10.cons⟩ : Mod), rfl, rfl, o13, o17, by (constructor <;> dsimp only <;> first | omega | assumption | exact all_mono ‹_› | exact all_set (all_mono ‹_›) ‹_› | (simp; done) | (simp only [List.length_set]; omega) | (simp; omega))⟩
  ·refine sk (qc (cS (cr (kl_ldW rfl rfl (kl_stW (us := [v15, v16]) rfl rfl rfl rfl (oc (OwnL.oneCell ‹_›) (oc (OwnL.oneCell ‹_›) oc_nil)) rfl ?_)))))
   refine cg [bxS br [vbr, .int .i64 (q27 : Int)] 84, bxS b20 [v15, v16] 26, H12, M14, bxS b1 [v15, v16] 26] rfl ?_
   refine ln (qc (rt ?_))
   exact rC rfl rfl rfl [bxS br [vbr, .int .i64 (q27 : Int)] 84] [H12, M14] K7 (frc f18 (fr1 f19)) f6 ⟨q27, by omega, rfl, H12, M14, _, _, (⟨z10.doms, z10.cons⟩ : Mod), rfl, rfl, o13, o17, by (constructor <;> dsimp only <;> first | omega | assumption | exact all_mono ‹_› | exact all_set (all_mono ‹_›) ‹_› | (simp; done) | (simp only [List.length_set]; omega) | (simp; omega))⟩
end
section
theorem within_ok (n : Int) (lo : Int) (hi : Int) : SpecP Tryz.prog 52 [.int .i64 n, .int .i64 lo, .int .i64 hi] [] (.bool (withinB n lo hi)) := by
 refine spec_of Tryz.func52 rfl rfl rfl (fun B => ?_)
 refine cS (cr (sg rfl (ln (qc (cS (cr (mv rfl (mv rfl (kl_geq rfl rfl ?_)))))))))
 refine mv rfl (jn 4 14 (.bool (decide (lo ≤ n) && decide (n ≤ hi))) (pk [6, 10] rfl) (fun J2 => ?_) ?_)
 ·rcases Bool.eq_false_or_eq_true (decide (lo ≤ n)) with g1 | g1
  ·have g1p := of_decide_eq_true g1
   refine gT rfl rfl g1 (mv rfl (gT rfl rfl g1 (mv rfl (gT rfl rfl g1 (kl_leq rfl rfl ?_)))))
   refine aT rfl rfl g1 ?_
   exact J2 _ (pk [14, 6, 10] rfl)
  ·refine gF rfl rfl g1 (gF rfl rfl g1 (gF rfl rfl g1 (aF (decide (n ≤ hi)) rfl rfl g1 ?_)))
   exact J2 _ (pk [14, 6, 10] rfl)
 refine sg rfl (ln (qc (rt (kq_retP rfl rfl (congrArg Value.bool ?_)))))
 rfl
theorem indexInts_ok {Hxs : Hp} {vxs : Value} (xs : List Int) (x : Int) (hxs : Ints Hxs vxs xs) : SpecP Tryz.prog 186 [vxs, .int .i64 x] [Hxs] (.int .i64 (indexBy (fun y => decide (x = y)) xs)) := by
 refine spec_of Tryz.func186 rfl rfl rfl (fun B => ?_)
 refine cS (cr (sg rfl (ln (qc (cS (cS (cr (mv rfl (le9 rfl ‹_› (fun l1 => ?_))))))))))
 refine mv rfl (ln (qc (bl (kc_loop0 (A := Nat) (fun zz => (zz ≤ xs.length) ∧ ((xs.take zz).any (fun y => decide (x = y)) = false)) (fun zz => xs.length - zz) (fun zz => [(8, .int .i64 (zz : Int))]) (0) (pk [0, 1, 7] rfl) (pc 8 rfl pn) ⟨Nat.zero_le _, by simp⟩ ?_))))
 rintro k hJ4
 obtain ⟨hk2, hi3⟩ : (k ≤ xs.length) ∧ ((xs.take k).any (fun y => decide (x = y)) = false) := hJ4
 change KC _ _ (_) _ _ ([(8, .int .i64 (k : Int))] ++ _)
 refine cS (cr (ls9 rfl rfl ?_))
 refine ln (qc (cS (ci9 rfl (fun c5 => ?_) (fun c5 => ?_))))
 ·refine sk (qc (cS (bl (cS (cr (mv rfl (sg rfl (ln (qc (cS (cr (mv rfl ?_))))))))))))
  refine mv rfl (mv rfl (kl_inI rfl rfl ‹_› (by omega) (fun p6 a7 => ?_)))
  refine ld rfl ‹_› (eq9 rfl rfl ?_)
  refine ln (qc (ci9 rfl (fun c8 => ?_) (fun c8 => ?_)))
  ·refine cS (cr (mv rfl (sg rfl (ln (qc (rt (kq_retP rfl rfl (congrArg (Value.int .i64) ?_))))))))
   exact indexBy_hit (d := 0) (by omega) ‹_› (by simpa using by assumption)
  ·refine sk (qc (cr (ic9 rfl rfl (by omega) ?_)))
   refine mv rfl (ln (kq_round0 ((k + 1)) (by omega) (⟨by omega, any_take_step (d := 0) (by omega) hi3 (by simpa using by assumption)⟩) (pc 8 rfl pn) (pk [0, 1, 7] rfl) slr9))
 ·refine ex9 (qc (cS (cr (sg rfl (ln (qc (rt (kq_retP rfl rfl (congrArg (Value.int .i64) ?_)))))))))
  exact indexBy_none (by omega) ‹_›
theorem containsInts_ok {Hxs : Hp} {vxs : Value} (xs : List Int) (x : Int) (hxs : Ints Hxs vxs xs) : SpecP Tryz.prog 170 [vxs, .int .i64 x] [Hxs] (.bool (xs.contains x)) := by
 refine spec_of Tryz.func170 rfl rfl rfl (fun B => ?_)
 refine cS (cr (sg rfl (ln (qc (cS (cr (mv rfl (mv rfl (cP rfl rfl (indexInts_ok xs x ‹_›) ?_)))))))))
 refine kl_geq rfl rfl ?_
 refine sg rfl (ln (qc (rt (kq_retP rfl rfl (congrArg Value.bool ?_)))))
 rw [indexBy_any]; rw [List.contains_eq_any_beq]; rfl
theorem distinct_ok {Hxs : Hp} {vxs : Value} (xs : List Int) (hxs : Ints Hxs vxs xs) : SpecP Tryz.prog 131 [vxs] [Hxs] (.bool (distinctB xs)) := by
 refine spec_of Tryz.func131 rfl rfl rfl (fun B => ?_)
 refine cS (cr (sg rfl (ln (qc (cS (cS (cr (mv rfl (le9 rfl ‹_› (fun l1 => ?_))))))))))
 refine mv rfl (ln (qc (bl (kc_loop0 (A := Nat) (fun zz => (zz ≤ xs.length) ∧ ((xs.take zz).Nodup)) (fun zz => xs.length - zz) (fun zz => [(7, .int .i64 (zz : Int))]) (0) (pk [0, 5, 6] rfl) (pc 7 rfl pn) ⟨Nat.zero_le _, by simp⟩ ?_))))
 rintro k hJ4
 obtain ⟨hk2, hi3⟩ : (k ≤ xs.length) ∧ ((xs.take k).Nodup) := hJ4
 change KC _ _ (_) _ _ ([(7, .int .i64 (k : Int))] ++ _)
 refine cS (cr (ls9 rfl rfl ?_))
 refine ln (qc (cS (ci9 rfl (fun c5 => ?_) (fun c5 => ?_))))
 ·refine sk (qc (cS (bl (cS (cr (mv rfl (kl_inI rfl rfl ‹_› (by omega) (fun p6 a7 => ?_))))))))
  refine ld rfl ‹_› (sg rfl (sg rfl (ln (qc (cS (cr (mv rfl (mv rfl (kl_slTake rfl rfl ‹_› (by omega) (fun u8 h9 => ?_))))))))))
  refine mv rfl (cP rfl rfl (containsInts_ok (xs.take k) (xs.getD k 0) ‹_›) ?_)
  refine ln (qc (cd9 rfl (fun c10 => ?_) (fun c10 => ?_)))
  ·have c10r := c10
   try simp only [smpE] at c10
   refine cS (cr (sg rfl (ln (qc (rt (kq_retP rfl rfl (congrArg Value.bool ?_)))))))
   simp only [distinctB]; exact (decide_eq_false (nodup_not (k := k) (by omega) (by simp at *; assumption))).symm
  ·have c10r := c10
   try simp only [smpE] at c10
   refine sk (qc (cr (ic9 rfl rfl (by omega) ?_)))
   refine mv rfl (ln (kq_round0 ((k + 1)) (by omega) (⟨by omega, (nodup_take_succ (by omega)).2 ⟨hi3, by simp at *; assumption⟩⟩) (pc 7 rfl pn) (pk [0, 5, 6] rfl) slr9))
 ·refine ex9 (qc (cS (cr (sg rfl (ln (qc (rt (kq_retP rfl rfl (congrArg Value.bool ?_)))))))))
  simp only [distinctB]; rw [List.take_of_length_le (by omega)] at hi3; exact (decide_eq_true hi3).symm
theorem ixf_int_ok {Hxs : Hp} {vxs : Value} {gp : Nat} {capsp : Array Value} {imp : List Hp} [FnC Tryz.prog gp] (xs : List Int) (p : Int → Bool) (hxs : Ints Hxs vxs xs) (hp : ∀ n : Int, n ∈ xs → SpecP Tryz.prog gp (.int .i64 n :: capsp.toList) imp (.bool (p n))) : SpecP Tryz.prog 126 [vxs, .func (.func gp) #[] capsp] (Hxs :: imp) (.int .i64 (indexBy p xs)) := by
 refine spec_of Tryz.func126 rfl rfl rfl (fun B => ?_)
 refine cS (cr (sg rfl (ln (qc (cS (cS (cr (mv rfl (le9 rfl ‹_› (fun l1 => ?_))))))))))
 refine mv rfl (ln (qc (bl (kc_loop0 (A := Nat) (fun zz => (zz ≤ xs.length) ∧ ((xs.take zz).any p = false)) (fun zz => xs.length - zz) (fun zz => [(8, .int .i64 (zz : Int))]) (0) (pk [0, 1, 7] rfl) (pc 8 rfl pn) ⟨Nat.zero_le _, by simp⟩ ?_))))
 rintro k hJ4
 obtain ⟨hk2, hi3⟩ : (k ≤ xs.length) ∧ ((xs.take k).any p = false) := hJ4
 change KC _ _ (_) _ _ ([(8, .int .i64 (k : Int))] ++ _)
 refine cS (cr (ls9 rfl rfl ?_))
 refine ln (qc (cS (ci9 rfl (fun c5 => ?_) (fun c5 => ?_))))
 ·refine sk (qc (cS (bl (cS (cr (mv rfl (sg rfl (ln (qc (cS (cr (mv rfl ?_))))))))))))
  refine mv rfl (mv rfl (kl_inI rfl rfl ‹_› (by omega) (fun p6 a7 => ?_)))
  refine ld rfl ‹_› (cP rfl rfl (hp (xs.getD k 0) (getD_mem (by omega))) ?_)
  refine ln (qc (cd9 rfl (fun c8 => ?_) (fun c8 => ?_)))
  ·have c8r := c8
   try simp only [smpE] at c8
   refine cS (cr (mv rfl (sg rfl (ln (qc (rt (kq_retP rfl rfl (congrArg (Value.int .i64) ?_))))))))
   exact indexBy_hit (d := 0) (by omega) ‹_› ‹_›
  ·have c8r := c8
   try simp only [smpE] at c8
   refine sk (qc (cr (ic9 rfl rfl (by omega) ?_)))
   refine mv rfl (ln (kq_round0 ((k + 1)) (by omega) (⟨by omega, any_take_step (d := 0) (by omega) hi3 ‹_›⟩) (pc 8 rfl pn) (pk [0, 1, 7] rfl) slr9))
 ·refine ex9 (qc (cS (cr (sg rfl (ln (qc (rt (kq_retP rfl rfl (congrArg (Value.int .i64) ?_)))))))))
  exact indexBy_none (by omega) ‹_›
theorem cf_int_ok {Hxs : Hp} {vxs : Value} {gp : Nat} {capsp : Array Value} {imp : List Hp} [FnC Tryz.prog gp] (xs : List Int) (p : Int → Bool) (hxs : Ints Hxs vxs xs) (hp : ∀ n : Int, n ∈ xs → SpecP Tryz.prog gp (.int .i64 n :: capsp.toList) imp (.bool (p n))) : SpecP Tryz.prog 81 [vxs, .func (.func gp) #[] capsp] (Hxs :: imp) (.bool (xs.any p)) := by
 refine spec_of Tryz.func81 rfl rfl rfl (fun B => ?_)
 refine cS (cr (sg rfl (ln (qc (cS (cr (mv rfl (mv rfl (cP rfl rfl (ixf_int_ok xs p ‹_› hp) ?_)))))))))
 refine kl_geq rfl rfl ?_
 refine sg rfl (ln (qc (rt (kq_retP rfl rfl (congrArg Value.bool ?_)))))
 exact indexBy_any p xs
theorem allIn1_ok {Hlo : Hp} {ptrlo : Value} {Hhi : Hp} {ptrhi : Value} (n : Int) (lo : Int) (hi : Int) (alo : At Hlo ptrlo [.int .i64 lo]) (ahi : At Hhi ptrhi [.int .i64 hi]) : SpecP Tryz.prog 82 [.int .i64 n, ptrlo, ptrhi] [Hlo, Hhi] (.bool (!withinB n lo hi)) := by
 refine spec_of Tryz.func82 rfl rfl rfl (fun B => ?_)
 refine cS (cr (sg rfl (ln (qc (cS (cr (mv rfl (ld rfl ‹_› (ld rfl ‹_› (cP rfl rfl (within_ok n lo hi) ?_))))))))))
 refine nt9 rfl (sg rfl (ln (qc (rt (kq_retP rfl rfl (congrArg Value.bool ?_))))))
 rfl
theorem allIn_ok {Hxs : Hp} {vxs : Value} (xs : List Int) (lo : Int) (hi : Int) (hxs : Ints Hxs vxs xs) : SpecP Tryz.prog 46 [vxs, .int .i64 lo, .int .i64 hi] [Hxs] (.bool (allInB xs lo hi)) := by
 refine spec_of Tryz.func46 rfl rfl rfl (fun B => ?_)
 refine cS (cr (kl_box rfl rfl (fun p1 H2 f3 a4 => ?_)))
 refine kl_box rfl rfl (fun p5 H6 f7 a8 => ?_)
 refine sg rfl (ln (qc (cS (cr (mv rfl (kl_mkf rfl ?_))))))
 refine cP rfl rfl (cf_int_ok xs (fun x8 => !withinB x8 lo hi) ‹_› (fun x8 _ => allIn1_ok x8 lo hi ‹_› ‹_›)) ?_
 refine nt9 rfl (sg rfl (ln (qc (rt (kq_retP rfl rfl (congrArg Value.bool ?_))))))
 simp [allInB, List.all_eq_not_any_not]
theorem domainsOk_ok {Hds : Hp} {vds : Value} (ds : List Int) (hds : Ints Hds vds ds) : SpecP Tryz.prog 87 [vds] [Hds] (.bool (domainsOkB ds)) := by
 refine spec_of Tryz.func87 rfl rfl rfl (fun B => ?_)
 refine cS (cr (sg rfl (ln (qc (cS (cr (mv rfl (le9 rfl ‹_› (fun l1 => ?_)))))))))
 refine cP rfl rfl (within_ok (ds.length : Int) (1 : Int) (4 : Int)) ?_
 refine mv rfl (jn 3 9 (.bool ((withinB (ds.length : Int) (1 : Int) (4 : Int)) && (allInB ds (0 : Int) (63 : Int)))) (pk [2, 6] rfl) (fun J3 => ?_) ?_)
 ·rcases Bool.eq_false_or_eq_true (withinB (ds.length : Int) (1 : Int) (4 : Int)) with g2 | g2
  ·have g2p := g2
   try simp only [smpD] at g2p
   refine gT rfl rfl g2 (mv rfl (gT rfl rfl g2 (cP rfl rfl (allIn_ok ds (0 : Int) (63 : Int) ‹_›) ?_)))
   refine aT rfl rfl g2 ?_
   exact J3 _ (pk [9, 2, 6] rfl)
  ·refine gF rfl rfl g2 (gF rfl rfl g2 (aF (allInB ds (0 : Int) (63 : Int)) rfl rfl g2 ?_))
   exact J3 _ (pk [9, 2, 6] rfl)
 refine sg rfl (ln (qc (rt (kq_retP rfl rfl (congrArg Value.bool ?_)))))
 rfl
theorem ixf_row_ok {Hxs : Hp} {vxs : Value} {gp : Nat} {capsp : Array Value} {imp : List Hp} [FnC Tryz.prog gp] (xs : List (List Int)) (p : List Int → Bool) (hxs : Rows Hxs vxs xs) (hp : ∀ (H : Hp) (u : Value) (r : List Int), r ∈ xs → Ints H u r → SpecP Tryz.prog gp (u :: capsp.toList) (H :: imp) (.bool (p r))) : SpecP Tryz.prog 197 [vxs, .func (.func gp) #[] capsp] (Hxs :: imp) (.int .i64 (indexBy p xs)) := by
 refine spec_of Tryz.func197 rfl rfl rfl (fun B => ?_)
 refine cS (cr (sg rfl (ln (qc (cS (cS (cr (mv rfl (le9 rfl ‹_› (fun l1 => ?_))))))))))
 refine mv rfl (ln (qc (bl (kc_loop0 (A := Nat) (fun zz => (zz ≤ xs.length) ∧ ((xs.take zz).any p = false)) (fun zz => xs.length - zz) (fun zz => [(8, .int .i64 (zz : Int))]) (0) (pk [0, 1, 7] rfl) (pc 8 rfl pn) ⟨Nat.zero_le _, by simp⟩ ?_))))
 rintro k hJ4
 obtain ⟨hk2, hi3⟩ : (k ≤ xs.length) ∧ ((xs.take k).any p = false) := hJ4
 change KC _ _ (_) _ _ ([(8, .int .i64 (k : Int))] ++ _)
 refine cS (cr (ls9 rfl rfl ?_))
 refine ln (qc (cS (ci9 rfl (fun c5 => ?_) (fun c5 => ?_))))
 ·refine sk (qc (cS (bl (cS (cr (mv rfl (sg rfl (ln (qc (cS (cr (mv rfl ?_))))))))))))
  refine mv rfl (mv rfl (kl_inS rfl rfl ‹_› (by omega) (fun p6 u8 h9 a7 => ?_)))
  refine ld rfl ‹_› (cP rfl rfl (hp _ _ (xs.getD k []) (getD_mem (by omega)) ‹_›) ?_)
  refine ln (qc (cd9 rfl (fun c10 => ?_) (fun c10 => ?_)))
  ·have c10r := c10
   try simp only [smpE] at c10
   refine cS (cr (mv rfl (sg rfl (ln (qc (rt (kq_retP rfl rfl (congrArg (Value.int .i64) ?_))))))))
   exact indexBy_hit (d := []) (by omega) ‹_› ‹_›
  ·have c10r := c10
   try simp only [smpE] at c10
   refine sk (qc (cr (ic9 rfl rfl (by omega) ?_)))
   refine mv rfl (ln (kq_round0 ((k + 1)) (by omega) (⟨by omega, any_take_step (d := []) (by omega) hi3 ‹_›⟩) (pc 8 rfl pn) (pk [0, 1, 7] rfl) slr9))
 ·refine ex9 (qc (cS (cr (sg rfl (ln (qc (rt (kq_retP rfl rfl (congrArg (Value.int .i64) ?_)))))))))
  exact indexBy_none (by omega) ‹_›
theorem cf_row_ok {Hxs : Hp} {vxs : Value} {gp : Nat} {capsp : Array Value} {imp : List Hp} [FnC Tryz.prog gp] (xs : List (List Int)) (p : List Int → Bool) (hxs : Rows Hxs vxs xs) (hp : ∀ (H : Hp) (u : Value) (r : List Int), r ∈ xs → Ints H u r → SpecP Tryz.prog gp (u :: capsp.toList) (H :: imp) (.bool (p r))) : SpecP Tryz.prog 187 [vxs, .func (.func gp) #[] capsp] (Hxs :: imp) (.bool (xs.any p)) := by
 refine spec_of Tryz.func187 rfl rfl rfl (fun B => ?_)
 refine cS (cr (sg rfl (ln (qc (cS (cr (mv rfl (mv rfl (cP rfl rfl (ixf_row_ok xs p ‹_› hp) ?_)))))))))
 refine kl_geq rfl rfl ?_
 refine sg rfl (ln (qc (rt (kq_retP rfl rfl (congrArg Value.bool ?_)))))
 exact indexBy_any p xs
theorem rowsIn1_ok {Hrow : Hp} {vrow : Value} {Hmany : Hp} {ptrmany : Value} {Hlo : Hp} {ptrlo : Value} {Hhi : Hp} {ptrhi : Value} (row : List Int) (many : Int) (lo : Int) (hi : Int) (hrow : Ints Hrow vrow row) (amany : At Hmany ptrmany [.int .i64 many]) (alo : At Hlo ptrlo [.int .i64 lo]) (ahi : At Hhi ptrhi [.int .i64 hi]) : SpecP Tryz.prog 188 [vrow, ptrmany, ptrlo, ptrhi] [Hrow, Hmany, Hlo, Hhi] (.bool (!(decide ((row.length : Int) = many) && allInB row lo hi))) := by
 refine spec_of Tryz.func188 rfl rfl rfl (fun B => ?_)
 refine cS (cr (sg rfl (ln (qc (cS (cr (mv rfl (le9 rfl ‹_› (fun l1 => ?_)))))))))
 refine ld rfl ‹_› (kl_neq rfl rfl ?_)
 refine mv rfl (jn 6 16 (.bool (decide ((row.length : Int) ≠ many) || !(allInB row lo hi))) (pk [5, 10] rfl) (fun J3 => ?_) ?_)
 ·rcases Bool.eq_false_or_eq_true (decide ((row.length : Int) ≠ many)) with g2 | g2
  ·refine gF rfl rfl g2 (gF rfl rfl g2 (gF rfl rfl g2 (gF rfl rfl g2 (gF rfl rfl g2 (oT (!(allInB row lo hi)) rfl rfl g2 ?_)))))
   exact J3 _ (pk [16, 5, 10] rfl)
  ·have g2p := of_decide_eq_false g2
   refine gT rfl rfl g2 (mv rfl (gT rfl rfl g2 (ld rfl ‹_› (gT rfl rfl g2 (ld rfl ‹_› (gT rfl rfl g2 (cP rfl rfl (allIn_ok row lo hi ‹_›) ?_)))))))
   refine gT rfl rfl g2 (nt9 rfl (oF rfl rfl g2 ?_))
   exact J3 _ (pk [16, 5, 10] rfl)
 refine sg rfl (ln (qc (rt (kq_retP rfl rfl (congrArg Value.bool ?_)))))
 simp only [Bool.not_and, decide_not]
theorem rowsIn_ok {Hrows : Hp} {vrows : Value} (rows : List (List Int)) (many : Int) (lo : Int) (hi : Int) (hrows : Rows Hrows vrows rows) : SpecP Tryz.prog 172 [vrows, .int .i64 many, .int .i64 lo, .int .i64 hi] [Hrows] (.bool (withinB rows.length 1 8 && rows.all fun r => decide ((r.length : Int) = many) && allInB r lo hi)) := by
 refine spec_of Tryz.func172 rfl rfl rfl (fun B => ?_)
 refine cS (cr (kl_box rfl rfl (fun p1 H2 f3 a4 => ?_)))
 refine kl_box rfl rfl (fun p5 H6 f7 a8 => ?_)
 refine kl_box rfl rfl (fun p9 H10 f11 a12 => ?_)
 refine sg rfl (ln (qc (cS (cr (mv rfl (le9 rfl ‹_› (fun l13 => ?_)))))))
 refine cP rfl rfl (within_ok (rows.length : Int) (1 : Int) (8 : Int)) ?_
 refine mv rfl (jn 5 17 (.bool ((withinB (rows.length : Int) (1 : Int) (8 : Int)) && !(rows.any (fun x14 => !(decide ((x14.length : Int) = many) && allInB x14 lo hi))))) (pk [8, 12] rfl) (fun J16 => ?_) ?_)
 ·rcases Bool.eq_false_or_eq_true (withinB (rows.length : Int) (1 : Int) (8 : Int)) with g14 | g14
  ·have g14p := g14
   try simp only [smpD] at g14p
   refine gT rfl rfl g14 (mv rfl (gT rfl rfl g14 (kl_mkf rfl ?_)))
   refine gT rfl rfl g14 (cP rfl rfl (cf_row_ok rows (fun x14 => !(decide ((x14.length : Int) = many) && allInB x14 lo hi)) ‹_› (fun _ ux14 x14 _ hux14 => rowsIn1_ok x14 many lo hi hux14 ‹_› ‹_› ‹_›)) ?_)
   refine gT rfl rfl g14 (nt9 rfl (aT rfl rfl g14 ?_))
   exact J16 _ (pk [17, 8, 12] rfl)
  ·refine gF rfl rfl g14 (gF rfl rfl g14 (gF rfl rfl g14 (gF rfl rfl g14 (aF (!(rows.any (fun x14 => !(decide ((x14.length : Int) = many) && allInB x14 lo hi)))) rfl rfl g14 ?_))))
   exact J16 _ (pk [17, 8, 12] rfl)
 refine sg rfl (ln (qc (rt (kq_retP rfl rfl (congrArg Value.bool ?_)))))
 simp only [List.all_eq_not_any_not]
theorem fits1_ok {Hcv : Hp} {vcv : Value} {Hca : Hp} {vca : Value} {Hcr : Hp} {vcr : Value} {Hc : Hp} {ptrc : Value} (many : Int) (lo : Int) (hi : Int) (c : Con) (hcv : Ints Hcv vcv c.vars) (hca : Ints Hca vca c.args) (hcr : Rows Hcr vcr c.rows) (ac : At Hc ptrc [.int .i64 c.kind, vcv, vca, .int .i64 c.bound, vcr]) : SpecP Tryz.prog 171 [.int .i64 many, .int .i64 lo, .int .i64 hi, ptrc] [Hcv, Hca, Hcr, Hc] (.bool (decide ((c.args.length : Int) = many) && allInB c.args lo hi)) := by
 refine spec_of Tryz.func171 rfl rfl rfl (fun B => ?_)
 refine cS (cr (sg rfl (ln (qc (cS (cr (fd9 rfl ‹_› (fun p1 a2 => ?_))))))))
 refine ld rfl ‹_› (le9 rfl ‹_› (fun l3 => ?_))
 refine mv rfl (eq9 rfl rfl ?_)
 refine mv rfl (jn 6 19 (.bool (decide ((c.args.length : Int) = many) && (allInB c.args lo hi))) (pk [7, 13] rfl) (fun J7 => ?_) ?_)
 ·rcases Bool.eq_false_or_eq_true (decide ((c.args.length : Int) = many)) with g4 | g4
  ·have g4p := of_decide_eq_true g4
   refine gT rfl rfl g4 (fd9 rfl ‹_› (fun p5 a6 => ?_))
   refine gT rfl rfl g4 (ld rfl ‹_› (gT rfl rfl g4 (mv rfl (gT rfl rfl g4 (mv rfl (gT rfl rfl g4 (cP rfl rfl (allIn_ok c.args lo hi ‹_›) ?_)))))))
   refine aT rfl rfl g4 ?_
   exact J7 _ (pk [19, 7, 13] rfl)
  ·refine gF rfl rfl g4 (gF rfl rfl g4 (gF rfl rfl g4 (gF rfl rfl g4 (gF rfl rfl g4 (aF (allInB c.args lo hi) rfl rfl g4 ?_)))))
   exact J7 _ (pk [19, 7, 13] rfl)
 refine sg rfl (ln (qc (rt (kq_retP rfl rfl (congrArg Value.bool ?_)))))
 rfl
theorem fits_ok {Hcv : Hp} {vcv : Value} {Hca : Hp} {vca : Value} {Hcr : Hp} {vcr : Value} (c : Con) (hcv : Ints Hcv vcv c.vars) (hca : Ints Hca vca c.args) (hcr : Rows Hcr vcr c.rows) : SpecP Tryz.prog 132 [.agg #[.int .i64 c.kind, vcv, vca, .int .i64 c.bound, vcr]] [Hcv, Hca, Hcr] (.bool (fitsB c)) := by
 refine spec_of Tryz.func132 rfl rfl rfl (fun B => ?_)
 refine cS (cr (kl_box rfl rfl (fun p1 H2 f3 a4 => ?_)))
 refine sg rfl (ln (qc (cS (cr (fd9 rfl ‹_› (fun p5 a6 => ?_))))))
 refine ld rfl ‹_› (le9 rfl ‹_› (fun l7 => ?_))
 refine sg rfl (ln (qc (cS (cr (kl_mkf rfl ?_)))))
 refine sg rfl (ln (qc (cS (kc_draw 9 [true, true, true, true, true, true, true, true, true] (by kernel_rfl) (by kernel_rfl) ?_))))
 refine fd9 rfl ‹_› (fun p8 a9 => ?_)
 refine ld rfl ‹_› (le9 rfl ‹_› (fun l10 => ?_))
 refine eq9 rfl rfl ?_
 refine fd9 rfl ‹_› (fun p11 a12 => ?_)
 refine ld rfl ‹_› (eq9 rfl rfl ?_)
 refine sg rfl (sg rfl (ln (qc (cS (cS (cr (fd9 rfl ‹_› (fun p13 a14 => ?_))))))))
 refine ld rfl ‹_› (ln (qc (bl (cS (cr (eq9 rfl rfl ?_))))))
 refine sg rfl (ln (qc (ci9 rfl (fun c15 => ?_) (fun c15 => ?_))))
 ·refine cS (cr (mv rfl (mv rfl (cP rfl rfl (fits1_ok (c.vars.length : Int) (-9 : Int) (9 : Int) c ‹_› ‹_› ‹_› ‹_›) ?_))))
  refine mv rfl (jn 4 30 (.bool ((decide ((c.args.length : Int) = (c.vars.length : Int)) && allInB c.args (-9 : Int) (9 : Int)) && (withinB c.bound (-999 : Int) (999 : Int)))) (pk [2, 5, 26] rfl) (fun J19 => ?_) ?_)
  ·rcases Bool.eq_false_or_eq_true (decide ((c.args.length : Int) = (c.vars.length : Int)) && allInB c.args (-9 : Int) (9 : Int)) with g16 | g16
   ·have g16p := g16
    try simp only [smpD] at g16p
    refine gT rfl rfl g16 (fd9 rfl ‹_› (fun p17 a18 => ?_))
    refine gT rfl rfl g16 (ld rfl ‹_› (gT rfl rfl g16 (cP rfl rfl (within_ok c.bound (-999 : Int) (999 : Int)) ?_)))
    refine aT rfl rfl g16 ?_
    exact J19 _ (pk [30, 2, 5, 26] rfl)
   ·refine gF rfl rfl g16 (gF rfl rfl g16 (gF rfl rfl g16 (aF (withinB c.bound (-999 : Int) (999 : Int)) rfl rfl g16 ?_)))
    exact J19 _ (pk [30, 2, 5, 26] rfl)
  refine mv rfl (jn 2 33 (.bool (((decide ((c.args.length : Int) = (c.vars.length : Int)) && allInB c.args (-9 : Int) (9 : Int)) && (withinB c.bound (-999 : Int) (999 : Int))) && decide ((c.rows.length : Int) = (0 : Int)))) (pk [2, 31] rfl) (fun J21 => ?_) ?_)
  ·rcases Bool.eq_false_or_eq_true ((decide ((c.args.length : Int) = (c.vars.length : Int)) && allInB c.args (-9 : Int) (9 : Int)) && (withinB c.bound (-999 : Int) (999 : Int))) with g20 | g20
   ·have g20p := g20
    try simp only [smpD] at g20p
    refine gT rfl rfl g20 (mv rfl (aT rfl rfl g20 ?_))
    exact J21 _ (pk [33, 2, 31] rfl)
   ·refine gF rfl rfl g20 (aF (decide ((c.rows.length : Int) = (0 : Int))) rfl rfl g20 ?_)
    exact J21 _ (pk [33, 2, 31] rfl)
  refine sg rfl (ln (qc (rt (kq_retP rfl rfl (congrArg Value.bool ?_)))))
  first | (exfalso; omega) | (simp [fitsB, rowsInB, *])
 ·refine cS (cr (eq9 rfl rfl ?_))
  refine sg rfl (ln (qc (ci9 rfl (fun c22 => ?_) (fun c22 => ?_))))
  ·refine cS (cr (mv rfl (eq9 rfl rfl ?_)))
   refine mv rfl (jn 3 41 (.bool (decide ((c.vars.length : Int) = (2 : Int)) && (decide ((c.args.length : Int) = (1 : Int)) && allInB c.args (-9 : Int) (9 : Int)))) (pk [2, 5, 6, 38] rfl) (fun J24 => ?_) ?_)
   ·rcases Bool.eq_false_or_eq_true (decide ((c.vars.length : Int) = (2 : Int))) with g23 | g23
    ·have g23p := of_decide_eq_true g23
     refine gT rfl rfl g23 (mv rfl (gT rfl rfl g23 (cP rfl rfl (fits1_ok (1 : Int) (-9 : Int) (9 : Int) c ‹_› ‹_› ‹_› ‹_›) ?_)))
     refine aT rfl rfl g23 ?_
     exact J24 _ (pk [41, 2, 5, 6, 38] rfl)
    ·refine gF rfl rfl g23 (gF rfl rfl g23 (aF (decide ((c.args.length : Int) = (1 : Int)) && allInB c.args (-9 : Int) (9 : Int)) rfl rfl g23 ?_))
     exact J24 _ (pk [41, 2, 5, 6, 38] rfl)
   refine mv rfl (jn 2 44 (.bool ((decide ((c.vars.length : Int) = (2 : Int)) && (decide ((c.args.length : Int) = (1 : Int)) && allInB c.args (-9 : Int) (9 : Int))) && decide (c.bound = (0 : Int)))) (pk [2, 5, 42] rfl) (fun J26 => ?_) ?_)
   ·rcases Bool.eq_false_or_eq_true (decide ((c.vars.length : Int) = (2 : Int)) && (decide ((c.args.length : Int) = (1 : Int)) && allInB c.args (-9 : Int) (9 : Int))) with g25 | g25
    ·have g25p := g25
     try simp only [smpD] at g25p
     refine gT rfl rfl g25 (mv rfl (aT rfl rfl g25 ?_))
     exact J26 _ (pk [44, 2, 5, 42] rfl)
    ·refine gF rfl rfl g25 (aF (decide (c.bound = (0 : Int))) rfl rfl g25 ?_)
     exact J26 _ (pk [44, 2, 5, 42] rfl)
   refine mv rfl (jn 2 47 (.bool (((decide ((c.vars.length : Int) = (2 : Int)) && (decide ((c.args.length : Int) = (1 : Int)) && allInB c.args (-9 : Int) (9 : Int))) && decide (c.bound = (0 : Int))) && decide ((c.rows.length : Int) = (0 : Int)))) (pk [2, 45] rfl) (fun J28 => ?_) ?_)
   ·rcases Bool.eq_false_or_eq_true ((decide ((c.vars.length : Int) = (2 : Int)) && (decide ((c.args.length : Int) = (1 : Int)) && allInB c.args (-9 : Int) (9 : Int))) && decide (c.bound = (0 : Int))) with g27 | g27
    ·have g27p := g27
     try simp only [smpD] at g27p
     refine gT rfl rfl g27 (mv rfl (aT rfl rfl g27 ?_))
     exact J28 _ (pk [47, 2, 45] rfl)
    ·refine gF rfl rfl g27 (aF (decide ((c.rows.length : Int) = (0 : Int))) rfl rfl g27 ?_)
     exact J28 _ (pk [47, 2, 45] rfl)
   refine sg rfl (ln (qc (rt (kq_retP rfl rfl (congrArg Value.bool ?_)))))
   first | (exfalso; omega) | (simp [fitsB, rowsInB, *])
  ·refine cS (cS (cr (eq9 rfl rfl ?_)))
   refine sg rfl (ln (qc (ci9 rfl (fun c29 => ?_) (fun c29 => ?_))))
   ·refine sk (qc (ci9 rfl (fun c30 => ?_) (fun c30 => ?_)))
    ·refine cS (cr (fd9 rfl ‹_› (fun p31 a32 => ?_)))
     refine ld rfl ‹_› (le9 rfl ‹_› (fun l33 => ?_))
     refine eq9 rfl rfl ?_
     refine mv rfl (jn 2 57 (.bool (decide ((c.args.length : Int) = (0 : Int)) && decide (c.bound = (0 : Int)))) (pk [2, 5, 55] rfl) (fun J35 => ?_) ?_)
     ·rcases Bool.eq_false_or_eq_true (decide ((c.args.length : Int) = (0 : Int))) with g34 | g34
      ·have g34p := of_decide_eq_true g34
       refine gT rfl rfl g34 (mv rfl (aT rfl rfl g34 ?_))
       exact J35 _ (pk [57, 2, 5, 55] rfl)
      ·refine gF rfl rfl g34 (aF (decide (c.bound = (0 : Int))) rfl rfl g34 ?_)
       exact J35 _ (pk [57, 2, 5, 55] rfl)
     refine mv rfl (jn 2 60 (.bool ((decide ((c.args.length : Int) = (0 : Int)) && decide (c.bound = (0 : Int))) && decide ((c.rows.length : Int) = (0 : Int)))) (pk [2, 58] rfl) (fun J37 => ?_) ?_)
     ·rcases Bool.eq_false_or_eq_true (decide ((c.args.length : Int) = (0 : Int)) && decide (c.bound = (0 : Int))) with g36 | g36
      ·have g36p := g36
       try simp only [smpD] at g36p
       refine gT rfl rfl g36 (mv rfl (aT rfl rfl g36 ?_))
       exact J37 _ (pk [60, 2, 58] rfl)
      ·refine gF rfl rfl g36 (aF (decide ((c.rows.length : Int) = (0 : Int))) rfl rfl g36 ?_)
       exact J37 _ (pk [60, 2, 58] rfl)
     refine sg rfl (ln (qc (rt (kq_retP rfl rfl (congrArg Value.bool ?_)))))
     first | (exfalso; omega) | (simp [fitsB, rowsInB, *])
    ·refine cS (cr (eq9 rfl rfl ?_))
     refine sg rfl (ln (qc (ci9 rfl (fun c38 => ?_) (fun c38 => ?_))))
     ·refine cS (cr (mv rfl (eq9 rfl rfl ?_)))
      refine mv rfl (jn 5 70 (.bool (decide ((c.vars.length : Int) = (2 : Int)) && (withinB (c.args.length : Int) (1 : Int) (6 : Int)))) (pk [1, 2, 5, 6, 65] rfl) (fun J43 => ?_) ?_)
      ·rcases Bool.eq_false_or_eq_true (decide ((c.vars.length : Int) = (2 : Int))) with g39 | g39
       ·have g39p := of_decide_eq_true g39
        refine gT rfl rfl g39 (fd9 rfl ‹_› (fun p40 a41 => ?_))
        refine gT rfl rfl g39 (ld rfl ‹_› (gT rfl rfl g39 (le9 rfl ‹_› (fun l42 => ?_))))
        refine gT rfl rfl g39 (cP rfl rfl (within_ok (c.args.length : Int) (1 : Int) (6 : Int)) ?_)
        refine aT rfl rfl g39 ?_
        exact J43 _ (pk [70, 1, 2, 5, 6, 65] rfl)
       ·refine gF rfl rfl g39 (gF rfl rfl g39 (gF rfl rfl g39 (gF rfl rfl g39 (aF (withinB (c.args.length : Int) (1 : Int) (6 : Int)) rfl rfl g39 ?_))))
        exact J43 _ (pk [70, 1, 2, 5, 6, 65] rfl)
      refine mv rfl (jn 4 75 (.bool ((decide ((c.vars.length : Int) = (2 : Int)) && (withinB (c.args.length : Int) (1 : Int) (6 : Int))) && (allInB c.args (0 : Int) (5 : Int)))) (pk [2, 5, 6, 71] rfl) (fun J47 => ?_) ?_)
      ·rcases Bool.eq_false_or_eq_true (decide ((c.vars.length : Int) = (2 : Int)) && (withinB (c.args.length : Int) (1 : Int) (6 : Int))) with g44 | g44
       ·have g44p := g44
        try simp only [smpD] at g44p
        refine gT rfl rfl g44 (fd9 rfl ‹_› (fun p45 a46 => ?_))
        refine gT rfl rfl g44 (ld rfl ‹_› (gT rfl rfl g44 (cP rfl rfl (allIn_ok c.args (0 : Int) (5 : Int) ‹_›) ?_)))
        refine aT rfl rfl g44 ?_
        exact J47 _ (pk [75, 2, 5, 6, 71] rfl)
       ·refine gF rfl rfl g44 (gF rfl rfl g44 (gF rfl rfl g44 (aF (allInB c.args (0 : Int) (5 : Int)) rfl rfl g44 ?_)))
        exact J47 _ (pk [75, 2, 5, 6, 71] rfl)
      refine mv rfl (jn 2 78 (.bool (((decide ((c.vars.length : Int) = (2 : Int)) && (withinB (c.args.length : Int) (1 : Int) (6 : Int))) && (allInB c.args (0 : Int) (5 : Int))) && decide (c.bound = (0 : Int)))) (pk [2, 5, 76] rfl) (fun J49 => ?_) ?_)
      ·rcases Bool.eq_false_or_eq_true ((decide ((c.vars.length : Int) = (2 : Int)) && (withinB (c.args.length : Int) (1 : Int) (6 : Int))) && (allInB c.args (0 : Int) (5 : Int))) with g48 | g48
       ·have g48p := g48
        try simp only [smpD] at g48p
        refine gT rfl rfl g48 (mv rfl (aT rfl rfl g48 ?_))
        exact J49 _ (pk [78, 2, 5, 76] rfl)
       ·refine gF rfl rfl g48 (aF (decide (c.bound = (0 : Int))) rfl rfl g48 ?_)
        exact J49 _ (pk [78, 2, 5, 76] rfl)
      refine mv rfl (jn 2 81 (.bool ((((decide ((c.vars.length : Int) = (2 : Int)) && (withinB (c.args.length : Int) (1 : Int) (6 : Int))) && (allInB c.args (0 : Int) (5 : Int))) && decide (c.bound = (0 : Int))) && decide ((c.rows.length : Int) = (0 : Int)))) (pk [2, 79] rfl) (fun J51 => ?_) ?_)
      ·rcases Bool.eq_false_or_eq_true (((decide ((c.vars.length : Int) = (2 : Int)) && (withinB (c.args.length : Int) (1 : Int) (6 : Int))) && (allInB c.args (0 : Int) (5 : Int))) && decide (c.bound = (0 : Int))) with g50 | g50
       ·have g50p := g50
        try simp only [smpD] at g50p
        refine gT rfl rfl g50 (mv rfl (aT rfl rfl g50 ?_))
        exact J51 _ (pk [81, 2, 79] rfl)
       ·refine gF rfl rfl g50 (aF (decide ((c.rows.length : Int) = (0 : Int))) rfl rfl g50 ?_)
        exact J51 _ (pk [81, 2, 79] rfl)
      refine sg rfl (ln (qc (rt (kq_retP rfl rfl (congrArg Value.bool ?_)))))
      first | (exfalso; omega) | (simp [fitsB, rowsInB, *])
     ·refine cS (cr (eq9 rfl rfl ?_))
      refine sg rfl (ln (qc (ci9 rfl (fun c52 => ?_) (fun c52 => ?_))))
      ·refine cS (cr (fd9 rfl ‹_› (fun p53 a54 => ?_)))
       refine ld rfl ‹_› (le9 rfl ‹_› (fun l55 => ?_))
       refine eq9 rfl rfl ?_
       refine mv rfl (jn 2 90 (.bool (decide ((c.args.length : Int) = (0 : Int)) && decide (c.bound = (0 : Int)))) (pk [1, 2, 3, 88] rfl) (fun J57 => ?_) ?_)
       ·rcases Bool.eq_false_or_eq_true (decide ((c.args.length : Int) = (0 : Int))) with g56 | g56
        ·have g56p := of_decide_eq_true g56
         refine gT rfl rfl g56 (mv rfl (aT rfl rfl g56 ?_))
         exact J57 _ (pk [90, 1, 2, 3, 88] rfl)
        ·refine gF rfl rfl g56 (aF (decide (c.bound = (0 : Int))) rfl rfl g56 ?_)
         exact J57 _ (pk [90, 1, 2, 3, 88] rfl)
       refine mv rfl (jn 5 96 (.bool ((decide ((c.args.length : Int) = (0 : Int)) && decide (c.bound = (0 : Int))) && (withinB c.rows.length 1 8 && c.rows.all fun r => decide ((r.length : Int) = (c.vars.length : Int)) && allInB r (0 : Int) (5 : Int)))) (pk [2, 91] rfl) (fun J61 => ?_) ?_)
       ·rcases Bool.eq_false_or_eq_true (decide ((c.args.length : Int) = (0 : Int)) && decide (c.bound = (0 : Int))) with g58 | g58
        ·have g58p := g58
         try simp only [smpD] at g58p
         refine gT rfl rfl g58 (fd9 rfl ‹_› (fun p59 a60 => ?_))
         refine gT rfl rfl g58 (ld rfl ‹_› (gT rfl rfl g58 (mv rfl (gT rfl rfl g58 (cP rfl rfl (rowsIn_ok c.rows (c.vars.length : Int) (0 : Int) (5 : Int) ‹_›) ?_)))))
         refine aT rfl rfl g58 ?_
         exact J61 _ (pk [96, 2, 91] rfl)
        ·refine gF rfl rfl g58 (gF rfl rfl g58 (gF rfl rfl g58 (gF rfl rfl g58 (aF (withinB c.rows.length 1 8 && c.rows.all fun r => decide ((r.length : Int) = (c.vars.length : Int)) && allInB r (0 : Int) (5 : Int)) rfl rfl g58 ?_))))
         exact J61 _ (pk [96, 2, 91] rfl)
       refine sg rfl (ln (qc (rt (kq_retP rfl rfl (congrArg Value.bool ?_)))))
       first | (exfalso; omega) | (simp [fitsB, rowsInB, *])
      ·refine cS (cr (eq9 rfl rfl ?_))
       refine sg rfl (ln (qc (ci9 rfl (fun c62 => ?_) (fun c62 => ?_))))
       ·refine cS (cr (mv rfl (cP rfl rfl (fits1_ok (1 : Int) (0 : Int) (5 : Int) c ‹_› ‹_› ‹_› ‹_›) ?_)))
        refine mv rfl (jn 4 105 (.bool ((decide ((c.args.length : Int) = (1 : Int)) && allInB c.args (0 : Int) (5 : Int)) && (withinB c.bound (0 : Int) (4 : Int)))) (pk [2, 5, 101] rfl) (fun J66 => ?_) ?_)
        ·rcases Bool.eq_false_or_eq_true (decide ((c.args.length : Int) = (1 : Int)) && allInB c.args (0 : Int) (5 : Int)) with g63 | g63
         ·have g63p := g63
          try simp only [smpD] at g63p
          refine gT rfl rfl g63 (fd9 rfl ‹_› (fun p64 a65 => ?_))
          refine gT rfl rfl g63 (ld rfl ‹_› (gT rfl rfl g63 (cP rfl rfl (within_ok c.bound (0 : Int) (4 : Int)) ?_)))
          refine aT rfl rfl g63 ?_
          exact J66 _ (pk [105, 2, 5, 101] rfl)
         ·refine gF rfl rfl g63 (gF rfl rfl g63 (gF rfl rfl g63 (aF (withinB c.bound (0 : Int) (4 : Int)) rfl rfl g63 ?_)))
          exact J66 _ (pk [105, 2, 5, 101] rfl)
        refine mv rfl (jn 2 108 (.bool (((decide ((c.args.length : Int) = (1 : Int)) && allInB c.args (0 : Int) (5 : Int)) && (withinB c.bound (0 : Int) (4 : Int))) && decide ((c.rows.length : Int) = (0 : Int)))) (pk [2, 106] rfl) (fun J68 => ?_) ?_)
        ·rcases Bool.eq_false_or_eq_true ((decide ((c.args.length : Int) = (1 : Int)) && allInB c.args (0 : Int) (5 : Int)) && (withinB c.bound (0 : Int) (4 : Int))) with g67 | g67
         ·have g67p := g67
          try simp only [smpD] at g67p
          refine gT rfl rfl g67 (mv rfl (aT rfl rfl g67 ?_))
          exact J68 _ (pk [108, 2, 106] rfl)
         ·refine gF rfl rfl g67 (aF (decide ((c.rows.length : Int) = (0 : Int))) rfl rfl g67 ?_)
          exact J68 _ (pk [108, 2, 106] rfl)
        refine sg rfl (ln (qc (rt (kq_retP rfl rfl (congrArg Value.bool ?_)))))
        first | (exfalso; omega) | (simp [fitsB, rowsInB, *])
       ·refine cS (cr (eq9 rfl rfl ?_))
        refine sg rfl (ln (qc (ci9 rfl (fun c69 => ?_) (fun c69 => ?_))))
        ·refine cS (cr (mv rfl (mv rfl (kl_mul rfl rfl (by omega) ?_))))
         refine cP rfl rfl (fits1_ok ((2 : Int) * (c.vars.length : Int)) (0 : Int) (9 : Int) c ‹_› ‹_› ‹_› ‹_›) ?_
         refine mv rfl (jn 4 119 (.bool ((decide ((c.args.length : Int) = ((2 : Int) * (c.vars.length : Int))) && allInB c.args (0 : Int) (9 : Int)) && (withinB c.bound (0 : Int) (9 : Int)))) (pk [2, 5, 115] rfl) (fun J73 => ?_) ?_)
         ·rcases Bool.eq_false_or_eq_true (decide ((c.args.length : Int) = ((2 : Int) * (c.vars.length : Int))) && allInB c.args (0 : Int) (9 : Int)) with g70 | g70
          ·have g70p := g70
           try simp only [smpD] at g70p
           refine gT rfl rfl g70 (fd9 rfl ‹_› (fun p71 a72 => ?_))
           refine gT rfl rfl g70 (ld rfl ‹_› (gT rfl rfl g70 (cP rfl rfl (within_ok c.bound (0 : Int) (9 : Int)) ?_)))
           refine aT rfl rfl g70 ?_
           exact J73 _ (pk [119, 2, 5, 115] rfl)
          ·refine gF rfl rfl g70 (gF rfl rfl g70 (gF rfl rfl g70 (aF (withinB c.bound (0 : Int) (9 : Int)) rfl rfl g70 ?_)))
           exact J73 _ (pk [119, 2, 5, 115] rfl)
         refine mv rfl (jn 2 122 (.bool (((decide ((c.args.length : Int) = ((2 : Int) * (c.vars.length : Int))) && allInB c.args (0 : Int) (9 : Int)) && (withinB c.bound (0 : Int) (9 : Int))) && decide ((c.rows.length : Int) = (0 : Int)))) (pk [2, 120] rfl) (fun J75 => ?_) ?_)
         ·rcases Bool.eq_false_or_eq_true ((decide ((c.args.length : Int) = ((2 : Int) * (c.vars.length : Int))) && allInB c.args (0 : Int) (9 : Int)) && (withinB c.bound (0 : Int) (9 : Int))) with g74 | g74
          ·have g74p := g74
           try simp only [smpD] at g74p
           refine gT rfl rfl g74 (mv rfl (aT rfl rfl g74 ?_))
           exact J75 _ (pk [122, 2, 120] rfl)
          ·refine gF rfl rfl g74 (aF (decide ((c.rows.length : Int) = (0 : Int))) rfl rfl g74 ?_)
           exact J75 _ (pk [122, 2, 120] rfl)
         refine sg rfl (ln (qc (rt (kq_retP rfl rfl (congrArg Value.bool ?_)))))
         first | (exfalso; omega) | (simp [fitsB, rowsInB, *])
        ·refine cS (cr (eq9 rfl rfl ?_))
         refine sg rfl (ln (qc (ci9 rfl (fun c76 => ?_) (fun c76 => ?_))))
         ·refine cS (cr (fd9 rfl ‹_› (fun p77 a78 => ?_)))
          refine ld rfl ‹_› (le9 rfl ‹_› (fun l79 => ?_))
          refine sb9 rfl rfl (by omega) ?_
          refine sg rfl (ln (qc (cS (cr (fd9 rfl ‹_› (fun p80 a81 => ?_))))))
          refine ld rfl ‹_› (mv rfl (cP rfl rfl (rowsIn_ok c.rows (6 : Int) (-1 : Int) ((c.rows.length : Int) - (1 : Int)) ‹_›) ?_))
          refine mv rfl (jn 4 137 (.bool ((withinB c.rows.length 1 8 && c.rows.all fun r => decide ((r.length : Int) = (6 : Int)) && allInB r (-1 : Int) ((c.rows.length : Int) - (1 : Int))) && (distinctB c.args))) (pk [1, 2, 6, 7, 133] rfl) (fun J85 => ?_) ?_)
          ·rcases Bool.eq_false_or_eq_true (withinB c.rows.length 1 8 && c.rows.all fun r => decide ((r.length : Int) = (6 : Int)) && allInB r (-1 : Int) ((c.rows.length : Int) - (1 : Int))) with g82 | g82
           ·have g82p := g82
            try simp only [smpD] at g82p
            refine gT rfl rfl g82 (fd9 rfl ‹_› (fun p83 a84 => ?_))
            refine gT rfl rfl g82 (ld rfl ‹_› (gT rfl rfl g82 (cP rfl rfl (distinct_ok c.args ‹_›) ?_)))
            refine aT rfl rfl g82 ?_
            exact J85 _ (pk [137, 1, 2, 6, 7, 133] rfl)
           ·refine gF rfl rfl g82 (gF rfl rfl g82 (gF rfl rfl g82 (aF (distinctB c.args) rfl rfl g82 ?_)))
            exact J85 _ (pk [137, 1, 2, 6, 7, 133] rfl)
          refine mv rfl (jn 5 143 (.bool (((withinB c.rows.length 1 8 && c.rows.all fun r => decide ((r.length : Int) = (6 : Int)) && allInB r (-1 : Int) ((c.rows.length : Int) - (1 : Int))) && (distinctB c.args)) && (allInB c.args (0 : Int) ((c.rows.length : Int) - (1 : Int))))) (pk [2, 6, 138] rfl) (fun J89 => ?_) ?_)
          ·rcases Bool.eq_false_or_eq_true ((withinB c.rows.length 1 8 && c.rows.all fun r => decide ((r.length : Int) = (6 : Int)) && allInB r (-1 : Int) ((c.rows.length : Int) - (1 : Int))) && (distinctB c.args)) with g86 | g86
           ·have g86p := g86
            try simp only [smpD] at g86p
            refine gT rfl rfl g86 (fd9 rfl ‹_› (fun p87 a88 => ?_))
            refine gT rfl rfl g86 (ld rfl ‹_› (gT rfl rfl g86 (mv rfl (gT rfl rfl g86 (cP rfl rfl (allIn_ok c.args (0 : Int) ((c.rows.length : Int) - (1 : Int)) ‹_›) ?_)))))
            refine aT rfl rfl g86 ?_
            exact J89 _ (pk [143, 2, 6, 138] rfl)
           ·refine gF rfl rfl g86 (gF rfl rfl g86 (gF rfl rfl g86 (gF rfl rfl g86 (aF (allInB c.args (0 : Int) ((c.rows.length : Int) - (1 : Int))) rfl rfl g86 ?_))))
            exact J89 _ (pk [143, 2, 6, 138] rfl)
          refine mv rfl (jn 2 146 (.bool ((((withinB c.rows.length 1 8 && c.rows.all fun r => decide ((r.length : Int) = (6 : Int)) && allInB r (-1 : Int) ((c.rows.length : Int) - (1 : Int))) && (distinctB c.args)) && (allInB c.args (0 : Int) ((c.rows.length : Int) - (1 : Int)))) && decide (c.bound = (0 : Int)))) (pk [2, 144] rfl) (fun J91 => ?_) ?_)
          ·rcases Bool.eq_false_or_eq_true (((withinB c.rows.length 1 8 && c.rows.all fun r => decide ((r.length : Int) = (6 : Int)) && allInB r (-1 : Int) ((c.rows.length : Int) - (1 : Int))) && (distinctB c.args)) && (allInB c.args (0 : Int) ((c.rows.length : Int) - (1 : Int)))) with g90 | g90
           ·have g90p := g90
            try simp only [smpD] at g90p
            refine gT rfl rfl g90 (mv rfl (aT rfl rfl g90 ?_))
            exact J91 _ (pk [146, 2, 144] rfl)
           ·refine gF rfl rfl g90 (aF (decide (c.bound = (0 : Int))) rfl rfl g90 ?_)
            exact J91 _ (pk [146, 2, 144] rfl)
          refine sg rfl (ln (qc (rt (kq_retP rfl rfl (congrArg Value.bool ?_)))))
          first | (exfalso; omega) | (simp [fitsB, rowsInB, *])
         ·refine sk (qc (cS (cr (sg rfl (ln (qc (rt (kq_retP rfl rfl (congrArg Value.bool ?_)))))))))
          first | (exfalso; omega) | (simp [fitsB, rowsInB, *])
   ·refine cr (eq9 rfl rfl ?_)
    refine sg rfl (ln (qc (ci9 rfl (fun c92 => ?_) (fun c92 => ?_))))
    ·refine cS (cr (fd9 rfl ‹_› (fun p93 a94 => ?_)))
     refine ld rfl ‹_› (le9 rfl ‹_› (fun l95 => ?_))
     refine eq9 rfl rfl ?_
     refine mv rfl (jn 2 57 (.bool (decide ((c.args.length : Int) = (0 : Int)) && decide (c.bound = (0 : Int)))) (pk [2, 5, 55] rfl) (fun J97 => ?_) ?_)
     ·rcases Bool.eq_false_or_eq_true (decide ((c.args.length : Int) = (0 : Int))) with g96 | g96
      ·have g96p := of_decide_eq_true g96
       refine gT rfl rfl g96 (mv rfl (aT rfl rfl g96 ?_))
       exact J97 _ (pk [57, 2, 5, 55] rfl)
      ·refine gF rfl rfl g96 (aF (decide (c.bound = (0 : Int))) rfl rfl g96 ?_)
       exact J97 _ (pk [57, 2, 5, 55] rfl)
     refine mv rfl (jn 2 60 (.bool ((decide ((c.args.length : Int) = (0 : Int)) && decide (c.bound = (0 : Int))) && decide ((c.rows.length : Int) = (0 : Int)))) (pk [2, 58] rfl) (fun J99 => ?_) ?_)
     ·rcases Bool.eq_false_or_eq_true (decide ((c.args.length : Int) = (0 : Int)) && decide (c.bound = (0 : Int))) with g98 | g98
      ·have g98p := g98
       try simp only [smpD] at g98p
       refine gT rfl rfl g98 (mv rfl (aT rfl rfl g98 ?_))
       exact J99 _ (pk [60, 2, 58] rfl)
      ·refine gF rfl rfl g98 (aF (decide ((c.rows.length : Int) = (0 : Int))) rfl rfl g98 ?_)
       exact J99 _ (pk [60, 2, 58] rfl)
     refine sg rfl (ln (qc (rt (kq_retP rfl rfl (congrArg Value.bool ?_)))))
     first | (exfalso; omega) | (simp [fitsB, rowsInB, *])
    ·refine cS (cr (eq9 rfl rfl ?_))
     refine sg rfl (ln (qc (ci9 rfl (fun c100 => ?_) (fun c100 => ?_))))
     ·refine cS (cr (mv rfl (eq9 rfl rfl ?_)))
      refine mv rfl (jn 5 70 (.bool (decide ((c.vars.length : Int) = (2 : Int)) && (withinB (c.args.length : Int) (1 : Int) (6 : Int)))) (pk [1, 2, 5, 6, 65] rfl) (fun J105 => ?_) ?_)
      ·rcases Bool.eq_false_or_eq_true (decide ((c.vars.length : Int) = (2 : Int))) with g101 | g101
       ·have g101p := of_decide_eq_true g101
        refine gT rfl rfl g101 (fd9 rfl ‹_› (fun p102 a103 => ?_))
        refine gT rfl rfl g101 (ld rfl ‹_› (gT rfl rfl g101 (le9 rfl ‹_› (fun l104 => ?_))))
        refine gT rfl rfl g101 (cP rfl rfl (within_ok (c.args.length : Int) (1 : Int) (6 : Int)) ?_)
        refine aT rfl rfl g101 ?_
        exact J105 _ (pk [70, 1, 2, 5, 6, 65] rfl)
       ·refine gF rfl rfl g101 (gF rfl rfl g101 (gF rfl rfl g101 (gF rfl rfl g101 (aF (withinB (c.args.length : Int) (1 : Int) (6 : Int)) rfl rfl g101 ?_))))
        exact J105 _ (pk [70, 1, 2, 5, 6, 65] rfl)
      refine mv rfl (jn 4 75 (.bool ((decide ((c.vars.length : Int) = (2 : Int)) && (withinB (c.args.length : Int) (1 : Int) (6 : Int))) && (allInB c.args (0 : Int) (5 : Int)))) (pk [2, 5, 6, 71] rfl) (fun J109 => ?_) ?_)
      ·rcases Bool.eq_false_or_eq_true (decide ((c.vars.length : Int) = (2 : Int)) && (withinB (c.args.length : Int) (1 : Int) (6 : Int))) with g106 | g106
       ·have g106p := g106
        try simp only [smpD] at g106p
        refine gT rfl rfl g106 (fd9 rfl ‹_› (fun p107 a108 => ?_))
        refine gT rfl rfl g106 (ld rfl ‹_› (gT rfl rfl g106 (cP rfl rfl (allIn_ok c.args (0 : Int) (5 : Int) ‹_›) ?_)))
        refine aT rfl rfl g106 ?_
        exact J109 _ (pk [75, 2, 5, 6, 71] rfl)
       ·refine gF rfl rfl g106 (gF rfl rfl g106 (gF rfl rfl g106 (aF (allInB c.args (0 : Int) (5 : Int)) rfl rfl g106 ?_)))
        exact J109 _ (pk [75, 2, 5, 6, 71] rfl)
      refine mv rfl (jn 2 78 (.bool (((decide ((c.vars.length : Int) = (2 : Int)) && (withinB (c.args.length : Int) (1 : Int) (6 : Int))) && (allInB c.args (0 : Int) (5 : Int))) && decide (c.bound = (0 : Int)))) (pk [2, 5, 76] rfl) (fun J111 => ?_) ?_)
      ·rcases Bool.eq_false_or_eq_true ((decide ((c.vars.length : Int) = (2 : Int)) && (withinB (c.args.length : Int) (1 : Int) (6 : Int))) && (allInB c.args (0 : Int) (5 : Int))) with g110 | g110
       ·have g110p := g110
        try simp only [smpD] at g110p
        refine gT rfl rfl g110 (mv rfl (aT rfl rfl g110 ?_))
        exact J111 _ (pk [78, 2, 5, 76] rfl)
       ·refine gF rfl rfl g110 (aF (decide (c.bound = (0 : Int))) rfl rfl g110 ?_)
        exact J111 _ (pk [78, 2, 5, 76] rfl)
      refine mv rfl (jn 2 81 (.bool ((((decide ((c.vars.length : Int) = (2 : Int)) && (withinB (c.args.length : Int) (1 : Int) (6 : Int))) && (allInB c.args (0 : Int) (5 : Int))) && decide (c.bound = (0 : Int))) && decide ((c.rows.length : Int) = (0 : Int)))) (pk [2, 79] rfl) (fun J113 => ?_) ?_)
      ·rcases Bool.eq_false_or_eq_true (((decide ((c.vars.length : Int) = (2 : Int)) && (withinB (c.args.length : Int) (1 : Int) (6 : Int))) && (allInB c.args (0 : Int) (5 : Int))) && decide (c.bound = (0 : Int))) with g112 | g112
       ·have g112p := g112
        try simp only [smpD] at g112p
        refine gT rfl rfl g112 (mv rfl (aT rfl rfl g112 ?_))
        exact J113 _ (pk [81, 2, 79] rfl)
       ·refine gF rfl rfl g112 (aF (decide ((c.rows.length : Int) = (0 : Int))) rfl rfl g112 ?_)
        exact J113 _ (pk [81, 2, 79] rfl)
      refine sg rfl (ln (qc (rt (kq_retP rfl rfl (congrArg Value.bool ?_)))))
      first | (exfalso; omega) | (simp [fitsB, rowsInB, *])
     ·refine cS (cr (eq9 rfl rfl ?_))
      refine sg rfl (ln (qc (ci9 rfl (fun c114 => ?_) (fun c114 => ?_))))
      ·refine cS (cr (fd9 rfl ‹_› (fun p115 a116 => ?_)))
       refine ld rfl ‹_› (le9 rfl ‹_› (fun l117 => ?_))
       refine eq9 rfl rfl ?_
       refine mv rfl (jn 2 90 (.bool (decide ((c.args.length : Int) = (0 : Int)) && decide (c.bound = (0 : Int)))) (pk [1, 2, 3, 88] rfl) (fun J119 => ?_) ?_)
       ·rcases Bool.eq_false_or_eq_true (decide ((c.args.length : Int) = (0 : Int))) with g118 | g118
        ·have g118p := of_decide_eq_true g118
         refine gT rfl rfl g118 (mv rfl (aT rfl rfl g118 ?_))
         exact J119 _ (pk [90, 1, 2, 3, 88] rfl)
        ·refine gF rfl rfl g118 (aF (decide (c.bound = (0 : Int))) rfl rfl g118 ?_)
         exact J119 _ (pk [90, 1, 2, 3, 88] rfl)
       refine mv rfl (jn 5 96 (.bool ((decide ((c.args.length : Int) = (0 : Int)) && decide (c.bound = (0 : Int))) && (withinB c.rows.length 1 8 && c.rows.all fun r => decide ((r.length : Int) = (c.vars.length : Int)) && allInB r (0 : Int) (5 : Int)))) (pk [2, 91] rfl) (fun J123 => ?_) ?_)
       ·rcases Bool.eq_false_or_eq_true (decide ((c.args.length : Int) = (0 : Int)) && decide (c.bound = (0 : Int))) with g120 | g120
        ·have g120p := g120
         try simp only [smpD] at g120p
         refine gT rfl rfl g120 (fd9 rfl ‹_› (fun p121 a122 => ?_))
         refine gT rfl rfl g120 (ld rfl ‹_› (gT rfl rfl g120 (mv rfl (gT rfl rfl g120 (cP rfl rfl (rowsIn_ok c.rows (c.vars.length : Int) (0 : Int) (5 : Int) ‹_›) ?_)))))
         refine aT rfl rfl g120 ?_
         exact J123 _ (pk [96, 2, 91] rfl)
        ·refine gF rfl rfl g120 (gF rfl rfl g120 (gF rfl rfl g120 (gF rfl rfl g120 (aF (withinB c.rows.length 1 8 && c.rows.all fun r => decide ((r.length : Int) = (c.vars.length : Int)) && allInB r (0 : Int) (5 : Int)) rfl rfl g120 ?_))))
         exact J123 _ (pk [96, 2, 91] rfl)
       refine sg rfl (ln (qc (rt (kq_retP rfl rfl (congrArg Value.bool ?_)))))
       first | (exfalso; omega) | (simp [fitsB, rowsInB, *])
      ·refine cS (cr (eq9 rfl rfl ?_))
       refine sg rfl (ln (qc (ci9 rfl (fun c124 => ?_) (fun c124 => ?_))))
       ·refine cS (cr (mv rfl (cP rfl rfl (fits1_ok (1 : Int) (0 : Int) (5 : Int) c ‹_› ‹_› ‹_› ‹_›) ?_)))
        refine mv rfl (jn 4 105 (.bool ((decide ((c.args.length : Int) = (1 : Int)) && allInB c.args (0 : Int) (5 : Int)) && (withinB c.bound (0 : Int) (4 : Int)))) (pk [2, 5, 101] rfl) (fun J128 => ?_) ?_)
        ·rcases Bool.eq_false_or_eq_true (decide ((c.args.length : Int) = (1 : Int)) && allInB c.args (0 : Int) (5 : Int)) with g125 | g125
         ·have g125p := g125
          try simp only [smpD] at g125p
          refine gT rfl rfl g125 (fd9 rfl ‹_› (fun p126 a127 => ?_))
          refine gT rfl rfl g125 (ld rfl ‹_› (gT rfl rfl g125 (cP rfl rfl (within_ok c.bound (0 : Int) (4 : Int)) ?_)))
          refine aT rfl rfl g125 ?_
          exact J128 _ (pk [105, 2, 5, 101] rfl)
         ·refine gF rfl rfl g125 (gF rfl rfl g125 (gF rfl rfl g125 (aF (withinB c.bound (0 : Int) (4 : Int)) rfl rfl g125 ?_)))
          exact J128 _ (pk [105, 2, 5, 101] rfl)
        refine mv rfl (jn 2 108 (.bool (((decide ((c.args.length : Int) = (1 : Int)) && allInB c.args (0 : Int) (5 : Int)) && (withinB c.bound (0 : Int) (4 : Int))) && decide ((c.rows.length : Int) = (0 : Int)))) (pk [2, 106] rfl) (fun J130 => ?_) ?_)
        ·rcases Bool.eq_false_or_eq_true ((decide ((c.args.length : Int) = (1 : Int)) && allInB c.args (0 : Int) (5 : Int)) && (withinB c.bound (0 : Int) (4 : Int))) with g129 | g129
         ·have g129p := g129
          try simp only [smpD] at g129p
          refine gT rfl rfl g129 (mv rfl (aT rfl rfl g129 ?_))
          exact J130 _ (pk [108, 2, 106] rfl)
         ·refine gF rfl rfl g129 (aF (decide ((c.rows.length : Int) = (0 : Int))) rfl rfl g129 ?_)
          exact J130 _ (pk [108, 2, 106] rfl)
        refine sg rfl (ln (qc (rt (kq_retP rfl rfl (congrArg Value.bool ?_)))))
        first | (exfalso; omega) | (simp [fitsB, rowsInB, *])
       ·refine cS (cr (eq9 rfl rfl ?_))
        refine sg rfl (ln (qc (ci9 rfl (fun c131 => ?_) (fun c131 => ?_))))
        ·refine cS (cr (mv rfl (mv rfl (kl_mul rfl rfl (by omega) ?_))))
         refine cP rfl rfl (fits1_ok ((2 : Int) * (c.vars.length : Int)) (0 : Int) (9 : Int) c ‹_› ‹_› ‹_› ‹_›) ?_
         refine mv rfl (jn 4 119 (.bool ((decide ((c.args.length : Int) = ((2 : Int) * (c.vars.length : Int))) && allInB c.args (0 : Int) (9 : Int)) && (withinB c.bound (0 : Int) (9 : Int)))) (pk [2, 5, 115] rfl) (fun J135 => ?_) ?_)
         ·rcases Bool.eq_false_or_eq_true (decide ((c.args.length : Int) = ((2 : Int) * (c.vars.length : Int))) && allInB c.args (0 : Int) (9 : Int)) with g132 | g132
          ·have g132p := g132
           try simp only [smpD] at g132p
           refine gT rfl rfl g132 (fd9 rfl ‹_› (fun p133 a134 => ?_))
           refine gT rfl rfl g132 (ld rfl ‹_› (gT rfl rfl g132 (cP rfl rfl (within_ok c.bound (0 : Int) (9 : Int)) ?_)))
           refine aT rfl rfl g132 ?_
           exact J135 _ (pk [119, 2, 5, 115] rfl)
          ·refine gF rfl rfl g132 (gF rfl rfl g132 (gF rfl rfl g132 (aF (withinB c.bound (0 : Int) (9 : Int)) rfl rfl g132 ?_)))
           exact J135 _ (pk [119, 2, 5, 115] rfl)
         refine mv rfl (jn 2 122 (.bool (((decide ((c.args.length : Int) = ((2 : Int) * (c.vars.length : Int))) && allInB c.args (0 : Int) (9 : Int)) && (withinB c.bound (0 : Int) (9 : Int))) && decide ((c.rows.length : Int) = (0 : Int)))) (pk [2, 120] rfl) (fun J137 => ?_) ?_)
         ·rcases Bool.eq_false_or_eq_true ((decide ((c.args.length : Int) = ((2 : Int) * (c.vars.length : Int))) && allInB c.args (0 : Int) (9 : Int)) && (withinB c.bound (0 : Int) (9 : Int))) with g136 | g136
          ·have g136p := g136
           try simp only [smpD] at g136p
           refine gT rfl rfl g136 (mv rfl (aT rfl rfl g136 ?_))
           exact J137 _ (pk [122, 2, 120] rfl)
          ·refine gF rfl rfl g136 (aF (decide ((c.rows.length : Int) = (0 : Int))) rfl rfl g136 ?_)
           exact J137 _ (pk [122, 2, 120] rfl)
         refine sg rfl (ln (qc (rt (kq_retP rfl rfl (congrArg Value.bool ?_)))))
         first | (exfalso; omega) | (simp [fitsB, rowsInB, *])
        ·refine cS (cr (eq9 rfl rfl ?_))
         refine sg rfl (ln (qc (ci9 rfl (fun c138 => ?_) (fun c138 => ?_))))
         ·refine cS (cr (fd9 rfl ‹_› (fun p139 a140 => ?_)))
          refine ld rfl ‹_› (le9 rfl ‹_› (fun l141 => ?_))
          refine sb9 rfl rfl (by omega) ?_
          refine sg rfl (ln (qc (cS (cr (fd9 rfl ‹_› (fun p142 a143 => ?_))))))
          refine ld rfl ‹_› (mv rfl (cP rfl rfl (rowsIn_ok c.rows (6 : Int) (-1 : Int) ((c.rows.length : Int) - (1 : Int)) ‹_›) ?_))
          refine mv rfl (jn 4 137 (.bool ((withinB c.rows.length 1 8 && c.rows.all fun r => decide ((r.length : Int) = (6 : Int)) && allInB r (-1 : Int) ((c.rows.length : Int) - (1 : Int))) && (distinctB c.args))) (pk [1, 2, 6, 7, 133] rfl) (fun J147 => ?_) ?_)
          ·rcases Bool.eq_false_or_eq_true (withinB c.rows.length 1 8 && c.rows.all fun r => decide ((r.length : Int) = (6 : Int)) && allInB r (-1 : Int) ((c.rows.length : Int) - (1 : Int))) with g144 | g144
           ·have g144p := g144
            try simp only [smpD] at g144p
            refine gT rfl rfl g144 (fd9 rfl ‹_› (fun p145 a146 => ?_))
            refine gT rfl rfl g144 (ld rfl ‹_› (gT rfl rfl g144 (cP rfl rfl (distinct_ok c.args ‹_›) ?_)))
            refine aT rfl rfl g144 ?_
            exact J147 _ (pk [137, 1, 2, 6, 7, 133] rfl)
           ·refine gF rfl rfl g144 (gF rfl rfl g144 (gF rfl rfl g144 (aF (distinctB c.args) rfl rfl g144 ?_)))
            exact J147 _ (pk [137, 1, 2, 6, 7, 133] rfl)
          refine mv rfl (jn 5 143 (.bool (((withinB c.rows.length 1 8 && c.rows.all fun r => decide ((r.length : Int) = (6 : Int)) && allInB r (-1 : Int) ((c.rows.length : Int) - (1 : Int))) && (distinctB c.args)) && (allInB c.args (0 : Int) ((c.rows.length : Int) - (1 : Int))))) (pk [2, 6, 138] rfl) (fun J151 => ?_) ?_)
          ·rcases Bool.eq_false_or_eq_true ((withinB c.rows.length 1 8 && c.rows.all fun r => decide ((r.length : Int) = (6 : Int)) && allInB r (-1 : Int) ((c.rows.length : Int) - (1 : Int))) && (distinctB c.args)) with g148 | g148
           ·have g148p := g148
            try simp only [smpD] at g148p
            refine gT rfl rfl g148 (fd9 rfl ‹_› (fun p149 a150 => ?_))
            refine gT rfl rfl g148 (ld rfl ‹_› (gT rfl rfl g148 (mv rfl (gT rfl rfl g148 (cP rfl rfl (allIn_ok c.args (0 : Int) ((c.rows.length : Int) - (1 : Int)) ‹_›) ?_)))))
            refine aT rfl rfl g148 ?_
            exact J151 _ (pk [143, 2, 6, 138] rfl)
           ·refine gF rfl rfl g148 (gF rfl rfl g148 (gF rfl rfl g148 (gF rfl rfl g148 (aF (allInB c.args (0 : Int) ((c.rows.length : Int) - (1 : Int))) rfl rfl g148 ?_))))
            exact J151 _ (pk [143, 2, 6, 138] rfl)
          refine mv rfl (jn 2 146 (.bool ((((withinB c.rows.length 1 8 && c.rows.all fun r => decide ((r.length : Int) = (6 : Int)) && allInB r (-1 : Int) ((c.rows.length : Int) - (1 : Int))) && (distinctB c.args)) && (allInB c.args (0 : Int) ((c.rows.length : Int) - (1 : Int)))) && decide (c.bound = (0 : Int)))) (pk [2, 144] rfl) (fun J153 => ?_) ?_)
          ·rcases Bool.eq_false_or_eq_true (((withinB c.rows.length 1 8 && c.rows.all fun r => decide ((r.length : Int) = (6 : Int)) && allInB r (-1 : Int) ((c.rows.length : Int) - (1 : Int))) && (distinctB c.args)) && (allInB c.args (0 : Int) ((c.rows.length : Int) - (1 : Int)))) with g152 | g152
           ·have g152p := g152
            try simp only [smpD] at g152p
            refine gT rfl rfl g152 (mv rfl (aT rfl rfl g152 ?_))
            exact J153 _ (pk [146, 2, 144] rfl)
           ·refine gF rfl rfl g152 (aF (decide (c.bound = (0 : Int))) rfl rfl g152 ?_)
            exact J153 _ (pk [146, 2, 144] rfl)
          refine sg rfl (ln (qc (rt (kq_retP rfl rfl (congrArg Value.bool ?_)))))
          first | (exfalso; omega) | (simp [fitsB, rowsInB, *])
         ·refine sk (qc (cS (cr (sg rfl (ln (qc (rt (kq_retP rfl rfl (congrArg Value.bool ?_)))))))))
          first | (exfalso; omega) | (simp [fitsB, rowsInB, *])
theorem validCon_ok {Hcv : Hp} {vcv : Value} {Hca : Hp} {vca : Value} {Hcr : Hp} {vcr : Value} (c : Con) (n : Int) (hn : -9223372036854775807 ≤ n ∧ n ≤ 9223372036854775807) (hcv : Ints Hcv vcv c.vars) (hca : Ints Hca vca c.args) (hcr : Rows Hcr vcr c.rows) : SpecP Tryz.prog 90 [.agg #[.int .i64 c.kind, vcv, vca, .int .i64 c.bound, vcr], .int .i64 n] [Hcv, Hca, Hcr] (.bool (validConB c n)) := by
 refine spec_of Tryz.func90 rfl rfl rfl (fun B => ?_)
 refine cS (cr (kl_box rfl rfl (fun p1 H2 f3 a4 => ?_)))
 refine sg rfl (ln (qc (cS (cr (mv rfl (cP rfl rfl (within_ok n (1 : Int) (4 : Int)) ?_))))))
 refine mv rfl (jn 6 13 (.bool ((withinB n (1 : Int) (4 : Int)) && (withinB (c.vars.length : Int) (1 : Int) n))) (pk [1, 2, 4, 7] rfl) (fun J9 => ?_) ?_)
 ·rcases Bool.eq_false_or_eq_true (withinB n (1 : Int) (4 : Int)) with g5 | g5
  ·have g5p := g5
   try simp only [smpD] at g5p
   refine gT rfl rfl g5 (fd9 rfl ‹_› (fun p6 a7 => ?_))
   refine gT rfl rfl g5 (ld rfl ‹_› (gT rfl rfl g5 (le9 rfl ‹_› (fun l8 => ?_))))
   refine gT rfl rfl g5 (mv rfl (gT rfl rfl g5 (cP rfl rfl (within_ok (c.vars.length : Int) (1 : Int) n) ?_)))
   refine aT rfl rfl g5 ?_
   exact J9 _ (pk [13, 1, 2, 4, 7] rfl)
  ·refine gF rfl rfl g5 (gF rfl rfl g5 (gF rfl rfl g5 (gF rfl rfl g5 (gF rfl rfl g5 (aF (withinB (c.vars.length : Int) (1 : Int) n) rfl rfl g5 ?_)))))
   exact J9 _ (pk [13, 1, 2, 4, 7] rfl)
 refine mv rfl (jn 6 20 (.bool (((withinB n (1 : Int) (4 : Int)) && (withinB (c.vars.length : Int) (1 : Int) n)) && (allInB c.vars (0 : Int) (n - (1 : Int))))) (pk [2, 4, 14] rfl) (fun J13 => ?_) ?_)
 ·rcases Bool.eq_false_or_eq_true ((withinB n (1 : Int) (4 : Int)) && (withinB (c.vars.length : Int) (1 : Int) n)) with g10 | g10
  ·have g10p := g10
   try simp only [smpD] at g10p
   refine gT rfl rfl g10 (fd9 rfl ‹_› (fun p11 a12 => ?_))
   refine gT rfl rfl g10 (ld rfl ‹_› (gT rfl rfl g10 (mv rfl (gT rfl rfl g10 (sb9 rfl rfl (by omega) ?_)))))
   refine gT rfl rfl g10 (cP rfl rfl (allIn_ok c.vars (0 : Int) (n - (1 : Int)) ‹_›) ?_)
   refine aT rfl rfl g10 ?_
   exact J13 _ (pk [20, 2, 4, 14] rfl)
  ·refine gF rfl rfl g10 (gF rfl rfl g10 (gF rfl rfl g10 (gF rfl rfl g10 (gF rfl rfl g10 (aF (allInB c.vars (0 : Int) (n - (1 : Int))) rfl rfl g10 ?_)))))
   exact J13 _ (pk [20, 2, 4, 14] rfl)
 refine mv rfl (jn 4 25 (.bool ((((withinB n (1 : Int) (4 : Int)) && (withinB (c.vars.length : Int) (1 : Int) n)) && (allInB c.vars (0 : Int) (n - (1 : Int)))) && (distinctB c.vars))) (pk [2, 4, 21] rfl) (fun J17 => ?_) ?_)
 ·rcases Bool.eq_false_or_eq_true (((withinB n (1 : Int) (4 : Int)) && (withinB (c.vars.length : Int) (1 : Int) n)) && (allInB c.vars (0 : Int) (n - (1 : Int)))) with g14 | g14
  ·have g14p := g14
   try simp only [smpD] at g14p
   refine gT rfl rfl g14 (fd9 rfl ‹_› (fun p15 a16 => ?_))
   refine gT rfl rfl g14 (ld rfl ‹_› (gT rfl rfl g14 (cP rfl rfl (distinct_ok c.vars ‹_›) ?_)))
   refine aT rfl rfl g14 ?_
   exact J17 _ (pk [25, 2, 4, 21] rfl)
  ·refine gF rfl rfl g14 (gF rfl rfl g14 (gF rfl rfl g14 (aF (distinctB c.vars) rfl rfl g14 ?_)))
   exact J17 _ (pk [25, 2, 4, 21] rfl)
 refine mv rfl (jn 3 29 (.bool (((((withinB n (1 : Int) (4 : Int)) && (withinB (c.vars.length : Int) (1 : Int) n)) && (allInB c.vars (0 : Int) (n - (1 : Int)))) && (distinctB c.vars)) && (fitsB c))) (pk [4, 26] rfl) (fun J19 => ?_) ?_)
 ·rcases Bool.eq_false_or_eq_true ((((withinB n (1 : Int) (4 : Int)) && (withinB (c.vars.length : Int) (1 : Int) n)) && (allInB c.vars (0 : Int) (n - (1 : Int)))) && (distinctB c.vars)) with g18 | g18
  ·have g18p := g18
   try simp only [smpD] at g18p
   refine gT rfl rfl g18 (kl_ldS rfl ‹_› rfl ?_)
   refine gT rfl rfl g18 (cP rfl rfl (fits_ok c ‹_› ‹_› ‹_›) ?_)
   refine aT rfl rfl g18 ?_
   exact J19 _ (pk [29, 4, 26] rfl)
  ·refine gF rfl rfl g18 (gF rfl rfl g18 (aF (fitsB c) rfl rfl g18 ?_))
   exact J19 _ (pk [29, 4, 26] rfl)
 refine sg rfl (ln (qc (rt (kq_retP rfl rfl (congrArg Value.bool ?_)))))
 rfl
theorem validMod1_ok {Hcv : Hp} {vcv : Value} {Hca : Hp} {vca : Value} {Hcr : Hp} {vcr : Value} {Hmd : Hp} {vmd : Value} {Hmc : Hp} {vmc : Value} {Hm : Hp} {ptrm : Value} (c : Con) (m : Mod) (hcv : Ints Hcv vcv c.vars) (hca : Ints Hca vca c.args) (hcr : Rows Hcr vcr c.rows) (hmd : Ints Hmd vmd m.doms) (hmc : Cons Hmc vmc m.cons) (am : At Hm ptrm [vmd, vmc]) : SpecP Tryz.prog 89 [.agg #[.int .i64 c.kind, vcv, vca, .int .i64 c.bound, vcr], ptrm] [Hcv, Hca, Hcr, Hmd, Hmc, Hm] (.bool (!validConB c m.doms.length)) := by
 refine spec_of Tryz.func89 rfl rfl rfl (fun B => ?_)
 refine cS (cr (kl_box rfl rfl (fun p1 H2 f3 a4 => ?_)))
 refine sg rfl (ln (qc (cS (cr (kl_ldS rfl ‹_› rfl ?_)))))
 refine fd9 rfl ‹_› (fun p5 a6 => ?_)
 refine ld rfl ‹_› (le9 rfl ‹_› (fun l7 => ?_))
 refine cP rfl rfl (validCon_ok c (m.doms.length : Int) (by first | assumption | omega) ‹_› ‹_› ‹_›) ?_
 refine nt9 rfl (sg rfl (ln (qc (rt (kq_retP rfl rfl (congrArg Value.bool ?_))))))
 rfl
theorem ixf_con_ok {Hxs : Hp} {vxs : Value} {gp : Nat} {capsp : Array Value} {imp : List Hp} [FnC Tryz.prog gp] (xs : List Con) (p : Con → Bool) (hxs : Cons Hxs vxs xs) (hp : ∀ (Ha Hb Hr : Hp) (a b r : Value) (c : Con), c ∈ xs → Ints Ha a c.vars → Ints Hb b c.args → Rows Hr r c.rows → SpecP Tryz.prog gp (.agg #[.int .i64 c.kind, a, b, .int .i64 c.bound, r] :: capsp.toList) (Ha :: Hb :: Hr :: imp) (.bool (p c))) : SpecP Tryz.prog 130 [vxs, .func (.func gp) #[] capsp] (Hxs :: imp) (.int .i64 (indexBy p xs)) := by
 refine spec_of Tryz.func130 rfl rfl rfl (fun B => ?_)
 refine cS (cr (sg rfl (ln (qc (cS (cS (cr (mv rfl (le9 rfl ‹_› (fun l1 => ?_))))))))))
 refine mv rfl (ln (qc (bl (kc_loop0 (A := Nat) (fun zz => (zz ≤ xs.length) ∧ ((xs.take zz).any p = false)) (fun zz => xs.length - zz) (fun zz => [(8, .int .i64 (zz : Int))]) (0) (pk [0, 1, 7] rfl) (pc 8 rfl pn) ⟨Nat.zero_le _, by simp⟩ ?_))))
 rintro k hJ4
 obtain ⟨hk2, hi3⟩ : (k ≤ xs.length) ∧ ((xs.take k).any p = false) := hJ4
 change KC _ _ (_) _ _ ([(8, .int .i64 (k : Int))] ++ _)
 refine cS (cr (ls9 rfl rfl ?_))
 refine ln (qc (cS (ci9 rfl (fun c5 => ?_) (fun c5 => ?_))))
 ·refine sk (qc (cS (bl (cS (cr (mv rfl (sg rfl (ln (qc (cS (cr (mv rfl ?_))))))))))))
  refine mv rfl (mv rfl (kl_inC rfl rfl ‹_› (by omega) (fun p6 u8 u9 u10 h11 h12 h13 a7 => ?_)))
  refine kl_ldS rfl ‹_› rfl ?_
  refine cP rfl rfl (hp _ _ _ _ _ _ (xs.getD k nilCon) (getD_mem (by omega)) ‹_› ‹_› ‹_›) ?_
  refine ln (qc (cd9 rfl (fun c14 => ?_) (fun c14 => ?_)))
  ·have c14r := c14
   try simp only [smpE] at c14
   refine cS (cr (mv rfl (sg rfl (ln (qc (rt (kq_retP rfl rfl (congrArg (Value.int .i64) ?_))))))))
   exact indexBy_hit (d := nilCon) (by omega) ‹_› ‹_›
  ·have c14r := c14
   try simp only [smpE] at c14
   refine sk (qc (cr (ic9 rfl rfl (by omega) ?_)))
   refine mv rfl (ln (kq_round0 ((k + 1)) (by omega) (⟨by omega, any_take_step (d := nilCon) (by omega) hi3 ‹_›⟩) (pc 8 rfl pn) (pk [0, 1, 7] rfl) slr9))
 ·refine ex9 (qc (cS (cr (sg rfl (ln (qc (rt (kq_retP rfl rfl (congrArg (Value.int .i64) ?_)))))))))
  exact indexBy_none (by omega) ‹_›
theorem cf_con_ok {Hxs : Hp} {vxs : Value} {gp : Nat} {capsp : Array Value} {imp : List Hp} [FnC Tryz.prog gp] (xs : List Con) (p : Con → Bool) (hxs : Cons Hxs vxs xs) (hp : ∀ (Ha Hb Hr : Hp) (a b r : Value) (c : Con), c ∈ xs → Ints Ha a c.vars → Ints Hb b c.args → Rows Hr r c.rows → SpecP Tryz.prog gp (.agg #[.int .i64 c.kind, a, b, .int .i64 c.bound, r] :: capsp.toList) (Ha :: Hb :: Hr :: imp) (.bool (p c))) : SpecP Tryz.prog 88 [vxs, .func (.func gp) #[] capsp] (Hxs :: imp) (.bool (xs.any p)) := by
 refine spec_of Tryz.func88 rfl rfl rfl (fun B => ?_)
 refine cS (cr (sg rfl (ln (qc (cS (cr (mv rfl (mv rfl (cP rfl rfl (ixf_con_ok xs p ‹_› hp) ?_)))))))))
 refine kl_geq rfl rfl ?_
 refine sg rfl (ln (qc (rt (kq_retP rfl rfl (congrArg Value.bool ?_)))))
 exact indexBy_any p xs
theorem validMod_ok {Hmd : Hp} {vmd : Value} {Hmc : Hp} {vmc : Value} (m : Mod) (hmd : Ints Hmd vmd m.doms) (hmc : Cons Hmc vmc m.cons) : SpecP Tryz.prog 51 [.agg #[vmd, vmc]] [Hmd, Hmc] (.bool (validModB m)) := by
 refine spec_of Tryz.func51 rfl rfl rfl (fun B => ?_)
 refine cS (cr (kl_box rfl rfl (fun p1 H2 f3 a4 => ?_)))
 refine sg rfl (ln (qc (cS (cr (fd9 rfl ‹_› (fun p5 a6 => ?_))))))
 refine ld rfl ‹_› (cP rfl rfl (domainsOk_ok m.doms ‹_›) ?_)
 refine mv rfl (jn 5 11 (.bool ((domainsOkB m.doms) && decide ((m.cons.length : Int) ≤ (6 : Int)))) (pk [1, 2, 6] rfl) (fun J11 => ?_) ?_)
 ·rcases Bool.eq_false_or_eq_true (domainsOkB m.doms) with g7 | g7
  ·have g7p := g7
   try simp only [smpD] at g7p
   refine gT rfl rfl g7 (fd9 rfl ‹_› (fun p8 a9 => ?_))
   refine gT rfl rfl g7 (ld rfl ‹_› (gT rfl rfl g7 (le9 rfl ‹_› (fun l10 => ?_))))
   refine gT rfl rfl g7 (kl_leq rfl rfl ?_)
   refine aT rfl rfl g7 ?_
   exact J11 _ (pk [11, 1, 2, 6] rfl)
  ·refine gF rfl rfl g7 (gF rfl rfl g7 (gF rfl rfl g7 (gF rfl rfl g7 (aF (decide ((m.cons.length : Int) ≤ (6 : Int))) rfl rfl g7 ?_))))
   exact J11 _ (pk [11, 1, 2, 6] rfl)
 refine mv rfl (jn 6 18 (.bool (((domainsOkB m.doms) && decide ((m.cons.length : Int) ≤ (6 : Int))) && !(m.cons.any (fun x14 => !validConB x14 m.doms.length)))) (pk [2, 12] rfl) (fun J16 => ?_) ?_)
 ·rcases Bool.eq_false_or_eq_true ((domainsOkB m.doms) && decide ((m.cons.length : Int) ≤ (6 : Int))) with g12 | g12
  ·have g12p := g12
   try simp only [smpD] at g12p
   refine gT rfl rfl g12 (fd9 rfl ‹_› (fun p13 a14 => ?_))
   refine gT rfl rfl g12 (ld rfl ‹_› (gT rfl rfl g12 (kl_mkf rfl ?_)))
   refine gT rfl rfl g12 (cP rfl rfl (cf_con_ok m.cons (fun x14 => !validConB x14 m.doms.length) ‹_› (fun _ _ _ ax14 bx14 rx14 x14 _ hax14 hbx14 hrx14 => validMod1_ok x14 m hax14 hbx14 hrx14 ‹_› ‹_› ‹_›)) ?_)
   refine gT rfl rfl g12 (nt9 rfl (aT rfl rfl g12 ?_))
   exact J16 _ (pk [18, 2, 12] rfl)
  ·refine gF rfl rfl g12 (gF rfl rfl g12 (gF rfl rfl g12 (gF rfl rfl g12 (gF rfl rfl g12 (aF (!(m.cons.any (fun x14 => !validConB x14 m.doms.length))) rfl rfl g12 ?_)))))
   exact J16 _ (pk [18, 2, 12] rfl)
 refine sg rfl (ln (qc (rt (kq_retP rfl rfl (congrArg Value.bool ?_)))))
 simp only [validModB, List.all_eq_not_any_not, Bool.and_assoc]; try rfl
end
section
theorem has_ok (m : Int) (i : Int) (h0 : 0 ≤ i) : SpecP Tryz.prog 137 [.int .i64 m, .int .i64 i] [] (.bool (hasB m i)) := by
 refine spec_of Tryz.func137 rfl rfl rfl (fun B => ?_)
 refine cS (cr (sg rfl (ln (qc (cS (cr (mv rfl (mv rfl (kl_shr rfl rfl (by omega) ?_)))))))))
 refine kl_and rfl rfl ?_
 refine eq9 rfl rfl ?_
 refine sg rfl (ln (qc (rt (kq_retP rfl rfl (congrArg Value.bool ?_)))))
 rfl
end
section
theorem clip_ok {Hxs : Hp} {vxs : Value} (xs : List Int) (hxs : Ints Hxs vxs xs) : Spec Tryz.prog 140 [vxs] [Hxs] (fun _ vq => Ints Hxs vq xs ∧ ClipV vxs vq xs.length) := by
 refine spec_of Tryz.func140 rfl rfl rfl (fun B => ?_)
 refine cS (cr (sg rfl (ln (qc (cS (cr (mv rfl (mv rfl (le9 rfl ‹_› (fun l1 => ?_))))))))))
 refine mv rfl (le9 rfl ‹_› (fun l2 => ?_))
 refine kl_clipV rfl rfl rfl ‹_› (by omega) (fun u3 h4 h4v => ?_)
 refine sg rfl (ln (qc (rt ?_)))
 exact kq_ret rfl rfl noHp (fr_no _) ⟨by assumption, by assumption⟩
end
section
theorem ones64_ok (x : Int) (hb : 0 ≤ x ∧ x ≤ 63) : SpecP Tryz.prog 179 [.int .u64 x] [] (.int .i64 (popI x)) := by
 refine spec_of Tryz.func179 rfl rfl rfl (fun B => ?_)
 refine cS (cr (sg rfl (ln (qc (cS (cr (mv rfl (kl_shrK rfl rfl (by omega) ?_))))))))
 refine kl_andK rfl rfl ?_
 refine mv rfl (kl_andK rfl rfl ?_)
 refine kl_addK rfl rfl ?_
 refine sg rfl (ln (qc (cS (cr (mv rfl (kl_shrK rfl rfl (by omega) ?_))))))
 refine kl_andK rfl rfl ?_
 refine mv rfl (kl_andK rfl rfl ?_)
 refine kl_addK rfl rfl ?_
 refine sg rfl (ln (qc (cS (cr (mv rfl (kl_shrK rfl rfl (by omega) ?_))))))
 refine mv rfl (kl_addK rfl rfl ?_)
 refine kl_andK rfl rfl ?_
 refine sg rfl (ln (qc (cS (cr (mv rfl (mv rfl (kl_shrK rfl rfl (by omega) ?_)))))))
 refine kl_addK rfl rfl ?_
 refine sg rfl (ln (qc (cS (cr (mv rfl (mv rfl (kl_shrK rfl rfl (by omega) ?_)))))))
 refine kl_addK rfl rfl ?_
 refine sg rfl (ln (qc (cS (cr (mv rfl (mv rfl (kl_shrK rfl rfl (by omega) ?_)))))))
 refine kl_addK rfl rfl ?_
 refine sg rfl (ln (qc (cS (cr (mv rfl (kl_cv rfl ?_))))))
 refine kl_and rfl rfl ?_
 refine sg rfl (ln (qc (rt (kq_retP rfl rfl (congrArg (Value.int .i64) ?_)))))
 (obtain ⟨n, rfl⟩ := Int.eq_ofNat_of_zero_le hb.1; have hn : n < 64 := (by omega); clear hb; revert n; decide +kernel)
theorem ones_ok (x : Int) (hb : 0 ≤ x ∧ x ≤ 63) : SpecP Tryz.prog 154 [.int .u64 x] [] (.int .i64 (popI x)) := by
 refine spec_of Tryz.func154 rfl rfl rfl (fun B => ?_)
 refine cS (cr (sg rfl (ln (qc (cS (kc_condF ?_))))))
 refine sk (qc (cS (cr (mv rfl (cP rfl rfl (ones64_ok x hb) ?_)))))
 refine sg rfl (ln (qc (rt (kq_retP rfl rfl (congrArg (Value.int .i64) ?_)))))
 rfl
theorem size_ok (d : Int) (hb : 0 ≤ d ∧ d ≤ 63) : SpecP Tryz.prog 153 [.int .i64 d] [] (.int .i64 (popI d)) := by
 refine spec_of Tryz.func153 rfl rfl rfl (fun B => ?_)
 refine cS (cr (sg rfl (ln (qc (cS (cr (mv rfl (kl_cvu rfl (by omega) ?_))))))))
 refine cP rfl rfl (ones_ok d hb) ?_
 refine sg rfl (ln (qc (rt (kq_retP rfl rfl (congrArg (Value.int .i64) ?_)))))
 rfl
theorem valuesOf_ok (d : Int) (hb : 0 ≤ d ∧ d ≤ 63) : Spec Tryz.prog 111 [.int .i64 d] [] (fun Hq vq => Ints Hq vq (valsI d)) := by
 have hp := popI_le d
 refine spec_of Tryz.func111 rfl rfl rfl (fun B => ?_)
 refine cS (cr (sg rfl (ln (qc (cS (cr (mv rfl (kl_cvu rfl (by omega) ?_))))))))
 refine cP rfl rfl (ones_ok d hb) ?_
 refine kl_mkL0 (R := IntV) rfl rfl (by omega) (by omega) (by decide) (fun v1 H2 f3 o4 => ?_)
 refine sg rfl (ln (qc (cS (cS (cr (mv rfl (ln (qc (bl (kc_loopL (A := Nat × List Int × Value × Hp) (fun zz => (zz.1 ≤ 6) ∧ (zz.2.1 = membersTo d zz.1) ∧ OwnL 3 1 zz.2.2.2 noHp IntV zz.2.2.1 zz.2.1 ∧ Fr B zz.2.2.2) (fun zz => 6 - zz.1) (fun zz => [zz.2.2.2]) (fun zz => [(9, .int .i64 (zz.1 : Int)), (3, zz.2.2.1)]) (0, ([]), v1, H2) (pk [0, 2] rfl) (pk [9, 3] rfl) rfl ⟨Nat.zero_le _, rfl, o4, f3⟩ ?_))))))))))
 rintro ⟨k, out, v10, H7⟩ hJ11
 obtain ⟨hk5, hi6, o8, f9⟩ : (k ≤ 6) ∧ (out = membersTo d k) ∧ OwnL 3 1 H7 noHp IntV v10 out ∧ Fr B H7 := hJ11
 change KC _ _ (_) [H7] _ ([(9, .int .i64 (k : Int)), (3, v10)] ++ _)
 refine cS (cr (ls9 rfl rfl ?_))
 refine ln (qc (cS (ci9 rfl (fun c12 => ?_) (fun c12 => ?_))))
 ·refine sk (qc (cS (bl (cS (cr (mv rfl (sg rfl (ln (qc (cS (cr (mv rfl ?_))))))))))))
  refine mv rfl (cP rfl rfl (has_ok d (k : Int) (by omega)) ?_)
  refine ln (qc (cd9 rfl (fun c13 => ?_) (fun c13 => ?_)))
  ·have c13r := c13
   try simp only [smpE] at c13
   refine cr (mv rfl (mv rfl (bs9 rfl rfl rfl (by decide) (ca rfl ca_nil) (fun v14 H15 f16 r17 s18 => ?_))))
   have h19 : Ints H15 v14 [(k : Int)] := litInts (xs := [(k : Int)]) (by simpa using s18)
   refine aL9 (k : Int) rfl rfl o8 ‹_› rfl (oc rfl oc_nil) (by have := members_len hi6; omega) (by decide) (fun v20 H21 o22 f23 => ?_)
   have f24 := f23 B f9 (Nat.le_refl _)
   refine sg rfl (ln (qc (cr (ic9 rfl rfl (by omega) ?_))))
   refine mv rfl (ln (rL ((k + 1), (out ++ [(k : Int)]), v20, H21) (by omega) (⟨by omega, (by first | exact members_stepT hi6 ‹_› | exact members_stepF hi6 ‹_›), o22, f24⟩) (pk [9, 3] rfl) (pk [0, 2] rfl) rfl slr9))
  ·have c13r := c13
   try simp only [smpE] at c13
   refine sk (qc (cr (ic9 rfl rfl (by omega) ?_)))
   refine mv rfl (ln (rL ((k + 1), out, v10, H7) (by omega) (⟨by omega, (by first | exact members_stepT hi6 ‹_› | exact members_stepF hi6 ‹_›), o8, f9⟩) (pk [9, 3] rfl) (pk [0, 2] rfl) rfl slr9))
 ·refine ex9 (qc (cS (cr (mv rfl (sg rfl (ln (qc (rt ?_))))))))
  have e9 : out = valsI d := by (have e : k = 6 := by omega); rw [hi6, e]; rfl
  exact kq_ret rfl rfl H7 f9 (e9 ▸ OwnL.ints o8)
theorem clone_ok {Hxs : Hp} {vxs : Value} (xs : List Int) (hb : xs.length ≤ 1048576) (hxs : Ints Hxs vxs xs) : Spec Tryz.prog 141 [vxs] [Hxs] (fun Hq vq => OwnL 3 1 Hq noHp IntV vq xs) := by
 refine spec_of Tryz.func141 rfl rfl rfl (fun B => ?_)
 refine cS (cr (sg rfl (ln (qc (cS (cS (cr (mv rfl (kl_eqlnil rfl rfl ‹_› (fun b1 h2 => ?_))))))))))
 refine ln (qc (cd9 rfl (fun c3 => ?_) (fun c3 => ?_)))
 ·have c3r := c3
  try simp only [smpE] at c3
  refine cS (cr (sg rfl (ln (qc (rt ?_)))))
  exact kq_ret rfl rfl noHp (fr_no _) (by rw [show xs = [] from (by simp_all)]; exact OwnL.nil)
 ·have c3r := c3
  try simp only [smpE] at c3
  refine sk (qc (cS (cr (kl_bsI [] rfl rfl rfl (by decide) (fun v4 H5 f6 o7 => ?_)))))
  refine mv rfl (kl_apS rfl rfl o7 ‹_› (fun _ _ h => h) (by first | omega | (simp; omega)) (by decide) (fun v8 H9 o10 f11 => ?_))
  have f12 := f11 B f6 (Nat.le_refl _)
  refine sg rfl (ln (qc (rt ?_)))
  have e9 : ([] ++ xs) = xs := by simp
  exact kq_ret rfl rfl H9 f12 (e9 ▸ o10)
theorem copied_ok {Hxs : Hp} {vxs : Value} (xs : List Int) (hb : xs.length ≤ 1048576) (hxs : Ints Hxs vxs xs) : Spec Tryz.prog 94 [vxs] [Hxs] (fun Hq vq => OwnL 3 1 Hq noHp IntV vq xs) := by
 refine spec_of Tryz.func94 rfl rfl rfl (fun B => ?_)
 refine cS (cr (sg rfl (ln (qc (cS (cr (mv rfl (kl_callL rfl rfl (clone_ok xs hb ‹_›) (fun v1 H2 f3 o4 => ?_)))))))))
 refine kl_call rfl rfl (clip_ok xs (OwnL.ints o4)) (fun v5 H6 f7 h8 => ?_)
 obtain ⟨h8, h9⟩ := h8
 refine sg rfl (ln (qc (rt ?_)))
 exact kq_ret rfl rfl H2 f3 ((OwnL.clip o4 h9))
theorem equal_ok {Ha : Hp} {va : Value} {Hb : Hp} {vb : Value} (a : List Int) (b : List Int) (ha : Ints Ha va a) (hb : Ints Hb vb b) : SpecP Tryz.prog 173 [va, vb] [Ha, Hb] (.bool (decide (a = b))) := by
 refine spec_of Tryz.func173 rfl rfl rfl (fun B => ?_)
 refine cS (cr (sg rfl (ln (qc (cS (cS (cr (mv rfl (le9 rfl ‹_› (fun l1 => ?_))))))))))
 refine mv rfl (le9 rfl ‹_› (fun l2 => ?_))
 refine kl_neq rfl rfl ?_
 refine ln (qc (ci9 rfl (fun c3 => ?_) (fun c3 => ?_)))
 ·refine cS (cr (sg rfl (ln (qc (rt (kq_retP rfl rfl (congrArg Value.bool ?_)))))))
  exact eq_len ‹_›
 ·refine sk (qc (cS (cS (cr (mv rfl (le9 rfl ‹_› (fun l4 => ?_)))))))
  refine mv rfl (ln (qc (bl (kc_loop0 (A := Nat) (fun zz => (zz ≤ a.length) ∧ (a.take zz = b.take zz)) (fun zz => a.length - zz) (fun zz => [(13, .int .i64 (zz : Int))]) (0) (pk [0, 1, 12] rfl) (pc 13 rfl pn) ⟨Nat.zero_le _, by simp⟩ ?_))))
  rintro k hJ7
  obtain ⟨hk5, hi6⟩ : (k ≤ a.length) ∧ (a.take k = b.take k) := hJ7
  change KC _ _ (_) _ _ ([(13, .int .i64 (k : Int))] ++ _)
  refine cS (cr (ls9 rfl rfl ?_))
  refine ln (qc (cS (ci9 rfl (fun c8 => ?_) (fun c8 => ?_))))
  ·refine sk (qc (cS (bl (cS (cr (mv rfl (sg rfl (ln (qc (cS ?_))))))))))
   refine kc_draw 9 [true, true, true, true, true, true, true, true, true] (by kernel_rfl) (by kernel_rfl) ?_
   refine mv rfl (mv rfl (kl_inI rfl rfl ‹_› (by omega) (fun p9 a10 => ?_)))
   refine ld rfl ‹_› (mv rfl (mv rfl (kl_inI rfl rfl ‹_› (by omega) (fun p11 a12 => ?_))))
   refine ld rfl ‹_› (kl_neq rfl rfl ?_)
   refine ln (qc (ci9 rfl (fun c13 => ?_) (fun c13 => ?_)))
   ·refine cS (cr (sg rfl (ln (qc (rt (kq_retP rfl rfl (congrArg Value.bool ?_)))))))
    exact eq_at (k := k) 0 (by simpa using by assumption)
   ·refine sk (qc (cr (ic9 rfl rfl (by omega) ?_)))
    refine mv rfl (ln (kq_round0 ((k + 1)) (by omega) (⟨by omega, eq_step 0 (by omega) (by omega) hi6 (by first | exact Decidable.not_not.1 ‹_› | (simpa using by assumption))⟩) (pc 13 rfl pn) (pk [0, 1, 12] rfl) slr9))
  ·refine ex9 (qc (cS (cr (sg rfl (ln (qc (rt (kq_retP rfl rfl (congrArg Value.bool ?_)))))))))
   exact eq_end (k := k) (by omega) (by omega) ‹_›
theorem word_ok {Hcv : Hp} {vcv : Value} {Hca : Hp} {vca : Value} {Hcr : Hp} {vcr : Value} {Hx : Hp} {vx : Value} (c : Con) (x : List Int) (hv : ∀ v ∈ c.vars, (0 : Int) ≤ v ∧ v < x.length) (hb : c.vars.length ≤ 1048576) (hcv : Ints Hcv vcv c.vars) (hca : Ints Hca vca c.args) (hcr : Rows Hcr vcr c.rows) (hx : Ints Hx vx x) : Spec Tryz.prog 176 [.agg #[.int .i64 c.kind, vcv, vca, .int .i64 c.bound, vcr], vx] [Hcv, Hca, Hcr, Hx] (fun Hq vq => Ints Hq vq (wordL c.vars x)) := by
 refine spec_of Tryz.func176 rfl rfl rfl (fun B => ?_)
 refine cS (cr (kl_box rfl rfl (fun p1 H2 f3 a4 => ?_)))
 refine sg rfl (ln (qc (cS (cr (fd9 rfl ‹_› (fun p5 a6 => ?_))))))
 refine ld rfl ‹_› (le9 rfl ‹_› (fun l7 => ?_))
 refine kl_mkL0 (R := IntV) rfl rfl (by omega) (by omega) (by decide) (fun v8 H9 f10 o11 => ?_)
 refine sg rfl (ln (qc (cS (cS (cr (fd9 rfl ‹_› (fun p12 a13 => ?_)))))))
 refine ld rfl ‹_› (le9 rfl ‹_› (fun l14 => ?_))
 refine mv rfl (ln (qc (bl (kc_loopL (A := Nat × List Int × Value × Hp) (fun zz => (zz.1 ≤ c.vars.length) ∧ (zz.2.1 = wordTo c.vars x zz.1) ∧ OwnL 3 1 zz.2.2.2 noHp IntV zz.2.2.1 zz.2.1 ∧ Fr B zz.2.2.2) (fun zz => c.vars.length - zz.1) (fun zz => [zz.2.2.2]) (fun zz => [(15, .int .i64 (zz.1 : Int)), (5, zz.2.2.1)]) (0, ([]), v8, H9) (pk [1, 4, 13, 14] rfl) (pk [15, 5] rfl) rfl ⟨Nat.zero_le _, rfl, o11, f10⟩ ?_))))
 rintro ⟨k, out, v20, H17⟩ hJ21
 obtain ⟨hk15, hi16, o18, f19⟩ : (k ≤ c.vars.length) ∧ (out = wordTo c.vars x k) ∧ OwnL 3 1 H17 noHp IntV v20 out ∧ Fr B H17 := hJ21
 change KC _ _ (_) [H17] _ ([(15, .int .i64 (k : Int)), (5, v20)] ++ _)
 refine cS (cr (ls9 rfl rfl ?_))
 refine ln (qc (cS (ci9 rfl (fun c22 => ?_) (fun c22 => ?_))))
 ·have hv1 := hv _ (getD_mem (d := (0 : Int)) (by omega : k < c.vars.length))
  refine sk (qc (cS (bl (cS (cr (kl_inI rfl rfl ‹_› (by omega) (fun p23 a24 => ?_)))))))
  refine ld rfl ‹_› (sg rfl (ln (qc (cr (mv rfl (mv rfl (mv rfl (kl_ixI rfl rfl ‹_› (by omega) (by omega) (fun p25 a26 => ?_)))))))))
  refine ld rfl ‹_› (bs9 rfl rfl rfl (by decide) (ca rfl ca_nil) (fun v27 H28 f29 r30 s31 => ?_))
  have h32 : Ints H28 v27 [(x.getD (c.vars.getD k 0).toNat 0)] := litInts (xs := [(x.getD (c.vars.getD k 0).toNat 0)]) (by simpa using s31)
  refine aL9 (x.getD (c.vars.getD k 0).toNat 0) rfl rfl o18 ‹_› rfl (oc rfl oc_nil) (by have := word_len hi16; omega) (by decide) (fun v33 H34 o35 f36 => ?_)
  have f37 := f36 B f19 (Nat.le_refl _)
  refine sg rfl (ln (qc (cr (ic9 rfl rfl (by omega) ?_))))
  refine mv rfl (ln (rL ((k + 1), (out ++ [(x.getD (c.vars.getD k 0).toNat 0)]), v33, H34) (by omega) (⟨by omega, word_step hi16 (by omega), o35, f37⟩) (pk [15, 5] rfl) (pk [1, 4, 13, 14] rfl) rfl slr9))
 ·refine ex9 (qc (cS (cr (mv rfl (sg rfl (ln (qc (rt ?_))))))))
  have e9 : out = wordL c.vars x := by exact word_end hi16 (by omega)
  exact kq_ret rfl rfl H17 f19 (e9 ▸ OwnL.ints o18)
theorem weighted_ok {Ha : Hp} {va : Value} {Hx : Hp} {vx : Value} (a : List Int) (x : List Int) (hA : Coef a) (hX : Vals x) (hl : a.length = x.length) (h4 : x.length ≤ 4) (ha : Ints Ha va a) (hx : Ints Hx vx x) : SpecP Tryz.prog 47 [va, vx] [Ha, Hx] (.int .i64 (dotTo a x x.length)) := by
 refine spec_of Tryz.func47 rfl rfl rfl (fun B => ?_)
 refine cS (cr (sg rfl (ln (qc (cS (cr (sg rfl (ln (qc (cS (cS (cr (mv rfl (le9 rfl ‹_› (fun l1 => ?_)))))))))))))))
 refine mv rfl (ln (qc (bl (kc_loop0 (A := Nat × Int) (fun zz => (zz.1 ≤ a.length) ∧ (zz.2 = dotTo a x zz.1)) (fun zz => a.length - zz.1) (fun zz => [(10, .int .i64 (zz.1 : Int)), (5, .int .i64 zz.2)]) (0, (0 : Int)) (pk [1, 4, 8, 9] rfl) (pk [10, 5] rfl) ⟨Nat.zero_le _, rfl⟩ ?_))))
 rintro ⟨k, s⟩ hJ4
 obtain ⟨hk2, hi3⟩ : (k ≤ a.length) ∧ (s = dotTo a x k) := hJ4
 change KC _ _ (_) _ _ ([(10, .int .i64 (k : Int)), (5, .int .i64 s)] ++ _)
 refine cS (cr (ls9 rfl rfl ?_))
 refine ln (qc (cS (ci9 rfl (fun c5 => ?_) (fun c5 => ?_))))
 ·have h1 := hA.at (k := k) (by omega)
  have h2 := hX.at (k := k) (by omega)
  have h3 := prod_le h1 h2
  have h5 := dot_le hA hX k (by omega) (by omega)
  refine sk (qc (cS (bl (cS (cr (mv rfl (kl_inI rfl rfl ‹_› (by omega) (fun p6 a7 => ?_))))))))
  refine ld rfl ‹_› (sg rfl (sg rfl (ln (qc (cr (mv rfl (mv rfl (mv rfl (mv rfl ?_)))))))))
  refine kl_inI rfl rfl ‹_› (by omega) (fun p8 a9 => ?_)
  refine ld rfl ‹_› (kl_mul rfl rfl (by omega) ?_)
  refine ad9 rfl rfl (by omega) ?_
  refine sg rfl (ln (qc (cr (ic9 rfl rfl (by omega) ?_))))
  refine mv rfl (ln (kq_round0 ((k + 1), (s + ((a.getD k 0) * (x.getD k 0)))) (by omega) (⟨by omega, (by rw [dot_succ, ← hi3])⟩) (pk [10, 5] rfl) (pk [1, 4, 8, 9] rfl) slr9))
 ·refine ex9 (qc (cS (cr (mv rfl (sg rfl (ln (qc (rt (kq_retP rfl rfl (congrArg (Value.int .i64) ?_))))))))))
  rw [show x.length = k from by omega]; exact hi3
theorem roomy_ok {Hcv : Hp} {vcv : Value} {Hca : Hp} {vca : Value} {Hcr : Hp} {vcr : Value} {Hx : Hp} {vx : Value} (c : Con) (x : List Int) (hs : SatOk c x) (hk : c.kind = 7) (hcv : Ints Hcv vcv c.vars) (hca : Ints Hca vca c.args) (hcr : Rows Hcr vcr c.rows) (hx : Ints Hx vx x) : SpecP Tryz.prog 190 [.agg #[.int .i64 c.kind, vcv, vca, .int .i64 c.bound, vcr], vx] [Hcv, Hca, Hcr, Hx] (.bool (roomB c x)) := by
 have h7 := hs.k7 hk
 have h4 := hs.four
 refine spec_of Tryz.func190 rfl rfl rfl (fun B => ?_)
 refine cS (cr (kl_box rfl rfl (fun p1 H2 f3 a4 => ?_)))
 refine sg rfl (ln (qc (cS (cr (mv rfl (le9 rfl ‹_› (fun l5 => ?_)))))))
 refine sg rfl (ln (qc (cS (cS (cr (mv rfl (ln (qc (bl (kc_loop0 (A := Nat) (fun zz => (zz ≤ 15) ∧ (roomTo c x zz = true)) (fun zz => 15 - zz) (fun zz => [(12, .int .i64 (zz : Int))]) (0) (pk [1, 2, 5] rfl) (pc 12 rfl pn) ⟨Nat.zero_le _, rfl⟩ ?_))))))))))
 rintro k hJ8
 obtain ⟨hk6, hi7⟩ : (k ≤ 15) ∧ (roomTo c x k = true) := hJ8
 change KC _ _ (_) _ _ ([(12, .int .i64 (k : Int))] ++ _)
 refine cS (cr (ls9 rfl rfl ?_))
 refine ln (qc (cS (ci9 rfl (fun c9 => ?_) (fun c9 => ?_))))
 ·refine sk (qc (cS (bl (cS (cr (mv rfl (sg rfl (ln (qc (cS (cr (sg rfl ?_))))))))))))
  refine ln (qc (cS (cS (cr (mv rfl (le9 rfl ‹_› (fun l10 => ?_)))))))
  refine mv rfl (ln (qc (bl (kc_loop0 (A := Nat × Int) (fun zz => (zz.1 ≤ x.length) ∧ (zz.2 = loadTo c.args x k zz.1)) (fun zz => x.length - zz.1) (fun zz => [(17, .int .i64 (zz.1 : Int)), (7, .int .i64 zz.2)]) (0, (0 : Int)) (pk [1, 2, 5, 6, 12, 13, 14, 15, 16] rfl) (pk [17, 7] rfl) ⟨Nat.zero_le _, rfl⟩ ?_))))
  rintro ⟨i, s⟩ hJ13
  obtain ⟨hk11, hi12⟩ : (i ≤ x.length) ∧ (s = loadTo c.args x k i) := hJ13
  change KC _ _ (_) _ _ ([(17, .int .i64 (i : Int)), (7, .int .i64 s)] ++ _)
  refine cS (cr (ls9 rfl rfl ?_))
  refine ln (qc (cS (ci9 rfl (fun c14 => ?_) (fun c14 => ?_))))
  ·have hl := load_le (x := x) h7.2 (by omega) k i (by omega)
   have hx1 := hs.val.at (k := i) (by omega)
   have ha1 := h7.2 _ (getD_mem (d := (0 : Int)) (by omega : i < c.args.length))
   refine sk (qc (cS (bl (cS (cr (mv rfl (kl_inI rfl rfl ‹_› (by omega) (fun p15 a16 => ?_))))))))
   refine ld rfl ‹_› (sg rfl (sg rfl (ln (qc (cS (cr (mv rfl (mv rfl (kl_leq rfl rfl ?_)))))))))
   refine mv rfl (jn 10 35 (.bool (decide ((x.getD i 0) ≤ (k : Int)) && decide ((k : Int) < ((x.getD i 0) + (c.args.getD i 0))))) (pk [1, 2, 5, 6, 7, 8, 9, 12, 13, 14, 15, 16, 17, 18, 19, 20, 21, 22, 23, 24, 25] rfl) (fun J22 => ?_) ?_)
   ·rcases Bool.eq_false_or_eq_true (decide ((x.getD i 0) ≤ (k : Int))) with g17 | g17
    ·have g17p := of_decide_eq_true g17
     refine gT rfl rfl g17 (mv rfl (gT rfl rfl g17 (mv rfl (gT rfl rfl g17 (fd9 rfl ‹_› (fun p18 a19 => ?_))))))
     refine gT rfl rfl g17 (ld rfl ‹_› (gT rfl rfl g17 (mv rfl (gT rfl rfl g17 (kl_inI rfl rfl ‹_› (by omega) (fun p20 a21 => ?_))))))
     refine gT rfl rfl g17 (ld rfl ‹_› (gT rfl rfl g17 (ad9 rfl rfl (by omega) ?_)))
     refine gT rfl rfl g17 (ls9 rfl rfl ?_)
     refine aT rfl rfl g17 ?_
     exact J22 _ (pk [35, 1, 2, 5, 6, 7, 8, 9, 12, 13, 14, 15, 16, 17, 18, 19, 20, 21, 22, 23, 24, 25] rfl)
    ·refine gF rfl rfl g17 (gF rfl rfl g17 (gF rfl rfl g17 (gF rfl rfl g17 (gF rfl rfl g17 (gF rfl rfl g17 (gF rfl rfl g17 (gF rfl rfl g17 (gF rfl rfl g17 ?_))))))))
     refine aF (decide ((k : Int) < ((x.getD i 0) + (c.args.getD i 0)))) rfl rfl g17 ?_
     exact J22 _ (pk [35, 1, 2, 5, 6, 7, 8, 9, 12, 13, 14, 15, 16, 17, 18, 19, 20, 21, 22, 23, 24, 25] rfl)
   refine ln (qc (cd9 rfl (fun c23 => ?_) (fun c23 => ?_)))
   ·have c23r := c23
    try simp only [smpE] at c23
    have ha2 := h7.2 _ (getD_mem (d := (0 : Int)) (by omega : x.length + i < c.args.length))
    refine cr (mv rfl (fd9 rfl ‹_› (fun p24 a25 => ?_)))
    refine ld rfl ‹_› (mv rfl (mv rfl (kl_addN rfl rfl (by omega) ?_)))
    refine kl_inI rfl rfl ‹_› (by omega) (fun p26 a27 => ?_)
    refine ld rfl ‹_› (ad9 rfl rfl (by omega) ?_)
    refine sg rfl (ln (qc (cr (ic9 rfl rfl (by omega) ?_))))
    refine mv rfl (ln (kq_round0 ((i + 1), (s + (c.args.getD (x.length + i) 0))) (by omega) (⟨by omega, (by first | exact load_stepT hi12 ‹_› | exact load_stepF hi12 ‹_›)⟩) (pk [17, 7] rfl) (pk [1, 2, 5, 6, 12, 13, 14, 15, 16] rfl) slr9))
   ·have c23r := c23
    try simp only [smpE] at c23
    refine sk (qc (cr (ic9 rfl rfl (by omega) ?_)))
    refine mv rfl (ln (kq_round0 ((i + 1), s) (by omega) (⟨by omega, (by first | exact load_stepT hi12 ‹_› | exact load_stepF hi12 ‹_›)⟩) (pk [17, 7] rfl) (pk [1, 2, 5, 6, 12, 13, 14, 15, 16] rfl) slr9))
  ·refine ex9 (qc (cS (cr (mv rfl (fd9 rfl ‹_› (fun p28 a29 => ?_))))))
   refine ld rfl ‹_› (kl_gtr rfl rfl ?_)
   refine ln (qc (ci9 rfl (fun c30 => ?_) (fun c30 => ?_)))
   ·refine cS (cr (sg rfl (ln (qc (rt (kq_retP rfl rfl (congrArg Value.bool ?_)))))))
    exact room_no' (k := k) (by omega) hi12 (by omega) ‹_›
   ·refine sk (qc (cr (ic9 rfl rfl (by omega) ?_)))
    refine mv rfl (ln (kq_round0 ((k + 1)) (by omega) (⟨by omega, room_step hi7 hi12 (by omega) ‹_›⟩) (pc 12 rfl pn) (pk [1, 2, 5] rfl) slr9))
 ·refine ex9 (qc (cS (cr (sg rfl (ln (qc (rt (kq_retP rfl rfl (congrArg Value.bool ?_)))))))))
  exact room_yes hi7 (by omega)
theorem accepts_ok {Hcv : Hp} {vcv : Value} {Hca : Hp} {vca : Value} {Hcr : Hp} {vcr : Value} {Hx : Hp} {vx : Value} (c : Con) (x : List Int) (hs : SatOk c x) (hk : c.kind = 8) (hcv : Ints Hcv vcv c.vars) (hca : Ints Hca vca c.args) (hcr : Rows Hcr vcr c.rows) (hx : Ints Hx vx x) : SpecP Tryz.prog 191 [.agg #[.int .i64 c.kind, vcv, vca, .int .i64 c.bound, vcr], vx] [Hcv, Hca, Hcr, Hx] (.bool (accB c x)) := by
 have h8 := hs.k8 hk
 have h8r := hs.k8r hk
 refine spec_of Tryz.func191 rfl rfl rfl (fun B => ?_)
 refine cS (cr (kl_box rfl rfl (fun p1 H2 f3 a4 => ?_)))
 refine sg rfl (ln (qc (cS (cr (sg rfl (ln (qc (cS (cS (cr (mv rfl (le9 rfl ‹_› (fun l5 => ?_)))))))))))))
 refine mv rfl (ln (qc (bl (kc_loop0 (A := Nat × Int) (fun zz => (zz.1 ≤ x.length) ∧ (0 ≤ zz.2 ∧ zz.2 < c.rows.length ∧ accGo c.rows zz.2 (x.drop zz.1) = accGo c.rows 0 x)) (fun zz => x.length - zz.1) (fun zz => [(10, .int .i64 (zz.1 : Int)), (5, .int .i64 zz.2)]) (0, (0 : Int)) (pk [2, 8, 9] rfl) (pk [10, 5] rfl) ⟨Nat.zero_le _, ⟨by dsimp only; omega, by dsimp only; omega, by simp⟩⟩ ?_))))
 rintro ⟨k, s⟩ hJ8
 obtain ⟨hk6, hi7⟩ : (k ≤ x.length) ∧ (0 ≤ s ∧ s < c.rows.length ∧ accGo c.rows s (x.drop k) = accGo c.rows 0 x) := hJ8
 change KC _ _ (_) _ _ ([(10, .int .i64 (k : Int)), (5, .int .i64 s)] ++ _)
 refine cS (cr (ls9 rfl rfl ?_))
 refine ln (qc (cS (ci9 rfl (fun c9 => ?_) (fun c9 => ?_))))
 ·have hr := h8.2 _ (getD_mem (d := ([] : List Int)) (by omega : s.toNat < c.rows.length))
  have hx1 := hs.val.at (k := k) (by omega)
  refine sk (qc (cS (bl (cS (cr (kl_inI rfl rfl ‹_› (by omega) (fun p10 a11 => ?_)))))))
  refine ld rfl ‹_› (sg rfl (ln (qc (cS (cr (fd9 rfl ‹_› (fun p12 a13 => ?_)))))))
  refine ld rfl ‹_› (mv rfl (kl_ixS rfl rfl ‹_› (by omega) (by omega) (fun p14 u16 h17 a15 => ?_)))
  refine ld rfl ‹_› (mv rfl (kl_ixI rfl rfl ‹_› (by omega) (by omega) (fun p18 a19 => ?_)))
  refine ld rfl ‹_› (sg rfl (ln (qc (cS (cr (mv rfl (ls9 rfl rfl ?_)))))))
  refine ln (qc (ci9 rfl (fun c20 => ?_) (fun c20 => ?_)))
  ·refine cS (cr (sg rfl (ln (qc (rt (kq_retP rfl rfl (congrArg Value.bool ?_)))))))
   exact acc_no (k := k) (by omega) hi7.2.2 ‹_›
  ·refine sk (qc (cr (ic9 rfl rfl (by omega) ?_)))
   refine mv rfl (ln (kq_round0 ((k + 1), ((c.rows.getD s.toNat []).getD (x.getD k 0).toNat 0)) (by omega) (⟨by omega, acc_step h8r (by omega) ⟨hi7.1, hi7.2.1⟩ hx1 hi7.2.2 ‹_›⟩) (pk [10, 5] rfl) (pk [2, 8, 9] rfl) slr9))
 ·refine ex9 (qc (cS (cr (fd9 rfl ‹_› (fun p21 a22 => ?_)))))
  refine ld rfl ‹_› (mv rfl (cP rfl rfl (containsInts_ok c.args s ‹_›) ?_))
  refine sg rfl (ln (qc (rt (kq_retP rfl rfl (congrArg Value.bool ?_)))))
  exact acc_yes (k := k) (by omega) hi7.1 hi7.2.2
theorem cycle1_ok {Hx : Hp} {vx : Value} {Hpx : Hp} {ptrpx : Value} (v : Int) (x : List Int) (hx : Ints Hx vx x) (apx : At Hpx ptrpx [vx]) : SpecP Tryz.prog 198 [.int .i64 v, ptrpx] [Hx, Hpx] (.bool (decide ((x.length : Int) ≤ v))) := by
 refine spec_of Tryz.func198 rfl rfl rfl (fun B => ?_)
 refine cS (cr (sg rfl (ln (qc (cS (cr (mv rfl (ld rfl ‹_› (le9 rfl ‹_› (fun l1 => ?_))))))))))
 refine kl_geq rfl rfl ?_
 refine sg rfl (ln (qc (rt (kq_retP rfl rfl (congrArg Value.bool ?_)))))
 rfl
theorem cycle_ok {Hx : Hp} {vx : Value} (x : List Int) (h1 : 1 ≤ x.length) (h4 : x.length ≤ 4) (hv : Vals x) (hx : Ints Hx vx x) : SpecP Tryz.prog 192 [vx] [Hx] (.bool (cycI x)) := by
 refine spec_of Tryz.func192 rfl rfl rfl (fun B => ?_)
 refine cS (cr (kl_box rfl (Sl.cells ‹_›) (fun p1 H2 f3 a4 => ?_)))
 refine sg rfl (ln (qc (cS (cS (cr (ld rfl ‹_› (kl_mkf rfl ?_)))))))
 refine cP rfl rfl (cf_int_ok x (fun x4 => decide ((x.length : Int) ≤ x4)) ‹_› (fun x4 _ => cycle1_ok x4 x ‹_› ‹_›)) ?_
 refine ln (qc (cd9 rfl (fun c6 => ?_) (fun c6 => ?_)))
 ·have c6r := c6
  try simp only [smpE] at c6
  refine cS (cr (sg rfl (ln (qc (rt (kq_retP rfl rfl (congrArg Value.bool ?_)))))))
  exact cyc_bad ‹_›
 ·have c6r := c6
  try simp only [smpE] at c6
  have hin := cyc_in c6r
  refine sk (qc (cS (cr (ld rfl ‹_› (kl_inI (i := 0) rfl rfl ‹_› (by omega) (fun p7 a8 => ?_))))))
  refine ld rfl ‹_› (sg rfl (sg rfl (ln (qc (cS (bl (kc_loop0 (A := Nat × Int × Int) (fun zz => (cycIGo x zz.1 zz.2.1 zz.2.2 = cycIGo x x.length (x.getD 0 0) 1 ∧ 0 ≤ zz.2.1 ∧ zz.2.1 < x.length ∧ zz.2.2 + (zz.1 : Int) = x.length + 1 ∧ 1 ≤ zz.2.2)) (fun zz => zz.1) (fun zz => [(3, .int .i64 zz.2.1), (4, .int .i64 zz.2.2)]) (x.length, (x.getD 0 0), (1 : Int)) (pk [1, 2] rfl) (pk [3, 4] rfl) (⟨rfl, (hv.at (k := 0) (by omega)).1, hin _ (getD_mem (by omega)), by dsimp only; omega, by dsimp only; omega⟩) ?_)))))))
  rintro ⟨f, a, s⟩ hJ11
  have hi10 : (cycIGo x f a s = cycIGo x x.length (x.getD 0 0) 1 ∧ 0 ≤ a ∧ a < x.length ∧ s + (f : Int) = x.length + 1 ∧ 1 ≤ s) := hJ11
  change KC _ _ (_) _ _ ([(3, .int .i64 a), (4, .int .i64 s)] ++ _)
  refine cS (cS (cr (mv rfl (kl_neq rfl rfl ?_))))
  refine mv rfl (jn 5 18 (.bool (decide (a ≠ (0 : Int)) && decide (s ≤ (x.length : Int)))) (pk [1, 2, 3, 4, 11, 12, 13] rfl) (fun J14 => ?_) ?_)
  ·rcases Bool.eq_false_or_eq_true (decide (a ≠ (0 : Int))) with g12 | g12
   ·have g12p := of_decide_eq_true g12
    refine gT rfl rfl g12 (mv rfl (gT rfl rfl g12 (ld rfl ‹_› (gT rfl rfl g12 (le9 rfl ‹_› (fun l13 => ?_))))))
    refine gT rfl rfl g12 (kl_leq rfl rfl ?_)
    refine aT rfl rfl g12 ?_
    exact J14 _ (pk [18, 1, 2, 3, 4, 11, 12, 13] rfl)
   ·refine gF rfl rfl g12 (gF rfl rfl g12 (gF rfl rfl g12 (gF rfl rfl g12 (aF (decide (s ≤ (x.length : Int))) rfl rfl g12 ?_))))
    exact J14 _ (pk [18, 1, 2, 3, 4, 11, 12, 13] rfl)
  refine ln (qc (cd9 rfl (fun c15 => ?_) (fun c15 => ?_)))
  ·have c15r := c15
   try simp only [smpE] at c15
   refine sk (qc (bl (cS (cr (ld rfl ‹_› (mv rfl (kl_ixI rfl rfl ‹_› (by omega) (by omega) (fun p16 a17 => ?_))))))))
   refine ld rfl ‹_› (sg rfl (ln (qc (cr (mv rfl (ad9 rfl rfl (by omega) ?_))))))
   refine sg rfl (ln (kq_round0 ((f - 1), (x.getD a.toNat 0), (s + (1 : Int))) (by dsimp only; omega) (⟨cyc_step hi10.1 (by omega) ‹_›, (hv _ (getD_mem (by omega))).1, hin _ (getD_mem (by omega)), by dsimp only; omega, by dsimp only; omega⟩) (pk [3, 4] rfl) (pk [1, 2] rfl) slr9))
  ·have c15r := c15
   try simp only [smpE] at c15
   refine ex9 (qc (cS (cr (mv rfl (eq9 rfl rfl ?_)))))
   refine mv rfl (jn 5 32 (.bool (decide (a = (0 : Int)) && decide (s = (x.length : Int)))) (pk [2, 27] rfl) (fun J20 => ?_) ?_)
   ·rcases Bool.eq_false_or_eq_true (decide (a = (0 : Int))) with g18 | g18
    ·have g18p := of_decide_eq_true g18
     refine gT rfl rfl g18 (mv rfl (gT rfl rfl g18 (ld rfl ‹_› (gT rfl rfl g18 (le9 rfl ‹_› (fun l19 => ?_))))))
     refine gT rfl rfl g18 (eq9 rfl rfl ?_)
     refine aT rfl rfl g18 ?_
     exact J20 _ (pk [32, 2, 27] rfl)
    ·refine gF rfl rfl g18 (gF rfl rfl g18 (gF rfl rfl g18 (gF rfl rfl g18 (aF (decide (s = (x.length : Int))) rfl rfl g18 ?_))))
     exact J20 _ (pk [32, 2, 27] rfl)
   refine sg rfl (ln (qc (rt (kq_retP rfl rfl (congrArg Value.bool ?_)))))
   exact cyc_end ‹_› hi10.1 ‹_›
theorem satisfied1_ok {Hrow : Hp} {vrow : Value} {Hx : Hp} {vx : Value} {Hpx : Hp} {ptrpx : Value} (row : List Int) (x : List Int) (hrow : Ints Hrow vrow row) (hx : Ints Hx vx x) (apx : At Hpx ptrpx [vx]) : SpecP Tryz.prog 189 [vrow, ptrpx] [Hrow, Hx, Hpx] (.bool (decide (row = x))) := by
 refine spec_of Tryz.func189 rfl rfl rfl (fun B => ?_)
 refine cS (cr (sg rfl (ln (qc (cS (cr (mv rfl (ld rfl ‹_› (cP rfl rfl (equal_ok row x ‹_› ‹_›) ?_)))))))))
 refine sg rfl (ln (qc (rt (kq_retP rfl rfl (congrArg Value.bool ?_)))))
 rfl
theorem satisfied_ok {Hcv : Hp} {vcv : Value} {Hca : Hp} {vca : Value} {Hcr : Hp} {vcr : Value} {Hx : Hp} {vx : Value} (c : Con) (x : List Int) (hs : SatOk c x) (hcv : Ints Hcv vcv c.vars) (hca : Ints Hca vca c.args) (hcr : Rows Hcr vcr c.rows) (hx : Ints Hx vx x) : SpecP Tryz.prog 175 [.agg #[.int .i64 c.kind, vcv, vca, .int .i64 c.bound, vcr], vx] [Hcv, Hca, Hcr, Hx] (.bool (satB c x)) := by
 have h4 := hs.four
 have h1 := hs.one
 refine spec_of Tryz.func175 rfl rfl rfl (fun B => ?_)
 refine cS (cr (kl_box rfl rfl (fun p1 H2 f3 a4 => ?_)))
 refine kl_box rfl (Sl.cells ‹_›) (fun p5 H6 f7 a8 => ?_)
 refine sg rfl (ln (qc (cS (cS (cr (fd9 rfl ‹_› (fun p9 a10 => ?_)))))))
 refine ld rfl ‹_› (ln (qc (bl (cS (cr (eq9 rfl rfl ?_))))))
 refine sg rfl (ln (qc (ci9 rfl (fun c11 => ?_) (fun c11 => ?_))))
 ·have hk := hs.k1 c11
  refine cS (kc_tree (fun i => ([] : List Nat).contains i) [] (by kernel_rfl) ?_)
  refine tq 0 nsl rfl (fd9 rfl ‹_› (fun p12 a13 => ?_))
  refine ln (qq (tq 1 nsl rfl (ld rfl ‹_› (ln (qq (tq 2 nsl rfl (ld rfl ‹_› (ln (qq (tq 4 nsl rfl (fd9 rfl ‹_› (fun p14 a15 => ?_))))))))))))
  refine ln (qq (tq 5 nsl rfl (ld rfl ‹_› (ln (qq (ta 3 rfl (cP rfl rfl (weighted_ok c.args x hk.2 hs.val hk.1 hs.four ‹_› ‹_›) ?_)))))))
  refine ln (qa nsl (tq 6 nsl rfl (kl_leq rfl rfl ?_)))
  refine ln (qq (tq 7 nsl rfl (sg rfl (ln (qq (kt_end (by kernel_rfl) ?_))))))
  refine qc (rt (kq_retP rfl rfl (congrArg Value.bool ?_)))
  rw [sat_1 ‹_›]
 ·refine cS (cr (eq9 rfl rfl ?_))
  refine sg rfl (ln (qc (ci9 rfl (fun c16 => ?_) (fun c16 => ?_))))
  ·have hk := hs.k2 c16
   have hk1 := hs.val.at (k := 1) (by omega)
   have hk2 := hk.2.2.at (k := 0) (by omega)
   refine cS (kc_draw 13 [true, true, true, true, true, true, true, true, true, true, true, true, true] (by kernel_rfl) (by kernel_rfl) ?_)
   refine ld rfl ‹_› (kl_inI (i := 0) rfl rfl ‹_› (by omega) (fun p17 a18 => ?_))
   refine ld rfl ‹_› (ld rfl ‹_› (kl_inI (i := 1) rfl rfl ‹_› (by omega) (fun p19 a20 => ?_)))
   refine ld rfl ‹_› (fd9 rfl ‹_› (fun p21 a22 => ?_))
   refine ld rfl ‹_› (kl_inI (i := 0) rfl rfl ‹_› (by omega) (fun p23 a24 => ?_))
   refine ld rfl ‹_› (ad9 rfl rfl (by omega) ?_)
   refine kl_neq rfl rfl ?_
   refine sg rfl (ln (qc (rt (kq_retP rfl rfl (congrArg Value.bool ?_)))))
   rw [sat_2 ‹_›]
  ·refine cS (cr (eq9 rfl rfl ?_))
   refine sg rfl (ln (qc (ci9 rfl (fun c25 => ?_) (fun c25 => ?_))))
   ·refine cS (cr (ld rfl ‹_› (cP rfl rfl (distinct_ok x ‹_›) ?_)))
    refine sg rfl (ln (qc (rt (kq_retP rfl rfl (congrArg Value.bool ?_)))))
    rw [sat_3 ‹_›]
   ·refine cS (cr (eq9 rfl rfl ?_))
    refine sg rfl (ln (qc (ci9 rfl (fun c26 => ?_) (fun c26 => ?_))))
    ·have hk := hs.k4 c26
     have hk1 := hs.val.at (k := 0) (by omega)
     refine cS (kc_draw 21 [true, true, true, true, true, true, true, true, true, true, true, true, true, true, true, true, true, true, true, true, true] (by kernel_rfl) (by kernel_rfl) ?_)
     refine ld rfl ‹_› (kl_inI (i := 0) rfl rfl ‹_› (by omega) (fun p27 a28 => ?_))
     refine ld rfl ‹_› (fd9 rfl ‹_› (fun p29 a30 => ?_))
     refine ld rfl ‹_› (le9 rfl ‹_› (fun l31 => ?_))
     refine ls9 rfl rfl ?_
     refine mv rfl (jn 12 58 (.bool (decide ((x.getD 0 0) < (c.args.length : Int)) && decide ((c.args.getD (x.getD 0 0).toNat 0) = (x.getD 1 0)))) (pk [3, 4, 46] rfl) (fun J41 => ?_) ?_)
     ·rcases Bool.eq_false_or_eq_true (decide ((x.getD 0 0) < (c.args.length : Int))) with g32 | g32
      ·have g32p := of_decide_eq_true g32
       refine gT rfl rfl g32 (fd9 rfl ‹_› (fun p33 a34 => ?_))
       refine gT rfl rfl g32 (ld rfl ‹_› (gT rfl rfl g32 (ld rfl ‹_› (gT rfl rfl g32 (kl_inI (i := 0) rfl rfl ‹_› (by omega) (fun p35 a36 => ?_))))))
       refine gT rfl rfl g32 (ld rfl ‹_› (gT rfl rfl g32 (kl_ixI rfl rfl ‹_› (by omega) (by omega) (fun p37 a38 => ?_))))
       refine gT rfl rfl g32 (ld rfl ‹_› (gT rfl rfl g32 (ld rfl ‹_› (gT rfl rfl g32 (kl_inI (i := 1) rfl rfl ‹_› (by omega) (fun p39 a40 => ?_))))))
       refine gT rfl rfl g32 (ld rfl ‹_› (gT rfl rfl g32 (eq9 rfl rfl ?_)))
       refine aT rfl rfl g32 ?_
       exact J41 _ (pk [58, 3, 4, 46] rfl)
      ·refine gF rfl rfl g32 (gF rfl rfl g32 (gF rfl rfl g32 (gF rfl rfl g32 (gF rfl rfl g32 (gF rfl rfl g32 (gF rfl rfl g32 (gF rfl rfl g32 (gF rfl rfl g32 ?_))))))))
       refine gF rfl rfl g32 (gF rfl rfl g32 (aF (decide ((c.args.getD (x.getD 0 0).toNat 0) = (x.getD 1 0))) rfl rfl g32 ?_))
       exact J41 _ (pk [58, 3, 4, 46] rfl)
     refine sg rfl (ln (qc (rt (kq_retP rfl rfl (congrArg Value.bool ?_)))))
     rw [sat_4 ‹_›]
    ·refine cS (cr (eq9 rfl rfl ?_))
     refine sg rfl (ln (qc (ci9 rfl (fun c42 => ?_) (fun c42 => ?_))))
     ·have hk := hs.k5 c42
      refine cS (cr (fd9 rfl ‹_› (fun p43 a44 => ?_)))
      refine ld rfl ‹_› (kl_mkf rfl ?_)
      refine cP rfl rfl (cf_row_ok c.rows (fun x44 => decide (x44 = x)) ‹_› (fun _ ux44 x44 _ hux44 => satisfied1_ok x44 x hux44 ‹_› ‹_›)) ?_
      refine sg rfl (ln (qc (rt (kq_retP rfl rfl (congrArg Value.bool ?_)))))
      rw [sat_5 ‹_›]
     ·refine cS (cr (eq9 rfl rfl ?_))
      refine sg rfl (ln (qc (ci9 rfl (fun c46 => ?_) (fun c46 => ?_))))
      ·have hk := hs.k6 c46
       refine cS (cr (sg rfl (ln (qc (cS (cS (cr (ld rfl ‹_› (le9 rfl ‹_› (fun l47 => ?_))))))))))
       refine mv rfl (ln (qc (bl (kc_loop0 (A := Nat × Int) (fun zz => (zz.1 ≤ x.length) ∧ (zz.2 = cntTo x (c.args.getD 0 0) zz.1)) (fun zz => x.length - zz.1) (fun zz => [(69, .int .i64 (zz.1 : Int)), (5, .int .i64 zz.2)]) (0, (0 : Int)) (pk [2, 3, 4, 67, 68] rfl) (pk [69, 5] rfl) ⟨Nat.zero_le _, rfl⟩ ?_))))
       rintro ⟨k, s⟩ hJ50
       obtain ⟨hk48, hi49⟩ : (k ≤ x.length) ∧ (s = cntTo x (c.args.getD 0 0) k) := hJ50
       change KC _ _ (_) _ _ ([(69, .int .i64 (k : Int)), (5, .int .i64 s)] ++ _)
       have hcl := cnt_le x (c.args.getD 0 0) k
       refine cS (cr (ls9 rfl rfl ?_))
       refine ln (qc (cS (ci9 rfl (fun c51 => ?_) (fun c51 => ?_))))
       ·refine sk (qc (cS (bl (cS (cr (kl_inI rfl rfl ‹_› (by omega) (fun p52 a53 => ?_)))))))
        refine ld rfl ‹_› (sg rfl (ln (qc (cS (cr (mv rfl (fd9 rfl ‹_› (fun p54 a55 => ?_))))))))
        refine ld rfl ‹_› (kl_inI (i := 0) rfl rfl ‹_› (by omega) (fun p56 a57 => ?_))
        refine ld rfl ‹_› (eq9 rfl rfl ?_)
        refine ln (qc (ci9 rfl (fun c58 => ?_) (fun c58 => ?_)))
        ·refine cr (mv rfl (ad9 rfl rfl (by omega) ?_))
         refine sg rfl (ln (qc (cr (ic9 rfl rfl (by omega) ?_))))
         refine mv rfl (ln (kq_round0 ((k + 1), (s + (1 : Int))) (by omega) (⟨by omega, (by first | exact cnt_stepT hi49 (by omega) ‹_› | exact cnt_stepF hi49 (by omega) ‹_›)⟩) (pk [69, 5] rfl) (pk [2, 3, 4, 67, 68] rfl) slr9))
        ·refine sk (qc (cr (ic9 rfl rfl (by omega) ?_)))
         refine mv rfl (ln (kq_round0 ((k + 1), s) (by omega) (⟨by omega, (by first | exact cnt_stepT hi49 (by omega) ‹_› | exact cnt_stepF hi49 (by omega) ‹_›)⟩) (pk [69, 5] rfl) (pk [2, 3, 4, 67, 68] rfl) slr9))
       ·refine ex9 (qc (cS (cr (mv rfl (fd9 rfl ‹_› (fun p59 a60 => ?_))))))
        refine ld rfl ‹_› (eq9 rfl rfl ?_)
        refine sg rfl (ln (qc (rt (kq_retP rfl rfl (congrArg Value.bool ?_)))))
        rw [sat_6 ‹_›, hi49, show k = x.length from by omega]
      ·refine cS (cr (eq9 rfl rfl ?_))
       refine sg rfl (ln (qc (ci9 rfl (fun c61 => ?_) (fun c61 => ?_))))
       ·refine cS (cr (kl_ldS rfl ‹_› rfl ?_))
        refine ld rfl ‹_› (cP rfl rfl (roomy_ok c x hs ‹_› ‹_› ‹_› ‹_› ‹_›) ?_)
        refine sg rfl (ln (qc (rt (kq_retP rfl rfl (congrArg Value.bool ?_)))))
        rw [sat_7 ‹_›]
       ·refine cS (cr (eq9 rfl rfl ?_))
        refine sg rfl (ln (qc (ci9 rfl (fun c62 => ?_) (fun c62 => ?_))))
        ·refine cS (cr (kl_ldS rfl ‹_› rfl ?_))
         refine ld rfl ‹_› (cP rfl rfl (accepts_ok c x hs ‹_› ‹_› ‹_› ‹_› ‹_›) ?_)
         refine sg rfl (ln (qc (rt (kq_retP rfl rfl (congrArg Value.bool ?_)))))
         rw [sat_8 ‹_›]
        ·refine sk (qc (cS (cr (ld rfl ‹_› (cP rfl rfl (cycle_ok x hs.one hs.four hs.val ‹_›) ?_)))))
         refine sg rfl (ln (qc (rt (kq_retP rfl rfl (congrArg Value.bool ?_)))))
         rw [sat_9 ‹_› ‹_› ‹_› ‹_› ‹_› ‹_› ‹_› ‹_›, cyc_eq hs.four hs.val hs.one]
theorem holds_ok {Hcv : Hp} {vcv : Value} {Hca : Hp} {vca : Value} {Hcr : Hp} {vcr : Value} {Hx : Hp} {vx : Value} (c : Con) (x : List Int) (hC : ConOk c x.length) (hX : Vals x) (hcv : Ints Hcv vcv c.vars) (hca : Ints Hca vca c.args) (hcr : Rows Hcr vcr c.rows) (hx : Ints Hx vx x) : SpecP Tryz.prog 139 [.agg #[.int .i64 c.kind, vcv, vca, .int .i64 c.bound, vcr], vx] [Hcv, Hca, Hcr, Hx] (.bool (conAt x c)) := by
 refine spec_of Tryz.func139 rfl rfl rfl (fun B => ?_)
 refine cS (cr (kl_box rfl rfl (fun p1 H2 f3 a4 => ?_)))
 refine sg rfl (ln (qc (cS (kc_draw 6 [true, true, true, false, false, true] (by kernel_rfl) (by kernel_rfl) ?_))))
 refine kl_ldS rfl ‹_› rfl ?_
 refine kl_ldS rfl ‹_› rfl ?_
 refine mv rfl (kl_call rfl rfl (word_ok c x hC.vars (by have := hC.one; omega) ‹_› ‹_› ‹_› ‹_›) (fun v5 H6 f7 h8 => ?_))
 refine cP rfl rfl (satisfied_ok c (wordL c.vars x) (hC.sat rfl hX) ‹_› ‹_› ‹_› ‹_›) ?_
 refine sg rfl (ln (qc (rt (kq_retP rfl rfl (congrArg Value.bool ?_)))))
 rfl
end
section
/-- A loop, its invariant a word on the frame and the world. -/
theorem loopS {A : Type} {P : Program} {R : Option Nat} {Q : Post} {body : Code} (J : A → Prop) (mu : A → Nat) (S : A → Act → World → Prop)
    (round : ∀ x, J x → ∀ a w, S x a w → body.wpIn (FW R) 0 P (Exit.then (fun a w => ∃ x', mu x' < mu x ∧ J x' ∧ S x' a w) Q) a w) : ∀ x a w, J x → S x a w → (Code.loop body).wpIn (FW R) 0 P Q a w := by
  have key : ∀ m x a w, mu x = m → J x → S x a w → (Code.loop body).wpIn (FW R) 0 P Q a w := by
    intro m x a w _ hJ hS
    refine wpIn_loop (I := fun a w => ∃ x, J x ∧ S x a w)
      (μ := fun a w => Classical.epsilon fun m => (∃ x, mu x = m ∧ J x ∧ S x a w) ∧ ∀ x, J x → S x a w → m ≤ mu x) ⟨x, hJ, hS⟩ ?_
    intro a w hI
    have hmin : ∃ m, (∃ x, mu x = m ∧ J x ∧ S x a w) ∧ ∀ x, J x → S x a w → m ≤ mu x := by
      have aux : ∀ k, (∃ x, mu x = k ∧ J x ∧ S x a w) → ∃ m, (∃ x, mu x = m ∧ J x ∧ S x a w) ∧ ∀ x, J x → S x a w → m ≤ mu x := by
        intro k
        induction k using Nat.strongRecOn with
        | _ k ih =>
          intro hk
          by_cases hlow : ∃ x, mu x < k ∧ J x ∧ S x a w
          · obtain ⟨x, h1, h2⟩ := hlow
            exact ih (mu x) h1 ⟨x, rfl, h2⟩
          · exact ⟨k, hk, fun x h1 h2 => Nat.le_of_not_lt fun h4 => hlow ⟨x, h4, h1, h2⟩⟩
      obtain ⟨x, hx⟩ := hI
      exact aux (mu x) ⟨x, rfl, hx⟩
    obtain ⟨⟨x, hm, hJ, hS⟩, hle⟩ := Classical.epsilon_spec hmin
    refine wpIn_mono (round x hJ a w hS) ?_
    intro e a' w' hq
    cases e with
    | normal =>
      obtain ⟨x', hlt, hJ', hS'⟩ := hq
      refine ⟨⟨x', hJ', hS'⟩, ?_⟩
      have hmin' : ∃ m, (∃ x, mu x = m ∧ J x ∧ S x a' w') ∧ ∀ x, J x → S x a' w' → m ≤ mu x := by
        have aux : ∀ k, (∃ x, mu x = k ∧ J x ∧ S x a' w') → ∃ m, (∃ x, mu x = m ∧ J x ∧ S x a' w') ∧ ∀ x, J x → S x a' w' → m ≤ mu x := by
          intro k
          induction k using Nat.strongRecOn with
          | _ k ih =>
            intro hk
            by_cases hlow : ∃ x, mu x < k ∧ J x ∧ S x a' w'
            · obtain ⟨x, h1, h2⟩ := hlow
              exact ih (mu x) h1 ⟨x, rfl, h2⟩
            · exact ⟨k, hk, fun x h1 h2 => Nat.le_of_not_lt fun h4 => hlow ⟨x, h4, h1, h2⟩⟩
        exact aux (mu x') ⟨x', rfl, hJ', hS'⟩
      have h4 := (Classical.epsilon_spec hmin').2 x' hJ' hS'
      exact Nat.lt_of_le_of_lt h4 (hm ▸ hlt)
    | exit id => exact hq
    | goto l => exact hq
    | ret => exact hq
    | panic c => exact hq
    | outgrown => exact hq
  exact fun x a w => key _ x a w rfl
theorem kc_loopX {A : Type} {P : Program} {nt : Nat} {B : World} {df : List Deferred} {R : Option Nat} {Q : Post} {ims L : List Hp} {G : Env} {body : Code} (Xf : A → Side) (J : A → Prop) (mu : A → Nat) (Lf : A → List Hp) (Gf : A → Env) (x0 : A) {Gx : Env}
    (hx : Pick G Gx) (hg : Pick G (Gf x0)) (hl : L = Lf x0) (h0 : J x0)
    (round : ∀ x, J x → KC ⟨P, nt, B, Xf x, false, df, R⟩ (Exit.then (fun a w => ∃ x', mu x' < mu x ∧ J x' ∧ Fit (nt, df) (Gf x' ++ Gx) a ∧ St B (Xf x') ims (Lf x') w) Q) ims (Lf x) body (Gf x ++ Gx)) :
    KC ⟨P, nt, B, Xf x0, false, df, R⟩ Q ims L (.loop body) G := fun a w hf hs => by
  subst hl
  exact loopS J mu (fun x a w => Fit (nt, df) (Gf x ++ Gx) a ∧ St B (Xf x) ims (Lf x) w) (fun x hJ a w ⟨h1, h2⟩ => round x hJ a w h1 h2) x0 a w h0 ⟨(hg.app hx).fit hf, hs⟩
theorem kq_roundX {A : Type} {P : Program} {nt : Nat} {B : World} {X : Side} {df : List Deferred} {R : Option Nat} {ims L : List Hp} {G : Env} {Xf : A → Side} {J : A → Prop} {mu : A → Nat} {Lf : A → List Hp} {Gf : A → Env} {x : A} {Gx : Env} {ims0 L' L0 : List Hp} (x' : A) (hX : X = Xf x')
    (hlt : mu x' < mu x) (hJ : J x') (hg : Pick G (Gf x')) (hx : Pick G Gx) (hl : L0 = Lf x') [i : AllIn ims0 ims] [t : TakeL L0 L L'] :
    KQ ⟨P, nt, B, X, false, df, R⟩ ims L G (fun a w => ∃ x', mu x' < mu x ∧ J x' ∧ Fit (nt, df) (Gf x' ++ Gx) a ∧ St B (Xf x') ims0 (Lf x') w) :=
  fun a w hf hs' => ⟨x', hlt, hJ, (hg.app hx).fit hf, by subst hl hX; exact (hs'.perm t.t).weak (i := i) (List.sublist_append_left _ _)⟩

/-! ### Calls that carry the caller's word -/
/-- The word of the caller, over what is the iterator's elsewhere (Kr) and here (D). -/
def jr (Kr : Hp) (j : (Nat → Prop) → World → Prop) : (Nat → Prop) → World → Prop := fun D w => (∀ b, Kr b ≠ none → b < w.heap.size) ∧ j (fun b => Kr b ≠ none ∨ D b) w
structure JK (j : (Nat → Prop) → World → Prop) : Prop where ok : JOk j
theorem jr_ok {Kr : Hp} {j : (Nat → Prop) → World → Prop} (h : JK j) : JOk (jr Kr j) := fun {D D' w w'} hj hs he hio hd =>
  ⟨fun b hb => Nat.lt_of_lt_of_le (hj.1 b hb) hs, h.ok hj.2 hs (fun b hb hn => he b hb (fun hd => hn (.inr hd))) hio (fun b hb => by
    rcases hb with hb | hb
    · exact ⟨.inl (.inl hb), Nat.lt_of_lt_of_le (hj.1 b hb) hs⟩
    · exact ⟨(hd b hb).1.imp .inr id, (hd b hb).2⟩)⟩
def sj (Kr : Hp) (j : (Nat → Prop) → World → Prop) (h : JK j) : Side := .it (jr Kr j) (jr_ok h)
/-- How such a call ends. -/
def ResJ (w : World) (Kr : Hp) (imsO L0 : List Hp) (phi : Value → List Hp → ((Nat → Prop) → World → Prop) → Prop) : Ending → World → Prop
  | .returned v, w' => w.heap.size ≤ w'.heap.size ∧ Io w w' ∧ Agree Kr w' ∧ (∀ I ∈ imsO, Agree I w') ∧ ∃ L1 j, (∀ H ∈ L1, Agree H w' ∧ Apart H Kr ∧ ∀ I ∈ imsO, Apart H I) ∧ L1.Pairwise Apart ∧
      JK j ∧ j (fun b => Kr b ≠ none ∨ ∃ H ∈ L1, H b ≠ none) w' ∧ phi v L1 j
  | _, _ => False
def SpecJ (P : Program) (f : FuncId) (args : List Value) (Kr : Hp) (imsO L0 : List Hp) (j : (Nat → Prop) → World → Prop) (phi : Value → List Hp → ((Nat → Prop) → World → Prop) → Prop) : Prop :=
  ∀ w, (∀ H ∈ L0, Agree H w ∧ Apart H Kr ∧ ∀ I ∈ imsO, Apart H I) → L0.Pairwise Apart → Agree Kr w → (∀ I ∈ imsO, Agree I w) → j (fun b => Kr b ≠ none ∨ ∃ H ∈ L0, H b ≠ none) w → Calls P f args.toArray w (ResJ w Kr imsO L0 phi)
theorem specJ_of {P : Program} {f : FuncId} {fn : Func} {c : Code} {vs : List Value} {n : Nat} {Kr : Hp} {imsO L0 : List Hp} {j : (Nat → Prop) → World → Prop} {phi : Value → List Hp → ((Nat → Prop) → World → Prop) → Prop} (hj : JK j)
    (hf : P.funcs[f]? = some fn) (hb : fn.body = some c) (hn : fn.ntmps = n) (hle : Nat.ble vs.length n = true)
    (h : ∀ B, KC ⟨P, n, B, sj Kr j hj, false, [], none⟩ (bodyPostM (FW none) 0 P fn (ResJ B Kr imsO L0 phi)) (Kr :: imsO) L0 c (pars 0 vs)) : SpecJ P f vs Kr imsO L0 j phi := fun w hL hp hK hO hjw => by
  refine calls_of_FW (R := none) (n := 0) (callsIn_of_wp_marks hf hb trivial ?_ rfl)
  rw [hn]
  refine h w _ w (fit_pars (Nat.le_of_ble_eq_true hle)) ⟨Nat.le_refl _, fun _ _ _ => rfl, fun I hI => ?_, fun H hH => ⟨(hL H hH).1, fun _ _ => .inr trivial, fun I hI => ?_⟩, hp, Io.refl _, ?_, Nat.zero_le _⟩
  · cases hI with
    | head => exact hK
    | tail _ hI => exact hO I hI
  · cases hI with
    | head => exact (hL H hH).2.1
    | tail _ hI => exact (hL H hH).2.2 I hI
  · refine jr_ok hj ⟨fun b hb => ?_, hjw⟩ (Nat.le_refl _) (fun _ _ _ => rfl) (Io.refl _) (fun b hb => ?_)
    · cases hh : Kr b with
      | none => exact absurd hh hb
      | some o => exact hK.lt hh
    · rcases hb with ⟨H, hH, hb⟩ | ⟨hB, H, hH, hb⟩
      · refine ⟨.inl ⟨H, hH, hb⟩, ?_⟩
        cases hh : H b with
        | none => exact absurd hh hb
        | some o => exact (hL H hH).1.lt hh
      · exfalso
        have hA : Agree H w := by
          cases hH with
          | head => exact hK
          | tail _ hH => exact hO H hH
        cases hh : H b with
        | none => exact hb hh
        | some o => exact absurd (hA.lt hh) (Nat.not_lt.2 hB)
section rets
variable {P : Program} {n : Nat} {B : World} {ims L : List Hp} {G : Env} {fn : Func} {Kr : Hp} {imsO L0 : List Hp} {phi : Value → List Hp → ((Nat → Prop) → World → Prop) → Prop} {j : (Nat → Prop) → World → Prop} {hj : JK j}
/-- L1: what is given back. -/
theorem kq_retJ {v : Value} (hr : ∀ a : Act, Fit (n, []) G a → ∀ w, St B (sj Kr j hj) ims L w → (results fn a.tmps).run P w = .ok v w) (L1 : List Hp) {L' : List Hp} [t : TakeL L1 L L'] [i : AllIn (Kr :: imsO) ims] (hp : phi v L1 j) :
    KQ ⟨P, n, B, sj Kr j hj, false, [], none⟩ ims L G (bodyPostM (FW none) 0 P fn (ResJ B Kr imsO L0 phi) .ret) := fun a w hF hS => by
  show LeavesInM (FW none) 0 P fn a.tmps (ResJ B Kr imsO L0 phi) a.defers .returning w
  rw [show a.defers = [] from hF.defers]
  have h2 := hS.perm t.t
  refine ⟨v, hr a hF w hS, hS.size, hS.io, hS.im Kr (i.all _ (.head _)), fun I hI => hS.im I (i.all _ (.tail _ hI)), L1, j, fun H hH => ?_, (List.pairwise_append.1 h2.nd).1, hj, ?_, hp⟩
  · have ho := h2.own H (List.mem_append_left _ hH)
    exact ⟨ho.1, ho.2.2 Kr (i.all _ (.head _)), fun I hI => ho.2.2 I (i.all _ (.tail _ hI))⟩
  · have hjw : jr Kr j (dm B ims L) w := hS.j
    refine hj.ok hjw.2 (Nat.le_refl _) (fun _ _ _ => rfl) (Io.refl _) (fun b hb => ?_)
    rcases hb with hb | ⟨H, hH, hb⟩
    · exact ⟨.inl (.inl hb), hjw.1 b hb⟩
    · refine ⟨.inl (.inr (.inl ⟨H, t.t.mem_iff.2 (List.mem_append_left _ hH), hb⟩)), ?_⟩
      cases hh : H b with
      | none => exact absurd hh hb
      | some o => exact (h2.own H (List.mem_append_left _ hH)).1.lt hh
theorem kq_retJ1 {t : Nat} {v : Value} (hr : fn.results = #[.tmp t]) (hv : look t G = some v) (L1 : List Hp) {L' : List Hp} [k : TakeL L1 L L'] [i : AllIn (Kr :: imsO) ims] (hp : phi v L1 j) :
    KQ ⟨P, n, B, sj Kr j hj, false, [], none⟩ ims L G (bodyPostM (FW none) 0 P fn (ResJ B Kr imsO L0 phi) .ret) :=
  kq_retJ (fun a hF w _ => by rw [results_tmp hr, (hF.get t v hv).2]) L1 hp
theorem kq_retJ0 (hr : fn.results = #[]) (L1 : List Hp) {L' : List Hp} [k : TakeL L1 L L'] [i : AllIn (Kr :: imsO) ims] (hp : phi (.tuple #[]) L1 j) :
    KQ ⟨P, n, B, sj Kr j hj, false, [], none⟩ ims L G (bodyPostM (FW none) 0 P fn (ResJ B Kr imsO L0 phi) .ret) :=
  kq_retJ (fun a hF w _ => by simp [results, hr]) L1 hp
end rets
/-- Behind such a call, or behind yield: L0 has become L1, the caller's word has turned to j'. -/
theorem St.afterJ {B : World} {Kr : Hp} {j j' : (Nat → Prop) → World → Prop} {hj : JK j} {ims imsO Ks L0 L' L1 : List Hp} {w w' : World} (h : St B (sj Kr j hj) ims (L0 ++ L') w) (hi : ∀ I ∈ Kr :: imsO, I ∈ ims) (hK : ∀ K ∈ Ks, K ∈ ims)
    (hs : w.heap.size ≤ w'.heap.size) (hio : Io w w') (aK : Agree Kr w') (aO : ∀ I ∈ imsO, Agree I w') (aKs : ∀ K ∈ Ks, Agree K w') (aL : ∀ H ∈ L', Agree H w')
    (h1 : ∀ H ∈ L1, Agree H w' ∧ (∀ I ∈ Ks ++ (Kr :: imsO), Apart H I) ∧ ∀ M ∈ L', Apart H M) (hp : L1.Pairwise Apart) (hj' : JK j') (hjw : j' (fun b => Kr b ≠ none ∨ (∃ H ∈ L1, H b ≠ none) ∨ dm B (Ks ++ (Kr :: imsO)) L' b) w') :
    St B (sj Kr j' hj') (Ks ++ (Kr :: imsO)) (L1 ++ L') w' := by
  have himem : ∀ I, I ∈ Ks ++ (Kr :: imsO) → I ∈ ims := fun I hI => (List.mem_append.1 hI).elim (hK I) (hi I)
  have hag : ∀ I, I ∈ Ks ++ (Kr :: imsO) → Agree I w' := fun I hI => by
    rcases List.mem_append.1 hI with hI | hI
    · exact aKs I hI
    · cases hI with
      | head => exact aK
      | tail _ hI => exact aO I hI
  refine ⟨Nat.le_trans h.size hs, fun b _ hx => absurd trivial hx, hag, fun H hH => ?_, ?_, h.io.trans hio, ⟨fun b hb => ?_, ?_⟩, Nat.zero_le _⟩
  · refine ⟨?_, fun _ _ => .inr trivial, fun I hI => ?_⟩
    · rcases List.mem_append.1 hH with hH | hH
      · exact (h1 H hH).1
      · exact aL H hH
    · rcases List.mem_append.1 hH with hH | hH
      · exact (h1 H hH).2.1 I hI
      · exact (h.own H (List.mem_append_right _ hH)).2.2 I (himem I hI)
  · exact List.pairwise_append.2 ⟨hp, (List.pairwise_append.1 h.nd).2.1, fun H hH M hM => (h1 H hH).2.2 M hM⟩
  · cases hh : Kr b with
    | none => exact absurd hh hb
    | some o => exact aK.lt hh
  · refine hj'.ok hjw (Nat.le_refl _) (fun _ _ _ => rfl) (Io.refl _) (fun b hb => ?_)
    rcases hb with hb | hb
    · refine ⟨.inl (.inl hb), ?_⟩
      cases hh : Kr b with
      | none => exact absurd hh hb
      | some o => exact aK.lt hh
    · refine ⟨.inl ?_, dm_lt (B := B) hag (L := L1 ++ L') (fun H hH => ?_) hb⟩
      · rcases hb with ⟨H, hH, hb⟩ | hb
        · rcases List.mem_append.1 hH with hH | hH
          · exact .inr (.inl ⟨H, hH, hb⟩)
          · exact .inr (.inr (.inl ⟨H, hH, hb⟩))
        · exact .inr (.inr (.inr hb))
      · rcases List.mem_append.1 hH with hH | hH
        · exact (h1 H hH).1
        · exact aL H hH
/-- All that is the iterator's, but for L0: as one heaplet. -/
theorem St.restJ {B : World} {Kr : Hp} {j : (Nat → Prop) → World → Prop} {hj : JK j} {ims L0 L' : List Hp} {w : World} (h : St B (sj Kr j hj) ims (L0 ++ L') w) (hi : Kr ∈ ims) :
    ∃ K2 : Hp, (∀ b, K2 b ≠ none ↔ (Kr b ≠ none ∨ dm B ims L' b)) ∧ Agree K2 w ∧ ∀ H ∈ L0, Apart H K2 := by
  have hlt : ∀ b, (Kr b ≠ none ∨ dm B ims L' b) → b < w.heap.size := fun b hb => by
    rcases hb with hb | hb
    · cases hh : Kr b with
      | none => exact absurd hh hb
      | some o => exact (h.im Kr hi).lt hh
    · exact dm_lt (B := B) h.im (fun H hH => (h.own H (List.mem_append_right _ hH)).1) hb
  obtain ⟨K2, h1, h2⟩ := cont_ex (w := w) hlt
  refine ⟨K2, h1, h2, fun H hH b => ?_⟩
  by_cases hb : H b = none
  · exact .inl hb
  · right
    cases hk : K2 b with
    | none => rfl
    | some o =>
      exfalso
      rcases (h1 b).1 (by rw [hk]; simp) with h3 | ⟨M, hM, h3⟩ | ⟨_, I, hI, h3⟩
      · exact h3 (((h.own H (List.mem_append_left _ hH)).2.2 Kr hi b).resolve_left hb)
      · exact h3 (((List.pairwise_append.1 h.nd).2.2 H hH M hM b).resolve_left hb)
      · exact h3 (((h.own H (List.mem_append_left _ hH)).2.2 I hI b).resolve_left hb)
theorem sub_of {H K : Hp} {w : World} (h : Agree H w) (k : Agree K w) (hd : ∀ b, H b ≠ none → K b ≠ none) : ∀ b o, H b = some o → K b = some o := fun b o hb => by
  cases hk : K b with
  | none => exact absurd hk (hd b (by rw [hb]; simp))
  | some x => rw [← agree_cmp h k b o x hb hk]
section calls
variable {P : Program} {nt : Nat} {B : World} {df : List Deferred} {R : Option Nat} {ops : Array Oper} {Q : Post} {ims L : List Hp} {G : Env} {fl : List Bool} {rest : List Oper} {d ty : Nat} {pos : String} {af : Array Edge} {Kr : Hp} {imsO : List Hp} {j : (Nat → Prop) → World → Prop} {hj : JK j}
theorem kl_callJ {f : Operand} {xs : List Operand} {ats : Array Nat} {g : Nat} {cap : Array Value} {vs : List Value} {L0 L' : List Hp} {phi : Value → List Hp → ((Nat → Prop) → World → Prop) → Prop} [hb : FnC P g] (Ks : List Hp)
    (hf : ev G f = some (.func (.func g) #[] cap)) (ha : evs G xs = some vs) (hs : ∀ Kr2, (∀ b o, Kr b = some o → Kr2 b = some o) → (∀ K ∈ Ks, ∀ b o, K b = some o → Kr2 b = some o) → SpecJ P g (vs ++ cap.toList) Kr2 imsO L0 j phi) [hF : TakeL L0 L L'] [hi : AllIn (Kr :: imsO) ims] [hk : AllIn Ks ims] (hfr : ∀ K ∈ Ks, Fr B K)
    (h : ∀ v L1 j' (hj' : JK j'), phi v L1 j' → KL ⟨P, nt, B, sj Kr j' hj', false, df, R⟩ false ops Q (Ks ++ (Kr :: imsO)) (L1 ++ L') fl.tail rest ((d, v) :: G)) (hlt : Nat.blt d nt = true := by rfl) :
    KL ⟨P, nt, B, sj Kr j hj, false, df, R⟩ false ops Q ims L fl (⟨some d, .call ⟨.value f, xs.toArray, ats⟩, ty, pos, af, none⟩ :: rest) G := fun a w hFt hS0 => by
  unfold wpSeq
  rw [if_pos (by simp [Region.wanted])]
  refine .inr ⟨fun e => (by cases e), ?_⟩
  have hrun : (execOp a.eval ⟨some d, .call ⟨.value f, xs.toArray, ats⟩, ty, pos, af, none⟩).run P w = .ok (.enter g (vs ++ cap.toList).toArray) w := by
    have h1 : xs.map a.eval = vs := hFt.evs ha
    simp only [execOp, resolve, hFt.ev hf, Deferred.ofValue, Sem.run_bind, Sem.run_pure, Result.andThen_ok, invoke, List.map_toArray, h1]
    rw [hb.run]
    simp
  unfold Oper.wp
  rw [hrun]
  have hS := hS0.perm hF.t
  obtain ⟨K2, k1, k2, k3⟩ := hS.restJ (hj := hj) (hi.all _ (.head _))
  have hKr := sub_of (hS.im Kr (hi.all _ (.head _))) k2 (fun b hb => (k1 b).2 (.inl hb))
  have hjw : jr Kr j (dm B ims (L0 ++ L')) w := hS.j
  refine (hs K2 hKr (fun K hK => sub_of (hS.im K (hk.all K hK)) k2 (fun b hb => (k1 b).2 (.inr (.inr ⟨(hfr K hK).1 b hb, K, hk.all K hK, hb⟩)))) w (fun H hH => ⟨(hS.own H (List.mem_append_left _ hH)).1, k3 H hH, fun I hI => (hS.own H (List.mem_append_left _ hH)).2.2 I (hi.all _ (.tail _ hI))⟩) (List.pairwise_append.1 hS.nd).1 k2 (fun I hI => hS.im I (hi.all _ (.tail _ hI))) ?_).mono fun e w' he => ?_
  · refine hj.ok hjw.2 (Nat.le_refl _) (fun _ _ _ => rfl) (Io.refl _) (fun b hb => ?_)
    rcases hb with hb | ⟨H, hH, hb⟩
    · have hb' := (k1 b).1 hb
      refine ⟨.inl ?_, ?_⟩
      · rcases hb' with hb' | ⟨H, hH, hb'⟩ | hb'
        · exact .inl hb'
        · exact .inr (.inl ⟨H, List.mem_append_right _ hH, hb'⟩)
        · exact .inr (.inr hb')
      · cases hh : K2 b with
        | none => exact absurd hh hb
        | some o => exact k2.lt hh
    · refine ⟨.inl (.inr (.inl ⟨H, List.mem_append_left _ hH, hb⟩)), ?_⟩
      cases hh : H b with
      | none => exact absurd hh hb
      | some o => exact (hS.own H (List.mem_append_left _ hH)).1.lt hh
  · cases e with
    | returned v =>
      obtain ⟨h1, h2, h3, h4, L1, j', h5, h6, h7, h8, h9⟩ := he
      have hag : ∀ M : Hp, Agree M w → (∀ b, M b ≠ none → K2 b ≠ none) → Agree M w' := fun M hM hd b o hb => h3 b o (sub_of hM k2 hd b o hb)
      have apM : ∀ M : Hp, Agree M w → (∀ b, M b ≠ none → K2 b ≠ none) → ∀ H ∈ L1, Apart H M := fun M _ hd H hH b => by
        rcases (h5 H hH).2.1 b with h | h
        · exact .inl h
        · right
          cases hm : M b with
          | none => rfl
          | some o => exact absurd h (hd b (by rw [hm]; simp))
      have hst : St B (sj Kr j' h7) (Ks ++ (Kr :: imsO)) (L1 ++ L') w' := hS.afterJ (hj := hj) (hj' := h7) (fun I hI => hi.all I hI) (fun K hK => hk.all K hK) h1 h2 (fun b o hb => h3 b o (hKr b o hb)) h4
        (fun K hK => hag K (hS.im K (hk.all K hK)) (fun b hb => (k1 b).2 (.inr (.inr ⟨(hfr K hK).1 b hb, K, hk.all K hK, hb⟩))))
        (fun H hH => hag H (hS.own H (List.mem_append_right _ hH)).1 (fun b hb => (k1 b).2 (.inr (.inl ⟨H, hH, hb⟩))))
        (fun H hH => ⟨(h5 H hH).1, fun I hI => by
          rcases List.mem_append.1 hI with hI | hI
          · exact apM I (hS.im I (hk.all I hI)) (fun b hb => (k1 b).2 (.inr (.inr ⟨(hfr I hI).1 b hb, I, hk.all I hI, hb⟩))) H hH
          · cases hI with
            | head => exact apM Kr (hS.im Kr (hi.all _ (.head _))) (fun b hb => (k1 b).2 (.inl hb)) H hH
            | tail _ hI => exact (h5 H hH).2.2 I hI, fun M hM => apM M (hS.own M (List.mem_append_right _ hM)).1 (fun b hb => (k1 b).2 (.inr (.inl ⟨M, hM, hb⟩))) H hH⟩) h6 (h7.ok h8 (Nat.le_refl _) (fun _ _ _ => rfl) (Io.refl _) (fun b hb => by
          have key : ∀ b, K2 b ≠ none → b < w'.heap.size := fun b hb => by
            cases hh : K2 b with
            | none => exact absurd hh hb
            | some o => exact h3.lt hh
          rcases hb with hb | ⟨H, hH, hb⟩ | hb
          · have := (k1 b).2 (.inl hb); exact ⟨.inl (.inl this), key b this⟩
          · refine ⟨.inl (.inr ⟨H, hH, hb⟩), ?_⟩
            cases hh : H b with
            | none => exact absurd hh hb
            | some o => exact (h5 H hH).1.lt hh
          · have : K2 b ≠ none := by
              refine (k1 b).2 (.inr ?_)
              rcases hb with hb | ⟨hB, I, hI, hb⟩
              · exact .inl hb
              · refine .inr ⟨hB, I, ?_, hb⟩
                rcases List.mem_append.1 hI with hI | hI
                · exact hk.all I hI
                · exact hi.all I hI
            exact ⟨.inl (.inl this), key b this⟩))
      exact ⟨St B (sj Kr j' h7) (Ks ++ (Kr :: imsO)) (L1 ++ L'), .inr ⟨hst, fun e => by cases e⟩, h v L1 j' h7 h9 _ w' (hFt.put (by simpa [Nat.blt_eq, Cx.m] using hlt)) hst⟩
    | panicked c => exact he
    | outgrown => exact he.elim
end calls
/-! ### Yield -/
/-- What is left of a region, seen from where rounds begin. -/
def KI (C : Cx) (ops : Array Oper) (Q : Post) (ims L : List Hp) (l : List Oper) (G : Env) : Prop := ∀ a w, Fit C.m G a → St C.B C.X ims L w → wpListIn (FW C.R) 0 C.P ops Q l a w
section ki
variable {C : Cx} {Q : Post} {ops : Array Oper} {ims L : List Hp} {G : Env} {rest : List Oper} {d ty : Nat} {pos : String} {af : Array Edge}
theorem kc_regI {id : Nat} {l : List Oper} (h : KI C l.toArray Q ims L l G) : KC C Q ims L (.region id l.toArray false) G := fun a w hf hs => wpIn_region_lit (h a w hf hs)
theorem ki_nil (h : KQ C ims L G (Q .normal)) : KI C ops Q ims L [] G := fun a w hf hs => h a w hf hs
theorem ki_y {op : Op} {v : Value} (hd : ∀ c, op ≠ .defer c) (hr : ∀ (r : Operand → Value) w, Ev G r → St C.B C.X ims L w → (execOp r ⟨some d, op, ty, pos, af, none⟩).run C.P w = .ok (.value v) w) (h : KI C ops Q ims L rest ((d, v) :: G)) (hlt : Nat.blt d C.n = true) :
    KI C ops Q ims L (⟨some d, op, ty, pos, af, none⟩ :: rest) G := fun a w hf hs => by
  unfold wpListIn
  rw [if_pos (by simp [Region.wanted])]
  refine opIn_of hd ?_
  unfold Oper.wp
  rw [hr a.eval w hf.toEv hs]
  exact h _ w (hf.put (by simpa [Nat.blt_eq, Cx.m] using hlt)) hs
theorem ki_as {x : Operand} {v : Value} (hx : ev G x = some v) (h : KI C ops Q ims L rest ((d, v) :: G)) (hlt : Nat.blt d C.n = true := by rfl) : KI C ops Q ims L (⟨some d, .assign x, ty, pos, af, none⟩ :: rest) G :=
  ki_y (fun _ e => by cases e) (fun r w hr _ => by simp [go_sem, hr _ _ hx]) h hlt
theorem ki_ld {H : Hp} {p v : Value} {vs : List Value} {x : Operand} {T : Nat} [hT : OneC C.P T] [hi : In H ims] (hx : ev G x = some p) (hp : At H p (v :: vs)) (h : KI C ops Q ims L rest ((d, v) :: G)) (hlt : Nat.blt d C.n = true := by rfl) :
    KI C ops Q ims L (⟨some d, .load T x, ty, pos, af, none⟩ :: rest) G :=
  ki_y (fun _ e => by cases e) (fun r w hr hs => by
    have hat := hp
    obtain ⟨b, o, cs, T', fz, rfl, _⟩ := hp
    have hc : w.cell? ⟨b, o, none⟩ = some v := cell_at (hs.im H hi.mem) hat (j := 0) (u := v) rfl
    simp [go_sem, hr _ _ hx, Instr.loadAt, loadVar, OneC.run, hc]) h hlt
theorem ki_ldB {x : Operand} {T b j E : Nat} {u : Value} {cs : List Value} {F : List Value → List Hp} [hT : OneC C.P T] [hF : BoxF b cs E L F] (hx : ev G x = some (.pointer (some ⟨b, j, none⟩))) (hc : cs[j]? = some u)
    (h : KI C ops Q ims L rest ((d, u) :: G)) (hlt : Nat.blt d C.n = true := by rfl) : KI C ops Q ims L (⟨some d, .load T x, ty, pos, af, none⟩ :: rest) G :=
  ki_y (fun _ e => by cases e) (fun r w hr hs => by
    have hA := (hs.own _ (hF.u cs).mem).1 b _ (sing_self _ _)
    have hcell : w.cell? ⟨b, j, none⟩ = some u := by simp [World.cell?, hA, hc]
    simp [go_sem, hr _ _ hx, Instr.loadAt, loadVar, OneC.run, hcell]) h hlt
end ki
theorem ki_yield {P : Program} {nt : Nat} {B : World} {df : List Deferred} {Q : Post} {ops : Array Oper} {ims imsO L : List Hp} {G : Env} {rest : List Oper} {d ty l n : Nat} {pos : String} {af : Array Edge} {Kr Hx : Hp} {xs : List (List Int)}
    {J : Nat → (Nat → Prop) → World → Prop} {Jx : (Nat → Prop) → World → Prop} {hJ : ∀ n, JK (J n)} (hJx : JK Jx) {f x : Operand} {ats : Array Nat} {v : Value} (hR : Rounds P l imsO xs J Jx)
    (hf : ev G f = some (.func (.yield l) #[] #[])) (hx : ev G x = some v) (hn : n < xs.length) [hi : AllIn (Kr :: imsO) ims] [hL : In Hx L] (hv : Ints Hx v (xs.getD n []))
    (h1 : KI ⟨P, nt, B, sj Kr (J (n + 1)) (hJ _), false, df, none⟩ ops Q (Kr :: imsO) L rest ((d, .bool true) :: G)) (h2 : KI ⟨P, nt, B, sj Kr Jx hJx, false, df, none⟩ ops Q (Kr :: imsO) L rest ((d, .bool false) :: G)) (hlt : Nat.blt d nt = true := by rfl) :
    KI ⟨P, nt, B, sj Kr (J n) (hJ n), false, df, none⟩ ops Q ims L (⟨some d, .call ⟨.value f, #[x], ats⟩, ty, pos, af, none⟩ :: rest) G := fun a w hF hS => by
  unfold wpListIn
  rw [if_pos (by simp [Region.wanted])]
  obtain ⟨K2, k1, k2, _⟩ := St.restJ (hj := hJ n) (L0 := []) (L' := L) hS (hi.all _ (.head _))
  have hjw : jr Kr (J n) (dm B ims L) w := hS.j
  have hsub : ∀ M ∈ L, ∀ b o, M b = some o → K2 b = some o := fun M hM => sub_of (hS.own M hM).1 k2 (fun b hb => (k1 b).2 (.inr (.inl ⟨M, hM, hb⟩)))
  have hKr := sub_of (hS.im Kr (hi.all _ (.head _))) k2 (fun b hb => (k1 b).2 (.inl hb))
  obtain ⟨fn, tmps, assign, body, hy, hround⟩ := hR n hn _ w K2 v hjw.2 k1 k2 (hv.mono (hsub Hx hL.mem) (fun _ _ h => h))
  refine ⟨fun _ _ => trivial, ?_⟩
  rw [Oper.semAt_eq _ _ _ (fun _ e => by cases e)]
  have hrun : (execOp a.eval ⟨some d, .call ⟨.value f, #[x], ats⟩, ty, pos, af, none⟩).run P w = .ok (.round l fn tmps assign body) w := by
    simp only [execOp, resolve, hF.ev hf, Deferred.ofValue, Sem.run_bind, Sem.run_pure, Result.andThen_ok, invoke]
    simpa [hF.ev hx] using hy
  rw [hrun]
  refine ⟨fun e => (by cases e), hround.mono fun e W' he => ?_⟩
  obtain ⟨g1, g2, g3, g4, g5⟩ := he
  have fin : ∀ (j' : (Nat → Prop) → World → Prop) (hj' : JK j'), j' (fun b => Kr b ≠ none ∨ dm B ims L b) W' → St B (sj Kr j' hj') (Kr :: imsO) L W' := fun j' hj' hw => by
    have := St.afterJ (hj := hJ n) (L0 := []) (L' := L) (L1 := []) (Ks := []) (hj' := hj') (imsO := imsO) hS (fun I hI => hi.all I hI) (fun _ h => by cases h) g1 g2 (fun b o hb => g3 b o (hKr b o hb)) g4 (fun _ h => by cases h)
      (fun H hH b o hb => g3 b o (hsub H hH b o hb)) (fun _ h => by cases h) List.Pairwise.nil (hj'.ok hw (Nat.le_refl _) (fun _ _ _ => rfl) (Io.refl _) (fun b hb => by
        have hb2 : K2 b ≠ none := by
          refine (k1 b).2 ?_
          rcases hb with hb | ⟨_, h, _⟩ | hb
          · exact .inl hb
          · cases h
          · rcases hb with hb | ⟨hB, I, hI, hb⟩
            · exact .inr (.inl hb)
            · exact .inr (.inr ⟨hB, I, hi.all I hI, hb⟩)
        refine ⟨.inl ((k1 b).1 hb2), ?_⟩
        cases hh : K2 b with
        | none => exact absurd hh hb2
        | some o => exact g3.lt hh))
    simpa using this
  rcases g5 with ⟨rfl, g5⟩ | ⟨rfl, g5⟩
  · exact h1 _ W' (hF.put (by simpa [Nat.blt_eq, Cx.m] using hlt)) (fin _ (hJ _) g5)
  · exact h2 _ W' (hF.put (by simpa [Nat.blt_eq, Cx.m] using hlt)) (fin _ hJx g5)
theorem sj_eq {Kr : Hp} {J : Nat → (Nat → Prop) → World → Prop} {hJ : ∀ n, JK (J n)} {a b : Nat} (h : a = b) : sj Kr (J a) (hJ a) = sj Kr (J b) (hJ b) := by subst h; rfl
/-! ### All tuples, in order -/
def tupL : List Int → List (List Int)
  | [] => [[]]
  | d :: ds => (valsI d).flatMap (fun v => (tupL ds).map (fun r => v :: r))
theorem flat_len {A B : Type} (f : A → List B) (m : Nat) : ∀ xs : List A, (∀ x ∈ xs, (f x).length = m) → (xs.flatMap f).length = m * xs.length
  | [], _ => by simp
  | x :: xs, h => by
    rw [List.flatMap_cons, List.length_append, h x (.head _), flat_len f m xs (fun y hy => h y (.tail _ hy)), List.length_cons, Nat.mul_succ]; omega
theorem flat_at {A B : Type} (f : A → List B) (m : Nat) (da : A) (db : B) : ∀ (xs : List A) (k i : Nat), (∀ x ∈ xs, (f x).length = m) → k < xs.length → i < m → (xs.flatMap f).getD (m * k + i) db = (f (xs.getD k da)).getD i db
  | [], k, i, _, h, _ => absurd h (Nat.not_lt_zero k)
  | x :: xs, k, i, h, hk, hi => by
    have hx := h x (.head _)
    cases k with
    | zero =>
      rw [List.flatMap_cons]
      simp only [Nat.mul_zero, Nat.zero_add, List.getD_cons_zero]
      rw [List.getD_eq_getElem?_getD, List.getElem?_append_left (by omega), ← List.getD_eq_getElem?_getD]
    | succ k =>
      rw [List.flatMap_cons, List.getD_cons_succ, ← flat_at f m da db xs k i (fun y hy => h y (.tail _ hy)) (by simpa using hk) hi]
      rw [List.getD_eq_getElem?_getD, List.getElem?_append_right (by rw [hx, Nat.mul_succ]; omega), ← List.getD_eq_getElem?_getD]
      congr 1
      rw [hx, Nat.mul_succ]; omega
theorem tup_len (d : Int) (ds : List Int) : (tupL (d :: ds)).length = (tupL ds).length * (valsI d).length := by
  rw [tupL]; exact flat_len _ _ _ (fun _ _ => by simp)
theorem tup_at (d : Int) (ds : List Int) {k i : Nat} (hk : k < (valsI d).length) (hi : i < (tupL ds).length) : (tupL (d :: ds)).getD ((tupL ds).length * k + i) [] = (valsI d).getD k 0 :: (tupL ds).getD i [] := by
  rw [tupL, flat_at _ (tupL ds).length 0 [] _ k i (fun _ _ => by simp) hk hi]
  simp [List.getD_eq_getElem?_getD, hi]
end
end Go.Proofs.YtolndgeihijlbaaGreat
