/- Parts of the proof: a logic of partial frames, plain functions, walks of the program's functions. Conditions: those that each statement names. -/
import Derived.Test.YtolndgeihijlbaaGreatKProveBound5
namespace Go.Proofs.YtolndgeihijlbaaGreat
open Go
set_option linter.unusedSimpArgs false
set_option linter.unusedVariables false
section
theorem copyConE_ok {Hcv : Hp} {vcv : Value} {Hca : Hp} {vca : Value} {Hcr : Hp} {vcr : Value} (c : Con) (hc : ConSm 100 c) (hcv : Ints Hcv vcv c.vars) (hca : Ints Hca vca c.args) (hcr : Rows Hcr vcr c.rows) : Spec Tryz.prog 116 [.agg #[.int .i64 c.kind, vcv, vca, .int .i64 c.bound, vcr]] [Hcv, Hca, Hcr] (fun Hq vq => ∃ cq : Con, ConR Hq vq cq ∧ cq = c) := by
 have h1 := hc.v1
 have h2 := hc.v
 have h3 := hc.a
 have h4 := hc.r
 have h5 := hc.rr
 refine spec_of Tryz.func116 rfl rfl rfl (fun B => ?_)
 refine cS (cr (kl_box rfl rfl (fun p1 H2 f3 a4 => ?_)))
 refine kl_alloc (cs := [.int .i64 (0 : Int), .slice none 0 0, .slice none 0 0, .int .i64 (0 : Int), .slice none 0 0]) rfl (fun b5 hb6 => ?_)
 refine ln (qc (cS (kc_tree (fun i => ([10, 12] : List Nat).contains i) [] (by kernel_rfl) ?_)))
 refine tq 0 nsl rfl (fd9 rfl ‹_› (fun p7 a8 => ?_))
 refine ln (qq (tq 1 nsl rfl (ld rfl ‹_› (ln (qq (tq 2 nsl rfl (fd9 rfl ‹_› (fun p9 a10 => ?_))))))))
 refine ln (qq (tq 3 nsl rfl (ld rfl ‹_› (ln (qq (tq 5 nsl rfl (fd9 rfl ‹_› (fun p11 a12 => ?_))))))))
 refine ln (qq (tq 6 nsl rfl (ld rfl ‹_› (ln (qq (tq 8 nsl rfl (fd9 rfl ‹_› (fun p13 a14 => ?_))))))))
 refine ln (qq (tq 9 nsl rfl (ld rfl ‹_› (ln (qq (kt_b 4 11 rfl rfl (by kernel_rfl) ?_ ?_))))))
 ·refine kl_call rfl rfl (copyInts_ok c.vars (by first | omega | (have h6 := h5 _ (getD_mem (d := []) (by omega : k < c.rows.length)); omega)) ‹_›) (fun v15 H16 f17 o18 => ?_)
  have h19 := OwnL.ints o18
  refine ln (qa nsl (kt_b 7 11 rfl rfl (by kernel_rfl) ?_ ?_))
  ·refine kl_call rfl rfl (copyInts_ok c.args (by first | omega | (have h6 := h5 _ (getD_mem (d := []) (by omega : k < c.rows.length)); omega)) ‹_›) (fun v20 H21 f22 o23 => ?_)
   have h24 := OwnL.ints o23
   refine ln (qa nsl (kt_b 10 11 rfl rfl (by kernel_rfl) ?_ ?_))
   ·refine kl_bd rfl (cp rfl (cp (Sl.cells ‹_›) (cp (Sl.cells ‹_›) (cp rfl cp_nil)))) rfl ?_
    refine ln (qx rfl (ta 11 rfl (kl_alloc (cs := [.int .i64 (0 : Int), .slice none 0 0, .slice none 0 0, .int .i64 (0 : Int), .slice none 0 0]) rfl (fun b25 hb26 => ?_))))
    refine ln (qa nsl (ta 12 rfl (kl_stW (us := [.int .i64 c.kind, v15, v20, .int .i64 c.bound, .slice none 0 0]) rfl rfl rfl rfl (oc rfl (oc (Sl.oneCell ‹_›) (oc (Sl.oneCell ‹_›) (oc rfl (oc rfl oc_nil))))) rfl ?_)))
    refine cg [bxS b25 [.int .i64 c.kind, v15, v20, .int .i64 c.bound, .slice none 0 0] 88, bxS b5 [.int .i64 (0 : Int), .slice none 0 0, .slice none 0 0, .int .i64 (0 : Int), .slice none 0 0] 88] rfl ?_
    refine ln (qx rfl (kt_end (by kernel_rfl) ?_))
    refine qc (cS (cS (cr (sg rfl (ln (qc (bl (kc_no ?_))))))))
    refine kc_loopK (A := Nat × List (List Int) × Value × Hp × Hp) (fun zz => (zz.1 ≤ c.rows.length) ∧ (zz.2.1 = c.rows.take zz.1) ∧ Fr B zz.2.2.2.2 ∧ OwnL 23 1 zz.2.2.2.1 zz.2.2.2.2 RowV zz.2.2.1 zz.2.1 ∧ Fr B zz.2.2.2.1) (fun zz => c.rows.length - zz.1) (fun zz => zz.2.2.2.2) (fun zz => [zz.2.2.2.1, bxS b25 [.int .i64 c.kind, v15, v20, .int .i64 c.bound, zz.2.2.1] 88, bxS b5 [.int .i64 (0 : Int), .slice none 0 0, .slice none 0 0, .int .i64 (0 : Int), .slice none 0 0] 88]) (fun zz => [(4, .int .i64 (zz.1 : Int))]) (0, [], .slice none 0 0, noHp, noHp) (pk [1, 2, 3] rfl) (pc 4 rfl pn) rfl ⟨Nat.zero_le _, rfl, (fr_no _), OwnL.nil, (fr_no _)⟩ ?_
    rintro ⟨k, out, v32, H29, K33⟩ hJ36
    obtain ⟨hk27, hi28, f34, o30, f31⟩ : (k ≤ c.rows.length) ∧ (out = c.rows.take k) ∧ Fr B K33 ∧ OwnL 23 1 H29 K33 RowV v32 out ∧ Fr B H29 := hJ36
    change KC _ _ (K33 :: _) [H29, bxS b25 [.int .i64 c.kind, v15, v20, .int .i64 c.bound, v32] 88, bxS b5 [.int .i64 (0 : Int), .slice none 0 0, .slice none 0 0, .int .i64 (0 : Int), .slice none 0 0] 88] _ ([(4, .int .i64 (k : Int))] ++ _)
    refine cS (cS (cr (mv rfl (fd9 rfl ‹_› (fun p37 a38 => ?_)))))
    refine ld rfl ‹_› (le9 rfl ‹_› (fun l39 => ?_))
    refine ls9 rfl rfl ?_
    refine ln (qc (ci9 rfl (fun c40 => ?_) (fun c40 => ?_)))
    ·refine sk (qc (cS (bl (kc_tree (fun i => ([9, 11] : List Nat).contains i) [bxS b25 [.int .i64 c.kind, v15, v20, .int .i64 c.bound, v32] 88] (by kernel_rfl) ?_))))
     refine kt_q 0 (.cons _ (.cons_cons _ nsl)) rfl (by kernel_rfl) (fV rfl (ln (qq (kt_q 1 (.cons _ (.cons_cons _ nsl)) rfl (by kernel_rfl) (ld rfl (at_box (T := 88) (cs := [.int .i64 c.kind, v15, v20, .int .i64 c.bound, v32]) (off := 4) (fz := (0, 0))) (ln (qq (kt_q 2 (.cons _ (.cons_cons _ nsl)) rfl (by kernel_rfl) (fd9 rfl ‹_› (fun p41 a42 => ?_))))))))))
     refine ln (qq (kt_q 3 (.cons _ (.cons_cons _ nsl)) rfl (by kernel_rfl) (ld rfl ‹_› (ln (qq (kt_q 4 (.cons _ (.cons_cons _ nsl)) rfl (by kernel_rfl) (mv rfl (ln (qq (kt_q 5 (.cons _ (.cons_cons _ nsl)) rfl (by kernel_rfl) (kl_inS rfl rfl ‹_› (by omega) (fun p43 u45 h46 a44 => ?_))))))))))))
     refine ln (qq (kt_q 6 (.cons _ (.cons_cons _ nsl)) rfl (by kernel_rfl) (ld rfl ‹_› (ln (qq (ta 7 rfl (kl_call rfl rfl (copyInts_ok (c.rows.getD k []) (by first | omega | (have h6 := h5 _ (getD_mem (d := []) (by omega : k < c.rows.length)); omega)) ‹_›) (fun v47 H48 f49 o50 => ?_))))))))
     have h51 := OwnL.ints o50
     refine ln (qa (.cons _ (.cons_cons _ nsl)) (ta 8 rfl (bs9 rfl rfl rfl (by decide) (ca (by first | exact Sl.cells ‹_› | exact OwnL.cells ‹_›) ca_nil) (fun v52 H53 f54 r55 s56 => ?_))))
     refine ln (qa (.cons _ (.cons_cons _ nsl)) (ta 9 rfl (cm9 K33 H48 (fun c57 => ?_))))
     have o58 := OwnL.mono (K' := orHp K33 H48) o30 orL
     refine aL9 (c.rows.getD k []) rfl rfl o58 ‹_› ⟨_, rfl, Sl.mono ‹_› (orC c57) (fun _ _ h => h)⟩ (oc (Sl.oneCell ‹_›) oc_nil) (by (have h9 := congrArg List.length hi28; simp at h9; omega)) (by decide) (fun v59 H60 o61 f62 => ?_)
     have f63 := f62 B f31 (Nat.le_refl _)
     refine ln (qx rfl (kt_q 10 (.cons _ (.cons_cons _ nsl)) rfl (by kernel_rfl) (fV rfl (ln (qq (ta 11 rfl (sB rfl rfl rfl (OwnL.oneCell ‹_›) (OwnL.cells ‹_›) ?_)))))))
     refine cg [H60, bxS b25 [.int .i64 c.kind, v15, v20, .int .i64 c.bound, v59] 88, bxS b5 [.int .i64 (0 : Int), .slice none 0 0, .slice none 0 0, .int .i64 (0 : Int), .slice none 0 0] 88] rfl ?_
     refine ln (qx rfl (kt_end (by kernel_rfl) ?_))
     refine qc (cr (mv rfl (ic9 rfl rfl (by omega) ?_)))
     refine sg rfl (ln (tk [H60, bxS b25 [.int .i64 c.kind, v15, v20, .int .i64 c.bound, v59] 88, bxS b5 [.int .i64 (0 : Int), .slice none 0 0, .slice none 0 0, .int .i64 (0 : Int), .slice none 0 0] 88] ?_))
     refine kq_roundK ((k + 1), (out ++ [(c.rows.getD k [])]), v59, H60, (orHp K33 H48)) (by omega) (⟨by omega, (by rw [hi28, take_succ_getD [] (by omega)]), (fr_or f34 f49), o61, f63⟩) (pc 4 rfl pn) (pk [1, 2, 3] rfl) rfl slr9
    ·refine ex9 (qc (cS (cr (kl_ldW rfl rfl (kl_stW (us := [.int .i64 c.kind, v15, v20, .int .i64 c.bound, v32]) rfl rfl rfl rfl (oc rfl (oc (Sl.oneCell ‹_›) (oc (Sl.oneCell ‹_›) (oc rfl (oc (OwnL.oneCell ‹_›) oc_nil))))) rfl ?_)))))
     refine cg [H29, bxS b25 [.int .i64 c.kind, v15, v20, .int .i64 c.bound, v32] 88, bxS b5 [.int .i64 c.kind, v15, v20, .int .i64 c.bound, v32] 88] rfl ?_
     refine ln (qc (rt (kq_frz H29 ?_)))
     refine kq_cmp H29 K33 (fun c64 => ?_)
     refine kq_cmp H21 (orHp H29 K33) (fun c65 => ?_)
     refine kq_cmp H16 (orHp H21 (orHp H29 K33)) (fun c66 => ?_)
     exact kq_retC rfl rfl rfl (orHp H16 (orHp H21 (orHp H29 K33))) (fr_or f17 (fr_or f22 (fr_or f31 f34))) ⟨⟨c.kind, c.vars, c.args, c.bound, out⟩, ⟨_, rfl, _, _, _, rfl, (Sl.mono ‹_› (fun b o h => orL b o h) (fun _ _ h => h)), (Sl.mono ‹_› (fun b o h => orC c66 b o (orL b o h)) (fun _ _ h => h)), (Rows.mono' (OwnL.rowsK o30 c64) (fun b o h => orC c66 b o (orC c65 b o h)))⟩, by (have h9 := hi28; rw [List.take_of_length_le (by omega)] at h9; rw [h9])⟩
   ·refine kl_alloc (cs := [.int .i64 (0 : Int), .slice none 0 0, .slice none 0 0, .int .i64 (0 : Int), .slice none 0 0]) rfl (fun b67 hb68 => ?_)
    refine ln (qa nsl (ta 10 rfl (kl_bd rfl (cp rfl (cp (Sl.cells ‹_›) (cp (Sl.cells ‹_›) (cp rfl cp_nil)))) rfl ?_)))
    refine ln (qx rfl (ta 12 rfl (kl_stW (us := [.int .i64 c.kind, v15, v20, .int .i64 c.bound, .slice none 0 0]) rfl rfl rfl rfl (oc rfl (oc (Sl.oneCell ‹_›) (oc (Sl.oneCell ‹_›) (oc rfl (oc rfl oc_nil))))) rfl ?_)))
    refine cg [bxS b67 [.int .i64 c.kind, v15, v20, .int .i64 c.bound, .slice none 0 0] 88, bxS b5 [.int .i64 (0 : Int), .slice none 0 0, .slice none 0 0, .int .i64 (0 : Int), .slice none 0 0] 88] rfl ?_
    refine ln (qx rfl (kt_end (by kernel_rfl) ?_))
    refine qc (cS (cS (cr (sg rfl (ln (qc (bl (kc_no ?_))))))))
    refine kc_loopK (A := Nat × List (List Int) × Value × Hp × Hp) (fun zz => (zz.1 ≤ c.rows.length) ∧ (zz.2.1 = c.rows.take zz.1) ∧ Fr B zz.2.2.2.2 ∧ OwnL 23 1 zz.2.2.2.1 zz.2.2.2.2 RowV zz.2.2.1 zz.2.1 ∧ Fr B zz.2.2.2.1) (fun zz => c.rows.length - zz.1) (fun zz => zz.2.2.2.2) (fun zz => [zz.2.2.2.1, bxS b67 [.int .i64 c.kind, v15, v20, .int .i64 c.bound, zz.2.2.1] 88, bxS b5 [.int .i64 (0 : Int), .slice none 0 0, .slice none 0 0, .int .i64 (0 : Int), .slice none 0 0] 88]) (fun zz => [(4, .int .i64 (zz.1 : Int))]) (0, [], .slice none 0 0, noHp, noHp) (pk [1, 2, 3] rfl) (pc 4 rfl pn) rfl ⟨Nat.zero_le _, rfl, (fr_no _), OwnL.nil, (fr_no _)⟩ ?_
    rintro ⟨k, out, v74, H71, K75⟩ hJ78
    obtain ⟨hk69, hi70, f76, o72, f73⟩ : (k ≤ c.rows.length) ∧ (out = c.rows.take k) ∧ Fr B K75 ∧ OwnL 23 1 H71 K75 RowV v74 out ∧ Fr B H71 := hJ78
    change KC _ _ (K75 :: _) [H71, bxS b67 [.int .i64 c.kind, v15, v20, .int .i64 c.bound, v74] 88, bxS b5 [.int .i64 (0 : Int), .slice none 0 0, .slice none 0 0, .int .i64 (0 : Int), .slice none 0 0] 88] _ ([(4, .int .i64 (k : Int))] ++ _)
    refine cS (cS (cr (mv rfl (fd9 rfl ‹_› (fun p79 a80 => ?_)))))
    refine ld rfl ‹_› (le9 rfl ‹_› (fun l81 => ?_))
    refine ls9 rfl rfl ?_
    refine ln (qc (ci9 rfl (fun c82 => ?_) (fun c82 => ?_)))
    ·refine sk (qc (cS (bl (kc_tree (fun i => ([9, 11] : List Nat).contains i) [bxS b67 [.int .i64 c.kind, v15, v20, .int .i64 c.bound, v74] 88] (by kernel_rfl) ?_))))
     refine kt_q 0 (.cons _ (.cons_cons _ nsl)) rfl (by kernel_rfl) (fV rfl (ln (qq (kt_q 1 (.cons _ (.cons_cons _ nsl)) rfl (by kernel_rfl) (ld rfl (at_box (T := 88) (cs := [.int .i64 c.kind, v15, v20, .int .i64 c.bound, v74]) (off := 4) (fz := (0, 0))) (ln (qq (kt_q 2 (.cons _ (.cons_cons _ nsl)) rfl (by kernel_rfl) (fd9 rfl ‹_› (fun p83 a84 => ?_))))))))))
     refine ln (qq (kt_q 3 (.cons _ (.cons_cons _ nsl)) rfl (by kernel_rfl) (ld rfl ‹_› (ln (qq (kt_q 4 (.cons _ (.cons_cons _ nsl)) rfl (by kernel_rfl) (mv rfl (ln (qq (kt_q 5 (.cons _ (.cons_cons _ nsl)) rfl (by kernel_rfl) (kl_inS rfl rfl ‹_› (by omega) (fun p85 u87 h88 a86 => ?_))))))))))))
     refine ln (qq (kt_q 6 (.cons _ (.cons_cons _ nsl)) rfl (by kernel_rfl) (ld rfl ‹_› (ln (qq (ta 7 rfl (kl_call rfl rfl (copyInts_ok (c.rows.getD k []) (by first | omega | (have h6 := h5 _ (getD_mem (d := []) (by omega : k < c.rows.length)); omega)) ‹_›) (fun v89 H90 f91 o92 => ?_))))))))
     have h93 := OwnL.ints o92
     refine ln (qa (.cons _ (.cons_cons _ nsl)) (ta 8 rfl (bs9 rfl rfl rfl (by decide) (ca (by first | exact Sl.cells ‹_› | exact OwnL.cells ‹_›) ca_nil) (fun v94 H95 f96 r97 s98 => ?_))))
     refine ln (qa (.cons _ (.cons_cons _ nsl)) (ta 9 rfl (cm9 K75 H90 (fun c99 => ?_))))
     have o100 := OwnL.mono (K' := orHp K75 H90) o72 orL
     refine aL9 (c.rows.getD k []) rfl rfl o100 ‹_› ⟨_, rfl, Sl.mono ‹_› (orC c99) (fun _ _ h => h)⟩ (oc (Sl.oneCell ‹_›) oc_nil) (by (have h9 := congrArg List.length hi70; simp at h9; omega)) (by decide) (fun v101 H102 o103 f104 => ?_)
     have f105 := f104 B f73 (Nat.le_refl _)
     refine ln (qx rfl (kt_q 10 (.cons _ (.cons_cons _ nsl)) rfl (by kernel_rfl) (fV rfl (ln (qq (ta 11 rfl (sB rfl rfl rfl (OwnL.oneCell ‹_›) (OwnL.cells ‹_›) ?_)))))))
     refine cg [H102, bxS b67 [.int .i64 c.kind, v15, v20, .int .i64 c.bound, v101] 88, bxS b5 [.int .i64 (0 : Int), .slice none 0 0, .slice none 0 0, .int .i64 (0 : Int), .slice none 0 0] 88] rfl ?_
     refine ln (qx rfl (kt_end (by kernel_rfl) ?_))
     refine qc (cr (mv rfl (ic9 rfl rfl (by omega) ?_)))
     refine sg rfl (ln (tk [H102, bxS b67 [.int .i64 c.kind, v15, v20, .int .i64 c.bound, v101] 88, bxS b5 [.int .i64 (0 : Int), .slice none 0 0, .slice none 0 0, .int .i64 (0 : Int), .slice none 0 0] 88] ?_))
     refine kq_roundK ((k + 1), (out ++ [(c.rows.getD k [])]), v101, H102, (orHp K75 H90)) (by omega) (⟨by omega, (by rw [hi70, take_succ_getD [] (by omega)]), (fr_or f76 f91), o103, f105⟩) (pc 4 rfl pn) (pk [1, 2, 3] rfl) rfl slr9
    ·refine ex9 (qc (cS (cr (kl_ldW rfl rfl (kl_stW (us := [.int .i64 c.kind, v15, v20, .int .i64 c.bound, v74]) rfl rfl rfl rfl (oc rfl (oc (Sl.oneCell ‹_›) (oc (Sl.oneCell ‹_›) (oc rfl (oc (OwnL.oneCell ‹_›) oc_nil))))) rfl ?_)))))
     refine cg [H71, bxS b67 [.int .i64 c.kind, v15, v20, .int .i64 c.bound, v74] 88, bxS b5 [.int .i64 c.kind, v15, v20, .int .i64 c.bound, v74] 88] rfl ?_
     refine ln (qc (rt (kq_frz H71 ?_)))
     refine kq_cmp H71 K75 (fun c106 => ?_)
     refine kq_cmp H21 (orHp H71 K75) (fun c107 => ?_)
     refine kq_cmp H16 (orHp H21 (orHp H71 K75)) (fun c108 => ?_)
     exact kq_retC rfl rfl rfl (orHp H16 (orHp H21 (orHp H71 K75))) (fr_or f17 (fr_or f22 (fr_or f73 f76))) ⟨⟨c.kind, c.vars, c.args, c.bound, out⟩, ⟨_, rfl, _, _, _, rfl, (Sl.mono ‹_› (fun b o h => orL b o h) (fun _ _ h => h)), (Sl.mono ‹_› (fun b o h => orC c108 b o (orL b o h)) (fun _ _ h => h)), (Rows.mono' (OwnL.rowsK o72 c106) (fun b o h => orC c108 b o (orC c107 b o h)))⟩, by (have h9 := hi70; rw [List.take_of_length_le (by omega)] at h9; rw [h9])⟩
  ·refine kl_alloc (cs := [.int .i64 (0 : Int), .slice none 0 0, .slice none 0 0, .int .i64 (0 : Int), .slice none 0 0]) rfl (fun b109 hb110 => ?_)
   refine ln (qa nsl (ta 7 rfl (kl_call rfl rfl (copyInts_ok c.args (by first | omega | (have h6 := h5 _ (getD_mem (d := []) (by omega : k < c.rows.length)); omega)) ‹_›) (fun v111 H112 f113 o114 => ?_))))
   have h115 := OwnL.ints o114
   refine ln (qa nsl (ta 10 rfl (kl_bd rfl (cp rfl (cp (Sl.cells ‹_›) (cp (Sl.cells ‹_›) (cp rfl cp_nil)))) rfl ?_)))
   refine ln (qx rfl (ta 12 rfl (kl_stW (us := [.int .i64 c.kind, v15, v111, .int .i64 c.bound, .slice none 0 0]) rfl rfl rfl rfl (oc rfl (oc (Sl.oneCell ‹_›) (oc (Sl.oneCell ‹_›) (oc rfl (oc rfl oc_nil))))) rfl ?_)))
   refine cg [bxS b109 [.int .i64 c.kind, v15, v111, .int .i64 c.bound, .slice none 0 0] 88, bxS b5 [.int .i64 (0 : Int), .slice none 0 0, .slice none 0 0, .int .i64 (0 : Int), .slice none 0 0] 88] rfl ?_
   refine ln (qx rfl (kt_end (by kernel_rfl) ?_))
   refine qc (cS (cS (cr (sg rfl (ln (qc (bl (kc_no ?_))))))))
   refine kc_loopK (A := Nat × List (List Int) × Value × Hp × Hp) (fun zz => (zz.1 ≤ c.rows.length) ∧ (zz.2.1 = c.rows.take zz.1) ∧ Fr B zz.2.2.2.2 ∧ OwnL 23 1 zz.2.2.2.1 zz.2.2.2.2 RowV zz.2.2.1 zz.2.1 ∧ Fr B zz.2.2.2.1) (fun zz => c.rows.length - zz.1) (fun zz => zz.2.2.2.2) (fun zz => [zz.2.2.2.1, bxS b109 [.int .i64 c.kind, v15, v111, .int .i64 c.bound, zz.2.2.1] 88, bxS b5 [.int .i64 (0 : Int), .slice none 0 0, .slice none 0 0, .int .i64 (0 : Int), .slice none 0 0] 88]) (fun zz => [(4, .int .i64 (zz.1 : Int))]) (0, [], .slice none 0 0, noHp, noHp) (pk [1, 2, 3] rfl) (pc 4 rfl pn) rfl ⟨Nat.zero_le _, rfl, (fr_no _), OwnL.nil, (fr_no _)⟩ ?_
   rintro ⟨k, out, v121, H118, K122⟩ hJ125
   obtain ⟨hk116, hi117, f123, o119, f120⟩ : (k ≤ c.rows.length) ∧ (out = c.rows.take k) ∧ Fr B K122 ∧ OwnL 23 1 H118 K122 RowV v121 out ∧ Fr B H118 := hJ125
   change KC _ _ (K122 :: _) [H118, bxS b109 [.int .i64 c.kind, v15, v111, .int .i64 c.bound, v121] 88, bxS b5 [.int .i64 (0 : Int), .slice none 0 0, .slice none 0 0, .int .i64 (0 : Int), .slice none 0 0] 88] _ ([(4, .int .i64 (k : Int))] ++ _)
   refine cS (cS (cr (mv rfl (fd9 rfl ‹_› (fun p126 a127 => ?_)))))
   refine ld rfl ‹_› (le9 rfl ‹_› (fun l128 => ?_))
   refine ls9 rfl rfl ?_
   refine ln (qc (ci9 rfl (fun c129 => ?_) (fun c129 => ?_)))
   ·refine sk (qc (cS (bl (kc_tree (fun i => ([9, 11] : List Nat).contains i) [bxS b109 [.int .i64 c.kind, v15, v111, .int .i64 c.bound, v121] 88] (by kernel_rfl) ?_))))
    refine kt_q 0 (.cons _ (.cons_cons _ nsl)) rfl (by kernel_rfl) (fV rfl (ln (qq (kt_q 1 (.cons _ (.cons_cons _ nsl)) rfl (by kernel_rfl) (ld rfl (at_box (T := 88) (cs := [.int .i64 c.kind, v15, v111, .int .i64 c.bound, v121]) (off := 4) (fz := (0, 0))) (ln (qq (kt_q 2 (.cons _ (.cons_cons _ nsl)) rfl (by kernel_rfl) (fd9 rfl ‹_› (fun p130 a131 => ?_))))))))))
    refine ln (qq (kt_q 3 (.cons _ (.cons_cons _ nsl)) rfl (by kernel_rfl) (ld rfl ‹_› (ln (qq (kt_q 4 (.cons _ (.cons_cons _ nsl)) rfl (by kernel_rfl) (mv rfl (ln (qq (kt_q 5 (.cons _ (.cons_cons _ nsl)) rfl (by kernel_rfl) (kl_inS rfl rfl ‹_› (by omega) (fun p132 u134 h135 a133 => ?_))))))))))))
    refine ln (qq (kt_q 6 (.cons _ (.cons_cons _ nsl)) rfl (by kernel_rfl) (ld rfl ‹_› (ln (qq (ta 7 rfl (kl_call rfl rfl (copyInts_ok (c.rows.getD k []) (by first | omega | (have h6 := h5 _ (getD_mem (d := []) (by omega : k < c.rows.length)); omega)) ‹_›) (fun v136 H137 f138 o139 => ?_))))))))
    have h140 := OwnL.ints o139
    refine ln (qa (.cons _ (.cons_cons _ nsl)) (ta 8 rfl (bs9 rfl rfl rfl (by decide) (ca (by first | exact Sl.cells ‹_› | exact OwnL.cells ‹_›) ca_nil) (fun v141 H142 f143 r144 s145 => ?_))))
    refine ln (qa (.cons _ (.cons_cons _ nsl)) (ta 9 rfl (cm9 K122 H137 (fun c146 => ?_))))
    have o147 := OwnL.mono (K' := orHp K122 H137) o119 orL
    refine aL9 (c.rows.getD k []) rfl rfl o147 ‹_› ⟨_, rfl, Sl.mono ‹_› (orC c146) (fun _ _ h => h)⟩ (oc (Sl.oneCell ‹_›) oc_nil) (by (have h9 := congrArg List.length hi117; simp at h9; omega)) (by decide) (fun v148 H149 o150 f151 => ?_)
    have f152 := f151 B f120 (Nat.le_refl _)
    refine ln (qx rfl (kt_q 10 (.cons _ (.cons_cons _ nsl)) rfl (by kernel_rfl) (fV rfl (ln (qq (ta 11 rfl (sB rfl rfl rfl (OwnL.oneCell ‹_›) (OwnL.cells ‹_›) ?_)))))))
    refine cg [H149, bxS b109 [.int .i64 c.kind, v15, v111, .int .i64 c.bound, v148] 88, bxS b5 [.int .i64 (0 : Int), .slice none 0 0, .slice none 0 0, .int .i64 (0 : Int), .slice none 0 0] 88] rfl ?_
    refine ln (qx rfl (kt_end (by kernel_rfl) ?_))
    refine qc (cr (mv rfl (ic9 rfl rfl (by omega) ?_)))
    refine sg rfl (ln (tk [H149, bxS b109 [.int .i64 c.kind, v15, v111, .int .i64 c.bound, v148] 88, bxS b5 [.int .i64 (0 : Int), .slice none 0 0, .slice none 0 0, .int .i64 (0 : Int), .slice none 0 0] 88] ?_))
    refine kq_roundK ((k + 1), (out ++ [(c.rows.getD k [])]), v148, H149, (orHp K122 H137)) (by omega) (⟨by omega, (by rw [hi117, take_succ_getD [] (by omega)]), (fr_or f123 f138), o150, f152⟩) (pc 4 rfl pn) (pk [1, 2, 3] rfl) rfl slr9
   ·refine ex9 (qc (cS (cr (kl_ldW rfl rfl (kl_stW (us := [.int .i64 c.kind, v15, v111, .int .i64 c.bound, v121]) rfl rfl rfl rfl (oc rfl (oc (Sl.oneCell ‹_›) (oc (Sl.oneCell ‹_›) (oc rfl (oc (OwnL.oneCell ‹_›) oc_nil))))) rfl ?_)))))
    refine cg [H118, bxS b109 [.int .i64 c.kind, v15, v111, .int .i64 c.bound, v121] 88, bxS b5 [.int .i64 c.kind, v15, v111, .int .i64 c.bound, v121] 88] rfl ?_
    refine ln (qc (rt (kq_frz H118 ?_)))
    refine kq_cmp H118 K122 (fun c153 => ?_)
    refine kq_cmp H112 (orHp H118 K122) (fun c154 => ?_)
    refine kq_cmp H16 (orHp H112 (orHp H118 K122)) (fun c155 => ?_)
    exact kq_retC rfl rfl rfl (orHp H16 (orHp H112 (orHp H118 K122))) (fr_or f17 (fr_or f113 (fr_or f120 f123))) ⟨⟨c.kind, c.vars, c.args, c.bound, out⟩, ⟨_, rfl, _, _, _, rfl, (Sl.mono ‹_› (fun b o h => orL b o h) (fun _ _ h => h)), (Sl.mono ‹_› (fun b o h => orC c155 b o (orL b o h)) (fun _ _ h => h)), (Rows.mono' (OwnL.rowsK o119 c153) (fun b o h => orC c155 b o (orC c154 b o h)))⟩, by (have h9 := hi117; rw [List.take_of_length_le (by omega)] at h9; rw [h9])⟩
 ·refine kl_alloc (cs := [.int .i64 (0 : Int), .slice none 0 0, .slice none 0 0, .int .i64 (0 : Int), .slice none 0 0]) rfl (fun b156 hb157 => ?_)
  refine ln (qa nsl (ta 4 rfl (kl_call rfl rfl (copyInts_ok c.vars (by first | omega | (have h6 := h5 _ (getD_mem (d := []) (by omega : k < c.rows.length)); omega)) ‹_›) (fun v158 H159 f160 o161 => ?_))))
  have h162 := OwnL.ints o161
  refine ln (qa nsl (ta 7 rfl (kl_call rfl rfl (copyInts_ok c.args (by first | omega | (have h6 := h5 _ (getD_mem (d := []) (by omega : k < c.rows.length)); omega)) ‹_›) (fun v163 H164 f165 o166 => ?_))))
  have h167 := OwnL.ints o166
  refine ln (qa nsl (ta 10 rfl (kl_bd rfl (cp rfl (cp (Sl.cells ‹_›) (cp (Sl.cells ‹_›) (cp rfl cp_nil)))) rfl ?_)))
  refine ln (qx rfl (ta 12 rfl (kl_stW (us := [.int .i64 c.kind, v158, v163, .int .i64 c.bound, .slice none 0 0]) rfl rfl rfl rfl (oc rfl (oc (Sl.oneCell ‹_›) (oc (Sl.oneCell ‹_›) (oc rfl (oc rfl oc_nil))))) rfl ?_)))
  refine cg [bxS b156 [.int .i64 c.kind, v158, v163, .int .i64 c.bound, .slice none 0 0] 88, bxS b5 [.int .i64 (0 : Int), .slice none 0 0, .slice none 0 0, .int .i64 (0 : Int), .slice none 0 0] 88] rfl ?_
  refine ln (qx rfl (kt_end (by kernel_rfl) ?_))
  refine qc (cS (cS (cr (sg rfl (ln (qc (bl (kc_no ?_))))))))
  refine kc_loopK (A := Nat × List (List Int) × Value × Hp × Hp) (fun zz => (zz.1 ≤ c.rows.length) ∧ (zz.2.1 = c.rows.take zz.1) ∧ Fr B zz.2.2.2.2 ∧ OwnL 23 1 zz.2.2.2.1 zz.2.2.2.2 RowV zz.2.2.1 zz.2.1 ∧ Fr B zz.2.2.2.1) (fun zz => c.rows.length - zz.1) (fun zz => zz.2.2.2.2) (fun zz => [zz.2.2.2.1, bxS b156 [.int .i64 c.kind, v158, v163, .int .i64 c.bound, zz.2.2.1] 88, bxS b5 [.int .i64 (0 : Int), .slice none 0 0, .slice none 0 0, .int .i64 (0 : Int), .slice none 0 0] 88]) (fun zz => [(4, .int .i64 (zz.1 : Int))]) (0, [], .slice none 0 0, noHp, noHp) (pk [1, 2, 3] rfl) (pc 4 rfl pn) rfl ⟨Nat.zero_le _, rfl, (fr_no _), OwnL.nil, (fr_no _)⟩ ?_
  rintro ⟨k, out, v173, H170, K174⟩ hJ177
  obtain ⟨hk168, hi169, f175, o171, f172⟩ : (k ≤ c.rows.length) ∧ (out = c.rows.take k) ∧ Fr B K174 ∧ OwnL 23 1 H170 K174 RowV v173 out ∧ Fr B H170 := hJ177
  change KC _ _ (K174 :: _) [H170, bxS b156 [.int .i64 c.kind, v158, v163, .int .i64 c.bound, v173] 88, bxS b5 [.int .i64 (0 : Int), .slice none 0 0, .slice none 0 0, .int .i64 (0 : Int), .slice none 0 0] 88] _ ([(4, .int .i64 (k : Int))] ++ _)
  refine cS (cS (cr (mv rfl (fd9 rfl ‹_› (fun p178 a179 => ?_)))))
  refine ld rfl ‹_› (le9 rfl ‹_› (fun l180 => ?_))
  refine ls9 rfl rfl ?_
  refine ln (qc (ci9 rfl (fun c181 => ?_) (fun c181 => ?_)))
  ·refine sk (qc (cS (bl (kc_tree (fun i => ([9, 11] : List Nat).contains i) [bxS b156 [.int .i64 c.kind, v158, v163, .int .i64 c.bound, v173] 88] (by kernel_rfl) ?_))))
   refine kt_q 0 (.cons _ (.cons_cons _ nsl)) rfl (by kernel_rfl) (fV rfl (ln (qq (kt_q 1 (.cons _ (.cons_cons _ nsl)) rfl (by kernel_rfl) (ld rfl (at_box (T := 88) (cs := [.int .i64 c.kind, v158, v163, .int .i64 c.bound, v173]) (off := 4) (fz := (0, 0))) (ln (qq (kt_q 2 (.cons _ (.cons_cons _ nsl)) rfl (by kernel_rfl) (fd9 rfl ‹_› (fun p182 a183 => ?_))))))))))
   refine ln (qq (kt_q 3 (.cons _ (.cons_cons _ nsl)) rfl (by kernel_rfl) (ld rfl ‹_› (ln (qq (kt_q 4 (.cons _ (.cons_cons _ nsl)) rfl (by kernel_rfl) (mv rfl (ln (qq (kt_q 5 (.cons _ (.cons_cons _ nsl)) rfl (by kernel_rfl) (kl_inS rfl rfl ‹_› (by omega) (fun p184 u186 h187 a185 => ?_))))))))))))
   refine ln (qq (kt_q 6 (.cons _ (.cons_cons _ nsl)) rfl (by kernel_rfl) (ld rfl ‹_› (ln (qq (ta 7 rfl (kl_call rfl rfl (copyInts_ok (c.rows.getD k []) (by first | omega | (have h6 := h5 _ (getD_mem (d := []) (by omega : k < c.rows.length)); omega)) ‹_›) (fun v188 H189 f190 o191 => ?_))))))))
   have h192 := OwnL.ints o191
   refine ln (qa (.cons _ (.cons_cons _ nsl)) (ta 8 rfl (bs9 rfl rfl rfl (by decide) (ca (by first | exact Sl.cells ‹_› | exact OwnL.cells ‹_›) ca_nil) (fun v193 H194 f195 r196 s197 => ?_))))
   refine ln (qa (.cons _ (.cons_cons _ nsl)) (ta 9 rfl (cm9 K174 H189 (fun c198 => ?_))))
   have o199 := OwnL.mono (K' := orHp K174 H189) o171 orL
   refine aL9 (c.rows.getD k []) rfl rfl o199 ‹_› ⟨_, rfl, Sl.mono ‹_› (orC c198) (fun _ _ h => h)⟩ (oc (Sl.oneCell ‹_›) oc_nil) (by (have h9 := congrArg List.length hi169; simp at h9; omega)) (by decide) (fun v200 H201 o202 f203 => ?_)
   have f204 := f203 B f172 (Nat.le_refl _)
   refine ln (qx rfl (kt_q 10 (.cons _ (.cons_cons _ nsl)) rfl (by kernel_rfl) (fV rfl (ln (qq (ta 11 rfl (sB rfl rfl rfl (OwnL.oneCell ‹_›) (OwnL.cells ‹_›) ?_)))))))
   refine cg [H201, bxS b156 [.int .i64 c.kind, v158, v163, .int .i64 c.bound, v200] 88, bxS b5 [.int .i64 (0 : Int), .slice none 0 0, .slice none 0 0, .int .i64 (0 : Int), .slice none 0 0] 88] rfl ?_
   refine ln (qx rfl (kt_end (by kernel_rfl) ?_))
   refine qc (cr (mv rfl (ic9 rfl rfl (by omega) ?_)))
   refine sg rfl (ln (tk [H201, bxS b156 [.int .i64 c.kind, v158, v163, .int .i64 c.bound, v200] 88, bxS b5 [.int .i64 (0 : Int), .slice none 0 0, .slice none 0 0, .int .i64 (0 : Int), .slice none 0 0] 88] ?_))
   refine kq_roundK ((k + 1), (out ++ [(c.rows.getD k [])]), v200, H201, (orHp K174 H189)) (by omega) (⟨by omega, (by rw [hi169, take_succ_getD [] (by omega)]), (fr_or f175 f190), o202, f204⟩) (pc 4 rfl pn) (pk [1, 2, 3] rfl) rfl slr9
  ·refine ex9 (qc (cS (cr (kl_ldW rfl rfl (kl_stW (us := [.int .i64 c.kind, v158, v163, .int .i64 c.bound, v173]) rfl rfl rfl rfl (oc rfl (oc (Sl.oneCell ‹_›) (oc (Sl.oneCell ‹_›) (oc rfl (oc (OwnL.oneCell ‹_›) oc_nil))))) rfl ?_)))))
   refine cg [H170, bxS b156 [.int .i64 c.kind, v158, v163, .int .i64 c.bound, v173] 88, bxS b5 [.int .i64 c.kind, v158, v163, .int .i64 c.bound, v173] 88] rfl ?_
   refine ln (qc (rt (kq_frz H170 ?_)))
   refine kq_cmp H170 K174 (fun c205 => ?_)
   refine kq_cmp H164 (orHp H170 K174) (fun c206 => ?_)
   refine kq_cmp H159 (orHp H164 (orHp H170 K174)) (fun c207 => ?_)
   exact kq_retC rfl rfl rfl (orHp H159 (orHp H164 (orHp H170 K174))) (fr_or f160 (fr_or f165 (fr_or f172 f175))) ⟨⟨c.kind, c.vars, c.args, c.bound, out⟩, ⟨_, rfl, _, _, _, rfl, (Sl.mono ‹_› (fun b o h => orL b o h) (fun _ _ h => h)), (Sl.mono ‹_› (fun b o h => orC c207 b o (orL b o h)) (fun _ _ h => h)), (Rows.mono' (OwnL.rowsK o171 c205) (fun b o h => orC c207 b o (orC c206 b o h)))⟩, by (have h9 := hi169; rw [List.take_of_length_le (by omega)] at h9; rw [h9])⟩
theorem copyModE_ok {Hmd : Hp} {vmd : Value} {Hmc : Hp} {vmc : Value} (m : Mod) (hm : ModSm 100 m) (hmd : Ints Hmd vmd m.doms) (hmc : Cons Hmc vmc m.cons) : SpecT Tryz.prog 115 [.agg #[vmd, vmc]] [] [Hmd, Hmc] (fun vq L1 Ln Kq => L1 = [] ∧ ∃ (Hq Mq : Hp) (va vc : Value) (mq : Mod), vq = .agg #[va, vc] ∧ Ln = [Hq, Mq] ∧ OwnL 3 1 Hq noHp IntV va mq.doms ∧ OwnL 88 5 Mq Kq ConV vc mq.cons ∧ mq = m) := by
 have h1 := hm.d1
 have h2 := hm.d
 have h3 := hm.c
 have h4 := hm.cc
 refine specT_of Tryz.func115 rfl rfl rfl (fun B => ?_)
 refine cS (cr (kl_box rfl rfl (fun p1 H2 f3 a4 => ?_)))
 refine kl_alloc (cs := [.slice none 0 0, .slice none 0 0]) rfl (fun b5 hb6 => ?_)
 refine ln (qc (cS (cr (fd9 rfl ‹_› (fun p7 a8 => ?_)))))
 refine ld rfl ‹_› (kl_callL rfl rfl (copyInts_ok m.doms (by omega) ‹_›) (fun v9 H10 f11 o12 => ?_))
 refine kl_bd rfl (cp (OwnL.cells ‹_›) cp_nil) rfl ?_
 refine kl_alloc (cs := [.slice none 0 0, .slice none 0 0]) rfl (fun b13 hb14 => ?_)
 refine kl_stW (us := [v9, .slice none 0 0]) rfl rfl rfl rfl (oc (OwnL.oneCell ‹_›) (oc rfl oc_nil)) rfl ?_
 refine cg [bxS b13 [v9, .slice none 0 0] 26, H10, bxS b5 [.slice none 0 0, .slice none 0 0] 26] rfl ?_
 refine ln (qc (cS (cS (cr (sg rfl (ln (qc (bl (kc_no ?_)))))))))
 refine kc_loopK (A := Nat × List Con × Value × Hp × Hp) (fun zz => (zz.1 ≤ m.cons.length) ∧ (zz.2.1 = m.cons.take zz.1) ∧ Fr B zz.2.2.2.2 ∧ OwnL 88 5 zz.2.2.2.1 zz.2.2.2.2 ConV zz.2.2.1 zz.2.1 ∧ Fr B zz.2.2.2.1) (fun zz => m.cons.length - zz.1) (fun zz => zz.2.2.2.2) (fun zz => [zz.2.2.2.1, bxS b13 [v9, zz.2.2.1] 26, H10, bxS b5 [.slice none 0 0, .slice none 0 0] 26]) (fun zz => [(4, .int .i64 (zz.1 : Int))]) (0, [], .slice none 0 0, noHp, noHp) (pk [1, 2, 3] rfl) (pc 4 rfl pn) rfl ⟨Nat.zero_le _, rfl, (fr_no _), OwnL.nil, (fr_no _)⟩ ?_
 rintro ⟨k, out, v20, H17, K21⟩ hJ24
 obtain ⟨hk15, hi16, f22, o18, f19⟩ : (k ≤ m.cons.length) ∧ (out = m.cons.take k) ∧ Fr B K21 ∧ OwnL 88 5 H17 K21 ConV v20 out ∧ Fr B H17 := hJ24
 change KC _ _ (K21 :: _) [H17, bxS b13 [v9, v20] 26, H10, bxS b5 [.slice none 0 0, .slice none 0 0] 26] _ ([(4, .int .i64 (k : Int))] ++ _)
 refine cS (cS (cr (mv rfl (fd9 rfl ‹_› (fun p25 a26 => ?_)))))
 refine ld rfl ‹_› (le9 rfl ‹_› (fun l27 => ?_))
 refine ls9 rfl rfl ?_
 refine ln (qc (ci9 rfl (fun c28 => ?_) (fun c28 => ?_)))
 ·refine sk (qc (cS (bl (kc_tree (fun i => ([9, 11] : List Nat).contains i) [bxS b13 [v9, v20] 26] (by kernel_rfl) ?_))))
  refine kt_q 0 (.cons _ (.cons_cons _ nsl)) rfl (by kernel_rfl) (fV rfl (ln (qq (kt_q 1 (.cons _ (.cons_cons _ nsl)) rfl (by kernel_rfl) (ld rfl (at_box (T := 26) (cs := [v9, v20]) (off := 1) (fz := (0, 0))) (ln (qq (kt_q 2 (.cons _ (.cons_cons _ nsl)) rfl (by kernel_rfl) (fd9 rfl ‹_› (fun p29 a30 => ?_))))))))))
  refine ln (qq (kt_q 3 (.cons _ (.cons_cons _ nsl)) rfl (by kernel_rfl) (ld rfl ‹_› (ln (qq (kt_q 4 (.cons _ (.cons_cons _ nsl)) rfl (by kernel_rfl) (mv rfl (ln (qq (kt_q 5 (.cons _ (.cons_cons _ nsl)) rfl (by kernel_rfl) (kl_inC rfl rfl ‹_› (by omega) (fun p31 u33 u34 u35 h36 h37 h38 a32 => ?_))))))))))))
  refine ln (qq (kt_q 6 (.cons _ (.cons_cons _ nsl)) rfl (by kernel_rfl) (kl_ldS rfl ‹_› rfl ?_)))
  refine ln (qq (ta 7 rfl (kl_call rfl rfl (copyConE_ok (m.cons.getD k nilCon) (h4 _ (getD_mem (by omega))) ‹_› ‹_› ‹_›) (fun v39 H40 f41 h42 => ?_))))
  obtain ⟨z43, h45, h44⟩ := h42
  have hce := h44
  obtain ⟨_, rfl, h49⟩ := h45
  have h49' := h49
  obtain ⟨u46, u47, u48, rfl, h50, h51, h52⟩ := h49
  refine ln (qa (.cons _ (.cons_cons _ nsl)) (ta 8 rfl (kl_bsK rfl (fun v53 H54 f55 r56 => ?_))))
  refine ln (qa (.cons _ (.cons_cons _ nsl)) (ta 9 rfl (cm9 K21 H40 (fun c57 => ?_))))
  have o58 := OwnL.mono (K' := orHp K21 H40) o18 orL
  refine aL9 z43 rfl rfl o58 r56 (RMono.mono (orC c57) ‹_›) (oc rfl (oc (Sl.oneCell ‹_›) (oc (Sl.oneCell ‹_›) (oc rfl (oc (Sl.oneCell ‹_›) oc_nil))))) (by (have h9 := congrArg List.length hi16; simp at h9; omega)) (by decide) (fun v59 H60 o61 f62 => ?_)
  have f63 := f62 B f19 (Nat.le_refl _)
  refine ln (qx rfl (kt_q 10 (.cons _ (.cons_cons _ nsl)) rfl (by kernel_rfl) (fV rfl (ln (qq (ta 11 rfl (sB rfl rfl rfl (OwnL.oneCell ‹_›) (OwnL.cells ‹_›) ?_)))))))
  refine cg [H60, bxS b13 [v9, v59] 26, H10, bxS b5 [.slice none 0 0, .slice none 0 0] 26] rfl ?_
  refine ln (qx rfl (kt_end (by kernel_rfl) ?_))
  refine qc (cr (mv rfl (ic9 rfl rfl (by omega) ?_)))
  refine sg rfl (ln (tk [H60, bxS b13 [v9, v59] 26, H10, bxS b5 [.slice none 0 0, .slice none 0 0] 26] ?_))
  refine kq_roundK ((k + 1), (out ++ [z43]), v59, H60, (orHp K21 H40)) (by omega) (⟨by omega, (by rw [hi16, hce, take_succ_getD nilCon (by omega)]), (fr_or f22 f41), o61, f63⟩) (pc 4 rfl pn) (pk [1, 2, 3] rfl) rfl slr9
 ·refine ex9 (qc (cS (cr (kl_ldW rfl rfl (kl_stW (us := [v9, v20]) rfl rfl rfl rfl (oc (OwnL.oneCell ‹_›) (oc (OwnL.oneCell ‹_›) oc_nil)) rfl ?_)))))
  refine cg [H17, bxS b13 [v9, v20] 26, H10, bxS b5 [v9, v20] 26] rfl ?_
  refine ln (qc (rt ?_))
  exact rC rfl rfl rfl [] [H10, H17] K21 (frc f11 (fr1 f19)) f22 ⟨rfl, H10, H17, _, _, (⟨m.doms, out⟩ : Mod), rfl, rfl, o12, o18, by (have h9 := hi16; rw [List.take_of_length_le (by omega)] at h9; rw [h9])⟩
end
section
theorem validObjective_ok {Hmd : Hp} {vmd : Value} {Hmc : Hp} {vmc : Value} {Hobj : Hp} {vobj : Value} (m : Mod) (obj : List Int) (hmd : Ints Hmd vmd m.doms) (hmc : Cons Hmc vmc m.cons) (hobj : Ints Hobj vobj obj) : SpecP Tryz.prog 33 [.agg #[vmd, vmc], vobj] [Hmd, Hmc, Hobj] (.bool (objOkS m obj)) := by
 refine spec_of Tryz.func33 rfl rfl rfl (fun B => ?_)
 refine cS (cr (kl_box rfl rfl (fun p1 H2 f3 a4 => ?_)))
 refine sg rfl (ln (qc (cS (cr (mv rfl (le9 rfl ‹_› (fun l5 => ?_)))))))
 refine fd9 rfl ‹_› (fun p6 a7 => ?_)
 refine ld rfl ‹_› (le9 rfl ‹_› (fun l8 => ?_))
 refine eq9 rfl rfl ?_
 refine mv rfl (jn 3 14 (.bool (decide ((obj.length : Int) = (m.doms.length : Int)) && (allInB obj (-9 : Int) (9 : Int)))) (pk [4, 11] rfl) (fun J10 => ?_) ?_)
 ·rcases Bool.eq_false_or_eq_true (decide ((obj.length : Int) = (m.doms.length : Int))) with g9 | g9
  ·have g9p := of_decide_eq_true g9
   refine gT rfl rfl g9 (mv rfl (gT rfl rfl g9 (cP rfl rfl (allInRange_ok obj (-9 : Int) (9 : Int) ‹_›) ?_)))
   refine aT rfl rfl g9 ?_
   exact J10 _ (pk [14, 4, 11] rfl)
  ·refine gF rfl rfl g9 (gF rfl rfl g9 (aF (allInB obj (-9 : Int) (9 : Int)) rfl rfl g9 ?_))
   exact J10 _ (pk [14, 4, 11] rfl)
 refine sg rfl (ln (qc (rt (kq_retP rfl rfl (congrArg Value.bool ?_)))))
 rfl
end
section
def cmpI (a b : Int) : Int := if a < b then -1 else if b < a then 1 else 0
theorem cmpI_1 {a b : Int} (h : a < b) : (-1 : Int) = cmpI a b := by unfold cmpI; rw [if_pos h]
theorem cmpI_2 {a b : Int} (h : ¬ a < b) (h2 : b < a) : (1 : Int) = cmpI a b := by unfold cmpI; rw [if_neg h, if_pos h2]
theorem cmpI_3 {a b : Int} (h : ¬ a < b) (h2 : ¬ b < a) : (0 : Int) = cmpI a b := by unfold cmpI; rw [if_neg h, if_neg h2]
end
section
def holdL (x : List Int) (l : Lit) : Bool := decide (x.getD l.var.toNat 0 = l.val) != l.neg
def truesI (l : Lit) : Int := if l.neg = true then iandNot 63 (ishl 1 l.val) else ishl 1 l.val
theorem trues_T {l : Lit} (h : l.neg = true) : iandNot 63 (ishl 1 l.val) = truesI l := by unfold truesI; rw [if_pos h]
theorem trues_F {l : Lit} (h : l.neg = false) : ishl 1 l.val = truesI l := by unfold truesI; rw [if_neg (by rw [h]; simp)]
theorem trues_has {l : Lit} {v : Int} (h1 : 0 ≤ l.val ∧ l.val ≤ 5) (h2 : 0 ≤ v ∧ v ≤ 5) : hasB (truesI l) v = (decide (v = l.val) != l.neg) := by
  have key : ∀ i, i < 6 → ∀ j, j < 6 → hasB (iandNot 63 (ishl 1 ((i : Nat) : Int))) ((j : Nat) : Int) = !decide (((j : Nat) : Int) = ((i : Nat) : Int)) ∧ hasB (ishl 1 ((i : Nat) : Int)) ((j : Nat) : Int) = decide (((j : Nat) : Int) = ((i : Nat) : Int)) := by decide +kernel
  obtain ⟨a, b, c⟩ := l
  dsimp only at h1 ⊢
  obtain ⟨i, rfl⟩ := Int.eq_ofNat_of_zero_le h1.1
  obtain ⟨j, rfl⟩ := Int.eq_ofNat_of_zero_le h2.1
  obtain ⟨k1, k2⟩ := key i (by omega) j (by omega)
  unfold truesI
  cases c
  · simp only [Bool.false_eq_true, if_false, k2]; cases decide ((j : Int) = (i : Int)) <;> rfl
  · simp only [if_true, k1]; cases decide ((j : Int) = (i : Int)) <;> rfl
def litOkB (n : Int) (l : Lit) : Bool := withinB l.var 0 (n - 1) && withinB l.val 0 5
def litLt (a b : Lit) : Bool := if a.var ≠ b.var then decide (a.var < b.var) else if a.val ≠ b.val then decide (a.val < b.val) else !a.neg && b.neg
theorem litLt_1 {a b : Lit} (h : a.var ≠ b.var) : decide (a.var < b.var) = litLt a b := by unfold litLt; rw [if_pos h]
theorem litLt_2 {a b : Lit} (h0 : ¬ a.var ≠ b.var) (h : a.val ≠ b.val) : decide (a.val < b.val) = litLt a b := by unfold litLt; rw [if_neg h0, if_pos h]
theorem litLt_3 {a b : Lit} (h0 : ¬ a.var ≠ b.var) (h : ¬ a.val ≠ b.val) : (!a.neg && b.neg) = litLt a b := by unfold litLt; rw [if_neg h0, if_neg h]
def orI : List Int → Int
  | [] => 0
  | x :: r => if x ≠ 0 then x else orI r
theorem orI_at : ∀ {xs : List Int} {k : Nat}, k < xs.length → (xs.take k).all (fun x => decide (x = 0)) = true → xs.getD k 0 ≠ 0 → xs.getD k 0 = orI xs
  | [], k, h, _, _ => absurd h (Nat.not_lt_zero k)
  | x :: r, 0, _, _, h => by
    have h : x ≠ 0 := h
    unfold orI; rw [if_pos h]; rfl
  | x :: r, k + 1, hk, h1, h => by
    simp only [List.take_succ_cons, List.all_cons, Bool.and_eq_true, decide_eq_true_eq] at h1
    unfold orI; rw [if_neg (by simp [h1.1])]
    exact orI_at (by simpa using hk) h1.2 h
theorem orI_end : ∀ {xs : List Int}, xs.all (fun x => decide (x = 0)) = true → (0 : Int) = orI xs
  | [], _ => rfl
  | x :: r, h => by
    simp only [List.all_cons, Bool.and_eq_true, decide_eq_true_eq] at h
    unfold orI; rw [if_neg (by simp [h.1])]; exact orI_end h.2
theorem all0_step {xs : List Int} {k : Nat} (hk : k < xs.length) (h : (xs.take k).all (fun x => decide (x = 0)) = true) (c : ¬ xs.getD k 0 ≠ 0) : (xs.take (k + 1)).all (fun x => decide (x = 0)) = true := by
  rw [take_succ_getD 0 hk, List.all_append, h]; simpa using c
theorem all0_end {xs : List Int} {k : Nat} (hk : k = xs.length) (h : (xs.take k).all (fun x => decide (x = 0)) = true) : (0 : Int) = orI xs := orI_end (by rw [hk, List.take_length] at h; exact h)
def litCmp (a b : Lit) : Int := orI [cmpI a.var b.var, cmpI a.val b.val, cmpI (if a.neg = true then 1 else 0) (if b.neg = true then 1 else 0)]
theorem litCmp_lt (a b : Lit) : decide (0 ≤ litCmp a b) = !(litLt a b) := by
  obtain ⟨a1, a2, a3⟩ := a; obtain ⟨b1, b2, b3⟩ := b
  simp only [litCmp, litLt, orI, cmpI]
  by_cases h1 : a1 < b1
  · simp [h1, show a1 ≠ b1 by omega]
  · by_cases h2 : b1 < a1
    · simp [h1, h2, show a1 ≠ b1 by omega]
    · have e : a1 = b1 := by omega
      subst e
      by_cases h3 : a2 < b2
      · simp [h3, show a2 ≠ b2 by omega]
      · by_cases h4 : b2 < a2
        · simp [h3, h4, show a2 ≠ b2 by omega]
        · have e : a2 = b2 := by omega
          subst e
          cases a3 <;> cases b3 <;> simp
def clAt (n : Int) (c : List Lit) (i : Nat) : Bool := litOkB n (c.getD i nilLit) && !(decide ((0 : Int) < (i : Int)) && !(litLt (c.getD ((i : Int) - 1).toNat nilLit) (c.getD i nilLit)))
def clTo (n : Int) (c : List Lit) (k : Nat) : Bool := (List.range k).all (clAt n c)
def clI (n : Int) (c : List Lit) : Bool := clTo n c c.length && (withinB n 1 4 && decide ((c.length : Int) ≤ 12))
theorem cl_b {A B p q : Bool} (h : (((!A) || !B) || (p && !q)) = false) : (A && B && !(p && !q)) = true := by revert h; cases A <;> cases B <;> cases p <;> cases q <;> simp
theorem cl_b' {A B p q : Bool} (h : (((!A) || !B) || (p && !q)) = true) : (A && B && !(p && !q)) = false := by revert h; cases A <;> cases B <;> cases p <;> cases q <;> simp
theorem cl_step {n : Int} {c : List Lit} {k : Nat} (hi : clTo n c k = true) (h : ((!(withinB (c.getD k nilLit).var 0 (n - 1)) || !(withinB (c.getD k nilLit).val 0 5)) || (decide ((0 : Int) < (k : Int)) && !(litLt (c.getD ((k : Int) - 1).toNat nilLit) (c.getD k nilLit)))) = false) : clTo n c (k + 1) = true := by
  unfold clTo at *
  rw [List.range_succ, List.all_append, hi]
  simp only [List.all_cons, List.all_nil, Bool.and_true, Bool.true_and]
  exact cl_b h
theorem cl_stepI {n : Int} {c : List Lit} {k : Nat} (hi : clTo n c k = true) (h : ((!(withinB (c.getD k nilLit).var 0 (n - 1)) || !(withinB (c.getD k nilLit).val 0 5)) || (decide ((0 : Int) < (k : Int)) && decide (0 ≤ litCmp (c.getD ((k : Int) - 1).toNat nilLit) (c.getD k nilLit)))) = false) : clTo n c (k + 1) = true := cl_step hi (by rw [litCmp_lt] at h; exact h)
theorem cl_at {n : Int} {c : List Lit} {k : Nat} (hk : k < c.length) (h : ((!(withinB (c.getD k nilLit).var 0 (n - 1)) || !(withinB (c.getD k nilLit).val 0 5)) || (decide ((0 : Int) < (k : Int)) && !(litLt (c.getD ((k : Int) - 1).toNat nilLit) (c.getD k nilLit)))) = true) : clTo n c c.length = false := by
  unfold clTo
  rw [List.all_eq_false]
  exact ⟨k, List.mem_range.2 hk, by rw [show clAt n c k = false from cl_b' h]; simp⟩
theorem cl_noI {n : Int} {c : List Lit} {k : Nat} (hk : k < c.length) (h : ((!(withinB (c.getD k nilLit).var 0 (n - 1)) || !(withinB (c.getD k nilLit).val 0 5)) || (decide ((0 : Int) < (k : Int)) && decide (0 ≤ litCmp (c.getD ((k : Int) - 1).toNat nilLit) (c.getD k nilLit)))) = true) : false = clI n c := by
  rw [litCmp_lt] at h
  unfold clI; rw [cl_at hk h]; rfl
theorem cl_yesI {n : Int} {c : List Lit} {k : Nat} (hk : k = c.length) (hi : clTo n c k = true) : (withinB n 1 4 && decide ((c.length : Int) ≤ 12)) = clI n c := by unfold clI; rw [← hk, hi]; rfl
/-- The literals are in order, over the model's variables. -/
def litsB (m : Mod) (c : List Lit) : Bool := validModB m && clI (m.doms.length : Int) c
structure LOk (m : Mod) (c : List Lit) : Prop where
  hM : MOk m
  h : ∀ l ∈ c, (0 ≤ l.var ∧ l.var < (m.doms.length : Int)) ∧ (0 ≤ l.val ∧ l.val ≤ 5)
  n : c.length ≤ 12
theorem lits_ok {m : Mod} {c : List Lit} (h : litsB m c = true) : LOk m c := by
  unfold litsB clI at h
  simp only [Bool.and_eq_true, decide_eq_true_eq] at h
  refine ⟨⟨h.1⟩, fun l hl => ?_, by omega⟩
  obtain ⟨i, hi, rfl⟩ := List.getElem_of_mem hl
  have h1 := List.all_eq_true.1 h.2.1 i (List.mem_range.2 hi)
  unfold clAt litOkB at h1
  simp only [Bool.and_eq_true, withinB_iff] at h1
  rw [List.getD_eq_getElem?_getD, List.getElem?_eq_getElem hi, Option.getD_some] at h1
  omega
theorem litOk_at {n : Int} {c : List Lit} {i : Nat} (h : clTo n c c.length = true) (hi : i < c.length) : litOkB n (c.getD i nilLit) = true := by
  have h1 := List.all_eq_true.1 h i (List.mem_range.2 hi)
  unfold clAt at h1; simp only [Bool.and_eq_true] at h1; exact h1.1
end
section
theorem litLess_ok (a : Lit) (b : Lit) : SpecP Tryz.prog 160 [.agg #[.int .i64 a.var, .int .i64 a.val, .bool a.neg], .agg #[.int .i64 b.var, .int .i64 b.val, .bool b.neg]] [] (.bool (litLt a b)) := by
 refine spec_of Tryz.func160 rfl rfl rfl (fun B => ?_)
 refine cS (cr (kl_box rfl rfl (fun p1 H2 f3 a4 => ?_)))
 refine kl_box rfl rfl (fun p5 H6 f7 a8 => ?_)
 refine sg rfl (ln (qc (cS (cS (cr (fd9 rfl ‹_› (fun p9 a10 => ?_)))))))
 refine ld rfl ‹_› (fd9 rfl ‹_› (fun p11 a12 => ?_))
 refine ld rfl ‹_› (kl_neq rfl rfl ?_)
 refine ln (qc (ci9 rfl (fun c13 => ?_) (fun c13 => ?_)))
 ·refine cS (cr (fd9 rfl ‹_› (fun p14 a15 => ?_)))
  refine ld rfl ‹_› (fd9 rfl ‹_› (fun p16 a17 => ?_))
  refine ld rfl ‹_› (ls9 rfl rfl ?_)
  refine sg rfl (ln (qc (rt (kq_retP rfl rfl (congrArg Value.bool ?_)))))
  exact litLt_1 ‹_›
 ·refine sk (qc (cS (cS (cr (fd9 rfl ‹_› (fun p18 a19 => ?_))))))
  refine ld rfl ‹_› (fd9 rfl ‹_› (fun p20 a21 => ?_))
  refine ld rfl ‹_› (kl_neq rfl rfl ?_)
  refine ln (qc (ci9 rfl (fun c22 => ?_) (fun c22 => ?_)))
  ·refine cS (cr (fd9 rfl ‹_› (fun p23 a24 => ?_)))
   refine ld rfl ‹_› (fd9 rfl ‹_› (fun p25 a26 => ?_))
   refine ld rfl ‹_› (ls9 rfl rfl ?_)
   refine sg rfl (ln (qc (rt (kq_retP rfl rfl (congrArg Value.bool ?_)))))
   exact litLt_2 ‹_› ‹_›
  ·refine sk (qc (cS (cr (fd9 rfl ‹_› (fun p27 a28 => ?_)))))
   refine ld rfl ‹_› (nt9 rfl (mv rfl (jn 3 31 (.bool (!a.neg && b.neg)) (pk [4, 28] rfl) (fun J32 => ?_) ?_)))
   ·rcases Bool.eq_false_or_eq_true (!a.neg) with g29 | g29
    ·have g29p := g29
     try simp only [smpD] at g29p
     refine gT rfl rfl g29 (fd9 rfl ‹_› (fun p30 a31 => ?_))
     refine gT rfl rfl g29 (ld rfl ‹_› (aT rfl rfl g29 ?_))
     exact J32 _ (pk [31, 4, 28] rfl)
    ·refine gF rfl rfl g29 (gF rfl rfl g29 (aF b.neg rfl rfl g29 ?_))
     exact J32 _ (pk [31, 4, 28] rfl)
   refine sg rfl (ln (qc (rt (kq_retP rfl rfl (congrArg Value.bool ?_)))))
   exact litLt_3 ‹_› ‹_›
end
section
def LRowV : Rel (List Lit) := fun K vs xs => ∃ u, vs = [u] ∧ Lits K u xs
instance : RMono LRowV := ⟨fun hk ⟨u, e, h⟩ => ⟨u, e, h.mono hk (fun _ _ h => h)⟩⟩
instance : ROne LRowV := ⟨fun ⟨_, e, h⟩ u hu => by subst e; rw [List.mem_singleton.1 hu]; exact h.oneCell⟩
abbrev LRows (H : Hp) (v : Value) (xs : List (List Lit)) : Prop := Sl H 1 (SlC H 3 LitC) v xs
theorem LRows.mono' {H K : Hp} {v : Value} {xs : List (List Lit)} (h : LRows H v xs) (hk : ∀ b o, H b = some o → K b = some o) : LRows K v xs :=
  Sl.mono h hk (fun _ _ ⟨u, e, h⟩ => ⟨u, e, h.mono hk (fun _ _ h => h)⟩)
theorem OwnL.lrowsK {E : Nat} {H K : Hp} {v : Value} {xs : List (List Lit)} (h : OwnL E 1 H K LRowV v xs) (c : Cmp H K) : LRows (orHp H K) v xs := (h.mono (K' := orHp H K) (orC c)).sl orL (fun _ _ h => h)
end
section
variable {A : Type}
structure TotC (c : A → A → Int) : Prop where
  asy : ∀ a b, c a b < 0 → ¬ c b a < 0
  tr : ∀ a b d, ¬ c b a < 0 → ¬ c d b < 0 → ¬ c d a < 0
def swapL (ys : List A) (j : Nat) (d : A) : List A := (ys.set (j + 1) (ys.getD j d)).set j (ys.getD (j + 1) d)
theorem swapL_at {ys : List A} {j : Nat} {d : A} (h : j + 1 < ys.length) (p : Nat) : (swapL ys j d).getD p d = if p = j then ys.getD (j + 1) d else if p = j + 1 then ys.getD j d else ys.getD p d := by
  unfold swapL
  simp only [List.getD_eq_getElem?_getD, List.getElem?_set, List.length_set]
  by_cases e1 : p = j
  · subst e1; simp [show p < ys.length by omega]
  · rw [if_neg (fun e => e1 e.symm), if_neg e1]
    by_cases e2 : p = j + 1
    · subst e2; simp [h]
    · rw [if_neg (fun e => e2 e.symm), if_neg e2]
theorem swapL_perm {ys : List A} {j : Nat} {d : A} (h : j + 1 < ys.length) : (swapL ys j d).Perm ys := by
  have e0 : ys = ys.take j ++ ys.getD j d :: ys.getD (j + 1) d :: ys.drop (j + 2) := by
    conv => lhs; rw [← List.take_append_drop j ys, List.drop_eq_getElem_cons (show j < ys.length by omega), List.drop_eq_getElem_cons h]
    simp [List.getD_eq_getElem?_getD, h, show j < ys.length by omega]
  have e1 : swapL ys j d = ys.take j ++ ys.getD (j + 1) d :: ys.getD j d :: ys.drop (j + 2) := by
    have hl : (ys.take j).length = j := by rw [List.length_take]; omega
    apply List.ext_getElem?
    intro p
    unfold swapL
    simp only [List.getElem?_set, List.length_set]
    by_cases e1 : j = p
    · subst e1; rw [if_pos rfl, if_pos (by omega), List.getElem?_append_right (by omega), hl]; simp
    · rw [if_neg e1]
      by_cases e2 : j + 1 = p
      · subst e2; rw [if_pos rfl, if_pos h, List.getElem?_append_right (by omega), hl]; simp [show j + 1 - j = 1 by omega]
      · rw [if_neg e2]
        by_cases e3 : p < j
        · rw [List.getElem?_append_left (by omega), List.getElem?_take, if_pos e3]
        · rw [List.getElem?_append_right (by omega), hl]
          obtain ⟨q, rfl⟩ : ∃ q, p = j + 2 + q := ⟨p - (j + 2), by omega⟩
          rw [show j + 2 + q - j = q + 2 from by omega]
          simp
  rw [e1]
  conv => rhs; rw [e0]
  exact List.Perm.append_left _ (List.Perm.swap _ _ _)
/-- Inside: what lies at the places up to i is ascending, but for the element at j, which may be too small. -/
structure InsA (c : A → A → Int) (d : A) (xs ys : List A) (i j : Nat) : Prop where
  perm : ys.Perm xs
  ji : j ≤ i
  srt : ∀ p q, p < q → q ≤ i → q ≠ j → ¬ c (ys.getD q d) (ys.getD p d) < 0
structure SrtA (c : A → A → Int) (d : A) (xs ys : List A) (i : Nat) : Prop where
  perm : ys.Perm xs
  srt : ∀ p q, p < q → q < i → ¬ c (ys.getD q d) (ys.getD p d) < 0
variable {c : A → A → Int} {d : A} {xs ys : List A} {i j : Nat}
theorem SrtA.zero (xs : List A) : SrtA c d xs xs 1 := ⟨.refl _, fun p q h1 h2 => by omega⟩
theorem SrtA.go (h : SrtA c d xs ys i) : InsA c d xs ys i i := ⟨h.perm, Nat.le_refl _, fun p q h1 h2 h3 => h.srt p q h1 (by omega)⟩
theorem InsA.step (hc : TotC c) (h : InsA c d xs ys i j) (hj : 0 < j) (hi : i < ys.length) (hlt : c (ys.getD j d) (ys.getD (j - 1) d) < 0) : InsA c d xs (swapL ys (j - 1) d) i (j - 1) := by
  obtain ⟨k, rfl⟩ : ∃ k, j = k + 1 := ⟨j - 1, by omega⟩
  rw [Nat.add_sub_cancel] at hlt ⊢
  have hji := h.ji
  have hk : k + 1 < ys.length := by omega
  refine ⟨(swapL_perm hk).trans h.perm, by omega, fun p q h1 h2 h3 => ?_⟩
  rw [swapL_at hk, swapL_at hk, if_neg h3]
  by_cases e1 : q = k + 1
  · subst e1
    rw [if_pos rfl]
    by_cases e2 : p = k
    · subst e2; rw [if_pos rfl]; exact hc.asy _ _ hlt
    · rw [if_neg e2, if_neg (by omega)]; exact h.srt p k (by omega) (by omega) (by omega)
  · rw [if_neg e1]
    by_cases e2 : p = k
    · subst e2; rw [if_pos rfl]; exact h.srt (p + 1) q (by omega) h2 e1
    · rw [if_neg e2]
      by_cases e3 : p = k + 1
      · subst e3; rw [if_pos rfl]; exact h.srt k q (by omega) h2 e1
      · rw [if_neg e3]; exact h.srt p q h1 h2 e1
theorem InsA.done0 (h : InsA c d xs ys i 0) : SrtA c d xs ys (i + 1) := ⟨h.perm, fun p q h1 h2 => h.srt p q h1 (by omega) (by omega)⟩
theorem InsA.done (hc : TotC c) (h : InsA c d xs ys i j) (hj : 0 < j) (hn : ¬ c (ys.getD j d) (ys.getD (j - 1) d) < 0) : SrtA c d xs ys (i + 1) := ⟨h.perm, fun p q h1 h2 => by
  by_cases e : q = j
  · subst e
    by_cases e2 : p = q - 1
    · subst e2; exact hn
    · exact hc.tr _ _ _ (h.srt p (q - 1) (by omega) (by have := h.ji; omega) (by omega)) hn
  · exact h.srt p q h1 (by omega) e⟩
/-- The ascending list. -/
def SrtL (c : A → A → Int) (d : A) (ys : List A) : Prop := ∀ p q, p < q → q < ys.length → ¬ c (ys.getD q d) (ys.getD p d) < 0
theorem SrtA.all (h : SrtA c d xs ys i) (hi : ys.length ≤ i) : SrtL c d ys := fun p q h1 h2 => h.srt p q h1 (by omega)
theorem SrtL.tail {y : A} (h : SrtL c d (y :: ys)) : SrtL c d ys := fun p q h1 h2 => by
  have := h (p + 1) (q + 1) (by omega) (by simpa using h2)
  simpa using this
/-- Two ascending lists of the same elements are the same, if no two elements are alike. -/
theorem srt_unique (ha : ∀ a b, ¬ c a b < 0 → ¬ c b a < 0 → a = b) : ∀ {ys zs : List A}, ys.Perm zs → SrtL c d ys → SrtL c d zs → ys = zs
  | [], zs, hp, _, _ => (List.nil_perm.1 hp).symm
  | y :: ys, [], hp, _, _ => by have := hp.length_eq; simp at this
  | y :: ys, z :: zs, hp, h1, h2 => by
    have e : y = z := by
      have m1 : y ∈ z :: zs := hp.subset (.head _)
      have m2 : z ∈ y :: ys := hp.symm.subset (.head _)
      rcases List.mem_cons.1 m1 with e | m1
      · exact e
      · rcases List.mem_cons.1 m2 with e | m2
        · exact e.symm
        · obtain ⟨p, hp1, hp2⟩ := List.getElem_of_mem m1
          obtain ⟨q, hq1, hq2⟩ := List.getElem_of_mem m2
          have g1 := h2 0 (p + 1) (by omega) (by simpa using hp1)
          have g2 := h1 0 (q + 1) (by omega) (by simpa using hq1)
          simp only [List.getD_eq_getElem?_getD, List.getElem?_cons_succ, List.getElem?_cons_zero, List.getElem?_eq_getElem hp1, List.getElem?_eq_getElem hq1, Option.getD_some, hp2, hq2] at g1 g2
          exact ha _ _ g1 g2
    subst e
    rw [srt_unique ha ((List.perm_cons y).1 hp) h1.tail h2.tail]
end
section
def len8M : List UInt8 := [0, 1] ++ List.replicate 2 2 ++ List.replicate 4 3 ++ List.replicate 8 4 ++ List.replicate 16 5 ++ List.replicate 32 6 ++ List.replicate 64 7 ++ List.replicate 128 8
def len8B : ByteArray := ⟨len8M.toArray⟩
theorem len8_any {i : Nat} (h2 : i < 64) : ∃ b : UInt8, len8B[i]? = some b ∧ b.toNat ≤ 8 := by
  have key : ∀ i, i < 64 → ((len8M[i]?).map (fun b => decide (b.toNat ≤ 8))) = some true := by decide +kernel
  have h := key i h2
  cases e : len8M[i]? with
  | none => rw [e] at h; cases h
  | some b =>
    rw [e] at h
    refine ⟨b, ?_, by simpa using h⟩
    have hl : i < len8M.length := (List.getElem?_eq_some_iff.1 e).1
    have hs : i < len8B.size := by
      have e1 : len8B.size = len8M.length := by simp [len8B, ByteArray.size]
      omega
    rw [getElem?_pos len8B i hs]
    have e2 := (List.getElem?_eq_some_iff.1 e).2
    simp only [Option.some.injEq]
    rw [← e2]
    simp [len8B, ByteArray.getElem_eq_getElem_data]
section ops
variable {C : Cx} {dr : Bool} {ops : Array Oper} {Q : Post} {ims L : List Hp} {G : Env} {fl : List Bool} {rest : List Oper} {d ty : Nat} {pos : String} {af : Array Edge}
theorem kl_ixLen0 {x y : Operand} {T : Nat} {m : Int} [hT : IsStr C.P T] (hx : ev G x = some (.string len8B)) (hy : ev G y = some (.int .u8 (IntKind.wrap .u8 m))) (hm : 0 ≤ m ∧ m < 64)
    (h : ∀ z : Int, 0 ≤ z ∧ z ≤ 8 → KL C dr ops Q ims L fl.tail rest ((d, .int .u8 z) :: G)) (hlt : Nat.blt d C.n = true := by rfl) :
    KL C dr ops Q ims L fl (⟨some d, .index T x y, ty, pos, af, none⟩ :: rest) G := by
  have e : IntKind.wrap .u8 m = m := by
    have key : ∀ i, i < 64 → IntKind.wrap .u8 ((i : Nat) : Int) = ((i : Nat) : Int) := by decide +kernel
    obtain ⟨i, rfl⟩ := Int.eq_ofNat_of_zero_le (by omega : 0 ≤ m)
    exact key i (by omega)
  rw [e] at hy
  obtain ⟨b, hb, hv⟩ := len8_any (i := m.toNat) (by omega)
  have h0 : 0 ≤ m := hm.1
  refine kl_y (v := .int .u8 ((b.toNat : Nat) : Int)) (fun r w hr _ => ?_) (h _ (by omega)) hlt
  simp [execOp, hr _ _ hx, hr _ _ hy, Instr.index, run_underlying hT.u, asIntOf, go_sem, h0, hb]
end ops
/-! An operation that asks nothing of the world goes first, whatever the others write. -/
theorem anyG_firstP {P : Program} {md : Region.Mode} {ops : Array Oper} {Q : Exit → Act → World → Prop} {S : World → Prop} {fx : Nat → Bool} {i : Nat} {oi : Oper} {v : Value}
    (hi : ops[i]? = some oi) (hsel : ∀ (j : Nat) (o : Oper) cs b, ops[j]? = some o → o.op ≠ .select cs b)
    (hQ : ∀ c a w, Q (.panic c) (a.put oi.dst v) w → Q (.panic c) a w) (hfx : fx i = true) :
    ∀ (fuel : Nat) (listed : Array Bool) (a : Act) (w : World), Dc md ops listed →
      (∀ j oj, ops[j]? = some oj → j ≠ i → listed.getD j true = false → (∀ e ∈ oj.after, Region.binds md e = true → e.on ≠ i) → oi.apart ops oj = true) →
      i ∈ Region.ready md ops listed → YieldsIf P ops (fun _ => True) oi v a →
      anyG P md ops Q S fx fuel (listed.setIfInBounds i true) (a.put oi.dst v) w → anyG P md ops Q S fx (fuel + 1) listed a w := by
  intro fuel
  induction fuel with
  | zero =>
    intro listed a w _ _ hr hy H
    refine ⟨fun h => (by rw [h] at hr; cases hr), fun j hj => ?_⟩
    by_cases hji : j = i
    · subst hji; exact hy.wpOp hi trivial ⟨.inl hfx, H⟩
    · have := ready_mono hj hji
      rw [H.1] at this
      cases this
  | succ fuel ih =>
    intro listed a w hdc hfree hr hy H
    refine ⟨fun h => (by rw [h] at hr; cases hr), fun j hj => ?_⟩
    by_cases hji : j = i
    · subst hji; exact hy.wpOp hi trivial ⟨.inl hfx, H⟩
    · have h1 := H.2 j (ready_mono hj hji)
      obtain ⟨hjun, oj, hoj, hall⟩ := mem_ready.1 hj
      have hnot : ∀ e ∈ oj.after, Region.binds md e = true → e.on ≠ i := fun e he hb heq => by
        have h1 := hall e he hb
        have h0 := (mem_ready.1 hr).1
        rw [heq] at h1
        rcases Nat.lt_or_ge i listed.size with h' | h'
        · simp [h'] at h0 h1; rw [h0] at h1; cases h1
        · simp [Array.getElem?_eq_none h'] at h1
      have h2 := wpOp_putIf hoj (hfree j oj hoj hji hjun hnot) (fun cs b => hsel i oi cs b hi) (fun cs b => hsel j oj cs b hoj) hQ hy h1
      have hfree' : ∀ k ok, ops[k]? = some ok → k ≠ i → (listed.setIfInBounds j true).getD k true = false →
          (∀ e ∈ ok.after, Region.binds md e = true → e.on ≠ i) → oi.apart ops ok = true := fun k ok hk hki hun hno => by
        refine hfree k ok hk hki ?_ hno
        by_cases hjk : j = k
        · subst hjk; exact hjun
        · rw [getD_set_ne true hjk] at hun; exact hun
      refine wpOp_mono (fun a' w' h3 => ?_) h2
      refine ⟨h3.2.1, ih (listed.setIfInBounds j true) a' w' (hdc.set hj) hfree' (ready_mono hr (Ne.symm hji)) h3.1 ?_⟩
      rw [Array.setIfInBounds_comm _ _ hji]
      exact h3.2.2
theorem kt_p {C : Cx} {ops : Array Oper} {Q : Post} {ims L : List Hp} {G : Env} {fx : Nat → Bool} {LS : List Hp} {fuel : Nat} {listed : Array Bool} (k : Nat) {d ty : Nat} {op : Op} {pos : String} {af : Array Edge} {v : Value} (ho : ops[k]? = some ⟨some d, op, ty, pos, af, none⟩) (hfx : fx k = true)
    (hB : (Region.noSelect ops && (Region.ready .any ops listed).contains k && Region.free .any ops listed k) = true)
    (hy : ∀ (r : Operand → Value) (w : World), Ev G r → (execOp r ⟨some d, op, ty, pos, af, none⟩).run C.P w = .ok (.value v) w)
    (h : KT C ops (Only Q) fx LS fuel (listed.setIfInBounds k true) ims L ((d, v) :: G)) (hlt : Nat.blt d C.n = true := by rfl) : KT C ops (Only Q) fx LS (fuel + 1) listed ims L G := fun a w hf hs hdc => by
  simp only [Bool.and_eq_true] at hB
  obtain ⟨⟨hsel, hr⟩, hfree⟩ := hB
  have hr' : k ∈ Region.ready .any ops listed := by simpa using hr
  exact anyG_firstP ho (Region.noSelect_spec hsel) (fun c a w hq => hq.elim) hfx fuel listed a w hdc (Region.free_spec ho hfree) hr'
    (.inl ⟨by simp [Region.wanted], fun w' _ => hy a.eval w' hf.toEv⟩) (h _ w (hf.put (by simpa [Nat.blt_eq, Cx.m] using hlt)) hs (hdc.set hr'))
theorem py_mv {P : Program} {G : Env} {d ty : Nat} {pos : String} {af : Array Edge} {x : Operand} {v : Value} (hx : ev G x = some v) : ∀ (r : Operand → Value) (w : World), Ev G r → (execOp r ⟨some d, .move x, ty, pos, af, none⟩).run P w = .ok (.value v) w := fun a w hf => by simp [go_sem, hf _ _ hx]
theorem py_sub {P : Program} {G : Env} {d ty T T2 : Nat} {pos : String} {af : Array Edge} {x y : Operand} {m k : Int} (hx : ev G x = some (.int .i64 m)) (hy : ev G y = some (.int .i64 k)) (hb : -9223372036854775808 ≤ m - k ∧ m - k ≤ 9223372036854775807) :
    ∀ (r : Operand → Value) (w : World), Ev G r → (execOp r ⟨some d, .binOp .sub T x y T2, ty, pos, af, none⟩).run P w = .ok (.value (.int .i64 (m - k))) w := fun a w hf => by simp [go_sem, hf _ _ hx, hf _ _ hy, wrap_in hb]
section ops2
variable {C : Cx} {dr : Bool} {ops : Array Oper} {Q : Post} {ims L : List Hp} {G : Env} {fl : List Bool} {rest : List Oper} {d ty : Nat} {pos : String} {af : Array Edge}
end ops2
/-! Inside the sort. -/
variable {A : Type} {c : A → A → Int} {d : A} {xs ys : List A} {i j : Nat} {z : Int}
theorem so_pos (h : z = (j : Int) ∧ InsA c d xs ys i j) (hx : (decide ((0 : Int) < z) && decide (c (ys.getD z.toNat d) (ys.getD (z - 1).toNat d) < 0)) = true) : 0 < j := by
  simp only [Bool.and_eq_true, decide_eq_true_eq] at hx; omega
theorem so_step (hc : TotC c) (h : z = (j : Int) ∧ InsA c d xs ys i j) (hi : i < ys.length) (hx : (decide ((0 : Int) < z) && decide (c (ys.getD z.toNat d) (ys.getD (z - 1).toNat d) < 0)) = true) :
    z - 1 = ((j - 1 : Nat) : Int) ∧ InsA c d xs ((ys.set z.toNat (ys.getD (z - 1).toNat d)).set (z - 1).toNat (ys.getD z.toNat d)) i (j - 1) := by
  have hj := so_pos h hx
  obtain ⟨rfl, h⟩ := h
  simp only [Bool.and_eq_true, decide_eq_true_eq] at hx
  obtain ⟨k, rfl⟩ : ∃ k, j = k + 1 := ⟨j - 1, by omega⟩
  rw [show (((k + 1 : Nat) : Int) - 1).toNat = k from by omega, Int.toNat_natCast] at hx ⊢
  exact ⟨by omega, InsA.step hc h hj hi hx.2⟩
theorem so_exit (hc : TotC c) (h : z = (j : Int) ∧ InsA c d xs ys i j) (hx : (decide ((0 : Int) < z) && decide (c (ys.getD z.toNat d) (ys.getD (z - 1).toNat d) < 0)) = false) : SrtA c d xs ys (i + 1) := by
  obtain ⟨rfl, h⟩ := h
  by_cases hj : j = 0
  · subst hj; exact h.done0
  · obtain ⟨k, rfl⟩ : ∃ k, j = k + 1 := ⟨j - 1, by omega⟩
    rw [show (((k + 1 : Nat) : Int) - 1).toNat = k from by omega, Int.toNat_natCast, decide_eq_true (by omega : (0 : Int) < ((k + 1 : Nat) : Int)), Bool.true_and, decide_eq_false_iff_not] at hx
    exact h.done hc (Nat.succ_pos k) (by rw [Nat.add_sub_cancel]; exact hx)
/-! Literals. -/
theorem litLt_iff {a b : Lit} : litLt a b = true ↔ a.var < b.var ∨ (a.var = b.var ∧ (a.val < b.val ∨ (a.val = b.val ∧ (a.neg = false ∧ b.neg = true)))) := by
  unfold litLt
  by_cases h1 : a.var = b.var
  · rw [if_neg (by simpa using h1)]
    by_cases h2 : a.val = b.val
    · rw [if_neg (by simpa using h2)]; simp [h1, h2]
    · rw [if_pos h2]; simp [h1, h2]
  · rw [if_pos h1]; simp [h1]
theorem litC_iff {a b : Lit} : litCmp a b < 0 ↔ litLt a b = true := by
  have h := litCmp_lt a b
  cases e : litLt a b with
  | true => rw [e] at h; simp at h; simp; omega
  | false => rw [e] at h; simp at h; simp; omega
theorem litC_tot : TotC litCmp := by
  refine ⟨fun a b h => ?_, fun a b d h1 h2 => ?_⟩
  · rw [litC_iff, litLt_iff] at *
    rintro (g | ⟨g1, g | ⟨g2, g3, g4⟩⟩)
    · rcases h with h | ⟨h, _⟩ <;> omega
    · rcases h with h | ⟨h, h | ⟨h, _⟩⟩ <;> omega
    · rcases h with h | ⟨h, h | ⟨h, h3, h4⟩⟩
      · omega
      · omega
      · rw [g3] at h4; cases h4
  · rw [litC_iff, litLt_iff] at *
    rintro (g | ⟨g1, g | ⟨g2, g3, g4⟩⟩)
    · by_cases e : b.var < a.var
      · exact h1 (.inl e)
      · exact h2 (.inl (by omega))
    · by_cases e : b.var = a.var
      · by_cases e2 : b.val < a.val
        · exact h1 (.inr ⟨e, .inl e2⟩)
        · exact h2 (.inr ⟨by omega, .inl (by omega)⟩)
      · by_cases e3 : b.var < a.var
        · exact h1 (.inl e3)
        · exact h2 (.inl (by omega))
    · by_cases e : b.var = a.var
      · by_cases e2 : b.val = a.val
        · cases e5 : b.neg with
          | false => exact h1 (.inr ⟨e, .inr ⟨e2, e5, g4⟩⟩)
          | true => exact h2 (.inr ⟨by omega, .inr ⟨by omega, g3, e5⟩⟩)
        · by_cases e3 : b.val < a.val
          · exact h1 (.inr ⟨e, .inl e3⟩)
          · exact h2 (.inr ⟨by omega, .inl (by omega)⟩)
      · by_cases e3 : b.var < a.var
        · exact h1 (.inl e3)
        · exact h2 (.inl (by omega))
theorem litC_anti {a b : Lit} (h1 : ¬ litCmp a b < 0) (h2 : ¬ litCmp b a < 0) : a = b := by
  rw [litC_iff, litLt_iff] at *
  obtain ⟨a1, a2, a3⟩ := a
  obtain ⟨b1, b2, b3⟩ := b
  dsimp only at *
  have e1 : a1 = b1 := by
    by_cases e : a1 < b1
    · exact absurd (.inl e) h1
    · by_cases e' : b1 < a1
      · exact absurd (.inl e') h2
      · omega
  subst e1
  have e2 : a2 = b2 := by
    by_cases e : a2 < b2
    · exact absurd (.inr ⟨rfl, .inl e⟩) h1
    · by_cases e' : b2 < a2
      · exact absurd (.inr ⟨rfl, .inl e'⟩) h2
      · omega
  subst e2
  cases a3 <;> cases b3 <;> simp at *
theorem SrtA.le {A : Type} {c : A → A → Int} {d : A} {xs ys : List A} {i n : Nat} (h : SrtA c d xs ys i) (hn : n ≤ i) : SrtA c d xs ys n := ⟨h.perm, fun p q h1 h2 => h.srt p q h1 (by omega)⟩
end
section
def negL (l : Lit) : Lit := ⟨l.var, l.val, !l.neg⟩
def negTo (c : List Lit) (k : Nat) : List Lit := (c.take k).map negL
theorem negTo_step {c out : List Lit} {k : Nat} (h : out = negTo c k) (hk : k < c.length) : out ++ [⟨(c.getD k nilLit).var, (c.getD k nilLit).val, !(c.getD k nilLit).neg⟩] = negTo c (k + 1) := by
  rw [h, negTo, negTo, take_succ_getD nilLit hk, List.map_append]; rfl
theorem negL_inj {a b : Lit} (h : negL a = negL b) : a = b := by
  obtain ⟨a1, a2, a3⟩ := a
  obtain ⟨b1, b2, b3⟩ := b
  simp only [negL, Lit.mk.injEq] at h
  obtain ⟨rfl, rfl, h⟩ := h
  cases a3 <;> cases b3 <;> simp_all
theorem neg_nodup {c : List Lit} (h : c.Nodup) : (c.map negL).Nodup := by
  rw [List.nodup_iff_pairwise_ne, List.pairwise_map]
  exact (List.nodup_iff_pairwise_ne.1 h).imp fun h e => h (negL_inj e)
theorem litLt_trans {a b d : Lit} (h : litLt a b = true) (g : litLt b d = true) : litLt a d = true := by
  rw [litLt_iff] at *
  rcases h with h | ⟨h1, h | ⟨h2, h3, h4⟩⟩ <;> rcases g with g | ⟨g1, g | ⟨g2, g3, g4⟩⟩
  · exact .inl (by omega)
  · exact .inl (by omega)
  · exact .inl (by omega)
  · exact .inl (by omega)
  · exact .inr ⟨by omega, .inl (by omega)⟩
  · exact .inr ⟨by omega, .inl (by omega)⟩
  · exact .inl (by omega)
  · exact .inr ⟨by omega, .inl (by omega)⟩
  · rw [g3] at h4; cases h4
theorem cl_lt {n : Int} {c : List Lit} (h : clTo n c c.length = true) : ∀ (j i : Nat), i < j → j < c.length → litLt (c.getD i nilLit) (c.getD j nilLit) = true
  | 0, i, hi, _ => absurd hi (Nat.not_lt_zero _)
  | j + 1, i, hi, hj => by
    have h1 := List.all_eq_true.1 h (j + 1) (List.mem_range.2 hj)
    unfold clAt at h1
    rw [decide_eq_true (by omega : (0 : Int) < ((j + 1 : Nat) : Int)), show (((j + 1 : Nat) : Int) - 1).toNat = j from by omega] at h1
    simp only [Bool.and_eq_true, Bool.true_and, Bool.not_not] at h1
    by_cases e : i = j
    · subst e; exact h1.2
    · exact litLt_trans (cl_lt h j i (by omega) (by omega)) h1.2
theorem litLt_irr (a : Lit) : litLt a a = false := by
  rw [Bool.eq_false_iff]; intro h
  rw [litLt_iff] at h
  rcases h with h | ⟨_, h | ⟨_, h1, h2⟩⟩
  · omega
  · omega
  · rw [h1] at h2; cases h2
theorem cl_nodup {n : Int} {c : List Lit} (h : clI n c = true) : c.Nodup ∧ c.length ≤ 12 ∧ ∀ l ∈ c, litOkB n l = true := by
  unfold clI at h
  simp only [Bool.and_eq_true, decide_eq_true_eq] at h
  refine ⟨?_, by omega, fun l hl => ?_⟩
  · rw [List.nodup_iff_pairwise_ne, List.pairwise_iff_getElem]
    intro i j hi hj hij e
    have := cl_lt h.1 j i hij hj
    rw [List.getD_eq_getElem?_getD, List.getD_eq_getElem?_getD, List.getElem?_eq_getElem hi, List.getElem?_eq_getElem hj, Option.getD_some, Option.getD_some, e, litLt_irr] at this
    cases this
  · obtain ⟨i, hi, rfl⟩ := List.getElem_of_mem hl
    have := litOk_at h.1 hi
    rwa [List.getD_eq_getElem?_getD, List.getElem?_eq_getElem hi, Option.getD_some] at this
structure NegR (c rq : List Lit) : Prop where
  perm : rq.Perm (c.map negL)
  srt : SrtL litCmp nilLit rq
theorem srt_adj {ys zs : List Lit} {k : Nat} (hn : zs.Nodup) (hp : ys.Perm zs) (h0 : 0 < k) (hk : k < ys.length) : ys.getD k nilLit ≠ ys.getD (k - 1) nilLit := by
  have h := List.nodup_iff_pairwise_ne.1 (hp.symm.nodup hn)
  rw [List.pairwise_iff_getElem] at h
  have := h (k - 1) k (by omega) hk (by omega)
  rw [List.getD_eq_getElem?_getD, List.getD_eq_getElem?_getD, List.getElem?_eq_getElem hk, List.getElem?_eq_getElem (show k - 1 < ys.length by omega), Option.getD_some, Option.getD_some]
  exact fun e => this e.symm
theorem neg_pre {c out : List Lit} {k : Nat} (hn : c.Nodup) (h : out = negTo c k) (hk : c.length ≤ k) (hl : c.length ≤ 12) : out.Nodup ∧ out.length ≤ 12 ∧ out = c.map negL := by
  rw [h, negTo, List.take_of_length_le hk]
  exact ⟨neg_nodup hn, by simpa using hl, rfl⟩
theorem srt_cpt {c ys : List Lit} (hn : c.Nodup) (h : SrtA litCmp nilLit c ys c.length) : (∀ k : Nat, 0 < k → k < ys.length → ys.getD k nilLit ≠ ys.getD ((k : Int) - 1).toNat nilLit) ∧ ys.length ≤ c.length ∧ ys.Perm c ∧ SrtL litCmp nilLit ys := by
  have hl := h.perm.length_eq
  refine ⟨fun k h0 hk => ?_, by omega, h.perm, h.all (by omega)⟩
  rw [show ((k : Int) - 1).toNat = k - 1 from by omega]
  exact srt_adj hn h.perm h0 hk
end
section
theorem filt_mono {c : Con} {n : Nat} {es ds : List Int} (hc : ConOk c n) (he : es.length = n) (hd : ds.length = n) (hs : SubD es ds) : SubD (filtL c es) (filtL c ds) := ⟨by rw [filtL_len, filtL_len, hs.1], fun i hi v hv h => by
  rw [filtL_len] at hi
  rcases filt_cases hc he (i := i) (by omega) with ⟨j, hj, e, e2⟩ | ⟨h1, e2⟩ <;> rcases filt_cases hc hd (i := i) (by omega) with ⟨j', hj', e', e2'⟩ | ⟨h1', e2'⟩
  · have hjj : j = j' := hc.inj hj hj' (by omega)
    subst hjj
    rw [e2] at h; rw [e2']
    obtain ⟨t, ht, hs2, hvt⟩ := (supp_has hv).1 h
    refine (supp_has hv).2 ⟨t, ?_, hs2, hvt⟩
    have hb := mem_tupL.1 ht
    refine mem_tupL.2 ⟨by rw [hb.1]; simp [wordL], fun k hk => ?_⟩
    have hk' : k < c.vars.length := by simpa [wordL] using hk
    have hx := hb.2 k (by simpa [wordL] using hk')
    rw [word_at hk'] at hx ⊢
    have hat := hc.at hk'
    rw [mem_valsI] at hx ⊢
    exact ⟨hx.1, hs.2 _ (by omega) _ hx.1 hx.2⟩
  · exact absurd e (h1' j hj)
  · exact absurd e' (h1 j' hj')
  · rw [e2] at h; rw [e2']; exact hs.2 i hi v hv h⟩
theorem filtC_mono {cs : List Con} {n : Nat} (hc : ∀ c ∈ cs, ConOk c n) : ∀ {es ds : List Int}, es.length = n → ds.length = n → SubD es ds → SubD (filtC cs es) (filtC cs ds) := by
  induction cs with
  | nil => intro es ds _ _ h; exact h
  | cons c cs ih =>
    intro es ds he hd h
    exact ih (fun c hm => hc c (.tail _ hm)) ((filtL_len c es).trans he) ((filtL_len c ds).trans hd) (filt_mono (hc c (.head _)) he hd h)
theorem prop_top {m : Mod} (hM : MOk m) {F : List Int} (hF : DOk m.doms.length F) (hfix : filtA m F = F) (hz : F.contains 0 = false) : ∀ (k : Nat) {ds : List Int}, sumN ds = k → DOk m.doms.length ds → SubD F ds → SubD F (prop m ds) := by
  intro k
  induction k using Nat.strongRecOn with
  | _ k ih =>
    intro ds hk hd hs
    cases h0 : ds.contains 0 with
    | true =>
      exfalso
      obtain ⟨i, hi, h1⟩ := List.getElem_of_mem (List.contains_iff_mem.1 h0)
      have h2 : ds.getD i 0 = 0 := by simp [List.getD, hi, h1]
      have hi' : i < F.length := by rw [hs.1]; exact hi
      have h3 := sub_le (hd.d.at hi) (hF.d.at hi') (hs.2 i hi)
      have h4 := hF.d.at hi'
      have h5 : F.getD i 0 = 0 := by omega
      have h6 := getD_mem (d := (0 : Int)) hi'
      rw [h5] at h6
      have h7 := List.contains_iff_mem.2 h6
      rw [hz] at h7; cases h7
    | false =>
      by_cases e : filtA m ds = ds
      · rw [prop_fix h0 e]; exact hs
      · rw [← prop_step hM hd h0 e]
        have hf := filtA_ok hM hd
        have hm : SubD (filtA m F) (filtA m ds) := filtC_mono hM.cons hF.l hd.l hs
        rw [hfix] at hm
        exact ih _ (hk ▸ filtA_lt hM hd e) rfl hf.1 hm
/-! Probing. -/
end
section
theorem nodup_sub_len : ∀ {xs ys : List Int}, xs.Nodup → (∀ x ∈ xs, x ∈ ys) → xs.length ≤ ys.length
  | [], _, _, _ => Nat.zero_le _
  | x :: xs, ys, hn, hs => by
    obtain ⟨h1, h2⟩ := List.nodup_cons.1 hn
    have h3 : xs.length ≤ (ys.erase x).length := nodup_sub_len h2 (fun y hy => (List.mem_erase_of_ne (fun e => h1 (by rw [← e]; exact hy))).2 (hs y (.tail _ hy)))
    have hm := hs x (.head _)
    rw [List.length_erase_of_mem hm] at h3
    have := List.length_pos_of_mem hm
    simp only [List.length_cons]; omega
theorem iota_sub {n : Nat} {vars : List Int} (hn : vars.Nodup) (h : ∀ v ∈ vars, (0 : Int) ≤ v ∧ v < n) : vars.length ≤ n := by
  have := nodup_sub_len (ys := natsI (List.range n)) hn (fun v hv => by
    have := h v hv
    exact List.mem_map.2 ⟨v.toNat, List.mem_range.2 (by omega), by omega⟩)
  simpa [natsI] using this
/-! The model of all variables. -/
/-! What the walks ask. -/
theorem rows_small {rows : List (List Int)} {n lo hi : Int} (h : rowsInB rows n lo hi = true) (hn : n ≤ 6) : rows.length ≤ 8 ∧ ∀ r ∈ rows, r.length ≤ 12 := by
  simp only [rowsInB, Bool.and_eq_true, withinB_iff, List.all_eq_true, decide_eq_true_eq] at h
  exact ⟨by omega, fun r hr => by have := (h.2 r hr).1; omega⟩
theorem rows_none {rows : List (List Int)} (h : (rows.length : Int) = 0) : rows.length ≤ 8 ∧ ∀ r ∈ rows, r.length ≤ 12 := by
  have e : rows = [] := List.eq_nil_of_length_eq_zero (by omega)
  subst e; exact ⟨by simp, fun r hr => by cases hr⟩
theorem con_small {c : Con} {n : Nat} (h : validConB c n = true) : ConSm 100 c := by
  simp only [validConB, Bool.and_eq_true, withinB_iff] at h
  obtain ⟨⟨⟨⟨h1, h2⟩, h3⟩, h4⟩, h5⟩ := h
  have hv : c.vars.length ≤ 4 := by omega
  have key : c.args.length ≤ 12 ∧ c.rows.length ≤ 8 ∧ ∀ r ∈ c.rows, r.length ≤ 12 := by
    unfold fitsB at h5
    split at h5
    · simp only [Bool.and_eq_true, decide_eq_true_eq] at h5; exact ⟨by omega, rows_none h5.2⟩
    · split at h5
      · simp only [Bool.and_eq_true, decide_eq_true_eq] at h5; exact ⟨by omega, rows_none h5.2⟩
      · split at h5
        · simp only [Bool.and_eq_true, decide_eq_true_eq] at h5; exact ⟨by omega, rows_none h5.2⟩
        · split at h5
          · simp only [Bool.and_eq_true, decide_eq_true_eq, withinB_iff] at h5; exact ⟨by omega, rows_none h5.2⟩
          · split at h5
            · simp only [Bool.and_eq_true, decide_eq_true_eq] at h5; exact ⟨by omega, rows_small h5.2 (by omega)⟩
            · split at h5
              · simp only [Bool.and_eq_true, decide_eq_true_eq] at h5; exact ⟨by omega, rows_none h5.2⟩
              · split at h5
                · simp only [Bool.and_eq_true, decide_eq_true_eq] at h5; exact ⟨by omega, rows_none h5.2⟩
                · split at h5
                  · simp only [Bool.and_eq_true, decide_eq_true_eq, allInB_iff] at h5
                    have hr := rows_small h5.1.1.1 (by omega)
                    have hd : c.args.Nodup := of_decide_eq_true h5.1.1.2
                    have := iota_sub (n := 8) hd (fun v hv => by have := h5.1.2 v hv; omega)
                    exact ⟨by omega, hr⟩
                  · cases h5
  exact ⟨by omega, by omega, by omega, by omega, key.2.2⟩
theorem ok_small {m : Mod} (h : MOk m) : ModSm 100 m := ⟨h.n.1, h.n.2, by have := h.few; omega, fun c hc => con_small (h.cm hc)⟩
end
section
theorem pairOf {A B : Type} {a : A} {b : B} {p : A × B} (h : (a, b) = p) : a = p.1 ∧ b = p.2 := by subst h; exact ⟨rfl, rfl⟩
theorem and_has {d e : Int} (hd : 0 ≤ d ∧ d ≤ 63) (he : 0 ≤ e ∧ e ≤ 63) : (0 ≤ iand d e ∧ iand d e ≤ 63) ∧ ∀ u : Int, 0 ≤ u ∧ u ≤ 5 → hasB (iand d e) u = (hasB d u && hasB e u) := by
  have key : ∀ d, d < 64 → ∀ e, e < 64 → (0 ≤ iand ((d : Nat) : Int) ((e : Nat) : Int) ∧ iand ((d : Nat) : Int) ((e : Nat) : Int) ≤ 63) ∧ ∀ u, u < 6 → hasB (iand ((d : Nat) : Int) ((e : Nat) : Int)) ((u : Nat) : Int) = (hasB ((d : Nat) : Int) ((u : Nat) : Int) && hasB ((e : Nat) : Int) ((u : Nat) : Int)) := by decide +kernel
  obtain ⟨i, rfl⟩ := Int.eq_ofNat_of_zero_le hd.1
  obtain ⟨j, rfl⟩ := Int.eq_ofNat_of_zero_le he.1
  have h := key i (by omega) j (by omega)
  refine ⟨h.1, fun u hu => ?_⟩
  obtain ⟨w, rfl⟩ := Int.eq_ofNat_of_zero_le hu.1
  exact h.2 w (by omega)
theorem trues_ok {l : Lit} (h : 0 ≤ l.val ∧ l.val ≤ 5) : 0 ≤ truesI l ∧ truesI l ≤ 63 := by
  have key : ∀ i, i < 6 → (0 ≤ iandNot 63 (ishl 1 ((i : Nat) : Int)) ∧ iandNot 63 (ishl 1 ((i : Nat) : Int)) ≤ 63) ∧ (0 ≤ ishl 1 ((i : Nat) : Int) ∧ ishl 1 ((i : Nat) : Int) ≤ 63) := by decide +kernel
  obtain ⟨a, b, c⟩ := l
  dsimp only at h
  obtain ⟨i, rfl⟩ := Int.eq_ofNat_of_zero_le h.1
  have k := key i (by omega)
  unfold truesI
  cases c
  · exact k.2
  · exact k.1
def LitIn (n : Nat) (l : Lit) : Prop := (0 ≤ l.var ∧ l.var < (n : Int)) ∧ (0 ≤ l.val ∧ l.val ≤ 5)
def ClIn (n : Nat) (c : List Lit) : Prop := ∀ l ∈ c, LitIn n l
def ClsIn (n : Nat) (cls : List (List Lit)) : Prop := ∀ c ∈ cls, ClIn n c
/-- One literal is set. -/
def setT (d : List Int) (l : Lit) : List Int := d.set l.var.toNat (iand (d.getD l.var.toNat 0) (truesI l))
def rstL (d : List Int) (ls : List Lit) : List Int := ls.foldl setT d
theorem setT_len (d : List Int) (l : Lit) : (setT d l).length = d.length := by simp [setT]
theorem getD_setT {d : List Int} {l : Lit} {n : Nat} (hd : DOk n d) (hl : LitIn n l) (i : Nat) : (setT d l).getD i 0 = if i = l.var.toNat then iand (d.getD i 0) (truesI l) else d.getD i 0 := by
  have hv : l.var.toNat < d.length := by rw [hd.l]; have := hl.1; omega
  unfold setT
  by_cases e : i = l.var.toNat
  · subst e; rw [if_pos rfl]; simp [List.getD, hv]
  · rw [if_neg e]
    have e' : l.var.toNat ≠ i := fun h => e h.symm
    simp [List.getD, List.getElem?_set, e']
theorem setT_ok {d : List Int} {l : Lit} {n : Nat} (hd : DOk n d) (hl : LitIn n l) : DOk n (setT d l) ∧ SubD (setT d l) d := by
  have hv : l.var.toNat < d.length := by rw [hd.l]; have := hl.1; omega
  have ht := trues_ok hl.2
  refine ⟨⟨(setT_len d l).trans hd.l, fun x hx => ?_⟩, setT_len d l, fun i hi v hv5 h => ?_⟩
  · unfold setT at hx
    rcases List.mem_or_eq_of_mem_set hx with h | h
    · exact hd.d x h
    · rw [h]; exact (and_has (hd.d.at hv) ht).1
  · rw [getD_setT hd hl] at h
    split at h
    · rw [(and_has (hd.d.at hi) ht).2 v hv5, Bool.and_eq_true] at h; exact h.1
    · exact h
theorem rstL_ok {n : Nat} : ∀ {ls : List Lit} {d : List Int}, DOk n d → ClIn n ls → DOk n (rstL d ls) ∧ SubD (rstL d ls) d
  | [], d, hd, _ => ⟨hd, SubD.refl d⟩
  | l :: ls, d, hd, h => by
    have h1 := setT_ok hd (h l (.head _))
    have h2 := rstL_ok (ls := ls) h1.1 (fun k hk => h k (.tail _ hk))
    exact ⟨h2.1, h2.2.trans h1.2⟩
theorem domL_ext {n : Nat} {a b : List Int} (ha : DOk n a) (hb : DOk n b) (h : ∀ i, i < n → ∀ v, 0 ≤ v ∧ v ≤ 5 → hasB (a.getD i 0) v = hasB (b.getD i 0) v) : a = b := by
  apply List.ext_getElem (ha.l.trans hb.l.symm)
  intro i h1 h2
  have e1 : a[i] = a.getD i 0 := by simp [List.getD, h1]
  have e2 : b[i] = b.getD i 0 := by simp [List.getD, h2]
  rw [e1, e2]
  exact dom_ext (ha.d.at h1) (hb.d.at h2) (h i (by rw [← ha.l]; exact h1))
theorem setT_has {n : Nat} {d : List Int} {l : Lit} (hd : DOk n d) (hl : LitIn n l) {i : Nat} (hi : i < n) {v : Int} (hv : 0 ≤ v ∧ v ≤ 5) : hasB ((setT d l).getD i 0) v = (hasB (d.getD i 0) v && (!(decide (i = l.var.toNat)) || hasB (truesI l) v)) := by
  rw [getD_setT hd hl]
  by_cases e : i = l.var.toNat
  · rw [if_pos e, (and_has (hd.d.at (by rw [hd.l]; exact hi)) (trues_ok hl.2)).2 v hv]; simp [e]
  · rw [if_neg e]; simp [e]
theorem rstL_has {n : Nat} {i : Nat} (hi : i < n) {v : Int} (hv : 0 ≤ v ∧ v ≤ 5) : ∀ {ls : List Lit} {d : List Int}, DOk n d → ClIn n ls → hasB ((rstL d ls).getD i 0) v = (hasB (d.getD i 0) v && ls.all (fun l => !(decide (i = l.var.toNat)) || hasB (truesI l) v))
  | [], d, hd, _ => by simp [rstL]
  | l :: ls, d, hd, h => by
    have h1 := setT_ok hd (h l (.head _))
    have h2 := rstL_has hi hv (ls := ls) h1.1 (fun k hk => h k (.tail _ hk))
    show hasB ((rstL (setT d l) ls).getD i 0) v = _
    rw [h2, setT_has hd (h l (.head _)) hi hv, List.all_cons, Bool.and_assoc]
theorem all_perm {A : Type} {p : A → Bool} {xs ys : List A} (h : xs.Perm ys) : xs.all p = ys.all p := by
  rw [Bool.eq_iff_iff, List.all_eq_true, List.all_eq_true]
  exact ⟨fun g x hx => g x (h.symm.mem_iff.1 hx), fun g x hx => g x (h.mem_iff.1 hx)⟩
theorem rst_perm {n : Nat} {d : List Int} {xs ys : List Lit} (hd : DOk n d) (hx : ClIn n xs) (h : xs.Perm ys) : rstL d xs = rstL d ys := by
  have hy : ClIn n ys := fun l hl => hx l (h.symm.mem_iff.1 hl)
  exact domL_ext (rstL_ok hd hx).1 (rstL_ok hd hy).1 (fun i hi v hv => by rw [rstL_has hi hv hd hx, rstL_has hi hv hd hy, all_perm h])
theorem negs_in {n : Nat} {c : List Lit} (h : ClIn n c) : ClIn n (c.map negL) := fun l hl => by
  obtain ⟨k, hk, rfl⟩ := List.mem_map.1 hl
  exact h k hk
/-- All literals of a clause are false. -/
def rstN (d : List Int) (c : List Lit) : List Int := rstL d (c.map negL)
theorem rst_neg {n : Nat} {d : List Int} {c ys : List Lit} (hd : DOk n d) (hc : ClIn n c) (h : NegR c ys) : rstL d ys = rstN d c :=
  rst_perm hd (fun l hl => negs_in hc l (h.perm.mem_iff.1 hl)) h.perm
theorem negR_in {n : Nat} {c ys : List Lit} (hc : ClIn n c) (h : NegR c ys) : ClIn n ys := fun l hl => negs_in hc l (h.perm.mem_iff.1 hl)
theorem rst_step {d : List Int} {ls : List Lit} {k : Nat} (hk : k < ls.length) : setT (rstL d (ls.take k)) (ls.getD k nilLit) = rstL d (ls.take (k + 1)) := by
  rw [take_succ_getD nilLit hk]; simp [rstL]
/-! A clause, propagated. -/
def opnL (c : List Lit) (d : List Int) : List Lit := c.filter (fun l => decide (iand (d.getD l.var.toNat 0) (truesI l) ≠ 0))
def unitL (c : List Lit) (d : List Int) : List Int := match opnL c d with
  | [] => zerosL d.length
  | [l] => setT d l
  | _ => d
theorem unit_0 {c : List Lit} {d : List Int} (h : opnL c d = []) : unitL c d = zerosL d.length := by unfold unitL; rw [h]
theorem unit_1 {c : List Lit} {d : List Int} {l : Lit} (h : opnL c d = [l]) : unitL c d = setT d l := by unfold unitL; rw [h]
theorem unit_2 {c : List Lit} {d : List Int} (h : 2 ≤ (opnL c d).length) : unitL c d = d := by
  unfold unitL
  match h2 : opnL c d, h with
  | [], h => simp at h
  | [_], h => simp at h
  | _ :: _ :: _, _ => rfl
theorem opn_mem {c : List Lit} {d : List Int} {l : Lit} (h : l ∈ opnL c d) : l ∈ c := (List.mem_filter.1 h).1
theorem unit_ok {n : Nat} {c : List Lit} {d : List Int} (hd : DOk n d) (hc : ClIn n c) : DOk n (unitL c d) ∧ SubD (unitL c d) d := by
  match h : opnL c d with
  | [] => rw [unit_0 h, hd.l]; exact ⟨zerosL_ok n, hd.l ▸ zerosL_sub d⟩
  | [l] => rw [unit_1 h]; exact setT_ok hd (hc l (opn_mem (by rw [h]; exact .head _)))
  | a :: b :: r => rw [unit_2 (by rw [h]; simp)]; exact ⟨hd, SubD.refl d⟩
def unitA (cls : List (List Lit)) (d : List Int) : List Int := cls.foldl (fun d c => unitL c d) d
theorem unitA_ok {n : Nat} : ∀ {cls : List (List Lit)} {d : List Int}, DOk n d → ClsIn n cls → DOk n (unitA cls d) ∧ SubD (unitA cls d) d
  | [], d, hd, _ => ⟨hd, SubD.refl d⟩
  | c :: cs, d, hd, h => by
    have h1 := unit_ok hd (h c (.head _))
    have h2 := unitA_ok (cls := cs) h1.1 (fun k hk => h k (.tail _ hk))
    exact ⟨h2.1, h2.2.trans h1.2⟩
theorem unitA_step {cls : List (List Lit)} {d : List Int} {k : Nat} (hk : k < cls.length) : unitL (cls.getD k []) (unitA (cls.take k) d) = unitA (cls.take (k + 1)) d := by
  rw [take_succ_getD [] hk]; simp [unitA]
theorem cls_at {n : Nat} {cls : List (List Lit)} (h : ClsIn n cls) {k : Nat} (hk : k < cls.length) : ClIn n (cls.getD k []) := h _ (getD_mem hk)
theorem cls_take {n : Nat} {cls : List (List Lit)} (h : ClsIn n cls) (k : Nat) : ClsIn n (cls.take k) := fun c hc => h c (List.mem_of_mem_take hc)
def stepW (m : Mod) (cls : List (List Lit)) (d : List Int) : List Int := unitA cls (prop m d)
theorem stepW_ok {m : Mod} {cls : List (List Lit)} {d : List Int} (hM : MOk m) (hd : DOk m.doms.length d) (hc : ClsIn m.doms.length cls) : DOk m.doms.length (stepW m cls d) ∧ SubD (stepW m cls d) d := by
  have h1 := propOk hM hd
  have h2 := unitA_ok h1.ok hc
  exact ⟨h2.1, h2.2.trans h1.sub⟩
theorem stepW_lt {m : Mod} {cls : List (List Lit)} {d : List Int} (hM : MOk m) (hd : DOk m.doms.length d) (hc : ClsIn m.doms.length cls) (hne : stepW m cls d ≠ d) : sumN (stepW m cls d) < sumN d :=
  (stepW_ok hM hd hc).2.lt (stepW_ok hM hd hc).1.d hd.d hne
def wcl (m : Mod) (cls : List (List Lit)) (d : List Int) : List Int :=
  if d.contains 0 = true then zerosL d.length else if stepW m cls d = d then d else if h : sumN (stepW m cls d) < sumN d then wcl m cls (stepW m cls d) else d
termination_by sumN d
theorem wcl_0 {m : Mod} {cls : List (List Lit)} {d : List Int} (h : d.contains 0 = true) : wcl m cls d = zerosL d.length := by rw [wcl, if_pos h]
theorem wcl_fix {m : Mod} {cls : List (List Lit)} {d : List Int} (h : d.contains 0 = false) (e : stepW m cls d = d) : wcl m cls d = d := by rw [wcl, if_neg (by rw [h]; simp), if_pos e]
theorem wcl_step {m : Mod} {cls : List (List Lit)} {d : List Int} (hM : MOk m) (hd : DOk m.doms.length d) (hc : ClsIn m.doms.length cls) (h : d.contains 0 = false) (e : stepW m cls d ≠ d) : wcl m cls (stepW m cls d) = wcl m cls d := by
  rw [wcl.eq_1 m cls d, if_neg (by rw [h]; simp), if_neg e, dif_pos (stepW_lt hM hd hc e)]
theorem wcl_len {m : Mod} {cls : List (List Lit)} (hM : MOk m) (hc : ClsIn m.doms.length cls) : ∀ (k : Nat) {d : List Int}, sumN d = k → DOk m.doms.length d → DOk m.doms.length (wcl m cls d) := by
  intro k
  induction k using Nat.strongRecOn with
  | _ k ih =>
    intro d hk hd
    cases h0 : d.contains 0 with
    | true => rw [wcl_0 h0, hd.l]; exact zerosL_ok _
    | false =>
      by_cases e : stepW m cls d = d
      · rw [wcl_fix h0 e]; exact hd
      · rw [← wcl_step hM hd hc h0 e]
        exact ih _ (hk ▸ stepW_lt hM hd hc e) rfl (stepW_ok hM hd hc).1
theorem wclOk {m : Mod} {cls : List (List Lit)} (hM : MOk m) (hc : ClsIn m.doms.length cls) {d : List Int} (hd : DOk m.doms.length d) : DOk m.doms.length (wcl m cls d) := wcl_len hM hc _ rfl hd
/-! Whether a clause is implied. -/
def rfE (m : Mod) (cls : List (List Lit)) (d : List Int) : Bool := decide ((wcl m cls d).getD 0 0 = 0)
def impB (m : Mod) (cls : List (List Lit)) (c : List Lit) : Bool := rfE m cls (rstN m.doms c)
theorem zeros_0 {d : List Int} : (zerosL d.length).getD 0 0 = 0 := by
  cases d <;> simp [zerosL, List.getD]
theorem zeros_all {d : List Int} {n : Nat} (hn : 1 ≤ n) (hl : d.length = n) : (zerosL d.length).contains 0 = true := by
  rw [List.contains_iff_mem]; simp only [zerosL, List.mem_replicate]; exact ⟨by omega, trivial⟩
/-! Checking a proof. -/
def prfB (n : Int) (p : List (List Lit)) : Bool := decide ((p.length : Int) ≤ 200) && !(p.any (fun c => !(clI n c)))
theorem prf_in {m : Mod} (hM : MOk m) {p : List (List Lit)} (h : prfB (m.doms.length : Int) p = true) : ClsIn m.doms.length p ∧ p.length ≤ 200 ∧ ∀ c ∈ p, LOk m c ∧ clI (m.doms.length : Int) c = true := by
  unfold prfB at h
  simp only [Bool.and_eq_true, decide_eq_true_eq, Bool.not_eq_true', List.any_eq_false] at h
  have hc : ∀ c ∈ p, LOk m c ∧ clI (m.doms.length : Int) c = true := fun c hc => by
    have h1 : clI (m.doms.length : Int) c = true := by simpa using h.2 c hc
    exact ⟨lits_ok (by unfold litsB; rw [hM.v, h1]; rfl), h1⟩
  exact ⟨fun c hc' l hl => (hc c hc').1.h l hl, by omega, hc⟩
def ckG (m : Mod) (p : List (List Lit)) : Bool := ((!(validModB m) || !(prfB (m.doms.length : Int) p)) || decide ((p.length : Int) = 0)) || decide ((0 : Int) < ((p.getD ((p.length : Int) - 1).toNat []).length : Int))
def chkP (m : Mod) (p : List (List Lit)) : Bool := if ckG m p = true then false else (List.range p.length).all (fun i => impB m (p.take i) (p.getD i []))
structure CkOk (m : Mod) (p : List (List Lit)) : Prop where
  hM : MOk m
  hp : ClsIn m.doms.length p
  hn : p.length ≤ 200
  hc : ∀ c ∈ p, LOk m c ∧ clI (m.doms.length : Int) c = true
  h0 : 0 < p.length
  g : ckG m p = false
  hl : (p.getD (p.length - 1) []) = []
theorem ck_ok {m : Mod} {p : List (List Lit)} (h : ckG m p = false) : CkOk m p := by
  have g := h
  unfold ckG at h
  simp only [Bool.or_eq_false_iff, Bool.not_eq_false', decide_eq_false_iff_not] at h
  obtain ⟨⟨⟨h1, h2⟩, h3⟩, h4⟩ := h
  have hM : MOk m := ⟨h1⟩
  have hi := prf_in hM h2
  refine ⟨hM, hi.1, hi.2.1, hi.2.2, by omega, g, ?_⟩
  have e : ((p.length : Int) - 1).toNat = p.length - 1 := by omega
  rw [e] at h4
  exact List.eq_nil_of_length_eq_zero (by omega)
theorem ck_no {m : Mod} {p : List (List Lit)} (h : ckG m p = true) : false = chkP m p := by unfold chkP; rw [if_pos h]
theorem ck_hit {m : Mod} {p : List (List Lit)} {k : Nat} (h : ckG m p = false) (hk : k < p.length) (c : impB m (p.take k) (p.getD k []) = false) : false = chkP m p := by
  unfold chkP; rw [if_neg (by rw [h]; simp)]
  symm
  rw [List.all_eq_false]
  exact ⟨k, List.mem_range.2 hk, by rw [c]; simp⟩
theorem ck_end {m : Mod} {p : List (List Lit)} {k : Nat} (h : ckG m p = false) (hk : k = p.length) (c : (List.range k).all (fun i => impB m (p.take i) (p.getD i [])) = true) : true = chkP m p := by
  unfold chkP; rw [if_neg (by rw [h]; simp), ← hk, c]
theorem ck_step {m : Mod} {p : List (List Lit)} {k : Nat} (h : (List.range k).all (fun i => impB m (p.take i) (p.getD i [])) = true) (c : impB m (p.take k) (p.getD k []) = true) : (List.range (k + 1)).all (fun i => impB m (p.take i) (p.getD i [])) = true := by
  rw [List.range_succ, List.all_append, h]; simpa using c
/-! The bounded model. -/
def iotaN (n : Nat) : List Int := (List.range n).map (fun (i : Nat) => (i : Int))
def lowC (n : Nat) (obj : List Int) (b : Int) : Con := ⟨1, iotaN n, obj, b, []⟩
def withC (m : Mod) (c : Con) : Mod := ⟨m.doms, m.cons ++ [c]⟩
def wcR (m : Mod) (c : Con) : Mod × Bool := if validModB (withC m c) = true then (withC m c, true) else (⟨[], []⟩, false)
def bdG (m : Mod) (obj : List Int) (b : Int) : Bool := objOkB m obj && withinB b (-998) 1000
def bdR (m : Mod) (obj : List Int) (b : Int) : Mod × Bool := if bdG m obj b = true then wcR m (lowC obj.length obj (b - 1)) else (⟨[], []⟩, false)
theorem wc_no {m : Mod} {c : Con} (h : validModB (withC m c) = false) : wcR m c = (⟨[], []⟩, false) := by unfold wcR; rw [if_neg (by rw [h]; simp)]
theorem wc_yes {m : Mod} {c : Con} (h : validModB (withC m c) = true) : wcR m c = (withC m c, true) := if_pos h
theorem bd_no {m : Mod} {obj : List Int} {b : Int} (h : (!(objOkB m obj) || !(withinB b (-998) 1000)) = true) : bdR m obj b = (⟨[], []⟩, false) := by
  unfold bdR bdG; rw [if_neg]; revert h; cases objOkB m obj <;> cases withinB b (-998) 1000 <;> simp
theorem bd_yes {m : Mod} {obj : List Int} {b : Int} (h : (!(objOkB m obj) || !(withinB b (-998) 1000)) = false) : bdR m obj b = wcR m (lowC obj.length obj (b - 1)) := by
  unfold bdR bdG; rw [if_pos]; revert h; cases objOkB m obj <;> cases withinB b (-998) 1000 <;> simp
theorem bd_cS {m : Mod} {obj : List Int} {b : Int} : ((!(validModB m) || !(objOkS m obj)) || !(withinB b (-998) 1000)) = (!(objOkB m obj) || !(withinB b (-998) 1000)) := by
  rw [obj_eq]; cases validModB m <;> cases objOkS m obj <;> rfl
theorem iotaN_step {k : Nat} {vs : List Int} (h : vs = iotaN k) : vs ++ [(k : Int)] = iotaN (k + 1) := by subst h; simp [iotaN, List.range_succ]
theorem iota_len (n : Nat) : (iotaN n).length = n := by simp [iotaN]
def chkB (m : Mod) (obj : List Int) (b : Int) (p : List (List Lit)) : Bool := (bdR m obj b).2 && chkP (bdR m obj b).1 p
end
section
theorem bd_ok {m : Mod} {obj : List Int} {b : Int} (h : (!(objOkB m obj) || !(withinB b (-998) 1000)) = false) : m.cons.length ≤ 100 ∧ obj.length ≤ 100 ∧ MOk m ∧ obj.length = m.doms.length ∧ (-1000 ≤ b ∧ b ≤ 2000) := by
  simp only [Bool.or_eq_false_iff, Bool.not_eq_false', withinB_iff] at h
  have h1 := objok h.1
  have h2 := h1.1.few
  have h3 := h1.1.n
  exact ⟨by omega, by omega, h1.1, h1.2.1, by omega⟩
theorem low_small {vs obj : List Int} {b : Int} (h : vs = iotaN obj.length) (hn : 1 ≤ obj.length ∧ obj.length ≤ 100) : ConSm 100 ⟨1, vs, obj, b, []⟩ := by
  subst h
  exact ⟨by dsimp only; rw [iota_len]; omega, by dsimp only; rw [iota_len]; omega, hn.2, by simp, fun r hr => (by cases hr)⟩
theorem ishl_small {v : Int} (h : 0 ≤ v ∧ v ≤ 5) : 1 ≤ ishl 1 v ∧ ishl 1 v ≤ 32 := by
  have key : ∀ i, i < 6 → 1 ≤ ishl 1 ((i : Nat) : Int) ∧ ishl 1 ((i : Nat) : Int) ≤ 32 := by decide +kernel
  obtain ⟨i, rfl⟩ := Int.eq_ofNat_of_zero_le h.1
  exact key i (by omega)
/-! One clause. -/
def LstL (xs : List Lit) (l : Lit) : Prop := l = xs.getLastD nilLit
def nzL (ds : List Int) (l : Lit) : Prop := iand (ds.getD l.var.toNat 0) (truesI l) ≠ 0
theorem opn_T {c : List Lit} {ds : List Int} {k : Nat} (hk : k < c.length) (h : nzL ds (c.getD k nilLit)) : opnL (c.take (k + 1)) ds = opnL (c.take k) ds ++ [c.getD k nilLit] := by
  unfold opnL
  rw [take_succ_getD nilLit hk, List.filter_append, List.filter_cons, if_pos (by simpa [nzL] using h)]; rfl
theorem opn_F {c : List Lit} {ds : List Int} {k : Nat} (hk : k < c.length) (h : ¬ nzL ds (c.getD k nilLit)) : opnL (c.take (k + 1)) ds = opnL (c.take k) ds := by
  unfold opnL
  rw [take_succ_getD nilLit hk, List.filter_append, List.filter_cons, if_neg (by simpa [nzL] using h)]; simp
theorem opn_len (c : List Lit) (ds : List Int) (k : Nat) : (opnL (c.take k) ds).length ≤ k := by
  have h1 := List.length_filter_le (fun l => decide (iand (ds.getD l.var.toNat 0) (truesI l) ≠ 0)) (c.take k)
  have h2 := List.length_take_le k c
  unfold opnL; omega
theorem un_T {c : List Lit} {ds : List Int} {k : Nat} {q la lb : Int} {lc : Bool} (h : q = ((opnL (c.take k) ds).length : Int) ∧ LstL (opnL (c.take k) ds) ⟨la, lb, lc⟩) (hk : k < c.length) (hz : nzL ds (c.getD k nilLit)) :
    q + 1 = ((opnL (c.take (k + 1)) ds).length : Int) ∧ LstL (opnL (c.take (k + 1)) ds) ⟨(c.getD k nilLit).var, (c.getD k nilLit).val, (c.getD k nilLit).neg⟩ := by
  rw [opn_T hk hz]
  refine ⟨by rw [h.1]; simp, ?_⟩
  unfold LstL
  simp
theorem un_F {c : List Lit} {ds : List Int} {k : Nat} {q la lb : Int} {lc : Bool} (h : q = ((opnL (c.take k) ds).length : Int) ∧ LstL (opnL (c.take k) ds) ⟨la, lb, lc⟩) (hk : k < c.length) (hz : ¬ nzL ds (c.getD k nilLit)) :
    q = ((opnL (c.take (k + 1)) ds).length : Int) ∧ LstL (opnL (c.take (k + 1)) ds) ⟨la, lb, lc⟩ := by
  rw [opn_F hk hz]; exact h
theorem un_0 {c : List Lit} {ds : List Int} {k : Nat} {q la lb : Int} {lc : Bool} (h : q = ((opnL (c.take k) ds).length : Int) ∧ LstL (opnL (c.take k) ds) ⟨la, lb, lc⟩) (hk : c.length ≤ k) (hq : q = 0) : unitL c ds = zerosL ds.length := by
  rw [List.take_of_length_le hk] at h
  exact unit_0 (List.eq_nil_of_length_eq_zero (by omega))
theorem un_one {c : List Lit} {ds : List Int} {k : Nat} {q la lb : Int} {lc : Bool} (h : q = ((opnL (c.take k) ds).length : Int) ∧ LstL (opnL (c.take k) ds) ⟨la, lb, lc⟩) (hk : c.length ≤ k) (hq : q = 1) : opnL c ds = [⟨la, lb, lc⟩] := by
  rw [List.take_of_length_le hk] at h
  have h1 : (opnL c ds).length = 1 := by omega
  obtain ⟨l, e⟩ := List.length_eq_one_iff.1 h1
  have h2 := h.2
  rw [e] at h2 ⊢
  unfold LstL at h2
  simp at h2
  rw [h2]
theorem un_1 {c : List Lit} {ds : List Int} {k : Nat} {q la lb : Int} {lc : Bool} (h : q = ((opnL (c.take k) ds).length : Int) ∧ LstL (opnL (c.take k) ds) ⟨la, lb, lc⟩) (hk : c.length ≤ k) (hq : q = 1) : unitL c ds = setT ds ⟨la, lb, lc⟩ := unit_1 (un_one h hk hq)
theorem un_last {c : List Lit} {ds : List Int} {k n : Nat} {q la lb : Int} {lc : Bool} (hc : ClIn n c) (h : q = ((opnL (c.take k) ds).length : Int) ∧ LstL (opnL (c.take k) ds) ⟨la, lb, lc⟩) (hk : c.length ≤ k) (hq : q = 1) : (0 ≤ la ∧ la < (n : Int)) ∧ (0 ≤ lb ∧ lb ≤ 5) :=
  hc ⟨la, lb, lc⟩ (opn_mem (by rw [un_one h hk hq]; exact .head _))
theorem un_2 {c : List Lit} {ds : List Int} {k : Nat} {q la lb : Int} {lc : Bool} (h : q = ((opnL (c.take k) ds).length : Int) ∧ LstL (opnL (c.take k) ds) ⟨la, lb, lc⟩) (hk : c.length ≤ k) (h0 : q ≠ 0) (h1 : q ≠ 1) : unitL c ds = ds := by
  rw [List.take_of_length_le hk] at h
  exact unit_2 (by omega)
/-! The rounds. -/
section rounds
variable {m : Mod} {cls : List (List Lit)} {xs ys ds : List Int}
end rounds
/-! Sizes of lists of clauses. -/
end
section
theorem withS_ok {Hmd : Hp} {vmd : Value} {Hmc : Hp} {vmc : Value} {Hcv : Hp} {vcv : Value} {Hca : Hp} {vca : Value} {Hcr : Hp} {vcr : Value} (m : Mod) (c : Con) (hm : ModSm 100 m) (hl : m.cons.length ≤ 50) (hc : ConSm 100 c) (hmd : Ints Hmd vmd m.doms) (hmc : Cons Hmc vmc m.cons) (hcv : Ints Hcv vcv c.vars) (hca : Ints Hca vca c.args) (hcr : Rows Hcr vcr c.rows) : Spec Tryz.prog 74 [.agg #[vmd, vmc], .agg #[.int .i64 c.kind, vcv, vca, .int .i64 c.bound, vcr]] [Hmd, Hmc, Hcv, Hca, Hcr] (fun Hq vq => ∃ (mq : Mod) (bq : Bool) (uq0a uq0b : Value), vq = .tuple #[.agg #[uq0a, uq0b], .bool bq] ∧ Ints Hq uq0a mq.doms ∧ Cons Hq uq0b mq.cons ∧ (mq, bq) = wcR m c) := by
 refine spec_ofR Tryz.func74 rfl rfl rfl (fun B => ?_)
 refine cS (cr (kl_box rfl rfl (fun p1 H2 f3 a4 => ?_)))
 refine kl_box rfl rfl (fun p5 H6 f7 a8 => ?_)
 refine kl_alloc (cs := [.slice none 0 0, .slice none 0 0]) rfl (fun b9 hb10 => ?_)
 refine sg rfl (ln (qc (cS (cr (kl_ldS rfl ‹_› rfl ?_)))))
 refine cT rfl rfl (copyModE_ok m hm ‹_› ‹_›) (fun v11 L1 Ln K15 h12 f13 f14 => ?_)
 obtain ⟨rfl, H16, M17, v18, v19, z20, rfl, rfl, o22, o23, h21⟩ := h12
 have f24 := f13 _ (.head _)
 have f25 := f13 _ (.tail _ (.head _))
 have hcm := h21
 refine nm ?_
 refine kl_alloc (cs := [.slice none 0 0, .slice none 0 0]) rfl (fun b26 hb27 => ?_)
 refine kl_stW (us := [v18, v19]) rfl rfl rfl rfl (oc (OwnL.oneCell ‹_›) (oc (OwnL.oneCell ‹_›) oc_nil)) rfl ?_
 refine cg [bxS b26 [v18, v19] 26, H16, M17, bxS b9 [.slice none 0 0, .slice none 0 0] 26] rfl ?_
 refine ln (qc (cS (kc_tree (fun i => ([5, 7] : List Nat).contains i) [bxS b26 [v18, v19] 26] (by kernel_rfl) ?_)))
 refine tq 0 (.cons_cons _ nsl) rfl (fV rfl (ln (qq (tq 1 (.cons_cons _ nsl) rfl (ld rfl (at_box (T := 26) (cs := [v18, v19]) (off := 1) (fz := (0, 0))) (ln (qq (tq 2 (.cons_cons _ nsl) rfl (kl_ldS rfl ‹_› rfl ?_)))))))))
 refine ln (qq (ta 3 rfl (kl_call rfl rfl (copyConE_ok c hc ‹_› ‹_› ‹_›) (fun v28 H29 f30 h31 => ?_))))
 obtain ⟨z32, h34, h33⟩ := h31
 have hce := h33
 obtain ⟨_, rfl, h38⟩ := h34
 have h38' := h38
 obtain ⟨u35, u36, u37, rfl, h39, h40, h41⟩ := h38
 refine ln (qa (.cons_cons _ nsl) (ta 4 rfl (kl_bsK rfl (fun v42 H43 f44 r45 => ?_))))
 refine ln (qa (.cons_cons _ nsl) (ta 5 rfl (cm9 K15 H29 (fun c46 => ?_))))
 have o47 := OwnL.mono (K' := orHp K15 H29) o23 orL
 refine aL9 z32 rfl rfl o47 r45 (RMono.mono (orC c46) ‹_›) (oc rfl (oc (Sl.oneCell ‹_›) (oc (Sl.oneCell ‹_›) (oc rfl (oc (Sl.oneCell ‹_›) oc_nil))))) (by (rw [hcm]; simp; omega)) (by decide) (fun v48 H49 o50 f51 => ?_)
 have f52 := f51 B f25 (Nat.le_refl _)
 refine ln (qx rfl (tq 6 (.cons_cons _ nsl) rfl (fV rfl (ln (qq (ta 7 rfl (sB rfl rfl rfl (OwnL.oneCell ‹_›) (OwnL.cells ‹_›) ?_)))))))
 refine cg [bxS b26 [v18, v48] 26, H16, H49, bxS b9 [.slice none 0 0, .slice none 0 0] 26] rfl ?_
 refine ln (qx rfl (kt_end (by kernel_rfl) ?_))
 refine qc (cS (cS (cr (kl_ldW rfl rfl ?_))))
 have h53 := OwnL.ints o22
 refine cm9 H49 (orHp K15 H29) (fun c55 => ?_)
 have h54 := OwnL.consK o50 c55
 refine cP rfl rfl (svalidMod_ok (⟨z20.doms, (z20.cons ++ [z32])⟩ : Mod) ‹_› ‹_›) ?_
 refine nt9 rfl (ln (qc (cd9 rfl (fun c56 => ?_) (fun c56 => ?_))))
 ·have c56r := c56
  try simp only [smpE] at c56
  have hv := c56r
  rw [hcm, hce] at hv
  have hv2 : validModB (withC m c) = false := by simpa [withC] using hv
  refine cS (cr (kl_bd rfl cp_nil rfl ?_))
  refine kl_stW (us := [.slice none 0 0, .slice none 0 0]) rfl rfl rfl rfl (oc rfl (oc rfl oc_nil)) rfl ?_
  refine cg [bxS b26 [v18, v48] 26, H16, H49, bxS b9 [.slice none 0 0, .slice none 0 0] 26] rfl ?_
  refine sg rfl (ln (qc (rt (kq_cmp noHp noHp (fun c57 => ?_)))))
  exact kq_retR (rss2 rfl (rs_agg rfl rfl) (rs_tmp rfl)) (orHp noHp noHp) (fr_or (fr_no _) (fr_no _)) ⟨(⟨[], []⟩ : Mod), false, _, _, rfl, (Sl.mono Sl.nil (fun b o h => orL b o h) (fun _ _ h => h)), (Sl.mono Sl.nil (fun b o h => orC c57 b o h) (fun _ _ h => h)), by first | exact (wc_no hv2).symm | (rw [hcm, hce]; exact (wc_yes hv2).symm)⟩ .none
 ·have c56r := c56
  try simp only [smpE] at c56
  have hv := c56r
  rw [hcm, hce] at hv
  have hv2 : validModB (withC m c) = true := by simpa [withC] using hv
  refine sk (qc (cS (cr (kl_ldW rfl rfl (kl_stW (us := [v18, v48]) rfl rfl rfl rfl (oc (OwnL.oneCell ‹_›) (oc (OwnL.oneCell ‹_›) oc_nil)) rfl ?_)))))
  refine cg [bxS b26 [v18, v48] 26, H16, H49, bxS b9 [v18, v48] 26] rfl ?_
  refine sg rfl (ln (qc (rt (kq_frz H16 ?_))))
  refine kq_frz H49 ?_
  refine kq_cmp H49 (orHp K15 H29) (fun c58 => ?_)
  refine kq_cmp H16 (orHp H49 (orHp K15 H29)) (fun c59 => ?_)
  exact kq_retR (rss2 rfl (rs_agg rfl rfl) (rs_tmp rfl)) (orHp H16 (orHp H49 (orHp K15 H29))) (fr_or f24 (fr_or f52 (fr_or f14 f30))) ⟨(⟨z20.doms, (z20.cons ++ [z32])⟩ : Mod), true, _, _, rfl, (Sl.mono (OwnL.ints o22) (fun b o h => orL b o h) (fun _ _ h => h)), (Cons.mono' (OwnL.consK o50 c58) (fun b o h => orC c59 b o h)), by first | exact (wc_no hv2).symm | (rw [hcm, hce]; exact (wc_yes hv2).symm)⟩ .none
theorem improvS_ok {Hmd : Hp} {vmd : Value} {Hmc : Hp} {vmc : Value} {Hobj : Hp} {vobj : Value} (m : Mod) (obj : List Int) (b : Int) (hM : MOk m) (ho : obj.length = m.doms.length) (hb : -1000 ≤ b ∧ b ≤ 2000) (hmd : Ints Hmd vmd m.doms) (hmc : Cons Hmc vmc m.cons) (hobj : Ints Hobj vobj obj) : Spec Tryz.prog 40 [.agg #[vmd, vmc], vobj, .int .i64 b] [Hmd, Hmc, Hobj] (fun Hq vq => ∃ (mq : Mod) (bq : Bool) (uq0a uq0b : Value), vq = .tuple #[.agg #[uq0a, uq0b], .bool bq] ∧ Ints Hq uq0a mq.doms ∧ Cons Hq uq0b mq.cons ∧ (mq, bq) = wcR m (lowC obj.length obj (b - 1))) := by
 have hn := hM.n
 have hfew := hM.few
 refine spec_ofR Tryz.func40 rfl rfl rfl (fun B => ?_)
 refine cS (cr (kl_box rfl rfl (fun p1 H2 f3 a4 => ?_)))
 refine kl_alloc (cs := [.slice none 0 0, .slice none 0 0]) rfl (fun b5 hb6 => ?_)
 refine sg rfl (ln (qc (cS (cr (kl_bsI [] rfl rfl rfl (by decide) (fun v7 H8 f9 o10 => ?_))))))
 refine sg rfl (ln (qc (cS (cS (cr (sg rfl (ln (qc (bl (kc_loopL (A := Nat × List Int × Value × Hp) (fun zz => (zz.1 ≤ m.doms.length) ∧ (zz.2.1 = iotaN zz.1) ∧ OwnL 3 1 zz.2.2.2 noHp IntV zz.2.2.1 zz.2.1 ∧ Fr B zz.2.2.2) (fun zz => m.doms.length - zz.1) (fun zz => [zz.2.2.2, bxS b5 [.slice none 0 0, .slice none 0 0] 26]) (fun zz => [(9, .int .i64 (zz.1 : Int)), (8, zz.2.2.1)]) (0, ([]), v7, H8) (pk [1, 2, 3, 6, 7] rfl) (pk [9, 8] rfl) rfl ⟨Nat.zero_le _, rfl, o10, f9⟩ ?_))))))))))
 rintro ⟨k, vs, v16, H13⟩ hJ17
 obtain ⟨hk11, hi12, o14, f15⟩ : (k ≤ m.doms.length) ∧ (vs = iotaN k) ∧ OwnL 3 1 H13 noHp IntV v16 vs ∧ Fr B H13 := hJ17
 change KC _ _ (_) [H13, bxS b5 [.slice none 0 0, .slice none 0 0] 26] _ ([(9, .int .i64 (k : Int)), (8, v16)] ++ _)
 refine cS (cS (cr (mv rfl (fd9 rfl ‹_› (fun p18 a19 => ?_)))))
 refine ld rfl ‹_› (le9 rfl ‹_› (fun l20 => ?_))
 refine ls9 rfl rfl ?_
 refine ln (qc (ci9 rfl (fun c21 => ?_) (fun c21 => ?_)))
 ·refine sk (qc (cS (bl (cr (mv rfl (mv rfl (bs9 rfl rfl rfl (by decide) (ca rfl ca_nil) (fun v22 H23 f24 r25 s26 => ?_))))))))
  have h27 : Ints H23 v22 [(k : Int)] := litInts (xs := [(k : Int)]) (by simpa using s26)
  refine aL9 (k : Int) rfl rfl o14 ‹_› rfl (oc rfl oc_nil) (by (have h9 := congrArg List.length hi12; rw [iota_len] at h9; omega)) (by decide) (fun v28 H29 o30 f31 => ?_)
  have f32 := f31 B f15 (Nat.le_refl _)
  refine sg rfl (ln (qc (cr (mv rfl (ic9 rfl rfl (by omega) ?_)))))
  refine sg rfl (ln (tk [H29, bxS b5 [.slice none 0 0, .slice none 0 0] 26] ?_))
  refine rL ((k + 1), (vs ++ [(k : Int)]), v28, H29) (by omega) (⟨by omega, (iotaN_step hi12), o30, f32⟩) (pk [9, 8] rfl) (pk [1, 2, 3, 6, 7] rfl) rfl slr9
 ·refine ex9 (qc (cS (kc_tree (fun i => ([7, 10] : List Nat).contains i) [] (by kernel_rfl) ?_)))
  refine tq 0 nsl rfl (kl_ldS rfl ‹_› rfl ?_)
  refine ln (qq (tq 1 nsl rfl (mv rfl (ln (qq (tq 2 nsl rfl (mv rfl (ln (qq (tq 4 nsl rfl (mv rfl ?_)))))))))))
  refine ln (qq (tq 5 nsl rfl (sb9 rfl rfl (by omega) ?_)))
  refine ln (qq (ta 3 rfl (kl_call rfl rfl (copyInts_ok obj (by omega) ‹_›) (fun v33 H34 f35 o36 => ?_))))
  have h37 := OwnL.ints o36
  refine ln (qa nsl (ta 6 rfl (kl_bd rfl (cp rfl (cp (OwnL.cells ‹_›) (cp (Sl.cells ‹_›) (cp rfl cp_nil)))) rfl ?_)))
  refine ln (qa nsl (ta 7 rfl (kl_call rfl rfl (withS_ok m ⟨(1 : Int), vs, obj, (b - (1 : Int)), []⟩ (ok_small hM) (by omega) (low_small (by have h9 := hi12; rw [show k = obj.length from by omega] at h9; exact h9) (by omega)) ‹_› ‹_› (OwnL.ints o14) ‹_› (Sl.nil (H := noHp))) (fun v38 H39 f40 h41 => ?_))))
  obtain ⟨z44, z49, u45, u46, rfl, h47, h48, h43⟩ := h41
  have hwc := h43
  refine ln (qx rfl (tq 8 nsl rfl (kl_xt rfl rfl (ln (qq (tq 9 nsl rfl (kl_xt rfl rfl (ln (qq (ta 10 rfl (kl_stW (us := [u45, u46]) rfl rfl rfl rfl (oc (Sl.oneCell ‹_›) (oc (Sl.oneCell ‹_›) oc_nil)) rfl ?_)))))))))))
  refine cg [H13, bxS b5 [u45, u46] 26] rfl ?_
  refine ln (qx rfl (tq 11 nsl rfl (sg rfl (ln (qq (kt_end (by kernel_rfl) ?_))))))
  refine qc (rt (kq_cmp H39 H39 (fun c50 => ?_)))
  exact kq_retR (rss2 rfl (rs_agg rfl rfl) (rs_tmp rfl)) (orHp H39 H39) (fr_or f40 f40) ⟨(⟨z44.doms, z44.cons⟩ : Mod), z49, _, _, rfl, (Sl.mono ‹_› (fun b o h => orL b o h) (fun _ _ h => h)), (Cons.mono' ‹_› (fun b o h => orC c50 b o h)), by (have h9 := hi12; rw [show k = obj.length from by omega] at h9; rw [h9] at hwc; exact hwc)⟩ .none
end
section
/-- The first of the least, so far, and its cost. -/
def bestTo (p : List Int → Int) (xs : List (List Int)) : Nat → List Int × Int
  | 0 => ([], 0)
  | k + 1 => if (decide (k = 0) || decide (p (xs.getD k []) < (bestTo p xs k).2)) = true then (xs.getD k [], p (xs.getD k [])) else bestTo p xs k
def bestI (p : List Int → Int) (xs : List (List Int)) : List Int × Bool := ((bestTo p xs xs.length).1, decide (xs.length ≠ 0))
/-- Its index, as the reference keeps it. -/
def argTo (p : List Int → Int) (xs : List (List Int)) : Nat → Int
  | 0 => -1
  | k + 1 => if (decide (argTo p xs k < 0) || decide (p (xs.getD k []) < p (xs.getD (argTo p xs k).toNat []))) = true then (k : Int) else argTo p xs k
theorem arg_law (p : List Int → Int) (xs : List (List Int)) : ∀ k, (k = 0 ∧ argTo p xs k = -1) ∨ (0 < k ∧ 0 ≤ argTo p xs k ∧ argTo p xs k < (k : Int) ∧ bestTo p xs k = (xs.getD (argTo p xs k).toNat [], p (xs.getD (argTo p xs k).toNat [])))
  | 0 => .inl ⟨rfl, rfl⟩
  | k + 1 => by
    right
    rcases arg_law p xs k with ⟨rfl, h⟩ | ⟨h0, h1, h2, h3⟩
    · simp [argTo, bestTo]
    · have e1 : decide (argTo p xs k < 0) = false := decide_eq_false (by omega)
      have e2 : decide (k = 0) = false := decide_eq_false (by omega)
      refine ⟨by omega, ?_⟩
      rw [argTo, bestTo, e1, e2, h3]
      simp only [Bool.false_or, decide_eq_true_eq]
      by_cases h4 : p (xs.getD k []) < p (xs.getD (argTo p xs k).toNat [])
      · rw [if_pos h4, if_pos h4]; exact ⟨by omega, by omega, by simp⟩
      · rw [if_neg h4, if_neg h4]; exact ⟨h1, by omega, rfl⟩
theorem best_nil {p : List Int → Int} {xs : List (List Int)} (h : xs.length = 0) : bestI p xs = ([], false) := by
  unfold bestI; rw [h]; rfl
theorem best_arg {p : List Int → Int} {xs : List (List Int)} {a : Int} (e : a = argTo p xs xs.length) (h : ¬ a < 0) : bestI p xs = (xs.getD a.toNat [], true) := by
  subst e
  rcases arg_law p xs xs.length with ⟨h0, h1⟩ | ⟨h0, h1, h2, h3⟩
  · omega
  · unfold bestI; rw [h3, decide_eq_true (by omega)]
theorem best_none {p : List Int → Int} {xs : List (List Int)} {a : Int} (e : a = argTo p xs xs.length) (h : a < 0) : bestI p xs = ([], false) := by
  subst e
  rcases arg_law p xs xs.length with ⟨h0, h1⟩ | ⟨h0, h1, h2, h3⟩
  · exact best_nil h0
  · omega
theorem arg_in {p : List Int → Int} {xs : List (List Int)} {a : Int} {k : Nat} (e : a = argTo p xs k) : -1 ≤ a ∧ a < (k : Int) := by
  subst e
  rcases arg_law p xs k with ⟨h0, h1⟩ | ⟨h0, h1, h2, h3⟩ <;> omega
/-! Distances. -/
theorem best_stepT {p : List Int → Int} {xs : List (List Int)} {k : Nat} {o : List Int} {s : Int} (e : (o, s) = bestTo p xs k) (h : k = 0 ∨ p (xs.getD k []) < s) : (xs.getD k [], p (xs.getD k [])) = bestTo p xs (k + 1) := by
  rw [bestTo, ← e, if_pos]
  simp only [Bool.or_eq_true, decide_eq_true_eq]; exact h
theorem best_stepF {p : List Int → Int} {xs : List (List Int)} {k : Nat} {o : List Int} {s : Int} (e : (o, s) = bestTo p xs k) (h : ¬ k = 0) (h2 : ¬ p (xs.getD k []) < s) : (o, s) = bestTo p xs (k + 1) := by
  rw [bestTo, ← e, if_neg]
  simp only [Bool.or_eq_true, decide_eq_true_eq]; exact fun h3 => h3.elim h h2
theorem bestTo_ne {p : List Int → Int} {xs : List (List Int)} {k : Nat} (hn : ∀ x ∈ xs, x ≠ []) (h0 : 0 < k) (hk : k ≤ xs.length) : (bestTo p xs k).1 ≠ [] := by
  rcases arg_law p xs k with ⟨h, _⟩ | ⟨_, h1, h2, h3⟩
  · omega
  · rw [h3]; exact hn _ (getD_mem (by omega))
theorem br_T {p : List Int → Int} {xs : List (List Int)} {k : Nat} {o : List Int} {s : Int} {bn : Bool} (e : (o, s) = bestTo p xs k) (hn : ∀ x ∈ xs, x ≠ []) (hk : k < xs.length) (nn : bn = true → o = []) (c : (bn || decide (p (xs.getD k []) < s)) = true) :
    (xs.getD k [], p (xs.getD k [])) = bestTo p xs (k + 1) := by
  refine best_stepT e ?_
  simp only [Bool.or_eq_true, decide_eq_true_eq] at c
  rcases c with c | c
  · left
    by_cases h0 : k = 0
    · exact h0
    · exact absurd (show (bestTo p xs k).1 = [] by rw [← e]; exact nn c) (bestTo_ne hn (by omega) (by omega))
  · exact .inr c
theorem br_F {p : List Int → Int} {xs : List (List Int)} {k : Nat} {o : List Int} {s : Int} {bn : Bool} (e : (o, s) = bestTo p xs k) (nx : k = 0 → bn = true) (c : (bn || decide (p (xs.getD k []) < s)) = false) :
    (o, s) = bestTo p xs (k + 1) := by
  simp only [Bool.or_eq_false_iff, decide_eq_false_iff_not] at c
  exact best_stepF e (fun h => by rw [nx h] at c; cases c.1) c.2
theorem best_b {p : List Int → Int} {xs : List (List Int)} {k : Nat} {o : List Int} {s : Int} {bn : Bool} (e : (o, s) = bestTo p xs k) (hk : k = xs.length) (hn : ∀ x ∈ xs, x ≠ []) (nn : bn = false → o = []) (nx : k = 0 → bn = false) : (bestI p xs).2 = bn := by
  subst hk
  unfold bestI
  simp only
  cases bn with
  | false =>
    by_cases h0 : xs.length = 0
    · simp [h0]
    · exact absurd (show (bestTo p xs xs.length).1 = [] by rw [← e]; exact nn rfl) (bestTo_ne hn (by omega) (by omega))
  | true =>
    apply decide_eq_true
    intro h0; cases nx h0
theorem best_o {p : List Int → Int} {xs : List (List Int)} {k : Nat} {o : List Int} {s : Int} (e : (o, s) = bestTo p xs k) (hk : k = xs.length) : (bestI p xs).1 = o := by
  subst hk; unfold bestI; rw [← e]
theorem arg_T {p : List Int → Int} {xs : List (List Int)} {k : Nat} {a : Int} (e : a = argTo p xs k) (c : a < 0 ∨ p (xs.getD k []) < p (xs.getD a.toNat [])) : (k : Int) = argTo p xs (k + 1) := by
  subst e; rw [argTo, if_pos]; simpa using c
theorem arg_F {p : List Int → Int} {xs : List (List Int)} {k : Nat} {a : Int} (e : a = argTo p xs k) (c : ¬ (a < 0 ∨ p (xs.getD k []) < p (xs.getD a.toNat []))) : a = argTo p xs (k + 1) := by
  subst e; rw [argTo, if_neg]; simpa using c
theorem arg_least {p : List Int → Int} {xs : List (List Int)} : ∀ (k j : Nat), j < k → p (xs.getD (argTo p xs k).toNat []) ≤ p (xs.getD j [])
  | 0, j, h => absurd h (Nat.not_lt_zero _)
  | k + 1, j, h => by
    have h1 := arg_law p xs k
    rw [argTo]
    split
    · rename_i c
      simp only [Bool.or_eq_true, decide_eq_true_eq] at c
      rw [show ((k : Nat) : Int).toNat = k by simp]
      rcases Nat.lt_succ_iff_lt_or_eq.1 h with hj | rfl
      · have h2 := arg_least (p := p) (xs := xs) k j hj
        rcases c with c | c
        · omega
        · omega
      · exact Int.le_refl _
    · rename_i c
      simp only [Bool.or_eq_true, decide_eq_true_eq, not_or] at c
      rcases Nat.lt_succ_iff_lt_or_eq.1 h with hj | rfl
      · exact arg_least (p := p) (xs := xs) k j hj
      · omega
theorem best_in {p : List Int → Int} {xs : List (List Int)} (h : (bestI p xs).2 = true) : (bestI p xs).1 ∈ xs ∧ ∀ y ∈ xs, p (bestI p xs).1 ≤ p y := by
  rcases arg_law p xs xs.length with ⟨h0, h1⟩ | ⟨h0, h1, h2, h3⟩
  · rw [best_nil h0] at h; cases h
  · have e : (bestI p xs).1 = xs.getD (argTo p xs xs.length).toNat [] := by unfold bestI; rw [h3]
    rw [e]
    refine ⟨getD_mem (by omega), fun y hy => ?_⟩
    obtain ⟨j, hj, rfl⟩ := List.getElem_of_mem hy
    have := arg_least (p := p) (xs := xs) xs.length j hj
    rwa [show xs.getD j [] = xs[j] from by simp [List.getD, hj]] at this
theorem bestTo_len {p : List Int → Int} {xs : List (List Int)} {n : Nat} (hl : ∀ x ∈ xs, x.length ≤ n) {k : Nat} (hk : k ≤ xs.length) : (bestTo p xs k).1.length ≤ n := by
  rcases arg_law p xs k with ⟨h, _⟩ | ⟨_, h1, h2, h3⟩
  · subst h; exact Nat.zero_le _
  · rw [h3]; exact hl _ (getD_mem (by omega))
theorem best_cp {p : List Int → Int} {xs : List (List Int)} (hl : ∀ x ∈ xs, x.length ≤ 4) {o : List Int} {s : Int} {k : Nat} (e : (o, s) = bestTo p xs k) (hk : k ≤ xs.length) : o.length ≤ 1048576 := by
  have := bestTo_len hl hk (p := p)
  rw [← e] at this
  dsimp only at this
  omega
end
section
/-- The value of an objective, as the program gives it. -/
def objVal (obj x : List Int) : Int := if (((decide ((obj.length : Int) ≠ (x.length : Int)) || decide ((4 : Int) < (obj.length : Int))) || !(allInB obj (-9) 9)) || !(allInB x 0 5)) = true then 0 else dotTo obj x x.length
theorem objVal_sol {m : Mod} {obj x : List Int} (ho : objOkB m obj = true) (hx : x ∈ sols m) : objVal obj x = dotTo obj x m.doms.length := by
  have h1 := objok ho
  have h2 := sols_len hx
  unfold objVal
  have h3 : allInB obj (-9) 9 = true := by rw [allInB_iff]; exact h1.2.2
  have := h1.1.n
  rw [if_neg, h2]
  rw [h3, allIn_of (sols_vals hx), h2, h1.2.1]
  simp; omega
/-- The least value over the solutions. -/
def minI (m : Mod) (obj : List Int) : List Int × Bool := if objOkB m obj = true then bestI (fun x => dotTo obj x x.length) (sols m) else ([], false)
theorem min_no {m : Mod} {obj : List Int} (h : (!(objOkB m obj)) = true) : minI m obj = ([], false) := by unfold minI; rw [if_neg (by simpa using h)]
theorem min_yes {m : Mod} {obj : List Int} (h : objOkB m obj = true) : minI m obj = bestI (fun x => dotTo obj x x.length) (sols m) := by unfold minI; rw [if_pos h]
theorem objVal_0 {obj x : List Int} (h : (((decide ((obj.length : Int) ≠ (x.length : Int)) || decide ((4 : Int) < (obj.length : Int))) || !(allInB obj (-9) 9)) || !(allInB x 0 5)) = true) : (0 : Int) = objVal obj x := by unfold objVal; rw [if_pos h]
theorem objVal_1 {obj x : List Int} (h : (((decide ((obj.length : Int) ≠ (x.length : Int)) || decide ((4 : Int) < (obj.length : Int))) || !(allInB obj (-9) 9)) || !(allInB x 0 5)) = false) : dotTo obj x x.length = objVal obj x := by unfold objVal; rw [if_neg (by rw [h]; simp)]
theorem objVal_ok {obj x : List Int} (h : (((decide ((obj.length : Int) ≠ (x.length : Int)) || decide ((4 : Int) < (obj.length : Int))) || !(allInB obj (-9) 9)) || !(allInB x 0 5)) = false) : Coef obj ∧ Vals x ∧ x.length = obj.length ∧ x.length ≤ 4 := by
  simp only [Bool.or_eq_false_iff, decide_eq_false_iff_not, Bool.not_eq_false', Decidable.not_not] at h
  refine ⟨allInB_iff.1 h.1.2, vals_of h.2, by omega, by omega⟩
theorem obj_one {z : Int} (h : z ∈ [1, 0, -1, 2, -9, 9]) : -9 ≤ z ∧ z ≤ 9 := by simp at h; omega
end
section

end
section
theorem prop_z {m : Mod} (hM : MOk m) : ∀ (k : Nat) {ds : List Int}, sumN ds = k → DOk m.doms.length ds → (prop m ds).contains 0 = true → prop m ds = zerosL ds.length := by
  intro k
  induction k using Nat.strongRecOn with
  | _ k ih =>
    intro ds hk hd hz
    by_cases h0 : ds.contains 0 = true
    · exact prop_0 h0
    · have h0 : ds.contains 0 = false := by simpa using h0
      by_cases e : filtA m ds = ds
      · rw [prop_fix h0 e, h0] at hz; cases hz
      · have h1 := prop_step hM hd h0 e
        rw [← h1] at hz ⊢
        have h2 := (filtA_ok hM hd).1
        rw [ih _ (by rw [← hk]; exact filtA_lt hM hd e) rfl h2 hz, h2.l, hd.l]
theorem prop_first {m : Mod} (hM : MOk m) {ds : List Int} (hd : DOk m.doms.length ds) : (prop m ds).getD 0 0 = 0 ↔ (prop m ds).contains 0 = true := by
  have hn := hM.n
  have hl := (propOk hM hd).ok.l
  constructor
  · intro h
    have := getD_mem (d := (0 : Int)) (by omega : 0 < (prop m ds).length)
    rw [h] at this; exact List.contains_iff_mem.2 this
  · intro h
    rw [prop_z hM _ rfl hd h]
    have : 0 < ds.length := by rw [hd.l]; omega
    simp [zerosL, List.getD, this]
theorem prop_at {m : Mod} (hM : MOk m) {ds : List Int} (hd : DOk m.doms.length ds) (h0 : (prop m ds).contains 0 = false) : ∀ i, i < (prop m ds).length → 1 ≤ (prop m ds).getD i 0 ∧ (prop m ds).getD i 0 ≤ 63 := fun i hi => by
  have h1 := (propOk hM hd).ok.d.at hi
  have h2 : (prop m ds).getD i 0 ≠ 0 := fun e => by
    have := getD_mem (d := (0 : Int)) hi
    rw [e] at this
    rw [List.contains_iff_mem.2 this] at h0; cases h0
  omega
/-- The first variable that is open. -/
def opI (ds : List Int) : Int := indexBy (fun d => decide ((1 : Int) < popI d)) ds
section tree
variable {m : Mod} {obj ds : List Int}
theorem op_in (h : ¬ opI ds < 0) : opI ds < (ds.length : Int) ∧ (1 : Int) < popI (ds.getD (opI ds).toNat 0) := by
  unfold opI indexBy at h ⊢
  cases e : ds.findIdx? (fun d => decide ((1 : Int) < popI d)) with
  | none => rw [e] at h; simp at h
  | some i =>
    rw [List.findIdx?_eq_some_iff_getElem] at e
    obtain ⟨h1, h2, _⟩ := e
    dsimp only
    refine ⟨by omega, ?_⟩
    rw [Int.toNat_natCast, show ds.getD i 0 = ds[i] from by simp [List.getD, h1]]
    simpa using h2
/-- The reference finds the same variable. -/
theorem op_no {i : Nat} (hD : ∀ i, i < ds.length → 1 ≤ ds.getD i 0 ∧ ds.getD i 0 ≤ 63) (hi : i = ds.length) (h : ∀ j, j < i → (valsI (ds.getD j 0)).length = 1) : opI ds < 0 := by
  have h1 := indexBy_none (p := fun d => decide ((1 : Int) < popI d)) (xs := ds) (k := i) (by omega) (by
    rw [List.any_eq_false]; intro d hd
    obtain ⟨j, hj, rfl⟩ := List.getElem_of_mem (List.mem_of_mem_take hd)
    have := h j (by omega)
    rw [show ds.getD j 0 = ds[j] from by simp [List.getD, hj]] at this
    simp [popI, this])
  unfold opI; omega
theorem op_at {i : Nat} (hD : ∀ i, i < ds.length → 1 ≤ ds.getD i 0 ∧ ds.getD i 0 ≤ 63) (hi : i < ds.length) (h : ∀ j, j < i → (valsI (ds.getD j 0)).length = 1) (h1 : (valsI (ds.getD i 0)).length ≠ 1) : opI ds = (i : Int) := by
  have h2 := List.length_pos_iff.2 (valsI_ne (d := ds.getD i 0) (by have := hD i hi; omega) (by have := hD i hi; omega))
  refine (indexBy_hit (d := 0) hi ?_ ?_).symm
  · rw [List.any_eq_false]; intro d hd
    obtain ⟨j, hj, rfl⟩ := List.getElem_of_mem hd
    rw [List.length_take] at hj
    have h3 := h j (by omega)
    rw [List.getElem_take]
    rw [show ds.getD j 0 = ds[j]'(by omega) from by simp [List.getD, (by omega : j < ds.length)]] at h3
    simp [popI, h3]
  · refine decide_eq_true ?_
    unfold popI; omega
theorem lim_eq {i : Nat} {v : Int} (hd : 0 ≤ ds.getD i 0 ∧ ds.getD i 0 ≤ 63) (hv : v ∈ valsI (ds.getD i 0)) : iand (ds.getD i 0) (ishl 1 v) = ishl 1 v := by
  have key : ∀ d, d < 64 → ∀ v ∈ valsI ((d : Nat) : Int), iand ((d : Nat) : Int) (ishl 1 v) = ishl 1 v := by decide +kernel
  obtain ⟨d, e⟩ := Int.eq_ofNat_of_zero_le hd.1
  rw [e] at hv ⊢
  exact key d (by omega) v hv
end tree
end
section
/-- One after another, until one fails. -/
def foldR (f : Int → List (List Lit) × Bool) : List Int → List (List Lit) × Bool
  | [] => ([], true)
  | v :: vs => if (f v).2 = true then ((f v).1 ++ (foldR f vs).1, (foldR f vs).2) else ((f v).1, false)
def endR (cl : List Lit) (r : List (List Lit) × Bool) : List (List Lit) × Bool := if r.2 = true then (r.1 ++ [cl], true) else (r.1, false)
def refF : Nat → Mod → List Int → List Lit → List (List Lit) × Bool
  | 0, m, ds, cl => if (prop m ds).contains 0 = true then ([cl], true) else ([], false)
  | k + 1, m, ds, cl => if (prop m ds).contains 0 = true then ([cl], true) else if opI (prop m ds) < 0 then ([], false) else
      endR cl (foldR (fun v => refF k m ((prop m ds).set (opI (prop m ds)).toNat (ishl 1 v)) (cl ++ [⟨opI (prop m ds), v, true⟩])) (valsI ((prop m ds).getD (opI (prop m ds)).toNat 0)))
def chR (k : Nat) (m : Mod) (d : List Int) (cl : List Lit) (v : Int) : List (List Lit) × Bool := refF k m (d.set (opI d).toNat (ishl 1 v)) (cl ++ [⟨opI d, v, true⟩])
theorem ref_0 {k : Nat} {m : Mod} {ds : List Int} {cl : List Lit} (h : (prop m ds).contains 0 = true) : refF k m ds cl = ([cl], true) := by
  cases k <;> (unfold refF; rw [if_pos h])
theorem ref_leaf {k : Nat} {m : Mod} {ds : List Int} {cl : List Lit} (h : (prop m ds).contains 0 = false) (ho : opI (prop m ds) < 0) : refF k m ds cl = ([], false) := by
  cases k with
  | zero => unfold refF; rw [if_neg (by rw [h]; simp)]
  | succ k => unfold refF; rw [if_neg (by rw [h]; simp), if_pos ho]
theorem ref_node {k : Nat} {m : Mod} {ds : List Int} {cl : List Lit} (h : (prop m ds).contains 0 = false) (ho : ¬ opI (prop m ds) < 0) :
    refF (k + 1) m ds cl = endR cl (foldR (chR k m (prop m ds) cl) (valsI ((prop m ds).getD (opI (prop m ds)).toNat 0))) := by
  rw [refF, if_neg (by rw [h]; simp), if_neg ho]; rfl
theorem foldR_app (f : Int → List (List Lit) × Bool) (a b : List Int) (h : (foldR f a).2 = true) : foldR f (a ++ b) = ((foldR f a).1 ++ (foldR f b).1, (foldR f b).2) := by
  induction a with
  | nil => simp [foldR]
  | cons v vs ih =>
    rw [foldR] at h
    split at h
    · rename_i h1
      rw [List.cons_append, foldR, if_pos h1, ih h, foldR, if_pos h1]
      simp [List.append_assoc]
    · cases h
theorem foldR_stop (f : Int → List (List Lit) × Bool) (a b : List Int) (h : (foldR f a).2 = false) : foldR f (a ++ b) = foldR f a := by
  induction a with
  | nil => simp [foldR] at h
  | cons v vs ih =>
    rw [List.cons_append, foldR, foldR]
    split
    · rename_i h1
      rw [foldR, if_pos h1] at h
      rw [ih h]
    · rfl
theorem foldR_one (f : Int → List (List Lit) × Bool) (v : Int) : foldR f [v] = f v := by
  rw [foldR]
  split
  · rename_i h; simp [foldR, h.symm]
  · rename_i h
    have : (f v).2 = false := by simpa using h
    exact Prod.ext rfl this.symm
theorem foldR_step {f : Int → List (List Lit) × Bool} {xs : List Int} {k : Nat} (hk : k < xs.length) (h : (foldR f (xs.take k)).2 = true) : foldR f (xs.take (k + 1)) = ((foldR f (xs.take k)).1 ++ (f (xs.getD k 0)).1, (f (xs.getD k 0)).2) := by
  rw [take_succ_getD 0 hk, foldR_app f _ _ h, foldR_one]
theorem foldR_hit {f : Int → List (List Lit) × Bool} {xs : List Int} {k : Nat} (h : (foldR f (xs.take k)).2 = false) : foldR f xs = foldR f (xs.take k) := by
  have := foldR_stop f (xs.take k) (xs.drop k) h
  rwa [List.take_append_drop] at this
/-! The decisions on a path. -/
structure PathOk (n : Nat) (ds : List Int) (cl : List Lit) : Prop where
  l : ∀ l ∈ cl, LitIn n l ∧ l.neg = true
  s : cl.Pairwise (fun a b => a.var < b.var)
  d : ∀ l ∈ cl, ∀ j : Nat, (j : Int) ≤ l.var → (valsI (ds.getD j 0)).length ≤ 1
theorem path_nil (n : Nat) (ds : List Int) : PathOk n ds [] := ⟨fun _ h => (by cases h), .nil, fun _ h => (by cases h)⟩
theorem valsI_nd (d : Int) : (valsI d).Nodup := by
  rw [List.nodup_iff_pairwise_ne]
  simp only [valsI, membersTo, natsI]
  rw [List.pairwise_map]
  refine (List.Pairwise.filter _ (List.nodup_range (n := 6))).imp fun h e => h (by omega)
theorem vals_sub {es ds : List Int} (h : SubD es ds) (j : Nat) (hj : j < ds.length) : (valsI (es.getD j 0)).length ≤ (valsI (ds.getD j 0)).length := by
  have hn : (valsI (es.getD j 0)).Nodup := valsI_nd _
  refine List.Nodup.length_le_of_subset hn (fun v hv => ?_)
  have := mem_valsI.1 hv
  exact mem_valsI.2 ⟨this.1, h.2 j hj v this.1 this.2⟩
theorem path_prop {m : Mod} {ds : List Int} {cl : List Lit} (hM : MOk m) (hd : DOk m.doms.length ds) (h : PathOk m.doms.length ds cl) : PathOk m.doms.length (prop m ds) cl := by
  have hp := propOk hM hd
  refine ⟨h.l, h.s, fun l hl j hj => ?_⟩
  have h1 := ((h.l l hl).1).1
  have h2 := vals_sub hp.sub j (by rw [hd.l]; omega)
  have h3 := h.d l hl j hj
  omega
theorem path_lt {n : Nat} {d : List Int} {cl : List Lit} (h : PathOk n d cl) (hl : d.length = n) (ho : ¬ opI d < 0) : ∀ l ∈ cl, l.var < opI d := fun l hm => by
  have h1 := op_in ho
  have h2 := h.d l hm (opI d).toNat
  unfold popI at h1
  have h3 : 0 ≤ opI d := by omega
  by_cases e : (opI d : Int) ≤ l.var
  · have := h2 (by omega); omega
  · omega
theorem open_first {d : List Int} (ho : ¬ opI d < 0) {j : Nat} (hj : (j : Int) < opI d) : (valsI (d.getD j 0)).length ≤ 1 := by
  unfold opI indexBy at ho hj
  cases e : d.findIdx? (fun d => decide ((1 : Int) < popI d)) with
  | none => rw [e] at ho; simp at ho
  | some i =>
    rw [e] at hj
    rw [List.findIdx?_eq_some_iff_getElem] at e
    obtain ⟨h1, _, h3⟩ := e
    have hj' : j < i := by simpa using hj
    have h4 := h3 j hj'
    rw [show d.getD j 0 = d[j]'(by omega) from by simp [List.getD, (by omega : j < d.length)]]
    unfold popI at h4
    simp at h4
    omega
theorem path_child {n : Nat} {d : List Int} {cl : List Lit} {v : Int} (h : PathOk n d cl) (hl : d.length = n) (ho : ¬ opI d < 0) (hv : 0 ≤ v ∧ v ≤ 5) : PathOk n (d.set (opI d).toNat (ishl 1 v)) (cl ++ [⟨opI d, v, true⟩]) := by
  have hin := op_in ho
  have hlt := path_lt h hl ho
  refine ⟨fun l hm => ?_, ?_, fun l hm j hj => ?_⟩
  · rcases List.mem_append.1 hm with hm | hm
    · exact h.l l hm
    · rw [List.mem_singleton.1 hm]; exact ⟨⟨⟨by dsimp only; omega, by dsimp only; omega⟩, hv⟩, rfl⟩
  · rw [List.pairwise_append]
    refine ⟨h.s, .cons (fun _ h => (by cases h)) .nil, fun a ha b hb => ?_⟩
    rw [List.mem_singleton.1 hb]; exact hlt a ha
  · have hj2 : (j : Int) ≤ opI d := by
      rcases List.mem_append.1 hm with hm | hm
      · have := hlt l hm; omega
      · rw [List.mem_singleton.1 hm] at hj; exact hj
    by_cases e : j = (opI d).toNat
    · subst e
      rw [show (d.set (opI d).toNat (ishl 1 v)).getD (opI d).toNat 0 = ishl 1 v from by simp [List.getD, (by omega : (opI d).toNat < d.length)], valsI_one hv]
      simp
    · have e' : (opI d).toNat ≠ j := fun h => e h.symm
      rw [show (d.set (opI d).toNat (ishl 1 v)).getD j 0 = d.getD j 0 from by simp [List.getD, List.getElem?_set, e']]
      exact open_first ho (by omega)
theorem path_len {n : Nat} {ds : List Int} {cl : List Lit} (h : PathOk n ds cl) : cl.length ≤ n := by
  have hn : (cl.map (fun l => l.var.toNat)).Nodup := by
    rw [List.nodup_iff_pairwise_ne, List.pairwise_map]
    refine (List.Pairwise.imp_of_mem ?_ h.s)
    intro a b ha hb hab e
    have h1 := ((h.l a ha).1).1
    have h2 := ((h.l b hb).1).1
    omega
  have hs : (cl.map (fun l => l.var.toNat)) ⊆ List.range n := fun x hx => by
    obtain ⟨l, hl, rfl⟩ := List.mem_map.1 hx
    have := ((h.l l hl).1).1
    exact List.mem_range.2 (by omega)
  have := List.Nodup.length_le_of_subset hn hs
  simpa using this
theorem path_room {n k : Nat} {d : List Int} {cl : List Lit} (h : PathOk n d cl) (hl : d.length = n) (ho : ¬ opI d < 0) (hk : k + cl.length = n) : ∃ j, k = j + 1 := by
  have h1 := op_in ho
  have h2 := path_lt h hl ho
  have h3 := path_len (path_child (v := 0) h hl ho (by decide))
  rw [List.length_append] at h3
  simp at h3
  exact ⟨k - 1, by omega⟩
theorem path_childN {n i : Nat} {d : List Int} {cl : List Lit} {v : Int} (h : PathOk n d cl) (hl : d.length = n) (e : opI d = (i : Int)) (hv : 0 ≤ v ∧ v ≤ 5) : PathOk n (d.set i (ishl 1 v)) (cl ++ [⟨(i : Int), v, true⟩]) := by
  have := path_child h hl (by omega : ¬ opI d < 0) hv
  rw [e] at this
  exact this
theorem chR_eq {k i : Nat} {m : Mod} {d : List Int} {cl : List Lit} {v : Int} (e : opI d = (i : Int)) : chR k m d cl v = refF k m (d.set i (ishl 1 v)) (cl ++ [⟨(i : Int), v, true⟩]) := by
  unfold chR; rw [e]; rfl
/-! At most two hundred steps. -/
structure LimR (st : List (List Lit)) (r : List (List Lit) × Bool) (s2 : List (List Lit)) (o2 : Bool) : Prop where
  n : s2.length ≤ 200
  o : o2 = (r.2 && decide (st.length + r.1.length ≤ 200))
  e : o2 = true → s2 = st ++ r.1
theorem lim_leaf {st : List (List Lit)} (h : st.length ≤ 200) : LimR st ([], false) st false := ⟨h, rfl, fun h => (by cases h)⟩
theorem lim_0 {st : List (List Lit)} {cl : List Lit} {o : Bool} (c : (o && decide ((st.length : Int) < 200)) = true) : LimR st ([cl], true) (st ++ [cl]) o := by
  simp only [Bool.and_eq_true, decide_eq_true_eq] at c
  obtain ⟨rfl, c⟩ := c
  exact ⟨by simp; omega, by simp; omega, fun _ => rfl⟩
theorem lim_0F {st : List (List Lit)} {cl : List Lit} {o : Bool} (h : st.length ≤ 200) (ho : o = true) (c : (o && decide ((st.length : Int) < 200)) = false) : LimR st ([cl], true) st false := by
  subst ho
  simp only [Bool.true_and, decide_eq_false_iff_not] at c
  exact ⟨h, by simp; omega, fun h => (by cases h)⟩
theorem lim_init {f : Int → List (List Lit) × Bool} {vs : List Int} {st : List (List Lit)} {o : Bool} (h : st.length ≤ 200) (ho : o = true) : LimR st (foldR f (vs.take 0)) st o := by
  subst ho; exact ⟨h, by simp [foldR]; omega, fun _ => by simp [foldR]⟩
theorem lim_step {f : Int → List (List Lit) × Bool} {vs : List Int} {q : Nat} {st s1 s2 : List (List Lit)} {o1 o2 : Bool} (hq : q < vs.length) (ho : o1 = true) (h : LimR st (foldR f (vs.take q)) s1 o1) (g : LimR s1 (f (vs.getD q 0)) s2 o2) : LimR st (foldR f (vs.take (q + 1))) s2 o2 := by
  subst ho
  have h1 := h.o
  have h2 : (foldR f (vs.take q)).2 = true := by
    cases e : (foldR f (vs.take q)).2 with
    | true => rfl
    | false => rw [e] at h1; simp at h1
  have h3 := h.e rfl
  rw [foldR_step hq h2]
  refine ⟨g.n, ?_, fun h9 => ?_⟩
  · rw [g.o, h3]
    simp only [List.length_append, Nat.add_assoc]
  · rw [g.e h9, h3, List.append_assoc]
theorem lim_all {f : Int → List (List Lit) × Bool} {vs : List Int} {q : Nat} {st s1 : List (List Lit)} {o1 : Bool} (h : LimR st (foldR f (vs.take q)) s1 o1) (c : (decide ((q : Int) < (vs.length : Int)) && o1) = false) : LimR st (foldR f vs) s1 o1 := by
  by_cases hq : vs.length ≤ q
  · rw [List.take_of_length_le hq] at h; exact h
  · have ho : o1 = false := by
      have : decide ((q : Int) < (vs.length : Int)) = true := by simp; omega
      rw [this] at c; simpa using c
    subst ho
    refine ⟨h.n, ?_, fun h => (by cases h)⟩
    have h1 := h.o
    cases e : (foldR f (vs.take q)).2 with
    | false => rw [foldR_hit e, e]; rfl
    | true =>
      rw [e] at h1
      have h2 : foldR f vs = foldR f (vs.take q ++ vs.drop q) := by rw [List.take_append_drop]
      rw [h2, foldR_app f _ _ e]
      simp at h1 ⊢
      intro _
      omega
theorem lim_go {q n : Nat} {o : Bool} (h : (decide ((q : Int) < (n : Int)) && o) = true) : q < n ∧ o = true := by simpa using h
theorem lim_T {r : List (List Lit) × Bool} {cl : List Lit} {st s1 : List (List Lit)} {o1 : Bool} (h : LimR st r s1 o1) (c : (o1 && decide ((s1.length : Int) < 200)) = true) : LimR st (endR cl r) (s1 ++ [cl]) o1 := by
  simp only [Bool.and_eq_true, decide_eq_true_eq] at c
  obtain ⟨rfl, c⟩ := c
  have h1 := h.o
  have h2 := h.e rfl
  have h3 : r.2 = true := by
    cases e : r.2 with
    | true => rfl
    | false => rw [e] at h1; simp at h1
  unfold endR
  rw [if_pos h3]
  refine ⟨by simp; omega, ?_, fun _ => by rw [h2, List.append_assoc]⟩
  rw [h2] at c
  simp at c ⊢
  omega
theorem lim_F {r : List (List Lit) × Bool} {cl : List Lit} {st s1 : List (List Lit)} {o1 : Bool} (h : LimR st r s1 o1) (c : (o1 && decide ((s1.length : Int) < 200)) = false) : LimR st (endR cl r) s1 false := by
  refine ⟨h.n, ?_, fun h => (by cases h)⟩
  have h1 := h.o
  unfold endR
  cases e : r.2 with
  | false => rw [if_neg (by simp)]; rfl
  | true =>
    rw [if_pos rfl]
    rw [e] at h1
    cases o1 with
    | false => simp at h1 ⊢; omega
    | true =>
      have h2 := h.e rfl
      rw [h2] at c
      simp at c ⊢
      omega
def limO (r : List (List Lit) × Bool) : List (List Lit) × Bool := if r.2 = true ∧ r.1.length ≤ 200 then (r.1, true) else ([], false)
theorem lim_no {r : List (List Lit) × Bool} {s : List (List Lit)} {o : Bool} (h : LimR [] r s o) (ho : o = false) : ([], false) = limO r := by
  have h1 := h.o
  rw [ho] at h1
  unfold limO
  rw [if_neg]
  rintro ⟨h2, h3⟩
  rw [h2] at h1
  simp at h1
  omega
theorem lim_yes {r : List (List Lit) × Bool} {s : List (List Lit)} {o : Bool} (h : LimR [] r s o) (ho : o = true) : (s, true) = limO r := by
  subst ho
  have h1 := h.o
  have h2 := h.e rfl
  unfold limO
  have h3 : r.2 = true ∧ r.1.length ≤ 200 := by
    cases e : r.2 with
    | false => rw [e] at h1; simp at h1
    | true => rw [e] at h1; simp at h1; exact ⟨rfl, by omega⟩
  rw [if_pos h3, h2]
  simp
def infR (m : Mod) : List (List Lit) × Bool := if validModB m = true then limO (refF m.doms.length m m.doms []) else ([], false)
theorem inf_v {m : Mod} (h : validModB m = true) : infR m = limO (refF m.doms.length m m.doms []) := if_pos h
theorem inf_nv {m : Mod} (h : validModB m = false) : infR m = ([], false) := by unfold infR; rw [if_neg (by rw [h]; simp)]
def pbR (m : Mod) (obj : List Int) (b : Int) : List (List Lit) × Bool := if (bdR m obj b).2 = true then infR (bdR m obj b).1 else ([], false)
theorem pb_no {m : Mod} {obj : List Int} {b : Int} (h : (bdR m obj b).2 = false) : pbR m obj b = ([], false) := by unfold pbR; rw [if_neg (by rw [h]; simp)]
theorem pb_yes {m : Mod} {obj : List Int} {b : Int} (h : (bdR m obj b).2 = true) : pbR m obj b = infR (bdR m obj b).1 := if_pos h
/-! One more literal, behind all. -/
theorem path_lit {a : List Lit} {i v : Int} (h : ∀ l ∈ a, l.var < i) : ∀ l ∈ a, litLt l (List.getD [(⟨i, v, true⟩ : Lit)] 0 nilLit) = true := fun l hl => by
  have := h l hl
  show litLt l ⟨i, v, true⟩ = true
  rw [← litLt_1 (by dsimp only; omega)]
  exact decide_eq_true this
theorem mc_exit {a b out : List Lit} {j k : Nat} (h : out = a ++ b.take k) (hk : k < b.length) (ho : b.length = 1) (hlt : ∀ l ∈ a, litLt l (b.getD 0 nilLit) = true) (hj : j ≤ out.length) (c : (decide ((j : Int) < (out.length : Int)) && litLt (out.getD j nilLit) (b.getD k nilLit)) = false) : j = out.length ∧ k = 0 ∧ out = a := by
  have hk0 : k = 0 := by omega
  subst hk0
  have e : out = a := by rw [h]; simp
  refine ⟨?_, rfl, e⟩
  by_cases hl : j < out.length
  · have h1 : decide ((j : Int) < (out.length : Int)) = true := by simp; omega
    have h2 := hlt (out.getD j nilLit) (by rw [← e]; exact getD_mem hl)
    rw [h1, h2] at c
    simp at c
  · omega
theorem mc_one {b : List Lit} (ho : b.length = 1) : b.take 1 = [b.getD 0 nilLit] := by
  obtain ⟨x, rfl⟩ := List.length_eq_one_iff.1 ho
  rfl
end
section
theorem mergeE_ok {Ha : Hp} {va : Value} {Hb : Hp} {vb : Value} (a : List Lit) (b : List Lit) (hb : a.length + b.length ≤ 1000) (ho : b.length = 1) (hlt : ∀ l ∈ a, litLt l (b.getD 0 nilLit) = true) (ha : Lits Ha va a) (hb : Lits Hb vb b) : Spec Tryz.prog 120 [va, vb] [Ha, Hb] (fun Hq vq => ∃ xq : List Lit, OwnL 100 3 Hq noHp LitV vq xq ∧ xq = a ++ b) := by
 refine spec_of Tryz.func120 rfl rfl rfl (fun B => ?_)
 refine cS (cr (sg rfl (ln (qc (cS (cr (kl_bs0k (K := noHp) LitV rfl (fun v1 H2 f3 o4 => ?_))))))))
 refine mv rfl (kl_apS rfl rfl o4 ‹_› (fun _ _ h => h) (by (simp; omega)) (by decide) (fun v5 H6 o7 f8 => ?_))
 have f9 := f8 B f3 (Nat.le_refl _)
 refine sg rfl (ln (qc (cS (cS (cr (sg rfl (ln (qc (bl (kc_loopL (A := Nat × List Lit × Value × Hp) (fun zz => (zz.1 ≤ b.length) ∧ (zz.2.1 = a ++ b.take zz.1) ∧ OwnL 100 3 zz.2.2.2 noHp LitV zz.2.2.1 zz.2.1 ∧ Fr B zz.2.2.2) (fun zz => b.length - zz.1) (fun zz => [zz.2.2.2]) (fun zz => [(6, .int .i64 (zz.1 : Int)), (5, zz.2.2.1)]) (0, ([] ++ a), v5, H6) (pk [1, 4] rfl) (pk [6, 5] rfl) rfl ⟨Nat.zero_le _, (by simp), o7, f9⟩ ?_))))))))))
 rintro ⟨k, out, v15, H12⟩ hJ16
 obtain ⟨hk10, hi11, o13, f14⟩ : (k ≤ b.length) ∧ (out = a ++ b.take k) ∧ OwnL 100 3 H12 noHp LitV v15 out ∧ Fr B H12 := hJ16
 change KC _ _ (_) [H12] _ ([(6, .int .i64 (k : Int)), (5, v15)] ++ _)
 have hol := congrArg List.length hi11
 rw [List.length_append, List.length_take] at hol
 refine cS (cS (cr (mv rfl (mv rfl (le9 rfl ‹_› (fun l17 => ?_))))))
 refine ls9 rfl rfl ?_
 refine ln (qc (ci9 rfl (fun c18 => ?_) (fun c18 => ?_)))
 ·refine sk (qc (cS (bl (cS (cr (sg rfl (ln (qc (cS (bl ?_))))))))))
  refine kc_loop0 (A := Nat) (fun zz => (zz ≤ out.length)) (fun zz => out.length - zz) (fun zz => [(7, .int .i64 (zz : Int))]) (0) (pk [1, 4, 5, 6, 12, 13, 14, 15] rfl) (pc 7 rfl pn) (Nat.zero_le _) ?_
  rintro j hJ21
  have hk19 : (j ≤ out.length) := hJ21
  change KC _ _ (_) _ _ ([(7, .int .i64 (j : Int))] ++ _)
  refine cS (cS (kc_draw 15 [true, true, true, true, true, true, true, true, true, true, true, true, true, false, true] (by kernel_rfl) (by kernel_rfl) ?_))
  refine mv rfl (mv rfl (lL rfl o13 (fun l22 => ?_)))
  refine ls9 rfl rfl ?_
  refine mv rfl (jn 10 32 (.bool (decide ((j : Int) < (out.length : Int)) && (litLt (out.getD j nilLit) (b.getD k nilLit)))) (pk [1, 4, 5, 6, 7, 12, 13, 14, 15, 18, 19, 20, 21, 22] rfl) (fun J28 => ?_) ?_)
  ·rcases Bool.eq_false_or_eq_true (decide ((j : Int) < (out.length : Int))) with g23 | g23
   ·have g23p := of_decide_eq_true g23
    refine gT rfl rfl g23 (mv rfl (gT rfl rfl g23 (mv rfl (gT rfl rfl g23 (kl_ixLn rfl rfl ‹_› (by omega) (fun p24 q25 => ?_))))))
    refine gT rfl rfl g23 (kl_ldSL rfl (OwnL.atQ o13 ‹_› (by omega : j < out.length)) rfl ?_)
    refine gT rfl rfl g23 (mv rfl (gT rfl rfl g23 (mv rfl (gT rfl rfl g23 (kl_inQ rfl rfl ‹_› (by omega) (fun p26 a27 => ?_))))))
    refine gT rfl rfl g23 (kl_ldS rfl ‹_› rfl ?_)
    refine gT rfl rfl g23 (cP rfl rfl (litLess_ok (out.getD j nilLit) (b.getD k nilLit)) ?_)
    refine aT rfl rfl g23 ?_
    exact J28 _ (pk [32, 1, 4, 5, 6, 7, 12, 13, 14, 15, 18, 19, 20, 21, 22] rfl)
   ·refine gF rfl rfl g23 (gF rfl rfl g23 (gF rfl rfl g23 (gF rfl rfl g23 (gF rfl rfl g23 (gF rfl rfl g23 (gF rfl rfl g23 (gF rfl rfl g23 (gF rfl rfl g23 ?_))))))))
    refine aF (litLt (out.getD j nilLit) (b.getD k nilLit)) rfl rfl g23 ?_
    exact J28 _ (pk [32, 1, 4, 5, 6, 7, 12, 13, 14, 15, 18, 19, 20, 21, 22] rfl)
  refine ln (qc (cd9 rfl (fun c29 => ?_) (fun c29 => ?_)))
  ·have c29r := c29
   try simp only [smpE] at c29
   refine sk (qc (bl (cr (mv rfl (ic9 rfl rfl (by omega) ?_)))))
   refine sg rfl (ln (kq_round0 ((j + 1)) (by omega) (by omega) (pc 7 rfl pn) (pk [1, 4, 5, 6, 12, 13, 14, 15] rfl) slr9))
  ·have c29r := c29
   try simp only [smpE] at c29
   have hj9 := mc_exit hi11 (by omega) ho hlt ‹_› c29r
   refine ex9 (qc (cS (cS (kc_draw 15 [true, true, true, true, true, true, true, true, true, true, true, true, true, true, true] (by kernel_rfl) (by kernel_rfl) ?_))))
   refine mv rfl (mv rfl (lL rfl o13 (fun l30 => ?_)))
   refine ls9 rfl rfl ?_
   refine mv rfl (jn 10 49 (.bool (decide ((j : Int) < (out.length : Int)) && decide ((out.getD j nilLit) = (b.getD k nilLit)))) (pk [1, 4, 5, 6, 7, 12, 13, 14, 15, 18, 19, 20, 21, 22, 32, 35, 36, 37, 38, 39] rfl) (fun J36 => ?_) ?_)
   ·rcases Bool.eq_false_or_eq_true (decide ((j : Int) < (out.length : Int))) with g31 | g31
    ·have g31p := of_decide_eq_true g31
     refine gT rfl rfl g31 (mv rfl (gT rfl rfl g31 (mv rfl (gT rfl rfl g31 (kl_ixLn rfl rfl ‹_› (by omega) (fun p32 q33 => ?_))))))
     refine gT rfl rfl g31 (kl_ldSL rfl (OwnL.atQ o13 ‹_› (by omega : j < out.length)) rfl ?_)
     refine gT rfl rfl g31 (mv rfl (gT rfl rfl g31 (mv rfl (gT rfl rfl g31 (kl_inQ rfl rfl ‹_› (by omega) (fun p34 a35 => ?_))))))
     refine gT rfl rfl g31 (kl_ldS rfl ‹_› rfl ?_)
     refine gT rfl rfl g31 (kl_eqlQ rfl rfl ?_)
     refine aT rfl rfl g31 ?_
     exact J36 _ (pk [49, 1, 4, 5, 6, 7, 12, 13, 14, 15, 18, 19, 20, 21, 22, 32, 35, 36, 37, 38, 39] rfl)
    ·refine gF rfl rfl g31 (gF rfl rfl g31 (gF rfl rfl g31 (gF rfl rfl g31 (gF rfl rfl g31 (gF rfl rfl g31 (gF rfl rfl g31 (gF rfl rfl g31 (gF rfl rfl g31 ?_))))))))
     refine aF (decide ((out.getD j nilLit) = (b.getD k nilLit))) rfl rfl g31 ?_
     exact J36 _ (pk [49, 1, 4, 5, 6, 7, 12, 13, 14, 15, 18, 19, 20, 21, 22, 32, 35, 36, 37, 38, 39] rfl)
   refine ln (qc (cd9 rfl (fun c37 => ?_) (fun c37 => ?_)))
   ·have c37r := c37
    try simp only [smpE] at c37
    refine ex9 (qc (cr (mv rfl (ic9 rfl rfl (by omega) ?_))))
    refine sg rfl (ln (tk [H12] ?_))
    refine rL ((k + 1), out, v15, H12) (by omega) (⟨by omega, (by first | (exfalso; have e1 := hj9.1; omega) | (obtain ⟨e1, e2, e3⟩ := hj9; rw [e1, e2]; simp [e3, mc_one ho])), o13, f14⟩) (pk [6, 5] rfl) (pk [1, 4] rfl) rfl slr9
   ·have c37r := c37
    try simp only [smpE] at c37
    refine sk (qc (cS (kc_frz H12 ?_)))
    have h38 := OwnL.lits o13
    refine kc_tree (fun i => ([8] : List Nat).contains i) [] (by kernel_rfl) ?_
    refine tq 0 nsl rfl (mv rfl (ln (qq (tq 1 nsl rfl (mv rfl (ln (qq (tq 2 nsl rfl (kl_inQ rfl rfl ‹_› (by omega) (fun p39 a40 => ?_))))))))))
    refine ln (qq (tq 3 nsl rfl (kl_ldS rfl ‹_› rfl ?_)))
    refine ln (qq (tq 5 nsl rfl (mv rfl (ln (qq (tq 6 nsl rfl (mv rfl (ln (qq (tq 7 nsl rfl (kl_slDrop rfl rfl ‹_› (by omega) (fun u41 h42 => ?_))))))))))))
    refine ln (qq (ta 4 rfl (kl_bsQo rfl (fun v43 H44 f45 o46 => ?_))))
    refine ln (qa nsl (ta 8 rfl (kl_apS rfl rfl o46 ‹_› (fun _ _ h => h) (by (simp; omega)) (by decide) (fun v47 H48 o49 f50 => ?_))))
    have f51 := f50 B f45 (Nat.le_refl _)
    refine ln (qx rfl (tq 9 nsl rfl (sg rfl (ln (qq (kt_end (by kernel_rfl) ?_))))))
    refine qc (cr (kl_bs0k (K := noHp) LitV rfl (fun v52 H53 f54 o55 => ?_)))
    refine mv rfl (mv rfl (kl_slTake rfl rfl ‹_› (by omega) (fun u56 h57 => ?_)))
    refine kl_apS rfl rfl o55 ‹_› (fun _ _ h => h) (by (simp; omega)) (by decide) (fun v58 H59 o60 f61 => ?_)
    have f62 := f61 B f54 (Nat.le_refl _)
    refine mv rfl (fZ H48 ?_)
    have h63 := OwnL.lits o49
    refine kl_apS rfl rfl o60 ‹_› (fun _ _ h => h) (by (simp; omega)) (by decide) (fun v64 H65 o66 f67 => ?_)
    have f68 := f67 B f62 (Nat.le_refl _)
    refine sg rfl (ln (qc (cr (mv rfl (ic9 rfl rfl (by omega) ?_)))))
    refine sg rfl (ln (tk [H65] ?_))
    refine rL ((k + 1), (([] ++ (out.take j)) ++ ([(b.getD k nilLit)] ++ (out.drop j))), v64, H65) (by omega) (⟨by omega, (by first | (exfalso; have e1 := hj9.1; omega) | (obtain ⟨e1, e2, e3⟩ := hj9; rw [e1, e2]; simp [e3, mc_one ho])), o66, f68⟩) (pk [6, 5] rfl) (pk [1, 4] rfl) rfl slr9
 ·refine ex9 (qc (cS (cr (mv rfl (sg rfl (ln (qc (rt ?_))))))))
  exact kq_ret rfl rfl H12 f14 ⟨out, o13, by (rw [hi11, List.take_of_length_le (by omega)])⟩
abbrev proverSt (k : Nat) : Prop := ∀ {b : Nat} {Hmd Hmc Hds Hcl Hf Kf : Hp} {vmd vmc vds vcl vf : Value} (m : Mod) (ds : List Int) (cl : List Lit) (sts : List (List Lit)) (ok : Bool) (hM : MOk m) (hd : DOk m.doms.length ds) (hpa : PathOk m.doms.length ds cl) (hk : k + cl.length = m.doms.length) (hst : sts.length ≤ 200) (hok : ok = true) (lq : Liq Kf)
  (hmd : Ints Hmd vmd m.doms) (hmc : Cons Hmc vmc m.cons) (hds : Ints Hds vds ds) (ocl : OwnL 100 3 Hcl noHp LitV vcl cl) (of : OwnL 69 1 Hf Kf LRowV vf sts),
  SpecT Tryz.prog 76 [.pointer (some ⟨b, 0, none⟩), vds, vcl] [bxS b [vmd, vmc, vf, .bool ok] 97, Hf, Kf, Hcl] [Hmd, Hmc, Hds] (fun vq L1 Ln _ => vq = .tuple #[] ∧ Ln = [] ∧ ∃ (vf2 : Value) (Hf2 Kf2 : Hp) (st2 : List (List Lit)) (ok2 : Bool), L1 = [bxS b [vmd, vmc, vf2, .bool ok2] 97, Hf2, Kf2] ∧ OwnL 69 1 Hf2 Kf2 LRowV vf2 st2 ∧ Liq Kf2 ∧ LimR sts (refF k m ds cl) st2 ok2)
theorem prover_step (k : Nat) (ih : ∀ j, j < k → proverSt j) : proverSt k := by
 intro b Hmd Hmc Hds Hcl Hf Kf vmd vmc vds vcl vf m ds cl sts ok hM hd hpa hk hst hok lq hmd hmc hds ocl of
 have hn := hM.n
 have hp := propOk hM hd
 have hpl := hp.ok.l
 have hpp := path_prop hM hd hpa
 have hcn := path_len hpa
 refine specT_of Tryz.func76 rfl rfl rfl (fun B => ?_)
 refine cS (cS (cr (mv rfl (kl_nilchk rfl ?_))))
 refine fV rfl (lB rfl rfl (nt9 rfl (ln (qc (cd9 rfl (fun c1 => ?_) (fun c1 => ?_))))))
 ·have c1r := c1
  try simp only [smpE] at c1
  exact absurd c1 (by rw [hok]; decide)
 ·have c1r := c1
  try simp only [smpE] at c1
  refine sk (qc (cS (cr (mv rfl (kl_nilchk rfl ?_)))))
  refine fV rfl (kl_ldSL rfl (At.take 2 (at_box (T := 97) (cs := [vmd, vmc, vf, .bool ok]) (off := 0) (fz := (0, 0)))) rfl ?_)
  refine mv rfl (kl_call rfl rfl (fixS_ok m ds hM hd ‹_› ‹_› ‹_›) (fun v2 H3 f4 h5 => ?_))
  refine sg rfl (ln (qc (cS (cS (cr (mv rfl (cP rfl rfl (hasEmpty_ok (prop m ds) ‹_›) ?_)))))))
  refine nt9 rfl (ln (qc (cd9 rfl (fun c6 => ?_) (fun c6 => ?_))))
  ·have c6r := c6
   try simp only [smpE] at c6
   have hz : (prop m ds).contains 0 = false := (by simpa using c6r)
   have hD := prop_at hM hd hz
   refine cS (cr (sg rfl (ln (qc (cS (bl (kc_loop0 (A := Nat) (fun zz => (zz ≤ (prop m ds).length) ∧ (∀ j, j < zz → (valsI ((prop m ds).getD j 0)).length = 1)) (fun zz => (prop m ds).length - zz) (fun zz => [(7, .int .i64 (zz : Int))]) (0) (pk [0, 2, 6] rfl) (pc 7 rfl pn) ⟨Nat.zero_le _, (fun _ h => absurd h (Nat.not_lt_zero _))⟩ ?_)))))))
   rintro i hJ9
   obtain ⟨hk7, hi8⟩ : (i ≤ (prop m ds).length) ∧ (∀ j, j < i → (valsI ((prop m ds).getD j 0)).length = 1) := hJ9
   change KC _ _ (_) _ _ ([(7, .int .i64 (i : Int))] ++ _)
   refine cS (cS (cr (mv rfl (mv rfl (le9 rfl ‹_› (fun l10 => ?_))))))
   refine ls9 rfl rfl ?_
   refine mv rfl (jn 8 37 (.bool (decide ((i : Int) < ((prop m ds).length : Int)) && decide (((valsI ((prop m ds).getD i 0)).length : Int) = (1 : Int)))) (pk [0, 2, 6, 7, 25, 26, 27, 28, 29] rfl) (fun J19 => ?_) ?_)
   ·rcases Bool.eq_false_or_eq_true (decide ((i : Int) < ((prop m ds).length : Int))) with g11 | g11
    ·have g11p := of_decide_eq_true g11
     refine gT rfl rfl g11 (mv rfl (gT rfl rfl g11 (mv rfl (gT rfl rfl g11 (kl_inI rfl rfl ‹_› (by first | omega | (simp; omega)) (fun p12 a13 => ?_))))))
     refine gT rfl rfl g11 (ld rfl ‹_› (gT rfl rfl g11 (kl_call rfl rfl (domainValues_ok ((prop m ds).getD i 0)) (fun v14 H15 f16 h17 => ?_))))
     refine gT rfl rfl g11 (le9 rfl ‹_› (fun l18 => ?_))
     refine gT rfl rfl g11 (eq9 rfl rfl ?_)
     refine aT rfl rfl g11 ?_
     exact kl_fg slr9 (J19 _ (pk [37, 0, 2, 6, 7, 25, 26, 27, 28, 29] rfl))
    ·refine gF rfl rfl g11 (gF rfl rfl g11 (gF rfl rfl g11 (gF rfl rfl g11 (gF rfl rfl g11 (gF rfl rfl g11 (gF rfl rfl g11 (aF (decide (((valsI ((prop m ds).getD i 0)).length : Int) = (1 : Int))) rfl rfl g11 ?_)))))))
     exact J19 _ (pk [37, 0, 2, 6, 7, 25, 26, 27, 28, 29] rfl)
   refine ln (qc (cd9 rfl (fun c20 => ?_) (fun c20 => ?_)))
   ·have c20r := c20
    try simp only [smpE] at c20
    have hgo := br_go c20r
    refine sk (qc (bl (cr (mv rfl (ic9 rfl rfl (by omega) ?_)))))
    refine sg rfl (ln (kq_round0 ((i + 1)) (by (have := hgo.1; omega)) (⟨(by have := hgo.1; omega), (by intro j hj; rcases Nat.lt_succ_iff_lt_or_eq.1 hj with h9 | h9; (exact hi8 j h9); (subst h9; have := hgo.2; omega))⟩) (pc 7 rfl pn) (pk [0, 2, 6] rfl) slr9))
   ·have c20r := c20
    try simp only [smpE] at c20
    have hex := br_exit c20r
    refine ex9 (qc (cS (cS (cr (mv rfl (mv rfl (le9 rfl ‹_› (fun l21 => ?_))))))))
    refine eq9 rfl rfl ?_
    refine ln (qc (ci9 rfl (fun c22 => ?_) (fun c22 => ?_)))
    ·have hop := op_no hD (by omega) hi8
     refine cS (cr (mv rfl (kl_nilchk rfl ?_)))
     refine fV rfl (sB rfl rfl rfl rfl rfl ?_)
     refine cg [bxS b [vmd, vmc, vf, .bool false] 97, Hf, Kf, Hcl] rfl ?_
     refine ln (qc (rt ?_))
     exact kq_retT0 rfl [bxS b [vmd, vmc, vf, .bool false] 97, Hf, Kf] [] noHp frn (fr_no _) ⟨rfl, rfl, vf, Hf, Kf, sts, false, rfl, of, lq, (by rw [ref_leaf hz hop]; exact lim_leaf hst)⟩
    ·have hi0 : i < (prop m ds).length := (by omega)
     have hne1 : (valsI ((prop m ds).getD i 0)).length ≠ 1 := (by rcases hex with h9 | h9 <;> omega)
     have hopI := op_at hD hi0 hi8 hne1
     have hop : ¬ opI (prop m ds) < 0 := (by omega)
     obtain ⟨j, rfl⟩ := path_room hpp hpl hop hk
     refine sk (qc (cS (cr (mv rfl (mv rfl (kl_inI rfl rfl ‹_› (by first | omega | (simp; omega)) (fun p23 a24 => ?_)))))))
     refine ld rfl ‹_› (kl_call rfl rfl (domainValues_ok ((prop m ds).getD i 0)) (fun v25 H26 f27 h28 => ?_))
     refine sg rfl (ln (qc (cS (cr (sg rfl (ln (qc (bl (kc_loopL (A := Nat × Bool × List (List Lit) × Value × Hp × Hp) (fun zz => (zz.1 ≤ (valsI ((prop m ds).getD i 0)).length) ∧ (LimR sts (foldR (chR j m (prop m ds) cl) ((valsI ((prop m ds).getD i 0)).take zz.1)) zz.2.2.1 zz.2.1) ∧ Liq zz.2.2.2.2.2 ∧ OwnL 69 1 zz.2.2.2.2.1 zz.2.2.2.2.2 LRowV zz.2.2.2.1 zz.2.2.1) (fun zz => (valsI ((prop m ds).getD i 0)).length - zz.1) (fun zz => [bxS b [vmd, vmc, zz.2.2.2.1, .bool zz.2.1] 97, zz.2.2.2.2.1, zz.2.2.2.2.2, Hcl]) (fun zz => [(9, .int .i64 (zz.1 : Int))]) (0, ok, sts, vf, Hf, Kf) (pk [0, 2, 6, 7, 8] rfl) (pc 9 rfl pn) rfl ⟨Nat.zero_le _, (lim_init hst hok), lq, of⟩ ?_)))))))))
     rintro ⟨q, o1, s1, v34, H31, K35⟩ hJ37
     obtain ⟨hk29, hi30, l36, o32⟩ : (q ≤ (valsI ((prop m ds).getD i 0)).length) ∧ (LimR sts (foldR (chR j m (prop m ds) cl) ((valsI ((prop m ds).getD i 0)).take q)) s1 o1) ∧ Liq K35 ∧ OwnL 69 1 H31 K35 LRowV v34 s1 := hJ37
     change KC _ _ (_) [bxS b [vmd, vmc, v34, .bool o1] 97, H31, K35, Hcl] _ ([(9, .int .i64 (q : Int))] ++ _)
     refine cS (cS (cr (mv rfl (mv rfl (le9 rfl ‹_› (fun l38 => ?_))))))
     refine ls9 rfl rfl ?_
     refine mv rfl (jn 5 61 (.bool (decide ((q : Int) < ((valsI ((prop m ds).getD i 0)).length : Int)) && o1)) (pk [0, 2, 6, 7, 8, 9, 52, 53, 54, 55, 56] rfl) (fun J40 => ?_) ?_)
     ·rcases Bool.eq_false_or_eq_true (decide ((q : Int) < ((valsI ((prop m ds).getD i 0)).length : Int))) with g39 | g39
      ·have g39p := of_decide_eq_true g39
       refine gT rfl rfl g39 (mv rfl (gT rfl rfl g39 (kl_nilchk rfl ?_)))
       refine gT rfl rfl g39 (fV rfl (gT rfl rfl g39 (lB rfl rfl (aT rfl rfl g39 ?_))))
       exact J40 _ (pk [61, 0, 2, 6, 7, 8, 9, 52, 53, 54, 55, 56] rfl)
      ·refine gF rfl rfl g39 (gF rfl rfl g39 (gF rfl rfl g39 (gF rfl rfl g39 (aF o1 rfl rfl g39 ?_))))
       exact J40 _ (pk [61, 0, 2, 6, 7, 8, 9, 52, 53, 54, 55, 56] rfl)
     refine ln (qc (cd9 rfl (fun c41 => ?_) (fun c41 => ?_)))
     ·have c41r := c41
      try simp only [smpE] at c41
      have hqc := lim_go c41r
      have hv := getD_mem (d := (0 : Int)) hqc.1
      have hvv := valsI_mem hv
      refine sk (qc (cS (bl (cS (cr (mv rfl (kl_callL rfl rfl (copyInts_ok (prop m ds) (by omega) ‹_›) (fun v42 H43 f44 o45 => ?_))))))))
      refine sg rfl (ln (qc (cS (cr (mv rfl (mv rfl (mv rfl (mv rfl (kl_inI rfl rfl ‹_› (by first | omega | (simp; omega)) (fun p46 a47 => ?_))))))))))
      refine ld rfl ‹_› (kl_shl rfl rfl (by omega) ?_)
      refine kl_ixLn rfl rfl ‹_› (by first | omega | (simp; omega)) (fun p48 q49 => ?_)
      refine kl_stL (ishl (1 : Int) ((valsI ((prop m ds).getD i 0)).getD q 0)) rfl rfl ‹_› o45 (by first | omega | (simp; omega)) rfl rfl rfl (fun H50 o51 f52 => ?_)
      have f53 := f52 _ f44
      refine cg [H50, bxS b [vmd, vmc, v34, .bool o1] 97, H31, K35, Hcl] rfl ?_
      refine ln (qc (cr (mv rfl (mv rfl (mv rfl (mv rfl (mv rfl (mv rfl (kl_inI rfl rfl ‹_› (by first | omega | (simp; omega)) (fun p54 a55 => ?_))))))))))
      refine ld rfl ‹_› (kl_bd rfl (cp rfl (cp rfl (cp rfl cp_nil))) rfl ?_)
      refine kl_bsQ rfl (fun v56 H57 f58 r59 h60 => ?_)
      refine kl_callL rfl rfl (mergeE_ok cl ([(⟨(i : Int), ((valsI ((prop m ds).getD i 0)).getD q 0), true⟩ : Lit)]) (by simp; omega) rfl (path_lit (by have h9 := path_lt hpp hpl hop; rw [hopI] at h9; exact h9)) (OwnL.lits ocl) ‹_›) (fun v61 H62 f63 h64 => ?_)
      obtain ⟨z65, o67, h66⟩ := h64
      have hme := h66
      refine cT rfl rfl (ih j (by omega) m ((prop m ds).set i (ishl (1 : Int) ((valsI ((prop m ds).getD i 0)).getD q 0))) z65 s1 o1 hM (set_ok hp.ok hvv) (by rw [hme]; exact path_childN hpp hpl hopI hvv) (by rw [hme]; simp; omega) hi30.n hqc.2 l36 hmd hmc (OwnL.ints o51) o67 o32) (fun v68 L1 Ln K69 h70 g71 g72 => ?_)
      obtain ⟨rfl, rfl, v73, H74, K75, s76, o77, rfl, o78, l79, h80⟩ := h70
      have hlm := h80
      refine nm ?_
      refine ln (qc (cr (mv rfl (ic9 rfl rfl (by omega) ?_))))
      refine sg rfl (ln (tk [bxS b [vmd, vmc, v73, .bool o77] 97, H74, K75, Hcl] ?_))
      refine rL ((q + 1), o77, s76, v73, H74, K75) (by (have := hqc.1; omega)) (⟨(by have := hqc.1; omega), (by rw [hme] at hlm; exact lim_step hqc.1 hqc.2 hi30 (by rw [chR_eq hopI]; exact hlm)), l79, o78⟩) (pc 9 rfl pn) (pk [0, 2, 6, 7, 8] rfl) rfl slr9
     ·have c41r := c41
      try simp only [smpE] at c41
      have hqx := c41r
      refine ex9 (qc (cS (cr (mv rfl (kl_nilchk rfl ?_)))))
      refine fV rfl (lB rfl rfl (mv rfl (jn 7 97 (.bool (o1 && decide ((s1.length : Int) < (200 : Int)))) (pk [0, 2, 90] rfl) (fun J83 => ?_) ?_)))
      ·rcases Bool.eq_false_or_eq_true o1 with g81 | g81
       ·have g81p := g81
        try simp only [smpD] at g81p
        refine gT rfl rfl g81 (mv rfl (gT rfl rfl g81 (kl_nilchk rfl ?_)))
        refine gT rfl rfl g81 (fV rfl (gT rfl rfl g81 (lB rfl rfl (gT rfl rfl g81 (lL rfl o32 (fun l82 => ?_))))))
        refine gT rfl rfl g81 (ls9 rfl rfl ?_)
        refine aT rfl rfl g81 ?_
        exact J83 _ (pk [97, 0, 2, 90] rfl)
       ·refine gF rfl rfl g81 (gF rfl rfl g81 (gF rfl rfl g81 (gF rfl rfl g81 (gF rfl rfl g81 (gF rfl rfl g81 (aF (decide ((s1.length : Int) < (200 : Int))) rfl rfl g81 ?_))))))
        exact J83 _ (pk [97, 0, 2, 90] rfl)
      refine ln (qc (cd9 rfl (fun c84 => ?_) (fun c84 => ?_)))
      ·have c84r := c84
       try simp only [smpE] at c84
       have hap := c84r
       refine cr (mv rfl (mv rfl (kl_nilchk rfl ?_)))
       refine fV rfl (lB rfl rfl (mv rfl (bs9 rfl rfl rfl (by decide) (ca (by first | exact Sl.cells ‹_› | exact OwnL.cells ‹_›) ca_nil) (fun v85 H86 f87 r88 s89 => ?_))))
       have h90 := OwnL.lits ocl
       refine cm9 K35 Hcl (fun c91 => ?_)
       have o92 := OwnL.mono (K' := orHp K35 Hcl) o32 orL
       refine aL9 cl rfl rfl o92 ‹_› ⟨_, rfl, Sl.mono ‹_› (orC c91) (fun _ _ h => h)⟩ (oc (OwnL.oneCell ‹_›) oc_nil) (by first | omega | (have h9 := hi30.n; omega)) (by decide) (fun v93 H94 o95 f96 => ?_)
       refine kl_nilchk rfl ?_
       refine fV rfl (sB rfl rfl rfl (OwnL.oneCell ‹_›) (OwnL.cells ‹_›) ?_)
       refine cg [bxS b [vmd, vmc, v93, .bool o1] 97, H94, K35, Hcl] rfl ?_
       refine ln (kq_mrg K35 Hcl ?_)
       exact kq_retT0 rfl [bxS b [vmd, vmc, v93, .bool o1] 97, H94, (orHp K35 Hcl)] [] noHp frn (fr_no _) ⟨rfl, rfl, v93, H94, (orHp K35 Hcl), (s1 ++ [cl]), o1, rfl, o95, (liq_or l36 (And.intro trivial (OwnL.liq ocl)).2), (by rw [ref_node hz hop, hopI]; exact lim_T (lim_all hi30 hqx) hap)⟩
      ·have c84r := c84
       try simp only [smpE] at c84
       have hap := c84r
       refine cr (mv rfl (kl_nilchk rfl ?_))
       refine fV rfl (sB rfl rfl rfl rfl rfl ?_)
       refine cg [bxS b [vmd, vmc, v34, .bool false] 97, H31, K35, Hcl] rfl ?_
       refine ln ?_
       exact kq_retT0 rfl [bxS b [vmd, vmc, v34, .bool false] 97, H31, K35] [] noHp frn (fr_no _) ⟨rfl, rfl, v34, H31, K35, s1, false, rfl, o32, l36, (by rw [ref_node hz hop, hopI]; exact lim_F (lim_all hi30 hqx) hap)⟩
  ·have c6r := c6
   try simp only [smpE] at c6
   have hz : (prop m ds).contains 0 = true := (by simpa using c6r)
   refine sk (qc (cS (cr (mv rfl (kl_nilchk rfl ?_)))))
   refine fV rfl (lB rfl rfl (mv rfl (jn 7 97 (.bool (ok && decide ((sts.length : Int) < (200 : Int)))) (pk [0, 2, 90] rfl) (fun J100 => ?_) ?_)))
   ·rcases Bool.eq_false_or_eq_true ok with g98 | g98
    ·have g98p := g98
     try simp only [smpD] at g98p
     refine gT rfl rfl g98 (mv rfl (gT rfl rfl g98 (kl_nilchk rfl ?_)))
     refine gT rfl rfl g98 (fV rfl (gT rfl rfl g98 (lB rfl rfl (gT rfl rfl g98 (lL rfl of (fun l99 => ?_))))))
     refine gT rfl rfl g98 (ls9 rfl rfl ?_)
     refine aT rfl rfl g98 ?_
     exact J100 _ (pk [97, 0, 2, 90] rfl)
    ·refine gF rfl rfl g98 (gF rfl rfl g98 (gF rfl rfl g98 (gF rfl rfl g98 (gF rfl rfl g98 (gF rfl rfl g98 (aF (decide ((sts.length : Int) < (200 : Int))) rfl rfl g98 ?_))))))
     exact J100 _ (pk [97, 0, 2, 90] rfl)
   refine ln (qc (cd9 rfl (fun c101 => ?_) (fun c101 => ?_)))
   ·have c101r := c101
    try simp only [smpE] at c101
    have hap := c101r
    refine cr (mv rfl (mv rfl (kl_nilchk rfl ?_)))
    refine fV rfl (lB rfl rfl (mv rfl (bs9 rfl rfl rfl (by decide) (ca (by first | exact Sl.cells ‹_› | exact OwnL.cells ‹_›) ca_nil) (fun v102 H103 f104 r105 s106 => ?_))))
    have h107 := OwnL.lits ocl
    refine cm9 Kf Hcl (fun c108 => ?_)
    have o109 := OwnL.mono (K' := orHp Kf Hcl) of orL
    refine aL9 cl rfl rfl o109 ‹_› ⟨_, rfl, Sl.mono ‹_› (orC c108) (fun _ _ h => h)⟩ (oc (OwnL.oneCell ‹_›) oc_nil) (by first | omega | (have h9 := hi30.n; omega)) (by decide) (fun v110 H111 o112 f113 => ?_)
    refine kl_nilchk rfl ?_
    refine fV rfl (sB rfl rfl rfl (OwnL.oneCell ‹_›) (OwnL.cells ‹_›) ?_)
    refine cg [bxS b [vmd, vmc, v110, .bool ok] 97, H111, Kf, Hcl] rfl ?_
    refine ln (kq_mrg Kf Hcl ?_)
    exact kq_retT0 rfl [bxS b [vmd, vmc, v110, .bool ok] 97, H111, (orHp Kf Hcl)] [] noHp frn (fr_no _) ⟨rfl, rfl, v110, H111, (orHp Kf Hcl), (sts ++ [cl]), ok, rfl, o112, (liq_or lq (And.intro trivial (OwnL.liq ocl)).2), (by rw [ref_0 hz]; exact lim_0 hap)⟩
   ·have c101r := c101
    try simp only [smpE] at c101
    have hap := c101r
    refine cr (mv rfl (kl_nilchk rfl ?_))
    refine fV rfl (sB rfl rfl rfl rfl rfl ?_)
    refine cg [bxS b [vmd, vmc, vf, .bool false] 97, Hf, Kf, Hcl] rfl ?_
    refine ln ?_
    exact kq_retT0 rfl [bxS b [vmd, vmc, vf, .bool false] 97, Hf, Kf] [] noHp frn (fr_no _) ⟨rfl, rfl, vf, Hf, Kf, sts, false, rfl, of, lq, (by rw [ref_0 hz]; exact lim_0F hst hok hap)⟩
theorem prover_ok (k : Nat) : proverSt k := by
 induction k using Nat.strongRecOn with
 | _ k ih => exact @prover_step k ih
theorem pinfS_ok {Hmd : Hp} {vmd : Value} {Hmc : Hp} {vmc : Value} (m : Mod) (hmd : Ints Hmd vmd m.doms) (hmc : Cons Hmc vmc m.cons) : Spec Tryz.prog 41 [.agg #[vmd, vmc]] [Hmd, Hmc] (fun Hq vq => ∃ (rq : List (List Lit)) (bq : Bool) (uq0 : Value), vq = .tuple #[uq0, .bool bq] ∧ LRows Hq uq0 rq ∧ (rq, bq) = infR m) := by
 refine spec_of Tryz.func41 rfl rfl rfl (fun B => ?_)
 refine cS (cr (kl_box rfl rfl (fun p1 H2 f3 a4 => ?_)))
 refine sg rfl (sg rfl (ln (qc (cS (cS (cr (kl_ldS rfl ‹_› rfl ?_)))))))
 refine cP rfl rfl (svalidMod_ok m ‹_› ‹_›) ?_
 refine nt9 rfl (ln (qc (cd9 rfl (fun c5 => ?_) (fun c5 => ?_))))
 ·have c5r := c5
  try simp only [smpE] at c5
  have hv := c5r
  refine cS (cr (sg rfl (sg rfl (ln (qc (rt ?_))))))
  exact kq_ret2 rfl rfl rfl noHp (fr_no _) ⟨([]), false, _, rfl, Sl.nil, by first | (rw [inf_nv (by simpa using hv)]; done) | (rw [inf_v hM.v]; first | exact lim_no hlm (by simpa using ho9) | exact lim_yes hlm (by simpa using ho9))⟩
 ·have c5r := c5
  try simp only [smpE] at c5
  have hv := c5r
  have hM : MOk m := ⟨by simpa using hv⟩
  refine sk (qc (cS (cr (kl_ldS rfl ‹_› rfl ?_))))
  refine kl_bdA [(0, [vmd, vmc]), (2, [.bool true])] [vmd, vmc, .slice none 0 0, .bool true] rfl (cpa rfl (cpa rfl cpa_nil)) rfl ?_
  refine kl_boxL (cs := [vmd, vmc, .slice none 0 0, .bool true]) rfl rfl (fun b6 hb7 => ?_)
  refine sg rfl (ln (qc (cS (cr (mv rfl (fd9 rfl ‹_› (fun p8 a9 => ?_)))))))
  refine ld rfl ‹_› (kl_bs0k (K := noHp) LitV rfl (fun v10 H11 f12 o13 => ?_))
  refine kl_no ?_
  refine kl_no ?_
  refine cT rfl rfl (prover_ok m.doms.length m m.doms ([]) [] true hM hM.dok (path_nil _ _) (by simp) (by simp) rfl liq_no ‹_› ‹_› ‹_› o13 (OwnL.nil (K := noHp) (R := LRowV))) (fun v14 L1 Ln K15 h16 g17 g18 => ?_)
  obtain ⟨rfl, rfl, v19, H20, K21, s22, o23, rfl, o24, l25, h26⟩ := h16
  have hlm := h26
  refine nm ?_
  refine kl_fr H20 (OwnL.liq o24) (fun f27 => ?_)
  refine kl_fr K21 l25 (fun f28 => ?_)
  refine ln (qc (cS (cS (cr (mv rfl (kl_nilchk rfl ?_))))))
  refine fV rfl (lB rfl rfl (nt9 rfl (ln (qc (cd9 rfl (fun c29 => ?_) (fun c29 => ?_))))))
  ·have c29r := c29
   try simp only [smpE] at c29
   have ho9 := c29r
   refine cS (cr (sg rfl (sg rfl (ln (qc (rt ?_))))))
   exact kq_ret2 rfl rfl rfl noHp (fr_no _) ⟨([]), false, _, rfl, Sl.nil, by first | (rw [inf_nv (by simpa using hv)]; done) | (rw [inf_v hM.v]; first | exact lim_no hlm (by simpa using ho9) | exact lim_yes hlm (by simpa using ho9))⟩
  ·have c29r := c29
   try simp only [smpE] at c29
   have ho9 := c29r
   refine sk (qc (cS (cr (mv rfl (kl_nilchk rfl ?_)))))
   refine fV rfl (lB rfl rfl (sg rfl (sg rfl (ln (qc (rt (kq_frz H20 ?_)))))))
   refine kq_cmp H20 K21 (fun c30 => ?_)
   exact kq_ret2 rfl rfl rfl (orHp H20 K21) (fr_or f27 f28) ⟨s22, true, _, rfl, (OwnL.lrowsK o24 c30), by first | (rw [inf_nv (by simpa using hv)]; done) | (rw [inf_v hM.v]; first | exact lim_no hlm (by simpa using ho9) | exact lim_yes hlm (by simpa using ho9))⟩
theorem pbS_ok {Hmd : Hp} {vmd : Value} {Hmc : Hp} {vmc : Value} {Hobj : Hp} {vobj : Value} (m : Mod) (obj : List Int) (b : Int) (hmd : Ints Hmd vmd m.doms) (hmc : Cons Hmc vmc m.cons) (hobj : Ints Hobj vobj obj) : Spec Tryz.prog 9 [.agg #[vmd, vmc], vobj, .int .i64 b] [Hmd, Hmc, Hobj] (fun Hq vq => ∃ (rq : List (List Lit)) (bq : Bool) (uq0 : Value), vq = .tuple #[uq0, .bool bq] ∧ LRows Hq uq0 rq ∧ (rq, bq) = pbR m obj b) := by
 refine spec_of Tryz.func9 rfl rfl rfl (fun B => ?_)
 refine cS (cr (kl_box rfl rfl (fun p1 H2 f3 a4 => ?_)))
 refine sg rfl (sg rfl (ln (qc (cS (cS (cr (kl_ldS rfl ‹_› rfl ?_)))))))
 refine cP rfl rfl (svalidMod_ok m ‹_› ‹_›) ?_
 refine nt9 rfl (mv rfl (jn 5 18 (.bool (!(validModB m) || !(objOkS m obj))) (pk [1, 2, 3, 6, 7, 13] rfl) (fun J6 => ?_) ?_))
 ·rcases Bool.eq_false_or_eq_true (!(validModB m)) with g5 | g5
  ·refine gF rfl rfl g5 (gF rfl rfl g5 (gF rfl rfl g5 (gF rfl rfl g5 (oT (!(objOkS m obj)) rfl rfl g5 ?_))))
   exact J6 _ (pk [18, 1, 2, 3, 6, 7, 13] rfl)
  ·have g5p := g5
   try simp only [smpD] at g5p
   refine gT rfl rfl g5 (kl_ldS rfl ‹_› rfl ?_)
   refine gT rfl rfl g5 (mv rfl (gT rfl rfl g5 (cP rfl rfl (validObjective_ok m obj ‹_› ‹_› ‹_›) ?_)))
   refine gT rfl rfl g5 (nt9 rfl (oF rfl rfl g5 ?_))
   exact J6 _ (pk [18, 1, 2, 3, 6, 7, 13] rfl)
 refine mv rfl (jn 4 23 (.bool ((!(validModB m) || !(objOkS m obj)) || !(withinB b (-998 : Int) (1000 : Int)))) (pk [1, 2, 3, 6, 7, 19] rfl) (fun J8 => ?_) ?_)
 ·rcases Bool.eq_false_or_eq_true (!(validModB m) || !(objOkS m obj)) with g7 | g7
  ·refine gF rfl rfl g7 (gF rfl rfl g7 (gF rfl rfl g7 (oT (!(withinB b (-998 : Int) (1000 : Int))) rfl rfl g7 ?_)))
   exact J8 _ (pk [23, 1, 2, 3, 6, 7, 19] rfl)
  ·have g7p := g7
   try simp only [smpD] at g7p
   refine gT rfl rfl g7 (mv rfl (gT rfl rfl g7 (cP rfl rfl (inRange_ok b (-998 : Int) (1000 : Int)) ?_)))
   refine gT rfl rfl g7 (nt9 rfl (oF rfl rfl g7 ?_))
   exact J8 _ (pk [23, 1, 2, 3, 6, 7, 19] rfl)
 refine ln (qc (cd9 rfl (fun c9 => ?_) (fun c9 => ?_)))
 ·have c9r := c9
  try simp only [smpE] at c9
  have hgs := c9r
  rw [bd_cS] at hgs
  have hno := hgs
  refine cS (cr (sg rfl (sg rfl (ln (qc (rt ?_))))))
  exact kq_ret2 rfl rfl rfl noHp (fr_no _) ⟨([]), false, _, rfl, Sl.nil, by first | (rw [pb_no (by rw [bd_no hno])]; done) | (rw [pb_no (by rw [bd_yes hgo, ← e92]; simpa using hz9)]; done) | (rw [pb_yes (by rw [bd_yes hgo, ← e92]; simpa using hz9), bd_yes hgo, ← e91]; exact hpi)⟩
 ·have c9r := c9
  try simp only [smpE] at c9
  have hgs := c9r
  rw [bd_cS] at hgs
  have hgo := hgs
  have hok := bd_ok hgo
  refine sk (qc (cS (cr (kl_ldS rfl ‹_› rfl ?_))))
  refine mv rfl (mv rfl (kl_call rfl rfl (improvS_ok m obj b hok.2.2.1 hok.2.2.2.1 hok.2.2.2.2 ‹_› ‹_› ‹_›) (fun v10 H11 f12 h13 => ?_)))
  obtain ⟨z16, z21, u17, u18, rfl, h19, h20, h15⟩ := h13
  obtain ⟨e91, e92⟩ := pairOf h15
  refine mv rfl (kl_xt rfl rfl (kl_xt rfl rfl (kl_alloc (cs := [.slice none 0 0, .slice none 0 0]) rfl (fun b22 hb23 => ?_))))
  refine kl_stW (us := [u17, u18]) rfl rfl rfl rfl (oc (Sl.oneCell ‹_›) (oc (Sl.oneCell ‹_›) oc_nil)) rfl ?_
  refine cg [bxS b22 [u17, u18] 26] rfl ?_
  refine sg rfl (ln (qc (cS (cS (cr (mv rfl (nt9 rfl (ln (qc (cd9 rfl (fun c24 => ?_) (fun c24 => ?_)))))))))))
  ·have c24r := c24
   try simp only [smpE] at c24
   have hz9 := c24r
   refine cS (cr (sg rfl (sg rfl (ln (qc (rt ?_))))))
   exact kq_ret2 rfl rfl rfl noHp (fr_no _) ⟨([]), false, _, rfl, Sl.nil, by first | (rw [pb_no (by rw [bd_no hno])]; done) | (rw [pb_no (by rw [bd_yes hgo, ← e92]; simpa using hz9)]; done) | (rw [pb_yes (by rw [bd_yes hgo, ← e92]; simpa using hz9), bd_yes hgo, ← e91]; exact hpi)⟩
  ·have c24r := c24
   try simp only [smpE] at c24
   have hz9 := c24r
   refine sk (qc (cS (cr (kl_ldW rfl rfl (kl_call rfl rfl (pinfS_ok z16 ‹_› ‹_›) (fun v25 H26 f27 h28 => ?_))))))
   obtain ⟨z31, z34, u32, rfl, h33, h30⟩ := h28
   have hpi := h30
   refine kl_xt rfl rfl (kl_xt rfl rfl (sg rfl (sg rfl (ln (qc (rt ?_))))))
   exact kq_ret2 rfl rfl rfl H26 f27 ⟨z31, z34, _, rfl, ‹_›, by first | (rw [pb_no (by rw [bd_no hno])]; done) | (rw [pb_no (by rw [bd_yes hgo, ← e92]; simpa using hz9)]; done) | (rw [pb_yes (by rw [bd_yes hgo, ← e92]; simpa using hz9), bd_yes hgo, ← e91]; exact hpi)⟩
end
end Go.Proofs.YtolndgeihijlbaaGreat
