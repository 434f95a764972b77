/- Walks of functions of the program: each returns what the plain function gives. Conditions: those that each statement names. -/
import Derived.Test.YtojinjdobjodaaaGreatTys
import Derived.Test.YtojinjdobjodaaaGreatRdr
import Derived.Test.YtojinjdobjodaaaGreatPureQ
import Derived.Test.YtojinjdobjodaaaGreatWssat
import Derived.Test.YtojinjdobjodaaaGreatWsat
import Derived.Test.YtojinjdobjodaaaGreatWvalid
import Derived.Test.YtojinjdobjodaaaGreatCut
import Derived.Test.YtojinjdobjodaaaGreatPureE
import Derived.Test.YtojinjdobjodaaaGreatTac
import Derived.Test.YtojinjdobjodaaaGreatWfilt
import Derived.Test.YtojinjdobjodaaaGreatPureP
import Derived.Test.YtojinjdobjodaaaGreatPureR
import Derived.Test.YtojinjdobjodaaaGreatWspecv
import Derived.Test.YtojinjdobjodaaaGreatTwo
import Derived.Test.YtojinjdobjodaaaGreatPureL
namespace Go.Proofs.YtojinjdobjodaaaGreat
open Go
set_option linter.unusedSimpArgs false
set_option linter.unusedVariables false
theorem cloneC_ok {Hxs : Hp} {vxs : Value} (xs : List Con) (hb : xs.length ≤ 1000) (hxs : Cons Hxs vxs xs) : Spec Tryz.prog 156 [vxs] [Hxs] ((fun Hq vq => OwnL 95 5 Hq Hxs ConV vq xs)) := by
 refine spec_of Tryz.func156 rfl rfl rfl (fun B => ?_)
 refine kc_seq (kc_region (kl_as rfl (kl_nil (kq_code (kc_seq (kc_seq (kc_region (kl_mv rfl (kl_eqlnilX rfl rfl (by assumption) (fun bn nn nx => ?_))))))))))
 refine kl_nil (kq_code (kc_cond rfl (fun c3 => ?_) (fun c3 => ?_)))
 ·skip
  have c3r := c3
  try simp only [smpC, decide_eq_true_eq, decide_eq_false_iff_not] at c3
  refine kc_seq (kc_region (kl_as rfl (kl_nil (kq_code (kc_ret ?_)))))
  exact kq_ret rfl rfl noHp (fr_no _) (by rw [nn (by assumption)]; exact OwnL.nil)
 ·skip
  have c3r := c3
  try simp only [smpC, decide_eq_true_eq, decide_eq_false_iff_not] at c3
  refine kc_skipQ (kq_code (kc_seq (kc_region (kl_bs0k (K := Hxs) ConV rfl (fun v4 H5 f6 o7 => ?_)))))
  refine kl_mv rfl (kl_apS rfl rfl o7 (by assumption) (fun _ _ h => h) (by simp; omega) (by decide) (fun v8 H9 o10 f11 => ?_))
  have f12 := f11 B f6 (Nat.le_refl _)
  refine kl_as rfl (kl_nil (kq_code (kc_ret ?_)))
  exact kq_ret rfl rfl H9 f12 o10
theorem copyConI_ok {Hcv : Hp} {vcv : Value} {Hca : Hp} {vca : Value} {Hcr : Hp} {vcr : Value} (c : Con) (hc : ConSm 100 c) (hcv : Ints Hcv vcv c.vars) (hca : Ints Hca vca c.args) (hcr : Rows Hcr vcr c.rows) : Spec Tryz.prog 183 [.agg #[.int .i64 c.kind, vcv, vca, .int .i64 c.bound, vcr]] [Hcv, Hca, Hcr] (fun Hq vq => ConR Hq vq c) := by
 have h1 := hc.v1
 have h2 := hc.v
 have h3 := hc.a
 have h4 := hc.r
 have h5 := hc.rr
 refine spec_of Tryz.func183 rfl rfl rfl (fun B => ?_)
 refine kc_seq (kc_region (kl_box rfl rfl (fun p1 H2 f3 a4 => ?_)))
 refine kl_alloc (cs := [.int .i64 (0 : Int), .slice none 0 0, .slice none 0 0, .int .i64 (0 : Int), .slice none 0 0]) rfl (fun b5 hb6 => ?_)
 refine kl_nil (kq_code (kc_seq (kc_region (kl_fd rfl (by assumption) (fun p7 a8 => ?_)))))
 refine kl_ld rfl (by assumption) (kl_len rfl (by assumption) (fun l9 => ?_))
 refine kl_mkL0 (R := RowV) rfl rfl (by omega) (by omega) (by decide) (fun v10 H11 f12 o13 => ?_)
 refine kl_as rfl (kl_nil (kq_code (kc_seq (kc_seq (kc_region (kl_fd rfl (by assumption) (fun p14 a15 => ?_)))))))
 refine kl_ld rfl (by assumption) (kl_len rfl (by assumption) (fun l16 => ?_))
 refine kl_mv rfl (kl_nil (kq_code (kc_block (kc_loopK (A := Nat × List (List Int) × Value × Hp × Hp) (fun zz => (zz.1 ≤ c.rows.length) ∧ (zz.2.1 = c.rows.take zz.1) ∧ Fr B zz.2.2.2.2 ∧ OwnL 23 1 zz.2.2.2.1 zz.2.2.2.2 RowV zz.2.2.1 zz.2.1 ∧ Fr B zz.2.2.2.1) (fun zz => c.rows.length - zz.1) (fun zz => zz.2.2.2.2) (fun zz => [zz.2.2.2.1, sing b5 (.cells [.int .i64 (0 : Int), .slice none 0 0, .slice none 0 0, .int .i64 (0 : Int), .slice none 0 0].toArray 95 (0, 0))]) (fun zz => [(13, .int .i64 (zz.1 : Int)), (3, zz.2.2.1)]) (0, ([]), v10, H11, noHp) (pc 1 rfl (pc 2 rfl (pc 11 rfl (pc 12 rfl pn)))) (pc 13 rfl (pc 3 rfl pn)) rfl ⟨Nat.zero_le _, rfl, (fr_no _), o13, f12⟩ ?_))))
 rintro ⟨k, out, v22, H19, K23⟩ hJ25
 obtain ⟨hk17, hi18, f24, o20, f21⟩ : (k ≤ c.rows.length) ∧ (out = c.rows.take k) ∧ Fr B K23 ∧ OwnL 23 1 H19 K23 RowV v22 out ∧ Fr B H19 := hJ25
 change KC _ _ (K23 :: _) [H19, sing b5 (.cells [.int .i64 (0 : Int), .slice none 0 0, .slice none 0 0, .int .i64 (0 : Int), .slice none 0 0].toArray 95 (0, 0))] _ ([(13, .int .i64 (k : Int)), (3, v22)] ++ _)
 refine kc_seq (kc_region (kl_lss rfl rfl ?_))
 refine kl_nil (kq_code (kc_seq (kc_if rfl (fun c26 => ?_) (fun c26 => ?_))))
 ·skip
  refine kc_skipQ (kq_code (kc_seq (kc_block (kc_seq (kc_region (kl_inS rfl rfl (by assumption) (by omega) (fun p27 u29 h30 a28 => ?_)))))))
  refine kl_ld rfl (by assumption) (kl_as rfl (kl_nil (kq_code (kc_region (kl_mv rfl (kl_mv rfl (kl_call rfl rfl (copied_ok (c.rows.getD k []) (by first | omega | (have h6 := h5 _ (getD_mem (d := []) (by omega : k < c.rows.length)); omega)) (by assumption)) (fun v31 H32 f33 o34 => ?_))))))))
  have h35 := OwnL.ints o34
  refine kl_bs rfl rfl rfl (by decide) (ca (by first | exact Sl.cells (by assumption) | exact OwnL.cells (by assumption)) ca_nil) (fun v36 H37 f38 r39 s40 => ?_)
  refine kl_cmp K23 H32 (fun c41 => ?_)
  have o42 := OwnL.mono (K' := orHp K23 H32) o20 orL
  refine kl_apL (c.rows.getD k []) rfl rfl o42 (by assumption) ⟨_, rfl, Sl.mono (by assumption) (orC c41) (fun _ _ h => h)⟩ (oc (Sl.oneCell (by assumption)) oc_nil) (by (have h9 := congrArg List.length hi18; simp at h9; omega)) (by decide) (fun v43 H44 o45 f46 => ?_)
  have f47 := f46 B f21 (Nat.le_refl _)
  refine kl_as rfl (kl_nil (kq_code (kc_region (kl_inc rfl rfl (by omega) ?_))))
  refine kl_mv rfl (kl_nil (kq_take [H44, sing b5 (.cells [.int .i64 (0 : Int), .slice none 0 0, .slice none 0 0, .int .i64 (0 : Int), .slice none 0 0].toArray 95 (0, 0))] ?_))
  refine kq_roundK ((k + 1), (out ++ [(c.rows.getD k [])]), v43, H44, (orHp K23 H32)) (by omega) (⟨by omega, (by rw [hi18, take_succ_getD [] (by omega)]), (fr_or f24 f33), o45, f47⟩) (pc 13 rfl (pc 3 rfl pn)) (pc 1 rfl (pc 2 rfl (pc 11 rfl (pc 12 rfl pn)))) rfl (List.Sublist.refl _)
 ·skip
  refine kc_exit (kq_code (kc_seq (kc_tree (fun i => ([11, 12] : List Nat).contains i) [] (by kernel_rfl) ?_)))
  refine kt_q 0 (List.nil_sublist _) rfl (by kernel_rfl) (kl_fd rfl (by assumption) (fun p48 a49 => ?_))
  refine kl_nil (kq_q (kt_q 1 (List.nil_sublist _) rfl (by kernel_rfl) (kl_ld rfl (by assumption) (kl_nil (kq_q (kt_q 2 (List.nil_sublist _) rfl (by kernel_rfl) (kl_fd rfl (by assumption) (fun p50 a51 => ?_))))))))
  refine kl_nil (kq_q (kt_q 3 (List.nil_sublist _) rfl (by kernel_rfl) (kl_ld rfl (by assumption) (kl_nil (kq_q (kt_q 5 (List.nil_sublist _) rfl (by kernel_rfl) (kl_fd rfl (by assumption) (fun p52 a53 => ?_))))))))
  refine kl_nil (kq_q (kt_q 6 (List.nil_sublist _) rfl (by kernel_rfl) (kl_ld rfl (by assumption) (kl_nil (kq_q (kt_q 8 (List.nil_sublist _) rfl (by kernel_rfl) (kl_fd rfl (by assumption) (fun p54 a55 => ?_))))))))
  refine kl_nil (kq_q (kt_q 9 (List.nil_sublist _) rfl (by kernel_rfl) (kl_ld rfl (by assumption) (kl_nil (kq_q (kt_q 10 (List.nil_sublist _) rfl (by kernel_rfl) (kl_mv rfl (kl_nil (kq_q (kt_a 4 rfl (by kernel_rfl) (kl_call rfl rfl (copied_ok c.vars (by first | omega | (have h6 := h5 _ (getD_mem (d := []) (by omega : k < c.rows.length)); omega)) (by assumption)) (fun v56 H57 f58 o59 => ?_))))))))))))
  have h60 := OwnL.ints o59
  refine kl_nil (kq_a (List.nil_sublist _) (kt_a 7 rfl (by kernel_rfl) (kl_call rfl rfl (copied_ok c.args (by first | omega | (have h6 := h5 _ (getD_mem (d := []) (by omega : k < c.rows.length)); omega)) (by assumption)) (fun v61 H62 f63 o64 => ?_))))
  have h65 := OwnL.ints o64
  refine kl_nil (kq_a (List.nil_sublist _) (kt_a 11 rfl (by kernel_rfl) (kl_bd rfl (cp rfl (cp (Sl.cells (by assumption)) (cp (Sl.cells (by assumption)) (cp rfl (cp (OwnL.cells (by assumption)) cp_nil))))) rfl ?_)))
  refine kl_nil (kq_x rfl (kt_a 12 rfl (by kernel_rfl) (kl_stW (us := [.int .i64 c.kind, v56, v61, .int .i64 c.bound, v22]) rfl rfl rfl rfl (oc rfl (oc (Sl.oneCell (by assumption)) (oc (Sl.oneCell (by assumption)) (oc rfl (oc (OwnL.oneCell (by assumption)) oc_nil))))) rfl ?_)))
  refine kl_chg [H19, sing b5 (.cells [.int .i64 c.kind, v56, v61, .int .i64 c.bound, v22].toArray 95 (0, 0))] rfl ?_
  refine kl_nil (kq_x rfl (kt_end (by kernel_rfl) ?_))
  refine kq_code (kc_ret (kq_frz H19 ?_))
  refine kq_cmp H19 K23 (fun c66 => ?_)
  refine kq_cmp H62 (orHp H19 K23) (fun c67 => ?_)
  refine kq_cmp H57 (orHp H62 (orHp H19 K23)) (fun c68 => ?_)
  exact kq_retC rfl rfl rfl (orHp H57 (orHp H62 (orHp H19 K23))) (fr_or f58 (fr_or f63 (fr_or f21 f24))) ⟨_, rfl, _, _, _, rfl, (Sl.mono (by assumption) (fun b o h => orL b o h) (fun _ _ h => h)), (Sl.mono (by assumption) (fun b o h => orC c68 b o (orL b o h)) (fun _ _ h => h)), (by have e9 : out = c.rows := (by rw [hi18, List.take_of_length_le (by omega)]); rw [← e9]; exact (Rows.mono' (OwnL.rowsK o20 c66) (fun b o h => orC c68 b o (orC c67 b o h))))⟩
theorem copyModI_ok {Hmd : Hp} {vmd : Value} {Hmc : Hp} {vmc : Value} (m : Mod) (hm : ModSm 100 m) (hmd : Ints Hmd vmd m.doms) (hmc : Cons Hmc vmc m.cons) : Spec Tryz.prog 157 [.agg #[vmd, vmc]] [Hmd, Hmc] (fun Hq vq => ModR Hq vq m) := by
 have h1 := hm.d1
 have h2 := hm.d
 have h3 := hm.c
 have h4 := hm.cc
 refine spec_of Tryz.func157 rfl rfl rfl (fun B => ?_)
 refine kc_seq (kc_region (kl_box rfl rfl (fun p1 H2 f3 a4 => ?_)))
 refine kl_alloc (cs := [.slice none 0 0, .slice none 0 0]) rfl (fun b5 hb6 => ?_)
 refine kl_nil (kq_code (kc_seq (kc_tree (fun i => ([7, 9] : List Nat).contains i) [] (by kernel_rfl) ?_)))
 refine kt_q 0 (List.nil_sublist _) rfl (by kernel_rfl) (kl_fd rfl (by assumption) (fun p7 a8 => ?_))
 refine kl_nil (kq_q (kt_q 1 (List.nil_sublist _) rfl (by kernel_rfl) (kl_ld rfl (by assumption) (kl_nil (kq_q (kt_q 3 (List.nil_sublist _) rfl (by kernel_rfl) (kl_fd rfl (by assumption) (fun p9 a10 => ?_))))))))
 refine kl_nil (kq_q (kt_q 4 (List.nil_sublist _) rfl (by kernel_rfl) (kl_ld rfl (by assumption) (kl_nil (kq_q (kt_q 5 (List.nil_sublist _) rfl (by kernel_rfl) (kl_len rfl (by assumption) (fun l11 => ?_))))))))
 refine kl_nil (kq_q (kt_c 2 6 8 rfl rfl rfl (by kernel_rfl) ?_ ?_ ?_))
 ·skip
  refine kl_call rfl rfl (copied_ok m.doms (by omega) (by assumption)) (fun v12 H13 f14 o15 => ?_)
  have h16 := OwnL.ints o15
  refine kl_nil (kq_a (List.nil_sublist _) (kt_b 6 8 rfl rfl (by kernel_rfl) ?_ ?_))
  ·skip
   refine kl_mkL0 (R := ConV) rfl rfl (by omega) (by omega) (by decide) (fun v17 H18 f19 o20 => ?_)
   refine kl_nil (kq_a (List.nil_sublist _) (kt_b 7 8 rfl rfl (by kernel_rfl) ?_ ?_))
   ·skip
    refine kl_bd rfl (cp (Sl.cells (by assumption)) (cp (OwnL.cells (by assumption)) cp_nil)) rfl ?_
    refine kl_nil (kq_x rfl (kt_a 8 rfl (by kernel_rfl) (kl_alloc (cs := [.slice none 0 0, .slice none 0 0]) rfl (fun b21 hb22 => ?_))))
    refine kl_nil (kq_a (List.nil_sublist _) (kt_a 9 rfl (by kernel_rfl) (kl_stW (us := [v12, v17]) rfl rfl rfl rfl (oc (Sl.oneCell (by assumption)) (oc (OwnL.oneCell (by assumption)) oc_nil)) rfl ?_)))
    refine kl_chg [sing b21 (.cells [v12, v17].toArray 26 (0, 0)), H18, sing b5 (.cells [.slice none 0 0, .slice none 0 0].toArray 26 (0, 0))] rfl ?_
    refine kl_nil (kq_x rfl (kt_end (by kernel_rfl) ?_))
    refine kq_code (kc_seq (kc_seq (kc_region (kl_fd rfl (by assumption) (fun p23 a24 => ?_)))))
    refine kl_ld rfl (by assumption) (kl_len rfl (by assumption) (fun l25 => ?_))
    refine kl_mv rfl (kl_nil (kq_code (kc_block (kc_loopK (A := Nat × List Con × Value × Hp × Hp) (fun zz => (zz.1 ≤ m.cons.length) ∧ (zz.2.1 = m.cons.take zz.1) ∧ Fr B zz.2.2.2.2 ∧ OwnL 95 5 zz.2.2.2.1 zz.2.2.2.2 ConV zz.2.2.1 zz.2.1 ∧ Fr B zz.2.2.2.1) (fun zz => m.cons.length - zz.1) (fun zz => zz.2.2.2.2) (fun zz => [sing b21 (.cells [v12, zz.2.2.1].toArray 26 (0, 0)), zz.2.2.2.1, sing b5 (.cells [.slice none 0 0, .slice none 0 0].toArray 26 (0, 0))]) (fun zz => [(17, .int .i64 (zz.1 : Int))]) (0, ([]), v17, H18, noHp) (pc 2 rfl (pc 3 rfl (pc 15 rfl (pc 16 rfl pn)))) (pc 17 rfl pn) rfl ⟨Nat.zero_le _, rfl, (fr_no _), o20, f19⟩ ?_))))
    rintro ⟨k, out, v31, H28, K32⟩ hJ34
    obtain ⟨hk26, hi27, f33, o29, f30⟩ : (k ≤ m.cons.length) ∧ (out = m.cons.take k) ∧ Fr B K32 ∧ OwnL 95 5 H28 K32 ConV v31 out ∧ Fr B H28 := hJ34
    change KC _ _ (K32 :: _) [sing b21 (.cells [v12, v31].toArray 26 (0, 0)), H28, sing b5 (.cells [.slice none 0 0, .slice none 0 0].toArray 26 (0, 0))] _ ([(17, .int .i64 (k : Int))] ++ _)
    refine kc_seq (kc_region (kl_lss rfl rfl ?_))
    refine kl_nil (kq_code (kc_seq (kc_if rfl (fun c35 => ?_) (fun c35 => ?_))))
    ·skip
     refine kc_skipQ (kq_code (kc_seq (kc_block (kc_seq (kc_region (kl_inC rfl rfl (by assumption) (by omega) (fun p36 u38 u39 u40 h41 h42 h43 a37 => ?_)))))))
     refine kl_ldS rfl (by assumption) rfl ?_
     refine kl_alloc (cs := [.int .i64 (0 : Int), .slice none 0 0, .slice none 0 0, .int .i64 (0 : Int), .slice none 0 0]) rfl (fun b44 hb45 => ?_)
     refine kl_stW (us := [.int .i64 ((m.cons.getD k nilCon).kind), u38, u39, .int .i64 ((m.cons.getD k nilCon).bound), u40]) rfl rfl rfl rfl (oc rfl (oc (Sl.oneCell (by assumption)) (oc (Sl.oneCell (by assumption)) (oc rfl (oc (Sl.oneCell (by assumption)) oc_nil))))) rfl ?_
     refine kl_chg [sing b44 (.cells [.int .i64 ((m.cons.getD k nilCon).kind), u38, u39, .int .i64 ((m.cons.getD k nilCon).bound), u40].toArray 95 (0, 0)), sing b21 (.cells [v12, v31].toArray 26 (0, 0)), H28, sing b5 (.cells [.slice none 0 0, .slice none 0 0].toArray 26 (0, 0))] rfl ?_
     refine kl_nil (kq_code (kc_tree (fun i => ([5, 7] : List Nat).contains i) [sing b44 (.cells [.int .i64 ((m.cons.getD k nilCon).kind), u38, u39, .int .i64 ((m.cons.getD k nilCon).bound), u40].toArray 95 (0, 0)), sing b21 (.cells [v12, v31].toArray 26 (0, 0))] (by kernel_rfl) ?_))
     refine kt_q 0 (.cons_cons _ (.cons_cons _ (List.nil_sublist _))) rfl (by kernel_rfl) (kl_fdV rfl (kl_nil (kq_q (kt_q 1 (.cons_cons _ (.cons_cons _ (List.nil_sublist _))) rfl (by kernel_rfl) (kl_ld rfl (at_box (T := 26) (cs := [v12, v31]) (off := 1) (fz := (0, 0))) (kl_nil (kq_q (kt_q 2 (.cons_cons _ (.cons_cons _ (List.nil_sublist _))) rfl (by kernel_rfl) (kl_ldS rfl (at_box (T := 95) (cs := [.int .i64 ((m.cons.getD k nilCon).kind), u38, u39, .int .i64 ((m.cons.getD k nilCon).bound), u40]) (off := 0) (fz := (0, 0))) rfl ?_)))))))))
     refine kl_nil (kq_q (kt_a 3 rfl (by kernel_rfl) (kl_call rfl rfl (copyConI_ok (m.cons.getD k nilCon) (h4 _ (getD_mem (by omega))) (by assumption) (by assumption) (by assumption)) (fun v46 H47 f48 h49 => ?_))))
     obtain ⟨_, rfl, h53⟩ := h49
     have h53' := h53
     obtain ⟨u50, u51, u52, rfl, h54, h55, h56⟩ := h53
     refine kl_nil (kq_a (.cons_cons _ (.cons_cons _ (List.nil_sublist _))) (kt_a 4 rfl (by kernel_rfl) (kl_bsK rfl (fun v57 H58 f59 r60 => ?_))))
     refine kl_nil (kq_a (.cons_cons _ (.cons_cons _ (List.nil_sublist _))) (kt_a 5 rfl (by kernel_rfl) (kl_cmp K32 H47 (fun c61 => ?_))))
     have o62 := OwnL.mono (K' := orHp K32 H47) o29 orL
     refine kl_apL (m.cons.getD k nilCon) rfl rfl o62 r60 (RMono.mono (orC c61) (by assumption)) (oc rfl (oc (Sl.oneCell (by assumption)) (oc (Sl.oneCell (by assumption)) (oc rfl (oc (Sl.oneCell (by assumption)) oc_nil))))) (by (have h9 := congrArg List.length hi27; simp at h9; omega)) (by decide) (fun v63 H64 o65 f66 => ?_)
     have f67 := f66 B f30 (Nat.le_refl _)
     refine kl_nil (kq_x rfl (kt_q 6 (.cons_cons _ (.cons_cons _ (List.nil_sublist _))) rfl (by kernel_rfl) (kl_fdV rfl (kl_nil (kq_q (kt_a 7 rfl (by kernel_rfl) (kl_stB rfl rfl rfl (OwnL.oneCell (by assumption)) (OwnL.cells (by assumption)) ?_)))))))
     refine kl_chg [sing b44 (.cells [.int .i64 ((m.cons.getD k nilCon).kind), u38, u39, .int .i64 ((m.cons.getD k nilCon).bound), u40].toArray 95 (0, 0)), sing b21 (.cells [v12, v63].toArray 26 (0, 0)), H64, sing b5 (.cells [.slice none 0 0, .slice none 0 0].toArray 26 (0, 0))] rfl ?_
     refine kl_nil (kq_x rfl (kt_end (by kernel_rfl) ?_))
     refine kq_code (kc_region (kl_inc rfl rfl (by omega) ?_))
     refine kl_mv rfl (kl_nil (kq_take [sing b21 (.cells [v12, v63].toArray 26 (0, 0)), H64, sing b5 (.cells [.slice none 0 0, .slice none 0 0].toArray 26 (0, 0))] ?_))
     refine kq_roundK ((k + 1), (out ++ [(m.cons.getD k nilCon)]), v63, H64, (orHp K32 H47)) (by omega) (⟨by omega, (by rw [hi27, take_succ_getD nilCon (by omega)]), (fr_or f33 f48), o65, f67⟩) (pc 17 rfl pn) (pc 2 rfl (pc 3 rfl (pc 15 rfl (pc 16 rfl pn)))) rfl (List.Sublist.refl _)
    ·skip
     refine kc_exit (kq_code (kc_seq (kc_region (kl_ldW rfl rfl (kl_stW (us := [v12, v31]) rfl rfl rfl rfl (oc (Sl.oneCell (by assumption)) (oc (OwnL.oneCell (by assumption)) oc_nil)) rfl ?_)))))
     refine kl_chg [sing b21 (.cells [v12, v31].toArray 26 (0, 0)), H28, sing b5 (.cells [v12, v31].toArray 26 (0, 0))] rfl ?_
     refine kl_nil (kq_code (kc_ret (kq_frz H28 ?_)))
     refine kq_cmp H28 K32 (fun c68 => ?_)
     refine kq_cmp H13 (orHp H28 K32) (fun c69 => ?_)
     exact kq_retC rfl rfl rfl (orHp H13 (orHp H28 K32)) (fr_or f14 (fr_or f30 f33)) ⟨_, _, rfl, (Sl.mono (by assumption) (fun b o h => orL b o h) (fun _ _ h => h)), (by have e9 : out = m.cons := (by rw [hi27, List.take_of_length_le (by omega)]); rw [← e9]; exact (Cons.mono' (OwnL.consK o29 c68) (fun b o h => orC c69 b o h)))⟩
   ·skip
    refine kl_alloc (cs := [.slice none 0 0, .slice none 0 0]) rfl (fun b70 hb71 => ?_)
    refine kl_nil (kq_a (List.nil_sublist _) (kt_a 7 rfl (by kernel_rfl) (kl_bd rfl (cp (Sl.cells (by assumption)) (cp (OwnL.cells (by assumption)) cp_nil)) rfl ?_)))
    refine kl_nil (kq_x rfl (kt_a 9 rfl (by kernel_rfl) (kl_stW (us := [v12, v17]) rfl rfl rfl rfl (oc (Sl.oneCell (by assumption)) (oc (OwnL.oneCell (by assumption)) oc_nil)) rfl ?_)))
    refine kl_chg [sing b70 (.cells [v12, v17].toArray 26 (0, 0)), H18, sing b5 (.cells [.slice none 0 0, .slice none 0 0].toArray 26 (0, 0))] rfl ?_
    refine kl_nil (kq_x rfl (kt_end (by kernel_rfl) ?_))
    refine kq_code (kc_seq (kc_seq (kc_region (kl_fd rfl (by assumption) (fun p72 a73 => ?_)))))
    refine kl_ld rfl (by assumption) (kl_len rfl (by assumption) (fun l74 => ?_))
    refine kl_mv rfl (kl_nil (kq_code (kc_block (kc_loopK (A := Nat × List Con × Value × Hp × Hp) (fun zz => (zz.1 ≤ m.cons.length) ∧ (zz.2.1 = m.cons.take zz.1) ∧ Fr B zz.2.2.2.2 ∧ OwnL 95 5 zz.2.2.2.1 zz.2.2.2.2 ConV zz.2.2.1 zz.2.1 ∧ Fr B zz.2.2.2.1) (fun zz => m.cons.length - zz.1) (fun zz => zz.2.2.2.2) (fun zz => [sing b70 (.cells [v12, zz.2.2.1].toArray 26 (0, 0)), zz.2.2.2.1, sing b5 (.cells [.slice none 0 0, .slice none 0 0].toArray 26 (0, 0))]) (fun zz => [(17, .int .i64 (zz.1 : Int))]) (0, ([]), v17, H18, noHp) (pc 2 rfl (pc 3 rfl (pc 15 rfl (pc 16 rfl pn)))) (pc 17 rfl pn) rfl ⟨Nat.zero_le _, rfl, (fr_no _), o20, f19⟩ ?_))))
    rintro ⟨k, out, v80, H77, K81⟩ hJ83
    obtain ⟨hk75, hi76, f82, o78, f79⟩ : (k ≤ m.cons.length) ∧ (out = m.cons.take k) ∧ Fr B K81 ∧ OwnL 95 5 H77 K81 ConV v80 out ∧ Fr B H77 := hJ83
    change KC _ _ (K81 :: _) [sing b70 (.cells [v12, v80].toArray 26 (0, 0)), H77, sing b5 (.cells [.slice none 0 0, .slice none 0 0].toArray 26 (0, 0))] _ ([(17, .int .i64 (k : Int))] ++ _)
    refine kc_seq (kc_region (kl_lss rfl rfl ?_))
    refine kl_nil (kq_code (kc_seq (kc_if rfl (fun c84 => ?_) (fun c84 => ?_))))
    ·skip
     refine kc_skipQ (kq_code (kc_seq (kc_block (kc_seq (kc_region (kl_inC rfl rfl (by assumption) (by omega) (fun p85 u87 u88 u89 h90 h91 h92 a86 => ?_)))))))
     refine kl_ldS rfl (by assumption) rfl ?_
     refine kl_alloc (cs := [.int .i64 (0 : Int), .slice none 0 0, .slice none 0 0, .int .i64 (0 : Int), .slice none 0 0]) rfl (fun b93 hb94 => ?_)
     refine kl_stW (us := [.int .i64 ((m.cons.getD k nilCon).kind), u87, u88, .int .i64 ((m.cons.getD k nilCon).bound), u89]) rfl rfl rfl rfl (oc rfl (oc (Sl.oneCell (by assumption)) (oc (Sl.oneCell (by assumption)) (oc rfl (oc (Sl.oneCell (by assumption)) oc_nil))))) rfl ?_
     refine kl_chg [sing b93 (.cells [.int .i64 ((m.cons.getD k nilCon).kind), u87, u88, .int .i64 ((m.cons.getD k nilCon).bound), u89].toArray 95 (0, 0)), sing b70 (.cells [v12, v80].toArray 26 (0, 0)), H77, sing b5 (.cells [.slice none 0 0, .slice none 0 0].toArray 26 (0, 0))] rfl ?_
     refine kl_nil (kq_code (kc_tree (fun i => ([5, 7] : List Nat).contains i) [sing b93 (.cells [.int .i64 ((m.cons.getD k nilCon).kind), u87, u88, .int .i64 ((m.cons.getD k nilCon).bound), u89].toArray 95 (0, 0)), sing b70 (.cells [v12, v80].toArray 26 (0, 0))] (by kernel_rfl) ?_))
     refine kt_q 0 (.cons_cons _ (.cons_cons _ (List.nil_sublist _))) rfl (by kernel_rfl) (kl_fdV rfl (kl_nil (kq_q (kt_q 1 (.cons_cons _ (.cons_cons _ (List.nil_sublist _))) rfl (by kernel_rfl) (kl_ld rfl (at_box (T := 26) (cs := [v12, v80]) (off := 1) (fz := (0, 0))) (kl_nil (kq_q (kt_q 2 (.cons_cons _ (.cons_cons _ (List.nil_sublist _))) rfl (by kernel_rfl) (kl_ldS rfl (at_box (T := 95) (cs := [.int .i64 ((m.cons.getD k nilCon).kind), u87, u88, .int .i64 ((m.cons.getD k nilCon).bound), u89]) (off := 0) (fz := (0, 0))) rfl ?_)))))))))
     refine kl_nil (kq_q (kt_a 3 rfl (by kernel_rfl) (kl_call rfl rfl (copyConI_ok (m.cons.getD k nilCon) (h4 _ (getD_mem (by omega))) (by assumption) (by assumption) (by assumption)) (fun v95 H96 f97 h98 => ?_))))
     obtain ⟨_, rfl, h102⟩ := h98
     have h102' := h102
     obtain ⟨u99, u100, u101, rfl, h103, h104, h105⟩ := h102
     refine kl_nil (kq_a (.cons_cons _ (.cons_cons _ (List.nil_sublist _))) (kt_a 4 rfl (by kernel_rfl) (kl_bsK rfl (fun v106 H107 f108 r109 => ?_))))
     refine kl_nil (kq_a (.cons_cons _ (.cons_cons _ (List.nil_sublist _))) (kt_a 5 rfl (by kernel_rfl) (kl_cmp K81 H96 (fun c110 => ?_))))
     have o111 := OwnL.mono (K' := orHp K81 H96) o78 orL
     refine kl_apL (m.cons.getD k nilCon) rfl rfl o111 r109 (RMono.mono (orC c110) (by assumption)) (oc rfl (oc (Sl.oneCell (by assumption)) (oc (Sl.oneCell (by assumption)) (oc rfl (oc (Sl.oneCell (by assumption)) oc_nil))))) (by (have h9 := congrArg List.length hi76; simp at h9; omega)) (by decide) (fun v112 H113 o114 f115 => ?_)
     have f116 := f115 B f79 (Nat.le_refl _)
     refine kl_nil (kq_x rfl (kt_q 6 (.cons_cons _ (.cons_cons _ (List.nil_sublist _))) rfl (by kernel_rfl) (kl_fdV rfl (kl_nil (kq_q (kt_a 7 rfl (by kernel_rfl) (kl_stB rfl rfl rfl (OwnL.oneCell (by assumption)) (OwnL.cells (by assumption)) ?_)))))))
     refine kl_chg [sing b93 (.cells [.int .i64 ((m.cons.getD k nilCon).kind), u87, u88, .int .i64 ((m.cons.getD k nilCon).bound), u89].toArray 95 (0, 0)), sing b70 (.cells [v12, v112].toArray 26 (0, 0)), H113, sing b5 (.cells [.slice none 0 0, .slice none 0 0].toArray 26 (0, 0))] rfl ?_
     refine kl_nil (kq_x rfl (kt_end (by kernel_rfl) ?_))
     refine kq_code (kc_region (kl_inc rfl rfl (by omega) ?_))
     refine kl_mv rfl (kl_nil (kq_take [sing b70 (.cells [v12, v112].toArray 26 (0, 0)), H113, sing b5 (.cells [.slice none 0 0, .slice none 0 0].toArray 26 (0, 0))] ?_))
     refine kq_roundK ((k + 1), (out ++ [(m.cons.getD k nilCon)]), v112, H113, (orHp K81 H96)) (by omega) (⟨by omega, (by rw [hi76, take_succ_getD nilCon (by omega)]), (fr_or f82 f97), o114, f116⟩) (pc 17 rfl pn) (pc 2 rfl (pc 3 rfl (pc 15 rfl (pc 16 rfl pn)))) rfl (List.Sublist.refl _)
    ·skip
     refine kc_exit (kq_code (kc_seq (kc_region (kl_ldW rfl rfl (kl_stW (us := [v12, v80]) rfl rfl rfl rfl (oc (Sl.oneCell (by assumption)) (oc (OwnL.oneCell (by assumption)) oc_nil)) rfl ?_)))))
     refine kl_chg [sing b70 (.cells [v12, v80].toArray 26 (0, 0)), H77, sing b5 (.cells [v12, v80].toArray 26 (0, 0))] rfl ?_
     refine kl_nil (kq_code (kc_ret (kq_frz H77 ?_)))
     refine kq_cmp H77 K81 (fun c117 => ?_)
     refine kq_cmp H13 (orHp H77 K81) (fun c118 => ?_)
     exact kq_retC rfl rfl rfl (orHp H13 (orHp H77 K81)) (fr_or f14 (fr_or f79 f82)) ⟨_, _, rfl, (Sl.mono (by assumption) (fun b o h => orL b o h) (fun _ _ h => h)), (by have e9 : out = m.cons := (by rw [hi76, List.take_of_length_le (by omega)]); rw [← e9]; exact (Cons.mono' (OwnL.consK o78 c117) (fun b o h => orC c118 b o h)))⟩
  ·skip
   refine kl_alloc (cs := [.slice none 0 0, .slice none 0 0]) rfl (fun b119 hb120 => ?_)
   refine kl_nil (kq_a (List.nil_sublist _) (kt_a 6 rfl (by kernel_rfl) (kl_mkL0 (R := ConV) rfl rfl (by omega) (by omega) (by decide) (fun v121 H122 f123 o124 => ?_))))
   refine kl_nil (kq_a (List.nil_sublist _) (kt_a 7 rfl (by kernel_rfl) (kl_bd rfl (cp (Sl.cells (by assumption)) (cp (OwnL.cells (by assumption)) cp_nil)) rfl ?_)))
   refine kl_nil (kq_x rfl (kt_a 9 rfl (by kernel_rfl) (kl_stW (us := [v12, v121]) rfl rfl rfl rfl (oc (Sl.oneCell (by assumption)) (oc (OwnL.oneCell (by assumption)) oc_nil)) rfl ?_)))
   refine kl_chg [H122, sing b119 (.cells [v12, v121].toArray 26 (0, 0)), sing b5 (.cells [.slice none 0 0, .slice none 0 0].toArray 26 (0, 0))] rfl ?_
   refine kl_nil (kq_x rfl (kt_end (by kernel_rfl) ?_))
   refine kq_code (kc_seq (kc_seq (kc_region (kl_fd rfl (by assumption) (fun p125 a126 => ?_)))))
   refine kl_ld rfl (by assumption) (kl_len rfl (by assumption) (fun l127 => ?_))
   refine kl_mv rfl (kl_nil (kq_code (kc_block (kc_loopK (A := Nat × List Con × Value × Hp × Hp) (fun zz => (zz.1 ≤ m.cons.length) ∧ (zz.2.1 = m.cons.take zz.1) ∧ Fr B zz.2.2.2.2 ∧ OwnL 95 5 zz.2.2.2.1 zz.2.2.2.2 ConV zz.2.2.1 zz.2.1 ∧ Fr B zz.2.2.2.1) (fun zz => m.cons.length - zz.1) (fun zz => zz.2.2.2.2) (fun zz => [zz.2.2.2.1, sing b119 (.cells [v12, zz.2.2.1].toArray 26 (0, 0)), sing b5 (.cells [.slice none 0 0, .slice none 0 0].toArray 26 (0, 0))]) (fun zz => [(17, .int .i64 (zz.1 : Int))]) (0, ([]), v121, H122, noHp) (pc 2 rfl (pc 3 rfl (pc 15 rfl (pc 16 rfl pn)))) (pc 17 rfl pn) rfl ⟨Nat.zero_le _, rfl, (fr_no _), o124, f123⟩ ?_))))
   rintro ⟨k, out, v133, H130, K134⟩ hJ136
   obtain ⟨hk128, hi129, f135, o131, f132⟩ : (k ≤ m.cons.length) ∧ (out = m.cons.take k) ∧ Fr B K134 ∧ OwnL 95 5 H130 K134 ConV v133 out ∧ Fr B H130 := hJ136
   change KC _ _ (K134 :: _) [H130, sing b119 (.cells [v12, v133].toArray 26 (0, 0)), sing b5 (.cells [.slice none 0 0, .slice none 0 0].toArray 26 (0, 0))] _ ([(17, .int .i64 (k : Int))] ++ _)
   refine kc_seq (kc_region (kl_lss rfl rfl ?_))
   refine kl_nil (kq_code (kc_seq (kc_if rfl (fun c137 => ?_) (fun c137 => ?_))))
   ·skip
    refine kc_skipQ (kq_code (kc_seq (kc_block (kc_seq (kc_region (kl_inC rfl rfl (by assumption) (by omega) (fun p138 u140 u141 u142 h143 h144 h145 a139 => ?_)))))))
    refine kl_ldS rfl (by assumption) rfl ?_
    refine kl_alloc (cs := [.int .i64 (0 : Int), .slice none 0 0, .slice none 0 0, .int .i64 (0 : Int), .slice none 0 0]) rfl (fun b146 hb147 => ?_)
    refine kl_stW (us := [.int .i64 ((m.cons.getD k nilCon).kind), u140, u141, .int .i64 ((m.cons.getD k nilCon).bound), u142]) rfl rfl rfl rfl (oc rfl (oc (Sl.oneCell (by assumption)) (oc (Sl.oneCell (by assumption)) (oc rfl (oc (Sl.oneCell (by assumption)) oc_nil))))) rfl ?_
    refine kl_chg [sing b146 (.cells [.int .i64 ((m.cons.getD k nilCon).kind), u140, u141, .int .i64 ((m.cons.getD k nilCon).bound), u142].toArray 95 (0, 0)), H130, sing b119 (.cells [v12, v133].toArray 26 (0, 0)), sing b5 (.cells [.slice none 0 0, .slice none 0 0].toArray 26 (0, 0))] rfl ?_
    refine kl_nil (kq_code (kc_tree (fun i => ([5, 7] : List Nat).contains i) [sing b146 (.cells [.int .i64 ((m.cons.getD k nilCon).kind), u140, u141, .int .i64 ((m.cons.getD k nilCon).bound), u142].toArray 95 (0, 0)), sing b119 (.cells [v12, v133].toArray 26 (0, 0))] (by kernel_rfl) ?_))
    refine kt_q 0 (.cons_cons _ (.cons _ (.cons_cons _ (List.nil_sublist _)))) rfl (by kernel_rfl) (kl_fdV rfl (kl_nil (kq_q (kt_q 1 (.cons_cons _ (.cons _ (.cons_cons _ (List.nil_sublist _)))) rfl (by kernel_rfl) (kl_ld rfl (at_box (T := 26) (cs := [v12, v133]) (off := 1) (fz := (0, 0))) (kl_nil (kq_q (kt_q 2 (.cons_cons _ (.cons _ (.cons_cons _ (List.nil_sublist _)))) rfl (by kernel_rfl) (kl_ldS rfl (at_box (T := 95) (cs := [.int .i64 ((m.cons.getD k nilCon).kind), u140, u141, .int .i64 ((m.cons.getD k nilCon).bound), u142]) (off := 0) (fz := (0, 0))) rfl ?_)))))))))
    refine kl_nil (kq_q (kt_a 3 rfl (by kernel_rfl) (kl_call rfl rfl (copyConI_ok (m.cons.getD k nilCon) (h4 _ (getD_mem (by omega))) (by assumption) (by assumption) (by assumption)) (fun v148 H149 f150 h151 => ?_))))
    obtain ⟨_, rfl, h155⟩ := h151
    have h155' := h155
    obtain ⟨u152, u153, u154, rfl, h156, h157, h158⟩ := h155
    refine kl_nil (kq_a (.cons_cons _ (.cons _ (.cons_cons _ (List.nil_sublist _)))) (kt_a 4 rfl (by kernel_rfl) (kl_bsK rfl (fun v159 H160 f161 r162 => ?_))))
    refine kl_nil (kq_a (.cons_cons _ (.cons _ (.cons_cons _ (List.nil_sublist _)))) (kt_a 5 rfl (by kernel_rfl) (kl_cmp K134 H149 (fun c163 => ?_))))
    have o164 := OwnL.mono (K' := orHp K134 H149) o131 orL
    refine kl_apL (m.cons.getD k nilCon) rfl rfl o164 r162 (RMono.mono (orC c163) (by assumption)) (oc rfl (oc (Sl.oneCell (by assumption)) (oc (Sl.oneCell (by assumption)) (oc rfl (oc (Sl.oneCell (by assumption)) oc_nil))))) (by (have h9 := congrArg List.length hi129; simp at h9; omega)) (by decide) (fun v165 H166 o167 f168 => ?_)
    have f169 := f168 B f132 (Nat.le_refl _)
    refine kl_nil (kq_x rfl (kt_q 6 (.cons_cons _ (.cons _ (.cons_cons _ (List.nil_sublist _)))) rfl (by kernel_rfl) (kl_fdV rfl (kl_nil (kq_q (kt_a 7 rfl (by kernel_rfl) (kl_stB rfl rfl rfl (OwnL.oneCell (by assumption)) (OwnL.cells (by assumption)) ?_)))))))
    refine kl_chg [sing b146 (.cells [.int .i64 ((m.cons.getD k nilCon).kind), u140, u141, .int .i64 ((m.cons.getD k nilCon).bound), u142].toArray 95 (0, 0)), H166, sing b119 (.cells [v12, v165].toArray 26 (0, 0)), sing b5 (.cells [.slice none 0 0, .slice none 0 0].toArray 26 (0, 0))] rfl ?_
    refine kl_nil (kq_x rfl (kt_end (by kernel_rfl) ?_))
    refine kq_code (kc_region (kl_inc rfl rfl (by omega) ?_))
    refine kl_mv rfl (kl_nil (kq_take [H166, sing b119 (.cells [v12, v165].toArray 26 (0, 0)), sing b5 (.cells [.slice none 0 0, .slice none 0 0].toArray 26 (0, 0))] ?_))
    refine kq_roundK ((k + 1), (out ++ [(m.cons.getD k nilCon)]), v165, H166, (orHp K134 H149)) (by omega) (⟨by omega, (by rw [hi129, take_succ_getD nilCon (by omega)]), (fr_or f135 f150), o167, f169⟩) (pc 17 rfl pn) (pc 2 rfl (pc 3 rfl (pc 15 rfl (pc 16 rfl pn)))) rfl (List.Sublist.refl _)
   ·skip
    refine kc_exit (kq_code (kc_seq (kc_region (kl_ldW rfl rfl (kl_stW (us := [v12, v133]) rfl rfl rfl rfl (oc (Sl.oneCell (by assumption)) (oc (OwnL.oneCell (by assumption)) oc_nil)) rfl ?_)))))
    refine kl_chg [H130, sing b119 (.cells [v12, v133].toArray 26 (0, 0)), sing b5 (.cells [v12, v133].toArray 26 (0, 0))] rfl ?_
    refine kl_nil (kq_code (kc_ret (kq_frz H130 ?_)))
    refine kq_cmp H130 K134 (fun c170 => ?_)
    refine kq_cmp H13 (orHp H130 K134) (fun c171 => ?_)
    exact kq_retC rfl rfl rfl (orHp H13 (orHp H130 K134)) (fr_or f14 (fr_or f132 f135)) ⟨_, _, rfl, (Sl.mono (by assumption) (fun b o h => orL b o h) (fun _ _ h => h)), (by have e9 : out = m.cons := (by rw [hi129, List.take_of_length_le (by omega)]); rw [← e9]; exact (Cons.mono' (OwnL.consK o131 c170) (fun b o h => orC c171 b o h)))⟩
 ·skip
  refine kl_mkL0 (R := ConV) rfl rfl (by omega) (by omega) (by decide) (fun v172 H173 f174 o175 => ?_)
  refine kl_nil (kq_a (List.nil_sublist _) (kt_b 2 8 rfl rfl (by kernel_rfl) ?_ ?_))
  ·skip
   refine kl_call rfl rfl (copied_ok m.doms (by omega) (by assumption)) (fun v176 H177 f178 o179 => ?_)
   have h180 := OwnL.ints o179
   refine kl_nil (kq_a (List.nil_sublist _) (kt_b 7 8 rfl rfl (by kernel_rfl) ?_ ?_))
   ·skip
    refine kl_bd rfl (cp (Sl.cells (by assumption)) (cp (OwnL.cells (by assumption)) cp_nil)) rfl ?_
    refine kl_nil (kq_x rfl (kt_a 8 rfl (by kernel_rfl) (kl_alloc (cs := [.slice none 0 0, .slice none 0 0]) rfl (fun b181 hb182 => ?_))))
    refine kl_nil (kq_a (List.nil_sublist _) (kt_a 9 rfl (by kernel_rfl) (kl_stW (us := [v176, v172]) rfl rfl rfl rfl (oc (Sl.oneCell (by assumption)) (oc (OwnL.oneCell (by assumption)) oc_nil)) rfl ?_)))
    refine kl_chg [sing b181 (.cells [v176, v172].toArray 26 (0, 0)), H173, sing b5 (.cells [.slice none 0 0, .slice none 0 0].toArray 26 (0, 0))] rfl ?_
    refine kl_nil (kq_x rfl (kt_end (by kernel_rfl) ?_))
    refine kq_code (kc_seq (kc_seq (kc_region (kl_fd rfl (by assumption) (fun p183 a184 => ?_)))))
    refine kl_ld rfl (by assumption) (kl_len rfl (by assumption) (fun l185 => ?_))
    refine kl_mv rfl (kl_nil (kq_code (kc_block (kc_loopK (A := Nat × List Con × Value × Hp × Hp) (fun zz => (zz.1 ≤ m.cons.length) ∧ (zz.2.1 = m.cons.take zz.1) ∧ Fr B zz.2.2.2.2 ∧ OwnL 95 5 zz.2.2.2.1 zz.2.2.2.2 ConV zz.2.2.1 zz.2.1 ∧ Fr B zz.2.2.2.1) (fun zz => m.cons.length - zz.1) (fun zz => zz.2.2.2.2) (fun zz => [sing b181 (.cells [v176, zz.2.2.1].toArray 26 (0, 0)), zz.2.2.2.1, sing b5 (.cells [.slice none 0 0, .slice none 0 0].toArray 26 (0, 0))]) (fun zz => [(17, .int .i64 (zz.1 : Int))]) (0, ([]), v172, H173, noHp) (pc 2 rfl (pc 3 rfl (pc 15 rfl (pc 16 rfl pn)))) (pc 17 rfl pn) rfl ⟨Nat.zero_le _, rfl, (fr_no _), o175, f174⟩ ?_))))
    rintro ⟨k, out, v191, H188, K192⟩ hJ194
    obtain ⟨hk186, hi187, f193, o189, f190⟩ : (k ≤ m.cons.length) ∧ (out = m.cons.take k) ∧ Fr B K192 ∧ OwnL 95 5 H188 K192 ConV v191 out ∧ Fr B H188 := hJ194
    change KC _ _ (K192 :: _) [sing b181 (.cells [v176, v191].toArray 26 (0, 0)), H188, sing b5 (.cells [.slice none 0 0, .slice none 0 0].toArray 26 (0, 0))] _ ([(17, .int .i64 (k : Int))] ++ _)
    refine kc_seq (kc_region (kl_lss rfl rfl ?_))
    refine kl_nil (kq_code (kc_seq (kc_if rfl (fun c195 => ?_) (fun c195 => ?_))))
    ·skip
     refine kc_skipQ (kq_code (kc_seq (kc_block (kc_seq (kc_region (kl_inC rfl rfl (by assumption) (by omega) (fun p196 u198 u199 u200 h201 h202 h203 a197 => ?_)))))))
     refine kl_ldS rfl (by assumption) rfl ?_
     refine kl_alloc (cs := [.int .i64 (0 : Int), .slice none 0 0, .slice none 0 0, .int .i64 (0 : Int), .slice none 0 0]) rfl (fun b204 hb205 => ?_)
     refine kl_stW (us := [.int .i64 ((m.cons.getD k nilCon).kind), u198, u199, .int .i64 ((m.cons.getD k nilCon).bound), u200]) rfl rfl rfl rfl (oc rfl (oc (Sl.oneCell (by assumption)) (oc (Sl.oneCell (by assumption)) (oc rfl (oc (Sl.oneCell (by assumption)) oc_nil))))) rfl ?_
     refine kl_chg [sing b204 (.cells [.int .i64 ((m.cons.getD k nilCon).kind), u198, u199, .int .i64 ((m.cons.getD k nilCon).bound), u200].toArray 95 (0, 0)), sing b181 (.cells [v176, v191].toArray 26 (0, 0)), H188, sing b5 (.cells [.slice none 0 0, .slice none 0 0].toArray 26 (0, 0))] rfl ?_
     refine kl_nil (kq_code (kc_tree (fun i => ([5, 7] : List Nat).contains i) [sing b204 (.cells [.int .i64 ((m.cons.getD k nilCon).kind), u198, u199, .int .i64 ((m.cons.getD k nilCon).bound), u200].toArray 95 (0, 0)), sing b181 (.cells [v176, v191].toArray 26 (0, 0))] (by kernel_rfl) ?_))
     refine kt_q 0 (.cons_cons _ (.cons_cons _ (List.nil_sublist _))) rfl (by kernel_rfl) (kl_fdV rfl (kl_nil (kq_q (kt_q 1 (.cons_cons _ (.cons_cons _ (List.nil_sublist _))) rfl (by kernel_rfl) (kl_ld rfl (at_box (T := 26) (cs := [v176, v191]) (off := 1) (fz := (0, 0))) (kl_nil (kq_q (kt_q 2 (.cons_cons _ (.cons_cons _ (List.nil_sublist _))) rfl (by kernel_rfl) (kl_ldS rfl (at_box (T := 95) (cs := [.int .i64 ((m.cons.getD k nilCon).kind), u198, u199, .int .i64 ((m.cons.getD k nilCon).bound), u200]) (off := 0) (fz := (0, 0))) rfl ?_)))))))))
     refine kl_nil (kq_q (kt_a 3 rfl (by kernel_rfl) (kl_call rfl rfl (copyConI_ok (m.cons.getD k nilCon) (h4 _ (getD_mem (by omega))) (by assumption) (by assumption) (by assumption)) (fun v206 H207 f208 h209 => ?_))))
     obtain ⟨_, rfl, h213⟩ := h209
     have h213' := h213
     obtain ⟨u210, u211, u212, rfl, h214, h215, h216⟩ := h213
     refine kl_nil (kq_a (.cons_cons _ (.cons_cons _ (List.nil_sublist _))) (kt_a 4 rfl (by kernel_rfl) (kl_bsK rfl (fun v217 H218 f219 r220 => ?_))))
     refine kl_nil (kq_a (.cons_cons _ (.cons_cons _ (List.nil_sublist _))) (kt_a 5 rfl (by kernel_rfl) (kl_cmp K192 H207 (fun c221 => ?_))))
     have o222 := OwnL.mono (K' := orHp K192 H207) o189 orL
     refine kl_apL (m.cons.getD k nilCon) rfl rfl o222 r220 (RMono.mono (orC c221) (by assumption)) (oc rfl (oc (Sl.oneCell (by assumption)) (oc (Sl.oneCell (by assumption)) (oc rfl (oc (Sl.oneCell (by assumption)) oc_nil))))) (by (have h9 := congrArg List.length hi187; simp at h9; omega)) (by decide) (fun v223 H224 o225 f226 => ?_)
     have f227 := f226 B f190 (Nat.le_refl _)
     refine kl_nil (kq_x rfl (kt_q 6 (.cons_cons _ (.cons_cons _ (List.nil_sublist _))) rfl (by kernel_rfl) (kl_fdV rfl (kl_nil (kq_q (kt_a 7 rfl (by kernel_rfl) (kl_stB rfl rfl rfl (OwnL.oneCell (by assumption)) (OwnL.cells (by assumption)) ?_)))))))
     refine kl_chg [sing b204 (.cells [.int .i64 ((m.cons.getD k nilCon).kind), u198, u199, .int .i64 ((m.cons.getD k nilCon).bound), u200].toArray 95 (0, 0)), sing b181 (.cells [v176, v223].toArray 26 (0, 0)), H224, sing b5 (.cells [.slice none 0 0, .slice none 0 0].toArray 26 (0, 0))] rfl ?_
     refine kl_nil (kq_x rfl (kt_end (by kernel_rfl) ?_))
     refine kq_code (kc_region (kl_inc rfl rfl (by omega) ?_))
     refine kl_mv rfl (kl_nil (kq_take [sing b181 (.cells [v176, v223].toArray 26 (0, 0)), H224, sing b5 (.cells [.slice none 0 0, .slice none 0 0].toArray 26 (0, 0))] ?_))
     refine kq_roundK ((k + 1), (out ++ [(m.cons.getD k nilCon)]), v223, H224, (orHp K192 H207)) (by omega) (⟨by omega, (by rw [hi187, take_succ_getD nilCon (by omega)]), (fr_or f193 f208), o225, f227⟩) (pc 17 rfl pn) (pc 2 rfl (pc 3 rfl (pc 15 rfl (pc 16 rfl pn)))) rfl (List.Sublist.refl _)
    ·skip
     refine kc_exit (kq_code (kc_seq (kc_region (kl_ldW rfl rfl (kl_stW (us := [v176, v191]) rfl rfl rfl rfl (oc (Sl.oneCell (by assumption)) (oc (OwnL.oneCell (by assumption)) oc_nil)) rfl ?_)))))
     refine kl_chg [sing b181 (.cells [v176, v191].toArray 26 (0, 0)), H188, sing b5 (.cells [v176, v191].toArray 26 (0, 0))] rfl ?_
     refine kl_nil (kq_code (kc_ret (kq_frz H188 ?_)))
     refine kq_cmp H188 K192 (fun c228 => ?_)
     refine kq_cmp H177 (orHp H188 K192) (fun c229 => ?_)
     exact kq_retC rfl rfl rfl (orHp H177 (orHp H188 K192)) (fr_or f178 (fr_or f190 f193)) ⟨_, _, rfl, (Sl.mono (by assumption) (fun b o h => orL b o h) (fun _ _ h => h)), (by have e9 : out = m.cons := (by rw [hi187, List.take_of_length_le (by omega)]); rw [← e9]; exact (Cons.mono' (OwnL.consK o189 c228) (fun b o h => orC c229 b o h)))⟩
   ·skip
    refine kl_alloc (cs := [.slice none 0 0, .slice none 0 0]) rfl (fun b230 hb231 => ?_)
    refine kl_nil (kq_a (List.nil_sublist _) (kt_a 7 rfl (by kernel_rfl) (kl_bd rfl (cp (Sl.cells (by assumption)) (cp (OwnL.cells (by assumption)) cp_nil)) rfl ?_)))
    refine kl_nil (kq_x rfl (kt_a 9 rfl (by kernel_rfl) (kl_stW (us := [v176, v172]) rfl rfl rfl rfl (oc (Sl.oneCell (by assumption)) (oc (OwnL.oneCell (by assumption)) oc_nil)) rfl ?_)))
    refine kl_chg [sing b230 (.cells [v176, v172].toArray 26 (0, 0)), H173, sing b5 (.cells [.slice none 0 0, .slice none 0 0].toArray 26 (0, 0))] rfl ?_
    refine kl_nil (kq_x rfl (kt_end (by kernel_rfl) ?_))
    refine kq_code (kc_seq (kc_seq (kc_region (kl_fd rfl (by assumption) (fun p232 a233 => ?_)))))
    refine kl_ld rfl (by assumption) (kl_len rfl (by assumption) (fun l234 => ?_))
    refine kl_mv rfl (kl_nil (kq_code (kc_block (kc_loopK (A := Nat × List Con × Value × Hp × Hp) (fun zz => (zz.1 ≤ m.cons.length) ∧ (zz.2.1 = m.cons.take zz.1) ∧ Fr B zz.2.2.2.2 ∧ OwnL 95 5 zz.2.2.2.1 zz.2.2.2.2 ConV zz.2.2.1 zz.2.1 ∧ Fr B zz.2.2.2.1) (fun zz => m.cons.length - zz.1) (fun zz => zz.2.2.2.2) (fun zz => [sing b230 (.cells [v176, zz.2.2.1].toArray 26 (0, 0)), zz.2.2.2.1, sing b5 (.cells [.slice none 0 0, .slice none 0 0].toArray 26 (0, 0))]) (fun zz => [(17, .int .i64 (zz.1 : Int))]) (0, ([]), v172, H173, noHp) (pc 2 rfl (pc 3 rfl (pc 15 rfl (pc 16 rfl pn)))) (pc 17 rfl pn) rfl ⟨Nat.zero_le _, rfl, (fr_no _), o175, f174⟩ ?_))))
    rintro ⟨k, out, v240, H237, K241⟩ hJ243
    obtain ⟨hk235, hi236, f242, o238, f239⟩ : (k ≤ m.cons.length) ∧ (out = m.cons.take k) ∧ Fr B K241 ∧ OwnL 95 5 H237 K241 ConV v240 out ∧ Fr B H237 := hJ243
    change KC _ _ (K241 :: _) [sing b230 (.cells [v176, v240].toArray 26 (0, 0)), H237, sing b5 (.cells [.slice none 0 0, .slice none 0 0].toArray 26 (0, 0))] _ ([(17, .int .i64 (k : Int))] ++ _)
    refine kc_seq (kc_region (kl_lss rfl rfl ?_))
    refine kl_nil (kq_code (kc_seq (kc_if rfl (fun c244 => ?_) (fun c244 => ?_))))
    ·skip
     refine kc_skipQ (kq_code (kc_seq (kc_block (kc_seq (kc_region (kl_inC rfl rfl (by assumption) (by omega) (fun p245 u247 u248 u249 h250 h251 h252 a246 => ?_)))))))
     refine kl_ldS rfl (by assumption) rfl ?_
     refine kl_alloc (cs := [.int .i64 (0 : Int), .slice none 0 0, .slice none 0 0, .int .i64 (0 : Int), .slice none 0 0]) rfl (fun b253 hb254 => ?_)
     refine kl_stW (us := [.int .i64 ((m.cons.getD k nilCon).kind), u247, u248, .int .i64 ((m.cons.getD k nilCon).bound), u249]) rfl rfl rfl rfl (oc rfl (oc (Sl.oneCell (by assumption)) (oc (Sl.oneCell (by assumption)) (oc rfl (oc (Sl.oneCell (by assumption)) oc_nil))))) rfl ?_
     refine kl_chg [sing b253 (.cells [.int .i64 ((m.cons.getD k nilCon).kind), u247, u248, .int .i64 ((m.cons.getD k nilCon).bound), u249].toArray 95 (0, 0)), sing b230 (.cells [v176, v240].toArray 26 (0, 0)), H237, sing b5 (.cells [.slice none 0 0, .slice none 0 0].toArray 26 (0, 0))] rfl ?_
     refine kl_nil (kq_code (kc_tree (fun i => ([5, 7] : List Nat).contains i) [sing b253 (.cells [.int .i64 ((m.cons.getD k nilCon).kind), u247, u248, .int .i64 ((m.cons.getD k nilCon).bound), u249].toArray 95 (0, 0)), sing b230 (.cells [v176, v240].toArray 26 (0, 0))] (by kernel_rfl) ?_))
     refine kt_q 0 (.cons_cons _ (.cons_cons _ (List.nil_sublist _))) rfl (by kernel_rfl) (kl_fdV rfl (kl_nil (kq_q (kt_q 1 (.cons_cons _ (.cons_cons _ (List.nil_sublist _))) rfl (by kernel_rfl) (kl_ld rfl (at_box (T := 26) (cs := [v176, v240]) (off := 1) (fz := (0, 0))) (kl_nil (kq_q (kt_q 2 (.cons_cons _ (.cons_cons _ (List.nil_sublist _))) rfl (by kernel_rfl) (kl_ldS rfl (at_box (T := 95) (cs := [.int .i64 ((m.cons.getD k nilCon).kind), u247, u248, .int .i64 ((m.cons.getD k nilCon).bound), u249]) (off := 0) (fz := (0, 0))) rfl ?_)))))))))
     refine kl_nil (kq_q (kt_a 3 rfl (by kernel_rfl) (kl_call rfl rfl (copyConI_ok (m.cons.getD k nilCon) (h4 _ (getD_mem (by omega))) (by assumption) (by assumption) (by assumption)) (fun v255 H256 f257 h258 => ?_))))
     obtain ⟨_, rfl, h262⟩ := h258
     have h262' := h262
     obtain ⟨u259, u260, u261, rfl, h263, h264, h265⟩ := h262
     refine kl_nil (kq_a (.cons_cons _ (.cons_cons _ (List.nil_sublist _))) (kt_a 4 rfl (by kernel_rfl) (kl_bsK rfl (fun v266 H267 f268 r269 => ?_))))
     refine kl_nil (kq_a (.cons_cons _ (.cons_cons _ (List.nil_sublist _))) (kt_a 5 rfl (by kernel_rfl) (kl_cmp K241 H256 (fun c270 => ?_))))
     have o271 := OwnL.mono (K' := orHp K241 H256) o238 orL
     refine kl_apL (m.cons.getD k nilCon) rfl rfl o271 r269 (RMono.mono (orC c270) (by assumption)) (oc rfl (oc (Sl.oneCell (by assumption)) (oc (Sl.oneCell (by assumption)) (oc rfl (oc (Sl.oneCell (by assumption)) oc_nil))))) (by (have h9 := congrArg List.length hi236; simp at h9; omega)) (by decide) (fun v272 H273 o274 f275 => ?_)
     have f276 := f275 B f239 (Nat.le_refl _)
     refine kl_nil (kq_x rfl (kt_q 6 (.cons_cons _ (.cons_cons _ (List.nil_sublist _))) rfl (by kernel_rfl) (kl_fdV rfl (kl_nil (kq_q (kt_a 7 rfl (by kernel_rfl) (kl_stB rfl rfl rfl (OwnL.oneCell (by assumption)) (OwnL.cells (by assumption)) ?_)))))))
     refine kl_chg [sing b253 (.cells [.int .i64 ((m.cons.getD k nilCon).kind), u247, u248, .int .i64 ((m.cons.getD k nilCon).bound), u249].toArray 95 (0, 0)), sing b230 (.cells [v176, v272].toArray 26 (0, 0)), H273, sing b5 (.cells [.slice none 0 0, .slice none 0 0].toArray 26 (0, 0))] rfl ?_
     refine kl_nil (kq_x rfl (kt_end (by kernel_rfl) ?_))
     refine kq_code (kc_region (kl_inc rfl rfl (by omega) ?_))
     refine kl_mv rfl (kl_nil (kq_take [sing b230 (.cells [v176, v272].toArray 26 (0, 0)), H273, sing b5 (.cells [.slice none 0 0, .slice none 0 0].toArray 26 (0, 0))] ?_))
     refine kq_roundK ((k + 1), (out ++ [(m.cons.getD k nilCon)]), v272, H273, (orHp K241 H256)) (by omega) (⟨by omega, (by rw [hi236, take_succ_getD nilCon (by omega)]), (fr_or f242 f257), o274, f276⟩) (pc 17 rfl pn) (pc 2 rfl (pc 3 rfl (pc 15 rfl (pc 16 rfl pn)))) rfl (List.Sublist.refl _)
    ·skip
     refine kc_exit (kq_code (kc_seq (kc_region (kl_ldW rfl rfl (kl_stW (us := [v176, v240]) rfl rfl rfl rfl (oc (Sl.oneCell (by assumption)) (oc (OwnL.oneCell (by assumption)) oc_nil)) rfl ?_)))))
     refine kl_chg [sing b230 (.cells [v176, v240].toArray 26 (0, 0)), H237, sing b5 (.cells [v176, v240].toArray 26 (0, 0))] rfl ?_
     refine kl_nil (kq_code (kc_ret (kq_frz H237 ?_)))
     refine kq_cmp H237 K241 (fun c277 => ?_)
     refine kq_cmp H177 (orHp H237 K241) (fun c278 => ?_)
     exact kq_retC rfl rfl rfl (orHp H177 (orHp H237 K241)) (fr_or f178 (fr_or f239 f242)) ⟨_, _, rfl, (Sl.mono (by assumption) (fun b o h => orL b o h) (fun _ _ h => h)), (by have e9 : out = m.cons := (by rw [hi236, List.take_of_length_le (by omega)]); rw [← e9]; exact (Cons.mono' (OwnL.consK o238 c277) (fun b o h => orC c278 b o h)))⟩
  ·skip
   refine kl_alloc (cs := [.slice none 0 0, .slice none 0 0]) rfl (fun b279 hb280 => ?_)
   refine kl_nil (kq_a (List.nil_sublist _) (kt_a 2 rfl (by kernel_rfl) (kl_call rfl rfl (copied_ok m.doms (by omega) (by assumption)) (fun v281 H282 f283 o284 => ?_))))
   have h285 := OwnL.ints o284
   refine kl_nil (kq_a (List.nil_sublist _) (kt_a 7 rfl (by kernel_rfl) (kl_bd rfl (cp (Sl.cells (by assumption)) (cp (OwnL.cells (by assumption)) cp_nil)) rfl ?_)))
   refine kl_nil (kq_x rfl (kt_a 9 rfl (by kernel_rfl) (kl_stW (us := [v281, v172]) rfl rfl rfl rfl (oc (Sl.oneCell (by assumption)) (oc (OwnL.oneCell (by assumption)) oc_nil)) rfl ?_)))
   refine kl_chg [sing b279 (.cells [v281, v172].toArray 26 (0, 0)), H173, sing b5 (.cells [.slice none 0 0, .slice none 0 0].toArray 26 (0, 0))] rfl ?_
   refine kl_nil (kq_x rfl (kt_end (by kernel_rfl) ?_))
   refine kq_code (kc_seq (kc_seq (kc_region (kl_fd rfl (by assumption) (fun p286 a287 => ?_)))))
   refine kl_ld rfl (by assumption) (kl_len rfl (by assumption) (fun l288 => ?_))
   refine kl_mv rfl (kl_nil (kq_code (kc_block (kc_loopK (A := Nat × List Con × Value × Hp × Hp) (fun zz => (zz.1 ≤ m.cons.length) ∧ (zz.2.1 = m.cons.take zz.1) ∧ Fr B zz.2.2.2.2 ∧ OwnL 95 5 zz.2.2.2.1 zz.2.2.2.2 ConV zz.2.2.1 zz.2.1 ∧ Fr B zz.2.2.2.1) (fun zz => m.cons.length - zz.1) (fun zz => zz.2.2.2.2) (fun zz => [sing b279 (.cells [v281, zz.2.2.1].toArray 26 (0, 0)), zz.2.2.2.1, sing b5 (.cells [.slice none 0 0, .slice none 0 0].toArray 26 (0, 0))]) (fun zz => [(17, .int .i64 (zz.1 : Int))]) (0, ([]), v172, H173, noHp) (pc 2 rfl (pc 3 rfl (pc 15 rfl (pc 16 rfl pn)))) (pc 17 rfl pn) rfl ⟨Nat.zero_le _, rfl, (fr_no _), o175, f174⟩ ?_))))
   rintro ⟨k, out, v294, H291, K295⟩ hJ297
   obtain ⟨hk289, hi290, f296, o292, f293⟩ : (k ≤ m.cons.length) ∧ (out = m.cons.take k) ∧ Fr B K295 ∧ OwnL 95 5 H291 K295 ConV v294 out ∧ Fr B H291 := hJ297
   change KC _ _ (K295 :: _) [sing b279 (.cells [v281, v294].toArray 26 (0, 0)), H291, sing b5 (.cells [.slice none 0 0, .slice none 0 0].toArray 26 (0, 0))] _ ([(17, .int .i64 (k : Int))] ++ _)
   refine kc_seq (kc_region (kl_lss rfl rfl ?_))
   refine kl_nil (kq_code (kc_seq (kc_if rfl (fun c298 => ?_) (fun c298 => ?_))))
   ·skip
    refine kc_skipQ (kq_code (kc_seq (kc_block (kc_seq (kc_region (kl_inC rfl rfl (by assumption) (by omega) (fun p299 u301 u302 u303 h304 h305 h306 a300 => ?_)))))))
    refine kl_ldS rfl (by assumption) rfl ?_
    refine kl_alloc (cs := [.int .i64 (0 : Int), .slice none 0 0, .slice none 0 0, .int .i64 (0 : Int), .slice none 0 0]) rfl (fun b307 hb308 => ?_)
    refine kl_stW (us := [.int .i64 ((m.cons.getD k nilCon).kind), u301, u302, .int .i64 ((m.cons.getD k nilCon).bound), u303]) rfl rfl rfl rfl (oc rfl (oc (Sl.oneCell (by assumption)) (oc (Sl.oneCell (by assumption)) (oc rfl (oc (Sl.oneCell (by assumption)) oc_nil))))) rfl ?_
    refine kl_chg [sing b307 (.cells [.int .i64 ((m.cons.getD k nilCon).kind), u301, u302, .int .i64 ((m.cons.getD k nilCon).bound), u303].toArray 95 (0, 0)), sing b279 (.cells [v281, v294].toArray 26 (0, 0)), H291, sing b5 (.cells [.slice none 0 0, .slice none 0 0].toArray 26 (0, 0))] rfl ?_
    refine kl_nil (kq_code (kc_tree (fun i => ([5, 7] : List Nat).contains i) [sing b307 (.cells [.int .i64 ((m.cons.getD k nilCon).kind), u301, u302, .int .i64 ((m.cons.getD k nilCon).bound), u303].toArray 95 (0, 0)), sing b279 (.cells [v281, v294].toArray 26 (0, 0))] (by kernel_rfl) ?_))
    refine kt_q 0 (.cons_cons _ (.cons_cons _ (List.nil_sublist _))) rfl (by kernel_rfl) (kl_fdV rfl (kl_nil (kq_q (kt_q 1 (.cons_cons _ (.cons_cons _ (List.nil_sublist _))) rfl (by kernel_rfl) (kl_ld rfl (at_box (T := 26) (cs := [v281, v294]) (off := 1) (fz := (0, 0))) (kl_nil (kq_q (kt_q 2 (.cons_cons _ (.cons_cons _ (List.nil_sublist _))) rfl (by kernel_rfl) (kl_ldS rfl (at_box (T := 95) (cs := [.int .i64 ((m.cons.getD k nilCon).kind), u301, u302, .int .i64 ((m.cons.getD k nilCon).bound), u303]) (off := 0) (fz := (0, 0))) rfl ?_)))))))))
    refine kl_nil (kq_q (kt_a 3 rfl (by kernel_rfl) (kl_call rfl rfl (copyConI_ok (m.cons.getD k nilCon) (h4 _ (getD_mem (by omega))) (by assumption) (by assumption) (by assumption)) (fun v309 H310 f311 h312 => ?_))))
    obtain ⟨_, rfl, h316⟩ := h312
    have h316' := h316
    obtain ⟨u313, u314, u315, rfl, h317, h318, h319⟩ := h316
    refine kl_nil (kq_a (.cons_cons _ (.cons_cons _ (List.nil_sublist _))) (kt_a 4 rfl (by kernel_rfl) (kl_bsK rfl (fun v320 H321 f322 r323 => ?_))))
    refine kl_nil (kq_a (.cons_cons _ (.cons_cons _ (List.nil_sublist _))) (kt_a 5 rfl (by kernel_rfl) (kl_cmp K295 H310 (fun c324 => ?_))))
    have o325 := OwnL.mono (K' := orHp K295 H310) o292 orL
    refine kl_apL (m.cons.getD k nilCon) rfl rfl o325 r323 (RMono.mono (orC c324) (by assumption)) (oc rfl (oc (Sl.oneCell (by assumption)) (oc (Sl.oneCell (by assumption)) (oc rfl (oc (Sl.oneCell (by assumption)) oc_nil))))) (by (have h9 := congrArg List.length hi290; simp at h9; omega)) (by decide) (fun v326 H327 o328 f329 => ?_)
    have f330 := f329 B f293 (Nat.le_refl _)
    refine kl_nil (kq_x rfl (kt_q 6 (.cons_cons _ (.cons_cons _ (List.nil_sublist _))) rfl (by kernel_rfl) (kl_fdV rfl (kl_nil (kq_q (kt_a 7 rfl (by kernel_rfl) (kl_stB rfl rfl rfl (OwnL.oneCell (by assumption)) (OwnL.cells (by assumption)) ?_)))))))
    refine kl_chg [sing b307 (.cells [.int .i64 ((m.cons.getD k nilCon).kind), u301, u302, .int .i64 ((m.cons.getD k nilCon).bound), u303].toArray 95 (0, 0)), sing b279 (.cells [v281, v326].toArray 26 (0, 0)), H327, sing b5 (.cells [.slice none 0 0, .slice none 0 0].toArray 26 (0, 0))] rfl ?_
    refine kl_nil (kq_x rfl (kt_end (by kernel_rfl) ?_))
    refine kq_code (kc_region (kl_inc rfl rfl (by omega) ?_))
    refine kl_mv rfl (kl_nil (kq_take [sing b279 (.cells [v281, v326].toArray 26 (0, 0)), H327, sing b5 (.cells [.slice none 0 0, .slice none 0 0].toArray 26 (0, 0))] ?_))
    refine kq_roundK ((k + 1), (out ++ [(m.cons.getD k nilCon)]), v326, H327, (orHp K295 H310)) (by omega) (⟨by omega, (by rw [hi290, take_succ_getD nilCon (by omega)]), (fr_or f296 f311), o328, f330⟩) (pc 17 rfl pn) (pc 2 rfl (pc 3 rfl (pc 15 rfl (pc 16 rfl pn)))) rfl (List.Sublist.refl _)
   ·skip
    refine kc_exit (kq_code (kc_seq (kc_region (kl_ldW rfl rfl (kl_stW (us := [v281, v294]) rfl rfl rfl rfl (oc (Sl.oneCell (by assumption)) (oc (OwnL.oneCell (by assumption)) oc_nil)) rfl ?_)))))
    refine kl_chg [sing b279 (.cells [v281, v294].toArray 26 (0, 0)), H291, sing b5 (.cells [v281, v294].toArray 26 (0, 0))] rfl ?_
    refine kl_nil (kq_code (kc_ret (kq_frz H291 ?_)))
    refine kq_cmp H291 K295 (fun c331 => ?_)
    refine kq_cmp H282 (orHp H291 K295) (fun c332 => ?_)
    exact kq_retC rfl rfl rfl (orHp H282 (orHp H291 K295)) (fr_or f283 (fr_or f293 f296)) ⟨_, _, rfl, (Sl.mono (by assumption) (fun b o h => orL b o h) (fun _ _ h => h)), (by have e9 : out = m.cons := (by rw [hi290, List.take_of_length_le (by omega)]); rw [← e9]; exact (Cons.mono' (OwnL.consK o292 c331) (fun b o h => orC c332 b o h)))⟩
 ·skip
  refine kl_alloc (cs := [.slice none 0 0, .slice none 0 0]) rfl (fun b333 hb334 => ?_)
  refine kl_nil (kq_a (List.nil_sublist _) (kt_b 2 6 rfl rfl (by kernel_rfl) ?_ ?_))
  ·skip
   refine kl_call rfl rfl (copied_ok m.doms (by omega) (by assumption)) (fun v335 H336 f337 o338 => ?_)
   have h339 := OwnL.ints o338
   refine kl_nil (kq_a (List.nil_sublist _) (kt_a 6 rfl (by kernel_rfl) (kl_mkL0 (R := ConV) rfl rfl (by omega) (by omega) (by decide) (fun v340 H341 f342 o343 => ?_))))
   refine kl_nil (kq_a (List.nil_sublist _) (kt_a 7 rfl (by kernel_rfl) (kl_bd rfl (cp (Sl.cells (by assumption)) (cp (OwnL.cells (by assumption)) cp_nil)) rfl ?_)))
   refine kl_nil (kq_x rfl (kt_a 9 rfl (by kernel_rfl) (kl_stW (us := [v335, v340]) rfl rfl rfl rfl (oc (Sl.oneCell (by assumption)) (oc (OwnL.oneCell (by assumption)) oc_nil)) rfl ?_)))
   refine kl_chg [H341, sing b333 (.cells [v335, v340].toArray 26 (0, 0)), sing b5 (.cells [.slice none 0 0, .slice none 0 0].toArray 26 (0, 0))] rfl ?_
   refine kl_nil (kq_x rfl (kt_end (by kernel_rfl) ?_))
   refine kq_code (kc_seq (kc_seq (kc_region (kl_fd rfl (by assumption) (fun p344 a345 => ?_)))))
   refine kl_ld rfl (by assumption) (kl_len rfl (by assumption) (fun l346 => ?_))
   refine kl_mv rfl (kl_nil (kq_code (kc_block (kc_loopK (A := Nat × List Con × Value × Hp × Hp) (fun zz => (zz.1 ≤ m.cons.length) ∧ (zz.2.1 = m.cons.take zz.1) ∧ Fr B zz.2.2.2.2 ∧ OwnL 95 5 zz.2.2.2.1 zz.2.2.2.2 ConV zz.2.2.1 zz.2.1 ∧ Fr B zz.2.2.2.1) (fun zz => m.cons.length - zz.1) (fun zz => zz.2.2.2.2) (fun zz => [zz.2.2.2.1, sing b333 (.cells [v335, zz.2.2.1].toArray 26 (0, 0)), sing b5 (.cells [.slice none 0 0, .slice none 0 0].toArray 26 (0, 0))]) (fun zz => [(17, .int .i64 (zz.1 : Int))]) (0, ([]), v340, H341, noHp) (pc 2 rfl (pc 3 rfl (pc 15 rfl (pc 16 rfl pn)))) (pc 17 rfl pn) rfl ⟨Nat.zero_le _, rfl, (fr_no _), o343, f342⟩ ?_))))
   rintro ⟨k, out, v352, H349, K353⟩ hJ355
   obtain ⟨hk347, hi348, f354, o350, f351⟩ : (k ≤ m.cons.length) ∧ (out = m.cons.take k) ∧ Fr B K353 ∧ OwnL 95 5 H349 K353 ConV v352 out ∧ Fr B H349 := hJ355
   change KC _ _ (K353 :: _) [H349, sing b333 (.cells [v335, v352].toArray 26 (0, 0)), sing b5 (.cells [.slice none 0 0, .slice none 0 0].toArray 26 (0, 0))] _ ([(17, .int .i64 (k : Int))] ++ _)
   refine kc_seq (kc_region (kl_lss rfl rfl ?_))
   refine kl_nil (kq_code (kc_seq (kc_if rfl (fun c356 => ?_) (fun c356 => ?_))))
   ·skip
    refine kc_skipQ (kq_code (kc_seq (kc_block (kc_seq (kc_region (kl_inC rfl rfl (by assumption) (by omega) (fun p357 u359 u360 u361 h362 h363 h364 a358 => ?_)))))))
    refine kl_ldS rfl (by assumption) rfl ?_
    refine kl_alloc (cs := [.int .i64 (0 : Int), .slice none 0 0, .slice none 0 0, .int .i64 (0 : Int), .slice none 0 0]) rfl (fun b365 hb366 => ?_)
    refine kl_stW (us := [.int .i64 ((m.cons.getD k nilCon).kind), u359, u360, .int .i64 ((m.cons.getD k nilCon).bound), u361]) rfl rfl rfl rfl (oc rfl (oc (Sl.oneCell (by assumption)) (oc (Sl.oneCell (by assumption)) (oc rfl (oc (Sl.oneCell (by assumption)) oc_nil))))) rfl ?_
    refine kl_chg [sing b365 (.cells [.int .i64 ((m.cons.getD k nilCon).kind), u359, u360, .int .i64 ((m.cons.getD k nilCon).bound), u361].toArray 95 (0, 0)), H349, sing b333 (.cells [v335, v352].toArray 26 (0, 0)), sing b5 (.cells [.slice none 0 0, .slice none 0 0].toArray 26 (0, 0))] rfl ?_
    refine kl_nil (kq_code (kc_tree (fun i => ([5, 7] : List Nat).contains i) [sing b365 (.cells [.int .i64 ((m.cons.getD k nilCon).kind), u359, u360, .int .i64 ((m.cons.getD k nilCon).bound), u361].toArray 95 (0, 0)), sing b333 (.cells [v335, v352].toArray 26 (0, 0))] (by kernel_rfl) ?_))
    refine kt_q 0 (.cons_cons _ (.cons _ (.cons_cons _ (List.nil_sublist _)))) rfl (by kernel_rfl) (kl_fdV rfl (kl_nil (kq_q (kt_q 1 (.cons_cons _ (.cons _ (.cons_cons _ (List.nil_sublist _)))) rfl (by kernel_rfl) (kl_ld rfl (at_box (T := 26) (cs := [v335, v352]) (off := 1) (fz := (0, 0))) (kl_nil (kq_q (kt_q 2 (.cons_cons _ (.cons _ (.cons_cons _ (List.nil_sublist _)))) rfl (by kernel_rfl) ?_))))))))
    refine kl_ldS rfl (at_box (T := 95) (cs := [.int .i64 ((m.cons.getD k nilCon).kind), u359, u360, .int .i64 ((m.cons.getD k nilCon).bound), u361]) (off := 0) (fz := (0, 0))) rfl ?_
    refine kl_nil (kq_q (kt_a 3 rfl (by kernel_rfl) (kl_call rfl rfl (copyConI_ok (m.cons.getD k nilCon) (h4 _ (getD_mem (by omega))) (by assumption) (by assumption) (by assumption)) (fun v367 H368 f369 h370 => ?_))))
    obtain ⟨_, rfl, h374⟩ := h370
    have h374' := h374
    obtain ⟨u371, u372, u373, rfl, h375, h376, h377⟩ := h374
    refine kl_nil (kq_a (.cons_cons _ (.cons _ (.cons_cons _ (List.nil_sublist _)))) (kt_a 4 rfl (by kernel_rfl) (kl_bsK rfl (fun v378 H379 f380 r381 => ?_))))
    refine kl_nil (kq_a (.cons_cons _ (.cons _ (.cons_cons _ (List.nil_sublist _)))) (kt_a 5 rfl (by kernel_rfl) (kl_cmp K353 H368 (fun c382 => ?_))))
    have o383 := OwnL.mono (K' := orHp K353 H368) o350 orL
    refine kl_apL (m.cons.getD k nilCon) rfl rfl o383 r381 (RMono.mono (orC c382) (by assumption)) (oc rfl (oc (Sl.oneCell (by assumption)) (oc (Sl.oneCell (by assumption)) (oc rfl (oc (Sl.oneCell (by assumption)) oc_nil))))) (by (have h9 := congrArg List.length hi348; simp at h9; omega)) (by decide) (fun v384 H385 o386 f387 => ?_)
    have f388 := f387 B f351 (Nat.le_refl _)
    refine kl_nil (kq_x rfl (kt_q 6 (.cons_cons _ (.cons _ (.cons_cons _ (List.nil_sublist _)))) rfl (by kernel_rfl) (kl_fdV rfl (kl_nil (kq_q (kt_a 7 rfl (by kernel_rfl) (kl_stB rfl rfl rfl (OwnL.oneCell (by assumption)) (OwnL.cells (by assumption)) ?_)))))))
    refine kl_chg [sing b365 (.cells [.int .i64 ((m.cons.getD k nilCon).kind), u359, u360, .int .i64 ((m.cons.getD k nilCon).bound), u361].toArray 95 (0, 0)), H385, sing b333 (.cells [v335, v384].toArray 26 (0, 0)), sing b5 (.cells [.slice none 0 0, .slice none 0 0].toArray 26 (0, 0))] rfl ?_
    refine kl_nil (kq_x rfl (kt_end (by kernel_rfl) ?_))
    refine kq_code (kc_region (kl_inc rfl rfl (by omega) ?_))
    refine kl_mv rfl (kl_nil (kq_take [H385, sing b333 (.cells [v335, v384].toArray 26 (0, 0)), sing b5 (.cells [.slice none 0 0, .slice none 0 0].toArray 26 (0, 0))] ?_))
    refine kq_roundK ((k + 1), (out ++ [(m.cons.getD k nilCon)]), v384, H385, (orHp K353 H368)) (by omega) (⟨by omega, (by rw [hi348, take_succ_getD nilCon (by omega)]), (fr_or f354 f369), o386, f388⟩) (pc 17 rfl pn) (pc 2 rfl (pc 3 rfl (pc 15 rfl (pc 16 rfl pn)))) rfl (List.Sublist.refl _)
   ·skip
    refine kc_exit (kq_code (kc_seq (kc_region (kl_ldW rfl rfl (kl_stW (us := [v335, v352]) rfl rfl rfl rfl (oc (Sl.oneCell (by assumption)) (oc (OwnL.oneCell (by assumption)) oc_nil)) rfl ?_)))))
    refine kl_chg [H349, sing b333 (.cells [v335, v352].toArray 26 (0, 0)), sing b5 (.cells [v335, v352].toArray 26 (0, 0))] rfl ?_
    refine kl_nil (kq_code (kc_ret (kq_frz H349 ?_)))
    refine kq_cmp H349 K353 (fun c389 => ?_)
    refine kq_cmp H336 (orHp H349 K353) (fun c390 => ?_)
    exact kq_retC rfl rfl rfl (orHp H336 (orHp H349 K353)) (fr_or f337 (fr_or f351 f354)) ⟨_, _, rfl, (Sl.mono (by assumption) (fun b o h => orL b o h) (fun _ _ h => h)), (by have e9 : out = m.cons := (by rw [hi348, List.take_of_length_le (by omega)]); rw [← e9]; exact (Cons.mono' (OwnL.consK o350 c389) (fun b o h => orC c390 b o h)))⟩
  ·skip
   refine kl_mkL0 (R := ConV) rfl rfl (by omega) (by omega) (by decide) (fun v391 H392 f393 o394 => ?_)
   refine kl_nil (kq_a (List.nil_sublist _) (kt_a 2 rfl (by kernel_rfl) (kl_call rfl rfl (copied_ok m.doms (by omega) (by assumption)) (fun v395 H396 f397 o398 => ?_))))
   have h399 := OwnL.ints o398
   refine kl_nil (kq_a (List.nil_sublist _) (kt_a 7 rfl (by kernel_rfl) (kl_bd rfl (cp (Sl.cells (by assumption)) (cp (OwnL.cells (by assumption)) cp_nil)) rfl ?_)))
   refine kl_nil (kq_x rfl (kt_a 9 rfl (by kernel_rfl) (kl_stW (us := [v395, v391]) rfl rfl rfl rfl (oc (Sl.oneCell (by assumption)) (oc (OwnL.oneCell (by assumption)) oc_nil)) rfl ?_)))
   refine kl_chg [H392, sing b333 (.cells [v395, v391].toArray 26 (0, 0)), sing b5 (.cells [.slice none 0 0, .slice none 0 0].toArray 26 (0, 0))] rfl ?_
   refine kl_nil (kq_x rfl (kt_end (by kernel_rfl) ?_))
   refine kq_code (kc_seq (kc_seq (kc_region (kl_fd rfl (by assumption) (fun p400 a401 => ?_)))))
   refine kl_ld rfl (by assumption) (kl_len rfl (by assumption) (fun l402 => ?_))
   refine kl_mv rfl (kl_nil (kq_code (kc_block (kc_loopK (A := Nat × List Con × Value × Hp × Hp) (fun zz => (zz.1 ≤ m.cons.length) ∧ (zz.2.1 = m.cons.take zz.1) ∧ Fr B zz.2.2.2.2 ∧ OwnL 95 5 zz.2.2.2.1 zz.2.2.2.2 ConV zz.2.2.1 zz.2.1 ∧ Fr B zz.2.2.2.1) (fun zz => m.cons.length - zz.1) (fun zz => zz.2.2.2.2) (fun zz => [zz.2.2.2.1, sing b333 (.cells [v395, zz.2.2.1].toArray 26 (0, 0)), sing b5 (.cells [.slice none 0 0, .slice none 0 0].toArray 26 (0, 0))]) (fun zz => [(17, .int .i64 (zz.1 : Int))]) (0, ([]), v391, H392, noHp) (pc 2 rfl (pc 3 rfl (pc 15 rfl (pc 16 rfl pn)))) (pc 17 rfl pn) rfl ⟨Nat.zero_le _, rfl, (fr_no _), o394, f393⟩ ?_))))
   rintro ⟨k, out, v408, H405, K409⟩ hJ411
   obtain ⟨hk403, hi404, f410, o406, f407⟩ : (k ≤ m.cons.length) ∧ (out = m.cons.take k) ∧ Fr B K409 ∧ OwnL 95 5 H405 K409 ConV v408 out ∧ Fr B H405 := hJ411
   change KC _ _ (K409 :: _) [H405, sing b333 (.cells [v395, v408].toArray 26 (0, 0)), sing b5 (.cells [.slice none 0 0, .slice none 0 0].toArray 26 (0, 0))] _ ([(17, .int .i64 (k : Int))] ++ _)
   refine kc_seq (kc_region (kl_lss rfl rfl ?_))
   refine kl_nil (kq_code (kc_seq (kc_if rfl (fun c412 => ?_) (fun c412 => ?_))))
   ·skip
    refine kc_skipQ (kq_code (kc_seq (kc_block (kc_seq (kc_region (kl_inC rfl rfl (by assumption) (by omega) (fun p413 u415 u416 u417 h418 h419 h420 a414 => ?_)))))))
    refine kl_ldS rfl (by assumption) rfl ?_
    refine kl_alloc (cs := [.int .i64 (0 : Int), .slice none 0 0, .slice none 0 0, .int .i64 (0 : Int), .slice none 0 0]) rfl (fun b421 hb422 => ?_)
    refine kl_stW (us := [.int .i64 ((m.cons.getD k nilCon).kind), u415, u416, .int .i64 ((m.cons.getD k nilCon).bound), u417]) rfl rfl rfl rfl (oc rfl (oc (Sl.oneCell (by assumption)) (oc (Sl.oneCell (by assumption)) (oc rfl (oc (Sl.oneCell (by assumption)) oc_nil))))) rfl ?_
    refine kl_chg [sing b421 (.cells [.int .i64 ((m.cons.getD k nilCon).kind), u415, u416, .int .i64 ((m.cons.getD k nilCon).bound), u417].toArray 95 (0, 0)), H405, sing b333 (.cells [v395, v408].toArray 26 (0, 0)), sing b5 (.cells [.slice none 0 0, .slice none 0 0].toArray 26 (0, 0))] rfl ?_
    refine kl_nil (kq_code (kc_tree (fun i => ([5, 7] : List Nat).contains i) [sing b421 (.cells [.int .i64 ((m.cons.getD k nilCon).kind), u415, u416, .int .i64 ((m.cons.getD k nilCon).bound), u417].toArray 95 (0, 0)), sing b333 (.cells [v395, v408].toArray 26 (0, 0))] (by kernel_rfl) ?_))
    refine kt_q 0 (.cons_cons _ (.cons _ (.cons_cons _ (List.nil_sublist _)))) rfl (by kernel_rfl) (kl_fdV rfl (kl_nil (kq_q (kt_q 1 (.cons_cons _ (.cons _ (.cons_cons _ (List.nil_sublist _)))) rfl (by kernel_rfl) (kl_ld rfl (at_box (T := 26) (cs := [v395, v408]) (off := 1) (fz := (0, 0))) (kl_nil (kq_q (kt_q 2 (.cons_cons _ (.cons _ (.cons_cons _ (List.nil_sublist _)))) rfl (by kernel_rfl) ?_))))))))
    refine kl_ldS rfl (at_box (T := 95) (cs := [.int .i64 ((m.cons.getD k nilCon).kind), u415, u416, .int .i64 ((m.cons.getD k nilCon).bound), u417]) (off := 0) (fz := (0, 0))) rfl ?_
    refine kl_nil (kq_q (kt_a 3 rfl (by kernel_rfl) (kl_call rfl rfl (copyConI_ok (m.cons.getD k nilCon) (h4 _ (getD_mem (by omega))) (by assumption) (by assumption) (by assumption)) (fun v423 H424 f425 h426 => ?_))))
    obtain ⟨_, rfl, h430⟩ := h426
    have h430' := h430
    obtain ⟨u427, u428, u429, rfl, h431, h432, h433⟩ := h430
    refine kl_nil (kq_a (.cons_cons _ (.cons _ (.cons_cons _ (List.nil_sublist _)))) (kt_a 4 rfl (by kernel_rfl) (kl_bsK rfl (fun v434 H435 f436 r437 => ?_))))
    refine kl_nil (kq_a (.cons_cons _ (.cons _ (.cons_cons _ (List.nil_sublist _)))) (kt_a 5 rfl (by kernel_rfl) (kl_cmp K409 H424 (fun c438 => ?_))))
    have o439 := OwnL.mono (K' := orHp K409 H424) o406 orL
    refine kl_apL (m.cons.getD k nilCon) rfl rfl o439 r437 (RMono.mono (orC c438) (by assumption)) (oc rfl (oc (Sl.oneCell (by assumption)) (oc (Sl.oneCell (by assumption)) (oc rfl (oc (Sl.oneCell (by assumption)) oc_nil))))) (by (have h9 := congrArg List.length hi404; simp at h9; omega)) (by decide) (fun v440 H441 o442 f443 => ?_)
    have f444 := f443 B f407 (Nat.le_refl _)
    refine kl_nil (kq_x rfl (kt_q 6 (.cons_cons _ (.cons _ (.cons_cons _ (List.nil_sublist _)))) rfl (by kernel_rfl) (kl_fdV rfl (kl_nil (kq_q (kt_a 7 rfl (by kernel_rfl) (kl_stB rfl rfl rfl (OwnL.oneCell (by assumption)) (OwnL.cells (by assumption)) ?_)))))))
    refine kl_chg [sing b421 (.cells [.int .i64 ((m.cons.getD k nilCon).kind), u415, u416, .int .i64 ((m.cons.getD k nilCon).bound), u417].toArray 95 (0, 0)), H441, sing b333 (.cells [v395, v440].toArray 26 (0, 0)), sing b5 (.cells [.slice none 0 0, .slice none 0 0].toArray 26 (0, 0))] rfl ?_
    refine kl_nil (kq_x rfl (kt_end (by kernel_rfl) ?_))
    refine kq_code (kc_region (kl_inc rfl rfl (by omega) ?_))
    refine kl_mv rfl (kl_nil (kq_take [H441, sing b333 (.cells [v395, v440].toArray 26 (0, 0)), sing b5 (.cells [.slice none 0 0, .slice none 0 0].toArray 26 (0, 0))] ?_))
    refine kq_roundK ((k + 1), (out ++ [(m.cons.getD k nilCon)]), v440, H441, (orHp K409 H424)) (by omega) (⟨by omega, (by rw [hi404, take_succ_getD nilCon (by omega)]), (fr_or f410 f425), o442, f444⟩) (pc 17 rfl pn) (pc 2 rfl (pc 3 rfl (pc 15 rfl (pc 16 rfl pn)))) rfl (List.Sublist.refl _)
   ·skip
    refine kc_exit (kq_code (kc_seq (kc_region (kl_ldW rfl rfl (kl_stW (us := [v395, v408]) rfl rfl rfl rfl (oc (Sl.oneCell (by assumption)) (oc (OwnL.oneCell (by assumption)) oc_nil)) rfl ?_)))))
    refine kl_chg [H405, sing b333 (.cells [v395, v408].toArray 26 (0, 0)), sing b5 (.cells [v395, v408].toArray 26 (0, 0))] rfl ?_
    refine kl_nil (kq_code (kc_ret (kq_frz H405 ?_)))
    refine kq_cmp H405 K409 (fun c445 => ?_)
    refine kq_cmp H396 (orHp H405 K409) (fun c446 => ?_)
    exact kq_retC rfl rfl rfl (orHp H396 (orHp H405 K409)) (fr_or f397 (fr_or f407 f410)) ⟨_, _, rfl, (Sl.mono (by assumption) (fun b o h => orL b o h) (fun _ _ h => h)), (by have e9 : out = m.cons := (by rw [hi404, List.take_of_length_le (by omega)]); rw [← e9]; exact (Cons.mono' (OwnL.consK o406 c445) (fun b o h => orC c446 b o h)))⟩
theorem limited_ok {Hds : Hp} {vds : Value} (ds : List Int) (i : Int) (d : Int) (hb : ds.length ≤ 1000) (hi : 0 ≤ i ∧ i < (ds.length : Int)) (hds : Ints Hds vds ds) : Spec Tryz.prog 118 [vds, .int .i64 i, .int .i64 d] [Hds] (fun Hq vq => Ints Hq vq (ds.set i.toNat (iand (ds.getD i.toNat 0) d))) := by
 refine spec_of Tryz.func118 rfl rfl rfl (fun B => ?_)
 refine kc_seq (kc_region (kl_as rfl (kl_nil (kq_code (kc_seq (kc_region (kl_mv rfl (kl_callL rfl rfl (copied_ok ds (by omega) (by assumption)) (fun v1 H2 f3 o4 => ?_)))))))))
 refine kl_as rfl (kl_nil (kq_code (kc_seq (kc_region (kl_mv rfl (kl_mv rfl (kl_ixL rfl rfl (by assumption) (by omega) (by omega) (fun p5 q6 => ?_))))))))
 refine kl_ldLI rfl (by assumption) (by assumption) (by omega) ?_
 refine kl_mv rfl (kl_and rfl rfl ?_)
 refine kl_ixL rfl rfl (by assumption) (by omega) (by omega) (fun p7 q8 => ?_)
 refine kl_stL (iand (ds.getD i.toNat 0) d) rfl rfl (by assumption) o4 (by omega) rfl rfl rfl (fun H9 o10 f11 => ?_)
 have f12 := f11 _ f3
 refine kl_nil (kq_code (kc_seq (kc_region (kl_mv rfl (kl_as rfl (kl_nil (kq_code (kc_ret ?_))))))))
 exact kq_ret rfl rfl H9 f12 (OwnL.ints o10)
theorem copyConE_ok {Hcv : Hp} {vcv : Value} {Hca : Hp} {vca : Value} {Hcr : Hp} {vcr : Value} (c : Con) (hc : ConSm 100 c) (hcv : Ints Hcv vcv c.vars) (hca : Ints Hca vca c.args) (hcr : Rows Hcr vcr c.rows) : Spec Tryz.prog 122 [.agg #[.int .i64 c.kind, vcv, vca, .int .i64 c.bound, vcr]] [Hcv, Hca, Hcr] (fun Hq vq => ∃ cq : Con, ConR Hq vq cq ∧ cq = c) := by
 have h1 := hc.v1
 have h2 := hc.v
 have h3 := hc.a
 have h4 := hc.r
 have h5 := hc.rr
 refine spec_of Tryz.func122 rfl rfl rfl (fun B => ?_)
 refine kc_seq (kc_region (kl_box rfl rfl (fun p1 H2 f3 a4 => ?_)))
 refine kl_alloc (cs := [.int .i64 (0 : Int), .slice none 0 0, .slice none 0 0, .int .i64 (0 : Int), .slice none 0 0]) rfl (fun b5 hb6 => ?_)
 refine kl_nil (kq_code (kc_seq (kc_tree (fun i => ([10, 12] : List Nat).contains i) [] (by kernel_rfl) ?_)))
 refine kt_q 0 (List.nil_sublist _) rfl (by kernel_rfl) (kl_fd rfl (by assumption) (fun p7 a8 => ?_))
 refine kl_nil (kq_q (kt_q 1 (List.nil_sublist _) rfl (by kernel_rfl) (kl_ld rfl (by assumption) (kl_nil (kq_q (kt_q 2 (List.nil_sublist _) rfl (by kernel_rfl) (kl_fd rfl (by assumption) (fun p9 a10 => ?_))))))))
 refine kl_nil (kq_q (kt_q 3 (List.nil_sublist _) rfl (by kernel_rfl) (kl_ld rfl (by assumption) (kl_nil (kq_q (kt_q 5 (List.nil_sublist _) rfl (by kernel_rfl) (kl_fd rfl (by assumption) (fun p11 a12 => ?_))))))))
 refine kl_nil (kq_q (kt_q 6 (List.nil_sublist _) rfl (by kernel_rfl) (kl_ld rfl (by assumption) (kl_nil (kq_q (kt_q 8 (List.nil_sublist _) rfl (by kernel_rfl) (kl_fd rfl (by assumption) (fun p13 a14 => ?_))))))))
 refine kl_nil (kq_q (kt_q 9 (List.nil_sublist _) rfl (by kernel_rfl) (kl_ld rfl (by assumption) (kl_nil (kq_q (kt_b 4 11 rfl rfl (by kernel_rfl) ?_ ?_))))))
 ·skip
  refine kl_call rfl rfl (copyInts_ok c.vars (by first | omega | (have h6 := h5 _ (getD_mem (d := []) (by omega : k < c.rows.length)); omega)) (by assumption)) (fun v15 H16 f17 o18 => ?_)
  have h19 := OwnL.ints o18
  refine kl_nil (kq_a (List.nil_sublist _) (kt_b 7 11 rfl rfl (by kernel_rfl) ?_ ?_))
  ·skip
   refine kl_call rfl rfl (copyInts_ok c.args (by first | omega | (have h6 := h5 _ (getD_mem (d := []) (by omega : k < c.rows.length)); omega)) (by assumption)) (fun v20 H21 f22 o23 => ?_)
   have h24 := OwnL.ints o23
   refine kl_nil (kq_a (List.nil_sublist _) (kt_b 10 11 rfl rfl (by kernel_rfl) ?_ ?_))
   ·skip
    refine kl_bd rfl (cp rfl (cp (Sl.cells (by assumption)) (cp (Sl.cells (by assumption)) (cp rfl cp_nil)))) rfl ?_
    refine kl_nil (kq_x rfl (kt_a 11 rfl (by kernel_rfl) (kl_alloc (cs := [.int .i64 (0 : Int), .slice none 0 0, .slice none 0 0, .int .i64 (0 : Int), .slice none 0 0]) rfl (fun b25 hb26 => ?_))))
    refine kl_nil (kq_a (List.nil_sublist _) (kt_a 12 rfl (by kernel_rfl) (kl_stW (us := [.int .i64 c.kind, v15, v20, .int .i64 c.bound, .slice none 0 0]) rfl rfl rfl rfl (oc rfl (oc (Sl.oneCell (by assumption)) (oc (Sl.oneCell (by assumption)) (oc rfl (oc rfl oc_nil))))) rfl ?_)))
    refine kl_chg [sing b25 (.cells [.int .i64 c.kind, v15, v20, .int .i64 c.bound, .slice none 0 0].toArray 95 (0, 0)), sing b5 (.cells [.int .i64 (0 : Int), .slice none 0 0, .slice none 0 0, .int .i64 (0 : Int), .slice none 0 0].toArray 95 (0, 0))] rfl ?_
    refine kl_nil (kq_x rfl (kt_end (by kernel_rfl) ?_))
    refine kq_code (kc_seq (kc_seq (kc_region (kl_as rfl (kl_nil (kq_code (kc_block (kc_no ?_))))))))
    refine kc_loopK (A := Nat × List (List Int) × Value × Hp × Hp) (fun zz => (zz.1 ≤ c.rows.length) ∧ (zz.2.1 = c.rows.take zz.1) ∧ Fr B zz.2.2.2.2 ∧ OwnL 23 1 zz.2.2.2.1 zz.2.2.2.2 RowV zz.2.2.1 zz.2.1 ∧ Fr B zz.2.2.2.1) (fun zz => c.rows.length - zz.1) (fun zz => zz.2.2.2.2) (fun zz => [zz.2.2.2.1, sing b25 (.cells [.int .i64 c.kind, v15, v20, .int .i64 c.bound, zz.2.2.1].toArray 95 (0, 0)), sing b5 (.cells [.int .i64 (0 : Int), .slice none 0 0, .slice none 0 0, .int .i64 (0 : Int), .slice none 0 0].toArray 95 (0, 0))]) (fun zz => [(4, .int .i64 (zz.1 : Int))]) (0, [], .slice none 0 0, noHp, noHp) (pc 1 rfl (pc 2 rfl (pc 3 rfl pn))) (pc 4 rfl pn) rfl ⟨Nat.zero_le _, rfl, (fr_no _), OwnL.nil, (fr_no _)⟩ ?_
    rintro ⟨k, out, v32, H29, K33⟩ hJ36
    obtain ⟨hk27, hi28, f34, o30, f31⟩ : (k ≤ c.rows.length) ∧ (out = c.rows.take k) ∧ Fr B K33 ∧ OwnL 23 1 H29 K33 RowV v32 out ∧ Fr B H29 := hJ36
    change KC _ _ (K33 :: _) [H29, sing b25 (.cells [.int .i64 c.kind, v15, v20, .int .i64 c.bound, v32].toArray 95 (0, 0)), sing b5 (.cells [.int .i64 (0 : Int), .slice none 0 0, .slice none 0 0, .int .i64 (0 : Int), .slice none 0 0].toArray 95 (0, 0))] _ ([(4, .int .i64 (k : Int))] ++ _)
    refine kc_seq (kc_seq (kc_region (kl_mv rfl (kl_fd rfl (by assumption) (fun p37 a38 => ?_)))))
    refine kl_ld rfl (by assumption) (kl_len rfl (by assumption) (fun l39 => ?_))
    refine kl_lss rfl rfl ?_
    refine kl_nil (kq_code (kc_if rfl (fun c40 => ?_) (fun c40 => ?_)))
    ·skip
     refine kc_skipQ (kq_code (kc_seq (kc_block (kc_tree (fun i => ([9, 11] : List Nat).contains i) [sing b25 (.cells [.int .i64 c.kind, v15, v20, .int .i64 c.bound, v32].toArray 95 (0, 0))] (by kernel_rfl) ?_))))
     refine kt_q 0 (.cons _ (.cons_cons _ (List.nil_sublist _))) rfl (by kernel_rfl) (kl_fdV rfl (kl_nil (kq_q (kt_q 1 (.cons _ (.cons_cons _ (List.nil_sublist _))) rfl (by kernel_rfl) (kl_ld rfl (at_box (T := 95) (cs := [.int .i64 c.kind, v15, v20, .int .i64 c.bound, v32]) (off := 4) (fz := (0, 0))) (kl_nil (kq_q (kt_q 2 (.cons _ (.cons_cons _ (List.nil_sublist _))) rfl (by kernel_rfl) (kl_fd rfl (by assumption) (fun p41 a42 => ?_))))))))))
     refine kl_nil (kq_q (kt_q 3 (.cons _ (.cons_cons _ (List.nil_sublist _))) rfl (by kernel_rfl) (kl_ld rfl (by assumption) (kl_nil (kq_q (kt_q 4 (.cons _ (.cons_cons _ (List.nil_sublist _))) rfl (by kernel_rfl) (kl_mv rfl (kl_nil (kq_q (kt_q 5 (.cons _ (.cons_cons _ (List.nil_sublist _))) rfl (by kernel_rfl) (kl_inS rfl rfl (by assumption) (by omega) (fun p43 u45 h46 a44 => ?_))))))))))))
     refine kl_nil (kq_q (kt_q 6 (.cons _ (.cons_cons _ (List.nil_sublist _))) rfl (by kernel_rfl) (kl_ld rfl (by assumption) (kl_nil (kq_q (kt_a 7 rfl (by kernel_rfl) (kl_call rfl rfl (copyInts_ok (c.rows.getD k []) (by first | omega | (have h6 := h5 _ (getD_mem (d := []) (by omega : k < c.rows.length)); omega)) (by assumption)) (fun v47 H48 f49 o50 => ?_))))))))
     have h51 := OwnL.ints o50
     refine kl_nil (kq_a (.cons _ (.cons_cons _ (List.nil_sublist _))) (kt_a 8 rfl (by kernel_rfl) (kl_bs rfl rfl rfl (by decide) (ca (by first | exact Sl.cells (by assumption) | exact OwnL.cells (by assumption)) ca_nil) (fun v52 H53 f54 r55 s56 => ?_))))
     refine kl_nil (kq_a (.cons _ (.cons_cons _ (List.nil_sublist _))) (kt_a 9 rfl (by kernel_rfl) (kl_cmp K33 H48 (fun c57 => ?_))))
     have o58 := OwnL.mono (K' := orHp K33 H48) o30 orL
     refine kl_apL (c.rows.getD k []) rfl rfl o58 (by assumption) ⟨_, rfl, Sl.mono (by assumption) (orC c57) (fun _ _ h => h)⟩ (oc (Sl.oneCell (by assumption)) oc_nil) (by (have h9 := congrArg List.length hi28; simp at h9; omega)) (by decide) (fun v59 H60 o61 f62 => ?_)
     have f63 := f62 B f31 (Nat.le_refl _)
     refine kl_nil (kq_x rfl (kt_q 10 (.cons _ (.cons_cons _ (List.nil_sublist _))) rfl (by kernel_rfl) (kl_fdV rfl (kl_nil (kq_q (kt_a 11 rfl (by kernel_rfl) (kl_stB rfl rfl rfl (OwnL.oneCell (by assumption)) (OwnL.cells (by assumption)) ?_)))))))
     refine kl_chg [H60, sing b25 (.cells [.int .i64 c.kind, v15, v20, .int .i64 c.bound, v59].toArray 95 (0, 0)), sing b5 (.cells [.int .i64 (0 : Int), .slice none 0 0, .slice none 0 0, .int .i64 (0 : Int), .slice none 0 0].toArray 95 (0, 0))] rfl ?_
     refine kl_nil (kq_x rfl (kt_end (by kernel_rfl) ?_))
     refine kq_code (kc_region (kl_mv rfl (kl_inc rfl rfl (by omega) ?_)))
     refine kl_as rfl (kl_nil (kq_take [H60, sing b25 (.cells [.int .i64 c.kind, v15, v20, .int .i64 c.bound, v59].toArray 95 (0, 0)), sing b5 (.cells [.int .i64 (0 : Int), .slice none 0 0, .slice none 0 0, .int .i64 (0 : Int), .slice none 0 0].toArray 95 (0, 0))] ?_))
     refine kq_roundK ((k + 1), (out ++ [(c.rows.getD k [])]), v59, H60, (orHp K33 H48)) (by omega) (⟨by omega, (by rw [hi28, take_succ_getD [] (by omega)]), (fr_or f34 f49), o61, f63⟩) (pc 4 rfl pn) (pc 1 rfl (pc 2 rfl (pc 3 rfl pn))) rfl (List.Sublist.refl _)
    ·skip
     refine kc_exit (kq_code (kc_seq (kc_region (kl_ldW rfl rfl (kl_stW (us := [.int .i64 c.kind, v15, v20, .int .i64 c.bound, v32]) rfl rfl rfl rfl (oc rfl (oc (Sl.oneCell (by assumption)) (oc (Sl.oneCell (by assumption)) (oc rfl (oc (OwnL.oneCell (by assumption)) oc_nil))))) rfl ?_)))))
     refine kl_chg [H29, sing b25 (.cells [.int .i64 c.kind, v15, v20, .int .i64 c.bound, v32].toArray 95 (0, 0)), sing b5 (.cells [.int .i64 c.kind, v15, v20, .int .i64 c.bound, v32].toArray 95 (0, 0))] rfl ?_
     refine kl_nil (kq_code (kc_ret (kq_frz H29 ?_)))
     refine kq_cmp H29 K33 (fun c64 => ?_)
     refine kq_cmp H21 (orHp H29 K33) (fun c65 => ?_)
     refine kq_cmp H16 (orHp H21 (orHp H29 K33)) (fun c66 => ?_)
     exact kq_retC rfl rfl rfl (orHp H16 (orHp H21 (orHp H29 K33))) (fr_or f17 (fr_or f22 (fr_or f31 f34))) ⟨⟨c.kind, c.vars, c.args, c.bound, out⟩, ⟨_, rfl, _, _, _, rfl, (Sl.mono (by assumption) (fun b o h => orL b o h) (fun _ _ h => h)), (Sl.mono (by assumption) (fun b o h => orC c66 b o (orL b o h)) (fun _ _ h => h)), (Rows.mono' (OwnL.rowsK o30 c64) (fun b o h => orC c66 b o (orC c65 b o h)))⟩, by (have h9 := hi28; rw [List.take_of_length_le (by omega)] at h9; rw [h9])⟩
   ·skip
    refine kl_alloc (cs := [.int .i64 (0 : Int), .slice none 0 0, .slice none 0 0, .int .i64 (0 : Int), .slice none 0 0]) rfl (fun b67 hb68 => ?_)
    refine kl_nil (kq_a (List.nil_sublist _) (kt_a 10 rfl (by kernel_rfl) (kl_bd rfl (cp rfl (cp (Sl.cells (by assumption)) (cp (Sl.cells (by assumption)) (cp rfl cp_nil)))) rfl ?_)))
    refine kl_nil (kq_x rfl (kt_a 12 rfl (by kernel_rfl) (kl_stW (us := [.int .i64 c.kind, v15, v20, .int .i64 c.bound, .slice none 0 0]) rfl rfl rfl rfl (oc rfl (oc (Sl.oneCell (by assumption)) (oc (Sl.oneCell (by assumption)) (oc rfl (oc rfl oc_nil))))) rfl ?_)))
    refine kl_chg [sing b67 (.cells [.int .i64 c.kind, v15, v20, .int .i64 c.bound, .slice none 0 0].toArray 95 (0, 0)), sing b5 (.cells [.int .i64 (0 : Int), .slice none 0 0, .slice none 0 0, .int .i64 (0 : Int), .slice none 0 0].toArray 95 (0, 0))] rfl ?_
    refine kl_nil (kq_x rfl (kt_end (by kernel_rfl) ?_))
    refine kq_code (kc_seq (kc_seq (kc_region (kl_as rfl (kl_nil (kq_code (kc_block (kc_no ?_))))))))
    refine kc_loopK (A := Nat × List (List Int) × Value × Hp × Hp) (fun zz => (zz.1 ≤ c.rows.length) ∧ (zz.2.1 = c.rows.take zz.1) ∧ Fr B zz.2.2.2.2 ∧ OwnL 23 1 zz.2.2.2.1 zz.2.2.2.2 RowV zz.2.2.1 zz.2.1 ∧ Fr B zz.2.2.2.1) (fun zz => c.rows.length - zz.1) (fun zz => zz.2.2.2.2) (fun zz => [zz.2.2.2.1, sing b67 (.cells [.int .i64 c.kind, v15, v20, .int .i64 c.bound, zz.2.2.1].toArray 95 (0, 0)), sing b5 (.cells [.int .i64 (0 : Int), .slice none 0 0, .slice none 0 0, .int .i64 (0 : Int), .slice none 0 0].toArray 95 (0, 0))]) (fun zz => [(4, .int .i64 (zz.1 : Int))]) (0, [], .slice none 0 0, noHp, noHp) (pc 1 rfl (pc 2 rfl (pc 3 rfl pn))) (pc 4 rfl pn) rfl ⟨Nat.zero_le _, rfl, (fr_no _), OwnL.nil, (fr_no _)⟩ ?_
    rintro ⟨k, out, v74, H71, K75⟩ hJ78
    obtain ⟨hk69, hi70, f76, o72, f73⟩ : (k ≤ c.rows.length) ∧ (out = c.rows.take k) ∧ Fr B K75 ∧ OwnL 23 1 H71 K75 RowV v74 out ∧ Fr B H71 := hJ78
    change KC _ _ (K75 :: _) [H71, sing b67 (.cells [.int .i64 c.kind, v15, v20, .int .i64 c.bound, v74].toArray 95 (0, 0)), sing b5 (.cells [.int .i64 (0 : Int), .slice none 0 0, .slice none 0 0, .int .i64 (0 : Int), .slice none 0 0].toArray 95 (0, 0))] _ ([(4, .int .i64 (k : Int))] ++ _)
    refine kc_seq (kc_seq (kc_region (kl_mv rfl (kl_fd rfl (by assumption) (fun p79 a80 => ?_)))))
    refine kl_ld rfl (by assumption) (kl_len rfl (by assumption) (fun l81 => ?_))
    refine kl_lss rfl rfl ?_
    refine kl_nil (kq_code (kc_if rfl (fun c82 => ?_) (fun c82 => ?_)))
    ·skip
     refine kc_skipQ (kq_code (kc_seq (kc_block (kc_tree (fun i => ([9, 11] : List Nat).contains i) [sing b67 (.cells [.int .i64 c.kind, v15, v20, .int .i64 c.bound, v74].toArray 95 (0, 0))] (by kernel_rfl) ?_))))
     refine kt_q 0 (.cons _ (.cons_cons _ (List.nil_sublist _))) rfl (by kernel_rfl) (kl_fdV rfl (kl_nil (kq_q (kt_q 1 (.cons _ (.cons_cons _ (List.nil_sublist _))) rfl (by kernel_rfl) (kl_ld rfl (at_box (T := 95) (cs := [.int .i64 c.kind, v15, v20, .int .i64 c.bound, v74]) (off := 4) (fz := (0, 0))) (kl_nil (kq_q (kt_q 2 (.cons _ (.cons_cons _ (List.nil_sublist _))) rfl (by kernel_rfl) (kl_fd rfl (by assumption) (fun p83 a84 => ?_))))))))))
     refine kl_nil (kq_q (kt_q 3 (.cons _ (.cons_cons _ (List.nil_sublist _))) rfl (by kernel_rfl) (kl_ld rfl (by assumption) (kl_nil (kq_q (kt_q 4 (.cons _ (.cons_cons _ (List.nil_sublist _))) rfl (by kernel_rfl) (kl_mv rfl (kl_nil (kq_q (kt_q 5 (.cons _ (.cons_cons _ (List.nil_sublist _))) rfl (by kernel_rfl) (kl_inS rfl rfl (by assumption) (by omega) (fun p85 u87 h88 a86 => ?_))))))))))))
     refine kl_nil (kq_q (kt_q 6 (.cons _ (.cons_cons _ (List.nil_sublist _))) rfl (by kernel_rfl) (kl_ld rfl (by assumption) (kl_nil (kq_q (kt_a 7 rfl (by kernel_rfl) (kl_call rfl rfl (copyInts_ok (c.rows.getD k []) (by first | omega | (have h6 := h5 _ (getD_mem (d := []) (by omega : k < c.rows.length)); omega)) (by assumption)) (fun v89 H90 f91 o92 => ?_))))))))
     have h93 := OwnL.ints o92
     refine kl_nil (kq_a (.cons _ (.cons_cons _ (List.nil_sublist _))) (kt_a 8 rfl (by kernel_rfl) (kl_bs rfl rfl rfl (by decide) (ca (by first | exact Sl.cells (by assumption) | exact OwnL.cells (by assumption)) ca_nil) (fun v94 H95 f96 r97 s98 => ?_))))
     refine kl_nil (kq_a (.cons _ (.cons_cons _ (List.nil_sublist _))) (kt_a 9 rfl (by kernel_rfl) (kl_cmp K75 H90 (fun c99 => ?_))))
     have o100 := OwnL.mono (K' := orHp K75 H90) o72 orL
     refine kl_apL (c.rows.getD k []) rfl rfl o100 (by assumption) ⟨_, rfl, Sl.mono (by assumption) (orC c99) (fun _ _ h => h)⟩ (oc (Sl.oneCell (by assumption)) oc_nil) (by (have h9 := congrArg List.length hi70; simp at h9; omega)) (by decide) (fun v101 H102 o103 f104 => ?_)
     have f105 := f104 B f73 (Nat.le_refl _)
     refine kl_nil (kq_x rfl (kt_q 10 (.cons _ (.cons_cons _ (List.nil_sublist _))) rfl (by kernel_rfl) (kl_fdV rfl (kl_nil (kq_q (kt_a 11 rfl (by kernel_rfl) (kl_stB rfl rfl rfl (OwnL.oneCell (by assumption)) (OwnL.cells (by assumption)) ?_)))))))
     refine kl_chg [H102, sing b67 (.cells [.int .i64 c.kind, v15, v20, .int .i64 c.bound, v101].toArray 95 (0, 0)), sing b5 (.cells [.int .i64 (0 : Int), .slice none 0 0, .slice none 0 0, .int .i64 (0 : Int), .slice none 0 0].toArray 95 (0, 0))] rfl ?_
     refine kl_nil (kq_x rfl (kt_end (by kernel_rfl) ?_))
     refine kq_code (kc_region (kl_mv rfl (kl_inc rfl rfl (by omega) ?_)))
     refine kl_as rfl (kl_nil (kq_take [H102, sing b67 (.cells [.int .i64 c.kind, v15, v20, .int .i64 c.bound, v101].toArray 95 (0, 0)), sing b5 (.cells [.int .i64 (0 : Int), .slice none 0 0, .slice none 0 0, .int .i64 (0 : Int), .slice none 0 0].toArray 95 (0, 0))] ?_))
     refine kq_roundK ((k + 1), (out ++ [(c.rows.getD k [])]), v101, H102, (orHp K75 H90)) (by omega) (⟨by omega, (by rw [hi70, take_succ_getD [] (by omega)]), (fr_or f76 f91), o103, f105⟩) (pc 4 rfl pn) (pc 1 rfl (pc 2 rfl (pc 3 rfl pn))) rfl (List.Sublist.refl _)
    ·skip
     refine kc_exit (kq_code (kc_seq (kc_region (kl_ldW rfl rfl (kl_stW (us := [.int .i64 c.kind, v15, v20, .int .i64 c.bound, v74]) rfl rfl rfl rfl (oc rfl (oc (Sl.oneCell (by assumption)) (oc (Sl.oneCell (by assumption)) (oc rfl (oc (OwnL.oneCell (by assumption)) oc_nil))))) rfl ?_)))))
     refine kl_chg [H71, sing b67 (.cells [.int .i64 c.kind, v15, v20, .int .i64 c.bound, v74].toArray 95 (0, 0)), sing b5 (.cells [.int .i64 c.kind, v15, v20, .int .i64 c.bound, v74].toArray 95 (0, 0))] rfl ?_
     refine kl_nil (kq_code (kc_ret (kq_frz H71 ?_)))
     refine kq_cmp H71 K75 (fun c106 => ?_)
     refine kq_cmp H21 (orHp H71 K75) (fun c107 => ?_)
     refine kq_cmp H16 (orHp H21 (orHp H71 K75)) (fun c108 => ?_)
     exact kq_retC rfl rfl rfl (orHp H16 (orHp H21 (orHp H71 K75))) (fr_or f17 (fr_or f22 (fr_or f73 f76))) ⟨⟨c.kind, c.vars, c.args, c.bound, out⟩, ⟨_, rfl, _, _, _, rfl, (Sl.mono (by assumption) (fun b o h => orL b o h) (fun _ _ h => h)), (Sl.mono (by assumption) (fun b o h => orC c108 b o (orL b o h)) (fun _ _ h => h)), (Rows.mono' (OwnL.rowsK o72 c106) (fun b o h => orC c108 b o (orC c107 b o h)))⟩, by (have h9 := hi70; rw [List.take_of_length_le (by omega)] at h9; rw [h9])⟩
  ·skip
   refine kl_alloc (cs := [.int .i64 (0 : Int), .slice none 0 0, .slice none 0 0, .int .i64 (0 : Int), .slice none 0 0]) rfl (fun b109 hb110 => ?_)
   refine kl_nil (kq_a (List.nil_sublist _) (kt_a 7 rfl (by kernel_rfl) (kl_call rfl rfl (copyInts_ok c.args (by first | omega | (have h6 := h5 _ (getD_mem (d := []) (by omega : k < c.rows.length)); omega)) (by assumption)) (fun v111 H112 f113 o114 => ?_))))
   have h115 := OwnL.ints o114
   refine kl_nil (kq_a (List.nil_sublist _) (kt_a 10 rfl (by kernel_rfl) (kl_bd rfl (cp rfl (cp (Sl.cells (by assumption)) (cp (Sl.cells (by assumption)) (cp rfl cp_nil)))) rfl ?_)))
   refine kl_nil (kq_x rfl (kt_a 12 rfl (by kernel_rfl) (kl_stW (us := [.int .i64 c.kind, v15, v111, .int .i64 c.bound, .slice none 0 0]) rfl rfl rfl rfl (oc rfl (oc (Sl.oneCell (by assumption)) (oc (Sl.oneCell (by assumption)) (oc rfl (oc rfl oc_nil))))) rfl ?_)))
   refine kl_chg [sing b109 (.cells [.int .i64 c.kind, v15, v111, .int .i64 c.bound, .slice none 0 0].toArray 95 (0, 0)), sing b5 (.cells [.int .i64 (0 : Int), .slice none 0 0, .slice none 0 0, .int .i64 (0 : Int), .slice none 0 0].toArray 95 (0, 0))] rfl ?_
   refine kl_nil (kq_x rfl (kt_end (by kernel_rfl) ?_))
   refine kq_code (kc_seq (kc_seq (kc_region (kl_as rfl (kl_nil (kq_code (kc_block (kc_no ?_))))))))
   refine kc_loopK (A := Nat × List (List Int) × Value × Hp × Hp) (fun zz => (zz.1 ≤ c.rows.length) ∧ (zz.2.1 = c.rows.take zz.1) ∧ Fr B zz.2.2.2.2 ∧ OwnL 23 1 zz.2.2.2.1 zz.2.2.2.2 RowV zz.2.2.1 zz.2.1 ∧ Fr B zz.2.2.2.1) (fun zz => c.rows.length - zz.1) (fun zz => zz.2.2.2.2) (fun zz => [zz.2.2.2.1, sing b109 (.cells [.int .i64 c.kind, v15, v111, .int .i64 c.bound, zz.2.2.1].toArray 95 (0, 0)), sing b5 (.cells [.int .i64 (0 : Int), .slice none 0 0, .slice none 0 0, .int .i64 (0 : Int), .slice none 0 0].toArray 95 (0, 0))]) (fun zz => [(4, .int .i64 (zz.1 : Int))]) (0, [], .slice none 0 0, noHp, noHp) (pc 1 rfl (pc 2 rfl (pc 3 rfl pn))) (pc 4 rfl pn) rfl ⟨Nat.zero_le _, rfl, (fr_no _), OwnL.nil, (fr_no _)⟩ ?_
   rintro ⟨k, out, v121, H118, K122⟩ hJ125
   obtain ⟨hk116, hi117, f123, o119, f120⟩ : (k ≤ c.rows.length) ∧ (out = c.rows.take k) ∧ Fr B K122 ∧ OwnL 23 1 H118 K122 RowV v121 out ∧ Fr B H118 := hJ125
   change KC _ _ (K122 :: _) [H118, sing b109 (.cells [.int .i64 c.kind, v15, v111, .int .i64 c.bound, v121].toArray 95 (0, 0)), sing b5 (.cells [.int .i64 (0 : Int), .slice none 0 0, .slice none 0 0, .int .i64 (0 : Int), .slice none 0 0].toArray 95 (0, 0))] _ ([(4, .int .i64 (k : Int))] ++ _)
   refine kc_seq (kc_seq (kc_region (kl_mv rfl (kl_fd rfl (by assumption) (fun p126 a127 => ?_)))))
   refine kl_ld rfl (by assumption) (kl_len rfl (by assumption) (fun l128 => ?_))
   refine kl_lss rfl rfl ?_
   refine kl_nil (kq_code (kc_if rfl (fun c129 => ?_) (fun c129 => ?_)))
   ·skip
    refine kc_skipQ (kq_code (kc_seq (kc_block (kc_tree (fun i => ([9, 11] : List Nat).contains i) [sing b109 (.cells [.int .i64 c.kind, v15, v111, .int .i64 c.bound, v121].toArray 95 (0, 0))] (by kernel_rfl) ?_))))
    refine kt_q 0 (.cons _ (.cons_cons _ (List.nil_sublist _))) rfl (by kernel_rfl) (kl_fdV rfl (kl_nil (kq_q (kt_q 1 (.cons _ (.cons_cons _ (List.nil_sublist _))) rfl (by kernel_rfl) (kl_ld rfl (at_box (T := 95) (cs := [.int .i64 c.kind, v15, v111, .int .i64 c.bound, v121]) (off := 4) (fz := (0, 0))) (kl_nil (kq_q (kt_q 2 (.cons _ (.cons_cons _ (List.nil_sublist _))) rfl (by kernel_rfl) (kl_fd rfl (by assumption) (fun p130 a131 => ?_))))))))))
    refine kl_nil (kq_q (kt_q 3 (.cons _ (.cons_cons _ (List.nil_sublist _))) rfl (by kernel_rfl) (kl_ld rfl (by assumption) (kl_nil (kq_q (kt_q 4 (.cons _ (.cons_cons _ (List.nil_sublist _))) rfl (by kernel_rfl) (kl_mv rfl (kl_nil (kq_q (kt_q 5 (.cons _ (.cons_cons _ (List.nil_sublist _))) rfl (by kernel_rfl) (kl_inS rfl rfl (by assumption) (by omega) (fun p132 u134 h135 a133 => ?_))))))))))))
    refine kl_nil (kq_q (kt_q 6 (.cons _ (.cons_cons _ (List.nil_sublist _))) rfl (by kernel_rfl) (kl_ld rfl (by assumption) (kl_nil (kq_q (kt_a 7 rfl (by kernel_rfl) (kl_call rfl rfl (copyInts_ok (c.rows.getD k []) (by first | omega | (have h6 := h5 _ (getD_mem (d := []) (by omega : k < c.rows.length)); omega)) (by assumption)) (fun v136 H137 f138 o139 => ?_))))))))
    have h140 := OwnL.ints o139
    refine kl_nil (kq_a (.cons _ (.cons_cons _ (List.nil_sublist _))) (kt_a 8 rfl (by kernel_rfl) (kl_bs rfl rfl rfl (by decide) (ca (by first | exact Sl.cells (by assumption) | exact OwnL.cells (by assumption)) ca_nil) (fun v141 H142 f143 r144 s145 => ?_))))
    refine kl_nil (kq_a (.cons _ (.cons_cons _ (List.nil_sublist _))) (kt_a 9 rfl (by kernel_rfl) (kl_cmp K122 H137 (fun c146 => ?_))))
    have o147 := OwnL.mono (K' := orHp K122 H137) o119 orL
    refine kl_apL (c.rows.getD k []) rfl rfl o147 (by assumption) ⟨_, rfl, Sl.mono (by assumption) (orC c146) (fun _ _ h => h)⟩ (oc (Sl.oneCell (by assumption)) oc_nil) (by (have h9 := congrArg List.length hi117; simp at h9; omega)) (by decide) (fun v148 H149 o150 f151 => ?_)
    have f152 := f151 B f120 (Nat.le_refl _)
    refine kl_nil (kq_x rfl (kt_q 10 (.cons _ (.cons_cons _ (List.nil_sublist _))) rfl (by kernel_rfl) (kl_fdV rfl (kl_nil (kq_q (kt_a 11 rfl (by kernel_rfl) (kl_stB rfl rfl rfl (OwnL.oneCell (by assumption)) (OwnL.cells (by assumption)) ?_)))))))
    refine kl_chg [H149, sing b109 (.cells [.int .i64 c.kind, v15, v111, .int .i64 c.bound, v148].toArray 95 (0, 0)), sing b5 (.cells [.int .i64 (0 : Int), .slice none 0 0, .slice none 0 0, .int .i64 (0 : Int), .slice none 0 0].toArray 95 (0, 0))] rfl ?_
    refine kl_nil (kq_x rfl (kt_end (by kernel_rfl) ?_))
    refine kq_code (kc_region (kl_mv rfl (kl_inc rfl rfl (by omega) ?_)))
    refine kl_as rfl (kl_nil (kq_take [H149, sing b109 (.cells [.int .i64 c.kind, v15, v111, .int .i64 c.bound, v148].toArray 95 (0, 0)), sing b5 (.cells [.int .i64 (0 : Int), .slice none 0 0, .slice none 0 0, .int .i64 (0 : Int), .slice none 0 0].toArray 95 (0, 0))] ?_))
    refine kq_roundK ((k + 1), (out ++ [(c.rows.getD k [])]), v148, H149, (orHp K122 H137)) (by omega) (⟨by omega, (by rw [hi117, take_succ_getD [] (by omega)]), (fr_or f123 f138), o150, f152⟩) (pc 4 rfl pn) (pc 1 rfl (pc 2 rfl (pc 3 rfl pn))) rfl (List.Sublist.refl _)
   ·skip
    refine kc_exit (kq_code (kc_seq (kc_region (kl_ldW rfl rfl (kl_stW (us := [.int .i64 c.kind, v15, v111, .int .i64 c.bound, v121]) rfl rfl rfl rfl (oc rfl (oc (Sl.oneCell (by assumption)) (oc (Sl.oneCell (by assumption)) (oc rfl (oc (OwnL.oneCell (by assumption)) oc_nil))))) rfl ?_)))))
    refine kl_chg [H118, sing b109 (.cells [.int .i64 c.kind, v15, v111, .int .i64 c.bound, v121].toArray 95 (0, 0)), sing b5 (.cells [.int .i64 c.kind, v15, v111, .int .i64 c.bound, v121].toArray 95 (0, 0))] rfl ?_
    refine kl_nil (kq_code (kc_ret (kq_frz H118 ?_)))
    refine kq_cmp H118 K122 (fun c153 => ?_)
    refine kq_cmp H112 (orHp H118 K122) (fun c154 => ?_)
    refine kq_cmp H16 (orHp H112 (orHp H118 K122)) (fun c155 => ?_)
    exact kq_retC rfl rfl rfl (orHp H16 (orHp H112 (orHp H118 K122))) (fr_or f17 (fr_or f113 (fr_or f120 f123))) ⟨⟨c.kind, c.vars, c.args, c.bound, out⟩, ⟨_, rfl, _, _, _, rfl, (Sl.mono (by assumption) (fun b o h => orL b o h) (fun _ _ h => h)), (Sl.mono (by assumption) (fun b o h => orC c155 b o (orL b o h)) (fun _ _ h => h)), (Rows.mono' (OwnL.rowsK o119 c153) (fun b o h => orC c155 b o (orC c154 b o h)))⟩, by (have h9 := hi117; rw [List.take_of_length_le (by omega)] at h9; rw [h9])⟩
 ·skip
  refine kl_alloc (cs := [.int .i64 (0 : Int), .slice none 0 0, .slice none 0 0, .int .i64 (0 : Int), .slice none 0 0]) rfl (fun b156 hb157 => ?_)
  refine kl_nil (kq_a (List.nil_sublist _) (kt_a 4 rfl (by kernel_rfl) (kl_call rfl rfl (copyInts_ok c.vars (by first | omega | (have h6 := h5 _ (getD_mem (d := []) (by omega : k < c.rows.length)); omega)) (by assumption)) (fun v158 H159 f160 o161 => ?_))))
  have h162 := OwnL.ints o161
  refine kl_nil (kq_a (List.nil_sublist _) (kt_a 7 rfl (by kernel_rfl) (kl_call rfl rfl (copyInts_ok c.args (by first | omega | (have h6 := h5 _ (getD_mem (d := []) (by omega : k < c.rows.length)); omega)) (by assumption)) (fun v163 H164 f165 o166 => ?_))))
  have h167 := OwnL.ints o166
  refine kl_nil (kq_a (List.nil_sublist _) (kt_a 10 rfl (by kernel_rfl) (kl_bd rfl (cp rfl (cp (Sl.cells (by assumption)) (cp (Sl.cells (by assumption)) (cp rfl cp_nil)))) rfl ?_)))
  refine kl_nil (kq_x rfl (kt_a 12 rfl (by kernel_rfl) (kl_stW (us := [.int .i64 c.kind, v158, v163, .int .i64 c.bound, .slice none 0 0]) rfl rfl rfl rfl (oc rfl (oc (Sl.oneCell (by assumption)) (oc (Sl.oneCell (by assumption)) (oc rfl (oc rfl oc_nil))))) rfl ?_)))
  refine kl_chg [sing b156 (.cells [.int .i64 c.kind, v158, v163, .int .i64 c.bound, .slice none 0 0].toArray 95 (0, 0)), sing b5 (.cells [.int .i64 (0 : Int), .slice none 0 0, .slice none 0 0, .int .i64 (0 : Int), .slice none 0 0].toArray 95 (0, 0))] rfl ?_
  refine kl_nil (kq_x rfl (kt_end (by kernel_rfl) ?_))
  refine kq_code (kc_seq (kc_seq (kc_region (kl_as rfl (kl_nil (kq_code (kc_block (kc_no ?_))))))))
  refine kc_loopK (A := Nat × List (List Int) × Value × Hp × Hp) (fun zz => (zz.1 ≤ c.rows.length) ∧ (zz.2.1 = c.rows.take zz.1) ∧ Fr B zz.2.2.2.2 ∧ OwnL 23 1 zz.2.2.2.1 zz.2.2.2.2 RowV zz.2.2.1 zz.2.1 ∧ Fr B zz.2.2.2.1) (fun zz => c.rows.length - zz.1) (fun zz => zz.2.2.2.2) (fun zz => [zz.2.2.2.1, sing b156 (.cells [.int .i64 c.kind, v158, v163, .int .i64 c.bound, zz.2.2.1].toArray 95 (0, 0)), sing b5 (.cells [.int .i64 (0 : Int), .slice none 0 0, .slice none 0 0, .int .i64 (0 : Int), .slice none 0 0].toArray 95 (0, 0))]) (fun zz => [(4, .int .i64 (zz.1 : Int))]) (0, [], .slice none 0 0, noHp, noHp) (pc 1 rfl (pc 2 rfl (pc 3 rfl pn))) (pc 4 rfl pn) rfl ⟨Nat.zero_le _, rfl, (fr_no _), OwnL.nil, (fr_no _)⟩ ?_
  rintro ⟨k, out, v173, H170, K174⟩ hJ177
  obtain ⟨hk168, hi169, f175, o171, f172⟩ : (k ≤ c.rows.length) ∧ (out = c.rows.take k) ∧ Fr B K174 ∧ OwnL 23 1 H170 K174 RowV v173 out ∧ Fr B H170 := hJ177
  change KC _ _ (K174 :: _) [H170, sing b156 (.cells [.int .i64 c.kind, v158, v163, .int .i64 c.bound, v173].toArray 95 (0, 0)), sing b5 (.cells [.int .i64 (0 : Int), .slice none 0 0, .slice none 0 0, .int .i64 (0 : Int), .slice none 0 0].toArray 95 (0, 0))] _ ([(4, .int .i64 (k : Int))] ++ _)
  refine kc_seq (kc_seq (kc_region (kl_mv rfl (kl_fd rfl (by assumption) (fun p178 a179 => ?_)))))
  refine kl_ld rfl (by assumption) (kl_len rfl (by assumption) (fun l180 => ?_))
  refine kl_lss rfl rfl ?_
  refine kl_nil (kq_code (kc_if rfl (fun c181 => ?_) (fun c181 => ?_)))
  ·skip
   refine kc_skipQ (kq_code (kc_seq (kc_block (kc_tree (fun i => ([9, 11] : List Nat).contains i) [sing b156 (.cells [.int .i64 c.kind, v158, v163, .int .i64 c.bound, v173].toArray 95 (0, 0))] (by kernel_rfl) ?_))))
   refine kt_q 0 (.cons _ (.cons_cons _ (List.nil_sublist _))) rfl (by kernel_rfl) (kl_fdV rfl (kl_nil (kq_q (kt_q 1 (.cons _ (.cons_cons _ (List.nil_sublist _))) rfl (by kernel_rfl) (kl_ld rfl (at_box (T := 95) (cs := [.int .i64 c.kind, v158, v163, .int .i64 c.bound, v173]) (off := 4) (fz := (0, 0))) (kl_nil (kq_q (kt_q 2 (.cons _ (.cons_cons _ (List.nil_sublist _))) rfl (by kernel_rfl) (kl_fd rfl (by assumption) (fun p182 a183 => ?_))))))))))
   refine kl_nil (kq_q (kt_q 3 (.cons _ (.cons_cons _ (List.nil_sublist _))) rfl (by kernel_rfl) (kl_ld rfl (by assumption) (kl_nil (kq_q (kt_q 4 (.cons _ (.cons_cons _ (List.nil_sublist _))) rfl (by kernel_rfl) (kl_mv rfl (kl_nil (kq_q (kt_q 5 (.cons _ (.cons_cons _ (List.nil_sublist _))) rfl (by kernel_rfl) (kl_inS rfl rfl (by assumption) (by omega) (fun p184 u186 h187 a185 => ?_))))))))))))
   refine kl_nil (kq_q (kt_q 6 (.cons _ (.cons_cons _ (List.nil_sublist _))) rfl (by kernel_rfl) (kl_ld rfl (by assumption) (kl_nil (kq_q (kt_a 7 rfl (by kernel_rfl) (kl_call rfl rfl (copyInts_ok (c.rows.getD k []) (by first | omega | (have h6 := h5 _ (getD_mem (d := []) (by omega : k < c.rows.length)); omega)) (by assumption)) (fun v188 H189 f190 o191 => ?_))))))))
   have h192 := OwnL.ints o191
   refine kl_nil (kq_a (.cons _ (.cons_cons _ (List.nil_sublist _))) (kt_a 8 rfl (by kernel_rfl) (kl_bs rfl rfl rfl (by decide) (ca (by first | exact Sl.cells (by assumption) | exact OwnL.cells (by assumption)) ca_nil) (fun v193 H194 f195 r196 s197 => ?_))))
   refine kl_nil (kq_a (.cons _ (.cons_cons _ (List.nil_sublist _))) (kt_a 9 rfl (by kernel_rfl) (kl_cmp K174 H189 (fun c198 => ?_))))
   have o199 := OwnL.mono (K' := orHp K174 H189) o171 orL
   refine kl_apL (c.rows.getD k []) rfl rfl o199 (by assumption) ⟨_, rfl, Sl.mono (by assumption) (orC c198) (fun _ _ h => h)⟩ (oc (Sl.oneCell (by assumption)) oc_nil) (by (have h9 := congrArg List.length hi169; simp at h9; omega)) (by decide) (fun v200 H201 o202 f203 => ?_)
   have f204 := f203 B f172 (Nat.le_refl _)
   refine kl_nil (kq_x rfl (kt_q 10 (.cons _ (.cons_cons _ (List.nil_sublist _))) rfl (by kernel_rfl) (kl_fdV rfl (kl_nil (kq_q (kt_a 11 rfl (by kernel_rfl) (kl_stB rfl rfl rfl (OwnL.oneCell (by assumption)) (OwnL.cells (by assumption)) ?_)))))))
   refine kl_chg [H201, sing b156 (.cells [.int .i64 c.kind, v158, v163, .int .i64 c.bound, v200].toArray 95 (0, 0)), sing b5 (.cells [.int .i64 (0 : Int), .slice none 0 0, .slice none 0 0, .int .i64 (0 : Int), .slice none 0 0].toArray 95 (0, 0))] rfl ?_
   refine kl_nil (kq_x rfl (kt_end (by kernel_rfl) ?_))
   refine kq_code (kc_region (kl_mv rfl (kl_inc rfl rfl (by omega) ?_)))
   refine kl_as rfl (kl_nil (kq_take [H201, sing b156 (.cells [.int .i64 c.kind, v158, v163, .int .i64 c.bound, v200].toArray 95 (0, 0)), sing b5 (.cells [.int .i64 (0 : Int), .slice none 0 0, .slice none 0 0, .int .i64 (0 : Int), .slice none 0 0].toArray 95 (0, 0))] ?_))
   refine kq_roundK ((k + 1), (out ++ [(c.rows.getD k [])]), v200, H201, (orHp K174 H189)) (by omega) (⟨by omega, (by rw [hi169, take_succ_getD [] (by omega)]), (fr_or f175 f190), o202, f204⟩) (pc 4 rfl pn) (pc 1 rfl (pc 2 rfl (pc 3 rfl pn))) rfl (List.Sublist.refl _)
  ·skip
   refine kc_exit (kq_code (kc_seq (kc_region (kl_ldW rfl rfl (kl_stW (us := [.int .i64 c.kind, v158, v163, .int .i64 c.bound, v173]) rfl rfl rfl rfl (oc rfl (oc (Sl.oneCell (by assumption)) (oc (Sl.oneCell (by assumption)) (oc rfl (oc (OwnL.oneCell (by assumption)) oc_nil))))) rfl ?_)))))
   refine kl_chg [H170, sing b156 (.cells [.int .i64 c.kind, v158, v163, .int .i64 c.bound, v173].toArray 95 (0, 0)), sing b5 (.cells [.int .i64 c.kind, v158, v163, .int .i64 c.bound, v173].toArray 95 (0, 0))] rfl ?_
   refine kl_nil (kq_code (kc_ret (kq_frz H170 ?_)))
   refine kq_cmp H170 K174 (fun c205 => ?_)
   refine kq_cmp H164 (orHp H170 K174) (fun c206 => ?_)
   refine kq_cmp H159 (orHp H164 (orHp H170 K174)) (fun c207 => ?_)
   exact kq_retC rfl rfl rfl (orHp H159 (orHp H164 (orHp H170 K174))) (fr_or f160 (fr_or f165 (fr_or f172 f175))) ⟨⟨c.kind, c.vars, c.args, c.bound, out⟩, ⟨_, rfl, _, _, _, rfl, (Sl.mono (by assumption) (fun b o h => orL b o h) (fun _ _ h => h)), (Sl.mono (by assumption) (fun b o h => orC c207 b o (orL b o h)) (fun _ _ h => h)), (Rows.mono' (OwnL.rowsK o171 c205) (fun b o h => orC c207 b o (orC c206 b o h)))⟩, by (have h9 := hi169; rw [List.take_of_length_le (by omega)] at h9; rw [h9])⟩
theorem copyModE_ok {Hmd : Hp} {vmd : Value} {Hmc : Hp} {vmc : Value} (m : Mod) (hm : ModSm 100 m) (hmd : Ints Hmd vmd m.doms) (hmc : Cons Hmc vmc m.cons) : SpecT Tryz.prog 121 [.agg #[vmd, vmc]] [] [Hmd, Hmc] (fun vq L1 Ln Kq => L1 = [] ∧ ∃ (Hq Mq : Hp) (va vc : Value) (mq : Mod), vq = .agg #[va, vc] ∧ Ln = [Hq, Mq] ∧ OwnL 3 1 Hq noHp IntV va mq.doms ∧ OwnL 95 5 Mq Kq ConV vc mq.cons ∧ mq = m) := by
 have h1 := hm.d1
 have h2 := hm.d
 have h3 := hm.c
 have h4 := hm.cc
 refine specT_of Tryz.func121 rfl rfl rfl (fun B => ?_)
 refine kc_seq (kc_region (kl_box rfl rfl (fun p1 H2 f3 a4 => ?_)))
 refine kl_alloc (cs := [.slice none 0 0, .slice none 0 0]) rfl (fun b5 hb6 => ?_)
 refine kl_nil (kq_code (kc_seq (kc_region (kl_fd rfl (by assumption) (fun p7 a8 => ?_)))))
 refine kl_ld rfl (by assumption) (kl_callL rfl rfl (copyInts_ok m.doms (by omega) (by assumption)) (fun v9 H10 f11 o12 => ?_))
 refine kl_bd rfl (cp (OwnL.cells (by assumption)) cp_nil) rfl ?_
 refine kl_alloc (cs := [.slice none 0 0, .slice none 0 0]) rfl (fun b13 hb14 => ?_)
 refine kl_stW (us := [v9, .slice none 0 0]) rfl rfl rfl rfl (oc (OwnL.oneCell (by assumption)) (oc rfl oc_nil)) rfl ?_
 refine kl_chg [sing b13 (.cells [v9, .slice none 0 0].toArray 26 (0, 0)), H10, sing b5 (.cells [.slice none 0 0, .slice none 0 0].toArray 26 (0, 0))] rfl ?_
 refine kl_nil (kq_code (kc_seq (kc_seq (kc_region (kl_as rfl (kl_nil (kq_code (kc_block (kc_no ?_)))))))))
 refine kc_loopK (A := Nat × List Con × Value × Hp × Hp) (fun zz => (zz.1 ≤ m.cons.length) ∧ (zz.2.1 = m.cons.take zz.1) ∧ Fr B zz.2.2.2.2 ∧ OwnL 95 5 zz.2.2.2.1 zz.2.2.2.2 ConV zz.2.2.1 zz.2.1 ∧ Fr B zz.2.2.2.1) (fun zz => m.cons.length - zz.1) (fun zz => zz.2.2.2.2) (fun zz => [zz.2.2.2.1, sing b13 (.cells [v9, zz.2.2.1].toArray 26 (0, 0)), H10, sing b5 (.cells [.slice none 0 0, .slice none 0 0].toArray 26 (0, 0))]) (fun zz => [(4, .int .i64 (zz.1 : Int))]) (0, [], .slice none 0 0, noHp, noHp) (pc 1 rfl (pc 2 rfl (pc 3 rfl pn))) (pc 4 rfl pn) rfl ⟨Nat.zero_le _, rfl, (fr_no _), OwnL.nil, (fr_no _)⟩ ?_
 rintro ⟨k, out, v20, H17, K21⟩ hJ24
 obtain ⟨hk15, hi16, f22, o18, f19⟩ : (k ≤ m.cons.length) ∧ (out = m.cons.take k) ∧ Fr B K21 ∧ OwnL 95 5 H17 K21 ConV v20 out ∧ Fr B H17 := hJ24
 change KC _ _ (K21 :: _) [H17, sing b13 (.cells [v9, v20].toArray 26 (0, 0)), H10, sing b5 (.cells [.slice none 0 0, .slice none 0 0].toArray 26 (0, 0))] _ ([(4, .int .i64 (k : Int))] ++ _)
 refine kc_seq (kc_seq (kc_region (kl_mv rfl (kl_fd rfl (by assumption) (fun p25 a26 => ?_)))))
 refine kl_ld rfl (by assumption) (kl_len rfl (by assumption) (fun l27 => ?_))
 refine kl_lss rfl rfl ?_
 refine kl_nil (kq_code (kc_if rfl (fun c28 => ?_) (fun c28 => ?_)))
 ·skip
  refine kc_skipQ (kq_code (kc_seq (kc_block (kc_tree (fun i => ([9, 11] : List Nat).contains i) [sing b13 (.cells [v9, v20].toArray 26 (0, 0))] (by kernel_rfl) ?_))))
  refine kt_q 0 (.cons _ (.cons_cons _ (List.nil_sublist _))) rfl (by kernel_rfl) (kl_fdV rfl (kl_nil (kq_q (kt_q 1 (.cons _ (.cons_cons _ (List.nil_sublist _))) rfl (by kernel_rfl) (kl_ld rfl (at_box (T := 26) (cs := [v9, v20]) (off := 1) (fz := (0, 0))) (kl_nil (kq_q (kt_q 2 (.cons _ (.cons_cons _ (List.nil_sublist _))) rfl (by kernel_rfl) (kl_fd rfl (by assumption) (fun p29 a30 => ?_))))))))))
  refine kl_nil (kq_q (kt_q 3 (.cons _ (.cons_cons _ (List.nil_sublist _))) rfl (by kernel_rfl) (kl_ld rfl (by assumption) (kl_nil (kq_q (kt_q 4 (.cons _ (.cons_cons _ (List.nil_sublist _))) rfl (by kernel_rfl) (kl_mv rfl (kl_nil (kq_q (kt_q 5 (.cons _ (.cons_cons _ (List.nil_sublist _))) rfl (by kernel_rfl) (kl_inC rfl rfl (by assumption) (by omega) (fun p31 u33 u34 u35 h36 h37 h38 a32 => ?_))))))))))))
  refine kl_nil (kq_q (kt_q 6 (.cons _ (.cons_cons _ (List.nil_sublist _))) rfl (by kernel_rfl) (kl_ldS rfl (by assumption) rfl ?_)))
  refine kl_nil (kq_q (kt_a 7 rfl (by kernel_rfl) (kl_call rfl rfl (copyConE_ok (m.cons.getD k nilCon) (h4 _ (getD_mem (by omega))) (by assumption) (by assumption) (by assumption)) (fun v39 H40 f41 h42 => ?_))))
  obtain ⟨z43, h45, h44⟩ := h42
  have hce := h44
  obtain ⟨_, rfl, h49⟩ := h45
  have h49' := h49
  obtain ⟨u46, u47, u48, rfl, h50, h51, h52⟩ := h49
  refine kl_nil (kq_a (.cons _ (.cons_cons _ (List.nil_sublist _))) (kt_a 8 rfl (by kernel_rfl) (kl_bsK rfl (fun v53 H54 f55 r56 => ?_))))
  refine kl_nil (kq_a (.cons _ (.cons_cons _ (List.nil_sublist _))) (kt_a 9 rfl (by kernel_rfl) (kl_cmp K21 H40 (fun c57 => ?_))))
  have o58 := OwnL.mono (K' := orHp K21 H40) o18 orL
  refine kl_apL z43 rfl rfl o58 r56 (RMono.mono (orC c57) (by assumption)) (oc rfl (oc (Sl.oneCell (by assumption)) (oc (Sl.oneCell (by assumption)) (oc rfl (oc (Sl.oneCell (by assumption)) oc_nil))))) (by (have h9 := congrArg List.length hi16; simp at h9; omega)) (by decide) (fun v59 H60 o61 f62 => ?_)
  have f63 := f62 B f19 (Nat.le_refl _)
  refine kl_nil (kq_x rfl (kt_q 10 (.cons _ (.cons_cons _ (List.nil_sublist _))) rfl (by kernel_rfl) (kl_fdV rfl (kl_nil (kq_q (kt_a 11 rfl (by kernel_rfl) (kl_stB rfl rfl rfl (OwnL.oneCell (by assumption)) (OwnL.cells (by assumption)) ?_)))))))
  refine kl_chg [H60, sing b13 (.cells [v9, v59].toArray 26 (0, 0)), H10, sing b5 (.cells [.slice none 0 0, .slice none 0 0].toArray 26 (0, 0))] rfl ?_
  refine kl_nil (kq_x rfl (kt_end (by kernel_rfl) ?_))
  refine kq_code (kc_region (kl_mv rfl (kl_inc rfl rfl (by omega) ?_)))
  refine kl_as rfl (kl_nil (kq_take [H60, sing b13 (.cells [v9, v59].toArray 26 (0, 0)), H10, sing b5 (.cells [.slice none 0 0, .slice none 0 0].toArray 26 (0, 0))] ?_))
  refine kq_roundK ((k + 1), (out ++ [z43]), v59, H60, (orHp K21 H40)) (by omega) (⟨by omega, (by rw [hi16, hce, take_succ_getD nilCon (by omega)]), (fr_or f22 f41), o61, f63⟩) (pc 4 rfl pn) (pc 1 rfl (pc 2 rfl (pc 3 rfl pn))) rfl (List.Sublist.refl _)
 ·skip
  refine kc_exit (kq_code (kc_seq (kc_region (kl_ldW rfl rfl (kl_stW (us := [v9, v20]) rfl rfl rfl rfl (oc (OwnL.oneCell (by assumption)) (oc (OwnL.oneCell (by assumption)) oc_nil)) rfl ?_)))))
  refine kl_chg [H17, sing b13 (.cells [v9, v20].toArray 26 (0, 0)), H10, sing b5 (.cells [v9, v20].toArray 26 (0, 0))] rfl ?_
  refine kl_nil (kq_code (kc_ret ?_))
  exact kq_retTC rfl rfl rfl [] [H10, H17] K21 (frc f11 (fr1 f19)) f22 ⟨rfl, H10, H17, _, _, (⟨m.doms, out⟩ : Mod), rfl, rfl, o12, o18, by (have h9 := hi16; rw [List.take_of_length_le (by omega)] at h9; rw [h9])⟩
end Go.Proofs.YtojinjdobjodaaaGreat
