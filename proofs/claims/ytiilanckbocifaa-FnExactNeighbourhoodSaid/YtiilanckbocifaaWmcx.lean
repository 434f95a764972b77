/- Walks of functions of the program: each returns what the plain function gives. Conditions: those that each statement names. -/
import Derived.Test.YtiilanckbocifaaWrd
import Derived.Test.YtiilanckbocifaaWssat
import Derived.Test.YtiilanckbocifaaWsat
import Derived.Test.YtiilanckbocifaaWvalid
import Derived.Test.YtiilanckbocifaaCut
import Derived.Test.YtiilanckbocifaaPureE
import Derived.Test.YtiilanckbocifaaSepM
import Derived.Test.YtiilanckbocifaaPureMk
import Derived.Test.YtiilanckbocifaaWmark
namespace Go.Proofs.Ytiilanckbocifaa
open Go
set_option linter.unusedSimpArgs false
set_option linter.unusedVariables false
theorem copyConX_ok {Hcv : Hp} {vcv : Value} {Hca : Hp} {vca : Value} {Hcr : Hp} {vcr : Value} (c : Con) (hc : ConSm 100 c) (hp : ∀ r ∈ c.rows, 0 < r.length) (hcv : Ints Hcv vcv c.vars) (hca : Ints Hca vca c.args) (hcr : Rows Hcr vcr c.rows) : SpecT Try.prog 29 [.agg #[.int .i64 c.kind, vcv, vca, .int .i64 c.bound, vcr]] [] [Hcv, Hca, Hcr] ((fun vq L1 Ln Kq => L1 = [] ∧ ∃ (P : Hp) (r : RawC), Ln = [P] ∧ vq = .agg #[.int .i64 r.kind, r.va, r.vb, .int .i64 r.bound, r.vr] ∧ Pc 23 3 P r c)) := by
 have h1 := hc.v1
 have h2 := hc.v
 have h3 := hc.a
 have h4 := hc.r
 have h5 := hc.rr
 refine specT_of Try.func29 rfl rfl rfl (fun B => ?_)
 refine kc_seq (kc_region (kl_box rfl rfl (fun p1 H2 f3 a4 => ?_)))
 refine kl_alloc (cs := [.int .i64 (0 : Int), .slice none 0 0, .slice none 0 0, .int .i64 (0 : Int), .slice none 0 0]) rfl (fun b5 hb6 => ?_)
 refine kl_nil (kq_code (kc_seq (kc_region (kl_fd rfl (by assumption) (fun p7 a8 => ?_)))))
 refine kl_ld rfl (by assumption) (kl_len rfl (by assumption) (fun l9 => ?_))
 refine kl_mkL0 (R := RowV) rfl rfl (by omega) (by omega) (by decide) (fun v10 H11 f12 o13 => ?_)
 refine kl_no ?_
 have o14 : Mat 23 3 encI H11 noHp v10 [] [] := Mat.ofL o13
 refine kl_as rfl (kl_nil (kq_code (kc_seq (kc_seq (kc_region (kl_fd rfl (by assumption) (fun p16 a17 => ?_)))))))
 refine kl_ld rfl (by assumption) (kl_len rfl (by assumption) (fun l18 => ?_))
 refine kl_mv rfl (kl_nil (kq_code (kc_block (kc_loopL (A := Nat × List (List Int) × Value × Hp × List Value × Hp) (fun zz => (zz.1 ≤ c.rows.length) ∧ (zz.2.1 = c.rows.take zz.1) ∧ Mat 23 3 encI zz.2.2.2.1 zz.2.2.2.2.2 zz.2.2.1 zz.2.2.2.2.1 zz.2.1 ∧ Fr B zz.2.2.2.2.2 ∧ Fr B zz.2.2.2.1) (fun zz => c.rows.length - zz.1) (fun zz => [zz.2.2.2.2.2, zz.2.2.2.1, sing b5 (.cells [.int .i64 (0 : Int), .slice none 0 0, .slice none 0 0, .int .i64 (0 : Int), .slice none 0 0].toArray 53 (0, 0))]) (fun zz => [(13, .int .i64 (zz.1 : Int)), (3, zz.2.2.1)]) (0, ([]), v10, H11, ([]), noHp) (pc 1 rfl (pc 2 rfl (pc 11 rfl (pc 12 rfl pn)))) (pc 13 rfl (pc 3 rfl pn)) rfl ⟨Nat.zero_le _, rfl, o14, (fr_no _), f12⟩ ?_))))
 rintro ⟨k, out, v23, H24, us25, K21⟩ hJ28
 obtain ⟨hk19, hi20, o22, f26, f27⟩ : (k ≤ c.rows.length) ∧ (out = c.rows.take k) ∧ Mat 23 3 encI H24 K21 v23 us25 out ∧ Fr B K21 ∧ Fr B H24 := hJ28
 change KC _ _ (_) [K21, H24, sing b5 (.cells [.int .i64 (0 : Int), .slice none 0 0, .slice none 0 0, .int .i64 (0 : Int), .slice none 0 0].toArray 53 (0, 0))] _ ([(13, .int .i64 (k : Int)), (3, v23)] ++ _)
 have o29 := Mat.raw o22
 refine kc_seq (kc_region (kl_lss rfl rfl ?_))
 refine kl_nil (kq_code (kc_seq (kc_if rfl (fun c30 => ?_) (fun c30 => ?_))))
 ·skip
  refine kc_skipQ (kq_code (kc_seq (kc_block (kc_seq (kc_region (kl_inS rfl rfl (by assumption) (by omega) (fun p31 u33 h34 a32 => ?_)))))))
  refine kl_ld rfl (by assumption) (kl_as rfl (kl_nil (kq_code (kc_region (kl_mv rfl (kl_mv rfl (kl_callL rfl rfl (copied_ok (c.rows.getD k []) (by first | omega | (have h6 := h5 _ (getD_mem (d := []) (by omega : k < c.rows.length)); omega)) (by assumption)) (fun v35 H36 f37 o38 => ?_))))))))
  refine kl_bs rfl rfl rfl (by decide) (ca (by first | exact Sl.cells (by assumption) | exact OwnL.cells (by assumption)) ca_nil) (fun v39 H40 f41 r42 s43 => ?_)
  refine kl_apart K21 H36 (fun a49 => ?_)
  refine kl_app rfl rfl o22.hd (by assumption) (oc (OwnL.oneCell o38) oc_nil) (by (have h9 := congrArg List.length hi20; simp at h9; omega)) (by decide) (fun v44 H45 o46 f47 => ?_)
  have f48 := f47 B f27 (Nat.le_refl _)
  have m50 := Mat.push o22 o46 (OwnL.imap o38) (by (exact hp _ (getD_mem (by omega)))) (OwnL.liq o38) a49
  refine kl_mrg K21 H36 ?_
  refine kl_as rfl (kl_nil (kq_code (kc_region (kl_inc rfl rfl (by omega) ?_))))
  refine kl_mv rfl (kl_nil (kq_take [(orHp K21 H36), H45, sing b5 (.cells [.int .i64 (0 : Int), .slice none 0 0, .slice none 0 0, .int .i64 (0 : Int), .slice none 0 0].toArray 53 (0, 0))] ?_))
  refine kq_roundL ((k + 1), (out ++ [(c.rows.getD k [])]), v44, H45, (us25 ++ [v35]), (orHp K21 H36)) (by omega) (⟨by omega, (by rw [hi20, take_succ_getD [] (by omega)]), m50, (fr_or f26 f37), f48⟩) (pc 13 rfl (pc 3 rfl pn)) (pc 1 rfl (pc 2 rfl (pc 11 rfl (pc 12 rfl pn)))) rfl (List.Sublist.refl _)
 ·skip
  refine kc_exit (kq_code (kc_seq (kc_tree (fun i => ([11, 12] : List Nat).contains i) [] (by kernel_rfl) ?_)))
  refine kt_q 0 (List.nil_sublist _) rfl (by kernel_rfl) (kl_fd rfl (by assumption) (fun p51 a52 => ?_))
  refine kl_nil (kq_q (kt_q 1 (List.nil_sublist _) rfl (by kernel_rfl) (kl_ld rfl (by assumption) (kl_nil (kq_q (kt_q 2 (List.nil_sublist _) rfl (by kernel_rfl) (kl_fd rfl (by assumption) (fun p53 a54 => ?_))))))))
  refine kl_nil (kq_q (kt_q 3 (List.nil_sublist _) rfl (by kernel_rfl) (kl_ld rfl (by assumption) (kl_nil (kq_q (kt_q 5 (List.nil_sublist _) rfl (by kernel_rfl) (kl_fd rfl (by assumption) (fun p55 a56 => ?_))))))))
  refine kl_nil (kq_q (kt_q 6 (List.nil_sublist _) rfl (by kernel_rfl) (kl_ld rfl (by assumption) (kl_nil (kq_q (kt_q 8 (List.nil_sublist _) rfl (by kernel_rfl) (kl_fd rfl (by assumption) (fun p57 a58 => ?_))))))))
  refine kl_nil (kq_q (kt_q 9 (List.nil_sublist _) rfl (by kernel_rfl) (kl_ld rfl (by assumption) (kl_nil (kq_q (kt_q 10 (List.nil_sublist _) rfl (by kernel_rfl) (kl_mv rfl (kl_nil (kq_q (kt_a 4 rfl (by kernel_rfl) (kl_callL rfl rfl (copied_ok c.vars (by first | omega | (have h6 := h5 _ (getD_mem (d := []) (by omega : k < c.rows.length)); omega)) (by assumption)) (fun v59 H60 f61 o62 => ?_))))))))))))
  refine kl_nil (kq_a (List.nil_sublist _) (kt_a 7 rfl (by kernel_rfl) (kl_callL rfl rfl (copied_ok c.args (by first | omega | (have h6 := h5 _ (getD_mem (d := []) (by omega : k < c.rows.length)); omega)) (by assumption)) (fun v63 H64 f65 o66 => ?_))))
  refine kl_nil (kq_a (List.nil_sublist _) (kt_a 11 rfl (by kernel_rfl) (kl_bd rfl (cp rfl (cp (OwnL.cells (by assumption)) (cp (OwnL.cells (by assumption)) (cp rfl (cp (OwnL.cells (by assumption)) cp_nil))))) rfl ?_)))
  refine kl_nil (kq_x rfl (kt_a 12 rfl (by kernel_rfl) (kl_stW (us := [.int .i64 c.kind, v59, v63, .int .i64 c.bound, v23]) rfl rfl rfl rfl (oc rfl (oc (OwnL.oneCell (by assumption)) (oc (OwnL.oneCell (by assumption)) (oc rfl (oc (OwnL.oneCell (by assumption)) oc_nil))))) rfl ?_)))
  refine kl_chg [H64, H60, K21, H24, sing b5 (.cells [.int .i64 c.kind, v59, v63, .int .i64 c.bound, v23].toArray 53 (0, 0))] rfl ?_
  refine kl_nil (kq_x rfl (kt_end (by kernel_rfl) ?_))
  refine kq_code (kc_ret (kq_apart H24 K21 (fun a69 => ?_)))
  refine kq_mrg H24 K21 ?_
  refine kq_apart H64 (orHp H24 K21) (fun a68 => ?_)
  refine kq_mrg H64 (orHp H24 K21) ?_
  refine kq_apart H60 (orHp H64 (orHp H24 K21)) (fun a67 => ?_)
  refine kq_mrg H60 (orHp H64 (orHp H24 K21)) ?_
  exact kq_retTC rfl rfl rfl [] [(orHp H60 (orHp H64 (orHp H24 K21)))] noHp (fr1 (fr_or f61 (fr_or f65 (fr_or f27 f26)))) (fr_no _) ⟨rfl, (orHp H60 (orHp H64 (orHp H24 K21))), ⟨c.kind, v59, v63, c.bound, v23⟩, rfl, rfl, ⟨H60, H64, H24, K21, us25, rfl, ⟨a67, a68, a69, OwnL.ints o62, OwnL.liq o62, OwnL.ints o66, OwnL.liq o66, Mat.castX (by rw [hi20, List.take_of_length_le (by omega)]) o22, rfl, rfl⟩⟩⟩
theorem copyModX_ok {Hmd : Hp} {vmd : Value} {Hmc : Hp} {vmc : Value} (m : Mod) (hm : ModSm 100 m) (hp : RowsP m.cons) (hmd : Ints Hmd vmd m.doms) (hmc : Cons Hmc vmc m.cons) : Spec Try.prog 31 [.agg #[vmd, vmc]] [Hmd, Hmc] ((fun Hq vq => ∃ vd vc : Value, vq = .agg #[vd, vc] ∧ ModX 53 23 3 Hq vd vc m)) := by
 have h1 := hm.d1
 have h2 := hm.d
 have h3 := hm.c
 have h4 := hm.cc
 refine spec_of Try.func31 rfl rfl rfl (fun B => ?_)
 refine kc_seq (kc_region (kl_box rfl rfl (fun p1 H2 f3 a4 => ?_)))
 refine kl_alloc (cs := [.slice none 0 0, .slice none 0 0]) rfl (fun b5 hb6 => ?_)
 refine kl_nil (kq_code (kc_seq (kc_noO ?_)))
 refine kc_tree (fun i => ([7, 9] : List Nat).contains i) [] (by kernel_rfl) ?_
 refine kt_q 0 (List.nil_sublist _) rfl (by kernel_rfl) (kl_fd rfl (by assumption) (fun p8 a9 => ?_))
 refine kl_nil (kq_q (kt_q 1 (List.nil_sublist _) rfl (by kernel_rfl) (kl_ld rfl (by assumption) (kl_nil (kq_q (kt_q 3 (List.nil_sublist _) rfl (by kernel_rfl) (kl_fd rfl (by assumption) (fun p10 a11 => ?_))))))))
 refine kl_nil (kq_q (kt_q 4 (List.nil_sublist _) rfl (by kernel_rfl) (kl_ld rfl (by assumption) (kl_nil (kq_q (kt_q 5 (List.nil_sublist _) rfl (by kernel_rfl) (kl_len rfl (by assumption) (fun l12 => ?_))))))))
 refine kl_nil (kq_q (kt_c 2 6 8 rfl rfl rfl (by kernel_rfl) ?_ ?_ ?_))
 ·skip
  refine kl_callL rfl rfl (copied_ok m.doms (by omega) (by assumption)) (fun v13 H14 f15 o16 => ?_)
  refine kl_nil (kq_a (List.nil_sublist _) (kt_b 6 8 rfl rfl (by kernel_rfl) ?_ ?_))
  ·skip
   refine kl_mkL0 (R := RawV) rfl rfl (by omega) (by omega) (by decide) (fun v17 H18 f19 o20 => ?_)
   have o21 : SepM 53 23 3 H18 noHp v17 [] [] := SepM.ofL o20
   refine kl_nil (kq_a (List.nil_sublist _) (kt_b 7 8 rfl rfl (by kernel_rfl) ?_ ?_))
   ·skip
    refine kl_bd rfl (cp (OwnL.cells (by assumption)) (cp (OwnL.cells (by assumption)) cp_nil)) rfl ?_
    refine kl_nil (kq_x rfl (kt_a 8 rfl (by kernel_rfl) (kl_alloc (cs := [.slice none 0 0, .slice none 0 0]) rfl (fun b23 hb24 => ?_))))
    refine kl_nil (kq_a (List.nil_sublist _) (kt_a 9 rfl (by kernel_rfl) (kl_stW (us := [v13, v17]) rfl rfl rfl rfl (oc (OwnL.oneCell (by assumption)) (oc (OwnL.oneCell (by assumption)) oc_nil)) rfl ?_)))
    refine kl_chg [sing b23 (.cells [v13, v17].toArray 26 (0, 0)), H18, H14, noHp, sing b5 (.cells [.slice none 0 0, .slice none 0 0].toArray 26 (0, 0))] rfl ?_
    refine kl_nil (kq_x rfl (kt_end (by kernel_rfl) ?_))
    refine kq_code (kc_seq (kc_seq (kc_region (kl_fd rfl (by assumption) (fun p25 a26 => ?_)))))
    refine kl_ld rfl (by assumption) (kl_len rfl (by assumption) (fun l27 => ?_))
    refine kl_mv rfl (kl_nil (kq_code (kc_block (kc_loopL (A := Nat × List Con × Value × Hp × List RawC × Hp) (fun zz => (zz.1 ≤ m.cons.length) ∧ (zz.2.1 = m.cons.take zz.1) ∧ SepM 53 23 3 zz.2.2.2.1 zz.2.2.2.2.2 zz.2.2.1 zz.2.2.2.2.1 zz.2.1 ∧ Fr B zz.2.2.2.2.2 ∧ Fr B zz.2.2.2.1) (fun zz => m.cons.length - zz.1) (fun zz => [sing b23 (.cells [v13, zz.2.2.1].toArray 26 (0, 0)), zz.2.2.2.1, H14, zz.2.2.2.2.2, sing b5 (.cells [.slice none 0 0, .slice none 0 0].toArray 26 (0, 0))]) (fun zz => [(17, .int .i64 (zz.1 : Int))]) (0, ([]), v17, H18, ([]), noHp) (pc 2 rfl (pc 3 rfl (pc 15 rfl (pc 16 rfl pn)))) (pc 17 rfl pn) rfl ⟨Nat.zero_le _, rfl, o21, (fr_no _), f19⟩ ?_))))
    rintro ⟨k, out, v32, H33, us34, K30⟩ hJ37
    obtain ⟨hk28, hi29, o31, f35, f36⟩ : (k ≤ m.cons.length) ∧ (out = m.cons.take k) ∧ SepM 53 23 3 H33 K30 v32 us34 out ∧ Fr B K30 ∧ Fr B H33 := hJ37
    change KC _ _ (_) [sing b23 (.cells [v13, v32].toArray 26 (0, 0)), H33, H14, K30, sing b5 (.cells [.slice none 0 0, .slice none 0 0].toArray 26 (0, 0))] _ ([(17, .int .i64 (k : Int))] ++ _)
    have o38 := o31.hd
    refine kc_seq (kc_region (kl_lss rfl rfl ?_))
    refine kl_nil (kq_code (kc_seq (kc_if rfl (fun c39 => ?_) (fun c39 => ?_))))
    ·skip
     refine kc_skipQ (kq_code (kc_seq (kc_block (kc_seq (kc_region (kl_inC rfl rfl (by assumption) (by omega) (fun p40 u42 u43 u44 h45 h46 h47 a41 => ?_)))))))
     refine kl_ldS rfl (by assumption) rfl ?_
     refine kl_alloc (cs := [.int .i64 (0 : Int), .slice none 0 0, .slice none 0 0, .int .i64 (0 : Int), .slice none 0 0]) rfl (fun b48 hb49 => ?_)
     refine kl_stW (us := [.int .i64 ((m.cons.getD k nilCon).kind), u42, u43, .int .i64 ((m.cons.getD k nilCon).bound), u44]) rfl rfl rfl rfl (oc rfl (oc (Sl.oneCell (by assumption)) (oc (Sl.oneCell (by assumption)) (oc rfl (oc (Sl.oneCell (by assumption)) oc_nil))))) rfl ?_
     refine kl_chg [sing b48 (.cells [.int .i64 ((m.cons.getD k nilCon).kind), u42, u43, .int .i64 ((m.cons.getD k nilCon).bound), u44].toArray 53 (0, 0)), sing b23 (.cells [v13, v32].toArray 26 (0, 0)), H33, H14, K30, sing b5 (.cells [.slice none 0 0, .slice none 0 0].toArray 26 (0, 0))] rfl ?_
     refine kl_nil (kq_code (kc_tree (fun i => ([5, 7] : List Nat).contains i) [sing b48 (.cells [.int .i64 ((m.cons.getD k nilCon).kind), u42, u43, .int .i64 ((m.cons.getD k nilCon).bound), u44].toArray 53 (0, 0)), sing b23 (.cells [v13, v32].toArray 26 (0, 0))] (by kernel_rfl) ?_))
     refine kt_q 0 (.cons_cons _ (.cons_cons _ (List.nil_sublist _))) rfl (by kernel_rfl) (kl_fdV rfl (kl_nil (kq_q (kt_q 1 (.cons_cons _ (.cons_cons _ (List.nil_sublist _))) rfl (by kernel_rfl) (kl_ld rfl (at_box (T := 26) (cs := [v13, v32]) (off := 1) (fz := (0, 0))) (kl_nil (kq_q (kt_q 2 (.cons_cons _ (.cons_cons _ (List.nil_sublist _))) rfl (by kernel_rfl) (kl_ldS rfl (at_box (T := 53) (cs := [.int .i64 ((m.cons.getD k nilCon).kind), u42, u43, .int .i64 ((m.cons.getD k nilCon).bound), u44]) (off := 0) (fz := (0, 0))) rfl ?_)))))))))
     refine kl_nil (kq_q (kt_a 3 rfl (by kernel_rfl) (kl_callT rfl rfl (copyConX_ok (m.cons.getD k nilCon) (h4 _ (getD_mem (by omega))) (hp _ (getD_mem (by omega))) (by assumption) (by assumption) (by assumption)) (fun v50 L1 Ln K54 h51 f52 f53 => ?_))))
     obtain ⟨rfl, P55, r56, rfl, rfl, p57⟩ := h51
     have f58 := f52 _ (.head _)
     refine kl_norm ?_
     refine kl_nil (kq_a (.cons _ (.cons_cons _ (.cons_cons _ (List.nil_sublist _)))) (kt_a 4 rfl (by kernel_rfl) (kl_bsK rfl (fun v59 H60 f61 r62 => ?_))))
     refine kl_nil (kq_a (.cons _ (.cons_cons _ (.cons_cons _ (List.nil_sublist _)))) (kt_a 5 rfl (by kernel_rfl) (kl_apart K30 P55 (fun a68 => ?_))))
     refine kl_apL (R := RawV) r56 rfl rfl o31.hd r62 rfl (Pc.one p57) (by have hl9 := o31.sp.len; (have h9 := congrArg List.length hi29; simp at h9; omega)) (by decide) (fun v63 H64 o65 f66 => ?_)
     have f67 := f66 B f36 (Nat.le_refl _)
     have m69 := SepM.push o31 o65 p57 a68
     refine kl_nil (kq_x rfl (kt_mrg K30 P55 ?_))
     refine kt_q 6 (.cons _ (.cons_cons _ (.cons_cons _ (List.nil_sublist _)))) rfl (by kernel_rfl) (kl_fdV rfl (kl_nil (kq_q (kt_a 7 rfl (by kernel_rfl) (kl_stB rfl rfl rfl (OwnL.oneCell (by assumption)) (OwnL.cells (by assumption)) ?_)))))
     refine kl_chg [(orHp K30 P55), sing b48 (.cells [.int .i64 ((m.cons.getD k nilCon).kind), u42, u43, .int .i64 ((m.cons.getD k nilCon).bound), u44].toArray 53 (0, 0)), sing b23 (.cells [v13, v63].toArray 26 (0, 0)), H64, H14, sing b5 (.cells [.slice none 0 0, .slice none 0 0].toArray 26 (0, 0))] rfl ?_
     refine kl_nil (kq_x rfl (kt_end (by kernel_rfl) ?_))
     refine kq_code (kc_region (kl_inc rfl rfl (by omega) ?_))
     refine kl_mv rfl (kl_nil (kq_take [sing b23 (.cells [v13, v63].toArray 26 (0, 0)), H64, H14, (orHp K30 P55), sing b5 (.cells [.slice none 0 0, .slice none 0 0].toArray 26 (0, 0))] ?_))
     refine kq_roundL ((k + 1), (out ++ [(m.cons.getD k nilCon)]), v63, H64, (us34 ++ [r56]), (orHp K30 P55)) (by omega) (⟨by omega, (by rw [hi29, take_succ_getD nilCon (by omega)]), m69, (fr_or f35 f58), f67⟩) (pc 17 rfl pn) (pc 2 rfl (pc 3 rfl (pc 15 rfl (pc 16 rfl pn)))) rfl (List.Sublist.refl _)
    ·skip
     refine kc_exit (kq_code (kc_seq (kc_region (kl_ldW rfl rfl (kl_stW (us := [v13, v32]) rfl rfl rfl rfl (oc (OwnL.oneCell (by assumption)) (oc (OwnL.oneCell (by assumption)) oc_nil)) rfl ?_)))))
     refine kl_chg [sing b23 (.cells [v13, v32].toArray 26 (0, 0)), H33, H14, K30, sing b5 (.cells [v13, v32].toArray 26 (0, 0))] rfl ?_
     refine kl_nil (kq_code (kc_ret (kq_apart H33 K30 (fun a71 => ?_))))
     refine kq_mrg H33 K30 ?_
     refine kq_apart H14 (orHp H33 K30) (fun a70 => ?_)
     refine kq_mrg H14 (orHp H33 K30) ?_
     exact kq_retC rfl rfl rfl (orHp H14 (orHp H33 K30)) (fr_or f15 (fr_or f36 f35)) ⟨_, _, rfl, H14, H33, K30, us34, rfl, a70, a71, OwnL.liq o16, OwnL.ints o16, SepM.castX (by rw [hi29, List.take_of_length_le (by omega)]) o31⟩
   ·skip
    refine kl_alloc (cs := [.slice none 0 0, .slice none 0 0]) rfl (fun b72 hb73 => ?_)
    refine kl_nil (kq_a (List.nil_sublist _) (kt_a 7 rfl (by kernel_rfl) (kl_bd rfl (cp (OwnL.cells (by assumption)) (cp (OwnL.cells (by assumption)) cp_nil)) rfl ?_)))
    refine kl_nil (kq_x rfl (kt_a 9 rfl (by kernel_rfl) (kl_stW (us := [v13, v17]) rfl rfl rfl rfl (oc (OwnL.oneCell (by assumption)) (oc (OwnL.oneCell (by assumption)) oc_nil)) rfl ?_)))
    refine kl_chg [sing b72 (.cells [v13, v17].toArray 26 (0, 0)), H18, H14, noHp, sing b5 (.cells [.slice none 0 0, .slice none 0 0].toArray 26 (0, 0))] rfl ?_
    refine kl_nil (kq_x rfl (kt_end (by kernel_rfl) ?_))
    refine kq_code (kc_seq (kc_seq (kc_region (kl_fd rfl (by assumption) (fun p74 a75 => ?_)))))
    refine kl_ld rfl (by assumption) (kl_len rfl (by assumption) (fun l76 => ?_))
    refine kl_mv rfl (kl_nil (kq_code (kc_block (kc_loopL (A := Nat × List Con × Value × Hp × List RawC × Hp) (fun zz => (zz.1 ≤ m.cons.length) ∧ (zz.2.1 = m.cons.take zz.1) ∧ SepM 53 23 3 zz.2.2.2.1 zz.2.2.2.2.2 zz.2.2.1 zz.2.2.2.2.1 zz.2.1 ∧ Fr B zz.2.2.2.2.2 ∧ Fr B zz.2.2.2.1) (fun zz => m.cons.length - zz.1) (fun zz => [sing b72 (.cells [v13, zz.2.2.1].toArray 26 (0, 0)), zz.2.2.2.1, H14, zz.2.2.2.2.2, sing b5 (.cells [.slice none 0 0, .slice none 0 0].toArray 26 (0, 0))]) (fun zz => [(17, .int .i64 (zz.1 : Int))]) (0, ([]), v17, H18, ([]), noHp) (pc 2 rfl (pc 3 rfl (pc 15 rfl (pc 16 rfl pn)))) (pc 17 rfl pn) rfl ⟨Nat.zero_le _, rfl, o21, (fr_no _), f19⟩ ?_))))
    rintro ⟨k, out, v81, H82, us83, K79⟩ hJ86
    obtain ⟨hk77, hi78, o80, f84, f85⟩ : (k ≤ m.cons.length) ∧ (out = m.cons.take k) ∧ SepM 53 23 3 H82 K79 v81 us83 out ∧ Fr B K79 ∧ Fr B H82 := hJ86
    change KC _ _ (_) [sing b72 (.cells [v13, v81].toArray 26 (0, 0)), H82, H14, K79, sing b5 (.cells [.slice none 0 0, .slice none 0 0].toArray 26 (0, 0))] _ ([(17, .int .i64 (k : Int))] ++ _)
    have o87 := o80.hd
    refine kc_seq (kc_region (kl_lss rfl rfl ?_))
    refine kl_nil (kq_code (kc_seq (kc_if rfl (fun c88 => ?_) (fun c88 => ?_))))
    ·skip
     refine kc_skipQ (kq_code (kc_seq (kc_block (kc_seq (kc_region (kl_inC rfl rfl (by assumption) (by omega) (fun p89 u91 u92 u93 h94 h95 h96 a90 => ?_)))))))
     refine kl_ldS rfl (by assumption) rfl ?_
     refine kl_alloc (cs := [.int .i64 (0 : Int), .slice none 0 0, .slice none 0 0, .int .i64 (0 : Int), .slice none 0 0]) rfl (fun b97 hb98 => ?_)
     refine kl_stW (us := [.int .i64 ((m.cons.getD k nilCon).kind), u91, u92, .int .i64 ((m.cons.getD k nilCon).bound), u93]) rfl rfl rfl rfl (oc rfl (oc (Sl.oneCell (by assumption)) (oc (Sl.oneCell (by assumption)) (oc rfl (oc (Sl.oneCell (by assumption)) oc_nil))))) rfl ?_
     refine kl_chg [sing b97 (.cells [.int .i64 ((m.cons.getD k nilCon).kind), u91, u92, .int .i64 ((m.cons.getD k nilCon).bound), u93].toArray 53 (0, 0)), sing b72 (.cells [v13, v81].toArray 26 (0, 0)), H82, H14, K79, sing b5 (.cells [.slice none 0 0, .slice none 0 0].toArray 26 (0, 0))] rfl ?_
     refine kl_nil (kq_code (kc_tree (fun i => ([5, 7] : List Nat).contains i) [sing b97 (.cells [.int .i64 ((m.cons.getD k nilCon).kind), u91, u92, .int .i64 ((m.cons.getD k nilCon).bound), u93].toArray 53 (0, 0)), sing b72 (.cells [v13, v81].toArray 26 (0, 0))] (by kernel_rfl) ?_))
     refine kt_q 0 (.cons_cons _ (.cons_cons _ (List.nil_sublist _))) rfl (by kernel_rfl) (kl_fdV rfl (kl_nil (kq_q (kt_q 1 (.cons_cons _ (.cons_cons _ (List.nil_sublist _))) rfl (by kernel_rfl) (kl_ld rfl (at_box (T := 26) (cs := [v13, v81]) (off := 1) (fz := (0, 0))) (kl_nil (kq_q (kt_q 2 (.cons_cons _ (.cons_cons _ (List.nil_sublist _))) rfl (by kernel_rfl) (kl_ldS rfl (at_box (T := 53) (cs := [.int .i64 ((m.cons.getD k nilCon).kind), u91, u92, .int .i64 ((m.cons.getD k nilCon).bound), u93]) (off := 0) (fz := (0, 0))) rfl ?_)))))))))
     refine kl_nil (kq_q (kt_a 3 rfl (by kernel_rfl) (kl_callT rfl rfl (copyConX_ok (m.cons.getD k nilCon) (h4 _ (getD_mem (by omega))) (hp _ (getD_mem (by omega))) (by assumption) (by assumption) (by assumption)) (fun v99 L1 Ln K103 h100 f101 f102 => ?_))))
     obtain ⟨rfl, P104, r105, rfl, rfl, p106⟩ := h100
     have f107 := f101 _ (.head _)
     refine kl_norm ?_
     refine kl_nil (kq_a (.cons _ (.cons_cons _ (.cons_cons _ (List.nil_sublist _)))) (kt_a 4 rfl (by kernel_rfl) (kl_bsK rfl (fun v108 H109 f110 r111 => ?_))))
     refine kl_nil (kq_a (.cons _ (.cons_cons _ (.cons_cons _ (List.nil_sublist _)))) (kt_a 5 rfl (by kernel_rfl) (kl_apart K79 P104 (fun a117 => ?_))))
     refine kl_apL (R := RawV) r105 rfl rfl o80.hd r111 rfl (Pc.one p106) (by have hl9 := o80.sp.len; (have h9 := congrArg List.length hi78; simp at h9; omega)) (by decide) (fun v112 H113 o114 f115 => ?_)
     have f116 := f115 B f85 (Nat.le_refl _)
     have m118 := SepM.push o80 o114 p106 a117
     refine kl_nil (kq_x rfl (kt_mrg K79 P104 ?_))
     refine kt_q 6 (.cons _ (.cons_cons _ (.cons_cons _ (List.nil_sublist _)))) rfl (by kernel_rfl) (kl_fdV rfl (kl_nil (kq_q (kt_a 7 rfl (by kernel_rfl) (kl_stB rfl rfl rfl (OwnL.oneCell (by assumption)) (OwnL.cells (by assumption)) ?_)))))
     refine kl_chg [(orHp K79 P104), sing b97 (.cells [.int .i64 ((m.cons.getD k nilCon).kind), u91, u92, .int .i64 ((m.cons.getD k nilCon).bound), u93].toArray 53 (0, 0)), sing b72 (.cells [v13, v112].toArray 26 (0, 0)), H113, H14, sing b5 (.cells [.slice none 0 0, .slice none 0 0].toArray 26 (0, 0))] rfl ?_
     refine kl_nil (kq_x rfl (kt_end (by kernel_rfl) ?_))
     refine kq_code (kc_region (kl_inc rfl rfl (by omega) ?_))
     refine kl_mv rfl (kl_nil (kq_take [sing b72 (.cells [v13, v112].toArray 26 (0, 0)), H113, H14, (orHp K79 P104), sing b5 (.cells [.slice none 0 0, .slice none 0 0].toArray 26 (0, 0))] ?_))
     refine kq_roundL ((k + 1), (out ++ [(m.cons.getD k nilCon)]), v112, H113, (us83 ++ [r105]), (orHp K79 P104)) (by omega) (⟨by omega, (by rw [hi78, take_succ_getD nilCon (by omega)]), m118, (fr_or f84 f107), f116⟩) (pc 17 rfl pn) (pc 2 rfl (pc 3 rfl (pc 15 rfl (pc 16 rfl pn)))) rfl (List.Sublist.refl _)
    ·skip
     refine kc_exit (kq_code (kc_seq (kc_region (kl_ldW rfl rfl (kl_stW (us := [v13, v81]) rfl rfl rfl rfl (oc (OwnL.oneCell (by assumption)) (oc (OwnL.oneCell (by assumption)) oc_nil)) rfl ?_)))))
     refine kl_chg [sing b72 (.cells [v13, v81].toArray 26 (0, 0)), H82, H14, K79, sing b5 (.cells [v13, v81].toArray 26 (0, 0))] rfl ?_
     refine kl_nil (kq_code (kc_ret (kq_apart H82 K79 (fun a120 => ?_))))
     refine kq_mrg H82 K79 ?_
     refine kq_apart H14 (orHp H82 K79) (fun a119 => ?_)
     refine kq_mrg H14 (orHp H82 K79) ?_
     exact kq_retC rfl rfl rfl (orHp H14 (orHp H82 K79)) (fr_or f15 (fr_or f85 f84)) ⟨_, _, rfl, H14, H82, K79, us83, rfl, a119, a120, OwnL.liq o16, OwnL.ints o16, SepM.castX (by rw [hi78, List.take_of_length_le (by omega)]) o80⟩
  ·skip
   refine kl_alloc (cs := [.slice none 0 0, .slice none 0 0]) rfl (fun b121 hb122 => ?_)
   refine kl_nil (kq_a (List.nil_sublist _) (kt_a 6 rfl (by kernel_rfl) (kl_mkL0 (R := RawV) rfl rfl (by omega) (by omega) (by decide) (fun v123 H124 f125 o126 => ?_))))
   have o127 : SepM 53 23 3 H124 noHp v123 [] [] := SepM.ofL o126
   refine kl_nil (kq_a (List.nil_sublist _) (kt_a 7 rfl (by kernel_rfl) (kl_bd rfl (cp (OwnL.cells (by assumption)) (cp (OwnL.cells (by assumption)) cp_nil)) rfl ?_)))
   refine kl_nil (kq_x rfl (kt_a 9 rfl (by kernel_rfl) (kl_stW (us := [v13, v123]) rfl rfl rfl rfl (oc (OwnL.oneCell (by assumption)) (oc (OwnL.oneCell (by assumption)) oc_nil)) rfl ?_)))
   refine kl_chg [H124, sing b121 (.cells [v13, v123].toArray 26 (0, 0)), H14, noHp, sing b5 (.cells [.slice none 0 0, .slice none 0 0].toArray 26 (0, 0))] rfl ?_
   refine kl_nil (kq_x rfl (kt_end (by kernel_rfl) ?_))
   refine kq_code (kc_seq (kc_seq (kc_region (kl_fd rfl (by assumption) (fun p129 a130 => ?_)))))
   refine kl_ld rfl (by assumption) (kl_len rfl (by assumption) (fun l131 => ?_))
   refine kl_mv rfl (kl_nil (kq_code (kc_block (kc_loopL (A := Nat × List Con × Value × Hp × List RawC × Hp) (fun zz => (zz.1 ≤ m.cons.length) ∧ (zz.2.1 = m.cons.take zz.1) ∧ SepM 53 23 3 zz.2.2.2.1 zz.2.2.2.2.2 zz.2.2.1 zz.2.2.2.2.1 zz.2.1 ∧ Fr B zz.2.2.2.2.2 ∧ Fr B zz.2.2.2.1) (fun zz => m.cons.length - zz.1) (fun zz => [zz.2.2.2.1, sing b121 (.cells [v13, zz.2.2.1].toArray 26 (0, 0)), H14, zz.2.2.2.2.2, sing b5 (.cells [.slice none 0 0, .slice none 0 0].toArray 26 (0, 0))]) (fun zz => [(17, .int .i64 (zz.1 : Int))]) (0, ([]), v123, H124, ([]), noHp) (pc 2 rfl (pc 3 rfl (pc 15 rfl (pc 16 rfl pn)))) (pc 17 rfl pn) rfl ⟨Nat.zero_le _, rfl, o127, (fr_no _), f125⟩ ?_))))
   rintro ⟨k, out, v136, H137, us138, K134⟩ hJ141
   obtain ⟨hk132, hi133, o135, f139, f140⟩ : (k ≤ m.cons.length) ∧ (out = m.cons.take k) ∧ SepM 53 23 3 H137 K134 v136 us138 out ∧ Fr B K134 ∧ Fr B H137 := hJ141
   change KC _ _ (_) [H137, sing b121 (.cells [v13, v136].toArray 26 (0, 0)), H14, K134, sing b5 (.cells [.slice none 0 0, .slice none 0 0].toArray 26 (0, 0))] _ ([(17, .int .i64 (k : Int))] ++ _)
   have o142 := o135.hd
   refine kc_seq (kc_region (kl_lss rfl rfl ?_))
   refine kl_nil (kq_code (kc_seq (kc_if rfl (fun c143 => ?_) (fun c143 => ?_))))
   ·skip
    refine kc_skipQ (kq_code (kc_seq (kc_block (kc_seq (kc_region (kl_inC rfl rfl (by assumption) (by omega) (fun p144 u146 u147 u148 h149 h150 h151 a145 => ?_)))))))
    refine kl_ldS rfl (by assumption) rfl ?_
    refine kl_alloc (cs := [.int .i64 (0 : Int), .slice none 0 0, .slice none 0 0, .int .i64 (0 : Int), .slice none 0 0]) rfl (fun b152 hb153 => ?_)
    refine kl_stW (us := [.int .i64 ((m.cons.getD k nilCon).kind), u146, u147, .int .i64 ((m.cons.getD k nilCon).bound), u148]) rfl rfl rfl rfl (oc rfl (oc (Sl.oneCell (by assumption)) (oc (Sl.oneCell (by assumption)) (oc rfl (oc (Sl.oneCell (by assumption)) oc_nil))))) rfl ?_
    refine kl_chg [sing b152 (.cells [.int .i64 ((m.cons.getD k nilCon).kind), u146, u147, .int .i64 ((m.cons.getD k nilCon).bound), u148].toArray 53 (0, 0)), H137, sing b121 (.cells [v13, v136].toArray 26 (0, 0)), H14, K134, sing b5 (.cells [.slice none 0 0, .slice none 0 0].toArray 26 (0, 0))] rfl ?_
    refine kl_nil (kq_code (kc_tree (fun i => ([5, 7] : List Nat).contains i) [sing b152 (.cells [.int .i64 ((m.cons.getD k nilCon).kind), u146, u147, .int .i64 ((m.cons.getD k nilCon).bound), u148].toArray 53 (0, 0)), sing b121 (.cells [v13, v136].toArray 26 (0, 0))] (by kernel_rfl) ?_))
    refine kt_q 0 (.cons_cons _ (.cons _ (.cons_cons _ (List.nil_sublist _)))) rfl (by kernel_rfl) (kl_fdV rfl (kl_nil (kq_q (kt_q 1 (.cons_cons _ (.cons _ (.cons_cons _ (List.nil_sublist _)))) rfl (by kernel_rfl) (kl_ld rfl (at_box (T := 26) (cs := [v13, v136]) (off := 1) (fz := (0, 0))) (kl_nil (kq_q (kt_q 2 (.cons_cons _ (.cons _ (.cons_cons _ (List.nil_sublist _)))) rfl (by kernel_rfl) (kl_ldS rfl (at_box (T := 53) (cs := [.int .i64 ((m.cons.getD k nilCon).kind), u146, u147, .int .i64 ((m.cons.getD k nilCon).bound), u148]) (off := 0) (fz := (0, 0))) rfl ?_)))))))))
    refine kl_nil (kq_q (kt_a 3 rfl (by kernel_rfl) (kl_callT rfl rfl (copyConX_ok (m.cons.getD k nilCon) (h4 _ (getD_mem (by omega))) (hp _ (getD_mem (by omega))) (by assumption) (by assumption) (by assumption)) (fun v154 L1 Ln K158 h155 f156 f157 => ?_))))
    obtain ⟨rfl, P159, r160, rfl, rfl, p161⟩ := h155
    have f162 := f156 _ (.head _)
    refine kl_norm ?_
    refine kl_nil (kq_a (.cons _ (.cons_cons _ (.cons _ (.cons_cons _ (List.nil_sublist _))))) (kt_a 4 rfl (by kernel_rfl) (kl_bsK rfl (fun v163 H164 f165 r166 => ?_))))
    refine kl_nil (kq_a (.cons _ (.cons_cons _ (.cons _ (.cons_cons _ (List.nil_sublist _))))) (kt_a 5 rfl (by kernel_rfl) (kl_apart K134 P159 (fun a172 => ?_))))
    refine kl_apL (R := RawV) r160 rfl rfl o135.hd r166 rfl (Pc.one p161) (by have hl9 := o135.sp.len; (have h9 := congrArg List.length hi133; simp at h9; omega)) (by decide) (fun v167 H168 o169 f170 => ?_)
    have f171 := f170 B f140 (Nat.le_refl _)
    have m173 := SepM.push o135 o169 p161 a172
    refine kl_nil (kq_x rfl (kt_mrg K134 P159 ?_))
    refine kt_q 6 (.cons _ (.cons_cons _ (.cons _ (.cons_cons _ (List.nil_sublist _))))) rfl (by kernel_rfl) (kl_fdV rfl (kl_nil (kq_q (kt_a 7 rfl (by kernel_rfl) (kl_stB rfl rfl rfl (OwnL.oneCell (by assumption)) (OwnL.cells (by assumption)) ?_)))))
    refine kl_chg [(orHp K134 P159), sing b152 (.cells [.int .i64 ((m.cons.getD k nilCon).kind), u146, u147, .int .i64 ((m.cons.getD k nilCon).bound), u148].toArray 53 (0, 0)), H168, sing b121 (.cells [v13, v167].toArray 26 (0, 0)), H14, sing b5 (.cells [.slice none 0 0, .slice none 0 0].toArray 26 (0, 0))] rfl ?_
    refine kl_nil (kq_x rfl (kt_end (by kernel_rfl) ?_))
    refine kq_code (kc_region (kl_inc rfl rfl (by omega) ?_))
    refine kl_mv rfl (kl_nil (kq_take [H168, sing b121 (.cells [v13, v167].toArray 26 (0, 0)), H14, (orHp K134 P159), sing b5 (.cells [.slice none 0 0, .slice none 0 0].toArray 26 (0, 0))] ?_))
    refine kq_roundL ((k + 1), (out ++ [(m.cons.getD k nilCon)]), v167, H168, (us138 ++ [r160]), (orHp K134 P159)) (by omega) (⟨by omega, (by rw [hi133, take_succ_getD nilCon (by omega)]), m173, (fr_or f139 f162), f171⟩) (pc 17 rfl pn) (pc 2 rfl (pc 3 rfl (pc 15 rfl (pc 16 rfl pn)))) rfl (List.Sublist.refl _)
   ·skip
    refine kc_exit (kq_code (kc_seq (kc_region (kl_ldW rfl rfl (kl_stW (us := [v13, v136]) rfl rfl rfl rfl (oc (OwnL.oneCell (by assumption)) (oc (OwnL.oneCell (by assumption)) oc_nil)) rfl ?_)))))
    refine kl_chg [H137, sing b121 (.cells [v13, v136].toArray 26 (0, 0)), H14, K134, sing b5 (.cells [v13, v136].toArray 26 (0, 0))] rfl ?_
    refine kl_nil (kq_code (kc_ret (kq_apart H137 K134 (fun a175 => ?_))))
    refine kq_mrg H137 K134 ?_
    refine kq_apart H14 (orHp H137 K134) (fun a174 => ?_)
    refine kq_mrg H14 (orHp H137 K134) ?_
    exact kq_retC rfl rfl rfl (orHp H14 (orHp H137 K134)) (fr_or f15 (fr_or f140 f139)) ⟨_, _, rfl, H14, H137, K134, us138, rfl, a174, a175, OwnL.liq o16, OwnL.ints o16, SepM.castX (by rw [hi133, List.take_of_length_le (by omega)]) o135⟩
 ·skip
  refine kl_mkL0 (R := RawV) rfl rfl (by omega) (by omega) (by decide) (fun v176 H177 f178 o179 => ?_)
  have o180 : SepM 53 23 3 H177 noHp v176 [] [] := SepM.ofL o179
  refine kl_nil (kq_a (List.nil_sublist _) (kt_b 2 8 rfl rfl (by kernel_rfl) ?_ ?_))
  ·skip
   refine kl_callL rfl rfl (copied_ok m.doms (by omega) (by assumption)) (fun v182 H183 f184 o185 => ?_)
   refine kl_nil (kq_a (List.nil_sublist _) (kt_b 7 8 rfl rfl (by kernel_rfl) ?_ ?_))
   ·skip
    refine kl_bd rfl (cp (OwnL.cells (by assumption)) (cp (OwnL.cells (by assumption)) cp_nil)) rfl ?_
    refine kl_nil (kq_x rfl (kt_a 8 rfl (by kernel_rfl) (kl_alloc (cs := [.slice none 0 0, .slice none 0 0]) rfl (fun b186 hb187 => ?_))))
    refine kl_nil (kq_a (List.nil_sublist _) (kt_a 9 rfl (by kernel_rfl) (kl_stW (us := [v182, v176]) rfl rfl rfl rfl (oc (OwnL.oneCell (by assumption)) (oc (OwnL.oneCell (by assumption)) oc_nil)) rfl ?_)))
    refine kl_chg [sing b186 (.cells [v182, v176].toArray 26 (0, 0)), H183, H177, noHp, sing b5 (.cells [.slice none 0 0, .slice none 0 0].toArray 26 (0, 0))] rfl ?_
    refine kl_nil (kq_x rfl (kt_end (by kernel_rfl) ?_))
    refine kq_code (kc_seq (kc_seq (kc_region (kl_fd rfl (by assumption) (fun p188 a189 => ?_)))))
    refine kl_ld rfl (by assumption) (kl_len rfl (by assumption) (fun l190 => ?_))
    refine kl_mv rfl (kl_nil (kq_code (kc_block (kc_loopL (A := Nat × List Con × Value × Hp × List RawC × Hp) (fun zz => (zz.1 ≤ m.cons.length) ∧ (zz.2.1 = m.cons.take zz.1) ∧ SepM 53 23 3 zz.2.2.2.1 zz.2.2.2.2.2 zz.2.2.1 zz.2.2.2.2.1 zz.2.1 ∧ Fr B zz.2.2.2.2.2 ∧ Fr B zz.2.2.2.1) (fun zz => m.cons.length - zz.1) (fun zz => [sing b186 (.cells [v182, zz.2.2.1].toArray 26 (0, 0)), H183, zz.2.2.2.1, zz.2.2.2.2.2, sing b5 (.cells [.slice none 0 0, .slice none 0 0].toArray 26 (0, 0))]) (fun zz => [(17, .int .i64 (zz.1 : Int))]) (0, ([]), v176, H177, ([]), noHp) (pc 2 rfl (pc 3 rfl (pc 15 rfl (pc 16 rfl pn)))) (pc 17 rfl pn) rfl ⟨Nat.zero_le _, rfl, o180, (fr_no _), f178⟩ ?_))))
    rintro ⟨k, out, v195, H196, us197, K193⟩ hJ200
    obtain ⟨hk191, hi192, o194, f198, f199⟩ : (k ≤ m.cons.length) ∧ (out = m.cons.take k) ∧ SepM 53 23 3 H196 K193 v195 us197 out ∧ Fr B K193 ∧ Fr B H196 := hJ200
    change KC _ _ (_) [sing b186 (.cells [v182, v195].toArray 26 (0, 0)), H183, H196, K193, sing b5 (.cells [.slice none 0 0, .slice none 0 0].toArray 26 (0, 0))] _ ([(17, .int .i64 (k : Int))] ++ _)
    have o201 := o194.hd
    refine kc_seq (kc_region (kl_lss rfl rfl ?_))
    refine kl_nil (kq_code (kc_seq (kc_if rfl (fun c202 => ?_) (fun c202 => ?_))))
    ·skip
     refine kc_skipQ (kq_code (kc_seq (kc_block (kc_seq (kc_region (kl_inC rfl rfl (by assumption) (by omega) (fun p203 u205 u206 u207 h208 h209 h210 a204 => ?_)))))))
     refine kl_ldS rfl (by assumption) rfl ?_
     refine kl_alloc (cs := [.int .i64 (0 : Int), .slice none 0 0, .slice none 0 0, .int .i64 (0 : Int), .slice none 0 0]) rfl (fun b211 hb212 => ?_)
     refine kl_stW (us := [.int .i64 ((m.cons.getD k nilCon).kind), u205, u206, .int .i64 ((m.cons.getD k nilCon).bound), u207]) rfl rfl rfl rfl (oc rfl (oc (Sl.oneCell (by assumption)) (oc (Sl.oneCell (by assumption)) (oc rfl (oc (Sl.oneCell (by assumption)) oc_nil))))) rfl ?_
     refine kl_chg [sing b211 (.cells [.int .i64 ((m.cons.getD k nilCon).kind), u205, u206, .int .i64 ((m.cons.getD k nilCon).bound), u207].toArray 53 (0, 0)), sing b186 (.cells [v182, v195].toArray 26 (0, 0)), H183, H196, K193, sing b5 (.cells [.slice none 0 0, .slice none 0 0].toArray 26 (0, 0))] rfl ?_
     refine kl_nil (kq_code (kc_tree (fun i => ([5, 7] : List Nat).contains i) [sing b211 (.cells [.int .i64 ((m.cons.getD k nilCon).kind), u205, u206, .int .i64 ((m.cons.getD k nilCon).bound), u207].toArray 53 (0, 0)), sing b186 (.cells [v182, v195].toArray 26 (0, 0))] (by kernel_rfl) ?_))
     refine kt_q 0 (.cons_cons _ (.cons_cons _ (List.nil_sublist _))) rfl (by kernel_rfl) (kl_fdV rfl (kl_nil (kq_q (kt_q 1 (.cons_cons _ (.cons_cons _ (List.nil_sublist _))) rfl (by kernel_rfl) (kl_ld rfl (at_box (T := 26) (cs := [v182, v195]) (off := 1) (fz := (0, 0))) (kl_nil (kq_q (kt_q 2 (.cons_cons _ (.cons_cons _ (List.nil_sublist _))) rfl (by kernel_rfl) (kl_ldS rfl (at_box (T := 53) (cs := [.int .i64 ((m.cons.getD k nilCon).kind), u205, u206, .int .i64 ((m.cons.getD k nilCon).bound), u207]) (off := 0) (fz := (0, 0))) rfl ?_)))))))))
     refine kl_nil (kq_q (kt_a 3 rfl (by kernel_rfl) (kl_callT rfl rfl (copyConX_ok (m.cons.getD k nilCon) (h4 _ (getD_mem (by omega))) (hp _ (getD_mem (by omega))) (by assumption) (by assumption) (by assumption)) (fun v213 L1 Ln K217 h214 f215 f216 => ?_))))
     obtain ⟨rfl, P218, r219, rfl, rfl, p220⟩ := h214
     have f221 := f215 _ (.head _)
     refine kl_norm ?_
     refine kl_nil (kq_a (.cons _ (.cons_cons _ (.cons_cons _ (List.nil_sublist _)))) (kt_a 4 rfl (by kernel_rfl) (kl_bsK rfl (fun v222 H223 f224 r225 => ?_))))
     refine kl_nil (kq_a (.cons _ (.cons_cons _ (.cons_cons _ (List.nil_sublist _)))) (kt_a 5 rfl (by kernel_rfl) (kl_apart K193 P218 (fun a231 => ?_))))
     refine kl_apL (R := RawV) r219 rfl rfl o194.hd r225 rfl (Pc.one p220) (by have hl9 := o194.sp.len; (have h9 := congrArg List.length hi192; simp at h9; omega)) (by decide) (fun v226 H227 o228 f229 => ?_)
     have f230 := f229 B f199 (Nat.le_refl _)
     have m232 := SepM.push o194 o228 p220 a231
     refine kl_nil (kq_x rfl (kt_mrg K193 P218 ?_))
     refine kt_q 6 (.cons _ (.cons_cons _ (.cons_cons _ (List.nil_sublist _)))) rfl (by kernel_rfl) (kl_fdV rfl (kl_nil (kq_q (kt_a 7 rfl (by kernel_rfl) (kl_stB rfl rfl rfl (OwnL.oneCell (by assumption)) (OwnL.cells (by assumption)) ?_)))))
     refine kl_chg [(orHp K193 P218), sing b211 (.cells [.int .i64 ((m.cons.getD k nilCon).kind), u205, u206, .int .i64 ((m.cons.getD k nilCon).bound), u207].toArray 53 (0, 0)), sing b186 (.cells [v182, v226].toArray 26 (0, 0)), H183, H227, sing b5 (.cells [.slice none 0 0, .slice none 0 0].toArray 26 (0, 0))] rfl ?_
     refine kl_nil (kq_x rfl (kt_end (by kernel_rfl) ?_))
     refine kq_code (kc_region (kl_inc rfl rfl (by omega) ?_))
     refine kl_mv rfl (kl_nil (kq_take [sing b186 (.cells [v182, v226].toArray 26 (0, 0)), H183, H227, (orHp K193 P218), sing b5 (.cells [.slice none 0 0, .slice none 0 0].toArray 26 (0, 0))] ?_))
     refine kq_roundL ((k + 1), (out ++ [(m.cons.getD k nilCon)]), v226, H227, (us197 ++ [r219]), (orHp K193 P218)) (by omega) (⟨by omega, (by rw [hi192, take_succ_getD nilCon (by omega)]), m232, (fr_or f198 f221), f230⟩) (pc 17 rfl pn) (pc 2 rfl (pc 3 rfl (pc 15 rfl (pc 16 rfl pn)))) rfl (List.Sublist.refl _)
    ·skip
     refine kc_exit (kq_code (kc_seq (kc_region (kl_ldW rfl rfl (kl_stW (us := [v182, v195]) rfl rfl rfl rfl (oc (OwnL.oneCell (by assumption)) (oc (OwnL.oneCell (by assumption)) oc_nil)) rfl ?_)))))
     refine kl_chg [sing b186 (.cells [v182, v195].toArray 26 (0, 0)), H183, H196, K193, sing b5 (.cells [v182, v195].toArray 26 (0, 0))] rfl ?_
     refine kl_nil (kq_code (kc_ret (kq_apart H196 K193 (fun a234 => ?_))))
     refine kq_mrg H196 K193 ?_
     refine kq_apart H183 (orHp H196 K193) (fun a233 => ?_)
     refine kq_mrg H183 (orHp H196 K193) ?_
     exact kq_retC rfl rfl rfl (orHp H183 (orHp H196 K193)) (fr_or f184 (fr_or f199 f198)) ⟨_, _, rfl, H183, H196, K193, us197, rfl, a233, a234, OwnL.liq o185, OwnL.ints o185, SepM.castX (by rw [hi192, List.take_of_length_le (by omega)]) o194⟩
   ·skip
    refine kl_alloc (cs := [.slice none 0 0, .slice none 0 0]) rfl (fun b235 hb236 => ?_)
    refine kl_nil (kq_a (List.nil_sublist _) (kt_a 7 rfl (by kernel_rfl) (kl_bd rfl (cp (OwnL.cells (by assumption)) (cp (OwnL.cells (by assumption)) cp_nil)) rfl ?_)))
    refine kl_nil (kq_x rfl (kt_a 9 rfl (by kernel_rfl) (kl_stW (us := [v182, v176]) rfl rfl rfl rfl (oc (OwnL.oneCell (by assumption)) (oc (OwnL.oneCell (by assumption)) oc_nil)) rfl ?_)))
    refine kl_chg [sing b235 (.cells [v182, v176].toArray 26 (0, 0)), H183, H177, noHp, sing b5 (.cells [.slice none 0 0, .slice none 0 0].toArray 26 (0, 0))] rfl ?_
    refine kl_nil (kq_x rfl (kt_end (by kernel_rfl) ?_))
    refine kq_code (kc_seq (kc_seq (kc_region (kl_fd rfl (by assumption) (fun p237 a238 => ?_)))))
    refine kl_ld rfl (by assumption) (kl_len rfl (by assumption) (fun l239 => ?_))
    refine kl_mv rfl (kl_nil (kq_code (kc_block (kc_loopL (A := Nat × List Con × Value × Hp × List RawC × Hp) (fun zz => (zz.1 ≤ m.cons.length) ∧ (zz.2.1 = m.cons.take zz.1) ∧ SepM 53 23 3 zz.2.2.2.1 zz.2.2.2.2.2 zz.2.2.1 zz.2.2.2.2.1 zz.2.1 ∧ Fr B zz.2.2.2.2.2 ∧ Fr B zz.2.2.2.1) (fun zz => m.cons.length - zz.1) (fun zz => [sing b235 (.cells [v182, zz.2.2.1].toArray 26 (0, 0)), H183, zz.2.2.2.1, zz.2.2.2.2.2, sing b5 (.cells [.slice none 0 0, .slice none 0 0].toArray 26 (0, 0))]) (fun zz => [(17, .int .i64 (zz.1 : Int))]) (0, ([]), v176, H177, ([]), noHp) (pc 2 rfl (pc 3 rfl (pc 15 rfl (pc 16 rfl pn)))) (pc 17 rfl pn) rfl ⟨Nat.zero_le _, rfl, o180, (fr_no _), f178⟩ ?_))))
    rintro ⟨k, out, v244, H245, us246, K242⟩ hJ249
    obtain ⟨hk240, hi241, o243, f247, f248⟩ : (k ≤ m.cons.length) ∧ (out = m.cons.take k) ∧ SepM 53 23 3 H245 K242 v244 us246 out ∧ Fr B K242 ∧ Fr B H245 := hJ249
    change KC _ _ (_) [sing b235 (.cells [v182, v244].toArray 26 (0, 0)), H183, H245, K242, sing b5 (.cells [.slice none 0 0, .slice none 0 0].toArray 26 (0, 0))] _ ([(17, .int .i64 (k : Int))] ++ _)
    have o250 := o243.hd
    refine kc_seq (kc_region (kl_lss rfl rfl ?_))
    refine kl_nil (kq_code (kc_seq (kc_if rfl (fun c251 => ?_) (fun c251 => ?_))))
    ·skip
     refine kc_skipQ (kq_code (kc_seq (kc_block (kc_seq (kc_region (kl_inC rfl rfl (by assumption) (by omega) (fun p252 u254 u255 u256 h257 h258 h259 a253 => ?_)))))))
     refine kl_ldS rfl (by assumption) rfl ?_
     refine kl_alloc (cs := [.int .i64 (0 : Int), .slice none 0 0, .slice none 0 0, .int .i64 (0 : Int), .slice none 0 0]) rfl (fun b260 hb261 => ?_)
     refine kl_stW (us := [.int .i64 ((m.cons.getD k nilCon).kind), u254, u255, .int .i64 ((m.cons.getD k nilCon).bound), u256]) rfl rfl rfl rfl (oc rfl (oc (Sl.oneCell (by assumption)) (oc (Sl.oneCell (by assumption)) (oc rfl (oc (Sl.oneCell (by assumption)) oc_nil))))) rfl ?_
     refine kl_chg [sing b260 (.cells [.int .i64 ((m.cons.getD k nilCon).kind), u254, u255, .int .i64 ((m.cons.getD k nilCon).bound), u256].toArray 53 (0, 0)), sing b235 (.cells [v182, v244].toArray 26 (0, 0)), H183, H245, K242, sing b5 (.cells [.slice none 0 0, .slice none 0 0].toArray 26 (0, 0))] rfl ?_
     refine kl_nil (kq_code (kc_tree (fun i => ([5, 7] : List Nat).contains i) [sing b260 (.cells [.int .i64 ((m.cons.getD k nilCon).kind), u254, u255, .int .i64 ((m.cons.getD k nilCon).bound), u256].toArray 53 (0, 0)), sing b235 (.cells [v182, v244].toArray 26 (0, 0))] (by kernel_rfl) ?_))
     refine kt_q 0 (.cons_cons _ (.cons_cons _ (List.nil_sublist _))) rfl (by kernel_rfl) (kl_fdV rfl (kl_nil (kq_q (kt_q 1 (.cons_cons _ (.cons_cons _ (List.nil_sublist _))) rfl (by kernel_rfl) (kl_ld rfl (at_box (T := 26) (cs := [v182, v244]) (off := 1) (fz := (0, 0))) (kl_nil (kq_q (kt_q 2 (.cons_cons _ (.cons_cons _ (List.nil_sublist _))) rfl (by kernel_rfl) (kl_ldS rfl (at_box (T := 53) (cs := [.int .i64 ((m.cons.getD k nilCon).kind), u254, u255, .int .i64 ((m.cons.getD k nilCon).bound), u256]) (off := 0) (fz := (0, 0))) rfl ?_)))))))))
     refine kl_nil (kq_q (kt_a 3 rfl (by kernel_rfl) (kl_callT rfl rfl (copyConX_ok (m.cons.getD k nilCon) (h4 _ (getD_mem (by omega))) (hp _ (getD_mem (by omega))) (by assumption) (by assumption) (by assumption)) (fun v262 L1 Ln K266 h263 f264 f265 => ?_))))
     obtain ⟨rfl, P267, r268, rfl, rfl, p269⟩ := h263
     have f270 := f264 _ (.head _)
     refine kl_norm ?_
     refine kl_nil (kq_a (.cons _ (.cons_cons _ (.cons_cons _ (List.nil_sublist _)))) (kt_a 4 rfl (by kernel_rfl) (kl_bsK rfl (fun v271 H272 f273 r274 => ?_))))
     refine kl_nil (kq_a (.cons _ (.cons_cons _ (.cons_cons _ (List.nil_sublist _)))) (kt_a 5 rfl (by kernel_rfl) (kl_apart K242 P267 (fun a280 => ?_))))
     refine kl_apL (R := RawV) r268 rfl rfl o243.hd r274 rfl (Pc.one p269) (by have hl9 := o243.sp.len; (have h9 := congrArg List.length hi241; simp at h9; omega)) (by decide) (fun v275 H276 o277 f278 => ?_)
     have f279 := f278 B f248 (Nat.le_refl _)
     have m281 := SepM.push o243 o277 p269 a280
     refine kl_nil (kq_x rfl (kt_mrg K242 P267 ?_))
     refine kt_q 6 (.cons _ (.cons_cons _ (.cons_cons _ (List.nil_sublist _)))) rfl (by kernel_rfl) (kl_fdV rfl (kl_nil (kq_q (kt_a 7 rfl (by kernel_rfl) (kl_stB rfl rfl rfl (OwnL.oneCell (by assumption)) (OwnL.cells (by assumption)) ?_)))))
     refine kl_chg [(orHp K242 P267), sing b260 (.cells [.int .i64 ((m.cons.getD k nilCon).kind), u254, u255, .int .i64 ((m.cons.getD k nilCon).bound), u256].toArray 53 (0, 0)), sing b235 (.cells [v182, v275].toArray 26 (0, 0)), H183, H276, sing b5 (.cells [.slice none 0 0, .slice none 0 0].toArray 26 (0, 0))] rfl ?_
     refine kl_nil (kq_x rfl (kt_end (by kernel_rfl) ?_))
     refine kq_code (kc_region (kl_inc rfl rfl (by omega) ?_))
     refine kl_mv rfl (kl_nil (kq_take [sing b235 (.cells [v182, v275].toArray 26 (0, 0)), H183, H276, (orHp K242 P267), sing b5 (.cells [.slice none 0 0, .slice none 0 0].toArray 26 (0, 0))] ?_))
     refine kq_roundL ((k + 1), (out ++ [(m.cons.getD k nilCon)]), v275, H276, (us246 ++ [r268]), (orHp K242 P267)) (by omega) (⟨by omega, (by rw [hi241, take_succ_getD nilCon (by omega)]), m281, (fr_or f247 f270), f279⟩) (pc 17 rfl pn) (pc 2 rfl (pc 3 rfl (pc 15 rfl (pc 16 rfl pn)))) rfl (List.Sublist.refl _)
    ·skip
     refine kc_exit (kq_code (kc_seq (kc_region (kl_ldW rfl rfl (kl_stW (us := [v182, v244]) rfl rfl rfl rfl (oc (OwnL.oneCell (by assumption)) (oc (OwnL.oneCell (by assumption)) oc_nil)) rfl ?_)))))
     refine kl_chg [sing b235 (.cells [v182, v244].toArray 26 (0, 0)), H183, H245, K242, sing b5 (.cells [v182, v244].toArray 26 (0, 0))] rfl ?_
     refine kl_nil (kq_code (kc_ret (kq_apart H245 K242 (fun a283 => ?_))))
     refine kq_mrg H245 K242 ?_
     refine kq_apart H183 (orHp H245 K242) (fun a282 => ?_)
     refine kq_mrg H183 (orHp H245 K242) ?_
     exact kq_retC rfl rfl rfl (orHp H183 (orHp H245 K242)) (fr_or f184 (fr_or f248 f247)) ⟨_, _, rfl, H183, H245, K242, us246, rfl, a282, a283, OwnL.liq o185, OwnL.ints o185, SepM.castX (by rw [hi241, List.take_of_length_le (by omega)]) o243⟩
  ·skip
   refine kl_alloc (cs := [.slice none 0 0, .slice none 0 0]) rfl (fun b284 hb285 => ?_)
   refine kl_nil (kq_a (List.nil_sublist _) (kt_a 2 rfl (by kernel_rfl) (kl_callL rfl rfl (copied_ok m.doms (by omega) (by assumption)) (fun v286 H287 f288 o289 => ?_))))
   refine kl_nil (kq_a (List.nil_sublist _) (kt_a 7 rfl (by kernel_rfl) (kl_bd rfl (cp (OwnL.cells (by assumption)) (cp (OwnL.cells (by assumption)) cp_nil)) rfl ?_)))
   refine kl_nil (kq_x rfl (kt_a 9 rfl (by kernel_rfl) (kl_stW (us := [v286, v176]) rfl rfl rfl rfl (oc (OwnL.oneCell (by assumption)) (oc (OwnL.oneCell (by assumption)) oc_nil)) rfl ?_)))
   refine kl_chg [H287, sing b284 (.cells [v286, v176].toArray 26 (0, 0)), H177, noHp, sing b5 (.cells [.slice none 0 0, .slice none 0 0].toArray 26 (0, 0))] rfl ?_
   refine kl_nil (kq_x rfl (kt_end (by kernel_rfl) ?_))
   refine kq_code (kc_seq (kc_seq (kc_region (kl_fd rfl (by assumption) (fun p290 a291 => ?_)))))
   refine kl_ld rfl (by assumption) (kl_len rfl (by assumption) (fun l292 => ?_))
   refine kl_mv rfl (kl_nil (kq_code (kc_block (kc_loopL (A := Nat × List Con × Value × Hp × List RawC × Hp) (fun zz => (zz.1 ≤ m.cons.length) ∧ (zz.2.1 = m.cons.take zz.1) ∧ SepM 53 23 3 zz.2.2.2.1 zz.2.2.2.2.2 zz.2.2.1 zz.2.2.2.2.1 zz.2.1 ∧ Fr B zz.2.2.2.2.2 ∧ Fr B zz.2.2.2.1) (fun zz => m.cons.length - zz.1) (fun zz => [H287, sing b284 (.cells [v286, zz.2.2.1].toArray 26 (0, 0)), zz.2.2.2.1, zz.2.2.2.2.2, sing b5 (.cells [.slice none 0 0, .slice none 0 0].toArray 26 (0, 0))]) (fun zz => [(17, .int .i64 (zz.1 : Int))]) (0, ([]), v176, H177, ([]), noHp) (pc 2 rfl (pc 3 rfl (pc 15 rfl (pc 16 rfl pn)))) (pc 17 rfl pn) rfl ⟨Nat.zero_le _, rfl, o180, (fr_no _), f178⟩ ?_))))
   rintro ⟨k, out, v297, H298, us299, K295⟩ hJ302
   obtain ⟨hk293, hi294, o296, f300, f301⟩ : (k ≤ m.cons.length) ∧ (out = m.cons.take k) ∧ SepM 53 23 3 H298 K295 v297 us299 out ∧ Fr B K295 ∧ Fr B H298 := hJ302
   change KC _ _ (_) [H287, sing b284 (.cells [v286, v297].toArray 26 (0, 0)), H298, K295, sing b5 (.cells [.slice none 0 0, .slice none 0 0].toArray 26 (0, 0))] _ ([(17, .int .i64 (k : Int))] ++ _)
   have o303 := o296.hd
   refine kc_seq (kc_region (kl_lss rfl rfl ?_))
   refine kl_nil (kq_code (kc_seq (kc_if rfl (fun c304 => ?_) (fun c304 => ?_))))
   ·skip
    refine kc_skipQ (kq_code (kc_seq (kc_block (kc_seq (kc_region (kl_inC rfl rfl (by assumption) (by omega) (fun p305 u307 u308 u309 h310 h311 h312 a306 => ?_)))))))
    refine kl_ldS rfl (by assumption) rfl ?_
    refine kl_alloc (cs := [.int .i64 (0 : Int), .slice none 0 0, .slice none 0 0, .int .i64 (0 : Int), .slice none 0 0]) rfl (fun b313 hb314 => ?_)
    refine kl_stW (us := [.int .i64 ((m.cons.getD k nilCon).kind), u307, u308, .int .i64 ((m.cons.getD k nilCon).bound), u309]) rfl rfl rfl rfl (oc rfl (oc (Sl.oneCell (by assumption)) (oc (Sl.oneCell (by assumption)) (oc rfl (oc (Sl.oneCell (by assumption)) oc_nil))))) rfl ?_
    refine kl_chg [sing b313 (.cells [.int .i64 ((m.cons.getD k nilCon).kind), u307, u308, .int .i64 ((m.cons.getD k nilCon).bound), u309].toArray 53 (0, 0)), H287, sing b284 (.cells [v286, v297].toArray 26 (0, 0)), H298, K295, sing b5 (.cells [.slice none 0 0, .slice none 0 0].toArray 26 (0, 0))] rfl ?_
    refine kl_nil (kq_code (kc_tree (fun i => ([5, 7] : List Nat).contains i) [sing b313 (.cells [.int .i64 ((m.cons.getD k nilCon).kind), u307, u308, .int .i64 ((m.cons.getD k nilCon).bound), u309].toArray 53 (0, 0)), sing b284 (.cells [v286, v297].toArray 26 (0, 0))] (by kernel_rfl) ?_))
    refine kt_q 0 (.cons_cons _ (.cons _ (.cons_cons _ (List.nil_sublist _)))) rfl (by kernel_rfl) (kl_fdV rfl (kl_nil (kq_q (kt_q 1 (.cons_cons _ (.cons _ (.cons_cons _ (List.nil_sublist _)))) rfl (by kernel_rfl) (kl_ld rfl (at_box (T := 26) (cs := [v286, v297]) (off := 1) (fz := (0, 0))) (kl_nil (kq_q (kt_q 2 (.cons_cons _ (.cons _ (.cons_cons _ (List.nil_sublist _)))) rfl (by kernel_rfl) ?_))))))))
    refine kl_ldS rfl (at_box (T := 53) (cs := [.int .i64 ((m.cons.getD k nilCon).kind), u307, u308, .int .i64 ((m.cons.getD k nilCon).bound), u309]) (off := 0) (fz := (0, 0))) rfl ?_
    refine kl_nil (kq_q (kt_a 3 rfl (by kernel_rfl) (kl_callT rfl rfl (copyConX_ok (m.cons.getD k nilCon) (h4 _ (getD_mem (by omega))) (hp _ (getD_mem (by omega))) (by assumption) (by assumption) (by assumption)) (fun v315 L1 Ln K319 h316 f317 f318 => ?_))))
    obtain ⟨rfl, P320, r321, rfl, rfl, p322⟩ := h316
    have f323 := f317 _ (.head _)
    refine kl_norm ?_
    refine kl_nil (kq_a (.cons _ (.cons_cons _ (.cons _ (.cons_cons _ (List.nil_sublist _))))) (kt_a 4 rfl (by kernel_rfl) (kl_bsK rfl (fun v324 H325 f326 r327 => ?_))))
    refine kl_nil (kq_a (.cons _ (.cons_cons _ (.cons _ (.cons_cons _ (List.nil_sublist _))))) (kt_a 5 rfl (by kernel_rfl) (kl_apart K295 P320 (fun a333 => ?_))))
    refine kl_apL (R := RawV) r321 rfl rfl o296.hd r327 rfl (Pc.one p322) (by have hl9 := o296.sp.len; (have h9 := congrArg List.length hi294; simp at h9; omega)) (by decide) (fun v328 H329 o330 f331 => ?_)
    have f332 := f331 B f301 (Nat.le_refl _)
    have m334 := SepM.push o296 o330 p322 a333
    refine kl_nil (kq_x rfl (kt_mrg K295 P320 ?_))
    refine kt_q 6 (.cons _ (.cons_cons _ (.cons _ (.cons_cons _ (List.nil_sublist _))))) rfl (by kernel_rfl) (kl_fdV rfl (kl_nil (kq_q (kt_a 7 rfl (by kernel_rfl) (kl_stB rfl rfl rfl (OwnL.oneCell (by assumption)) (OwnL.cells (by assumption)) ?_)))))
    refine kl_chg [(orHp K295 P320), sing b313 (.cells [.int .i64 ((m.cons.getD k nilCon).kind), u307, u308, .int .i64 ((m.cons.getD k nilCon).bound), u309].toArray 53 (0, 0)), H287, sing b284 (.cells [v286, v328].toArray 26 (0, 0)), H329, sing b5 (.cells [.slice none 0 0, .slice none 0 0].toArray 26 (0, 0))] rfl ?_
    refine kl_nil (kq_x rfl (kt_end (by kernel_rfl) ?_))
    refine kq_code (kc_region (kl_inc rfl rfl (by omega) ?_))
    refine kl_mv rfl (kl_nil (kq_take [H287, sing b284 (.cells [v286, v328].toArray 26 (0, 0)), H329, (orHp K295 P320), sing b5 (.cells [.slice none 0 0, .slice none 0 0].toArray 26 (0, 0))] ?_))
    refine kq_roundL ((k + 1), (out ++ [(m.cons.getD k nilCon)]), v328, H329, (us299 ++ [r321]), (orHp K295 P320)) (by omega) (⟨by omega, (by rw [hi294, take_succ_getD nilCon (by omega)]), m334, (fr_or f300 f323), f332⟩) (pc 17 rfl pn) (pc 2 rfl (pc 3 rfl (pc 15 rfl (pc 16 rfl pn)))) rfl (List.Sublist.refl _)
   ·skip
    refine kc_exit (kq_code (kc_seq (kc_region (kl_ldW rfl rfl (kl_stW (us := [v286, v297]) rfl rfl rfl rfl (oc (OwnL.oneCell (by assumption)) (oc (OwnL.oneCell (by assumption)) oc_nil)) rfl ?_)))))
    refine kl_chg [H287, sing b284 (.cells [v286, v297].toArray 26 (0, 0)), H298, K295, sing b5 (.cells [v286, v297].toArray 26 (0, 0))] rfl ?_
    refine kl_nil (kq_code (kc_ret (kq_apart H298 K295 (fun a336 => ?_))))
    refine kq_mrg H298 K295 ?_
    refine kq_apart H287 (orHp H298 K295) (fun a335 => ?_)
    refine kq_mrg H287 (orHp H298 K295) ?_
    exact kq_retC rfl rfl rfl (orHp H287 (orHp H298 K295)) (fr_or f288 (fr_or f301 f300)) ⟨_, _, rfl, H287, H298, K295, us299, rfl, a335, a336, OwnL.liq o289, OwnL.ints o289, SepM.castX (by rw [hi294, List.take_of_length_le (by omega)]) o296⟩
 ·skip
  refine kl_alloc (cs := [.slice none 0 0, .slice none 0 0]) rfl (fun b337 hb338 => ?_)
  refine kl_nil (kq_a (List.nil_sublist _) (kt_b 2 6 rfl rfl (by kernel_rfl) ?_ ?_))
  ·skip
   refine kl_callL rfl rfl (copied_ok m.doms (by omega) (by assumption)) (fun v339 H340 f341 o342 => ?_)
   refine kl_nil (kq_a (List.nil_sublist _) (kt_a 6 rfl (by kernel_rfl) (kl_mkL0 (R := RawV) rfl rfl (by omega) (by omega) (by decide) (fun v343 H344 f345 o346 => ?_))))
   have o347 : SepM 53 23 3 H344 noHp v343 [] [] := SepM.ofL o346
   refine kl_nil (kq_a (List.nil_sublist _) (kt_a 7 rfl (by kernel_rfl) (kl_bd rfl (cp (OwnL.cells (by assumption)) (cp (OwnL.cells (by assumption)) cp_nil)) rfl ?_)))
   refine kl_nil (kq_x rfl (kt_a 9 rfl (by kernel_rfl) (kl_stW (us := [v339, v343]) rfl rfl rfl rfl (oc (OwnL.oneCell (by assumption)) (oc (OwnL.oneCell (by assumption)) oc_nil)) rfl ?_)))
   refine kl_chg [H344, H340, sing b337 (.cells [v339, v343].toArray 26 (0, 0)), noHp, sing b5 (.cells [.slice none 0 0, .slice none 0 0].toArray 26 (0, 0))] rfl ?_
   refine kl_nil (kq_x rfl (kt_end (by kernel_rfl) ?_))
   refine kq_code (kc_seq (kc_seq (kc_region (kl_fd rfl (by assumption) (fun p349 a350 => ?_)))))
   refine kl_ld rfl (by assumption) (kl_len rfl (by assumption) (fun l351 => ?_))
   refine kl_mv rfl (kl_nil (kq_code (kc_block (kc_loopL (A := Nat × List Con × Value × Hp × List RawC × Hp) (fun zz => (zz.1 ≤ m.cons.length) ∧ (zz.2.1 = m.cons.take zz.1) ∧ SepM 53 23 3 zz.2.2.2.1 zz.2.2.2.2.2 zz.2.2.1 zz.2.2.2.2.1 zz.2.1 ∧ Fr B zz.2.2.2.2.2 ∧ Fr B zz.2.2.2.1) (fun zz => m.cons.length - zz.1) (fun zz => [zz.2.2.2.1, H340, sing b337 (.cells [v339, zz.2.2.1].toArray 26 (0, 0)), zz.2.2.2.2.2, sing b5 (.cells [.slice none 0 0, .slice none 0 0].toArray 26 (0, 0))]) (fun zz => [(17, .int .i64 (zz.1 : Int))]) (0, ([]), v343, H344, ([]), noHp) (pc 2 rfl (pc 3 rfl (pc 15 rfl (pc 16 rfl pn)))) (pc 17 rfl pn) rfl ⟨Nat.zero_le _, rfl, o347, (fr_no _), f345⟩ ?_))))
   rintro ⟨k, out, v356, H357, us358, K354⟩ hJ361
   obtain ⟨hk352, hi353, o355, f359, f360⟩ : (k ≤ m.cons.length) ∧ (out = m.cons.take k) ∧ SepM 53 23 3 H357 K354 v356 us358 out ∧ Fr B K354 ∧ Fr B H357 := hJ361
   change KC _ _ (_) [H357, H340, sing b337 (.cells [v339, v356].toArray 26 (0, 0)), K354, sing b5 (.cells [.slice none 0 0, .slice none 0 0].toArray 26 (0, 0))] _ ([(17, .int .i64 (k : Int))] ++ _)
   have o362 := o355.hd
   refine kc_seq (kc_region (kl_lss rfl rfl ?_))
   refine kl_nil (kq_code (kc_seq (kc_if rfl (fun c363 => ?_) (fun c363 => ?_))))
   ·skip
    refine kc_skipQ (kq_code (kc_seq (kc_block (kc_seq (kc_region (kl_inC rfl rfl (by assumption) (by omega) (fun p364 u366 u367 u368 h369 h370 h371 a365 => ?_)))))))
    refine kl_ldS rfl (by assumption) rfl ?_
    refine kl_alloc (cs := [.int .i64 (0 : Int), .slice none 0 0, .slice none 0 0, .int .i64 (0 : Int), .slice none 0 0]) rfl (fun b372 hb373 => ?_)
    refine kl_stW (us := [.int .i64 ((m.cons.getD k nilCon).kind), u366, u367, .int .i64 ((m.cons.getD k nilCon).bound), u368]) rfl rfl rfl rfl (oc rfl (oc (Sl.oneCell (by assumption)) (oc (Sl.oneCell (by assumption)) (oc rfl (oc (Sl.oneCell (by assumption)) oc_nil))))) rfl ?_
    refine kl_chg [sing b372 (.cells [.int .i64 ((m.cons.getD k nilCon).kind), u366, u367, .int .i64 ((m.cons.getD k nilCon).bound), u368].toArray 53 (0, 0)), H357, H340, sing b337 (.cells [v339, v356].toArray 26 (0, 0)), K354, sing b5 (.cells [.slice none 0 0, .slice none 0 0].toArray 26 (0, 0))] rfl ?_
    refine kl_nil (kq_code (kc_tree (fun i => ([5, 7] : List Nat).contains i) [sing b372 (.cells [.int .i64 ((m.cons.getD k nilCon).kind), u366, u367, .int .i64 ((m.cons.getD k nilCon).bound), u368].toArray 53 (0, 0)), sing b337 (.cells [v339, v356].toArray 26 (0, 0))] (by kernel_rfl) ?_))
    refine kt_q 0 (.cons_cons _ (.cons _ (.cons _ (.cons_cons _ (List.nil_sublist _))))) rfl (by kernel_rfl) (kl_fdV rfl (kl_nil (kq_q (kt_q 1 (.cons_cons _ (.cons _ (.cons _ (.cons_cons _ (List.nil_sublist _))))) rfl (by kernel_rfl) (kl_ld rfl (at_box (T := 26) (cs := [v339, v356]) (off := 1) (fz := (0, 0))) (kl_nil (kq_q (kt_q 2 (.cons_cons _ (.cons _ (.cons _ (.cons_cons _ (List.nil_sublist _))))) rfl (by kernel_rfl) ?_))))))))
    refine kl_ldS rfl (at_box (T := 53) (cs := [.int .i64 ((m.cons.getD k nilCon).kind), u366, u367, .int .i64 ((m.cons.getD k nilCon).bound), u368]) (off := 0) (fz := (0, 0))) rfl ?_
    refine kl_nil (kq_q (kt_a 3 rfl (by kernel_rfl) (kl_callT rfl rfl (copyConX_ok (m.cons.getD k nilCon) (h4 _ (getD_mem (by omega))) (hp _ (getD_mem (by omega))) (by assumption) (by assumption) (by assumption)) (fun v374 L1 Ln K378 h375 f376 f377 => ?_))))
    obtain ⟨rfl, P379, r380, rfl, rfl, p381⟩ := h375
    have f382 := f376 _ (.head _)
    refine kl_norm ?_
    refine kl_nil (kq_a (.cons _ (.cons_cons _ (.cons _ (.cons _ (.cons_cons _ (List.nil_sublist _)))))) (kt_a 4 rfl (by kernel_rfl) (kl_bsK rfl (fun v383 H384 f385 r386 => ?_))))
    refine kl_nil (kq_a (.cons _ (.cons_cons _ (.cons _ (.cons _ (.cons_cons _ (List.nil_sublist _)))))) (kt_a 5 rfl (by kernel_rfl) (kl_apart K354 P379 (fun a392 => ?_))))
    refine kl_apL (R := RawV) r380 rfl rfl o355.hd r386 rfl (Pc.one p381) (by have hl9 := o355.sp.len; (have h9 := congrArg List.length hi353; simp at h9; omega)) (by decide) (fun v387 H388 o389 f390 => ?_)
    have f391 := f390 B f360 (Nat.le_refl _)
    have m393 := SepM.push o355 o389 p381 a392
    refine kl_nil (kq_x rfl (kt_mrg K354 P379 ?_))
    refine kt_q 6 (.cons _ (.cons_cons _ (.cons _ (.cons _ (.cons_cons _ (List.nil_sublist _)))))) rfl (by kernel_rfl) (kl_fdV rfl (kl_nil (kq_q (kt_a 7 rfl (by kernel_rfl) (kl_stB rfl rfl rfl (OwnL.oneCell (by assumption)) (OwnL.cells (by assumption)) ?_)))))
    refine kl_chg [(orHp K354 P379), sing b372 (.cells [.int .i64 ((m.cons.getD k nilCon).kind), u366, u367, .int .i64 ((m.cons.getD k nilCon).bound), u368].toArray 53 (0, 0)), H388, H340, sing b337 (.cells [v339, v387].toArray 26 (0, 0)), sing b5 (.cells [.slice none 0 0, .slice none 0 0].toArray 26 (0, 0))] rfl ?_
    refine kl_nil (kq_x rfl (kt_end (by kernel_rfl) ?_))
    refine kq_code (kc_region (kl_inc rfl rfl (by omega) ?_))
    refine kl_mv rfl (kl_nil (kq_take [H388, H340, sing b337 (.cells [v339, v387].toArray 26 (0, 0)), (orHp K354 P379), sing b5 (.cells [.slice none 0 0, .slice none 0 0].toArray 26 (0, 0))] ?_))
    refine kq_roundL ((k + 1), (out ++ [(m.cons.getD k nilCon)]), v387, H388, (us358 ++ [r380]), (orHp K354 P379)) (by omega) (⟨by omega, (by rw [hi353, take_succ_getD nilCon (by omega)]), m393, (fr_or f359 f382), f391⟩) (pc 17 rfl pn) (pc 2 rfl (pc 3 rfl (pc 15 rfl (pc 16 rfl pn)))) rfl (List.Sublist.refl _)
   ·skip
    refine kc_exit (kq_code (kc_seq (kc_region (kl_ldW rfl rfl (kl_stW (us := [v339, v356]) rfl rfl rfl rfl (oc (OwnL.oneCell (by assumption)) (oc (OwnL.oneCell (by assumption)) oc_nil)) rfl ?_)))))
    refine kl_chg [H357, H340, sing b337 (.cells [v339, v356].toArray 26 (0, 0)), K354, sing b5 (.cells [v339, v356].toArray 26 (0, 0))] rfl ?_
    refine kl_nil (kq_code (kc_ret (kq_apart H357 K354 (fun a395 => ?_))))
    refine kq_mrg H357 K354 ?_
    refine kq_apart H340 (orHp H357 K354) (fun a394 => ?_)
    refine kq_mrg H340 (orHp H357 K354) ?_
    exact kq_retC rfl rfl rfl (orHp H340 (orHp H357 K354)) (fr_or f341 (fr_or f360 f359)) ⟨_, _, rfl, H340, H357, K354, us358, rfl, a394, a395, OwnL.liq o342, OwnL.ints o342, SepM.castX (by rw [hi353, List.take_of_length_le (by omega)]) o355⟩
  ·skip
   refine kl_mkL0 (R := RawV) rfl rfl (by omega) (by omega) (by decide) (fun v396 H397 f398 o399 => ?_)
   have o400 : SepM 53 23 3 H397 noHp v396 [] [] := SepM.ofL o399
   refine kl_nil (kq_a (List.nil_sublist _) (kt_a 2 rfl (by kernel_rfl) (kl_callL rfl rfl (copied_ok m.doms (by omega) (by assumption)) (fun v402 H403 f404 o405 => ?_))))
   refine kl_nil (kq_a (List.nil_sublist _) (kt_a 7 rfl (by kernel_rfl) (kl_bd rfl (cp (OwnL.cells (by assumption)) (cp (OwnL.cells (by assumption)) cp_nil)) rfl ?_)))
   refine kl_nil (kq_x rfl (kt_a 9 rfl (by kernel_rfl) (kl_stW (us := [v402, v396]) rfl rfl rfl rfl (oc (OwnL.oneCell (by assumption)) (oc (OwnL.oneCell (by assumption)) oc_nil)) rfl ?_)))
   refine kl_chg [H403, H397, sing b337 (.cells [v402, v396].toArray 26 (0, 0)), noHp, sing b5 (.cells [.slice none 0 0, .slice none 0 0].toArray 26 (0, 0))] rfl ?_
   refine kl_nil (kq_x rfl (kt_end (by kernel_rfl) ?_))
   refine kq_code (kc_seq (kc_seq (kc_region (kl_fd rfl (by assumption) (fun p406 a407 => ?_)))))
   refine kl_ld rfl (by assumption) (kl_len rfl (by assumption) (fun l408 => ?_))
   refine kl_mv rfl (kl_nil (kq_code (kc_block (kc_loopL (A := Nat × List Con × Value × Hp × List RawC × Hp) (fun zz => (zz.1 ≤ m.cons.length) ∧ (zz.2.1 = m.cons.take zz.1) ∧ SepM 53 23 3 zz.2.2.2.1 zz.2.2.2.2.2 zz.2.2.1 zz.2.2.2.2.1 zz.2.1 ∧ Fr B zz.2.2.2.2.2 ∧ Fr B zz.2.2.2.1) (fun zz => m.cons.length - zz.1) (fun zz => [H403, zz.2.2.2.1, sing b337 (.cells [v402, zz.2.2.1].toArray 26 (0, 0)), zz.2.2.2.2.2, sing b5 (.cells [.slice none 0 0, .slice none 0 0].toArray 26 (0, 0))]) (fun zz => [(17, .int .i64 (zz.1 : Int))]) (0, ([]), v396, H397, ([]), noHp) (pc 2 rfl (pc 3 rfl (pc 15 rfl (pc 16 rfl pn)))) (pc 17 rfl pn) rfl ⟨Nat.zero_le _, rfl, o400, (fr_no _), f398⟩ ?_))))
   rintro ⟨k, out, v413, H414, us415, K411⟩ hJ418
   obtain ⟨hk409, hi410, o412, f416, f417⟩ : (k ≤ m.cons.length) ∧ (out = m.cons.take k) ∧ SepM 53 23 3 H414 K411 v413 us415 out ∧ Fr B K411 ∧ Fr B H414 := hJ418
   change KC _ _ (_) [H403, H414, sing b337 (.cells [v402, v413].toArray 26 (0, 0)), K411, sing b5 (.cells [.slice none 0 0, .slice none 0 0].toArray 26 (0, 0))] _ ([(17, .int .i64 (k : Int))] ++ _)
   have o419 := o412.hd
   refine kc_seq (kc_region (kl_lss rfl rfl ?_))
   refine kl_nil (kq_code (kc_seq (kc_if rfl (fun c420 => ?_) (fun c420 => ?_))))
   ·skip
    refine kc_skipQ (kq_code (kc_seq (kc_block (kc_seq (kc_region (kl_inC rfl rfl (by assumption) (by omega) (fun p421 u423 u424 u425 h426 h427 h428 a422 => ?_)))))))
    refine kl_ldS rfl (by assumption) rfl ?_
    refine kl_alloc (cs := [.int .i64 (0 : Int), .slice none 0 0, .slice none 0 0, .int .i64 (0 : Int), .slice none 0 0]) rfl (fun b429 hb430 => ?_)
    refine kl_stW (us := [.int .i64 ((m.cons.getD k nilCon).kind), u423, u424, .int .i64 ((m.cons.getD k nilCon).bound), u425]) rfl rfl rfl rfl (oc rfl (oc (Sl.oneCell (by assumption)) (oc (Sl.oneCell (by assumption)) (oc rfl (oc (Sl.oneCell (by assumption)) oc_nil))))) rfl ?_
    refine kl_chg [sing b429 (.cells [.int .i64 ((m.cons.getD k nilCon).kind), u423, u424, .int .i64 ((m.cons.getD k nilCon).bound), u425].toArray 53 (0, 0)), H403, H414, sing b337 (.cells [v402, v413].toArray 26 (0, 0)), K411, sing b5 (.cells [.slice none 0 0, .slice none 0 0].toArray 26 (0, 0))] rfl ?_
    refine kl_nil (kq_code (kc_tree (fun i => ([5, 7] : List Nat).contains i) [sing b429 (.cells [.int .i64 ((m.cons.getD k nilCon).kind), u423, u424, .int .i64 ((m.cons.getD k nilCon).bound), u425].toArray 53 (0, 0)), sing b337 (.cells [v402, v413].toArray 26 (0, 0))] (by kernel_rfl) ?_))
    refine kt_q 0 (.cons_cons _ (.cons _ (.cons _ (.cons_cons _ (List.nil_sublist _))))) rfl (by kernel_rfl) (kl_fdV rfl (kl_nil (kq_q (kt_q 1 (.cons_cons _ (.cons _ (.cons _ (.cons_cons _ (List.nil_sublist _))))) rfl (by kernel_rfl) (kl_ld rfl (at_box (T := 26) (cs := [v402, v413]) (off := 1) (fz := (0, 0))) (kl_nil (kq_q (kt_q 2 (.cons_cons _ (.cons _ (.cons _ (.cons_cons _ (List.nil_sublist _))))) rfl (by kernel_rfl) ?_))))))))
    refine kl_ldS rfl (at_box (T := 53) (cs := [.int .i64 ((m.cons.getD k nilCon).kind), u423, u424, .int .i64 ((m.cons.getD k nilCon).bound), u425]) (off := 0) (fz := (0, 0))) rfl ?_
    refine kl_nil (kq_q (kt_a 3 rfl (by kernel_rfl) (kl_callT rfl rfl (copyConX_ok (m.cons.getD k nilCon) (h4 _ (getD_mem (by omega))) (hp _ (getD_mem (by omega))) (by assumption) (by assumption) (by assumption)) (fun v431 L1 Ln K435 h432 f433 f434 => ?_))))
    obtain ⟨rfl, P436, r437, rfl, rfl, p438⟩ := h432
    have f439 := f433 _ (.head _)
    refine kl_norm ?_
    refine kl_nil (kq_a (.cons _ (.cons_cons _ (.cons _ (.cons _ (.cons_cons _ (List.nil_sublist _)))))) (kt_a 4 rfl (by kernel_rfl) (kl_bsK rfl (fun v440 H441 f442 r443 => ?_))))
    refine kl_nil (kq_a (.cons _ (.cons_cons _ (.cons _ (.cons _ (.cons_cons _ (List.nil_sublist _)))))) (kt_a 5 rfl (by kernel_rfl) (kl_apart K411 P436 (fun a449 => ?_))))
    refine kl_apL (R := RawV) r437 rfl rfl o412.hd r443 rfl (Pc.one p438) (by have hl9 := o412.sp.len; (have h9 := congrArg List.length hi410; simp at h9; omega)) (by decide) (fun v444 H445 o446 f447 => ?_)
    have f448 := f447 B f417 (Nat.le_refl _)
    have m450 := SepM.push o412 o446 p438 a449
    refine kl_nil (kq_x rfl (kt_mrg K411 P436 ?_))
    refine kt_q 6 (.cons _ (.cons_cons _ (.cons _ (.cons _ (.cons_cons _ (List.nil_sublist _)))))) rfl (by kernel_rfl) (kl_fdV rfl (kl_nil (kq_q (kt_a 7 rfl (by kernel_rfl) (kl_stB rfl rfl rfl (OwnL.oneCell (by assumption)) (OwnL.cells (by assumption)) ?_)))))
    refine kl_chg [(orHp K411 P436), sing b429 (.cells [.int .i64 ((m.cons.getD k nilCon).kind), u423, u424, .int .i64 ((m.cons.getD k nilCon).bound), u425].toArray 53 (0, 0)), H403, H445, sing b337 (.cells [v402, v444].toArray 26 (0, 0)), sing b5 (.cells [.slice none 0 0, .slice none 0 0].toArray 26 (0, 0))] rfl ?_
    refine kl_nil (kq_x rfl (kt_end (by kernel_rfl) ?_))
    refine kq_code (kc_region (kl_inc rfl rfl (by omega) ?_))
    refine kl_mv rfl (kl_nil (kq_take [H403, H445, sing b337 (.cells [v402, v444].toArray 26 (0, 0)), (orHp K411 P436), sing b5 (.cells [.slice none 0 0, .slice none 0 0].toArray 26 (0, 0))] ?_))
    refine kq_roundL ((k + 1), (out ++ [(m.cons.getD k nilCon)]), v444, H445, (us415 ++ [r437]), (orHp K411 P436)) (by omega) (⟨by omega, (by rw [hi410, take_succ_getD nilCon (by omega)]), m450, (fr_or f416 f439), f448⟩) (pc 17 rfl pn) (pc 2 rfl (pc 3 rfl (pc 15 rfl (pc 16 rfl pn)))) rfl (List.Sublist.refl _)
   ·skip
    refine kc_exit (kq_code (kc_seq (kc_region (kl_ldW rfl rfl (kl_stW (us := [v402, v413]) rfl rfl rfl rfl (oc (OwnL.oneCell (by assumption)) (oc (OwnL.oneCell (by assumption)) oc_nil)) rfl ?_)))))
    refine kl_chg [H403, H414, sing b337 (.cells [v402, v413].toArray 26 (0, 0)), K411, sing b5 (.cells [v402, v413].toArray 26 (0, 0))] rfl ?_
    refine kl_nil (kq_code (kc_ret (kq_apart H414 K411 (fun a452 => ?_))))
    refine kq_mrg H414 K411 ?_
    refine kq_apart H403 (orHp H414 K411) (fun a451 => ?_)
    refine kq_mrg H403 (orHp H414 K411) ?_
    exact kq_retC rfl rfl rfl (orHp H403 (orHp H414 K411)) (fr_or f404 (fr_or f417 f416)) ⟨_, _, rfl, H403, H414, K411, us415, rfl, a451, a452, OwnL.liq o405, OwnL.ints o405, SepM.castX (by rw [hi410, List.take_of_length_le (by omega)]) o412⟩
theorem markConX_ok {H K : Hp} {v : Value} {rs : List RawC} (cs : List Con) (k : Int) (hk : 0 ≤ k ∧ k + (msum cs : Nat) ≤ 4611686018427387904) (hm : SepM 53 23 3 H K v rs cs) : SpecT Try.prog 47 [v, .int .i64 k] [H, K] [] (fun vq L1 Ln _ => ∃ H2 K2 rs2, L1 = [H2, K2] ∧ Ln = [] ∧ vq = .int .i64 (k + (msum cs : Nat)) ∧ SepM 53 23 3 H2 K2 v rs2 (markC k cs)) := by
 refine specT_of Try.func47 rfl rfl rfl (fun B => ?_)
 refine kc_seq (kc_region (kl_as rfl (kl_nil (kq_code (kc_seq (kc_seq (kc_region (kl_as rfl (kl_nil (kq_code (kc_block (kc_loopL (A := Nat × Int × List RawC × List Con × Hp × Hp) (fun zz => (zz.1 ≤ cs.length) ∧ (zz.2.1 = k + (msum (cs.take zz.1) : Nat) ∧ zz.2.2.2.1 = mcTo k cs zz.1) ∧ SepM 53 23 3 zz.2.2.2.2.1 zz.2.2.2.2.2 v zz.2.2.1 zz.2.2.2.1) (fun zz => cs.length - zz.1) (fun zz => [zz.2.2.2.2.1, zz.2.2.2.2.2]) (fun zz => [(5, .int .i64 (zz.1 : Int)), (1, .int .i64 zz.2.1)]) (0, k, rs, cs, H, K) (pc 0 rfl (pc 4 rfl pn)) (pc 5 rfl (pc 1 rfl pn)) rfl ⟨Nat.zero_le _, ⟨by simp [msum], (mcTo_0 _ _).symm⟩, hm⟩ ?_))))))))))))
 rintro ⟨i, l, rs1, ys, H1, K1⟩ hJ5
 obtain ⟨hk1, ⟨hl, hy⟩, o4⟩ : (i ≤ cs.length) ∧ (l = k + (msum (cs.take i) : Nat) ∧ ys = mcTo k cs i) ∧ SepM 53 23 3 H1 K1 v rs1 ys := hJ5
 change KC _ _ (_) [H1, K1] _ ([(5, .int .i64 (i : Int)), (1, .int .i64 l)] ++ _)
 have hyl : ys.length = cs.length := (by rw [hy]; exact mcTo_len hk1)
 have hrl : rs1.length = ys.length := o4.sp.len
 have o5 := o4.hd
 refine kc_seq (kc_seq (kc_region (kl_mv rfl (kl_mv rfl (kl_lenL rfl o5 (fun l6 => ?_))))))
 refine kl_lss rfl rfl ?_
 refine kl_nil (kq_code (kc_if rfl (fun c7 => ?_) (fun c7 => ?_)))
 ·skip
  have hi : i < cs.length := by omega
  have hci : ys.getD i nilCon = cs.getD i nilCon := by rw [hy]; exact mcTo_at hi
  have hms := msum_le cs (i + 1)
  rw [msum_step hi] at hms
  have hc : mcN (cs.getD i nilCon) = 2 + (cs.getD i nilCon).vars.length + (cs.getD i nilCon).args.length + rsum (cs.getD i nilCon).rows := rfl
  obtain ⟨Pi, Ki, rfl, ap, ⟨Hv, Ha, Hh, Hk, us, rfl, q⟩, back⟩ := o4.sp.split (i := i) (by omega)
  rw [hci] at q
  obtain ⟨r0, hr0⟩ : ∃ r0, rs1.getD i nilRaw = r0 := ⟨_, rfl⟩
  rw [hr0] at q
  refine kc_skipQ (kq_code (kc_seq (kc_block (kc_seq (kc_region (kl_mv rfl (kl_mv rfl (kl_mv rfl (kl_split (orHp Hv (orHp Ha (orHp Hh Hk))) Ki ap ?_)))))))))
  refine kl_split Hv (orHp Ha (orHp Hh Hk)) q.a1 ?_
  refine kl_split Ha (orHp Hh Hk) q.a2 ?_
  refine kl_split Hh Hk q.a3 ?_
  refine kl_ixLn rfl rfl o5 (by omega) (fun p8 a9 => ?_)
  refine kl_fdR rfl a9 (fun p19 a20 => ?_)
  refine kl_stF (i := i) (j := 0) ⟨l, r0.va, r0.vb, r0.bound, r0.vr⟩ rfl rfl o5 a20 (by omega) (by decide) rfl rfl (by rw [hr0]; rfl) (fun H2 o6 f6 => ?_)
  have e6 := raw_at (rs := rs1) (i := i) (r := ⟨l, r0.va, r0.vb, r0.bound, r0.vr⟩) (by omega)
  refine kl_nil (kq_code (kc_seq (kc_region (kl_mv rfl (kl_add rfl rfl (by omega) (kl_as rfl (kl_nil (kq_code (kc_seq (kc_region (kl_mv rfl (kl_mv rfl (kl_ixLn rfl rfl o6 (by simp; omega) (fun p24 a25 => ?_))))))))))))))
  refine kl_fdR rfl a25 (fun p35 a36 => ?_)
  refine kl_ldF (i := i) (j := 1) (u := r0.va) rfl o6 a36 (by simp; omega) (by decide) (by rw [e6]; rfl) ?_
  refine kl_mv rfl (kl_callM rfl rfl (markIntS_ok (cs.getD i nilCon).vars (l + (1 : Int)) (by omega) q.iv q.lv) (fun v37 Hv2 K39 f40 h41 d42 => ?_))
  obtain ⟨m43, rfl, g43⟩ := h41
  refine kl_as rfl (kl_nil (kq_code (kc_seq (kc_region (kl_mv rfl (kl_mv rfl (kl_ixLn rfl rfl o6 (by simp; omega) (fun p44 a45 => ?_))))))))
  refine kl_fdR rfl a45 (fun p55 a56 => ?_)
  refine kl_ldF (i := i) (j := 2) (u := r0.vb) rfl o6 a56 (by simp; omega) (by decide) (by rw [e6]; rfl) ?_
  refine kl_mv rfl (kl_callM rfl rfl (markIntS_ok (cs.getD i nilCon).args (l + (1 : Int) + ((cs.getD i nilCon).vars.length : Int)) (by omega) q.ia q.la) (fun v57 Ha2 K59 f60 h61 d62 => ?_))
  obtain ⟨m63, rfl, g63⟩ := h61
  refine kl_as rfl (kl_nil (kq_code (kc_seq (kc_region (kl_mv rfl (kl_mv rfl (kl_mv rfl (kl_ixLn rfl rfl o6 (by simp; omega) (fun p64 a65 => ?_)))))))))
  refine kl_fdR rfl a65 (fun p75 a76 => ?_)
  refine kl_stF (i := i) (j := 3) ⟨l, r0.va, r0.vb, l + (1 : Int) + ((cs.getD i nilCon).vars.length : Int) + ((cs.getD i nilCon).args.length : Int), r0.vr⟩ rfl rfl o6 a76 (by simp; omega) (by decide) rfl rfl (by rw [e6]; rfl) (fun H7 o7 f7 => ?_)
  rw [List.set_set] at o7
  have e7 := raw_at (rs := rs1) (i := i) (r := ⟨l, r0.va, r0.vb, l + (1 : Int) + ((cs.getD i nilCon).vars.length : Int) + ((cs.getD i nilCon).args.length : Int), r0.vr⟩) (by omega)
  refine kl_nil (kq_code (kc_seq (kc_region (kl_mv rfl (kl_add rfl rfl (by omega) (kl_as rfl (kl_nil (kq_code (kc_region (kl_mv rfl (kl_mv rfl (kl_ixLn rfl rfl o7 (by simp; omega) (fun p80 a81 => ?_)))))))))))))
  refine kl_fdR rfl a81 (fun p91 a92 => ?_)
  refine kl_ldF (i := i) (j := 4) (u := r0.vr) rfl o7 a92 (by simp; omega) (by decide) (by rw [e7]; rfl) ?_
  refine kl_mv rfl (kl_callT rfl rfl (markSSm_ok (cs.getD i nilCon).rows (l + (1 : Int) + ((cs.getD i nilCon).vars.length : Int) + ((cs.getD i nilCon).args.length : Int) + (1 : Int)) (by omega) q.mr) (fun v93 L1 Ln K95 h97 f96 d98 => ?_))
  obtain ⟨K9, rfl, rfl, rfl, m9⟩ := h97
  refine kl_norm ?_
  refine kl_apart Hh K9 (fun b3 => ?_)
  refine kl_mrg Hh K9 ?_
  refine kl_apart Ha2 (orHp Hh K9) (fun b2 => ?_)
  refine kl_mrg Ha2 (orHp Hh K9) ?_
  refine kl_apart Hv2 (orHp Ha2 (orHp Hh K9)) (fun b1 => ?_)
  refine kl_mrg Hv2 (orHp Ha2 (orHp Hh K9)) ?_
  refine kl_apart (orHp Hv2 (orHp Ha2 (orHp Hh K9))) Ki (fun b0 => ?_)
  refine kl_mrg (orHp Hv2 (orHp Ha2 (orHp Hh K9))) Ki ?_
  have m10 := back (orHp Hv2 (orHp Ha2 (orHp Hh K9))) ⟨l, r0.va, r0.vb, l + (1 : Int) + ((cs.getD i nilCon).vars.length : Int) + ((cs.getD i nilCon).args.length : Int), r0.vr⟩ (markC1 l (cs.getD i nilCon)) b0 ⟨Hv2, Ha2, Hh, K9, us, rfl, ⟨b1, b2, b3, g43, Mk.liq m43 q.lv, g63, Mk.liq m63 q.la, m9, rfl, rfl⟩⟩
  refine kl_as rfl (kl_nil (kq_code (kc_region (kl_mv rfl (kl_inc rfl rfl (by omega) (kl_as rfl (kl_nil (kq_take [H7, orHp (orHp Hv2 (orHp Ha2 (orHp Hh K9))) Ki] (kq_roundL ((i + 1), (l + (1 : Int) + ((cs.getD i nilCon).vars.length : Int) + ((cs.getD i nilCon).args.length : Int) + (1 : Int) + ((rsum (cs.getD i nilCon).rows : Nat) : Int)), (rs1.set i ⟨l, r0.va, r0.vb, l + (1 : Int) + ((cs.getD i nilCon).vars.length : Int) + ((cs.getD i nilCon).args.length : Int), r0.vr⟩), (ys.set i (markC1 l (cs.getD i nilCon))), H7, (orHp (orHp Hv2 (orHp Ha2 (orHp Hh K9))) Ki)) (by omega) (⟨by omega, ⟨by dsimp only; rw [msum_step hi]; omega, by dsimp only; rw [hy, hl]; exact mcTo_step hi⟩, ⟨o7, m10⟩⟩) (pc 5 rfl (pc 1 rfl pn)) (pc 0 rfl (pc 4 rfl pn)) rfl (List.Sublist.refl _))))))))))
 ·skip
  refine kc_exit (kq_code (kc_seq (kc_region (kl_mv rfl (kl_as rfl (kl_nil (kq_code (kc_ret ?_))))))))
  exact kq_retT rfl rfl [H1, K1] [] noHp frn (fr_no _) ⟨H1, K1, rs1, rfl, rfl, congrArg (Value.int .i64) (by rw [hl, List.take_of_length_le (by omega)]), SepM.castX (by rw [hy]; exact mcTo_end (by omega)) o4⟩
theorem markModX_ok {H : Hp} {vd vc : Value} (m : Mod) (k : Int) (hk : 0 ≤ k ∧ k + (m.doms.length : Int) + (msum m.cons : Nat) ≤ 4611686018427387904) (hm : ModX 53 23 3 H vd vc m) : SpecT Try.prog 17 [.agg #[vd, vc], .int .i64 k] [H] [] (fun vq L1 Ln _ => ∃ H2, L1 = [H2] ∧ Ln = [] ∧ vq = .int .i64 (k + (m.doms.length : Int) + (msum m.cons : Nat)) ∧ ModX 53 23 3 H2 vd vc (markM k m)) := by
 refine specT_of Try.func17 rfl rfl rfl (fun B => ?_)
 obtain ⟨Hd, Hc, K, rs, rfl, a1, a2, lq, iv, sm⟩ := hm
 refine kc_seq (kc_region (kl_box rfl rfl (fun p1 H2 f3 a4 => ?_)))
 refine kl_split Hd (orHp Hc K) a1 ?_
 refine kl_split Hc K a2 ?_
 refine kl_as rfl (kl_nil (kq_code (kc_seq (kc_region (kl_fd rfl (by assumption) (fun p5 a6 => ?_))))))
 refine kl_ld rfl (by assumption) (kl_mv rfl (kl_callM rfl rfl (markIntS_ok m.doms k (by omega) iv lq) (fun v7 Hd2 K9 f10 h11 d12 => ?_)))
 obtain ⟨m13, rfl, g13⟩ := h11
 refine kl_as rfl (kl_nil (kq_code (kc_seq (kc_region (kl_fd rfl (by assumption) (fun p14 a15 => ?_))))))
 refine kl_ld rfl (by assumption) (kl_mv rfl (kl_callT rfl rfl (markConX_ok m.cons (k + (m.doms.length : Int)) (by omega) sm) (fun v19 L1 Ln K20 h21 f22 f23 => ?_)))
 obtain ⟨Hc2, K2, rs2, rfl, rfl, rfl, sm2⟩ := h21
 refine kl_norm ?_
 refine kl_apart Hc2 K2 (fun b2 => ?_)
 refine kl_mrg Hc2 K2 ?_
 refine kl_apart Hd2 (orHp Hc2 K2) (fun b1 => ?_)
 refine kl_mrg Hd2 (orHp Hc2 K2) ?_
 refine kl_as rfl (kl_nil (kq_code (kc_seq (kc_region (kl_mv rfl (kl_as rfl (kl_nil (kq_code (kc_ret ?_)))))))))
 exact kq_retT rfl rfl [orHp Hd2 (orHp Hc2 K2)] [] noHp frn (fr_no _) ⟨_, rfl, rfl, rfl, ⟨Hd2, Hc2, K2, rs2, rfl, b1, b2, Mk.liq m13 lq, g13, sm2⟩⟩
theorem heldConS_ok {Ha : Hp} {va : Value} (a : List Con) (k : Int) (hk : 0 ≤ k ∧ k + ((msum a : Nat) : Int) ≤ 4611686018427387904) (ha : Cons Ha va a) : SpecP Try.prog 49 [va, .int .i64 k] [Ha] (.int .i64 (heldC a k)) := by
 refine spec_of Try.func49 rfl rfl rfl (fun B => ?_)
 refine kc_seq (kc_region (kl_as rfl (kl_nil (kq_code (kc_seq (kc_seq (kc_region (kl_as rfl (kl_nil (kq_code (kc_block (kc_loop0 (A := Nat × Int) (fun zz => (zz.1 ≤ a.length) ∧ (HcI a k zz.1 zz.2)) (fun zz => a.length - zz.1) (fun zz => [(5, .int .i64 (zz.1 : Int)), (1, .int .i64 zz.2)]) (0, k) (pc 0 rfl pn) (pc 5 rfl (pc 1 rfl pn)) ⟨Nat.zero_le _, (hc_0 hk)⟩ ?_))))))))))))
 rintro ⟨i, l⟩ hJ3
 obtain ⟨hk1, hi2⟩ : (i ≤ a.length) ∧ (HcI a k i l) := hJ3
 change KC _ _ (_) _ _ ([(5, .int .i64 (i : Int)), (1, .int .i64 l)] ++ _)
 refine kc_seq (kc_seq (kc_region (kl_mv rfl (kl_mv rfl (kl_len rfl (by assumption) (fun l4 => ?_))))))
 refine kl_lss rfl rfl ?_
 refine kl_nil (kq_code (kc_if rfl (fun c5 => ?_) (fun c5 => ?_)))
 ·skip
  refine kc_skipQ (kq_code (kc_seq (kc_block (kc_seq (kc_seq (kc_region (kl_mv rfl (kl_mv rfl (kl_inC rfl rfl (by assumption) (by omega) (fun p6 u8 u9 u10 h11 h12 h13 a7 => ?_))))))))))
  refine kl_fd rfl (by assumption) (fun p14 a15 => ?_)
  refine kl_ld rfl (by assumption) (kl_mv rfl (kl_neq rfl rfl ?_))
  refine kl_nil (kq_code (kc_if rfl (fun c16 => ?_) (fun c16 => ?_)))
  ·skip
   refine kc_seq (kc_region (kl_as rfl (kl_nil (kq_code (kc_ret (kq_retP rfl rfl (congrArg (Value.int .i64) ?_)))))))
   exact hc_no1 hi2 (by omega) (by assumption)
  ·skip
   refine kc_skipQ (kq_code (kc_seq (kc_region (kl_mv rfl (kl_add rfl rfl (by (have hb9 := hc_b hi2 (by omega); have hn9 := (hi2).n; have g9 := heldI_cases (a.getD i nilCon).vars (l + 1); have g8 := heldI_cases (a.getD i nilCon).args (heldI (a.getD i nilCon).vars (l + 1)); omega)) ?_)))))
   refine kl_as rfl (kl_nil (kq_code (kc_seq (kc_region (kl_mv rfl (kl_mv rfl (kl_inC rfl rfl (by assumption) (by omega) (fun p17 u19 u20 u21 h22 h23 h24 a18 => ?_))))))))
   refine kl_fd rfl (by assumption) (fun p25 a26 => ?_)
   refine kl_ld rfl (by assumption) (kl_mv rfl (kl_callP rfl rfl (heldIntS_ok ((a.getD i nilCon).vars) (l + (1 : Int)) (by have hb9 := hc_b hi2 (by omega); have hn9 := (hi2).n; have g9 := heldI_cases (a.getD i nilCon).vars (l + 1); have g8 := heldI_cases (a.getD i nilCon).args (heldI (a.getD i nilCon).vars (l + 1)); omega) (by assumption)) ?_))
   refine kl_as rfl (kl_nil (kq_code (kc_seq (kc_seq (kc_region (kl_mv rfl (kl_lss rfl rfl ?_)))))))
   refine kl_nil (kq_code (kc_if rfl (fun c27 => ?_) (fun c27 => ?_)))
   ·skip
    refine kc_seq (kc_region (kl_as rfl (kl_nil (kq_code (kc_ret (kq_retP rfl rfl (congrArg (Value.int .i64) ?_)))))))
    exact hc_no2 hi2 (by omega) (by assumption) (by assumption)
   ·skip
    refine kc_skipQ (kq_code (kc_seq (kc_region (kl_mv rfl (kl_mv rfl (kl_inC rfl rfl (by assumption) (by omega) (fun p28 u30 u31 u32 h33 h34 h35 a29 => ?_)))))))
    refine kl_fd rfl (by assumption) (fun p36 a37 => ?_)
    refine kl_ld rfl (by assumption) (kl_mv rfl (kl_callP rfl rfl (heldIntS_ok ((a.getD i nilCon).args) (heldI ((a.getD i nilCon).vars) (l + (1 : Int))) (by have hb9 := hc_b hi2 (by omega); have hn9 := (hi2).n; have g9 := heldI_cases (a.getD i nilCon).vars (l + 1); have g8 := heldI_cases (a.getD i nilCon).args (heldI (a.getD i nilCon).vars (l + 1)); omega) (by assumption)) ?_))
    refine kl_as rfl (kl_nil (kq_code (kc_seq (kc_seq (kc_region (kl_mv rfl (kl_lss rfl rfl ?_)))))))
    refine kl_nil (kq_code (kc_if rfl (fun c38 => ?_) (fun c38 => ?_)))
    ·skip
     refine kc_seq (kc_region (kl_as rfl (kl_nil (kq_code (kc_ret (kq_retP rfl rfl (congrArg (Value.int .i64) ?_)))))))
     exact hc_no3 hi2 (by omega) (by assumption) (by assumption) (by assumption)
    ·skip
     refine kc_skipQ (kq_code (kc_seq (kc_seq (kc_region (kl_mv rfl (kl_mv rfl (kl_inC rfl rfl (by assumption) (by omega) (fun p39 u41 u42 u43 h44 h45 h46 a40 => ?_))))))))
     refine kl_fd rfl (by assumption) (fun p47 a48 => ?_)
     refine kl_ld rfl (by assumption) (kl_mv rfl (kl_neq rfl rfl ?_))
     refine kl_nil (kq_code (kc_if rfl (fun c49 => ?_) (fun c49 => ?_)))
     ·skip
      refine kc_seq (kc_region (kl_as rfl (kl_nil (kq_code (kc_ret (kq_retP rfl rfl (congrArg (Value.int .i64) ?_)))))))
      exact hc_no4 hi2 (by omega) (by assumption) (by assumption) (by assumption) (by assumption)
     ·skip
      refine kc_skipQ (kq_code (kc_seq (kc_region (kl_mv rfl (kl_add rfl rfl (by (have hb9 := hc_b hi2 (by omega); have hn9 := (hi2).n; have g9 := heldI_cases (a.getD i nilCon).vars (l + 1); have g8 := heldI_cases (a.getD i nilCon).args (heldI (a.getD i nilCon).vars (l + 1)); omega)) ?_)))))
      refine kl_as rfl (kl_nil (kq_code (kc_seq (kc_region (kl_mv rfl (kl_mv rfl (kl_inC rfl rfl (by assumption) (by omega) (fun p50 u52 u53 u54 h55 h56 h57 a51 => ?_))))))))
      refine kl_fd rfl (by assumption) (fun p58 a59 => ?_)
      refine kl_ld rfl (by assumption) (kl_mv rfl (kl_callP rfl rfl (heldIntSS_ok ((a.getD i nilCon).rows) ((heldI ((a.getD i nilCon).args) (heldI ((a.getD i nilCon).vars) (l + (1 : Int)))) + (1 : Int)) (by have hb9 := hc_b hi2 (by omega); have hn9 := (hi2).n; have g9 := heldI_cases (a.getD i nilCon).vars (l + 1); have g8 := heldI_cases (a.getD i nilCon).args (heldI (a.getD i nilCon).vars (l + 1)); omega) (by assumption)) ?_))
      refine kl_as rfl (kl_nil (kq_code (kc_seq (kc_region (kl_mv rfl (kl_lss rfl rfl ?_))))))
      refine kl_nil (kq_code (kc_if rfl (fun c60 => ?_) (fun c60 => ?_)))
      ·skip
       refine kc_seq (kc_region (kl_as rfl (kl_nil (kq_code (kc_ret (kq_retP rfl rfl (congrArg (Value.int .i64) ?_)))))))
       exact hc_no hi2 (by omega) (by rw [hc_r (by assumption) (by assumption) (by assumption) (by assumption)]; assumption)
      ·skip
       refine kc_skipQ (kq_code (kc_region (kl_mv rfl (kl_inc rfl rfl (by omega) ?_))))
       refine kl_as rfl (kl_nil (kq_round0 ((i + 1), (heldSS ((a.getD i nilCon).rows) ((heldI ((a.getD i nilCon).args) (heldI ((a.getD i nilCon).vars) (l + (1 : Int)))) + (1 : Int)))) (by omega) (⟨by omega, (hc_step hi2 (by omega) (hc_r (by assumption) (by assumption) (by assumption) (by assumption)) (by assumption))⟩) (pc 5 rfl (pc 1 rfl pn)) (pc 0 rfl pn) (List.Sublist.refl _)))
 ·skip
  refine kc_exit (kq_code (kc_seq (kc_region (kl_mv rfl (kl_as rfl (kl_nil (kq_code (kc_ret (kq_retP rfl rfl (congrArg (Value.int .i64) ?_))))))))))
  exact hc_end hi2 (by omega)
theorem heldMod_ok {Hmd : Hp} {vmd : Value} {Hmc : Hp} {vmc : Value} (m : Mod) (k : Int) (hk : 0 ≤ k ∧ k + (m.doms.length : Int) + ((msum m.cons : Nat) : Int) ≤ 4611686018427387904) (hmd : Ints Hmd vmd m.doms) (hmc : Cons Hmc vmc m.cons) : SpecP Try.prog 19 [.agg #[vmd, vmc], .int .i64 k] [Hmd, Hmc] (.int .i64 (heldM m k)) := by
 refine spec_of Try.func19 rfl rfl rfl (fun B => ?_)
 refine kc_seq (kc_region (kl_box rfl rfl (fun p1 H2 f3 a4 => ?_)))
 refine kl_as rfl (kl_nil (kq_code (kc_seq (kc_region (kl_fd rfl (by assumption) (fun p5 a6 => ?_))))))
 refine kl_ld rfl (by assumption) (kl_mv rfl (kl_callP rfl rfl (heldIntS_ok m.doms k (by omega) (by assumption)) ?_))
 refine kl_as rfl (kl_nil (kq_code (kc_seq (kc_seq (kc_region (kl_mv rfl (kl_lss rfl rfl ?_)))))))
 refine kl_nil (kq_code (kc_if rfl (fun c7 => ?_) (fun c7 => ?_)))
 ·skip
  refine kc_seq (kc_region (kl_as rfl (kl_nil (kq_code (kc_ret (kq_retP rfl rfl (congrArg (Value.int .i64) ?_)))))))
  first | (unfold heldM; rw [if_pos (by assumption)]) | (unfold heldM; rw [if_neg (by assumption), if_pos (by assumption)]) | (unfold heldM; rw [if_neg (by assumption), if_neg (by assumption)])
 ·skip
  refine kc_skipQ (kq_code (kc_seq (kc_region (kl_fd rfl (by assumption) (fun p8 a9 => ?_)))))
  refine kl_ld rfl (by assumption) (kl_mv rfl (kl_callP rfl rfl (heldConS_ok m.cons (heldI m.doms k) (by have g9 := heldI_cases m.doms k; omega) (by assumption)) ?_))
  refine kl_as rfl (kl_nil (kq_code (kc_seq (kc_seq (kc_region (kl_mv rfl (kl_lss rfl rfl ?_)))))))
  refine kl_nil (kq_code (kc_if rfl (fun c10 => ?_) (fun c10 => ?_)))
  ·skip
   refine kc_seq (kc_region (kl_as rfl (kl_nil (kq_code (kc_ret (kq_retP rfl rfl (congrArg (Value.int .i64) ?_)))))))
   first | (unfold heldM; rw [if_pos (by assumption)]) | (unfold heldM; rw [if_neg (by assumption), if_pos (by assumption)]) | (unfold heldM; rw [if_neg (by assumption), if_neg (by assumption)])
  ·skip
   refine kc_skipQ (kq_code (kc_seq (kc_region (kl_mv rfl (kl_as rfl (kl_nil (kq_code (kc_ret (kq_retP rfl rfl (congrArg (Value.int .i64) ?_))))))))))
   first | (unfold heldM; rw [if_pos (by assumption)]) | (unfold heldM; rw [if_neg (by assumption), if_pos (by assumption)]) | (unfold heldM; rw [if_neg (by assumption), if_neg (by assumption)])
end Go.Proofs.Ytiilanckbocifaa
