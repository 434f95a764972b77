/- Walks of functions of the program: each returns what the plain function gives. Conditions: those that each statement names. -/
import Derived.Test.YtooiagkfhhfojaaDoorWsp
import Derived.Test.YtooiagkfhhfojaaDoorRss
namespace Go.Proofs.YtooiagkfhhfojaaDoor
open Go
set_option linter.unusedSimpArgs false
set_option linter.unusedVariables false
theorem varSet_ok {br : Nat} {vbr : Value} {Hr : Hp} {bsr : List Int} (pr : Nat) (n : Int) (hn : 1 ≤ n ∧ n ≤ 4) (hp : pr + (8) ≤ 1000000) (hr : Bytes Hr vbr bsr) : SpecT Tryd.prog 35 [.pointer (some ⟨br, 0, none⟩), .int .i64 n] [sing br (.cells [vbr, .int .i64 (pr : Int)].toArray 77 (0, 0))] [Hr] (fun vq L1 Ln Kq => ∃ q : Nat, q ≤ pr + (8) ∧ L1 = [sing br (.cells [vbr, .int .i64 (q : Int)].toArray 77 (0, 0))] ∧ ∃ (Hq : Hp) (xq : List Int), Ln = [Hq] ∧ OwnL 3 1 Hq noHp IntV vq xq ∧ xq.length ≤ 5) := by
  refine specT_of Tryd.func35 rfl rfl rfl (fun B => ?_)
  refine kc_seq ?_
  refine kc_region ?_
  refine kl_as rfl ?_
  refine kl_nil ?_
  refine kq_code ?_
  refine kc_seq ?_
  refine kc_region ?_
  refine kl_bsI [] rfl rfl rfl (by decide) (fun v1 H2 f3 o4 => ?_)
  refine kl_as rfl ?_
  refine kl_nil ?_
  refine kq_code ?_
  refine kc_seq ?_
  refine kc_seq ?_
  refine kc_region ?_
  refine kl_as rfl ?_
  refine kl_nil ?_
  refine kq_code ?_
  refine kc_block ?_
  refine kc_loopL (A := Nat × List Int × Value × Hp × Nat) (fun zz => (zz.1 ≤ n.toNat) ∧ (zz.2.1.length ≤ zz.1) ∧ OwnL 3 1 zz.2.2.2.1 noHp IntV zz.2.2.1 zz.2.1 ∧ Fr B zz.2.2.2.1 ∧ zz.2.2.2.2 ≤ pr + zz.1) (fun zz => n.toNat - zz.1) (fun zz => [zz.2.2.2.1, sing br (.cells [vbr, .int .i64 (zz.2.2.2.2 : Int)].toArray 77 (0, 0))]) (fun zz => [(6, .int .i64 (zz.1 : Int)), (5, zz.2.2.1)]) (0, ([]), v1, H2, pr) (pc 0 rfl (pc 1 rfl (pc 4 rfl pn))) (pc 6 rfl (pc 5 rfl pn)) rfl ⟨Nat.zero_le _, (by simp), o4, f3, (by first | omega | (dsimp only; omega))⟩ ?_
  rintro ⟨i, out, v10, H7, q11⟩ hJ13
  obtain ⟨hk5, hi6, o8, f9, hq12⟩ : (i ≤ n.toNat) ∧ (out.length ≤ i) ∧ OwnL 3 1 H7 noHp IntV v10 out ∧ Fr B H7 ∧ q11 ≤ pr + i := hJ13
  change KC _ _ (_) [H7, sing br (.cells [vbr, .int .i64 (q11 : Int)].toArray 77 (0, 0))] _ ([(6, .int .i64 (i : Int)), (5, v10)] ++ _)
  refine kc_seq ?_
  refine kc_seq ?_
  refine kc_region ?_
  refine kl_mv rfl ?_
  refine kl_mv rfl ?_
  refine kl_lss rfl rfl ?_
  refine kl_nil ?_
  refine kq_code ?_
  refine kc_if rfl (fun c14 => ?_) (fun c14 => ?_)
  · skip
    refine kc_skipQ ?_
    refine kq_code ?_
    refine kc_seq ?_
    refine kc_block ?_
    refine kc_seq ?_
    refine kc_region ?_
    refine kl_mv rfl ?_
    refine kl_callT rfl rfl (pick_ok q11 (2 : Int) (by omega) hr) (fun v15 L1 Ln K19 h16 f17 f18 => ?_)
    obtain ⟨q20, h21, rfl, rfl, z22, rfl, h23⟩ := h16
    refine kl_norm ?_
    refine kl_eql rfl rfl ?_
    refine kl_nil ?_
    refine kq_code ?_
    refine kc_if rfl (fun c26 => ?_) (fun c26 => ?_)
    · skip
      refine kc_region ?_
      refine kl_mv rfl ?_
      refine kl_mv rfl ?_
      refine kl_bs rfl rfl rfl (by decide) (ca rfl ca_nil) (fun v27 H28 f29 r30 s31 => ?_)
      have h32 : Ints H28 v27 [(i : Int)] := litInts (xs := [(i : Int)]) (by simpa using s31)
      refine kl_apL (i : Int) rfl rfl o8 (by assumption) rfl (oc rfl oc_nil) (by (simp; omega)) (by decide) (fun v33 H34 o35 f36 => ?_)
      have f37 := f36 B f9 (Nat.le_refl _)
      refine kl_as rfl ?_
      refine kl_nil ?_
      refine kq_code ?_
      refine kc_region ?_
      refine kl_mv rfl ?_
      refine kl_inc rfl rfl (by omega) ?_
      refine kl_as rfl ?_
      refine kl_nil ?_
      refine kq_take [H34, sing br (.cells [vbr, .int .i64 (q20 : Int)].toArray 77 (0, 0))] ?_
      refine kq_roundL ((i + 1), (out ++ [(i : Int)]), v33, H34, q20) (by omega) (⟨by omega, (by first | omega | (simp; omega)), o35, f37, (by first | omega | (dsimp only; omega))⟩) (pc 6 rfl (pc 5 rfl pn)) (pc 0 rfl (pc 1 rfl (pc 4 rfl pn))) rfl (List.Sublist.refl _)
    · skip
      refine kc_skipQ ?_
      refine kq_code ?_
      refine kc_region ?_
      refine kl_mv rfl ?_
      refine kl_inc rfl rfl (by omega) ?_
      refine kl_as rfl ?_
      refine kl_nil ?_
      refine kq_take [H7, sing br (.cells [vbr, .int .i64 (q20 : Int)].toArray 77 (0, 0))] ?_
      refine kq_roundL ((i + 1), out, v10, H7, q20) (by omega) (⟨by omega, (by first | omega | (simp; omega)), o8, f9, (by first | omega | (dsimp only; omega))⟩) (pc 6 rfl (pc 5 rfl pn)) (pc 0 rfl (pc 1 rfl (pc 4 rfl pn))) rfl (List.Sublist.refl _)
  · skip
    refine kc_exit ?_
    refine kq_code ?_
    refine kc_seq ?_
    refine kc_seq ?_
    refine kc_region ?_
    refine kl_mv rfl ?_
    refine kl_callT rfl rfl (pick_ok q11 (16 : Int) (by omega) hr) (fun v38 L1 Ln K42 h39 f40 f41 => ?_)
    obtain ⟨q43, h44, rfl, rfl, z45, rfl, h46⟩ := h39
    refine kl_norm ?_
    refine kl_nil ?_
    refine kq_code ?_
    refine kc_block ?_
    refine kc_seq ?_
    refine kc_region ?_
    refine kl_eql rfl rfl ?_
    refine kl_as rfl ?_
    refine kl_nil ?_
    refine kq_code ?_
    refine kc_if rfl (fun c49 => ?_) (fun c49 => ?_)
    · skip
      refine kc_seq ?_
      refine kc_region ?_
      refine kl_mv rfl ?_
      refine kl_mv rfl ?_
      refine kl_mv rfl ?_
      refine kl_bs rfl rfl rfl (by decide) (ca rfl (ca rfl (ca rfl ca_nil))) (fun v50 H51 f52 r53 s54 => ?_)
      have h55 : Ints H51 v50 [(0 : Int), n, (-1 : Int)] := litInts (xs := [(0 : Int), n, (-1 : Int)]) (by simpa using s54)
      refine kl_callT rfl rfl (one_ok q43 ([(0 : Int), n, (-1 : Int)]) (by simp) (by omega) hr (by assumption)) (fun v56 L1 Ln K60 h57 f58 f59 => ?_)
      obtain ⟨q61, h62, rfl, rfl, z63, rfl, h64⟩ := h57
      refine kl_norm ?_
      refine kl_bs rfl rfl rfl (by decide) (ca rfl ca_nil) (fun v67 H68 f69 r70 s71 => ?_)
      have h72 : Ints H68 v67 [z63] := litInts (xs := [z63]) (by simpa using s71)
      refine kl_apL z63 rfl rfl o8 (by assumption) rfl (oc rfl oc_nil) (by (simp; omega)) (by decide) (fun v73 H74 o75 f76 => ?_)
      have f77 := f76 B f9 (Nat.le_refl _)
      refine kl_as rfl ?_
      refine kl_nil ?_
      refine kq_code ?_
      refine kc_ret ?_
      exact kq_retT rfl rfl [sing br (.cells [vbr, .int .i64 (q61 : Int)].toArray 77 (0, 0))] [H74] noHp (fr1 f77) (fr_no _) ⟨q61, by omega, rfl, H74, (out ++ [z63]), rfl, o75, by first | omega | (simp; omega)⟩
    · skip
      refine kc_seq ?_
      refine kc_region ?_
      refine kl_eql rfl rfl ?_
      refine kl_as rfl ?_
      refine kl_nil ?_
      refine kq_code ?_
      refine kc_if rfl (fun c78 => ?_) (fun c78 => ?_)
      · skip
        refine kc_seq ?_
        refine kc_region ?_
        refine kl_mv rfl ?_
        refine kl_mv rfl ?_
        refine kl_callT rfl rfl (pick_ok q43 n (by omega) hr) (fun v79 L1 Ln K83 h80 f81 f82 => ?_)
        obtain ⟨q84, h85, rfl, rfl, z86, rfl, h87⟩ := h80
        refine kl_norm ?_
        refine kl_bsI [z86] rfl rfl rfl (by decide) (fun v90 H91 f92 o93 => ?_)
        refine kl_mv rfl ?_
        refine kl_frz H7 ?_
        have h94 := OwnL.ints o8
        refine kl_apS rfl rfl o93 (by assumption) (fun _ _ h => h) (by (simp; omega)) (by decide) (fun v95 H96 o97 f98 => ?_)
        have f99 := f98 B f92 (Nat.le_refl _)
        refine kl_as rfl ?_
        refine kl_nil ?_
        refine kq_code ?_
        refine kc_ret ?_
        exact kq_retT rfl rfl [sing br (.cells [vbr, .int .i64 (q84 : Int)].toArray 77 (0, 0))] [H96] noHp (fr1 f99) (fr_no _) ⟨q84, by omega, rfl, H96, ([z86] ++ out), rfl, o97, by first | omega | (simp; omega)⟩
      · skip
        refine kc_skipQ ?_
        refine kq_code ?_
        refine kc_seq ?_
        refine kc_region ?_
        refine kl_mv rfl ?_
        refine kl_as rfl ?_
        refine kl_nil ?_
        refine kq_code ?_
        refine kc_ret ?_
        exact kq_retT rfl rfl [sing br (.cells [vbr, .int .i64 (q43 : Int)].toArray 77 (0, 0))] [H7] noHp (fr1 f9) (fr_no _) ⟨q43, by omega, rfl, H7, out, rfl, o8, by first | omega | (simp; omega)⟩
theorem drawSep_ok {Hcode : Hp} {vcode : Value} (code : List Int) (hcode : Bytes Hcode vcode code) : Spec Tryd.prog 11 [vcode] [Hcode] (fun Hq vq => ∃ (mq : Mod) (sq : List Int) (z1 : Int) (z2 : Int) (uq0a uq0b uq1 : Value), vq = .tuple #[.agg #[uq0a, uq0b], uq1, .int .i64 z1, .int .i64 z2] ∧ Ints Hq uq0a mq.doms ∧ Cons Hq uq0b mq.cons ∧ Ints Hq uq1 sq ∧ ModSm 50 mq ∧ sq.length ≤ 5) := by
  refine spec_ofR Tryd.func11 rfl rfl rfl (fun B => ?_)
  refine kc_seq ?_
  refine kc_region ?_
  refine kl_alloc (cs := [.slice none 0 0, .slice none 0 0]) rfl (fun b1 hb2 => ?_)
  refine kl_as rfl ?_
  refine kl_as rfl ?_
  refine kl_as rfl ?_
  refine kl_nil ?_
  refine kq_code ?_
  refine kc_seq ?_
  refine kc_region ?_
  refine kl_mv rfl ?_
  refine kl_callT rfl rfl (newReader_ok code hcode) (fun v3 L1 Ln K7 h4 f5 f6 => ?_)
  obtain ⟨rfl, b8, v9, x10, rfl, rfl, h11⟩ := h4
  refine kl_norm ?_
  refine kl_as rfl ?_
  refine kl_nil ?_
  refine kq_code ?_
  refine kc_seq ?_
  refine kc_region ?_
  refine kl_mv rfl ?_
  refine kl_callT rfl rfl (sparseModel_ok 0 (by omega) h11) (fun v12 L1 Ln K16 h13 f14 f15 => ?_)
  obtain ⟨q17, h18, rfl, H21, M23, v24, v25, z19, rfl, rfl, o22, o26, h20⟩ := h13
  have f27 := f14 _ (.head _)
  have f28 := f14 _ (.tail _ (.head _))
  have hd1 := h20.d1
  have hd4 := h20.d
  have hc1 := h20.c
  have hcc := h20.cc
  refine kl_norm ?_
  refine kl_alloc (cs := [.slice none 0 0, .slice none 0 0]) rfl (fun b29 hb30 => ?_)
  refine kl_stW (us := [v24, v25]) rfl rfl rfl rfl (oc (OwnL.oneCell (by assumption)) (oc (OwnL.oneCell (by assumption)) oc_nil)) rfl ?_
  refine kl_chg [sing b29 (.cells [v24, v25].toArray 26 (0, 0)), sing b8 (.cells [v9, .int .i64 (q17 : Int)].toArray 77 (0, 0)), H21, M23, sing b1 (.cells [.slice none 0 0, .slice none 0 0].toArray 26 (0, 0))] rfl ?_
  refine kl_nil ?_
  refine kq_code ?_
  refine kc_seq ?_
  refine kc_region ?_
  refine kl_fdV rfl ?_
  refine kl_ldB rfl rfl ?_
  refine kl_lenL rfl o22 (fun l31 => ?_)
  refine kl_as rfl ?_
  refine kl_nil ?_
  refine kq_code ?_
  refine kc_seq ?_
  refine kc_region ?_
  refine kl_mv rfl ?_
  refine kl_mv rfl ?_
  refine kl_callT rfl rfl (pick_ok q17 (z19.doms.length : Int) (by omega) h11) (fun v32 L1 Ln K36 h33 f34 f35 => ?_)
  obtain ⟨q37, h38, rfl, rfl, z39, rfl, h40⟩ := h33
  refine kl_norm ?_
  refine kl_as rfl ?_
  refine kl_nil ?_
  refine kq_code ?_
  refine kc_seq ?_
  refine kc_region ?_
  refine kl_mv rfl ?_
  refine kl_mv rfl ?_
  refine kl_callT rfl rfl (pick_ok q37 (z19.doms.length : Int) (by omega) h11) (fun v43 L1 Ln K47 h44 f45 f46 => ?_)
  obtain ⟨q48, h49, rfl, rfl, z50, rfl, h51⟩ := h44
  refine kl_norm ?_
  refine kl_as rfl ?_
  refine kl_nil ?_
  refine kq_code ?_
  refine kc_seq ?_
  refine kc_seq ?_
  refine kc_region ?_
  refine kl_mv rfl ?_
  refine kl_callT rfl rfl (pick_ok q48 (14 : Int) (by omega) h11) (fun v54 L1 Ln K58 h55 f56 f57 => ?_)
  obtain ⟨q59, h60, rfl, rfl, z61, rfl, h62⟩ := h55
  refine kl_norm ?_
  refine kl_eql rfl rfl ?_
  refine kl_nil ?_
  refine kq_code ?_
  refine kc_if rfl (fun c65 => ?_) (fun c65 => ?_)
  · skip
    refine kc_region ?_
    refine kl_mv rfl ?_
    refine kl_mv rfl ?_
    refine kl_bs rfl rfl rfl (by decide) (ca rfl (ca rfl ca_nil)) (fun v66 H67 f68 r69 s70 => ?_)
    have h71 : Ints H67 v66 [(-1 : Int), (z19.doms.length : Int)] := litInts (xs := [(-1 : Int), (z19.doms.length : Int)]) (by simpa using s70)
    refine kl_callT rfl rfl (one_ok q59 ([(-1 : Int), (z19.doms.length : Int)]) (by simp) (by omega) h11 (by assumption)) (fun v72 L1 Ln K76 h73 f74 f75 => ?_)
    obtain ⟨q77, h78, rfl, rfl, z79, rfl, h80⟩ := h73
    refine kl_norm ?_
    refine kl_as rfl ?_
    refine kl_nil ?_
    refine kq_code ?_
    refine kc_seq ?_
    refine kc_tree (fun i => ([] : List Nat).contains i) [sing b29 (.cells [v24, v25].toArray 26 (0, 0))] (by kernel_rfl) ?_
    refine kt_q 0 (.cons _ (.cons_cons _ (List.nil_sublist _))) rfl (by kernel_rfl) ?_
    refine kl_ldS rfl (at_box (T := 26) (cs := [v24, v25]) (off := 0) (fz := (0, 0))) rfl ?_
    refine kl_nil (kq_q ?_)
    refine kt_q 1 (.cons _ (.cons_cons _ (List.nil_sublist _))) rfl (by kernel_rfl) ?_
    refine kl_mv rfl ?_
    refine kl_nil (kq_q ?_)
    refine kt_q 2 (.cons _ (.cons_cons _ (List.nil_sublist _))) rfl (by kernel_rfl) ?_
    refine kl_mv rfl ?_
    refine kl_nil (kq_q ?_)
    refine kt_q 4 (.cons _ (.cons_cons _ (List.nil_sublist _))) rfl (by kernel_rfl) ?_
    refine kl_mv rfl ?_
    refine kl_nil (kq_q ?_)
    refine kt_q 5 (.cons _ (.cons_cons _ (List.nil_sublist _))) rfl (by kernel_rfl) ?_
    refine kl_mv rfl ?_
    refine kl_nil (kq_q ?_)
    refine kt_a 3 rfl (by kernel_rfl) ?_
    refine kl_callT rfl rfl (varSet_ok q77 (z19.doms.length : Int) (by first | assumption | omega) (by omega) h11) (fun v83 L1 Ln K87 h84 f85 f86 => ?_)
    obtain ⟨q88, h89, rfl, H92, z90, rfl, o93, h91⟩ := h84
    have f94 := f85 _ (.head _)
    refine kl_norm ?_
    refine kl_nil (kq_a (.cons _ (.cons _ (.cons_cons _ (List.nil_sublist _)))) ?_)
    refine kt_a 6 rfl (by kernel_rfl) ?_
    refine kl_stW (us := [v24, v25]) rfl rfl rfl rfl (oc (OwnL.oneCell (by assumption)) (oc (OwnL.oneCell (by assumption)) oc_nil)) rfl ?_
    refine kl_chg [sing b8 (.cells [v9, .int .i64 (q88 : Int)].toArray 77 (0, 0)), H92, sing b29 (.cells [v24, v25].toArray 26 (0, 0)), H21, M23, sing b1 (.cells [v24, v25].toArray 26 (0, 0))] rfl ?_
    refine kl_nil (kq_a (.cons _ (.cons _ (.cons_cons _ (List.nil_sublist _)))) ?_)
    refine kt_q 7 (.cons _ (.cons _ (.cons_cons _ (List.nil_sublist _)))) rfl (by kernel_rfl) ?_
    refine kl_as rfl ?_
    refine kl_nil (kq_q ?_)
    refine kt_q 8 (.cons _ (.cons _ (.cons_cons _ (List.nil_sublist _)))) rfl (by kernel_rfl) ?_
    refine kl_as rfl ?_
    refine kl_nil (kq_q ?_)
    refine kt_q 9 (.cons _ (.cons _ (.cons_cons _ (List.nil_sublist _)))) rfl (by kernel_rfl) ?_
    refine kl_as rfl ?_
    refine kl_nil (kq_q ?_)
    refine kt_end (by kernel_rfl) ?_
    refine kq_code ?_
    refine kc_ret ?_
    refine kq_frz H21 ?_
    refine kq_frz M23 ?_
    refine kq_cmp M23 K16 (fun c95 => ?_)
    refine kq_frz H92 ?_
    refine kq_cmp (orHp M23 K16) H92 (fun c96 => ?_)
    refine kq_cmp H21 (orHp (orHp M23 K16) H92) (fun c97 => ?_)
    exact kq_retR (rss4 rfl (rs_agg rfl rfl) (rs_tmp rfl) (rs_tmp rfl) (rs_tmp rfl)) (orHp H21 (orHp (orHp M23 K16) H92)) (fr_or f27 (fr_or (fr_or f28 f15) f94)) ⟨(⟨z19.doms, z19.cons⟩ : Mod), z90, z39, z79, _, _, _, rfl, (Sl.mono (OwnL.ints o22) (fun b o h => orL b o h) (fun _ _ h => h)), (Cons.mono' (OwnL.consK o26 c95) (fun b o h => orC c97 b o (orL b o h))), (Sl.mono (OwnL.ints o93) (fun b o h => orC c97 b o (orC c96 b o h)) (fun _ _ h => h)), by exact ⟨by (constructor <;> dsimp only <;> first | omega | assumption), by assumption⟩⟩ .none
  · skip
    refine kc_skipQ ?_
    refine kq_code ?_
    refine kc_seq ?_
    refine kc_tree (fun i => ([] : List Nat).contains i) [sing b29 (.cells [v24, v25].toArray 26 (0, 0))] (by kernel_rfl) ?_
    refine kt_q 0 (.cons _ (.cons_cons _ (List.nil_sublist _))) rfl (by kernel_rfl) ?_
    refine kl_ldS rfl (at_box (T := 26) (cs := [v24, v25]) (off := 0) (fz := (0, 0))) rfl ?_
    refine kl_nil (kq_q ?_)
    refine kt_q 1 (.cons _ (.cons_cons _ (List.nil_sublist _))) rfl (by kernel_rfl) ?_
    refine kl_mv rfl ?_
    refine kl_nil (kq_q ?_)
    refine kt_q 2 (.cons _ (.cons_cons _ (List.nil_sublist _))) rfl (by kernel_rfl) ?_
    refine kl_mv rfl ?_
    refine kl_nil (kq_q ?_)
    refine kt_q 4 (.cons _ (.cons_cons _ (List.nil_sublist _))) rfl (by kernel_rfl) ?_
    refine kl_mv rfl ?_
    refine kl_nil (kq_q ?_)
    refine kt_q 5 (.cons _ (.cons_cons _ (List.nil_sublist _))) rfl (by kernel_rfl) ?_
    refine kl_mv rfl ?_
    refine kl_nil (kq_q ?_)
    refine kt_a 3 rfl (by kernel_rfl) ?_
    refine kl_callT rfl rfl (varSet_ok q59 (z19.doms.length : Int) (by first | assumption | omega) (by omega) h11) (fun v98 L1 Ln K102 h99 f100 f101 => ?_)
    obtain ⟨q103, h104, rfl, H107, z105, rfl, o108, h106⟩ := h99
    have f109 := f100 _ (.head _)
    refine kl_norm ?_
    refine kl_nil (kq_a (.cons _ (.cons _ (.cons_cons _ (List.nil_sublist _)))) ?_)
    refine kt_a 6 rfl (by kernel_rfl) ?_
    refine kl_stW (us := [v24, v25]) rfl rfl rfl rfl (oc (OwnL.oneCell (by assumption)) (oc (OwnL.oneCell (by assumption)) oc_nil)) rfl ?_
    refine kl_chg [sing b8 (.cells [v9, .int .i64 (q103 : Int)].toArray 77 (0, 0)), H107, sing b29 (.cells [v24, v25].toArray 26 (0, 0)), H21, M23, sing b1 (.cells [v24, v25].toArray 26 (0, 0))] rfl ?_
    refine kl_nil (kq_a (.cons _ (.cons _ (.cons_cons _ (List.nil_sublist _)))) ?_)
    refine kt_q 7 (.cons _ (.cons _ (.cons_cons _ (List.nil_sublist _)))) rfl (by kernel_rfl) ?_
    refine kl_as rfl ?_
    refine kl_nil (kq_q ?_)
    refine kt_q 8 (.cons _ (.cons _ (.cons_cons _ (List.nil_sublist _)))) rfl (by kernel_rfl) ?_
    refine kl_as rfl ?_
    refine kl_nil (kq_q ?_)
    refine kt_q 9 (.cons _ (.cons _ (.cons_cons _ (List.nil_sublist _)))) rfl (by kernel_rfl) ?_
    refine kl_as rfl ?_
    refine kl_nil (kq_q ?_)
    refine kt_end (by kernel_rfl) ?_
    refine kq_code ?_
    refine kc_ret ?_
    refine kq_frz H21 ?_
    refine kq_frz M23 ?_
    refine kq_cmp M23 K16 (fun c110 => ?_)
    refine kq_frz H107 ?_
    refine kq_cmp (orHp M23 K16) H107 (fun c111 => ?_)
    refine kq_cmp H21 (orHp (orHp M23 K16) H107) (fun c112 => ?_)
    exact kq_retR (rss4 rfl (rs_agg rfl rfl) (rs_tmp rfl) (rs_tmp rfl) (rs_tmp rfl)) (orHp H21 (orHp (orHp M23 K16) H107)) (fr_or f27 (fr_or (fr_or f28 f15) f109)) ⟨(⟨z19.doms, z19.cons⟩ : Mod), z105, z39, z50, _, _, _, rfl, (Sl.mono (OwnL.ints o22) (fun b o h => orL b o h) (fun _ _ h => h)), (Cons.mono' (OwnL.consK o26 c110) (fun b o h => orC c112 b o (orL b o h))), (Sl.mono (OwnL.ints o108) (fun b o h => orC c112 b o (orC c111 b o h)) (fun _ _ h => h)), by exact ⟨by (constructor <;> dsimp only <;> first | omega | assumption), by assumption⟩⟩ .none
end Go.Proofs.YtooiagkfhhfojaaDoor
