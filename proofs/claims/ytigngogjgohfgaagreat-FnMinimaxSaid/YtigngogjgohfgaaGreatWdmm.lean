/- Walks of functions of the program: each returns what the plain function gives. Conditions: those that each statement names. -/
import Derived.Test.YtigngogjgohfgaaGreatWgm
import Derived.Test.YtigngogjgohfgaaGreatPureY
namespace Go.Proofs.YtigngogjgohfgaaGreat
open Go
set_option linter.unusedSimpArgs false
set_option linter.unusedVariables false
theorem objective_ok {br : Nat} {vbr : Value} {Hr : Hp} {bsr : List Int} (pr : Nat) (n : Int) (hn : 0 ≤ n ∧ n ≤ 4) (hp : pr + (6) ≤ 1000000) (hr : Bytes Hr vbr bsr) : SpecT Tryz.prog 45 [.pointer (some ⟨br, 0, none⟩), .int .i64 n] [sing br (.cells [vbr, .int .i64 (pr : Int)].toArray 84 (0, 0))] [Hr] (fun vq L1 Ln Kq => ∃ q : Nat, q ≤ pr + (6) ∧ L1 = [sing br (.cells [vbr, .int .i64 (q : Int)].toArray 84 (0, 0))] ∧ ∃ (Hq : Hp) (xq : List Int), Ln = [Hq] ∧ OwnL 3 1 Hq noHp IntV vq xq ∧ ((xq.length : Int) = n → Coef xq) ∧ xq.length ≤ 5) := by
  refine specT_of Tryz.func45 rfl rfl rfl (fun B => ?_)
  refine kc_seq ?_
  refine kc_region ?_
  refine kl_as rfl ?_
  refine kl_nil ?_
  refine kq_code ?_
  refine kc_seq ?_
  refine kc_region ?_
  refine kl_bsI [] rfl rfl rfl (by decide) (fun v1 H2 f3 o4 => ?_)
  refine kl_as rfl ?_
  refine kl_nil ?_
  refine kq_code ?_
  refine kc_seq ?_
  refine kc_seq ?_
  refine kc_region ?_
  refine kl_as rfl ?_
  refine kl_nil ?_
  refine kq_code ?_
  refine kc_block ?_
  refine kc_loopL (A := Nat × List Int × Value × Hp × Nat) (fun zz => (zz.1 ≤ n.toNat) ∧ (zz.2.1.length = zz.1 ∧ Coef zz.2.1) ∧ OwnL 3 1 zz.2.2.2.1 noHp IntV zz.2.2.1 zz.2.1 ∧ Fr B zz.2.2.2.1 ∧ zz.2.2.2.2 ≤ pr + zz.1) (fun zz => n.toNat - zz.1) (fun zz => [zz.2.2.2.1, sing br (.cells [vbr, .int .i64 (zz.2.2.2.2 : Int)].toArray 84 (0, 0))]) (fun zz => [(6, .int .i64 (zz.1 : Int)), (5, zz.2.2.1)]) (0, ([]), v1, H2, pr) (pc 0 rfl (pc 1 rfl (pc 4 rfl pn))) (pc 6 rfl (pc 5 rfl pn)) rfl ⟨Nat.zero_le _, ⟨rfl, all_nil⟩, o4, f3, (by first | omega | (dsimp only; omega))⟩ ?_
  rintro ⟨i, out, v10, H7, q11⟩ hJ13
  obtain ⟨hk5, hi6, o8, f9, hq12⟩ : (i ≤ n.toNat) ∧ (out.length = i ∧ Coef out) ∧ OwnL 3 1 H7 noHp IntV v10 out ∧ Fr B H7 ∧ q11 ≤ pr + i := hJ13
  change KC _ _ (_) [H7, sing br (.cells [vbr, .int .i64 (q11 : Int)].toArray 84 (0, 0))] _ ([(6, .int .i64 (i : Int)), (5, v10)] ++ _)
  refine kc_seq ?_
  refine kc_seq ?_
  refine kc_region ?_
  refine kl_mv rfl ?_
  refine kl_mv rfl ?_
  refine kl_lss rfl rfl ?_
  refine kl_nil ?_
  refine kq_code ?_
  refine kc_if rfl (fun c14 => ?_) (fun c14 => ?_)
  · skip
    refine kc_skipQ ?_
    refine kq_code ?_
    refine kc_seq ?_
    refine kc_block ?_
    refine kc_region ?_
    refine kl_mv rfl ?_
    refine kl_mv rfl ?_
    refine kl_bs rfl rfl rfl (by decide) (ca rfl (ca rfl (ca rfl (ca rfl (ca rfl (ca rfl ca_nil)))))) (fun v15 H16 f17 r18 s19 => ?_)
    have h20 : Ints H16 v15 [(1 : Int), (0 : Int), (-1 : Int), (2 : Int), (-9 : Int), (9 : Int)] := litInts (xs := [(1 : Int), (0 : Int), (-1 : Int), (2 : Int), (-9 : Int), (9 : Int)]) (by simpa using s19)
    refine kl_callT rfl rfl (one_ok q11 ([(1 : Int), (0 : Int), (-1 : Int), (2 : Int), (-9 : Int), (9 : Int)]) (by simp) (by omega) hr (by assumption)) (fun v21 L1 Ln K25 h22 f23 f24 => ?_)
    obtain ⟨q26, h27, rfl, rfl, z28, rfl, h29⟩ := h22
    have ho9 := obj_one h29
    refine kl_norm ?_
    refine kl_bs rfl rfl rfl (by decide) (ca rfl ca_nil) (fun v32 H33 f34 r35 s36 => ?_)
    have h37 : Ints H33 v32 [z28] := litInts (xs := [z28]) (by simpa using s36)
    refine kl_apL z28 rfl rfl o8 (by assumption) rfl (oc rfl oc_nil) (by omega) (by decide) (fun v38 H39 o40 f41 => ?_)
    have f42 := f41 B f9 (Nat.le_refl _)
    refine kl_as rfl ?_
    refine kl_nil ?_
    refine kq_code ?_
    refine kc_region ?_
    refine kl_mv rfl ?_
    refine kl_inc rfl rfl (by omega) ?_
    refine kl_as rfl ?_
    refine kl_nil ?_
    refine kq_take [H39, sing br (.cells [vbr, .int .i64 (q26 : Int)].toArray 84 (0, 0))] ?_
    refine kq_roundL ((i + 1), (out ++ [z28]), v38, H39, q26) (by omega) (⟨by omega, ⟨by simp; omega, all_snoc hi6.2 ho9⟩, o40, f42, (by first | omega | (dsimp only; omega))⟩) (pc 6 rfl (pc 5 rfl pn)) (pc 0 rfl (pc 1 rfl (pc 4 rfl pn))) rfl (List.Sublist.refl _)
  · skip
    refine kc_exit ?_
    refine kq_code ?_
    refine kc_seq ?_
    refine kc_seq ?_
    refine kc_region ?_
    refine kl_mv rfl ?_
    refine kl_callT rfl rfl (pick_ok q11 (14 : Int) (by omega) hr) (fun v43 L1 Ln K47 h44 f45 f46 => ?_)
    obtain ⟨q48, h49, rfl, rfl, z50, rfl, h51⟩ := h44
    refine kl_norm ?_
    refine kl_eql rfl rfl ?_
    refine kl_nil ?_
    refine kq_code ?_
    refine kc_if rfl (fun c54 => ?_) (fun c54 => ?_)
    · skip
      refine kc_seq ?_
      refine kc_region ?_
      refine kl_mv rfl ?_
      refine kl_bs rfl rfl rfl (by decide) (ca rfl ca_nil) (fun v55 H56 f57 r58 s59 => ?_)
      have h60 : Ints H56 v55 [(10 : Int)] := litInts (xs := [(10 : Int)]) (by simpa using s59)
      refine kl_apL (10 : Int) rfl rfl o8 (by assumption) rfl (oc rfl oc_nil) (by omega) (by decide) (fun v61 H62 o63 f64 => ?_)
      have f65 := f64 B f9 (Nat.le_refl _)
      refine kl_as rfl ?_
      refine kl_nil ?_
      refine kq_code ?_
      refine kc_ret ?_
      exact kq_retT rfl rfl [sing br (.cells [vbr, .int .i64 (q48 : Int)].toArray 84 (0, 0))] [H62] noHp (fr1 f65) (fr_no _) ⟨q48, by omega, rfl, H62, (out ++ [(10 : Int)]), rfl, o63, by first | exact ⟨fun _ => hi6.2, by omega⟩ | exact ⟨fun h => by have h8 := hi6.1; simp at h; omega, by simp; omega⟩⟩
    · skip
      refine kc_skipQ ?_
      refine kq_code ?_
      refine kc_seq ?_
      refine kc_region ?_
      refine kl_mv rfl ?_
      refine kl_as rfl ?_
      refine kl_nil ?_
      refine kq_code ?_
      refine kc_ret ?_
      exact kq_retT rfl rfl [sing br (.cells [vbr, .int .i64 (q48 : Int)].toArray 84 (0, 0))] [H7] noHp (fr1 f9) (fr_no _) ⟨q48, by omega, rfl, H7, out, rfl, o8, by first | exact ⟨fun _ => hi6.2, by omega⟩ | exact ⟨fun h => by have h8 := hi6.1; simp at h; omega, by simp; omega⟩⟩
theorem drawMm_ok {Hcode : Hp} {vcode : Value} (code : List Int) (hcode : Bytes Hcode vcode code) : Spec Tryz.prog 14 [vcode] [Hcode] (fun Hq vq => ∃ (mq : Mod) (oq : List Int) (fq : List Bool) (uq0a uq0b uq1 uq2 : Value), vq = .tuple #[.agg #[uq0a, uq0b], uq1, uq2] ∧ Ints Hq uq0a mq.doms ∧ Cons Hq uq0b mq.cons ∧ Ints Hq uq1 oq ∧ Bools Hq uq2 fq ∧ ModSm 100 mq ∧ ((oq.length : Int) = (mq.doms.length : Int) → Coef oq) ∧ oq.length ≤ 5 ∧ fq.length ≤ 5) := by
  refine spec_ofR Tryz.func14 rfl rfl rfl (fun B => ?_)
  refine kc_seq ?_
  refine kc_region ?_
  refine kl_alloc (cs := [.slice none 0 0, .slice none 0 0]) rfl (fun b1 hb2 => ?_)
  refine kl_as rfl ?_
  refine kl_as rfl ?_
  refine kl_nil ?_
  refine kq_code ?_
  refine kc_seq ?_
  refine kc_region ?_
  refine kl_mv rfl ?_
  refine kl_callT rfl rfl (newReader_ok code hcode) (fun v3 L1 Ln K7 h4 f5 f6 => ?_)
  obtain ⟨rfl, b8, v9, x10, rfl, rfl, h11⟩ := h4
  refine kl_norm ?_
  refine kl_as rfl ?_
  refine kl_nil ?_
  refine kq_code ?_
  refine kc_seq ?_
  refine kc_region ?_
  refine kl_mv rfl ?_
  refine kl_callT rfl rfl (gameModel_ok 0 (by omega) h11) (fun v12 L1 Ln K16 h13 f14 f15 => ?_)
  obtain ⟨q17, h18, rfl, H21, M23, v24, v25, z19, rfl, rfl, o22, o26, h20⟩ := h13
  have f27 := f14 _ (.head _)
  have f28 := f14 _ (.tail _ (.head _))
  have hd1 := h20.d1
  have hd4 := h20.d
  have hc1 := h20.c
  have hcc := h20.cc
  refine kl_norm ?_
  refine kl_alloc (cs := [.slice none 0 0, .slice none 0 0]) rfl (fun b29 hb30 => ?_)
  refine kl_stW (us := [v24, v25]) rfl rfl rfl rfl (oc (OwnL.oneCell (by assumption)) (oc (OwnL.oneCell (by assumption)) oc_nil)) rfl ?_
  refine kl_chg [sing b29 (.cells [v24, v25].toArray 26 (0, 0)), sing b8 (.cells [v9, .int .i64 (q17 : Int)].toArray 84 (0, 0)), H21, M23, sing b1 (.cells [.slice none 0 0, .slice none 0 0].toArray 26 (0, 0))] rfl ?_
  refine kl_nil ?_
  refine kq_code ?_
  refine kc_seq ?_
  refine kc_region ?_
  refine kl_mv rfl ?_
  refine kl_fdV rfl ?_
  refine kl_ldB rfl rfl ?_
  refine kl_lenL rfl o22 (fun l31 => ?_)
  refine kl_callT rfl rfl (quantifiers_ok q17 (z19.doms.length : Int) (by first | assumption | omega) (by omega) h11) (fun v32 L1 Ln K36 h33 f34 f35 => ?_)
  obtain ⟨q37, h38, rfl, H41, z39, rfl, o42, h40⟩ := h33
  have f43 := f34 _ (.head _)
  have hk9 := h40
  refine kl_norm ?_
  refine kl_as rfl ?_
  refine kl_nil ?_
  refine kq_code ?_
  refine kc_seq ?_
  refine kc_tree (fun i => ([] : List Nat).contains i) [sing b29 (.cells [v24, v25].toArray 26 (0, 0))] (by kernel_rfl) ?_
  refine kt_q 0 (.cons _ (.cons _ (.cons_cons _ (List.nil_sublist _)))) rfl (by kernel_rfl) ?_
  refine kl_ldS rfl (at_box (T := 26) (cs := [v24, v25]) (off := 0) (fz := (0, 0))) rfl ?_
  refine kl_nil (kq_q ?_)
  refine kt_q 1 (.cons _ (.cons _ (.cons_cons _ (List.nil_sublist _)))) rfl (by kernel_rfl) ?_
  refine kl_mv rfl ?_
  refine kl_nil (kq_q ?_)
  refine kt_q 2 (.cons _ (.cons _ (.cons_cons _ (List.nil_sublist _)))) rfl (by kernel_rfl) ?_
  refine kl_fdV rfl ?_
  refine kl_nil (kq_q ?_)
  refine kt_q 3 (.cons _ (.cons _ (.cons_cons _ (List.nil_sublist _)))) rfl (by kernel_rfl) ?_
  refine kl_ld rfl (at_box (T := 26) (cs := [v24, v25]) (off := 0) (fz := (0, 0))) ?_
  refine kl_nil (kq_q ?_)
  refine kt_q 4 (.cons _ (.cons _ (.cons_cons _ (List.nil_sublist _)))) rfl (by kernel_rfl) ?_
  refine kl_lenL rfl o22 (fun l44 => ?_)
  refine kl_nil (kq_q ?_)
  refine kt_q 6 (.cons _ (.cons _ (.cons_cons _ (List.nil_sublist _)))) rfl (by kernel_rfl) ?_
  refine kl_mv rfl ?_
  refine kl_nil (kq_q ?_)
  refine kt_a 5 rfl (by kernel_rfl) ?_
  refine kl_callT rfl rfl (objective_ok q37 (z19.doms.length : Int) (by first | assumption | omega) (by omega) h11) (fun v45 L1 Ln K49 h46 f47 f48 => ?_)
  obtain ⟨q50, h51, rfl, H54, z52, rfl, o55, h53⟩ := h46
  have f56 := f47 _ (.head _)
  have hj9 := h53
  refine kl_norm ?_
  refine kl_nil (kq_a (.cons _ (.cons _ (.cons _ (.cons_cons _ (List.nil_sublist _))))) ?_)
  refine kt_a 7 rfl (by kernel_rfl) ?_
  refine kl_stW (us := [v24, v25]) rfl rfl rfl rfl (oc (OwnL.oneCell (by assumption)) (oc (OwnL.oneCell (by assumption)) oc_nil)) rfl ?_
  refine kl_chg [sing b8 (.cells [v9, .int .i64 (q50 : Int)].toArray 84 (0, 0)), H54, H41, sing b29 (.cells [v24, v25].toArray 26 (0, 0)), H21, M23, sing b1 (.cells [v24, v25].toArray 26 (0, 0))] rfl ?_
  refine kl_nil (kq_a (.cons _ (.cons _ (.cons _ (.cons_cons _ (List.nil_sublist _))))) ?_)
  refine kt_q 8 (.cons _ (.cons _ (.cons _ (.cons_cons _ (List.nil_sublist _))))) rfl (by kernel_rfl) ?_
  refine kl_as rfl ?_
  refine kl_nil (kq_q ?_)
  refine kt_q 9 (.cons _ (.cons _ (.cons _ (.cons_cons _ (List.nil_sublist _))))) rfl (by kernel_rfl) ?_
  refine kl_as rfl ?_
  refine kl_nil (kq_q ?_)
  refine kt_end (by kernel_rfl) ?_
  refine kq_code ?_
  refine kc_ret ?_
  refine kq_frz H21 ?_
  refine kq_frz M23 ?_
  refine kq_cmp M23 K16 (fun c57 => ?_)
  refine kq_frz H54 ?_
  refine kq_frz H41 ?_
  refine kq_cmp H54 H41 (fun c58 => ?_)
  refine kq_cmp (orHp M23 K16) (orHp H54 H41) (fun c59 => ?_)
  refine kq_cmp H21 (orHp (orHp M23 K16) (orHp H54 H41)) (fun c60 => ?_)
  exact kq_retR (rss3 rfl (rs_agg rfl rfl) (rs_tmp rfl) (rs_tmp rfl)) (orHp H21 (orHp (orHp M23 K16) (orHp H54 H41))) (fr_or f27 (fr_or (fr_or f28 f15) (fr_or f56 f43))) ⟨(⟨z19.doms, z19.cons⟩ : Mod), z52, z39, _, _, _, _, rfl, (Sl.mono (OwnL.ints o22) (fun b o h => orL b o h) (fun _ _ h => h)), (Cons.mono' (OwnL.consK o26 c57) (fun b o h => orC c60 b o (orL b o h))), (Sl.mono (OwnL.ints o55) (fun b o h => orC c60 b o (orC c59 b o (orL b o h))) (fun _ _ h => h)), (Sl.mono (OwnL.bools o42) (fun b o h => orC c60 b o (orC c59 b o (orC c58 b o h))) (fun _ _ h => h)), by exact ⟨by (constructor <;> dsimp only <;> first | omega | assumption), hj9.1, hj9.2, hk9⟩⟩ .none
end Go.Proofs.YtigngogjgohfgaaGreat
