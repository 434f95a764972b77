/- Walks of functions of the program: each returns what the plain function gives. Conditions: those that each statement names. -/
import Derived.Test.YtbbphbihgikmdaaGreatWrm
namespace Go.Proofs.YtbbphbihgikmdaaGreat
open Go
set_option linter.unusedSimpArgs false
set_option linter.unusedVariables false
theorem hardModel_ok {br : Nat} {vbr : Value} {Hr : Hp} {bsr : List Int} (pr : Nat) (hp : pr + (800) ≤ 1000000) (hr : Bytes Hr vbr bsr) : SpecT Tryz.prog 113 [.pointer (some ⟨br, 0, none⟩)] [sing br (.cells [vbr, .int .i64 (pr : Int)].toArray 113 (0, 0))] [Hr] (fun vq L1 Ln Kq => ∃ q : Nat, q ≤ pr + (800) ∧ L1 = [sing br (.cells [vbr, .int .i64 (q : Int)].toArray 113 (0, 0))] ∧ ∃ (Hq Mq : Hp) (va vc : Value) (mq : Mod), vq = .agg #[va, vc] ∧ Ln = [Hq, Mq] ∧ OwnL 3 1 Hq noHp IntV va mq.doms ∧ OwnL 105 5 Mq Kq ConV vc mq.cons ∧ ModSm 100 mq) := by
 refine specT_of Tryz.func113 rfl rfl rfl (fun B => ?_)
 refine kc_seq (kc_region ?_)
 refine kl_alloc (cs := [.slice none 0 0, .slice none 0 0]) rfl (fun b1 hb2 => ?_)
 refine kl_nil (kq_code (kc_seq (kc_region ?_)))
 refine kl_mv rfl ?_
 refine kl_callT rfl rfl (randomModel_ok pr (by omega) hr) (fun v3 L1 Ln K7 h4 f5 f6 => ?_)
 obtain ⟨q8, h9, rfl, H12, M14, v15, v16, z10, rfl, rfl, o13, o17, h11⟩ := h4
 have f18 := f5 _ (.head _)
 have f19 := f5 _ (.tail _ (.head _))
 have hd1 := h11.d1
 have hd4 := h11.d
 have hc1 := h11.c
 have hcc := h11.cc
 refine kl_norm ?_
 refine kl_alloc (cs := [.slice none 0 0, .slice none 0 0]) rfl (fun b20 hb21 => ?_)
 refine kl_stW (us := [v15, v16]) rfl rfl rfl rfl (oc (OwnL.oneCell (by assumption)) (oc (OwnL.oneCell (by assumption)) oc_nil)) rfl ?_
 refine kl_chg [sing b20 (.cells [v15, v16].toArray 32 (0, 0)), sing br (.cells [vbr, .int .i64 (q8 : Int)].toArray 113 (0, 0)), H12, M14, sing b1 (.cells [.slice none 0 0, .slice none 0 0].toArray 32 (0, 0))] rfl ?_
 refine kl_nil (kq_code ?_)
 refine kc_seq ?_
 refine kc_seq (kc_region ?_)
 refine kl_mv rfl ?_
 refine kl_callT rfl rfl (pick_ok q8 (3 : Int) (by omega) hr) (fun v22 L1 Ln K26 h23 f24 f25 => ?_)
 obtain ⟨q27, h28, rfl, rfl, z29, rfl, h30⟩ := h23
 refine kl_norm ?_
 refine kl_as rfl ?_
 refine kl_nil (kq_code ?_)
 refine kc_block ?_
 refine kc_loopK (A := Int × List Con × Value × Hp × Hp × Nat) (fun zz => (0 ≤ zz.1 ∧ zz.1 ≤ 2 ∧ zz.2.1.length + zz.1.toNat ≤ 52 ∧ ∀ c ∈ zz.2.1, ConSm 50 c) ∧ Fr B zz.2.2.2.2.1 ∧ OwnL 105 5 zz.2.2.2.1 zz.2.2.2.2.1 ConV zz.2.2.1 zz.2.1 ∧ Fr B zz.2.2.2.1 ∧ zz.2.2.2.2.2 ≤ q27 + 100 * (2 - zz.1).toNat) (fun zz => zz.1.toNat) (fun zz => zz.2.2.2.2.1) (fun zz => [sing br (.cells [vbr, .int .i64 (zz.2.2.2.2.2 : Int)].toArray 113 (0, 0)), sing b20 (.cells [v15, zz.2.2.1].toArray 32 (0, 0)), H12, zz.2.2.2.1, sing b1 (.cells [.slice none 0 0, .slice none 0 0].toArray 32 (0, 0))]) (fun zz => [(4, .int .i64 zz.1)]) (z29, z10.cons, v16, M14, K7, q27) (pc 0 rfl (pc 2 rfl (pc 3 rfl pn))) (pc 4 rfl pn) rfl ⟨⟨by dsimp only; omega, by dsimp only; omega, by dsimp only; omega, hcc⟩, f6, o17, f19, (by first | omega | (dsimp only; omega))⟩ ?_
 rintro ⟨k, cs, v38, H35, K39, q41⟩ hJ43
 obtain ⟨hi34, f40, o36, f37, hq42⟩ : (0 ≤ k ∧ k ≤ 2 ∧ cs.length + k.toNat ≤ 52 ∧ ∀ c ∈ cs, ConSm 50 c) ∧ Fr B K39 ∧ OwnL 105 5 H35 K39 ConV v38 cs ∧ Fr B H35 ∧ q41 ≤ q27 + 100 * (2 - k).toNat := hJ43
 change KC _ _ (K39 :: _) [sing br (.cells [vbr, .int .i64 (q41 : Int)].toArray 113 (0, 0)), sing b20 (.cells [v15, v38].toArray 32 (0, 0)), H12, H35, sing b1 (.cells [.slice none 0 0, .slice none 0 0].toArray 32 (0, 0))] _ ([(4, .int .i64 k)] ++ _)
 have hall := hi34.2.2.2
 refine kc_seq ?_
 refine kc_seq (kc_region ?_)
 refine kl_mv rfl ?_
 refine kl_gtr rfl rfl ?_
 refine kl_mv rfl ?_
 refine kl_join 5 17 (.bool (decide ((0 : Int) < k) && decide ((cs.length : Int) < (6 : Int)))) (pc 0 rfl (pc 2 rfl (pc 3 rfl (pc 4 rfl (pc 10 rfl (pc 11 rfl (pc 12 rfl pn))))))) (fun J46 => ?_) ?_
 ·rcases Bool.eq_false_or_eq_true (decide ((0 : Int) < k)) with g44 | g44
  ·skip
   have g44p := of_decide_eq_true g44
   refine kl_gT rfl rfl g44 ?_
   refine kl_fdV rfl ?_
   refine kl_gT rfl rfl g44 ?_
   refine kl_ldB rfl rfl ?_
   refine kl_gT rfl rfl g44 ?_
   refine kl_lenL rfl o36 (fun l45 => ?_)
   refine kl_gT rfl rfl g44 ?_
   refine kl_lss rfl rfl ?_
   refine kl_andT rfl rfl g44 ?_
   exact J46 _ (pc 17 rfl (pc 0 rfl (pc 2 rfl (pc 3 rfl (pc 4 rfl (pc 10 rfl (pc 11 rfl (pc 12 rfl pn))))))))
  ·skip
   refine kl_gF rfl rfl g44 ?_
   refine kl_gF rfl rfl g44 ?_
   refine kl_gF rfl rfl g44 ?_
   refine kl_gF rfl rfl g44 ?_
   refine kl_andF (decide ((cs.length : Int) < (6 : Int))) rfl rfl g44 ?_
   exact J46 _ (pc 17 rfl (pc 0 rfl (pc 2 rfl (pc 3 rfl (pc 4 rfl (pc 10 rfl (pc 11 rfl (pc 12 rfl pn))))))))
 refine kl_nil (kq_code ?_)
 refine kc_cond rfl (fun c47 => ?_) (fun c47 => ?_)
 ·skip
  have c47r := c47
  try simp only [Bool.not_eq_true', Bool.not_eq_false', Bool.not_true, Bool.not_false, decide_eq_true_eq, decide_eq_false_iff_not, Bool.and_eq_true, Bool.or_eq_false_iff] at c47
  refine kc_skipQ ?_
  refine kq_code ?_
  refine kc_seq ?_
  refine kc_block ?_
  refine kc_tree (fun i => ([8, 10] : List Nat).contains i) [sing b20 (.cells [v15, v38].toArray 32 (0, 0))] (by kernel_rfl) ?_
  refine kt_q 0 (.cons _ (.cons_cons _ (List.nil_sublist _))) rfl (by kernel_rfl) ?_
  refine kl_fdV rfl ?_
  refine kl_nil (kq_q ?_)
  refine kt_q 1 (.cons _ (.cons_cons _ (List.nil_sublist _))) rfl (by kernel_rfl) ?_
  refine kl_ld rfl (at_box (T := 32) (cs := [v15, v38]) (off := 1) (fz := (0, 0))) ?_
  refine kl_nil (kq_q ?_)
  refine kt_q 2 (.cons _ (.cons_cons _ (List.nil_sublist _))) rfl (by kernel_rfl) ?_
  refine kl_mv rfl ?_
  refine kl_nil (kq_q ?_)
  refine kt_q 3 (.cons _ (.cons_cons _ (List.nil_sublist _))) rfl (by kernel_rfl) ?_
  refine kl_fdV rfl ?_
  refine kl_nil (kq_q ?_)
  refine kt_q 4 (.cons _ (.cons_cons _ (List.nil_sublist _))) rfl (by kernel_rfl) ?_
  refine kl_ld rfl (at_box (T := 32) (cs := [v15, v38]) (off := 0) (fz := (0, 0))) ?_
  refine kl_nil (kq_q ?_)
  refine kt_q 5 (.cons _ (.cons_cons _ (List.nil_sublist _))) rfl (by kernel_rfl) ?_
  refine kl_lenL rfl o13 (fun l48 => ?_)
  refine kl_nil (kq_q ?_)
  refine kt_a 6 rfl (by kernel_rfl) ?_
  refine kl_callT rfl rfl (randomConstraint_ok q41 (z10.doms.length : Int) (by first | assumption | omega) (by omega) hr) (fun v49 L1 Ln K53 h50 f51 f52 => ?_)
  obtain ⟨q54, h55, rfl, z56, rfl, h60, h57⟩ := h50
  obtain ⟨_, rfl, h64⟩ := h60
  have h64' := h64
  obtain ⟨u61, u62, u63, rfl, h65, h66, h67⟩ := h64
  refine kl_norm ?_
  refine kl_nil (kq_a (.cons _ (.cons_cons _ (List.nil_sublist _))) ?_)
  refine kt_a 7 rfl (by kernel_rfl) ?_
  refine kl_bsK rfl (fun v68 H69 f70 r71 => ?_)
  refine kl_nil (kq_a (.cons _ (.cons_cons _ (List.nil_sublist _))) ?_)
  refine kt_a 8 rfl (by kernel_rfl) ?_
  refine kl_cmp K39 K53 (fun c72 => ?_)
  have o73 := OwnL.mono (K' := orHp K39 K53) o36 orL
  refine kl_apL z56 rfl rfl o73 r71 (RMono.mono (orC c72) (by assumption)) (oc rfl (oc (Sl.oneCell (by assumption)) (oc (Sl.oneCell (by assumption)) (oc rfl (oc (Sl.oneCell (by assumption)) oc_nil))))) (by omega) (by decide) (fun v74 H75 o76 f77 => ?_)
  have f78 := f77 B f37 (Nat.le_refl _)
  refine kl_nil (kq_x rfl ?_)
  refine kt_q 9 (.cons _ (.cons_cons _ (List.nil_sublist _))) rfl (by kernel_rfl) ?_
  refine kl_fdV rfl ?_
  refine kl_nil (kq_q ?_)
  refine kt_a 10 rfl (by kernel_rfl) ?_
  refine kl_stB rfl rfl rfl (OwnL.oneCell (by assumption)) (OwnL.cells (by assumption)) ?_
  refine kl_chg [sing br (.cells [vbr, .int .i64 (q54 : Int)].toArray 113 (0, 0)), sing b20 (.cells [v15, v74].toArray 32 (0, 0)), H12, H75, sing b1 (.cells [.slice none 0 0, .slice none 0 0].toArray 32 (0, 0))] rfl ?_
  refine kl_nil (kq_x rfl ?_)
  refine kt_end (by kernel_rfl) ?_
  refine kq_code ?_
  refine kc_region ?_
  refine kl_mv rfl ?_
  refine kl_sub rfl rfl (by omega) ?_
  refine kl_as rfl ?_
  refine kl_nil ?_
  refine kq_take [sing br (.cells [vbr, .int .i64 (q54 : Int)].toArray 113 (0, 0)), sing b20 (.cells [v15, v74].toArray 32 (0, 0)), H12, H75, sing b1 (.cells [.slice none 0 0, .slice none 0 0].toArray 32 (0, 0))] ?_
  refine kq_roundK ((k - (1 : Int)), (cs ++ [z56]), v74, H75, (orHp K39 K53), q54) (by (dsimp only; omega)) (⟨⟨by dsimp only; omega, by dsimp only; omega, by simp; omega, all_snoc hi34.2.2.2 (by assumption)⟩, (fr_or f40 f52), o76, f78, (by first | omega | (dsimp only; omega))⟩) (pc 4 rfl pn) (pc 0 rfl (pc 2 rfl (pc 3 rfl pn))) rfl (List.Sublist.refl _)
 ·skip
  have c47r := c47
  try simp only [Bool.not_eq_true', Bool.not_eq_false', Bool.not_true, Bool.not_false, decide_eq_true_eq, decide_eq_false_iff_not, Bool.and_eq_true, Bool.or_eq_false_iff] at c47
  refine kc_exit ?_
  refine kq_code ?_
  refine kc_seq ?_
  refine kc_seq (kc_region ?_)
  refine kl_mv rfl ?_
  refine kl_callT rfl rfl (pick_ok q41 (3 : Int) (by omega) hr) (fun v79 L1 Ln K83 h80 f81 f82 => ?_)
  obtain ⟨q84, h85, rfl, rfl, z86, rfl, h87⟩ := h80
  refine kl_norm ?_
  refine kl_eql rfl rfl ?_
  refine kl_mv rfl ?_
  refine kl_join 5 38 (.bool (decide (z86 = (0 : Int)) && decide ((cs.length : Int) < (6 : Int)))) (pc 2 rfl (pc 3 rfl (pc 33 rfl pn))) (fun J92 => ?_) ?_
  ·rcases Bool.eq_false_or_eq_true (decide (z86 = (0 : Int))) with g90 | g90
   ·skip
    have g90p := of_decide_eq_true g90
    refine kl_gT rfl rfl g90 ?_
    refine kl_fdV rfl ?_
    refine kl_gT rfl rfl g90 ?_
    refine kl_ldB rfl rfl ?_
    refine kl_gT rfl rfl g90 ?_
    refine kl_lenL rfl o36 (fun l91 => ?_)
    refine kl_gT rfl rfl g90 ?_
    refine kl_lss rfl rfl ?_
    refine kl_andT rfl rfl g90 ?_
    exact J92 _ (pc 38 rfl (pc 2 rfl (pc 3 rfl (pc 33 rfl pn))))
   ·skip
    refine kl_gF rfl rfl g90 ?_
    refine kl_gF rfl rfl g90 ?_
    refine kl_gF rfl rfl g90 ?_
    refine kl_gF rfl rfl g90 ?_
    refine kl_andF (decide ((cs.length : Int) < (6 : Int))) rfl rfl g90 ?_
    exact J92 _ (pc 38 rfl (pc 2 rfl (pc 3 rfl (pc 33 rfl pn))))
  refine kl_mv rfl ?_
  refine kl_join 5 44 (.bool ((decide (z86 = (0 : Int)) && decide ((cs.length : Int) < (6 : Int))) && decide ((2 : Int) < (z10.doms.length : Int)))) (pc 2 rfl (pc 3 rfl (pc 39 rfl pn))) (fun J95 => ?_) ?_
  ·rcases Bool.eq_false_or_eq_true (decide (z86 = (0 : Int)) && decide ((cs.length : Int) < (6 : Int))) with g93 | g93
   ·skip
    have g93p := g93
    try simp only [Bool.not_eq_true', Bool.not_eq_false', decide_eq_true_eq, decide_eq_false_iff_not, Bool.and_eq_true, Bool.or_eq_false_iff, withinB_iff] at g93p
    refine kl_gT rfl rfl g93 ?_
    refine kl_fdV rfl ?_
    refine kl_gT rfl rfl g93 ?_
    refine kl_ldB rfl rfl ?_
    refine kl_gT rfl rfl g93 ?_
    refine kl_lenL rfl o13 (fun l94 => ?_)
    refine kl_gT rfl rfl g93 ?_
    refine kl_gtr rfl rfl ?_
    refine kl_andT rfl rfl g93 ?_
    exact J95 _ (pc 44 rfl (pc 2 rfl (pc 3 rfl (pc 39 rfl pn))))
   ·skip
    refine kl_gF rfl rfl g93 ?_
    refine kl_gF rfl rfl g93 ?_
    refine kl_gF rfl rfl g93 ?_
    refine kl_gF rfl rfl g93 ?_
    refine kl_andF (decide ((2 : Int) < (z10.doms.length : Int))) rfl rfl g93 ?_
    exact J95 _ (pc 44 rfl (pc 2 rfl (pc 3 rfl (pc 39 rfl pn))))
  refine kl_nil (kq_code ?_)
  refine kc_cond rfl (fun c96 => ?_) (fun c96 => ?_)
  ·skip
   have c96r := c96
   try simp only [Bool.not_eq_true', Bool.not_eq_false', Bool.not_true, Bool.not_false, decide_eq_true_eq, decide_eq_false_iff_not, Bool.and_eq_true, Bool.or_eq_false_iff] at c96
   have h3c := c96r
   simp only [Bool.and_eq_true, decide_eq_true_eq] at h3c
   refine kc_seq ?_
   refine kc_seq (kc_region ?_)
   refine kl_as rfl ?_
   refine kl_nil (kq_code ?_)
   refine kc_block ?_
   refine kc_loopL (A := Nat × List Int × Value × Hp) (fun zz => (zz.1 ≤ 4) ∧ (2 < zz.2.1.length ∧ zz.2.1.length ≤ 4) ∧ OwnL 3 1 zz.2.2.2 noHp IntV zz.2.2.1 zz.2.1 ∧ Fr B zz.2.2.2) (fun zz => 4 - zz.1) (fun zz => [sing br (.cells [vbr, .int .i64 (q84 : Int)].toArray 113 (0, 0)), sing b20 (.cells [zz.2.2.1, v38].toArray 32 (0, 0)), zz.2.2.2, H35, sing b1 (.cells [.slice none 0 0, .slice none 0 0].toArray 32 (0, 0))]) (fun zz => [(5, .int .i64 (zz.1 : Int))]) (0, z10.doms, v15, H12) (pc 2 rfl (pc 3 rfl pn)) (pc 5 rfl pn) rfl ⟨Nat.zero_le _, ⟨by have h9 := h3c.2; dsimp only; omega, by dsimp only; omega⟩, o13, f18⟩ ?_
   rintro ⟨i, ds, v102, H99⟩ hJ103
   obtain ⟨hk97, hi98, o100, f101⟩ : (i ≤ 4) ∧ (2 < ds.length ∧ ds.length ≤ 4) ∧ OwnL 3 1 H99 noHp IntV v102 ds ∧ Fr B H99 := hJ103
   change KC _ _ (_) [sing br (.cells [vbr, .int .i64 (q84 : Int)].toArray 113 (0, 0)), sing b20 (.cells [v102, v38].toArray 32 (0, 0)), H99, H35, sing b1 (.cells [.slice none 0 0, .slice none 0 0].toArray 32 (0, 0))] _ ([(5, .int .i64 (i : Int))] ++ _)
   refine kc_seq ?_
   refine kc_seq (kc_region ?_)
   refine kl_mv rfl ?_
   refine kl_fdV rfl ?_
   refine kl_ldB rfl rfl ?_
   refine kl_lenL rfl o100 (fun l104 => ?_)
   refine kl_lss rfl rfl ?_
   refine kl_nil (kq_code ?_)
   refine kc_if rfl (fun c105 => ?_) (fun c105 => ?_)
   ·skip
    refine kc_skipQ ?_
    refine kq_code ?_
    refine kc_seq ?_
    refine kc_block ?_
    refine kc_tree (fun i => ([9] : List Nat).contains i) [sing b20 (.cells [v102, v38].toArray 32 (0, 0))] (by kernel_rfl) ?_
    refine kt_q 0 (.cons _ (.cons_cons _ (List.nil_sublist _))) rfl (by kernel_rfl) ?_
    refine kl_fdV rfl ?_
    refine kl_nil (kq_q ?_)
    refine kt_q 1 (.cons _ (.cons_cons _ (List.nil_sublist _))) rfl (by kernel_rfl) ?_
    refine kl_ld rfl (at_box (T := 32) (cs := [v102, v38]) (off := 0) (fz := (0, 0))) ?_
    refine kl_nil (kq_q ?_)
    refine kt_q 2 (.cons _ (.cons_cons _ (List.nil_sublist _))) rfl (by kernel_rfl) ?_
    refine kl_mv rfl ?_
    refine kl_nil (kq_q ?_)
    refine kt_q 3 (.cons _ (.cons_cons _ (List.nil_sublist _))) rfl (by kernel_rfl) ?_
    refine kl_fdV rfl ?_
    refine kl_nil (kq_q ?_)
    refine kt_q 4 (.cons _ (.cons_cons _ (List.nil_sublist _))) rfl (by kernel_rfl) ?_
    refine kl_ld rfl (at_box (T := 32) (cs := [v102, v38]) (off := 0) (fz := (0, 0))) ?_
    refine kl_nil (kq_q ?_)
    refine kt_q 5 (.cons _ (.cons_cons _ (List.nil_sublist _))) rfl (by kernel_rfl) ?_
    refine kl_lenL rfl o100 (fun l106 => ?_)
    refine kl_nil (kq_q ?_)
    refine kt_q 6 (.cons _ (.cons_cons _ (List.nil_sublist _))) rfl (by kernel_rfl) ?_
    refine kl_sub rfl rfl (by omega) ?_
    refine kl_nil (kq_q ?_)
    refine kt_a 7 rfl (by kernel_rfl) ?_
    refine kl_call rfl rfl (domainRange_ok (0 : Int) ((ds.length : Int) - (2 : Int))) (fun v107 H108 f109 h110 => ?_)
    obtain ⟨z111, rfl, h112⟩ := h110
    refine kl_nil (kq_a (.cons _ (.cons_cons _ (List.nil_sublist _))) ?_)
    refine kt_q 8 (.cons _ (.cons_cons _ (List.nil_sublist _))) rfl (by kernel_rfl) ?_
    refine kl_ixLn rfl rfl (by assumption) (by omega) (fun p113 q114 => ?_)
    refine kl_nil (kq_q ?_)
    refine kt_a 9 rfl (by kernel_rfl) ?_
    refine kl_stL z111 rfl rfl (by assumption) o100 (by omega) rfl rfl rfl (fun H115 o116 f117 => ?_)
    have f118 := f117 _ f101
    refine kl_chg [sing br (.cells [vbr, .int .i64 (q84 : Int)].toArray 113 (0, 0)), sing b20 (.cells [v102, v38].toArray 32 (0, 0)), H115, H35, sing b1 (.cells [.slice none 0 0, .slice none 0 0].toArray 32 (0, 0))] rfl ?_
    refine kl_nil (kq_x rfl ?_)
    refine kt_end (by kernel_rfl) ?_
    refine kq_code ?_
    refine kc_region ?_
    refine kl_mv rfl ?_
    refine kl_inc rfl rfl (by omega) ?_
    refine kl_as rfl ?_
    refine kl_nil ?_
    refine kq_take [sing br (.cells [vbr, .int .i64 (q84 : Int)].toArray 113 (0, 0)), sing b20 (.cells [v102, v38].toArray 32 (0, 0)), H115, H35, sing b1 (.cells [.slice none 0 0, .slice none 0 0].toArray 32 (0, 0))] ?_
    refine kq_roundL ((i + 1), (ds.set i z111), v102, H115) (by omega) (⟨by omega, ⟨by simp; omega, by simp; omega⟩, o116, f118⟩) (pc 5 rfl pn) (pc 2 rfl (pc 3 rfl pn)) rfl (List.Sublist.refl _)
   ·skip
    refine kc_exit ?_
    refine kq_code ?_
    refine kc_tree (fun i => ([8, 10] : List Nat).contains i) [sing b20 (.cells [v102, v38].toArray 32 (0, 0))] (by kernel_rfl) ?_
    refine kt_q 0 (.cons _ (.cons_cons _ (List.nil_sublist _))) rfl (by kernel_rfl) ?_
    refine kl_fdV rfl ?_
    refine kl_nil (kq_q ?_)
    refine kt_q 1 (.cons _ (.cons_cons _ (List.nil_sublist _))) rfl (by kernel_rfl) ?_
    refine kl_ld rfl (at_box (T := 32) (cs := [v102, v38]) (off := 1) (fz := (0, 0))) ?_
    refine kl_nil (kq_q ?_)
    refine kt_q 2 (.cons _ (.cons_cons _ (List.nil_sublist _))) rfl (by kernel_rfl) ?_
    refine kl_fdV rfl ?_
    refine kl_nil (kq_q ?_)
    refine kt_q 3 (.cons _ (.cons_cons _ (List.nil_sublist _))) rfl (by kernel_rfl) ?_
    refine kl_ld rfl (at_box (T := 32) (cs := [v102, v38]) (off := 0) (fz := (0, 0))) ?_
    refine kl_nil (kq_q ?_)
    refine kt_q 4 (.cons _ (.cons_cons _ (List.nil_sublist _))) rfl (by kernel_rfl) ?_
    refine kl_lenL rfl o100 (fun l119 => ?_)
    refine kl_nil (kq_q ?_)
    refine kt_a 5 rfl (by kernel_rfl) ?_
    refine kl_callL rfl rfl (allIndices_ok (ds.length : Int) (by first | assumption | omega)) (fun v120 H121 f122 h123 => ?_)
    obtain ⟨z124, o126, h125⟩ := h123
    refine kl_nil (kq_a (.cons _ (.cons _ (.cons_cons _ (List.nil_sublist _)))) ?_)
    refine kt_a 6 rfl (by kernel_rfl) ?_
    refine kl_bd rfl (cp rfl (cp (OwnL.cells (by assumption)) cp_nil)) rfl ?_
    refine kl_nil (kq_a (.cons _ (.cons _ (.cons_cons _ (List.nil_sublist _)))) ?_)
    refine kt_a 7 rfl (by kernel_rfl) ?_
    refine kl_bsK rfl (fun v127 H128 f129 r130 => ?_)
    refine kl_nil (kq_a (.cons _ (.cons _ (.cons_cons _ (List.nil_sublist _)))) ?_)
    refine kt_frz H121 ?_
    have h131 := OwnL.ints o126
    refine kt_a 8 rfl (by kernel_rfl) ?_
    refine kl_cmp K39 H121 (fun c132 => ?_)
    have o133 := OwnL.mono (K' := orHp K39 H121) o36 orL
    refine kl_apL ⟨(3 : Int), z124, [], (0 : Int), []⟩ rfl rfl o133 r130 ⟨_, _, _, rfl, (Sl.mono (by assumption) (fun b o h => orC c132 b o h) (fun _ _ h => h)), Sl.nil, Sl.nil⟩ (oc rfl (oc (Sl.oneCell (by assumption)) (oc rfl (oc rfl (oc rfl oc_nil))))) (by omega) (by decide) (fun v134 H135 o136 f137 => ?_)
    have f138 := f137 B f37 (Nat.le_refl _)
    refine kl_nil (kq_x rfl ?_)
    refine kt_q 9 (.cons _ (.cons_cons _ (List.nil_sublist _))) rfl (by kernel_rfl) ?_
    refine kl_fdV rfl ?_
    refine kl_nil (kq_q ?_)
    refine kt_a 10 rfl (by kernel_rfl) ?_
    refine kl_stB rfl rfl rfl (OwnL.oneCell (by assumption)) (OwnL.cells (by assumption)) ?_
    refine kl_chg [sing br (.cells [vbr, .int .i64 (q84 : Int)].toArray 113 (0, 0)), sing b20 (.cells [v102, v134].toArray 32 (0, 0)), H99, H135, sing b1 (.cells [.slice none 0 0, .slice none 0 0].toArray 32 (0, 0))] rfl ?_
    refine kl_nil (kq_x rfl ?_)
    refine kt_end (by kernel_rfl) ?_
    refine kq_code ?_
    refine kc_seq (kc_region ?_)
    refine kl_ldW rfl rfl ?_
    refine kl_stW (us := [v102, v134]) rfl rfl rfl rfl (oc (OwnL.oneCell (by assumption)) (oc (OwnL.oneCell (by assumption)) oc_nil)) rfl ?_
    refine kl_chg [sing br (.cells [vbr, .int .i64 (q84 : Int)].toArray 113 (0, 0)), sing b20 (.cells [v102, v134].toArray 32 (0, 0)), H99, H135, sing b1 (.cells [v102, v134].toArray 32 (0, 0))] rfl ?_
    refine kl_nil (kq_code ?_)
    refine kc_ret ?_
    exact kq_retTC rfl rfl rfl [sing br (.cells [vbr, .int .i64 (q84 : Int)].toArray 113 (0, 0))] [H99, H135] (orHp K39 H121) (frc f101 (fr1 f138)) (fr_or f40 f122) ⟨q84, by omega, rfl, H99, H135, _, _, (⟨ds, (cs ++ [⟨(3 : Int), z124, [], (0 : Int), []⟩])⟩ : Mod), rfl, rfl, o100, o136, by (constructor <;> dsimp only <;> first | omega | assumption | exact all_mono (by assumption) | (simp; done) | (simp only [List.length_append, List.length_cons, List.length_nil]; omega) | exact all_snoc (all_mono hi34.2.2.2) (by constructor <;> dsimp only <;> first | (simp; done) | omega | exact all_nil))⟩
  ·skip
   have c96r := c96
   try simp only [Bool.not_eq_true', Bool.not_eq_false', Bool.not_true, Bool.not_false, decide_eq_true_eq, decide_eq_false_iff_not, Bool.and_eq_true, Bool.or_eq_false_iff] at c96
   refine kc_skipQ ?_
   refine kq_code ?_
   refine kc_seq (kc_region ?_)
   refine kl_ldW rfl rfl ?_
   refine kl_stW (us := [v15, v38]) rfl rfl rfl rfl (oc (OwnL.oneCell (by assumption)) (oc (OwnL.oneCell (by assumption)) oc_nil)) rfl ?_
   refine kl_chg [sing br (.cells [vbr, .int .i64 (q84 : Int)].toArray 113 (0, 0)), sing b20 (.cells [v15, v38].toArray 32 (0, 0)), H12, H35, sing b1 (.cells [v15, v38].toArray 32 (0, 0))] rfl ?_
   refine kl_nil (kq_code ?_)
   refine kc_ret ?_
   exact kq_retTC rfl rfl rfl [sing br (.cells [vbr, .int .i64 (q84 : Int)].toArray 113 (0, 0))] [H12, H35] K39 (frc f18 (fr1 f37)) f40 ⟨q84, by omega, rfl, H12, H35, _, _, (⟨z10.doms, cs⟩ : Mod), rfl, rfl, o13, o36, by (constructor <;> dsimp only <;> first | omega | assumption | exact all_mono (by assumption) | (simp; done) | (simp only [List.length_append, List.length_cons, List.length_nil]; omega) | exact all_snoc (all_mono hi34.2.2.2) (by constructor <;> dsimp only <;> first | (simp; done) | omega | exact all_nil))⟩
set_option maxHeartbeats 1000000 in
theorem tightModel_ok {br : Nat} {vbr : Value} {Hr : Hp} {bsr : List Int} (pr : Nat) (hp : pr + (700) ≤ 1000000) (hr : Bytes Hr vbr bsr) : SpecT Tryz.prog 114 [.pointer (some ⟨br, 0, none⟩)] [sing br (.cells [vbr, .int .i64 (pr : Int)].toArray 113 (0, 0))] [Hr] (fun vq L1 Ln Kq => ∃ q : Nat, q ≤ pr + (700) ∧ L1 = [sing br (.cells [vbr, .int .i64 (q : Int)].toArray 113 (0, 0))] ∧ ∃ (Hq Mq : Hp) (va vc : Value) (mq : Mod), vq = .agg #[va, vc] ∧ Ln = [Hq, Mq] ∧ OwnL 3 1 Hq noHp IntV va mq.doms ∧ OwnL 105 5 Mq Kq ConV vc mq.cons ∧ ModSm 100 mq) := by
 refine specT_of Tryz.func114 rfl rfl rfl (fun B => ?_)
 refine kc_seq (kc_region ?_)
 refine kl_alloc (cs := [.slice none 0 0, .slice none 0 0]) rfl (fun b1 hb2 => ?_)
 refine kl_nil (kq_code (kc_seq (kc_region ?_)))
 refine kl_bd rfl cp_nil rfl ?_
 refine kl_alloc (cs := [.slice none 0 0, .slice none 0 0]) rfl (fun b3 hb4 => ?_)
 refine kl_stW (us := [.slice none 0 0, .slice none 0 0]) rfl rfl rfl rfl (oc rfl (oc rfl oc_nil)) rfl ?_
 refine kl_chg [sing b3 (.cells [.slice none 0 0, .slice none 0 0].toArray 32 (0, 0)), sing b1 (.cells [.slice none 0 0, .slice none 0 0].toArray 32 (0, 0)), sing br (.cells [vbr, .int .i64 (pr : Int)].toArray 113 (0, 0))] rfl ?_
 refine kl_nil (kq_code (kc_seq (kc_region ?_)))
 refine kl_mv rfl ?_
 refine kl_callT rfl rfl (pick_ok pr (2 : Int) (by omega) hr) (fun v5 L1 Ln K9 h6 f7 f8 => ?_)
 obtain ⟨q10, h11, rfl, rfl, z12, rfl, h13⟩ := h6
 refine kl_norm ?_
 refine kl_add rfl rfl (by omega) ?_
 refine kl_as rfl ?_
 refine kl_nil (kq_code ?_)
 refine kc_seq ?_
 refine kc_seq (kc_region ?_)
 refine kl_as rfl ?_
 refine kl_nil (kq_code ?_)
 refine kc_block ?_
 refine kc_no ?_
 refine kc_loopL (A := Nat × List Int × Value × Hp × Nat) (fun zz => (zz.1 ≤ 4) ∧ (zz.2.1.length = zz.1) ∧ OwnL 3 1 zz.2.2.2.1 noHp IntV zz.2.2.1 zz.2.1 ∧ Fr B zz.2.2.2.1 ∧ zz.2.2.2.2 ≤ q10 + 1 * zz.1) (fun zz => 4 - zz.1) (fun zz => [zz.2.2.2.1, sing br (.cells [vbr, .int .i64 (zz.2.2.2.2 : Int)].toArray 113 (0, 0)), sing b3 (.cells [zz.2.2.1, .slice none 0 0].toArray 32 (0, 0)), sing b1 (.cells [.slice none 0 0, .slice none 0 0].toArray 32 (0, 0))]) (fun zz => [(5, .int .i64 (zz.1 : Int))]) (0, [], .slice none 0 0, noHp, q10) (pc 0 rfl (pc 2 rfl (pc 3 rfl (pc 4 rfl pn)))) (pc 5 rfl pn) rfl ⟨Nat.zero_le _, rfl, OwnL.nil, (fr_no _), (by first | omega | (dsimp only; omega))⟩ ?_
 rintro ⟨i, ds, v21, H18, q23⟩ hJ25
 obtain ⟨hk16, hi17, o19, f20, hq24⟩ : (i ≤ 4) ∧ (ds.length = i) ∧ OwnL 3 1 H18 noHp IntV v21 ds ∧ Fr B H18 ∧ q23 ≤ q10 + 1 * i := hJ25
 change KC _ _ (_) [H18, sing br (.cells [vbr, .int .i64 (q23 : Int)].toArray 113 (0, 0)), sing b3 (.cells [v21, .slice none 0 0].toArray 32 (0, 0)), sing b1 (.cells [.slice none 0 0, .slice none 0 0].toArray 32 (0, 0))] _ ([(5, .int .i64 (i : Int))] ++ _)
 refine kc_seq ?_
 refine kc_seq (kc_region ?_)
 refine kl_mv rfl ?_
 refine kl_mv rfl ?_
 refine kl_lss rfl rfl ?_
 refine kl_nil (kq_code ?_)
 refine kc_if rfl (fun c26 => ?_) (fun c26 => ?_)
 ·skip
  refine kc_skipQ ?_
  refine kq_code ?_
  refine kc_seq ?_
  refine kc_block ?_
  refine kc_tree (fun i => ([7, 9] : List Nat).contains i) [sing b3 (.cells [v21, .slice none 0 0].toArray 32 (0, 0))] (by kernel_rfl) ?_
  refine kt_q 0 (.cons _ (.cons _ (.cons_cons _ (List.nil_sublist _)))) rfl (by kernel_rfl) ?_
  refine kl_fdV rfl ?_
  refine kl_nil (kq_q ?_)
  refine kt_q 1 (.cons _ (.cons _ (.cons_cons _ (List.nil_sublist _)))) rfl (by kernel_rfl) ?_
  refine kl_ld rfl (at_box (T := 32) (cs := [v21, .slice none 0 0]) (off := 0) (fz := (0, 0))) ?_
  refine kl_nil (kq_q ?_)
  refine kt_q 2 (.cons _ (.cons _ (.cons_cons _ (List.nil_sublist _)))) rfl (by kernel_rfl) ?_
  refine kl_mv rfl ?_
  refine kl_nil (kq_q ?_)
  refine kt_a 3 rfl (by kernel_rfl) ?_
  refine kl_callT rfl rfl (pick_ok q23 (3 : Int) (by omega) hr) (fun v27 L1 Ln K31 h28 f29 f30 => ?_)
  obtain ⟨q32, h33, rfl, rfl, z34, rfl, h35⟩ := h28
  refine kl_norm ?_
  refine kl_nil (kq_a (.cons _ (.cons _ (.cons_cons _ (List.nil_sublist _)))) ?_)
  refine kt_q 4 (.cons _ (.cons _ (.cons_cons _ (List.nil_sublist _)))) rfl (by kernel_rfl) ?_
  refine kl_add rfl rfl (by omega) ?_
  refine kl_nil (kq_q ?_)
  refine kt_a 5 rfl (by kernel_rfl) ?_
  refine kl_call rfl rfl (domainRange_ok (0 : Int) ((2 : Int) + z34)) (fun v38 H39 f40 h41 => ?_)
  obtain ⟨z42, rfl, h43⟩ := h41
  refine kl_nil (kq_a (.cons _ (.cons _ (.cons_cons _ (List.nil_sublist _)))) ?_)
  refine kt_a 6 rfl (by kernel_rfl) ?_
  refine kl_bs rfl rfl rfl (by decide) (ca rfl ca_nil) (fun v44 H45 f46 r47 s48 => ?_)
  have h49 : Ints H45 v44 [z42] := litInts (xs := [z42]) (by simpa using s48)
  refine kl_nil (kq_a (.cons _ (.cons _ (.cons_cons _ (List.nil_sublist _)))) ?_)
  refine kt_a 7 rfl (by kernel_rfl) ?_
  refine kl_apL z42 rfl rfl o19 (by assumption) rfl (oc rfl oc_nil) (by omega) (by decide) (fun v50 H51 o52 f53 => ?_)
  have f54 := f53 B f20 (Nat.le_refl _)
  refine kl_nil (kq_x rfl ?_)
  refine kt_q 8 (.cons _ (.cons _ (.cons_cons _ (List.nil_sublist _)))) rfl (by kernel_rfl) ?_
  refine kl_fdV rfl ?_
  refine kl_nil (kq_q ?_)
  refine kt_a 9 rfl (by kernel_rfl) ?_
  refine kl_stB rfl rfl rfl (OwnL.oneCell (by assumption)) (OwnL.cells (by assumption)) ?_
  refine kl_chg [sing br (.cells [vbr, .int .i64 (q32 : Int)].toArray 113 (0, 0)), H51, sing b3 (.cells [v50, .slice none 0 0].toArray 32 (0, 0)), sing b1 (.cells [.slice none 0 0, .slice none 0 0].toArray 32 (0, 0))] rfl ?_
  refine kl_nil (kq_x rfl ?_)
  refine kt_end (by kernel_rfl) ?_
  refine kq_code ?_
  refine kc_region ?_
  refine kl_mv rfl ?_
  refine kl_inc rfl rfl (by omega) ?_
  refine kl_as rfl ?_
  refine kl_nil ?_
  refine kq_take [H51, sing br (.cells [vbr, .int .i64 (q32 : Int)].toArray 113 (0, 0)), sing b3 (.cells [v50, .slice none 0 0].toArray 32 (0, 0)), sing b1 (.cells [.slice none 0 0, .slice none 0 0].toArray 32 (0, 0))] ?_
  refine kq_roundL ((i + 1), (ds ++ [z42]), v50, H51, q32) (by omega) (⟨by omega, (by simp; omega), o52, f54, (by first | omega | (dsimp only; omega))⟩) (pc 5 rfl pn) (pc 0 rfl (pc 2 rfl (pc 3 rfl (pc 4 rfl pn)))) rfl (List.Sublist.refl _)
 ·skip
  refine kc_exit ?_
  refine kq_code ?_
  refine kc_seq ?_
  refine kc_seq (kc_region ?_)
  refine kl_mv rfl ?_
  refine kl_callT rfl rfl (pick_ok q23 (4 : Int) (by omega) hr) (fun v55 L1 Ln K59 h56 f57 f58 => ?_)
  obtain ⟨q60, h61, rfl, rfl, z62, rfl, h63⟩ := h56
  refine kl_norm ?_
  refine kl_add rfl rfl (by omega) ?_
  refine kl_as rfl ?_
  refine kl_nil (kq_code ?_)
  refine kc_block ?_
  refine kc_no ?_
  refine kc_loopK (A := Int × List Con × Value × Hp × Hp × Nat) (fun zz => (0 ≤ zz.1 ∧ zz.1 ≤ 5 ∧ zz.2.1.length + zz.1.toNat ≤ 5 ∧ ∀ c ∈ zz.2.1, ConSm 50 c) ∧ Fr B zz.2.2.2.2.1 ∧ OwnL 105 5 zz.2.2.2.1 zz.2.2.2.2.1 ConV zz.2.2.1 zz.2.1 ∧ Fr B zz.2.2.2.1 ∧ zz.2.2.2.2.2 ≤ q60 + 104 * (5 - zz.1).toNat) (fun zz => zz.1.toNat) (fun zz => zz.2.2.2.2.1) (fun zz => [zz.2.2.2.1, sing br (.cells [vbr, .int .i64 (zz.2.2.2.2.2 : Int)].toArray 113 (0, 0)), H18, sing b3 (.cells [v21, zz.2.2.1].toArray 32 (0, 0)), sing b1 (.cells [.slice none 0 0, .slice none 0 0].toArray 32 (0, 0))]) (fun zz => [(6, .int .i64 zz.1)]) (((2 : Int) + z62), [], .slice none 0 0, noHp, noHp, q60) (pc 0 rfl (pc 2 rfl (pc 3 rfl (pc 4 rfl pn)))) (pc 6 rfl pn) rfl ⟨⟨by dsimp only; omega, by dsimp only; omega, by dsimp only; simp; omega, all_nil⟩, (fr_no _), OwnL.nil, (fr_no _), (by first | omega | (dsimp only; omega))⟩ ?_
  rintro ⟨k, cs, v71, H68, K72, q75⟩ hJ77
  obtain ⟨hi67, f73, o69, f70, hq76⟩ : (0 ≤ k ∧ k ≤ 5 ∧ cs.length + k.toNat ≤ 5 ∧ ∀ c ∈ cs, ConSm 50 c) ∧ Fr B K72 ∧ OwnL 105 5 H68 K72 ConV v71 cs ∧ Fr B H68 ∧ q75 ≤ q60 + 104 * (5 - k).toNat := hJ77
  change KC _ _ (K72 :: _) [H68, sing br (.cells [vbr, .int .i64 (q75 : Int)].toArray 113 (0, 0)), H18, sing b3 (.cells [v21, v71].toArray 32 (0, 0)), sing b1 (.cells [.slice none 0 0, .slice none 0 0].toArray 32 (0, 0))] _ ([(6, .int .i64 k)] ++ _)
  have hall := hi67.2.2.2
  refine kc_seq ?_
  refine kc_seq (kc_region ?_)
  refine kl_mv rfl ?_
  refine kl_gtr rfl rfl ?_
  refine kl_nil (kq_code ?_)
  refine kc_if rfl (fun c78 => ?_) (fun c78 => ?_)
  ·skip
   refine kc_skipQ ?_
   refine kq_code ?_
   refine kc_seq ?_
   refine kc_block ?_
   refine kc_seq (kc_region ?_)
   refine kl_mv rfl ?_
   refine kl_mv rfl ?_
   refine kl_callT rfl rfl (pick_ok q75 ((3 : Int) + z12) (by omega) hr) (fun v79 L1 Ln K83 h80 f81 f82 => ?_)
   obtain ⟨q84, h85, rfl, rfl, z86, rfl, h87⟩ := h80
   refine kl_norm ?_
   refine kl_as rfl ?_
   refine kl_nil (kq_code ?_)
   refine kc_seq ?_
   refine kc_treeJ (A := Nat × Nat × Hp × Value × (List Int) × Hp × Value × (List Int)) (fun i => ([15, 17] : List Nat).contains i) [] (by kernel_rfl) (fun zz => B.heap.size ≤ zz.1 ∧ zz.2.1 ≤ q84 + 2 ∧ Ints zz.2.2.1 zz.2.2.2.1 zz.2.2.2.2.1 ∧ Fr B zz.2.2.1 ∧ zz.2.2.2.2.1.length = 2 ∧ Ints zz.2.2.2.2.2.1 zz.2.2.2.2.2.2.1 zz.2.2.2.2.2.2.2 ∧ Fr B zz.2.2.2.2.2.1 ∧ zz.2.2.2.2.2.2.2.length = 1) (fun zz => [zz.2.2.1, zz.2.2.2.2.2.1]) (fun zz => [sing zz.1 (.cells [.int .i64 (2 : Int), zz.2.2.2.1, zz.2.2.2.2.2.2.1, .int .i64 (0 : Int), .slice none 0 0].toArray 105 (0, 0)), sing br (.cells [vbr, .int .i64 (zz.2.1 : Int)].toArray 113 (0, 0)), H68, H18, sing b3 (.cells [v21, v71].toArray 32 (0, 0)), sing b1 (.cells [.slice none 0 0, .slice none 0 0].toArray 32 (0, 0))]) (fun zz => [(0, .pointer (some ⟨br, 0, none⟩)), (2, .pointer (some ⟨b1, 0, none⟩)), (3, .pointer (some ⟨b3, 0, none⟩)), (4, .int .i64 ((3 : Int) + z12)), (6, .int .i64 k), (8, .pointer (some ⟨zz.1, 0, none⟩))]) ?_ ?_
   ·skip
    refine kt_q 0 (List.nil_sublist _) rfl (by kernel_rfl) ?_
    refine kl_mv rfl ?_
    refine kl_nil (kq_q ?_)
    refine kt_q 1 (List.nil_sublist _) rfl (by kernel_rfl) ?_
    refine kl_mv rfl ?_
    refine kl_nil (kq_q ?_)
    refine kt_q 2 (List.nil_sublist _) rfl (by kernel_rfl) ?_
    refine kl_add rfl rfl (by omega) ?_
    refine kl_nil (kq_q ?_)
    refine kt_q 3 (List.nil_sublist _) rfl (by kernel_rfl) ?_
    refine kl_mv rfl ?_
    refine kl_nil (kq_q ?_)
    refine kt_q 4 (List.nil_sublist _) rfl (by kernel_rfl) ?_
    refine kl_mv rfl ?_
    refine kl_nil (kq_q ?_)
    refine kt_q 5 (List.nil_sublist _) rfl (by kernel_rfl) ?_
    refine kl_sub rfl rfl (by omega) ?_
    refine kl_nil (kq_q ?_)
    refine kt_q 8 (List.nil_sublist _) rfl (by kernel_rfl) ?_
    refine kl_mv rfl ?_
    refine kl_nil (kq_q ?_)
    refine kt_q 11 (List.nil_sublist _) rfl (by kernel_rfl) ?_
    refine kl_mv rfl ?_
    refine kl_nil (kq_q ?_)
    refine kt_b 6 16 rfl rfl (by kernel_rfl) ?_ ?_
    ·skip
     refine kl_callT rfl rfl (pick_ok q84 (((3 : Int) + z12) - (1 : Int)) (by omega) hr) (fun v143 L1 Ln K147 h144 f145 f146 => ?_)
     obtain ⟨q148, h149, rfl, rfl, z150, rfl, h151⟩ := h144
     refine kl_norm ?_
     refine kl_nil (kq_a (List.nil_sublist _) ?_)
     refine kt_q 7 (List.nil_sublist _) rfl (by kernel_rfl) ?_
     refine kl_add rfl rfl (by omega) ?_
     refine kl_nil (kq_q ?_)
     refine kt_q 9 (List.nil_sublist _) rfl (by kernel_rfl) ?_
     have h154 := tmod_in (m := ((z86 + (1 : Int)) + z150)) (k := ((3 : Int) + z12)) (by omega) (by omega)
     refine kl_rem rfl rfl (by omega) ?_
     refine kl_nil (kq_q ?_)
     refine kt_c 10 12 16 rfl rfl rfl (by kernel_rfl) ?_ ?_ ?_
     ·skip
      refine kl_bs rfl rfl rfl (by decide) (ca rfl (ca rfl ca_nil)) (fun v155 H156 f157 r158 s159 => ?_)
      have h160 : Ints H156 v155 [z86, (Int.tmod ((z86 + (1 : Int)) + z150) ((3 : Int) + z12))] := litInts (xs := [z86, (Int.tmod ((z86 + (1 : Int)) + z150) ((3 : Int) + z12))]) (by simpa using s159)
      refine kl_nil (kq_a (List.nil_sublist _) ?_)
      refine kt_b 12 16 rfl rfl (by kernel_rfl) ?_ ?_
      ·skip
       refine kl_callT rfl rfl (pick_ok q148 (3 : Int) (by omega) hr) (fun v161 L1 Ln K165 h162 f163 f164 => ?_)
       obtain ⟨q166, h167, rfl, rfl, z168, rfl, h169⟩ := h162
       refine kl_norm ?_
       refine kl_nil (kq_a (List.nil_sublist _) ?_)
       refine kt_q 13 (List.nil_sublist _) rfl (by kernel_rfl) ?_
       refine kl_sub rfl rfl (by omega) ?_
       refine kl_nil (kq_q ?_)
       refine kt_b 14 16 rfl rfl (by kernel_rfl) ?_ ?_
       ·skip
        refine kl_bs rfl rfl rfl (by decide) (ca rfl ca_nil) (fun v172 H173 f174 r175 s176 => ?_)
        have h177 : Ints H173 v172 [(z168 - (1 : Int))] := litInts (xs := [(z168 - (1 : Int))]) (by simpa using s176)
        refine kl_nil (kq_a (List.nil_sublist _) ?_)
        refine kt_b 15 16 rfl rfl (by kernel_rfl) ?_ ?_
        ·skip
         refine kl_bd rfl (cp rfl (cp (Sl.cells (by assumption)) (cp (Sl.cells (by assumption)) cp_nil))) rfl ?_
         refine kl_nil (kq_x rfl ?_)
         refine kt_a 16 rfl (by kernel_rfl) ?_
         refine kl_alloc (cs := [.int .i64 (0 : Int), .slice none 0 0, .slice none 0 0, .int .i64 (0 : Int), .slice none 0 0]) rfl (fun b178 hb179 => ?_)
         refine kl_nil (kq_a (List.nil_sublist _) ?_)
         refine kt_a 17 rfl (by kernel_rfl) ?_
         refine kl_stW (us := [.int .i64 (2 : Int), v155, v172, .int .i64 (0 : Int), .slice none 0 0]) rfl rfl rfl rfl (oc rfl (oc (Sl.oneCell (by assumption)) (oc (Sl.oneCell (by assumption)) (oc rfl (oc rfl oc_nil))))) rfl ?_
         refine kl_chg [sing b178 (.cells [.int .i64 (2 : Int), v155, v172, .int .i64 (0 : Int), .slice none 0 0].toArray 105 (0, 0)), sing br (.cells [vbr, .int .i64 (q166 : Int)].toArray 113 (0, 0)), H68, H18, sing b3 (.cells [v21, v71].toArray 32 (0, 0)), sing b1 (.cells [.slice none 0 0, .slice none 0 0].toArray 32 (0, 0))] rfl ?_
         refine kl_nil (kq_x rfl ?_)
         refine kt_end (by kernel_rfl) ?_
         exact kq_rj (b178, q166, H156, v155, ([z86, (Int.tmod ((z86 + (1 : Int)) + z150) ((3 : Int) + z12))]), H173, v172, ([(z168 - (1 : Int))])) [H156, H173] [sing b178 (.cells [.int .i64 (2 : Int), v155, v172, .int .i64 (0 : Int), .slice none 0 0].toArray 105 (0, 0)), sing br (.cells [vbr, .int .i64 (q166 : Int)].toArray 113 (0, 0)), H68, H18, sing b3 (.cells [v21, v71].toArray 32 (0, 0)), sing b1 (.cells [.slice none 0 0, .slice none 0 0].toArray 32 (0, 0))] rfl rfl ⟨hb179, (by dsimp only; omega), (by assumption), f157, (by dsimp only; first | omega | (simp; done) | (simp; omega)), (by assumption), f174, (by dsimp only; first | omega | (simp; done) | (simp; omega))⟩ (pc 0 rfl (pc 2 rfl (pc 3 rfl (pc 4 rfl (pc 6 rfl (pc 8 rfl pn))))))
        ·skip
         refine kl_alloc (cs := [.int .i64 (0 : Int), .slice none 0 0, .slice none 0 0, .int .i64 (0 : Int), .slice none 0 0]) rfl (fun b180 hb181 => ?_)
         refine kl_nil (kq_a (List.nil_sublist _) ?_)
         refine kt_a 15 rfl (by kernel_rfl) ?_
         refine kl_bd rfl (cp rfl (cp (Sl.cells (by assumption)) (cp (Sl.cells (by assumption)) cp_nil))) rfl ?_
         refine kl_nil (kq_x rfl ?_)
         refine kt_a 17 rfl (by kernel_rfl) ?_
         refine kl_stW (us := [.int .i64 (2 : Int), v155, v172, .int .i64 (0 : Int), .slice none 0 0]) rfl rfl rfl rfl (oc rfl (oc (Sl.oneCell (by assumption)) (oc (Sl.oneCell (by assumption)) (oc rfl (oc rfl oc_nil))))) rfl ?_
         refine kl_chg [sing b180 (.cells [.int .i64 (2 : Int), v155, v172, .int .i64 (0 : Int), .slice none 0 0].toArray 105 (0, 0)), sing br (.cells [vbr, .int .i64 (q166 : Int)].toArray 113 (0, 0)), H68, H18, sing b3 (.cells [v21, v71].toArray 32 (0, 0)), sing b1 (.cells [.slice none 0 0, .slice none 0 0].toArray 32 (0, 0))] rfl ?_
         refine kl_nil (kq_x rfl ?_)
         refine kt_end (by kernel_rfl) ?_
         exact kq_rj (b180, q166, H156, v155, ([z86, (Int.tmod ((z86 + (1 : Int)) + z150) ((3 : Int) + z12))]), H173, v172, ([(z168 - (1 : Int))])) [H156, H173] [sing b180 (.cells [.int .i64 (2 : Int), v155, v172, .int .i64 (0 : Int), .slice none 0 0].toArray 105 (0, 0)), sing br (.cells [vbr, .int .i64 (q166 : Int)].toArray 113 (0, 0)), H68, H18, sing b3 (.cells [v21, v71].toArray 32 (0, 0)), sing b1 (.cells [.slice none 0 0, .slice none 0 0].toArray 32 (0, 0))] rfl rfl ⟨hb181, (by dsimp only; omega), (by assumption), f157, (by dsimp only; first | omega | (simp; done) | (simp; omega)), (by assumption), f174, (by dsimp only; first | omega | (simp; done) | (simp; omega))⟩ (pc 0 rfl (pc 2 rfl (pc 3 rfl (pc 4 rfl (pc 6 rfl (pc 8 rfl pn))))))
       ·skip
        refine kl_alloc (cs := [.int .i64 (0 : Int), .slice none 0 0, .slice none 0 0, .int .i64 (0 : Int), .slice none 0 0]) rfl (fun b182 hb183 => ?_)
        refine kl_nil (kq_a (List.nil_sublist _) ?_)
        refine kt_a 14 rfl (by kernel_rfl) ?_
        refine kl_bs rfl rfl rfl (by decide) (ca rfl ca_nil) (fun v184 H185 f186 r187 s188 => ?_)
        have h189 : Ints H185 v184 [(z168 - (1 : Int))] := litInts (xs := [(z168 - (1 : Int))]) (by simpa using s188)
        refine kl_nil (kq_a (List.nil_sublist _) ?_)
        refine kt_a 15 rfl (by kernel_rfl) ?_
        refine kl_bd rfl (cp rfl (cp (Sl.cells (by assumption)) (cp (Sl.cells (by assumption)) cp_nil))) rfl ?_
        refine kl_nil (kq_x rfl ?_)
        refine kt_a 17 rfl (by kernel_rfl) ?_
        refine kl_stW (us := [.int .i64 (2 : Int), v155, v184, .int .i64 (0 : Int), .slice none 0 0]) rfl rfl rfl rfl (oc rfl (oc (Sl.oneCell (by assumption)) (oc (Sl.oneCell (by assumption)) (oc rfl (oc rfl oc_nil))))) rfl ?_
        refine kl_chg [sing b182 (.cells [.int .i64 (2 : Int), v155, v184, .int .i64 (0 : Int), .slice none 0 0].toArray 105 (0, 0)), sing br (.cells [vbr, .int .i64 (q166 : Int)].toArray 113 (0, 0)), H68, H18, sing b3 (.cells [v21, v71].toArray 32 (0, 0)), sing b1 (.cells [.slice none 0 0, .slice none 0 0].toArray 32 (0, 0))] rfl ?_
        refine kl_nil (kq_x rfl ?_)
        refine kt_end (by kernel_rfl) ?_
        exact kq_rj (b182, q166, H156, v155, ([z86, (Int.tmod ((z86 + (1 : Int)) + z150) ((3 : Int) + z12))]), H185, v184, ([(z168 - (1 : Int))])) [H156, H185] [sing b182 (.cells [.int .i64 (2 : Int), v155, v184, .int .i64 (0 : Int), .slice none 0 0].toArray 105 (0, 0)), sing br (.cells [vbr, .int .i64 (q166 : Int)].toArray 113 (0, 0)), H68, H18, sing b3 (.cells [v21, v71].toArray 32 (0, 0)), sing b1 (.cells [.slice none 0 0, .slice none 0 0].toArray 32 (0, 0))] rfl rfl ⟨hb183, (by dsimp only; omega), (by assumption), f157, (by dsimp only; first | omega | (simp; done) | (simp; omega)), (by assumption), f186, (by dsimp only; first | omega | (simp; done) | (simp; omega))⟩ (pc 0 rfl (pc 2 rfl (pc 3 rfl (pc 4 rfl (pc 6 rfl (pc 8 rfl pn))))))
      ·skip
       refine kl_alloc (cs := [.int .i64 (0 : Int), .slice none 0 0, .slice none 0 0, .int .i64 (0 : Int), .slice none 0 0]) rfl (fun b190 hb191 => ?_)
       refine kl_nil (kq_a (List.nil_sublist _) ?_)
       refine kt_a 12 rfl (by kernel_rfl) ?_
       refine kl_callT rfl rfl (pick_ok q148 (3 : Int) (by omega) hr) (fun v192 L1 Ln K196 h193 f194 f195 => ?_)
       obtain ⟨q197, h198, rfl, rfl, z199, rfl, h200⟩ := h193
       refine kl_norm ?_
       refine kl_nil (kq_a (List.nil_sublist _) ?_)
       refine kt_q 13 (List.nil_sublist _) rfl (by kernel_rfl) ?_
       refine kl_sub rfl rfl (by omega) ?_
       refine kl_nil (kq_q ?_)
       refine kt_a 14 rfl (by kernel_rfl) ?_
       refine kl_bs rfl rfl rfl (by decide) (ca rfl ca_nil) (fun v203 H204 f205 r206 s207 => ?_)
       have h208 : Ints H204 v203 [(z199 - (1 : Int))] := litInts (xs := [(z199 - (1 : Int))]) (by simpa using s207)
       refine kl_nil (kq_a (List.nil_sublist _) ?_)
       refine kt_a 15 rfl (by kernel_rfl) ?_
       refine kl_bd rfl (cp rfl (cp (Sl.cells (by assumption)) (cp (Sl.cells (by assumption)) cp_nil))) rfl ?_
       refine kl_nil (kq_x rfl ?_)
       refine kt_a 17 rfl (by kernel_rfl) ?_
       refine kl_stW (us := [.int .i64 (2 : Int), v155, v203, .int .i64 (0 : Int), .slice none 0 0]) rfl rfl rfl rfl (oc rfl (oc (Sl.oneCell (by assumption)) (oc (Sl.oneCell (by assumption)) (oc rfl (oc rfl oc_nil))))) rfl ?_
       refine kl_chg [sing br (.cells [vbr, .int .i64 (q197 : Int)].toArray 113 (0, 0)), sing b190 (.cells [.int .i64 (2 : Int), v155, v203, .int .i64 (0 : Int), .slice none 0 0].toArray 105 (0, 0)), H68, H18, sing b3 (.cells [v21, v71].toArray 32 (0, 0)), sing b1 (.cells [.slice none 0 0, .slice none 0 0].toArray 32 (0, 0))] rfl ?_
       refine kl_nil (kq_x rfl ?_)
       refine kt_end (by kernel_rfl) ?_
       exact kq_rj (b190, q197, H156, v155, ([z86, (Int.tmod ((z86 + (1 : Int)) + z150) ((3 : Int) + z12))]), H204, v203, ([(z199 - (1 : Int))])) [H156, H204] [sing b190 (.cells [.int .i64 (2 : Int), v155, v203, .int .i64 (0 : Int), .slice none 0 0].toArray 105 (0, 0)), sing br (.cells [vbr, .int .i64 (q197 : Int)].toArray 113 (0, 0)), H68, H18, sing b3 (.cells [v21, v71].toArray 32 (0, 0)), sing b1 (.cells [.slice none 0 0, .slice none 0 0].toArray 32 (0, 0))] rfl rfl ⟨hb191, (by dsimp only; omega), (by assumption), f157, (by dsimp only; first | omega | (simp; done) | (simp; omega)), (by assumption), f205, (by dsimp only; first | omega | (simp; done) | (simp; omega))⟩ (pc 0 rfl (pc 2 rfl (pc 3 rfl (pc 4 rfl (pc 6 rfl (pc 8 rfl pn))))))
     ·skip
      refine kl_callT rfl rfl (pick_ok q148 (3 : Int) (by omega) hr) (fun v209 L1 Ln K213 h210 f211 f212 => ?_)
      obtain ⟨q214, h215, rfl, rfl, z216, rfl, h217⟩ := h210
      refine kl_norm ?_
      refine kl_nil (kq_a (List.nil_sublist _) ?_)
      refine kt_q 13 (List.nil_sublist _) rfl (by kernel_rfl) ?_
      refine kl_sub rfl rfl (by omega) ?_
      refine kl_nil (kq_q ?_)
      refine kt_c 10 14 16 rfl rfl rfl (by kernel_rfl) ?_ ?_ ?_
      ·skip
       refine kl_bs rfl rfl rfl (by decide) (ca rfl (ca rfl ca_nil)) (fun v220 H221 f222 r223 s224 => ?_)
       have h225 : Ints H221 v220 [z86, (Int.tmod ((z86 + (1 : Int)) + z150) ((3 : Int) + z12))] := litInts (xs := [z86, (Int.tmod ((z86 + (1 : Int)) + z150) ((3 : Int) + z12))]) (by simpa using s224)
       refine kl_nil (kq_a (List.nil_sublist _) ?_)
       refine kt_b 14 16 rfl rfl (by kernel_rfl) ?_ ?_
       ·skip
        refine kl_bs rfl rfl rfl (by decide) (ca rfl ca_nil) (fun v226 H227 f228 r229 s230 => ?_)
        have h231 : Ints H227 v226 [(z216 - (1 : Int))] := litInts (xs := [(z216 - (1 : Int))]) (by simpa using s230)
        refine kl_nil (kq_a (List.nil_sublist _) ?_)
        refine kt_b 15 16 rfl rfl (by kernel_rfl) ?_ ?_
        ·skip
         refine kl_bd rfl (cp rfl (cp (Sl.cells (by assumption)) (cp (Sl.cells (by assumption)) cp_nil))) rfl ?_
         refine kl_nil (kq_x rfl ?_)
         refine kt_a 16 rfl (by kernel_rfl) ?_
         refine kl_alloc (cs := [.int .i64 (0 : Int), .slice none 0 0, .slice none 0 0, .int .i64 (0 : Int), .slice none 0 0]) rfl (fun b232 hb233 => ?_)
         refine kl_nil (kq_a (List.nil_sublist _) ?_)
         refine kt_a 17 rfl (by kernel_rfl) ?_
         refine kl_stW (us := [.int .i64 (2 : Int), v220, v226, .int .i64 (0 : Int), .slice none 0 0]) rfl rfl rfl rfl (oc rfl (oc (Sl.oneCell (by assumption)) (oc (Sl.oneCell (by assumption)) (oc rfl (oc rfl oc_nil))))) rfl ?_
         refine kl_chg [sing b232 (.cells [.int .i64 (2 : Int), v220, v226, .int .i64 (0 : Int), .slice none 0 0].toArray 105 (0, 0)), sing br (.cells [vbr, .int .i64 (q214 : Int)].toArray 113 (0, 0)), H68, H18, sing b3 (.cells [v21, v71].toArray 32 (0, 0)), sing b1 (.cells [.slice none 0 0, .slice none 0 0].toArray 32 (0, 0))] rfl ?_
         refine kl_nil (kq_x rfl ?_)
         refine kt_end (by kernel_rfl) ?_
         exact kq_rj (b232, q214, H221, v220, ([z86, (Int.tmod ((z86 + (1 : Int)) + z150) ((3 : Int) + z12))]), H227, v226, ([(z216 - (1 : Int))])) [H221, H227] [sing b232 (.cells [.int .i64 (2 : Int), v220, v226, .int .i64 (0 : Int), .slice none 0 0].toArray 105 (0, 0)), sing br (.cells [vbr, .int .i64 (q214 : Int)].toArray 113 (0, 0)), H68, H18, sing b3 (.cells [v21, v71].toArray 32 (0, 0)), sing b1 (.cells [.slice none 0 0, .slice none 0 0].toArray 32 (0, 0))] rfl rfl ⟨hb233, (by dsimp only; omega), (by assumption), f222, (by dsimp only; first | omega | (simp; done) | (simp; omega)), (by assumption), f228, (by dsimp only; first | omega | (simp; done) | (simp; omega))⟩ (pc 0 rfl (pc 2 rfl (pc 3 rfl (pc 4 rfl (pc 6 rfl (pc 8 rfl pn))))))
        ·skip
         refine kl_alloc (cs := [.int .i64 (0 : Int), .slice none 0 0, .slice none 0 0, .int .i64 (0 : Int), .slice none 0 0]) rfl (fun b234 hb235 => ?_)
         refine kl_nil (kq_a (List.nil_sublist _) ?_)
         refine kt_a 15 rfl (by kernel_rfl) ?_
         refine kl_bd rfl (cp rfl (cp (Sl.cells (by assumption)) (cp (Sl.cells (by assumption)) cp_nil))) rfl ?_
         refine kl_nil (kq_x rfl ?_)
         refine kt_a 17 rfl (by kernel_rfl) ?_
         refine kl_stW (us := [.int .i64 (2 : Int), v220, v226, .int .i64 (0 : Int), .slice none 0 0]) rfl rfl rfl rfl (oc rfl (oc (Sl.oneCell (by assumption)) (oc (Sl.oneCell (by assumption)) (oc rfl (oc rfl oc_nil))))) rfl ?_
         refine kl_chg [sing b234 (.cells [.int .i64 (2 : Int), v220, v226, .int .i64 (0 : Int), .slice none 0 0].toArray 105 (0, 0)), sing br (.cells [vbr, .int .i64 (q214 : Int)].toArray 113 (0, 0)), H68, H18, sing b3 (.cells [v21, v71].toArray 32 (0, 0)), sing b1 (.cells [.slice none 0 0, .slice none 0 0].toArray 32 (0, 0))] rfl ?_
         refine kl_nil (kq_x rfl ?_)
         refine kt_end (by kernel_rfl) ?_
         exact kq_rj (b234, q214, H221, v220, ([z86, (Int.tmod ((z86 + (1 : Int)) + z150) ((3 : Int) + z12))]), H227, v226, ([(z216 - (1 : Int))])) [H221, H227] [sing b234 (.cells [.int .i64 (2 : Int), v220, v226, .int .i64 (0 : Int), .slice none 0 0].toArray 105 (0, 0)), sing br (.cells [vbr, .int .i64 (q214 : Int)].toArray 113 (0, 0)), H68, H18, sing b3 (.cells [v21, v71].toArray 32 (0, 0)), sing b1 (.cells [.slice none 0 0, .slice none 0 0].toArray 32 (0, 0))] rfl rfl ⟨hb235, (by dsimp only; omega), (by assumption), f222, (by dsimp only; first | omega | (simp; done) | (simp; omega)), (by assumption), f228, (by dsimp only; first | omega | (simp; done) | (simp; omega))⟩ (pc 0 rfl (pc 2 rfl (pc 3 rfl (pc 4 rfl (pc 6 rfl (pc 8 rfl pn))))))
       ·skip
        refine kl_alloc (cs := [.int .i64 (0 : Int), .slice none 0 0, .slice none 0 0, .int .i64 (0 : Int), .slice none 0 0]) rfl (fun b236 hb237 => ?_)
        refine kl_nil (kq_a (List.nil_sublist _) ?_)
        refine kt_a 14 rfl (by kernel_rfl) ?_
        refine kl_bs rfl rfl rfl (by decide) (ca rfl ca_nil) (fun v238 H239 f240 r241 s242 => ?_)
        have h243 : Ints H239 v238 [(z216 - (1 : Int))] := litInts (xs := [(z216 - (1 : Int))]) (by simpa using s242)
        refine kl_nil (kq_a (List.nil_sublist _) ?_)
        refine kt_a 15 rfl (by kernel_rfl) ?_
        refine kl_bd rfl (cp rfl (cp (Sl.cells (by assumption)) (cp (Sl.cells (by assumption)) cp_nil))) rfl ?_
        refine kl_nil (kq_x rfl ?_)
        refine kt_a 17 rfl (by kernel_rfl) ?_
        refine kl_stW (us := [.int .i64 (2 : Int), v220, v238, .int .i64 (0 : Int), .slice none 0 0]) rfl rfl rfl rfl (oc rfl (oc (Sl.oneCell (by assumption)) (oc (Sl.oneCell (by assumption)) (oc rfl (oc rfl oc_nil))))) rfl ?_
        refine kl_chg [sing b236 (.cells [.int .i64 (2 : Int), v220, v238, .int .i64 (0 : Int), .slice none 0 0].toArray 105 (0, 0)), sing br (.cells [vbr, .int .i64 (q214 : Int)].toArray 113 (0, 0)), H68, H18, sing b3 (.cells [v21, v71].toArray 32 (0, 0)), sing b1 (.cells [.slice none 0 0, .slice none 0 0].toArray 32 (0, 0))] rfl ?_
        refine kl_nil (kq_x rfl ?_)
        refine kt_end (by kernel_rfl) ?_
        exact kq_rj (b236, q214, H221, v220, ([z86, (Int.tmod ((z86 + (1 : Int)) + z150) ((3 : Int) + z12))]), H239, v238, ([(z216 - (1 : Int))])) [H221, H239] [sing b236 (.cells [.int .i64 (2 : Int), v220, v238, .int .i64 (0 : Int), .slice none 0 0].toArray 105 (0, 0)), sing br (.cells [vbr, .int .i64 (q214 : Int)].toArray 113 (0, 0)), H68, H18, sing b3 (.cells [v21, v71].toArray 32 (0, 0)), sing b1 (.cells [.slice none 0 0, .slice none 0 0].toArray 32 (0, 0))] rfl rfl ⟨hb237, (by dsimp only; omega), (by assumption), f222, (by dsimp only; first | omega | (simp; done) | (simp; omega)), (by assumption), f240, (by dsimp only; first | omega | (simp; done) | (simp; omega))⟩ (pc 0 rfl (pc 2 rfl (pc 3 rfl (pc 4 rfl (pc 6 rfl (pc 8 rfl pn))))))
      ·skip
       refine kl_bs rfl rfl rfl (by decide) (ca rfl ca_nil) (fun v244 H245 f246 r247 s248 => ?_)
       have h249 : Ints H245 v244 [(z216 - (1 : Int))] := litInts (xs := [(z216 - (1 : Int))]) (by simpa using s248)
       refine kl_nil (kq_a (List.nil_sublist _) ?_)
       refine kt_b 10 16 rfl rfl (by kernel_rfl) ?_ ?_
       ·skip
        refine kl_bs rfl rfl rfl (by decide) (ca rfl (ca rfl ca_nil)) (fun v250 H251 f252 r253 s254 => ?_)
        have h255 : Ints H251 v250 [z86, (Int.tmod ((z86 + (1 : Int)) + z150) ((3 : Int) + z12))] := litInts (xs := [z86, (Int.tmod ((z86 + (1 : Int)) + z150) ((3 : Int) + z12))]) (by simpa using s254)
        refine kl_nil (kq_a (List.nil_sublist _) ?_)
        refine kt_b 15 16 rfl rfl (by kernel_rfl) ?_ ?_
        ·skip
         refine kl_bd rfl (cp rfl (cp (Sl.cells (by assumption)) (cp (Sl.cells (by assumption)) cp_nil))) rfl ?_
         refine kl_nil (kq_x rfl ?_)
         refine kt_a 16 rfl (by kernel_rfl) ?_
         refine kl_alloc (cs := [.int .i64 (0 : Int), .slice none 0 0, .slice none 0 0, .int .i64 (0 : Int), .slice none 0 0]) rfl (fun b256 hb257 => ?_)
         refine kl_nil (kq_a (List.nil_sublist _) ?_)
         refine kt_a 17 rfl (by kernel_rfl) ?_
         refine kl_stW (us := [.int .i64 (2 : Int), v250, v244, .int .i64 (0 : Int), .slice none 0 0]) rfl rfl rfl rfl (oc rfl (oc (Sl.oneCell (by assumption)) (oc (Sl.oneCell (by assumption)) (oc rfl (oc rfl oc_nil))))) rfl ?_
         refine kl_chg [sing b256 (.cells [.int .i64 (2 : Int), v250, v244, .int .i64 (0 : Int), .slice none 0 0].toArray 105 (0, 0)), sing br (.cells [vbr, .int .i64 (q214 : Int)].toArray 113 (0, 0)), H68, H18, sing b3 (.cells [v21, v71].toArray 32 (0, 0)), sing b1 (.cells [.slice none 0 0, .slice none 0 0].toArray 32 (0, 0))] rfl ?_
         refine kl_nil (kq_x rfl ?_)
         refine kt_end (by kernel_rfl) ?_
         exact kq_rj (b256, q214, H251, v250, ([z86, (Int.tmod ((z86 + (1 : Int)) + z150) ((3 : Int) + z12))]), H245, v244, ([(z216 - (1 : Int))])) [H251, H245] [sing b256 (.cells [.int .i64 (2 : Int), v250, v244, .int .i64 (0 : Int), .slice none 0 0].toArray 105 (0, 0)), sing br (.cells [vbr, .int .i64 (q214 : Int)].toArray 113 (0, 0)), H68, H18, sing b3 (.cells [v21, v71].toArray 32 (0, 0)), sing b1 (.cells [.slice none 0 0, .slice none 0 0].toArray 32 (0, 0))] rfl rfl ⟨hb257, (by dsimp only; omega), (by assumption), f252, (by dsimp only; first | omega | (simp; done) | (simp; omega)), (by assumption), f246, (by dsimp only; first | omega | (simp; done) | (simp; omega))⟩ (pc 0 rfl (pc 2 rfl (pc 3 rfl (pc 4 rfl (pc 6 rfl (pc 8 rfl pn))))))
        ·skip
         refine kl_alloc (cs := [.int .i64 (0 : Int), .slice none 0 0, .slice none 0 0, .int .i64 (0 : Int), .slice none 0 0]) rfl (fun b258 hb259 => ?_)
         refine kl_nil (kq_a (List.nil_sublist _) ?_)
         refine kt_a 15 rfl (by kernel_rfl) ?_
         refine kl_bd rfl (cp rfl (cp (Sl.cells (by assumption)) (cp (Sl.cells (by assumption)) cp_nil))) rfl ?_
         refine kl_nil (kq_x rfl ?_)
         refine kt_a 17 rfl (by kernel_rfl) ?_
         refine kl_stW (us := [.int .i64 (2 : Int), v250, v244, .int .i64 (0 : Int), .slice none 0 0]) rfl rfl rfl rfl (oc rfl (oc (Sl.oneCell (by assumption)) (oc (Sl.oneCell (by assumption)) (oc rfl (oc rfl oc_nil))))) rfl ?_
         refine kl_chg [sing b258 (.cells [.int .i64 (2 : Int), v250, v244, .int .i64 (0 : Int), .slice none 0 0].toArray 105 (0, 0)), sing br (.cells [vbr, .int .i64 (q214 : Int)].toArray 113 (0, 0)), H68, H18, sing b3 (.cells [v21, v71].toArray 32 (0, 0)), sing b1 (.cells [.slice none 0 0, .slice none 0 0].toArray 32 (0, 0))] rfl ?_
         refine kl_nil (kq_x rfl ?_)
         refine kt_end (by kernel_rfl) ?_
         exact kq_rj (b258, q214, H251, v250, ([z86, (Int.tmod ((z86 + (1 : Int)) + z150) ((3 : Int) + z12))]), H245, v244, ([(z216 - (1 : Int))])) [H251, H245] [sing b258 (.cells [.int .i64 (2 : Int), v250, v244, .int .i64 (0 : Int), .slice none 0 0].toArray 105 (0, 0)), sing br (.cells [vbr, .int .i64 (q214 : Int)].toArray 113 (0, 0)), H68, H18, sing b3 (.cells [v21, v71].toArray 32 (0, 0)), sing b1 (.cells [.slice none 0 0, .slice none 0 0].toArray 32 (0, 0))] rfl rfl ⟨hb259, (by dsimp only; omega), (by assumption), f252, (by dsimp only; first | omega | (simp; done) | (simp; omega)), (by assumption), f246, (by dsimp only; first | omega | (simp; done) | (simp; omega))⟩ (pc 0 rfl (pc 2 rfl (pc 3 rfl (pc 4 rfl (pc 6 rfl (pc 8 rfl pn))))))
       ·skip
        refine kl_alloc (cs := [.int .i64 (0 : Int), .slice none 0 0, .slice none 0 0, .int .i64 (0 : Int), .slice none 0 0]) rfl (fun b260 hb261 => ?_)
        refine kl_nil (kq_a (List.nil_sublist _) ?_)
        refine kt_a 10 rfl (by kernel_rfl) ?_
        refine kl_bs rfl rfl rfl (by decide) (ca rfl (ca rfl ca_nil)) (fun v262 H263 f264 r265 s266 => ?_)
        have h267 : Ints H263 v262 [z86, (Int.tmod ((z86 + (1 : Int)) + z150) ((3 : Int) + z12))] := litInts (xs := [z86, (Int.tmod ((z86 + (1 : Int)) + z150) ((3 : Int) + z12))]) (by simpa using s266)
        refine kl_nil (kq_a (List.nil_sublist _) ?_)
        refine kt_a 15 rfl (by kernel_rfl) ?_
        refine kl_bd rfl (cp rfl (cp (Sl.cells (by assumption)) (cp (Sl.cells (by assumption)) cp_nil))) rfl ?_
        refine kl_nil (kq_x rfl ?_)
        refine kt_a 17 rfl (by kernel_rfl) ?_
        refine kl_stW (us := [.int .i64 (2 : Int), v262, v244, .int .i64 (0 : Int), .slice none 0 0]) rfl rfl rfl rfl (oc rfl (oc (Sl.oneCell (by assumption)) (oc (Sl.oneCell (by assumption)) (oc rfl (oc rfl oc_nil))))) rfl ?_
        refine kl_chg [sing b260 (.cells [.int .i64 (2 : Int), v262, v244, .int .i64 (0 : Int), .slice none 0 0].toArray 105 (0, 0)), sing br (.cells [vbr, .int .i64 (q214 : Int)].toArray 113 (0, 0)), H68, H18, sing b3 (.cells [v21, v71].toArray 32 (0, 0)), sing b1 (.cells [.slice none 0 0, .slice none 0 0].toArray 32 (0, 0))] rfl ?_
        refine kl_nil (kq_x rfl ?_)
        refine kt_end (by kernel_rfl) ?_
        exact kq_rj (b260, q214, H263, v262, ([z86, (Int.tmod ((z86 + (1 : Int)) + z150) ((3 : Int) + z12))]), H245, v244, ([(z216 - (1 : Int))])) [H263, H245] [sing b260 (.cells [.int .i64 (2 : Int), v262, v244, .int .i64 (0 : Int), .slice none 0 0].toArray 105 (0, 0)), sing br (.cells [vbr, .int .i64 (q214 : Int)].toArray 113 (0, 0)), H68, H18, sing b3 (.cells [v21, v71].toArray 32 (0, 0)), sing b1 (.cells [.slice none 0 0, .slice none 0 0].toArray 32 (0, 0))] rfl rfl ⟨hb261, (by dsimp only; omega), (by assumption), f264, (by dsimp only; first | omega | (simp; done) | (simp; omega)), (by assumption), f246, (by dsimp only; first | omega | (simp; done) | (simp; omega))⟩ (pc 0 rfl (pc 2 rfl (pc 3 rfl (pc 4 rfl (pc 6 rfl (pc 8 rfl pn))))))
      ·skip
       refine kl_alloc (cs := [.int .i64 (0 : Int), .slice none 0 0, .slice none 0 0, .int .i64 (0 : Int), .slice none 0 0]) rfl (fun b268 hb269 => ?_)
       refine kl_nil (kq_a (List.nil_sublist _) ?_)
       refine kt_b 10 14 rfl rfl (by kernel_rfl) ?_ ?_
       ·skip
        refine kl_bs rfl rfl rfl (by decide) (ca rfl (ca rfl ca_nil)) (fun v270 H271 f272 r273 s274 => ?_)
        have h275 : Ints H271 v270 [z86, (Int.tmod ((z86 + (1 : Int)) + z150) ((3 : Int) + z12))] := litInts (xs := [z86, (Int.tmod ((z86 + (1 : Int)) + z150) ((3 : Int) + z12))]) (by simpa using s274)
        refine kl_nil (kq_a (List.nil_sublist _) ?_)
        refine kt_a 14 rfl (by kernel_rfl) ?_
        refine kl_bs rfl rfl rfl (by decide) (ca rfl ca_nil) (fun v276 H277 f278 r279 s280 => ?_)
        have h281 : Ints H277 v276 [(z216 - (1 : Int))] := litInts (xs := [(z216 - (1 : Int))]) (by simpa using s280)
        refine kl_nil (kq_a (List.nil_sublist _) ?_)
        refine kt_a 15 rfl (by kernel_rfl) ?_
        refine kl_bd rfl (cp rfl (cp (Sl.cells (by assumption)) (cp (Sl.cells (by assumption)) cp_nil))) rfl ?_
        refine kl_nil (kq_x rfl ?_)
        refine kt_a 17 rfl (by kernel_rfl) ?_
        refine kl_stW (us := [.int .i64 (2 : Int), v270, v276, .int .i64 (0 : Int), .slice none 0 0]) rfl rfl rfl rfl (oc rfl (oc (Sl.oneCell (by assumption)) (oc (Sl.oneCell (by assumption)) (oc rfl (oc rfl oc_nil))))) rfl ?_
        refine kl_chg [sing b268 (.cells [.int .i64 (2 : Int), v270, v276, .int .i64 (0 : Int), .slice none 0 0].toArray 105 (0, 0)), sing br (.cells [vbr, .int .i64 (q214 : Int)].toArray 113 (0, 0)), H68, H18, sing b3 (.cells [v21, v71].toArray 32 (0, 0)), sing b1 (.cells [.slice none 0 0, .slice none 0 0].toArray 32 (0, 0))] rfl ?_
        refine kl_nil (kq_x rfl ?_)
        refine kt_end (by kernel_rfl) ?_
        exact kq_rj (b268, q214, H271, v270, ([z86, (Int.tmod ((z86 + (1 : Int)) + z150) ((3 : Int) + z12))]), H277, v276, ([(z216 - (1 : Int))])) [H271, H277] [sing b268 (.cells [.int .i64 (2 : Int), v270, v276, .int .i64 (0 : Int), .slice none 0 0].toArray 105 (0, 0)), sing br (.cells [vbr, .int .i64 (q214 : Int)].toArray 113 (0, 0)), H68, H18, sing b3 (.cells [v21, v71].toArray 32 (0, 0)), sing b1 (.cells [.slice none 0 0, .slice none 0 0].toArray 32 (0, 0))] rfl rfl ⟨hb269, (by dsimp only; omega), (by assumption), f272, (by dsimp only; first | omega | (simp; done) | (simp; omega)), (by assumption), f278, (by dsimp only; first | omega | (simp; done) | (simp; omega))⟩ (pc 0 rfl (pc 2 rfl (pc 3 rfl (pc 4 rfl (pc 6 rfl (pc 8 rfl pn))))))
       ·skip
        refine kl_bs rfl rfl rfl (by decide) (ca rfl ca_nil) (fun v282 H283 f284 r285 s286 => ?_)
        have h287 : Ints H283 v282 [(z216 - (1 : Int))] := litInts (xs := [(z216 - (1 : Int))]) (by simpa using s286)
        refine kl_nil (kq_a (List.nil_sublist _) ?_)
        refine kt_a 10 rfl (by kernel_rfl) ?_
        refine kl_bs rfl rfl rfl (by decide) (ca rfl (ca rfl ca_nil)) (fun v288 H289 f290 r291 s292 => ?_)
        have h293 : Ints H289 v288 [z86, (Int.tmod ((z86 + (1 : Int)) + z150) ((3 : Int) + z12))] := litInts (xs := [z86, (Int.tmod ((z86 + (1 : Int)) + z150) ((3 : Int) + z12))]) (by simpa using s292)
        refine kl_nil (kq_a (List.nil_sublist _) ?_)
        refine kt_a 15 rfl (by kernel_rfl) ?_
        refine kl_bd rfl (cp rfl (cp (Sl.cells (by assumption)) (cp (Sl.cells (by assumption)) cp_nil))) rfl ?_
        refine kl_nil (kq_x rfl ?_)
        refine kt_a 17 rfl (by kernel_rfl) ?_
        refine kl_stW (us := [.int .i64 (2 : Int), v288, v282, .int .i64 (0 : Int), .slice none 0 0]) rfl rfl rfl rfl (oc rfl (oc (Sl.oneCell (by assumption)) (oc (Sl.oneCell (by assumption)) (oc rfl (oc rfl oc_nil))))) rfl ?_
        refine kl_chg [sing b268 (.cells [.int .i64 (2 : Int), v288, v282, .int .i64 (0 : Int), .slice none 0 0].toArray 105 (0, 0)), sing br (.cells [vbr, .int .i64 (q214 : Int)].toArray 113 (0, 0)), H68, H18, sing b3 (.cells [v21, v71].toArray 32 (0, 0)), sing b1 (.cells [.slice none 0 0, .slice none 0 0].toArray 32 (0, 0))] rfl ?_
        refine kl_nil (kq_x rfl ?_)
        refine kt_end (by kernel_rfl) ?_
        exact kq_rj (b268, q214, H289, v288, ([z86, (Int.tmod ((z86 + (1 : Int)) + z150) ((3 : Int) + z12))]), H283, v282, ([(z216 - (1 : Int))])) [H289, H283] [sing b268 (.cells [.int .i64 (2 : Int), v288, v282, .int .i64 (0 : Int), .slice none 0 0].toArray 105 (0, 0)), sing br (.cells [vbr, .int .i64 (q214 : Int)].toArray 113 (0, 0)), H68, H18, sing b3 (.cells [v21, v71].toArray 32 (0, 0)), sing b1 (.cells [.slice none 0 0, .slice none 0 0].toArray 32 (0, 0))] rfl rfl ⟨hb269, (by dsimp only; omega), (by assumption), f290, (by dsimp only; first | omega | (simp; done) | (simp; omega)), (by assumption), f284, (by dsimp only; first | omega | (simp; done) | (simp; omega))⟩ (pc 0 rfl (pc 2 rfl (pc 3 rfl (pc 4 rfl (pc 6 rfl (pc 8 rfl pn))))))
     ·skip
      refine kl_alloc (cs := [.int .i64 (0 : Int), .slice none 0 0, .slice none 0 0, .int .i64 (0 : Int), .slice none 0 0]) rfl (fun b294 hb295 => ?_)
      refine kl_nil (kq_a (List.nil_sublist _) ?_)
      refine kt_b 10 12 rfl rfl (by kernel_rfl) ?_ ?_
      ·skip
       refine kl_bs rfl rfl rfl (by decide) (ca rfl (ca rfl ca_nil)) (fun v296 H297 f298 r299 s300 => ?_)
       have h301 : Ints H297 v296 [z86, (Int.tmod ((z86 + (1 : Int)) + z150) ((3 : Int) + z12))] := litInts (xs := [z86, (Int.tmod ((z86 + (1 : Int)) + z150) ((3 : Int) + z12))]) (by simpa using s300)
       refine kl_nil (kq_a (List.nil_sublist _) ?_)
       refine kt_a 12 rfl (by kernel_rfl) ?_
       refine kl_callT rfl rfl (pick_ok q148 (3 : Int) (by omega) hr) (fun v302 L1 Ln K306 h303 f304 f305 => ?_)
       obtain ⟨q307, h308, rfl, rfl, z309, rfl, h310⟩ := h303
       refine kl_norm ?_
       refine kl_nil (kq_a (List.nil_sublist _) ?_)
       refine kt_q 13 (List.nil_sublist _) rfl (by kernel_rfl) ?_
       refine kl_sub rfl rfl (by omega) ?_
       refine kl_nil (kq_q ?_)
       refine kt_a 14 rfl (by kernel_rfl) ?_
       refine kl_bs rfl rfl rfl (by decide) (ca rfl ca_nil) (fun v313 H314 f315 r316 s317 => ?_)
       have h318 : Ints H314 v313 [(z309 - (1 : Int))] := litInts (xs := [(z309 - (1 : Int))]) (by simpa using s317)
       refine kl_nil (kq_a (List.nil_sublist _) ?_)
       refine kt_a 15 rfl (by kernel_rfl) ?_
       refine kl_bd rfl (cp rfl (cp (Sl.cells (by assumption)) (cp (Sl.cells (by assumption)) cp_nil))) rfl ?_
       refine kl_nil (kq_x rfl ?_)
       refine kt_a 17 rfl (by kernel_rfl) ?_
       refine kl_stW (us := [.int .i64 (2 : Int), v296, v313, .int .i64 (0 : Int), .slice none 0 0]) rfl rfl rfl rfl (oc rfl (oc (Sl.oneCell (by assumption)) (oc (Sl.oneCell (by assumption)) (oc rfl (oc rfl oc_nil))))) rfl ?_
       refine kl_chg [sing br (.cells [vbr, .int .i64 (q307 : Int)].toArray 113 (0, 0)), sing b294 (.cells [.int .i64 (2 : Int), v296, v313, .int .i64 (0 : Int), .slice none 0 0].toArray 105 (0, 0)), H68, H18, sing b3 (.cells [v21, v71].toArray 32 (0, 0)), sing b1 (.cells [.slice none 0 0, .slice none 0 0].toArray 32 (0, 0))] rfl ?_
       refine kl_nil (kq_x rfl ?_)
       refine kt_end (by kernel_rfl) ?_
       exact kq_rj (b294, q307, H297, v296, ([z86, (Int.tmod ((z86 + (1 : Int)) + z150) ((3 : Int) + z12))]), H314, v313, ([(z309 - (1 : Int))])) [H297, H314] [sing b294 (.cells [.int .i64 (2 : Int), v296, v313, .int .i64 (0 : Int), .slice none 0 0].toArray 105 (0, 0)), sing br (.cells [vbr, .int .i64 (q307 : Int)].toArray 113 (0, 0)), H68, H18, sing b3 (.cells [v21, v71].toArray 32 (0, 0)), sing b1 (.cells [.slice none 0 0, .slice none 0 0].toArray 32 (0, 0))] rfl rfl ⟨hb295, (by dsimp only; omega), (by assumption), f298, (by dsimp only; first | omega | (simp; done) | (simp; omega)), (by assumption), f315, (by dsimp only; first | omega | (simp; done) | (simp; omega))⟩ (pc 0 rfl (pc 2 rfl (pc 3 rfl (pc 4 rfl (pc 6 rfl (pc 8 rfl pn))))))
      ·skip
       refine kl_callT rfl rfl (pick_ok q148 (3 : Int) (by omega) hr) (fun v319 L1 Ln K323 h320 f321 f322 => ?_)
       obtain ⟨q324, h325, rfl, rfl, z326, rfl, h327⟩ := h320
       refine kl_norm ?_
       refine kl_nil (kq_a (List.nil_sublist _) ?_)
       refine kt_q 13 (List.nil_sublist _) rfl (by kernel_rfl) ?_
       refine kl_sub rfl rfl (by omega) ?_
       refine kl_nil (kq_q ?_)
       refine kt_b 10 14 rfl rfl (by kernel_rfl) ?_ ?_
       ·skip
        refine kl_bs rfl rfl rfl (by decide) (ca rfl (ca rfl ca_nil)) (fun v330 H331 f332 r333 s334 => ?_)
        have h335 : Ints H331 v330 [z86, (Int.tmod ((z86 + (1 : Int)) + z150) ((3 : Int) + z12))] := litInts (xs := [z86, (Int.tmod ((z86 + (1 : Int)) + z150) ((3 : Int) + z12))]) (by simpa using s334)
        refine kl_nil (kq_a (List.nil_sublist _) ?_)
        refine kt_a 14 rfl (by kernel_rfl) ?_
        refine kl_bs rfl rfl rfl (by decide) (ca rfl ca_nil) (fun v336 H337 f338 r339 s340 => ?_)
        have h341 : Ints H337 v336 [(z326 - (1 : Int))] := litInts (xs := [(z326 - (1 : Int))]) (by simpa using s340)
        refine kl_nil (kq_a (List.nil_sublist _) ?_)
        refine kt_a 15 rfl (by kernel_rfl) ?_
        refine kl_bd rfl (cp rfl (cp (Sl.cells (by assumption)) (cp (Sl.cells (by assumption)) cp_nil))) rfl ?_
        refine kl_nil (kq_x rfl ?_)
        refine kt_a 17 rfl (by kernel_rfl) ?_
        refine kl_stW (us := [.int .i64 (2 : Int), v330, v336, .int .i64 (0 : Int), .slice none 0 0]) rfl rfl rfl rfl (oc rfl (oc (Sl.oneCell (by assumption)) (oc (Sl.oneCell (by assumption)) (oc rfl (oc rfl oc_nil))))) rfl ?_
        refine kl_chg [sing br (.cells [vbr, .int .i64 (q324 : Int)].toArray 113 (0, 0)), sing b294 (.cells [.int .i64 (2 : Int), v330, v336, .int .i64 (0 : Int), .slice none 0 0].toArray 105 (0, 0)), H68, H18, sing b3 (.cells [v21, v71].toArray 32 (0, 0)), sing b1 (.cells [.slice none 0 0, .slice none 0 0].toArray 32 (0, 0))] rfl ?_
        refine kl_nil (kq_x rfl ?_)
        refine kt_end (by kernel_rfl) ?_
        exact kq_rj (b294, q324, H331, v330, ([z86, (Int.tmod ((z86 + (1 : Int)) + z150) ((3 : Int) + z12))]), H337, v336, ([(z326 - (1 : Int))])) [H331, H337] [sing b294 (.cells [.int .i64 (2 : Int), v330, v336, .int .i64 (0 : Int), .slice none 0 0].toArray 105 (0, 0)), sing br (.cells [vbr, .int .i64 (q324 : Int)].toArray 113 (0, 0)), H68, H18, sing b3 (.cells [v21, v71].toArray 32 (0, 0)), sing b1 (.cells [.slice none 0 0, .slice none 0 0].toArray 32 (0, 0))] rfl rfl ⟨hb295, (by dsimp only; omega), (by assumption), f332, (by dsimp only; first | omega | (simp; done) | (simp; omega)), (by assumption), f338, (by dsimp only; first | omega | (simp; done) | (simp; omega))⟩ (pc 0 rfl (pc 2 rfl (pc 3 rfl (pc 4 rfl (pc 6 rfl (pc 8 rfl pn))))))
       ·skip
        refine kl_bs rfl rfl rfl (by decide) (ca rfl ca_nil) (fun v342 H343 f344 r345 s346 => ?_)
        have h347 : Ints H343 v342 [(z326 - (1 : Int))] := litInts (xs := [(z326 - (1 : Int))]) (by simpa using s346)
        refine kl_nil (kq_a (List.nil_sublist _) ?_)
        refine kt_a 10 rfl (by kernel_rfl) ?_
        refine kl_bs rfl rfl rfl (by decide) (ca rfl (ca rfl ca_nil)) (fun v348 H349 f350 r351 s352 => ?_)
        have h353 : Ints H349 v348 [z86, (Int.tmod ((z86 + (1 : Int)) + z150) ((3 : Int) + z12))] := litInts (xs := [z86, (Int.tmod ((z86 + (1 : Int)) + z150) ((3 : Int) + z12))]) (by simpa using s352)
        refine kl_nil (kq_a (List.nil_sublist _) ?_)
        refine kt_a 15 rfl (by kernel_rfl) ?_
        refine kl_bd rfl (cp rfl (cp (Sl.cells (by assumption)) (cp (Sl.cells (by assumption)) cp_nil))) rfl ?_
        refine kl_nil (kq_x rfl ?_)
        refine kt_a 17 rfl (by kernel_rfl) ?_
        refine kl_stW (us := [.int .i64 (2 : Int), v348, v342, .int .i64 (0 : Int), .slice none 0 0]) rfl rfl rfl rfl (oc rfl (oc (Sl.oneCell (by assumption)) (oc (Sl.oneCell (by assumption)) (oc rfl (oc rfl oc_nil))))) rfl ?_
        refine kl_chg [sing br (.cells [vbr, .int .i64 (q324 : Int)].toArray 113 (0, 0)), sing b294 (.cells [.int .i64 (2 : Int), v348, v342, .int .i64 (0 : Int), .slice none 0 0].toArray 105 (0, 0)), H68, H18, sing b3 (.cells [v21, v71].toArray 32 (0, 0)), sing b1 (.cells [.slice none 0 0, .slice none 0 0].toArray 32 (0, 0))] rfl ?_
        refine kl_nil (kq_x rfl ?_)
        refine kt_end (by kernel_rfl) ?_
        exact kq_rj (b294, q324, H349, v348, ([z86, (Int.tmod ((z86 + (1 : Int)) + z150) ((3 : Int) + z12))]), H343, v342, ([(z326 - (1 : Int))])) [H349, H343] [sing b294 (.cells [.int .i64 (2 : Int), v348, v342, .int .i64 (0 : Int), .slice none 0 0].toArray 105 (0, 0)), sing br (.cells [vbr, .int .i64 (q324 : Int)].toArray 113 (0, 0)), H68, H18, sing b3 (.cells [v21, v71].toArray 32 (0, 0)), sing b1 (.cells [.slice none 0 0, .slice none 0 0].toArray 32 (0, 0))] rfl rfl ⟨hb295, (by dsimp only; omega), (by assumption), f350, (by dsimp only; first | omega | (simp; done) | (simp; omega)), (by assumption), f344, (by dsimp only; first | omega | (simp; done) | (simp; omega))⟩ (pc 0 rfl (pc 2 rfl (pc 3 rfl (pc 4 rfl (pc 6 rfl (pc 8 rfl pn))))))
    ·skip
     refine kl_alloc (cs := [.int .i64 (0 : Int), .slice none 0 0, .slice none 0 0, .int .i64 (0 : Int), .slice none 0 0]) rfl (fun b354 hb355 => ?_)
     refine kl_nil (kq_a (List.nil_sublist _) ?_)
     refine kt_a 6 rfl (by kernel_rfl) ?_
     refine kl_callT rfl rfl (pick_ok q84 (((3 : Int) + z12) - (1 : Int)) (by omega) hr) (fun v356 L1 Ln K360 h357 f358 f359 => ?_)
     obtain ⟨q361, h362, rfl, rfl, z363, rfl, h364⟩ := h357
     refine kl_norm ?_
     refine kl_nil (kq_a (List.nil_sublist _) ?_)
     refine kt_q 7 (List.nil_sublist _) rfl (by kernel_rfl) ?_
     refine kl_add rfl rfl (by omega) ?_
     refine kl_nil (kq_q ?_)
     refine kt_q 9 (List.nil_sublist _) rfl (by kernel_rfl) ?_
     have h367 := tmod_in (m := ((z86 + (1 : Int)) + z363)) (k := ((3 : Int) + z12)) (by omega) (by omega)
     refine kl_rem rfl rfl (by omega) ?_
     refine kl_nil (kq_q ?_)
     refine kt_b 10 12 rfl rfl (by kernel_rfl) ?_ ?_
     ·skip
      refine kl_bs rfl rfl rfl (by decide) (ca rfl (ca rfl ca_nil)) (fun v368 H369 f370 r371 s372 => ?_)
      have h373 : Ints H369 v368 [z86, (Int.tmod ((z86 + (1 : Int)) + z363) ((3 : Int) + z12))] := litInts (xs := [z86, (Int.tmod ((z86 + (1 : Int)) + z363) ((3 : Int) + z12))]) (by simpa using s372)
      refine kl_nil (kq_a (List.nil_sublist _) ?_)
      refine kt_a 12 rfl (by kernel_rfl) ?_
      refine kl_callT rfl rfl (pick_ok q361 (3 : Int) (by omega) hr) (fun v374 L1 Ln K378 h375 f376 f377 => ?_)
      obtain ⟨q379, h380, rfl, rfl, z381, rfl, h382⟩ := h375
      refine kl_norm ?_
      refine kl_nil (kq_a (List.nil_sublist _) ?_)
      refine kt_q 13 (List.nil_sublist _) rfl (by kernel_rfl) ?_
      refine kl_sub rfl rfl (by omega) ?_
      refine kl_nil (kq_q ?_)
      refine kt_a 14 rfl (by kernel_rfl) ?_
      refine kl_bs rfl rfl rfl (by decide) (ca rfl ca_nil) (fun v385 H386 f387 r388 s389 => ?_)
      have h390 : Ints H386 v385 [(z381 - (1 : Int))] := litInts (xs := [(z381 - (1 : Int))]) (by simpa using s389)
      refine kl_nil (kq_a (List.nil_sublist _) ?_)
      refine kt_a 15 rfl (by kernel_rfl) ?_
      refine kl_bd rfl (cp rfl (cp (Sl.cells (by assumption)) (cp (Sl.cells (by assumption)) cp_nil))) rfl ?_
      refine kl_nil (kq_x rfl ?_)
      refine kt_a 17 rfl (by kernel_rfl) ?_
      refine kl_stW (us := [.int .i64 (2 : Int), v368, v385, .int .i64 (0 : Int), .slice none 0 0]) rfl rfl rfl rfl (oc rfl (oc (Sl.oneCell (by assumption)) (oc (Sl.oneCell (by assumption)) (oc rfl (oc rfl oc_nil))))) rfl ?_
      refine kl_chg [sing br (.cells [vbr, .int .i64 (q379 : Int)].toArray 113 (0, 0)), sing b354 (.cells [.int .i64 (2 : Int), v368, v385, .int .i64 (0 : Int), .slice none 0 0].toArray 105 (0, 0)), H68, H18, sing b3 (.cells [v21, v71].toArray 32 (0, 0)), sing b1 (.cells [.slice none 0 0, .slice none 0 0].toArray 32 (0, 0))] rfl ?_
      refine kl_nil (kq_x rfl ?_)
      refine kt_end (by kernel_rfl) ?_
      exact kq_rj (b354, q379, H369, v368, ([z86, (Int.tmod ((z86 + (1 : Int)) + z363) ((3 : Int) + z12))]), H386, v385, ([(z381 - (1 : Int))])) [H369, H386] [sing b354 (.cells [.int .i64 (2 : Int), v368, v385, .int .i64 (0 : Int), .slice none 0 0].toArray 105 (0, 0)), sing br (.cells [vbr, .int .i64 (q379 : Int)].toArray 113 (0, 0)), H68, H18, sing b3 (.cells [v21, v71].toArray 32 (0, 0)), sing b1 (.cells [.slice none 0 0, .slice none 0 0].toArray 32 (0, 0))] rfl rfl ⟨hb355, (by dsimp only; omega), (by assumption), f370, (by dsimp only; first | omega | (simp; done) | (simp; omega)), (by assumption), f387, (by dsimp only; first | omega | (simp; done) | (simp; omega))⟩ (pc 0 rfl (pc 2 rfl (pc 3 rfl (pc 4 rfl (pc 6 rfl (pc 8 rfl pn))))))
     ·skip
      refine kl_callT rfl rfl (pick_ok q361 (3 : Int) (by omega) hr) (fun v391 L1 Ln K395 h392 f393 f394 => ?_)
      obtain ⟨q396, h397, rfl, rfl, z398, rfl, h399⟩ := h392
      refine kl_norm ?_
      refine kl_nil (kq_a (List.nil_sublist _) ?_)
      refine kt_q 13 (List.nil_sublist _) rfl (by kernel_rfl) ?_
      refine kl_sub rfl rfl (by omega) ?_
      refine kl_nil (kq_q ?_)
      refine kt_b 10 14 rfl rfl (by kernel_rfl) ?_ ?_
      ·skip
       refine kl_bs rfl rfl rfl (by decide) (ca rfl (ca rfl ca_nil)) (fun v402 H403 f404 r405 s406 => ?_)
       have h407 : Ints H403 v402 [z86, (Int.tmod ((z86 + (1 : Int)) + z363) ((3 : Int) + z12))] := litInts (xs := [z86, (Int.tmod ((z86 + (1 : Int)) + z363) ((3 : Int) + z12))]) (by simpa using s406)
       refine kl_nil (kq_a (List.nil_sublist _) ?_)
       refine kt_a 14 rfl (by kernel_rfl) ?_
       refine kl_bs rfl rfl rfl (by decide) (ca rfl ca_nil) (fun v408 H409 f410 r411 s412 => ?_)
       have h413 : Ints H409 v408 [(z398 - (1 : Int))] := litInts (xs := [(z398 - (1 : Int))]) (by simpa using s412)
       refine kl_nil (kq_a (List.nil_sublist _) ?_)
       refine kt_a 15 rfl (by kernel_rfl) ?_
       refine kl_bd rfl (cp rfl (cp (Sl.cells (by assumption)) (cp (Sl.cells (by assumption)) cp_nil))) rfl ?_
       refine kl_nil (kq_x rfl ?_)
       refine kt_a 17 rfl (by kernel_rfl) ?_
       refine kl_stW (us := [.int .i64 (2 : Int), v402, v408, .int .i64 (0 : Int), .slice none 0 0]) rfl rfl rfl rfl (oc rfl (oc (Sl.oneCell (by assumption)) (oc (Sl.oneCell (by assumption)) (oc rfl (oc rfl oc_nil))))) rfl ?_
       refine kl_chg [sing br (.cells [vbr, .int .i64 (q396 : Int)].toArray 113 (0, 0)), sing b354 (.cells [.int .i64 (2 : Int), v402, v408, .int .i64 (0 : Int), .slice none 0 0].toArray 105 (0, 0)), H68, H18, sing b3 (.cells [v21, v71].toArray 32 (0, 0)), sing b1 (.cells [.slice none 0 0, .slice none 0 0].toArray 32 (0, 0))] rfl ?_
       refine kl_nil (kq_x rfl ?_)
       refine kt_end (by kernel_rfl) ?_
       exact kq_rj (b354, q396, H403, v402, ([z86, (Int.tmod ((z86 + (1 : Int)) + z363) ((3 : Int) + z12))]), H409, v408, ([(z398 - (1 : Int))])) [H403, H409] [sing b354 (.cells [.int .i64 (2 : Int), v402, v408, .int .i64 (0 : Int), .slice none 0 0].toArray 105 (0, 0)), sing br (.cells [vbr, .int .i64 (q396 : Int)].toArray 113 (0, 0)), H68, H18, sing b3 (.cells [v21, v71].toArray 32 (0, 0)), sing b1 (.cells [.slice none 0 0, .slice none 0 0].toArray 32 (0, 0))] rfl rfl ⟨hb355, (by dsimp only; omega), (by assumption), f404, (by dsimp only; first | omega | (simp; done) | (simp; omega)), (by assumption), f410, (by dsimp only; first | omega | (simp; done) | (simp; omega))⟩ (pc 0 rfl (pc 2 rfl (pc 3 rfl (pc 4 rfl (pc 6 rfl (pc 8 rfl pn))))))
      ·skip
       refine kl_bs rfl rfl rfl (by decide) (ca rfl ca_nil) (fun v414 H415 f416 r417 s418 => ?_)
       have h419 : Ints H415 v414 [(z398 - (1 : Int))] := litInts (xs := [(z398 - (1 : Int))]) (by simpa using s418)
       refine kl_nil (kq_a (List.nil_sublist _) ?_)
       refine kt_a 10 rfl (by kernel_rfl) ?_
       refine kl_bs rfl rfl rfl (by decide) (ca rfl (ca rfl ca_nil)) (fun v420 H421 f422 r423 s424 => ?_)
       have h425 : Ints H421 v420 [z86, (Int.tmod ((z86 + (1 : Int)) + z363) ((3 : Int) + z12))] := litInts (xs := [z86, (Int.tmod ((z86 + (1 : Int)) + z363) ((3 : Int) + z12))]) (by simpa using s424)
       refine kl_nil (kq_a (List.nil_sublist _) ?_)
       refine kt_a 15 rfl (by kernel_rfl) ?_
       refine kl_bd rfl (cp rfl (cp (Sl.cells (by assumption)) (cp (Sl.cells (by assumption)) cp_nil))) rfl ?_
       refine kl_nil (kq_x rfl ?_)
       refine kt_a 17 rfl (by kernel_rfl) ?_
       refine kl_stW (us := [.int .i64 (2 : Int), v420, v414, .int .i64 (0 : Int), .slice none 0 0]) rfl rfl rfl rfl (oc rfl (oc (Sl.oneCell (by assumption)) (oc (Sl.oneCell (by assumption)) (oc rfl (oc rfl oc_nil))))) rfl ?_
       refine kl_chg [sing br (.cells [vbr, .int .i64 (q396 : Int)].toArray 113 (0, 0)), sing b354 (.cells [.int .i64 (2 : Int), v420, v414, .int .i64 (0 : Int), .slice none 0 0].toArray 105 (0, 0)), H68, H18, sing b3 (.cells [v21, v71].toArray 32 (0, 0)), sing b1 (.cells [.slice none 0 0, .slice none 0 0].toArray 32 (0, 0))] rfl ?_
       refine kl_nil (kq_x rfl ?_)
       refine kt_end (by kernel_rfl) ?_
       exact kq_rj (b354, q396, H421, v420, ([z86, (Int.tmod ((z86 + (1 : Int)) + z363) ((3 : Int) + z12))]), H415, v414, ([(z398 - (1 : Int))])) [H421, H415] [sing b354 (.cells [.int .i64 (2 : Int), v420, v414, .int .i64 (0 : Int), .slice none 0 0].toArray 105 (0, 0)), sing br (.cells [vbr, .int .i64 (q396 : Int)].toArray 113 (0, 0)), H68, H18, sing b3 (.cells [v21, v71].toArray 32 (0, 0)), sing b1 (.cells [.slice none 0 0, .slice none 0 0].toArray 32 (0, 0))] rfl rfl ⟨hb355, (by dsimp only; omega), (by assumption), f422, (by dsimp only; first | omega | (simp; done) | (simp; omega)), (by assumption), f416, (by dsimp only; first | omega | (simp; done) | (simp; omega))⟩ (pc 0 rfl (pc 2 rfl (pc 3 rfl (pc 4 rfl (pc 6 rfl (pc 8 rfl pn))))))
   ·skip
    rintro ⟨b127, q129, H131, v132, x133, H137, v138, x139⟩ hJ426
    obtain ⟨h128, h130, h134, h135, h136, h140, h141, h142⟩ : B.heap.size ≤ b127 ∧ q129 ≤ q84 + 2 ∧ Ints H131 v132 x133 ∧ Fr B H131 ∧ x133.length = 2 ∧ Ints H137 v138 x139 ∧ Fr B H137 ∧ x139.length = 1 := hJ426
    change KQ _ ([H131, H137] ++ _) [sing b127 (.cells [.int .i64 (2 : Int), v132, v138, .int .i64 (0 : Int), .slice none 0 0].toArray 105 (0, 0)), sing br (.cells [vbr, .int .i64 (q129 : Int)].toArray 113 (0, 0)), H68, H18, sing b3 (.cells [v21, v71].toArray 32 (0, 0)), sing b1 (.cells [.slice none 0 0, .slice none 0 0].toArray 32 (0, 0))] [(0, .pointer (some ⟨br, 0, none⟩)), (2, .pointer (some ⟨b1, 0, none⟩)), (3, .pointer (some ⟨b3, 0, none⟩)), (4, .int .i64 ((3 : Int) + z12)), (6, .int .i64 k), (8, .pointer (some ⟨b127, 0, none⟩))] _
    refine kq_normI ?_
    refine kq_code ?_
    refine kc_seq ?_
    refine kc_seq (kc_region ?_)
    refine kl_mv rfl ?_
    refine kl_callT rfl rfl (pick_ok q129 (3 : Int) (by omega) hr) (fun v427 L1 Ln K431 h428 f429 f430 => ?_)
    obtain ⟨q432, h433, rfl, rfl, z434, rfl, h435⟩ := h428
    refine kl_norm ?_
    refine kl_eql rfl rfl ?_
    refine kl_nil (kq_code ?_)
    refine kc_if rfl (fun c438 => ?_) (fun c438 => ?_)
    ·skip
     refine kc_region ?_
     refine kl_mv rfl ?_
     refine kl_mv rfl ?_
     refine kl_callT rfl rfl (randomConstraint_ok q432 ((3 : Int) + z12) (by first | assumption | omega) (by omega) hr) (fun v439 L1 Ln K443 h440 f441 f442 => ?_)
     obtain ⟨q444, h445, rfl, z446, rfl, h450, h447⟩ := h440
     obtain ⟨_, rfl, h454⟩ := h450
     have h454' := h454
     obtain ⟨u451, u452, u453, rfl, h455, h456, h457⟩ := h454
     refine kl_norm ?_
     refine kl_stW (us := [.int .i64 z446.kind, u451, u452, .int .i64 z446.bound, u453]) rfl rfl rfl rfl (oc rfl (oc (Sl.oneCell (by assumption)) (oc (Sl.oneCell (by assumption)) (oc rfl (oc (Sl.oneCell (by assumption)) oc_nil))))) rfl ?_
     refine kl_chg [sing br (.cells [vbr, .int .i64 (q444 : Int)].toArray 113 (0, 0)), sing b127 (.cells [.int .i64 z446.kind, u451, u452, .int .i64 z446.bound, u453].toArray 105 (0, 0)), H68, H18, sing b3 (.cells [v21, v71].toArray 32 (0, 0)), sing b1 (.cells [.slice none 0 0, .slice none 0 0].toArray 32 (0, 0))] rfl ?_
     refine kl_nil (kq_code ?_)
     refine kc_region ?_
     refine kl_fdV rfl ?_
     refine kl_ldB rfl rfl ?_
     refine kl_ldW rfl rfl ?_
     refine kl_bsK rfl (fun v458 H459 f460 r461 => ?_)
     refine kl_cmp K72 K443 (fun c462 => ?_)
     have o463 := OwnL.mono (K' := orHp K72 K443) o69 orL
     refine kl_cmp (orHp K72 K443) K443 (fun c464 => ?_)
     have o465 := OwnL.mono (K' := orHp (orHp K72 K443) K443) o463 orL
     refine kl_cmp (orHp (orHp K72 K443) K443) K443 (fun c466 => ?_)
     have o467 := OwnL.mono (K' := orHp (orHp (orHp K72 K443) K443) K443) o465 orL
     refine kl_apL z446 rfl rfl o467 r461 ⟨_, _, _, rfl, (Sl.mono (by assumption) (fun b o h => orL b o (orL b o (orC c462 b o h))) (fun _ _ h => h)), (Sl.mono (by assumption) (fun b o h => orL b o (orC c464 b o h)) (fun _ _ h => h)), (Rows.mono' (by assumption) (fun b o h => orC c466 b o h))⟩ (oc rfl (oc (Sl.oneCell (by assumption)) (oc (Sl.oneCell (by assumption)) (oc rfl (oc (Sl.oneCell (by assumption)) oc_nil))))) (by omega) (by decide) (fun v468 H469 o470 f471 => ?_)
     have f472 := f471 B f70 (Nat.le_refl _)
     refine kl_fdV rfl ?_
     refine kl_stB rfl rfl rfl (OwnL.oneCell (by assumption)) (OwnL.cells (by assumption)) ?_
     refine kl_chg [sing br (.cells [vbr, .int .i64 (q444 : Int)].toArray 113 (0, 0)), sing b127 (.cells [.int .i64 z446.kind, u451, u452, .int .i64 z446.bound, u453].toArray 105 (0, 0)), H469, H18, sing b3 (.cells [v21, v468].toArray 32 (0, 0)), sing b1 (.cells [.slice none 0 0, .slice none 0 0].toArray 32 (0, 0))] rfl ?_
     refine kl_nil (kq_code ?_)
     refine kc_region ?_
     refine kl_mv rfl ?_
     refine kl_sub rfl rfl (by omega) ?_
     refine kl_as rfl ?_
     refine kl_nil ?_
     refine kq_take [H469, sing br (.cells [vbr, .int .i64 (q444 : Int)].toArray 113 (0, 0)), H18, sing b3 (.cells [v21, v468].toArray 32 (0, 0)), sing b1 (.cells [.slice none 0 0, .slice none 0 0].toArray 32 (0, 0))] ?_
     refine kq_roundK ((k - (1 : Int)), (cs ++ [z446]), v468, H469, (orHp (orHp (orHp K72 K443) K443) K443), q444) (by (dsimp only; omega)) (⟨⟨by dsimp only; omega, by dsimp only; omega, by simp; omega, all_snoc hi67.2.2.2 (by first | assumption | exact (by constructor <;> dsimp only <;> first | (simp; done) | omega | exact all_nil))⟩, (fr_or (fr_or (fr_or f73 f442) f442) f442), o470, f472, (by first | omega | (dsimp only; omega))⟩) (pc 6 rfl pn) (pc 0 rfl (pc 2 rfl (pc 3 rfl (pc 4 rfl pn)))) rfl (List.Sublist.refl _)
    ·skip
     refine kc_skipQ ?_
     refine kq_code ?_
     refine kc_region ?_
     refine kl_fdV rfl ?_
     refine kl_ldB rfl rfl ?_
     refine kl_ldW rfl rfl ?_
     refine kl_bsK rfl (fun v473 H474 f475 r476 => ?_)
     refine kl_cmp K72 H131 (fun c477 => ?_)
     have o478 := OwnL.mono (K' := orHp K72 H131) o69 orL
     refine kl_cmp (orHp K72 H131) H137 (fun c479 => ?_)
     have o480 := OwnL.mono (K' := orHp (orHp K72 H131) H137) o478 orL
     refine kl_apL ⟨(2 : Int), x133, x139, (0 : Int), []⟩ rfl rfl o480 r476 ⟨_, _, _, rfl, (Sl.mono (by assumption) (fun b o h => orL b o (orC c477 b o h)) (fun _ _ h => h)), (Sl.mono (by assumption) (fun b o h => orC c479 b o h) (fun _ _ h => h)), Sl.nil⟩ (oc rfl (oc (Sl.oneCell (by assumption)) (oc (Sl.oneCell (by assumption)) (oc rfl (oc rfl oc_nil))))) (by omega) (by decide) (fun v481 H482 o483 f484 => ?_)
     have f485 := f484 B f70 (Nat.le_refl _)
     refine kl_fdV rfl ?_
     refine kl_stB rfl rfl rfl (OwnL.oneCell (by assumption)) (OwnL.cells (by assumption)) ?_
     refine kl_chg [sing br (.cells [vbr, .int .i64 (q432 : Int)].toArray 113 (0, 0)), sing b127 (.cells [.int .i64 (2 : Int), v132, v138, .int .i64 (0 : Int), .slice none 0 0].toArray 105 (0, 0)), H482, H18, sing b3 (.cells [v21, v481].toArray 32 (0, 0)), sing b1 (.cells [.slice none 0 0, .slice none 0 0].toArray 32 (0, 0))] rfl ?_
     refine kl_nil (kq_code ?_)
     refine kc_region ?_
     refine kl_mv rfl ?_
     refine kl_sub rfl rfl (by omega) ?_
     refine kl_as rfl ?_
     refine kl_nil ?_
     refine kq_take [H482, sing br (.cells [vbr, .int .i64 (q432 : Int)].toArray 113 (0, 0)), H18, sing b3 (.cells [v21, v481].toArray 32 (0, 0)), sing b1 (.cells [.slice none 0 0, .slice none 0 0].toArray 32 (0, 0))] ?_
     refine kq_roundK ((k - (1 : Int)), (cs ++ [⟨(2 : Int), x133, x139, (0 : Int), []⟩]), v481, H482, (orHp (orHp K72 H131) H137), q432) (by (dsimp only; omega)) (⟨⟨by dsimp only; omega, by dsimp only; omega, by simp; omega, all_snoc hi67.2.2.2 (by first | assumption | exact (by constructor <;> dsimp only <;> first | (simp; done) | omega | exact all_nil))⟩, (fr_or (fr_or f73 h135) h141), o483, f485, (by first | omega | (dsimp only; omega))⟩) (pc 6 rfl pn) (pc 0 rfl (pc 2 rfl (pc 3 rfl (pc 4 rfl pn)))) rfl (List.Sublist.refl _)
  ·skip
   refine kc_exit ?_
   refine kq_code ?_
   refine kc_seq (kc_region ?_)
   refine kl_ldW rfl rfl ?_
   refine kl_stW (us := [v21, v71]) rfl rfl rfl rfl (oc (OwnL.oneCell (by assumption)) (oc (OwnL.oneCell (by assumption)) oc_nil)) rfl ?_
   refine kl_chg [H68, sing br (.cells [vbr, .int .i64 (q75 : Int)].toArray 113 (0, 0)), H18, sing b3 (.cells [v21, v71].toArray 32 (0, 0)), sing b1 (.cells [v21, v71].toArray 32 (0, 0))] rfl ?_
   refine kl_nil (kq_code ?_)
   refine kc_ret ?_
   exact kq_retTC rfl rfl rfl [sing br (.cells [vbr, .int .i64 (q75 : Int)].toArray 113 (0, 0))] [H18, H68] K72 (frc f20 (fr1 f70)) f73 ⟨q75, by omega, rfl, H18, H68, _, _, (⟨ds, cs⟩ : Mod), rfl, rfl, o19, o69, by (constructor <;> dsimp only <;> first | omega | assumption | exact all_mono (by assumption) | (simp; done) | (simp only [List.length_append, List.length_cons, List.length_nil]; omega) | exact all_snoc (all_mono hi17.2.2.2) (by constructor <;> dsimp only <;> first | (simp; done) | omega | exact all_nil))⟩
theorem searchModel_ok {br : Nat} {vbr : Value} {Hr : Hp} {bsr : List Int} (pr : Nat) (hp : pr + (900) ≤ 1000000) (hr : Bytes Hr vbr bsr) : SpecT Tryz.prog 71 [.pointer (some ⟨br, 0, none⟩)] [sing br (.cells [vbr, .int .i64 (pr : Int)].toArray 113 (0, 0))] [Hr] (fun vq L1 Ln Kq => ∃ q : Nat, q ≤ pr + (900) ∧ L1 = [sing br (.cells [vbr, .int .i64 (q : Int)].toArray 113 (0, 0))] ∧ ∃ (Hq Mq : Hp) (va vc : Value) (mq : Mod), vq = .agg #[va, vc] ∧ Ln = [Hq, Mq] ∧ OwnL 3 1 Hq noHp IntV va mq.doms ∧ OwnL 105 5 Mq Kq ConV vc mq.cons ∧ ModSm 100 mq) := by
 refine specT_of Tryz.func71 rfl rfl rfl (fun B => ?_)
 refine kc_seq (kc_region ?_)
 refine kl_alloc (cs := [.slice none 0 0, .slice none 0 0]) rfl (fun b1 hb2 => ?_)
 refine kl_nil (kq_code ?_)
 refine kc_seq ?_
 refine kc_seq (kc_region ?_)
 refine kl_mv rfl ?_
 refine kl_callT rfl rfl (pick_ok pr (5 : Int) (by omega) hr) (fun v3 L1 Ln K7 h4 f5 f6 => ?_)
 obtain ⟨q8, h9, rfl, rfl, z10, rfl, h11⟩ := h4
 refine kl_norm ?_
 refine kl_nil (kq_code ?_)
 refine kc_block ?_
 refine kc_seq (kc_region ?_)
 refine kl_eql rfl rfl ?_
 refine kl_as rfl ?_
 refine kl_nil (kq_code ?_)
 refine kc_if rfl (fun c14 => ?_) (fun c14 => ?_)
 ·skip
  refine kc_seq (kc_region ?_)
  refine kl_mv rfl ?_
  refine kl_callT rfl rfl (anyModel_ok q8 (by omega) hr) (fun v15 L1 Ln K19 h16 f17 f18 => ?_)
  obtain ⟨q20, h21, rfl, H24, M26, v27, v28, z22, rfl, rfl, o25, o29, h23⟩ := h16
  have f30 := f17 _ (.head _)
  have f31 := f17 _ (.tail _ (.head _))
  refine kl_norm ?_
  refine kl_stW (us := [v27, v28]) rfl rfl rfl rfl (oc (OwnL.oneCell (by assumption)) (oc (OwnL.oneCell (by assumption)) oc_nil)) rfl ?_
  refine kl_chg [sing br (.cells [vbr, .int .i64 (q20 : Int)].toArray 113 (0, 0)), H24, M26, sing b1 (.cells [v27, v28].toArray 32 (0, 0))] rfl ?_
  refine kl_nil (kq_code ?_)
  refine kc_ret ?_
  exact kq_retTC rfl rfl rfl [sing br (.cells [vbr, .int .i64 (q20 : Int)].toArray 113 (0, 0))] [H24, M26] K19 (frc f30 (fr1 f31)) f18 ⟨q20, by omega, rfl, H24, M26, _, _, (⟨z22.doms, z22.cons⟩ : Mod), rfl, rfl, o25, o29, by first | assumption | trivial⟩
 ·skip
  refine kc_seq (kc_region ?_)
  refine kl_eql rfl rfl ?_
  refine kl_as rfl ?_
  refine kl_nil (kq_code ?_)
  refine kc_if rfl (fun c32 => ?_) (fun c32 => ?_)
  ·skip
   refine kc_seq (kc_region ?_)
   refine kl_mv rfl ?_
   refine kl_callT rfl rfl (hardModel_ok q8 (by omega) hr) (fun v33 L1 Ln K37 h34 f35 f36 => ?_)
   obtain ⟨q38, h39, rfl, H42, M44, v45, v46, z40, rfl, rfl, o43, o47, h41⟩ := h34
   have f48 := f35 _ (.head _)
   have f49 := f35 _ (.tail _ (.head _))
   refine kl_norm ?_
   refine kl_stW (us := [v45, v46]) rfl rfl rfl rfl (oc (OwnL.oneCell (by assumption)) (oc (OwnL.oneCell (by assumption)) oc_nil)) rfl ?_
   refine kl_chg [sing br (.cells [vbr, .int .i64 (q38 : Int)].toArray 113 (0, 0)), H42, M44, sing b1 (.cells [v45, v46].toArray 32 (0, 0))] rfl ?_
   refine kl_nil (kq_code ?_)
   refine kc_ret ?_
   exact kq_retTC rfl rfl rfl [sing br (.cells [vbr, .int .i64 (q38 : Int)].toArray 113 (0, 0))] [H42, M44] K37 (frc f48 (fr1 f49)) f36 ⟨q38, by omega, rfl, H42, M44, _, _, (⟨z40.doms, z40.cons⟩ : Mod), rfl, rfl, o43, o47, by first | assumption | trivial⟩
  ·skip
   refine kc_skipQ ?_
   refine kq_code ?_
   refine kc_seq (kc_region ?_)
   refine kl_mv rfl ?_
   refine kl_callT rfl rfl (tightModel_ok q8 (by omega) hr) (fun v50 L1 Ln K54 h51 f52 f53 => ?_)
   obtain ⟨q55, h56, rfl, H59, M61, v62, v63, z57, rfl, rfl, o60, o64, h58⟩ := h51
   have f65 := f52 _ (.head _)
   have f66 := f52 _ (.tail _ (.head _))
   refine kl_norm ?_
   refine kl_stW (us := [v62, v63]) rfl rfl rfl rfl (oc (OwnL.oneCell (by assumption)) (oc (OwnL.oneCell (by assumption)) oc_nil)) rfl ?_
   refine kl_chg [sing br (.cells [vbr, .int .i64 (q55 : Int)].toArray 113 (0, 0)), H59, M61, sing b1 (.cells [v62, v63].toArray 32 (0, 0))] rfl ?_
   refine kl_nil (kq_code ?_)
   refine kc_ret ?_
   exact kq_retTC rfl rfl rfl [sing br (.cells [vbr, .int .i64 (q55 : Int)].toArray 113 (0, 0))] [H59, M61] K54 (frc f65 (fr1 f66)) f53 ⟨q55, by omega, rfl, H59, M61, _, _, (⟨z57.doms, z57.cons⟩ : Mod), rfl, rfl, o60, o64, by first | assumption | trivial⟩
end Go.Proofs.YtbbphbihgikmdaaGreat
