/- Walks of functions of the program: each returns what the plain function gives. Conditions: those that each statement names. -/
import Derived.Test.YtiilanckbocifaaDoorWvalid
import Derived.Test.YtiilanckbocifaaDoorPure
namespace Go.Proofs.YtiilanckbocifaaDoor
open Go
set_option linter.unusedSimpArgs false
set_option linter.unusedVariables false
theorem has_ok (m : Int) (i : Int) (h0 : 0 ≤ i) : SpecP Tryd.prog 36 [.int .i64 m, .int .i64 i] [] (.bool (hasB m i)) := by
 refine spec_of Tryd.func36 rfl rfl rfl (fun B => ?_)
 refine kc_seq (kc_region (kl_as rfl (kl_nil (kq_code (kc_seq (kc_region (kl_mv rfl (kl_mv rfl (kl_shr rfl rfl (by omega) ?_)))))))))
 refine kl_and rfl rfl ?_
 refine kl_eql rfl rfl ?_
 refine kl_as rfl (kl_nil (kq_code (kc_ret (kq_retP rfl rfl (congrArg Value.bool ?_)))))
 rfl
theorem varsIn_ok {Hmd : Hp} {vmd : Value} {Hmc : Hp} {vmc : Value} {Hvars : Hp} {vvars : Value} (m : Mod) (vars : List Int) (hmd : Ints Hmd vmd m.doms) (hmc : Cons Hmc vmc m.cons) (hvars : Ints Hvars vvars vars) : SpecP Tryd.prog 42 [.agg #[vmd, vmc], vvars] [Hmd, Hmc, Hvars] (.bool (varsInB m vars)) := by
 refine spec_of Tryd.func42 rfl rfl rfl (fun B => ?_)
 refine kc_seq (kc_region (kl_box rfl rfl (fun p1 H2 f3 a4 => ?_)))
 refine kl_as rfl (kl_nil (kq_code (kc_seq (kc_region (kl_ldS rfl (by assumption) rfl ?_)))))
 refine kl_callP rfl rfl (validMod_ok m (by assumption) (by assumption)) ?_
 refine kl_mv rfl (kl_join 7 14 (.bool ((validModB m) && (allInB vars (0 : Int) ((m.doms.length : Int) - (1 : Int))))) (pc 4 rfl (pc 7 rfl pn)) (fun J9 => ?_) ?_)
 ·rcases Bool.eq_false_or_eq_true (validModB m) with g5 | g5
  ·skip
   have g5p := g5
   try simp only [Bool.not_eq_true', Bool.not_eq_false', decide_eq_true_eq, decide_eq_false_iff_not, Bool.and_eq_true, Bool.or_eq_false_iff, withinB_iff] at g5p
   refine kl_gT rfl rfl g5 (kl_mv rfl (kl_gT rfl rfl g5 (kl_fd rfl (by assumption) (fun p6 a7 => ?_))))
   refine kl_gT rfl rfl g5 (kl_ld rfl (by assumption) (kl_gT rfl rfl g5 (kl_len rfl (by assumption) (fun l8 => ?_))))
   refine kl_gT rfl rfl g5 (kl_sub rfl rfl (by omega) ?_)
   refine kl_gT rfl rfl g5 (kl_callP rfl rfl (allIn_ok vars (0 : Int) ((m.doms.length : Int) - (1 : Int)) (by assumption)) ?_)
   refine kl_andT rfl rfl g5 ?_
   exact J9 _ (pc 14 rfl (pc 4 rfl (pc 7 rfl pn)))
  ·skip
   refine kl_gF rfl rfl g5 (kl_gF rfl rfl g5 (kl_gF rfl rfl g5 (kl_gF rfl rfl g5 (kl_gF rfl rfl g5 (kl_gF rfl rfl g5 (kl_andF (allInB vars (0 : Int) ((m.doms.length : Int) - (1 : Int))) rfl rfl g5 ?_))))))
   exact J9 _ (pc 14 rfl (pc 4 rfl (pc 7 rfl pn)))
 refine kl_as rfl (kl_nil (kq_code (kc_ret (kq_retP rfl rfl (congrArg Value.bool ?_)))))
 rfl
theorem variableSet_ok {Hmd : Hp} {vmd : Value} {Hmc : Hp} {vmc : Value} {Hvars : Hp} {vvars : Value} (m : Mod) (vars : List Int) (hmd : Ints Hmd vmd m.doms) (hmc : Cons Hmc vmc m.cons) (hvars : Ints Hvars vvars vars) : SpecP Tryd.prog 18 [.agg #[vmd, vmc], vvars] [Hmd, Hmc, Hvars] (.bool (varSetI m vars)) := by
 refine spec_of Tryd.func18 rfl rfl rfl (fun B => ?_)
 refine kc_seq (kc_region (kl_box rfl rfl (fun p1 H2 f3 a4 => ?_)))
 refine kl_as rfl (kl_nil (kq_code (kc_seq (kc_seq (kc_region (kl_as rfl (kl_nil (kq_code (kc_block (kc_loop0 (A := Nat) (fun zz => (1 ≤ zz) ∧ ((List.range zz).all (ascAt vars) = true)) (fun zz => vars.length - zz) (fun zz => [(5, .int .i64 (zz : Int))]) (1) (pc 1 rfl (pc 2 rfl pn)) (pc 5 rfl pn) ⟨Nat.le_refl 1, by simp [ascAt]⟩ ?_))))))))))
 rintro k hJ7
 obtain ⟨hk5, hi6⟩ : (1 ≤ k) ∧ ((List.range k).all (ascAt vars) = true) := hJ7
 change KC _ _ (_) _ _ ([(5, .int .i64 (k : Int))] ++ _)
 refine kc_seq (kc_seq (kc_region (kl_mv rfl (kl_mv rfl (kl_len rfl (by assumption) (fun l8 => ?_))))))
 refine kl_lss rfl rfl ?_
 refine kl_nil (kq_code (kc_if rfl (fun c9 => ?_) (fun c9 => ?_)))
 ·skip
  refine kc_skipQ (kq_code (kc_seq (kc_block (kc_seq (kc_draw 10 [true, true, true, true, true, true, true, true, true, true] (by kernel_rfl) (by kernel_rfl) ?_)))))
  refine kl_mv rfl (kl_mv rfl (kl_sub rfl rfl (by omega) ?_))
  refine kl_ixI rfl rfl (by assumption) (by omega) (by omega) (fun p10 a11 => ?_)
  refine kl_ld rfl (by assumption) (kl_mv rfl (kl_mv rfl (kl_inI rfl rfl (by assumption) (by omega) (fun p12 a13 => ?_))))
  refine kl_ld rfl (by assumption) (kl_geq rfl rfl ?_)
  refine kl_nil (kq_code (kc_if rfl (fun c14 => ?_) (fun c14 => ?_)))
  ·skip
   refine kc_seq (kc_region (kl_as rfl (kl_nil (kq_code (kc_ret (kq_retP rfl rfl (congrArg Value.bool ?_)))))))
   exact asc_no (k := k) (by omega) (by omega) (by assumption)
  ·skip
   refine kc_skipQ (kq_code (kc_region (kl_mv rfl (kl_inc rfl rfl (by omega) ?_))))
   refine kl_as rfl (kl_nil (kq_round0 ((k + 1)) (by omega) (⟨by omega, asc_step hi6 (by assumption)⟩) (pc 5 rfl pn) (pc 1 rfl (pc 2 rfl pn)) (List.Sublist.refl _)))
 ·skip
  refine kc_exit (kq_code (kc_seq (kc_region (kl_ldS rfl (by assumption) rfl ?_))))
  refine kl_mv rfl (kl_callP rfl rfl (varsIn_ok m vars (by assumption) (by assumption) (by assumption)) ?_)
  refine kl_as rfl (kl_nil (kq_code (kc_ret (kq_retP rfl rfl (congrArg Value.bool ?_)))))
  exact asc_yes (k := k) (by omega) (by assumption)
theorem graph_ok {Hmd : Hp} {vmd : Value} {Hmc : Hp} {vmc : Value} (m : Mod) (hn : m.doms.length ≤ 4) (hi : InN m.cons m.doms.length) (hmd : Ints Hmd vmd m.doms) (hmc : Cons Hmc vmc m.cons) : Spec Tryd.prog 35 [.agg #[vmd, vmc]] [Hmd, Hmc] (fun Hq vq => OwnL 3 1 Hq noHp IntV vq (graphI m)) := by
 refine spec_of Tryd.func35 rfl rfl rfl (fun B => ?_)
 refine kc_seq (kc_region (kl_box rfl rfl (fun p1 H2 f3 a4 => ?_)))
 refine kl_as rfl (kl_nil (kq_code (kc_seq (kc_region (kl_fd rfl (by assumption) (fun p5 a6 => ?_))))))
 refine kl_ld rfl (by assumption) (kl_len rfl (by assumption) (fun l7 => ?_))
 refine kl_mkL (R := IntV) (0 : Int) rfl rfl (by omega) (by decide) (by exact rfl) (fun v8 H9 f10 o11 => ?_)
 refine kl_as rfl (kl_nil (kq_code (kc_seq (kc_seq (kc_region (kl_fd rfl (by assumption) (fun p12 a13 => ?_)))))))
 refine kl_ld rfl (by assumption) (kl_len rfl (by assumption) (fun l14 => ?_))
 refine kl_mv rfl (kl_nil (kq_code (kc_block (kc_loopL (A := Nat × List Int × Hp) (fun zz => (zz.1 ≤ m.cons.length) ∧ (zz.2.1 = (m.cons.take zz.1).foldl gC (List.replicate m.doms.length 0) ∧ zz.2.1.length = m.doms.length) ∧ OwnL 3 1 zz.2.2 noHp IntV v8 zz.2.1 ∧ Fr B zz.2.2) (fun zz => m.cons.length - zz.1) (fun zz => [zz.2.2]) (fun zz => [(17, .int .i64 (zz.1 : Int))]) (0, (List.replicate m.doms.length (0 : Int)), H9) (pc 2 rfl (pc 3 rfl (pc 15 rfl (pc 16 rfl pn)))) (pc 17 rfl pn) rfl ⟨Nat.zero_le _, ⟨by simp, by simp⟩, o11, f10⟩ ?_))))
 rintro ⟨k, g, H17⟩ hJ20
 obtain ⟨hk15, hi16, o18, f19⟩ : (k ≤ m.cons.length) ∧ (g = (m.cons.take k).foldl gC (List.replicate m.doms.length 0) ∧ g.length = m.doms.length) ∧ OwnL 3 1 H17 noHp IntV v8 g ∧ Fr B H17 := hJ20
 change KC _ _ (_) [H17] _ ([(17, .int .i64 (k : Int))] ++ _)
 refine kc_seq (kc_region (kl_lss rfl rfl ?_))
 refine kl_nil (kq_code (kc_seq (kc_if rfl (fun c21 => ?_) (fun c21 => ?_))))
 ·skip
  refine kc_skipQ (kq_code (kc_seq (kc_block (kc_seq (kc_region (kl_inC rfl rfl (by assumption) (by omega) (fun p22 u24 u25 u26 h27 h28 h29 a23 => ?_)))))))
  refine kl_ldS rfl (by assumption) rfl ?_
  refine kl_alloc (cs := [.int .i64 (0 : Int), .slice none 0 0, .slice none 0 0, .int .i64 (0 : Int), .slice none 0 0]) rfl (fun b30 hb31 => ?_)
  refine kl_stW (us := [.int .i64 ((m.cons.getD k nilCon).kind), u24, u25, .int .i64 ((m.cons.getD k nilCon).bound), u26]) rfl rfl rfl rfl (oc rfl (oc (Sl.oneCell (by assumption)) (oc (Sl.oneCell (by assumption)) (oc rfl (oc (Sl.oneCell (by assumption)) oc_nil))))) rfl ?_
  refine kl_nil (kq_code (kc_seq (kc_region (kl_fdV rfl (kl_ldB rfl rfl (kl_len rfl (by assumption) (fun l32 => ?_)))))))
  refine kl_mv rfl (kl_nil (kq_code (kc_block (kc_loopL (A := Nat × List Int × Hp) (fun zz => (zz.1 ≤ ((m.cons.getD k nilCon).vars).length) ∧ (zz.2.1 = ((m.cons.getD k nilCon).vars.take zz.1).foldl (gA (m.cons.getD k nilCon).vars) g ∧ zz.2.1.length = m.doms.length) ∧ OwnL 3 1 zz.2.2 noHp IntV v8 zz.2.1 ∧ Fr B zz.2.2) (fun zz => ((m.cons.getD k nilCon).vars).length - zz.1) (fun zz => [sing b30 (.cells [.int .i64 ((m.cons.getD k nilCon).kind), u24, u25, .int .i64 ((m.cons.getD k nilCon).bound), u26].toArray 46 (0, 0)), zz.2.2]) (fun zz => [(24, .int .i64 (zz.1 : Int))]) (0, g, H17) (pc 2 rfl (pc 3 rfl (pc 5 rfl (pc 15 rfl (pc 16 rfl (pc 17 rfl (pc 18 rfl (pc 19 rfl (pc 20 rfl (pc 21 rfl (pc 22 rfl (pc 23 rfl pn)))))))))))) (pc 24 rfl pn) rfl ⟨Nat.zero_le _, ⟨by simp, hi16.2⟩, o18, f19⟩ ?_))))
  rintro ⟨j, g2, H35⟩ hJ38
  obtain ⟨hk33, hi34, o36, f37⟩ : (j ≤ ((m.cons.getD k nilCon).vars).length) ∧ (g2 = ((m.cons.getD k nilCon).vars.take j).foldl (gA (m.cons.getD k nilCon).vars) g ∧ g2.length = m.doms.length) ∧ OwnL 3 1 H35 noHp IntV v8 g2 ∧ Fr B H35 := hJ38
  change KC _ _ (_) [sing b30 (.cells [.int .i64 ((m.cons.getD k nilCon).kind), u24, u25, .int .i64 ((m.cons.getD k nilCon).bound), u26].toArray 46 (0, 0)), H35] _ ([(24, .int .i64 (j : Int))] ++ _)
  refine kc_seq (kc_region (kl_lss rfl rfl ?_))
  refine kl_nil (kq_code (kc_seq (kc_if rfl (fun c39 => ?_) (fun c39 => ?_))))
  ·skip
   have ha := hi _ (getD_mem (d := nilCon) (by omega : k < m.cons.length)) _ (getD_mem (d := (0 : Int)) (by omega : j < (m.cons.getD k nilCon).vars.length))
   refine kc_skipQ (kq_code (kc_seq (kc_block (kc_seq (kc_region (kl_inI rfl rfl (by assumption) (by omega) (fun p40 a41 => ?_)))))))
   refine kl_ld rfl (by assumption) (kl_as rfl (kl_nil (kq_code (kc_seq (kc_region (kl_fdV rfl (kl_ldB rfl rfl (kl_len rfl (by assumption) (fun l42 => ?_)))))))))
   refine kl_mv rfl (kl_nil (kq_code (kc_block (kc_loopL (A := Nat × List Int × Hp) (fun zz => (zz.1 ≤ ((m.cons.getD k nilCon).vars).length) ∧ (zz.2.1 = ((m.cons.getD k nilCon).vars.take zz.1).foldl (gB ((m.cons.getD k nilCon).vars.getD j 0)) g2 ∧ zz.2.1.length = m.doms.length) ∧ OwnL 3 1 zz.2.2 noHp IntV v8 zz.2.1 ∧ Fr B zz.2.2) (fun zz => ((m.cons.getD k nilCon).vars).length - zz.1) (fun zz => [sing b30 (.cells [.int .i64 ((m.cons.getD k nilCon).kind), u24, u25, .int .i64 ((m.cons.getD k nilCon).bound), u26].toArray 46 (0, 0)), zz.2.2]) (fun zz => [(31, .int .i64 (zz.1 : Int))]) (0, g2, H35) (pc 2 rfl (pc 3 rfl (pc 5 rfl (pc 7 rfl (pc 15 rfl (pc 16 rfl (pc 17 rfl (pc 18 rfl (pc 19 rfl (pc 20 rfl (pc 21 rfl (pc 22 rfl (pc 23 rfl (pc 24 rfl (pc 25 rfl (pc 26 rfl (pc 27 rfl (pc 28 rfl (pc 29 rfl (pc 30 rfl pn)))))))))))))))))))) (pc 31 rfl pn) rfl ⟨Nat.zero_le _, ⟨by simp, hi34.2⟩, o36, f37⟩ ?_))))
   rintro ⟨i, g3, H45⟩ hJ48
   obtain ⟨hk43, hi44, o46, f47⟩ : (i ≤ ((m.cons.getD k nilCon).vars).length) ∧ (g3 = ((m.cons.getD k nilCon).vars.take i).foldl (gB ((m.cons.getD k nilCon).vars.getD j 0)) g2 ∧ g3.length = m.doms.length) ∧ OwnL 3 1 H45 noHp IntV v8 g3 ∧ Fr B H45 := hJ48
   change KC _ _ (_) [sing b30 (.cells [.int .i64 ((m.cons.getD k nilCon).kind), u24, u25, .int .i64 ((m.cons.getD k nilCon).bound), u26].toArray 46 (0, 0)), H45] _ ([(31, .int .i64 (i : Int))] ++ _)
   refine kc_seq (kc_region (kl_lss rfl rfl ?_))
   refine kl_nil (kq_code (kc_seq (kc_if rfl (fun c49 => ?_) (fun c49 => ?_))))
   ·skip
    have hb := hi _ (getD_mem (d := nilCon) (by omega : k < m.cons.length)) _ (getD_mem (d := (0 : Int)) (by omega : i < (m.cons.getD k nilCon).vars.length))
    refine kc_skipQ (kq_code (kc_seq (kc_block (kc_seq (kc_region (kl_inI rfl rfl (by assumption) (by omega) (fun p50 a51 => ?_)))))))
    refine kl_ld rfl (by assumption) (kl_as rfl (kl_nil (kq_code (kc_seq (kc_region (kl_mv rfl (kl_mv rfl (kl_neq rfl rfl ?_))))))))
    refine kl_nil (kq_code (kc_if rfl (fun c52 => ?_) (fun c52 => ?_)))
    ·skip
     refine kc_draw 8 [true, true, true, true, true, true, true, true, false] (by kernel_rfl) (by kernel_rfl) ?_
     refine kl_mv rfl (kl_mv rfl (kl_ixL rfl rfl (by assumption) (by omega) (by omega) (fun p53 q54 => ?_)))
     refine kl_ldLI rfl (by assumption) (by assumption) (by omega) ?_
     refine kl_mv rfl (kl_shl rfl rfl (by omega) ?_)
     refine kl_or rfl rfl ?_
     refine kl_ixL rfl rfl (by assumption) (by omega) (by omega) (fun p55 q56 => ?_)
     refine kl_stL (ior (g3.getD ((((m.cons.getD k nilCon).vars).getD j 0).toNat) 0) (ishl (1 : Int) (((m.cons.getD k nilCon).vars).getD i 0))) rfl rfl (by assumption) o46 (by omega) rfl rfl rfl (fun H57 o58 f59 => ?_)
     have f60 := f59 _ f47
     refine kl_nil (kq_code (kc_region (kl_inc rfl rfl (by omega) ?_)))
     refine kl_mv rfl (kl_nil (kq_roundL ((i + 1), (g3.set ((((m.cons.getD k nilCon).vars).getD j 0).toNat) (ior (g3.getD ((((m.cons.getD k nilCon).vars).getD j 0).toNat) 0) (ishl (1 : Int) (((m.cons.getD k nilCon).vars).getD i 0)))), H57) (by omega) (⟨by omega, (by refine ⟨?_, by simp only [List.length_set]; exact hi44.2⟩; rw [← fold_step (f := gB _) 0 (by omega) hi44.1]; simp only [gB]; first | rw [if_pos (by assumption)] | rw [if_neg (by assumption)]), o58, f60⟩) (pc 31 rfl pn) (pc 2 rfl (pc 3 rfl (pc 5 rfl (pc 7 rfl (pc 15 rfl (pc 16 rfl (pc 17 rfl (pc 18 rfl (pc 19 rfl (pc 20 rfl (pc 21 rfl (pc 22 rfl (pc 23 rfl (pc 24 rfl (pc 25 rfl (pc 26 rfl (pc 27 rfl (pc 28 rfl (pc 29 rfl (pc 30 rfl pn)))))))))))))))))))) rfl (List.Sublist.refl _)))
    ·skip
     refine kc_skipQ (kq_code (kc_region (kl_inc rfl rfl (by omega) ?_)))
     refine kl_mv rfl (kl_nil (kq_roundL ((i + 1), g3, H45) (by omega) (⟨by omega, (by refine ⟨?_, by simp only [List.length_set]; exact hi44.2⟩; rw [← fold_step (f := gB _) 0 (by omega) hi44.1]; simp only [gB]; first | rw [if_pos (by assumption)] | rw [if_neg (by assumption)]), o46, f47⟩) (pc 31 rfl pn) (pc 2 rfl (pc 3 rfl (pc 5 rfl (pc 7 rfl (pc 15 rfl (pc 16 rfl (pc 17 rfl (pc 18 rfl (pc 19 rfl (pc 20 rfl (pc 21 rfl (pc 22 rfl (pc 23 rfl (pc 24 rfl (pc 25 rfl (pc 26 rfl (pc 27 rfl (pc 28 rfl (pc 29 rfl (pc 30 rfl pn)))))))))))))))))))) rfl (List.Sublist.refl _)))
   ·skip
    refine kc_exit (kq_code (kc_region (kl_inc rfl rfl (by omega) ?_)))
    refine kl_mv rfl (kl_nil (kq_roundL ((j + 1), g3, H45) (by omega) (⟨by omega, (by have := fold_end (by assumption) hi44.1; exact ⟨this ▸ fold_step (f := gA _) 0 (by omega) hi34.1, hi44.2⟩), o46, f47⟩) (pc 24 rfl pn) (pc 2 rfl (pc 3 rfl (pc 5 rfl (pc 15 rfl (pc 16 rfl (pc 17 rfl (pc 18 rfl (pc 19 rfl (pc 20 rfl (pc 21 rfl (pc 22 rfl (pc 23 rfl pn)))))))))))) rfl (List.Sublist.refl _)))
  ·skip
   refine kc_exit (kq_code (kc_region (kl_inc rfl rfl (by omega) ?_)))
   refine kl_mv rfl (kl_nil (kq_roundL ((k + 1), g2, H35) (by omega) (⟨by omega, (by have := fold_end (by assumption) hi34.1; exact ⟨this ▸ fold_step (f := gC) nilCon (by omega) hi16.1, hi34.2⟩), o36, f37⟩) (pc 17 rfl pn) (pc 2 rfl (pc 3 rfl (pc 15 rfl (pc 16 rfl pn)))) rfl (.cons _ (List.Sublist.refl _))))
 ·skip
  refine kc_exit (kq_code (kc_seq (kc_region (kl_mv rfl (kl_as rfl (kl_nil (kq_code (kc_ret ?_))))))))
  have e9 : g = graphI m := by exact fold_end (by assumption) hi16.1
  exact kq_ret rfl rfl H17 f19 (e9 ▸ o18)
theorem linked_ok {Hmd : Hp} {vmd : Value} {Hmc : Hp} {vmc : Value} (m : Mod) (v : Int) (w : Int) (hn : m.doms.length ≤ 4) (hi : InN m.cons m.doms.length) (hv : 0 ≤ v ∧ v < m.doms.length) (hw : 0 ≤ w) (hmd : Ints Hmd vmd m.doms) (hmc : Cons Hmc vmc m.cons) : SpecP Tryd.prog 14 [.agg #[vmd, vmc], .int .i64 v, .int .i64 w] [Hmd, Hmc] (.int .i64 (linkedI m v w)) := by
 have hg := graphI_mask (by omega) hi
 have hgl := hg.1
 refine spec_of Tryd.func14 rfl rfl rfl (fun B => ?_)
 refine kc_seq (kc_region (kl_box rfl rfl (fun p1 H2 f3 a4 => ?_)))
 refine kl_as rfl (kl_nil (kq_code (kc_seq (kc_region (kl_ldS rfl (by assumption) rfl ?_)))))
 refine kl_call rfl rfl (graph_ok m (by first | assumption | omega) (by first | assumption | omega) (by assumption) (by assumption)) (fun v5 H6 f7 o8 => ?_)
 have h9 := OwnL.ints o8
 refine kl_as rfl (kl_nil (kq_code (kc_seq (kc_region (kl_mv rfl (kl_shl rfl rfl (by omega) ?_))))))
 refine kl_as rfl (kl_nil (kq_code (kc_block (kc_loop0 (A := Nat × Int) (fun zz => (lkIter (graphI m) w zz.1 zz.2 = linkedI m v w ∧ LkOk' m.doms.length zz.2 zz.1)) (fun zz => zz.1) (fun zz => [(8, .int .i64 zz.2)]) (16, (ishl (1 : Int) v)) (pc 2 rfl (pc 7 rfl pn)) (pc 8 rfl pn) (⟨rfl, lk_init hn hv⟩) ?_))))
 rintro ⟨f, o⟩ hJ12
 have hi11 : (lkIter (graphI m) w f o = linkedI m v w ∧ LkOk' m.doms.length o f) := hJ12
 change KC _ _ (_) _ _ ([(8, .int .i64 o)] ++ _)
 refine kc_block (kc_seq (kc_region (kl_mv rfl (kl_as rfl (kl_nil (kq_code (kc_seq (kc_seq (kc_region (kl_mv rfl (kl_len rfl (by assumption) (fun l13 => ?_))))))))))))
 refine kl_mv rfl (kl_nil (kq_code (kc_block (kc_loop0 (A := Nat × Int) (fun zz => (zz.1 ≤ (graphI m).length) ∧ (zz.2 = lkTo (graphI m) w o zz.1)) (fun zz => (graphI m).length - zz.1) (fun zz => [(19, .int .i64 (zz.1 : Int)), (9, .int .i64 zz.2)]) (0, o) (pc 2 rfl (pc 7 rfl (pc 8 rfl (pc 16 rfl (pc 17 rfl (pc 18 rfl pn)))))) (pc 19 rfl (pc 9 rfl pn)) ⟨Nat.zero_le _, rfl⟩ ?_))))
 rintro ⟨i, x⟩ hJ16
 obtain ⟨hk14, hi15⟩ : (i ≤ (graphI m).length) ∧ (x = lkTo (graphI m) w o i) := hJ16
 change KC _ _ (_) _ _ ([(19, .int .i64 (i : Int)), (9, .int .i64 x)] ++ _)
 refine kc_seq (kc_region (kl_lss rfl rfl ?_))
 refine kl_nil (kq_code (kc_seq (kc_if rfl (fun c17 => ?_) (fun c17 => ?_))))
 ·skip
  refine kc_skipQ (kq_code (kc_seq (kc_block (kc_seq (kc_region (kl_mv rfl (kl_inI rfl rfl (by assumption) (by omega) (fun p18 a19 => ?_))))))))
  refine kl_ld rfl (by assumption) (kl_as rfl (kl_as rfl (kl_nil (kq_code (kc_seq (kc_region (kl_mv rfl (kl_mv rfl (kl_callP rfl rfl (has_ok o (i : Int) (by first | assumption | omega)) ?_)))))))))
  refine kl_nil (kq_code (kc_cond rfl (fun c20 => ?_) (fun c20 => ?_)))
  ·skip
   have c20r := c20
   try simp only [smpC, decide_eq_true_eq, decide_eq_false_iff_not] at c20
   refine kc_region (kl_mv rfl (kl_mv rfl (kl_mv rfl (kl_andNot rfl rfl ?_))))
   refine kl_or rfl rfl ?_
   refine kl_as rfl (kl_nil (kq_code (kc_region (kl_inc rfl rfl (by omega) ?_))))
   refine kl_mv rfl (kl_nil (kq_round0 ((i + 1), (ior x (iandNot ((graphI m).getD i 0) w))) (by omega) (⟨by omega, (by first | exact lk_stepT hi15 (by assumption) | exact lk_stepF hi15 (by assumption))⟩) (pc 19 rfl (pc 9 rfl pn)) (pc 2 rfl (pc 7 rfl (pc 8 rfl (pc 16 rfl (pc 17 rfl (pc 18 rfl pn)))))) (List.Sublist.refl _)))
  ·skip
   have c20r := c20
   try simp only [smpC, decide_eq_true_eq, decide_eq_false_iff_not] at c20
   refine kc_skipQ (kq_code (kc_region (kl_inc rfl rfl (by omega) ?_)))
   refine kl_mv rfl (kl_nil (kq_round0 ((i + 1), x) (by omega) (⟨by omega, (by first | exact lk_stepT hi15 (by assumption) | exact lk_stepF hi15 (by assumption))⟩) (pc 19 rfl (pc 9 rfl pn)) (pc 2 rfl (pc 7 rfl (pc 8 rfl (pc 16 rfl (pc 17 rfl (pc 18 rfl pn)))))) (List.Sublist.refl _)))
 ·skip
  refine kc_exit (kq_code (kc_seq (kc_seq (kc_region (kl_mv rfl (kl_mv rfl (kl_eql rfl rfl ?_)))))))
  refine kl_nil (kq_code (kc_if rfl (fun c21 => ?_) (fun c21 => ?_)))
  ·skip
   refine kc_seq (kc_region (kl_mv rfl (kl_as rfl (kl_nil (kq_code (kc_ret (kq_retP rfl rfl (congrArg (Value.int .i64) ?_))))))))
   exact lk_ret hg hi11 hi15 (by omega) (by assumption)
  ·skip
   refine kc_skipQ (kq_code (kc_region (kl_mv rfl (kl_as rfl (kl_nil (kq_round0 ((f - 1), x) (by exact (lk_round hg hn hw hi11 hi15 (by omega) (by assumption)).1) ((lk_round hg hn hw hi11 hi15 (by omega) (by assumption)).2) (pc 8 rfl pn) (pc 2 rfl (pc 7 rfl pn)) (List.Sublist.refl _)))))))
end Go.Proofs.YtiilanckbocifaaDoor
