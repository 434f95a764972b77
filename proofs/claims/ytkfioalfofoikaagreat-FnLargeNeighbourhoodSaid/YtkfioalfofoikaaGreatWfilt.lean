/- Walks of functions of the program: each returns what the plain function gives. Conditions: those that each statement names. -/
import Derived.Test.YtkfioalfofoikaaGreatWtup
import Derived.Test.YtkfioalfofoikaaGreatSol
import Derived.Test.YtkfioalfofoikaaGreatPureS
import Derived.Test.YtkfioalfofoikaaGreatPureZ
namespace Go.Proofs.YtkfioalfofoikaaGreat
open Go
set_option linter.unusedSimpArgs false
set_option linter.unusedVariables false
theorem tuples_ok {Hds : Hp} {vds : Value} (ds : List Int) (hds : Ints Hds vds ds) : Spec Tryz.prog 112 [vds] [Hds] (fun Hq vq => ∃ p : Value, vq = .func (.func 139) #[] #[p] ∧ At Hq p [vds]) := by
 refine spec_of Tryz.func112 rfl rfl rfl (fun B => ?_)
 refine kc_seq (kc_region (kl_box rfl (Sl.cells (by assumption)) (fun p1 H2 f3 a4 => ?_)))
 refine kl_as rfl (kl_nil (kq_code (kc_seq (kc_region (kl_mkf rfl ?_)))))
 refine kl_as rfl (kl_nil (kq_code (kc_ret ?_)))
 exact kq_ret rfl rfl H2 f3 ⟨_, rfl, a4⟩
theorem filter_ok {Hcv : Hp} {vcv : Value} {Hca : Hp} {vca : Value} {Hcr : Hp} {vcr : Value} {Hds : Hp} {vds : Value} (c : Con) (ds : List Int) (hC : ConOk c ds.length) (hd : DomV ds) (hcv : Ints Hcv vcv c.vars) (hca : Ints Hca vca c.args) (hcr : Rows Hcr vcr c.rows) (hds : Ints Hds vds ds) : Spec Tryz.prog 161 [.agg #[.int .i64 c.kind, vcv, vca, .int .i64 c.bound, vcr], vds] [Hcv, Hca, Hcr, Hds] (fun Hq vq => Ints Hq vq (filtL c ds)) := by
 have h0 := hC.one
 refine spec_ofR Tryz.func161 rfl rfl rfl (fun B => ?_)
 refine kc_seq (kc_region (kl_box rfl rfl (fun p1 H2 f3 a4 => ?_)))
 refine kl_as rfl (kl_nil (kq_code (kc_seq (kc_region (kl_fd rfl (by assumption) (fun p5 a6 => ?_))))))
 refine kl_ld rfl (by assumption) (kl_len rfl (by assumption) (fun l7 => ?_))
 refine kl_mkL (R := IntV) (0 : Int) rfl rfl (by omega) (by decide) (by exact rfl) (fun v8 H9 f10 o11 => ?_)
 refine kl_alloc (cs := [.slice none 0 0]) rfl (fun b12 hb13 => ?_)
 refine kl_stB rfl rfl rfl (OwnL.oneCell (by assumption)) (OwnL.cells (by assumption)) ?_
 refine kl_nil (kq_code (kc_seq (kc_seq (kc_region (kl_ldS rfl (by assumption) rfl ?_)))))
 refine kl_mv rfl (kl_call rfl rfl (word_ok c ds hC.vars (by have := hC.one; omega) (by assumption) (by assumption) (by assumption) (by assumption)) (fun v14 H15 f16 h17 => ?_))
 refine kl_call rfl rfl (tuples_ok (wordL c.vars ds) (by assumption)) (fun v18 H19 f20 h21 => ?_)
 obtain ⟨p22, rfl, a23⟩ := h21
 refine kl_nil (kq_code (kc_block (kc_range (A := List Int × Value × Hp) (fun zz => [sing b12 (.cells [zz.2.1].toArray 22 (0, 0)), zz.2.2]) (fun n zz => (zz.1 = suppV c ((tupL (wordL c.vars ds)).take n)) ∧ OwnL 3 1 zz.2.2 noHp IntV zz.2.1 zz.1 ∧ Fr B zz.2.2) (fun _ _ => False) ((List.replicate c.vars.length (0 : Int)), v8, H9) rfl (tuples_it (wordL c.vars ds) (word_dom hC hd) (by have := hC.one; simp [wordL]; omega) a23 (by assumption)) (pc 1 rfl (pc 2 rfl (pc 4 rfl (pc 5 rfl pn)))) rfl rfl ⟨(suppV_0 c).symm, o11, f10⟩ ?_ ?_ (fun _ _ _ _ h => h.elim))))
 ·skip
  rintro l29 m30 D31 r32 H33 v34 n ⟨left, v25, H26⟩ hk35 hJ36 h37
  obtain ⟨hi24, o27, f28⟩ : (left = suppV c ((tupL (wordL c.vars ds)).take n)) ∧ OwnL 3 1 H26 noHp IntV v25 left ∧ Fr B H26 := hJ36
  obtain ⟨t, ht⟩ : ∃ t, (tupL (wordL c.vars ds)).getD n [] = t := ⟨_, rfl⟩
  rw [ht] at h37
  have hS : SatOk c t := (tup_sat hC rfl (by rw [← ht]; exact getD_mem hk35))
  have hT := take_succ_getD [] hk35
  rw [ht] at hT
  change KC _ _ _ (rdy l29 r32 :: [sing b12 (.cells [v25].toArray 22 (0, 0)), H26]) _ _
  refine kc_region (kl_as rfl (kl_nil (kq_begin (r := r32) ?_)))
  refine kc_block (kc_seq (kc_region (kl_ldS rfl (by assumption) rfl ?_)))
  refine kl_mv rfl (kl_callP rfl rfl (satisfied_ok c t hS (by assumption) (by assumption) (by assumption) (by assumption)) ?_)
  refine kl_nil (kq_code (kc_cond rfl (fun c39 => ?_) (fun c39 => ?_)))
  ·skip
   have c39r := c39
   try simp only [smpC, decide_eq_true_eq, decide_eq_false_iff_not] at c39
   refine kc_seq (kc_region (kl_mv rfl (kl_len rfl (by assumption) (fun l40 => ?_))))
   refine kl_mv rfl (kl_nil (kq_code (kc_block (kc_loopL (A := Nat × List Int × Value × Hp) (fun zz => (zz.1 ≤ t.length) ∧ (zz.2.1 = suppM c ((tupL (wordL c.vars ds)).take n) t zz.1) ∧ OwnL 3 1 zz.2.2.2 noHp IntV zz.2.2.1 zz.2.1 ∧ Fr B zz.2.2.2) (fun zz => t.length - zz.1) (fun zz => [bsy l29 r32, sing b12 (.cells [zz.2.2.1].toArray 22 (0, 0)), zz.2.2.2]) (fun zz => [(26, .int .i64 (zz.1 : Int))]) (0, left, v25, H26) (pc 1 rfl (pc 2 rfl (pc 4 rfl (pc 5 rfl (pc 6 rfl (pc 20 rfl (pc 21 rfl (pc 22 rfl (pc 23 rfl (pc 24 rfl (pc 25 rfl pn))))))))))) (pc 26 rfl pn) rfl ⟨Nat.zero_le _, (by rw [hi24, suppM_0]), o27, f28⟩ ?_))))
   rintro ⟨k, left1, v46, H43⟩ hJ47
   obtain ⟨hk41, hi42, o44, f45⟩ : (k ≤ t.length) ∧ (left1 = suppM c ((tupL (wordL c.vars ds)).take n) t k) ∧ OwnL 3 1 H43 noHp IntV v46 left1 ∧ Fr B H43 := hJ47
   change KC _ _ (_) [bsy l29 r32, sing b12 (.cells [v46].toArray 22 (0, 0)), H43] _ ([(26, .int .i64 (k : Int))] ++ _)
   have hln : left1.length = c.vars.length := (by rw [hi42]; exact suppM_len c _ t k)
   refine kc_seq (kc_region (kl_lss rfl rfl ?_))
   refine kl_nil (kq_code (kc_seq (kc_if rfl (fun c48 => ?_) (fun c48 => ?_))))
   ·skip
    have hv1 := hS.val.at (k := k) (by omega)
    have hl1 := hS.len
    refine kc_skipQ (kq_code (kc_seq (kc_block (kc_seq (kc_region (kl_mv rfl (kl_inI rfl rfl (by assumption) (by omega) (fun p49 a50 => ?_))))))))
    refine kl_ld rfl (by assumption) (kl_as rfl (kl_as rfl (kl_nil (kq_code (kc_draw 8 [true, true, true, true, true, true, true, true, false] (by kernel_rfl) (by kernel_rfl) ?_)))))
    refine kl_ldB rfl rfl (kl_mv rfl (kl_ixLn rfl rfl (by assumption) (by omega) (fun p51 q52 => ?_)))
    refine kl_ldLI rfl (by assumption) (by assumption) (by omega) ?_
    refine kl_mv rfl (kl_shl rfl rfl (by omega) ?_)
    refine kl_or rfl rfl ?_
    refine kl_ixLn rfl rfl (by assumption) (by omega) (fun p53 q54 => ?_)
    refine kl_stL (ior (left1.getD k 0) (ishl (1 : Int) (t.getD k 0))) rfl rfl (by assumption) o44 (by omega) rfl rfl rfl (fun H55 o56 f57 => ?_)
    have f58 := f57 _ f45
    refine kl_nil (kq_code (kc_region (kl_inc rfl rfl (by omega) ?_)))
    refine kl_mv rfl (kl_nil (kq_roundL ((k + 1), (left1.set k (ior (left1.getD k 0) (ishl (1 : Int) (t.getD k 0)))), v46, H55) (by omega) (⟨by omega, (by rw [hi42]; exact suppM_stepO (by assumption) hS (by omega)), o56, f58⟩) (pc 26 rfl pn) (pc 1 rfl (pc 2 rfl (pc 4 rfl (pc 5 rfl (pc 6 rfl (pc 20 rfl (pc 21 rfl (pc 22 rfl (pc 23 rfl (pc 24 rfl (pc 25 rfl pn))))))))))) rfl (List.Sublist.refl _)))
   ·skip
    refine kc_exit (kq_take [bsy l29 r32, sing b12 (.cells [v46].toArray 22 (0, 0)), H43] ?_)
    exact kq_rend (invx := fun _ _ => False) (left1, v46, H43) ⟨(by rw [hT]; first | exact supp_stepT hi42 hS (by omega) | (rw [suppV_no (by assumption)]; exact hi24)), o44, f45⟩ rfl inferInstance (List.Sublist.refl _)
  ·skip
   have c39r := c39
   try simp only [smpC, decide_eq_true_eq, decide_eq_false_iff_not] at c39
   refine kc_skipQ (kq_take [bsy l29 r32, sing b12 (.cells [v25].toArray 22 (0, 0)), H26] ?_)
   exact kq_rend (invx := fun _ _ => False) (left, v25, H26) ⟨(by rw [hT]; first | exact supp_stepT hi42 hS (by omega) | (rw [suppV_no (by assumption)]; exact hi24)), o27, f28⟩ rfl inferInstance (List.Sublist.refl _)
 ·skip
  rintro D59 ⟨left, v25, H26⟩ hD60 hJ61
  obtain ⟨hi24, o27, f28⟩ : (left = suppV c ((tupL (wordL c.vars ds)).take ((tupL (wordL c.vars ds)).length))) ∧ OwnL 3 1 H26 noHp IntV v25 left ∧ Fr B H26 := hJ61
  change KQ _ _ ([sing b12 (.cells [v25].toArray 22 (0, 0)), H26]) _ _
  have hll : left.length = c.vars.length := (by rw [hi24]; exact suppV_len c _)
  refine kq_code (kc_seq (kc_region (kl_mv rfl (kl_callL rfl rfl (copied_ok ds (by have := hC.one; omega) (by assumption)) (fun v62 H63 f64 o65 => ?_)))))
  refine kl_as rfl (kl_nil (kq_code (kc_seq (kc_seq (kc_region (kl_fd rfl (by assumption) (fun p66 a67 => ?_)))))))
  refine kl_ld rfl (by assumption) (kl_len rfl (by assumption) (fun l68 => ?_))
  refine kl_mv rfl (kl_nil (kq_code (kc_block (kc_loopL (A := Nat × List Int × Hp) (fun zz => (zz.1 ≤ c.vars.length) ∧ (zz.2.1 = filtTo c ds left zz.1) ∧ OwnL 3 1 zz.2.2 noHp IntV v62 zz.2.1 ∧ Fr B zz.2.2) (fun zz => c.vars.length - zz.1) (fun zz => [zz.2.2, sing b12 (.cells [v25].toArray 22 (0, 0)), H26]) (fun zz => [(45, .int .i64 (zz.1 : Int))]) (0, ds, H63) (pc 4 rfl (pc 5 rfl (pc 9 rfl (pc 43 rfl (pc 44 rfl pn))))) (pc 45 rfl pn) rfl ⟨Nat.zero_le _, rfl, o65, f64⟩ ?_))))
  rintro ⟨k2, out, H71⟩ hJ74
  obtain ⟨hk69, hi70, o72, f73⟩ : (k2 ≤ c.vars.length) ∧ (out = filtTo c ds left k2) ∧ OwnL 3 1 H71 noHp IntV v62 out ∧ Fr B H71 := hJ74
  change KC _ _ (_) [H71, sing b12 (.cells [v25].toArray 22 (0, 0)), H26] _ ([(45, .int .i64 (k2 : Int))] ++ _)
  have hln : out.length = ds.length := (by rw [hi70]; exact filtTo_len c ds left k2)
  refine kc_seq (kc_region (kl_lss rfl rfl ?_))
  refine kl_nil (kq_code (kc_seq (kc_if rfl (fun c75 => ?_) (fun c75 => ?_))))
  ·skip
   have hv2 := hC.at (k := k2) (by omega)
   refine kc_skipQ (kq_code (kc_seq (kc_block (kc_seq (kc_region (kl_mv rfl (kl_inI rfl rfl (by assumption) (by omega) (fun p76 a77 => ?_))))))))
   refine kl_ld rfl (by assumption) (kl_as rfl (kl_as rfl (kl_nil (kq_code (kc_region (kl_mv rfl (kl_mv rfl (kl_ldB rfl rfl (kl_mv rfl ?_)))))))))
   refine kl_ixLn rfl rfl (by assumption) (by omega) (fun p78 q79 => ?_)
   refine kl_ldLI rfl (by assumption) (by assumption) (by omega) ?_
   refine kl_ixL rfl rfl (by assumption) (by omega) (by omega) (fun p80 q81 => ?_)
   refine kl_stL (left.getD k2 0) rfl rfl (by assumption) o72 (by omega) rfl rfl rfl (fun H82 o83 f84 => ?_)
   have f85 := f84 _ f73
   refine kl_nil (kq_code (kc_region (kl_inc rfl rfl (by omega) ?_)))
   refine kl_mv rfl (kl_nil (kq_roundL ((k2 + 1), (out.set ((c.vars.getD k2 0).toNat) (left.getD k2 0)), H82) (by omega) (⟨by omega, (by rw [hi70, filtTo_succ]), o83, f85⟩) (pc 45 rfl pn) (pc 4 rfl (pc 5 rfl (pc 9 rfl (pc 43 rfl (pc 44 rfl pn))))) rfl (List.Sublist.refl _)))
  ·skip
   refine kc_exit (kq_code (kc_seq (kc_region (kl_mv rfl (kl_as rfl (kl_nil (kq_code (kc_ret ?_))))))))
   have e9 : out = filtL c ds := by rw [hi70, hi24, List.take_length, show k2 = c.vars.length from by omega]; rfl
   exact kq_retR (rss1 rfl (rs_tmp rfl)) H71 f73 (e9 ▸ OwnL.ints o72) (df1 hD60)
theorem assigned_ok {Hx : Hp} {vx : Value} (x : List Int) (n : Int) (hx : Ints Hx vx x) : SpecP Tryz.prog 52 [vx, .int .i64 n] [Hx] (.bool (decide ((x.length : Int) = n) && allInB x 0 5)) := by
 refine spec_of Tryz.func52 rfl rfl rfl (fun B => ?_)
 refine kc_seq (kc_region (kl_as rfl (kl_nil (kq_code (kc_seq (kc_region (kl_mv rfl (kl_len rfl (by assumption) (fun l1 => ?_)))))))))
 refine kl_mv rfl (kl_eql rfl rfl ?_)
 refine kl_mv rfl (kl_join 3 12 (.bool (decide ((x.length : Int) = n) && (allInB x (0 : Int) (5 : Int)))) (pc 4 rfl (pc 9 rfl pn)) (fun J3 => ?_) ?_)
 ·rcases Bool.eq_false_or_eq_true (decide ((x.length : Int) = n)) with g2 | g2
  ·skip
   have g2p := of_decide_eq_true g2
   refine kl_gT rfl rfl g2 (kl_mv rfl (kl_gT rfl rfl g2 (kl_callP rfl rfl (allIn_ok x (0 : Int) (5 : Int) (by assumption)) ?_)))
   refine kl_andT rfl rfl g2 ?_
   exact J3 _ (pc 12 rfl (pc 4 rfl (pc 9 rfl pn)))
  ·skip
   refine kl_gF rfl rfl g2 (kl_gF rfl rfl g2 (kl_andF (allInB x (0 : Int) (5 : Int)) rfl rfl g2 ?_))
   exact J3 _ (pc 12 rfl (pc 4 rfl (pc 9 rfl pn)))
 refine kl_as rfl (kl_nil (kq_code (kc_ret (kq_retP rfl rfl (congrArg Value.bool ?_)))))
 rfl
theorem isSol1_ok {Hcv : Hp} {vcv : Value} {Hca : Hp} {vca : Value} {Hcr : Hp} {vcr : Value} {Hx : Hp} {vx : Value} {Hpx : Hp} {ptrpx : Value} (c : Con) (x : List Int) (hC : ConOk c x.length) (hX : Vals x) (hcv : Ints Hcv vcv c.vars) (hca : Ints Hca vca c.args) (hcr : Rows Hcr vcr c.rows) (hx : Ints Hx vx x) (apx : At Hpx ptrpx [vx]) : SpecP Tryz.prog 93 [.agg #[.int .i64 c.kind, vcv, vca, .int .i64 c.bound, vcr], ptrpx] [Hcv, Hca, Hcr, Hx, Hpx] (.bool (!(conAt x c))) := by
 refine spec_of Tryz.func93 rfl rfl rfl (fun B => ?_)
 refine kc_seq (kc_region (kl_box rfl rfl (fun p1 H2 f3 a4 => ?_)))
 refine kl_as rfl (kl_nil (kq_code (kc_seq (kc_region (kl_ldS rfl (by assumption) rfl ?_)))))
 refine kl_ld rfl (by assumption) (kl_callP rfl rfl (holds_ok c x hC hX (by assumption) (by assumption) (by assumption) (by assumption)) ?_)
 refine kl_not rfl (kl_as rfl (kl_nil (kq_code (kc_ret (kq_retP rfl rfl (congrArg Value.bool ?_))))))
 rfl
theorem isSol_ok {Hmd : Hp} {vmd : Value} {Hmc : Hp} {vmc : Value} {Hx : Hp} {vx : Value} (m : Mod) (x : List Int) (hM : MOk m) (hl : x.length = m.doms.length) (hX : Vals x) (hmd : Ints Hmd vmd m.doms) (hmc : Cons Hmc vmc m.cons) (hx : Ints Hx vx x) : SpecP Tryz.prog 53 [.agg #[vmd, vmc], vx] [Hmd, Hmc, Hx] (.bool (isSolB m x)) := by
 refine spec_of Tryz.func53 rfl rfl rfl (fun B => ?_)
 refine kc_seq (kc_region (kl_box rfl rfl (fun p1 H2 f3 a4 => ?_)))
 refine kl_box rfl (Sl.cells (by assumption)) (fun p5 H6 f7 a8 => ?_)
 refine kl_as rfl (kl_nil (kq_code (kc_seq (kc_seq (kc_region (kl_ld rfl (by assumption) (kl_len rfl (by assumption) (fun l9 => ?_))))))))
 refine kl_mv rfl (kl_nil (kq_code (kc_block (kc_loop0 (A := Nat) (fun zz => (zz ≤ x.length) ∧ (inDomTo m x zz = true)) (fun zz => x.length - zz) (fun zz => [(9, .int .i64 (zz : Int))]) (0) (pc 2 rfl (pc 3 rfl (pc 7 rfl (pc 8 rfl pn)))) (pc 9 rfl pn) ⟨Nat.zero_le _, rfl⟩ ?_))))
 rintro k hJ12
 obtain ⟨hk10, hi11⟩ : (k ≤ x.length) ∧ (inDomTo m x k = true) := hJ12
 change KC _ _ (_) _ _ ([(9, .int .i64 (k : Int))] ++ _)
 refine kc_seq (kc_region (kl_lss rfl rfl ?_))
 refine kl_nil (kq_code (kc_seq (kc_if rfl (fun c13 => ?_) (fun c13 => ?_))))
 ·skip
  have hx1 := hX.at (k := k) (by omega)
  refine kc_skipQ (kq_code (kc_seq (kc_block (kc_seq (kc_region (kl_mv rfl (kl_inI rfl rfl (by assumption) (by omega) (fun p14 a15 => ?_))))))))
  refine kl_ld rfl (by assumption) (kl_as rfl (kl_as rfl (kl_nil (kq_code (kc_seq (kc_region (kl_fd rfl (by assumption) (fun p16 a17 => ?_))))))))
  refine kl_ld rfl (by assumption) (kl_mv rfl (kl_inI rfl rfl (by assumption) (by omega) (fun p18 a19 => ?_)))
  refine kl_ld rfl (by assumption) (kl_mv rfl (kl_callP rfl rfl (has_ok (m.doms.getD k 0) (x.getD k 0) (by omega)) ?_))
  refine kl_not rfl (kl_nil (kq_code (kc_cond rfl (fun c20 => ?_) (fun c20 => ?_))))
  ·skip
   have c20r := c20
   try simp only [smpC, decide_eq_true_eq, decide_eq_false_iff_not] at c20
   refine kc_seq (kc_region (kl_as rfl (kl_nil (kq_code (kc_ret (kq_retP rfl rfl (congrArg Value.bool ?_)))))))
   exact inDom_no (k := k) (by omega) (by assumption)
  ·skip
   have c20r := c20
   try simp only [smpC, decide_eq_true_eq, decide_eq_false_iff_not] at c20
   refine kc_skipQ (kq_code (kc_region (kl_inc rfl rfl (by omega) ?_)))
   refine kl_mv rfl (kl_nil (kq_round0 ((k + 1)) (by omega) (⟨by omega, inDom_step hi11 (by assumption)⟩) (pc 9 rfl pn) (pc 2 rfl (pc 3 rfl (pc 7 rfl (pc 8 rfl pn)))) (List.Sublist.refl _)))
 ·skip
  refine kc_exit (kq_code (kc_seq (kc_region (kl_fd rfl (by assumption) (fun p21 a22 => ?_)))))
  refine kl_ld rfl (by assumption) (kl_mkf rfl ?_)
  refine kl_callP rfl rfl (cf_con_ok m.cons (fun x22 => !(conAt x x22)) (by assumption) (fun _ _ _ ax22 bx22 rx22 x22 hmx22 hax22 hbx22 hrx22 => isSol1_ok x22 x (by rw [hl]; exact ⟨hM.cm hmx22⟩) hX hax22 hbx22 hrx22 (by assumption) (by assumption))) ?_
  refine kl_not rfl (kl_as rfl (kl_nil (kq_code (kc_ret (kq_retP rfl rfl (congrArg Value.bool ?_))))))
  exact inDom_yes hi11 (by omega) (by simp [metB, List.all_eq_not_any_not])
theorem filtered_ok {Hmd : Hp} {vmd : Value} {Hmc : Hp} {vmc : Value} {Hds : Hp} {vds : Value} (m : Mod) (ds : List Int) (hM : MOk m) (hd : DOk m.doms.length ds) (hmd : Ints Hmd vmd m.doms) (hmc : Cons Hmc vmc m.cons) (hds : Ints Hds vds ds) : Spec Tryz.prog 142 [.agg #[vmd, vmc], vds] [Hmd, Hmc, Hds] (fun Hq vq => Ints (orHp Hds Hq) vq (filtA m ds)) := by
 refine spec_of Tryz.func142 rfl rfl rfl (fun B => ?_)
 refine kc_seq (kc_region (kl_box rfl rfl (fun p1 H2 f3 a4 => ?_)))
 refine kl_as rfl (kl_nil (kq_code (kc_seq (kc_seq (kc_region (kl_fd rfl (by assumption) (fun p5 a6 => ?_)))))))
 refine kl_ld rfl (by assumption) (kl_len rfl (by assumption) (fun l7 => ?_))
 refine kl_mv rfl (kl_nil (kq_code (kc_block (kc_loopK (A := Nat × List Int × Value × Hp) (fun zz => (zz.1 ≤ m.cons.length) ∧ (zz.2.1 = filtC (m.cons.take zz.1) ds) ∧ Fr B zz.2.2.2 ∧ Ints (orHp Hds zz.2.2.2) zz.2.2.1 zz.2.1) (fun zz => m.cons.length - zz.1) (fun zz => zz.2.2.2) (fun zz => []) (fun zz => [(10, .int .i64 (zz.1 : Int)), (1, zz.2.2.1)]) (0, ds, vds, noHp) (pc 4 rfl (pc 8 rfl (pc 9 rfl pn))) (pc 10 rfl (pc 1 rfl pn)) rfl ⟨Nat.zero_le _, rfl, (fr_no _), (Sl.mono (by assumption) orL (fun _ _ h => h))⟩ ?_))))
 rintro ⟨k, xs, v10, K11⟩ hJ14
 obtain ⟨hk8, hi9, f12, h13⟩ : (k ≤ m.cons.length) ∧ (xs = filtC (m.cons.take k) ds) ∧ Fr B K11 ∧ Ints (orHp Hds K11) v10 xs := hJ14
 change KC _ _ (K11 :: _) [] _ ([(10, .int .i64 (k : Int)), (1, v10)] ++ _)
 refine kc_seq (kc_region (kl_lss rfl rfl ?_))
 refine kl_nil (kq_code (kc_seq (kc_if rfl (fun c15 => ?_) (fun c15 => ?_))))
 ·skip
  have hD := filtC_at hM hd hi9
  have hC : ConOk (m.cons.getD k nilCon) xs.length := (by rw [hD.l]; exact ⟨hM.c (by omega)⟩)
  refine kc_skipQ (kq_code (kc_seq (kc_block (kc_seq (kc_region (kl_inC rfl rfl (by assumption) (by omega) (fun p16 u18 u19 u20 h21 h22 h23 a17 => ?_)))))))
  refine kl_ldS rfl (by assumption) rfl ?_
  refine kl_alloc (cs := [.int .i64 (0 : Int), .slice none 0 0, .slice none 0 0, .int .i64 (0 : Int), .slice none 0 0]) rfl (fun b24 hb25 => ?_)
  refine kl_stW (us := [.int .i64 ((m.cons.getD k nilCon).kind), u18, u19, .int .i64 ((m.cons.getD k nilCon).bound), u20]) rfl rfl rfl rfl (oc rfl (oc (Sl.oneCell (by assumption)) (oc (Sl.oneCell (by assumption)) (oc rfl (oc (Sl.oneCell (by assumption)) oc_nil))))) rfl ?_
  refine kl_nil (kq_code (kc_region (kl_ldW rfl rfl (kl_mv rfl (kl_call rfl rfl (filter_ok (m.cons.getD k nilCon) xs hC hD.d (by assumption) (by assumption) (by assumption) (by assumption)) (fun v26 H27 f28 h29 => ?_))))))
  refine kl_as rfl (kl_nil (kq_code (kc_region (kl_inc rfl rfl (by omega) ?_))))
  refine kl_mv rfl (kl_nil (kq_cmp Hds H27 (fun c30 => ?_)))
  refine kq_roundK ((k + 1), (filtL (m.cons.getD k nilCon) xs), v26, H27) (by omega) (⟨by omega, (by rw [filtC_step (by omega), ← hi9]), f28, (Sl.mono (by assumption) (orC c30) (fun _ _ h => h))⟩) (pc 10 rfl (pc 1 rfl pn)) (pc 4 rfl (pc 8 rfl (pc 9 rfl pn))) rfl (.cons _ (List.Sublist.refl _))
 ·skip
  refine kc_exit (kq_code (kc_seq (kc_region (kl_mv rfl (kl_as rfl (kl_nil (kq_code (kc_ret ?_))))))))
  have e9 : xs = filtA m ds := by (rw [hi9, List.take_of_length_le (by omega)]; rfl)
  exact kq_ret rfl rfl K11 f12 (e9 ▸ (by assumption : Ints _ _ xs))
theorem fixI_ok {Hds : Hp} {vds : Value} {Hmd : Hp} {vmd : Value} {Hmc : Hp} {vmc : Value} (ds : List Int) (m : Mod) (hM : MOk m) (hd : DOk m.doms.length ds) (hds : Ints Hds vds ds) (hmd : Ints Hmd vmd m.doms) (hmc : Cons Hmc vmc m.cons) : Spec Tryz.prog 141 [vds, .func (.func 142) #[.agg #[vmd, vmc]] #[]] [Hds, Hmd, Hmc] (fun Hq vq => Ints Hq vq (prop m ds)) := by
 refine spec_of Tryz.func141 rfl rfl rfl (fun B => ?_)
 refine kc_seq (kc_region (kl_as rfl (kl_nil (kq_code (kc_seq (kc_region (kl_mv rfl (kl_call rfl rfl (copied_ok ds (by have := hd.l; have := hM.n; omega) (by assumption)) (fun v1 H2 f3 o4 => ?_)))))))))
 have h5 := OwnL.ints o4
 refine kl_as rfl (kl_nil (kq_code (kc_block (kc_loopK (A := List Int × Value × Hp) (fun zz => (DOk m.doms.length zz.1 ∧ prop m zz.1 = prop m ds) ∧ Fr B zz.2.2 ∧ Ints zz.2.2 zz.2.1 zz.1) (fun zz => sumN zz.1) (fun zz => zz.2.2) (fun zz => []) (fun zz => [(5, zz.2.1)]) (ds, v1, H2) (pc 1 rfl pn) (pc 5 rfl pn) rfl ⟨⟨hd, rfl⟩, f3, (by assumption)⟩ ?_))))
 rintro ⟨xs, v8, K9⟩ hJ12
 obtain ⟨hi7, f10, h11⟩ : (DOk m.doms.length xs ∧ prop m xs = prop m ds) ∧ Fr B K9 ∧ Ints K9 v8 xs := hJ12
 change KC _ _ (K9 :: _) [] _ ([(5, v8)] ++ _)
 have hD := hi7.1
 refine kc_block (kc_seq (kc_seq (kc_region (kl_mv rfl (kl_callP rfl rfl (containsInts_ok xs (0 : Int) (by assumption)) ?_)))))
 refine kl_nil (kq_code (kc_cond rfl (fun c13 => ?_) (fun c13 => ?_)))
 ·skip
  have c13r := c13
  try simp only [smpC, decide_eq_true_eq, decide_eq_false_iff_not] at c13
  refine kc_seq (kc_region (kl_mv rfl (kl_len rfl (by assumption) (fun l14 => ?_))))
  refine kl_mkL (R := IntV) (0 : Int) rfl rfl (by (have := hD.l; have := hM.n; omega)) (by decide) (by exact rfl) (fun v15 H16 f17 o18 => ?_)
  refine kl_as rfl (kl_nil (kq_code (kc_ret ?_)))
  have e9 : (List.replicate xs.length (0 : Int)) = prop m ds := by (rw [← hi7.2]; exact (prop_0 (by assumption)).symm)
  exact kq_ret rfl rfl H16 f17 (e9 ▸ OwnL.ints o18)
 ·skip
  have c13r := c13
  try simp only [smpC, decide_eq_true_eq, decide_eq_false_iff_not] at c13
  refine kc_skipQ (kq_code (kc_seq (kc_region (kl_mv rfl (kl_mv rfl (kl_callB rfl rfl (filtered_ok m xs hM hD (by assumption) (by assumption) (by assumption)) (fun v19 H20 f21 h22 => ?_)))))))
  refine kl_as rfl (kl_nil (kq_code (kc_seq (kc_seq (kc_region (kl_mv rfl (kl_mv rfl (kl_callP rfl rfl (equal_ok (filtA m xs) xs (by assumption) (by assumption)) ?_))))))))
  refine kl_nil (kq_code (kc_cond rfl (fun c23 => ?_) (fun c23 => ?_)))
  ·skip
   have c23r := c23
   try simp only [smpC, decide_eq_true_eq, decide_eq_false_iff_not] at c23
   refine kc_seq (kc_region (kl_mv rfl (kl_as rfl (kl_nil (kq_code (kc_ret ?_))))))
   have e9 : xs = prop m ds := by (rw [← hi7.2]; exact (prop_fix (by assumption) (by assumption)).symm)
   exact kq_ret rfl rfl K9 f10 (e9 ▸ (by assumption : Ints _ _ xs))
  ·skip
   have c23r := c23
   try simp only [smpC, decide_eq_true_eq, decide_eq_false_iff_not] at c23
   refine kc_skipQ (kq_code (kc_region (kl_mv rfl (kl_as rfl (kl_nil (kq_roundK ((filtA m xs), v19, (orHp K9 H20)) (by (dsimp only; exact filtA_lt hM hD (by assumption))) (⟨⟨(filtA_ok hM hD).1, (prop_step hM hD (by assumption) (by assumption)).trans hi7.2⟩, (fr_or f10 f21), (by assumption)⟩) (pc 5 rfl pn) (pc 1 rfl pn) rfl (List.Sublist.refl _)))))))
theorem propagate_ok {Hmd : Hp} {vmd : Value} {Hmc : Hp} {vmc : Value} {Hds : Hp} {vds : Value} (m : Mod) (ds : List Int) (hM : MOk m) (hd : DOk m.doms.length ds) (hmd : Ints Hmd vmd m.doms) (hmc : Cons Hmc vmc m.cons) (hds : Ints Hds vds ds) : Spec Tryz.prog 113 [.agg #[vmd, vmc], vds] [Hmd, Hmc, Hds] (fun Hq vq => Ints Hq vq (prop m ds)) := by
 refine spec_of Tryz.func113 rfl rfl rfl (fun B => ?_)
 refine kc_seq (kc_region (kl_box rfl rfl (fun p1 H2 f3 a4 => ?_)))
 refine kl_as rfl (kl_nil (kq_code (kc_seq (kc_region (kl_mv rfl (kl_ldS rfl (by assumption) rfl ?_))))))
 refine kl_mkfB rfl rfl ?_
 refine kl_call rfl rfl (fixI_ok ds m hM hd (by assumption) (by assumption) (by assumption)) (fun v5 H6 f7 h8 => ?_)
 refine kl_as rfl (kl_nil (kq_code (kc_ret ?_)))
 exact kq_ret rfl rfl H6 f7 (by assumption)
theorem solutions_ok {Hmd : Hp} {vmd : Value} {Hmc : Hp} {vmc : Value} (m : Mod) (hM : MOk m) (hmd : Ints Hmd vmd m.doms) (hmc : Cons Hmc vmc m.cons) : Spec Tryz.prog 78 [.agg #[vmd, vmc]] [Hmd, Hmc] (fun Hq vq => Rows Hq vq (sols m)) := by
 have hn := hM.n
 have hp := propOk hM hM.dok
 refine spec_ofR Tryz.func78 rfl rfl rfl (fun B => ?_)
 refine kc_seq (kc_region (kl_box rfl rfl (fun p1 H2 f3 a4 => ?_)))
 refine kl_as rfl (kl_nil (kq_code (kc_seq (kc_region (kl_bs0 RowV rfl (fun v5 H6 f7 o8 => ?_))))))
 refine kl_alloc (cs := [.slice none 0 0]) rfl (fun b9 hb10 => ?_)
 refine kl_stB rfl rfl rfl (OwnL.oneCell (by assumption)) (OwnL.cells (by assumption)) ?_
 refine kl_chg [sing b9 (.cells [v5].toArray 55 (0, 0)), H6] rfl ?_
 refine kl_nil (kq_code (kc_seq (kc_seq (kc_region (kl_ldS rfl (by assumption) rfl ?_)))))
 refine kl_fd rfl (by assumption) (fun p11 a12 => ?_)
 refine kl_ld rfl (by assumption) (kl_call rfl rfl (propagate_ok m m.doms hM hM.dok (by assumption) (by assumption) (by assumption)) (fun v13 H14 f15 h16 => ?_))
 refine kl_call rfl rfl (tuples_ok (prop m m.doms) (by assumption)) (fun v17 H18 f19 h20 => ?_)
 obtain ⟨p21, rfl, a22⟩ := h20
 refine kl_nil (kq_code (kc_block (kc_noO ?_)))
 refine kc_range (A := List (List Int) × Value × Hp × Hp) (fun zz => [zz.2.2.2, sing b9 (.cells [zz.2.1].toArray 55 (0, 0)), zz.2.2.1]) (fun n zz => (zz.1 = ((tupL (prop m m.doms)).take n).filter (isSolB m)) ∧ Fr B zz.2.2.2 ∧ OwnL 22 1 zz.2.2.1 zz.2.2.2 RowV zz.2.1 zz.1 ∧ Fr B zz.2.2.1) (fun _ _ => False) (([]), v5, H6, noHp) rfl (tuples_it (prop m m.doms) hp.ok.d (by have := hp.ok.l; omega) a22 (by assumption)) (pc 1 rfl (pc 2 rfl (pc 3 rfl pn))) rfl rfl ⟨rfl, (fr_no _), o8, f7⟩ ?_ ?_ (fun _ _ _ _ h => h.elim)
 ·skip
  rintro l30 m31 D32 r33 H34 v35 n ⟨out, v24, H25, K28⟩ hk36 hJ37 h38
  obtain ⟨hi23, f29, o26, f27⟩ : (out = ((tupL (prop m m.doms)).take n).filter (isSolB m)) ∧ Fr B K28 ∧ OwnL 22 1 H25 K28 RowV v24 out ∧ Fr B H25 := hJ37
  have hb := mem_tupL.1 (getD_mem (d := []) hk36)
  have hT := take_succ_getD [] hk36
  obtain ⟨x, hx⟩ : ∃ x, (tupL (prop m m.doms)).getD n [] = x := ⟨_, rfl⟩
  rw [hx] at h38 hb hT
  have hX := hb.vals
  have hl := hb.1
  have hl2 := hp.ok.l
  have hr := sol_room hp.ok hn.2 hi23 hk36
  change KC _ _ _ (rdy l30 r33 :: [K28, sing b9 (.cells [v24].toArray 55 (0, 0)), H25]) _ _
  refine kc_region (kl_as rfl (kl_nil (kq_begin (r := r33) ?_)))
  refine kc_block (kc_seq (kc_region (kl_ldS rfl (by assumption) rfl ?_)))
  refine kl_mv rfl (kl_callP rfl rfl (isSol_ok m x hM (by omega) hX (by assumption) (by assumption) (by assumption)) ?_)
  refine kl_nil (kq_code (kc_cond rfl (fun c40 => ?_) (fun c40 => ?_)))
  ·skip
   have c40r := c40
   try simp only [smpC, decide_eq_true_eq, decide_eq_false_iff_not] at c40
   refine kc_tree (fun i => ([4, 5] : List Nat).contains i) [sing b9 (.cells [v24].toArray 55 (0, 0))] (by kernel_rfl) ?_
   refine kt_q 0 (.cons _ (.cons _ (.cons_cons _ (List.nil_sublist _)))) rfl (by kernel_rfl) (kl_ld rfl (at_box (T := 55) (cs := [v24]) (off := 0) (fz := (0, 0))) (kl_nil (kq_q (kt_q 1 (.cons _ (.cons _ (.cons_cons _ (List.nil_sublist _)))) rfl (by kernel_rfl) (kl_mv rfl (kl_nil (kq_q (kt_a 2 rfl (by kernel_rfl) (kl_callL rfl rfl (copied_ok x (by omega) (by assumption)) (fun v41 H42 f43 o44 => ?_))))))))))
   refine kl_nil (kq_a (.cons _ (.cons _ (.cons _ (.cons_cons _ (List.nil_sublist _))))) (kt_a 3 rfl (by kernel_rfl) (kl_bs rfl rfl rfl (by decide) (ca (by first | exact Sl.cells (by assumption) | exact OwnL.cells (by assumption)) ca_nil) (fun v45 H46 f47 r48 s49 => ?_))))
   refine kl_nil (kq_a (.cons _ (.cons _ (.cons _ (.cons_cons _ (List.nil_sublist _))))) ?_)
   have h50 := OwnL.ints o44
   refine kt_a 4 rfl (by kernel_rfl) (kl_cmp K28 H42 (fun c51 => ?_))
   have o52 := OwnL.mono (K' := orHp K28 H42) o26 orL
   refine kl_apL x rfl rfl o52 (by assumption) ⟨_, rfl, Sl.mono (by assumption) (orC c51) (fun _ _ h => h)⟩ (oc (Sl.oneCell (by assumption)) oc_nil) (by omega) (by decide) (fun v53 H54 o55 f56 => ?_)
   have f57 := f56 B f27 (Nat.le_refl _)
   refine kl_nil (kq_x rfl (kt_a 5 rfl (by kernel_rfl) (kl_stB rfl rfl rfl (OwnL.oneCell (by assumption)) (OwnL.cells (by assumption)) ?_)))
   refine kl_chg [H42, bsy l30 r33, K28, sing b9 (.cells [v53].toArray 55 (0, 0)), H54] rfl ?_
   refine kl_nil (kq_x rfl (kt_end (by kernel_rfl) ?_))
   refine kq_mrg K28 H42 ?_
   refine kq_take [bsy l30 r33, orHp K28 H42, sing b9 (.cells [v53].toArray 55 (0, 0)), H54] ?_
   exact kq_rend (invx := fun _ _ => False) ((out ++ [x]), v53, H54, (orHp K28 H42)) ⟨(by rw [hT, List.filter_append, ← hi23]; first | rw [filter_oneT (by assumption)] | (rw [filter_oneF (by assumption), List.append_nil])), (fr_or f29 f43), o55, f57⟩ rfl inferInstance (List.Sublist.refl _)
  ·skip
   have c40r := c40
   try simp only [smpC, decide_eq_true_eq, decide_eq_false_iff_not] at c40
   refine kc_skipQ (kq_take [bsy l30 r33, K28, sing b9 (.cells [v24].toArray 55 (0, 0)), H25] ?_)
   exact kq_rend (invx := fun _ _ => False) (out, v24, H25, K28) ⟨(by rw [hT, List.filter_append, ← hi23]; first | rw [filter_oneT (by assumption)] | (rw [filter_oneF (by assumption), List.append_nil])), f29, o26, f27⟩ rfl inferInstance (List.Sublist.refl _)
 ·skip
  rintro D58 ⟨out, v24, H25, K28⟩ hD59 hJ60
  obtain ⟨hi23, f29, o26, f27⟩ : (out = ((tupL (prop m m.doms)).take ((tupL (prop m m.doms)).length)).filter (isSolB m)) ∧ Fr B K28 ∧ OwnL 22 1 H25 K28 RowV v24 out ∧ Fr B H25 := hJ60
  change KQ _ _ ([K28, sing b9 (.cells [v24].toArray 55 (0, 0)), H25]) _ _
  refine kq_code (kc_seq (kc_region (kl_ldB rfl rfl (kl_as rfl (kl_nil (kq_code (kc_ret (kq_cmp H25 K28 (fun c61 => ?_)))))))))
  have e9 : out = sols m := by rw [hi23, List.take_length]; exact sols_prop hM
  exact kq_retR (rss1 rfl (rs_tmp rfl)) (orHp H25 K28) (fr_or f27 f29) (e9 ▸ OwnL.rowsK o26 c61) (df1 hD59)
theorem isNaN_ok (x : Int) : SpecP Tryz.prog 138 [.int .i64 x] [] (.bool false) := by
 refine spec_of Tryz.func138 rfl rfl rfl (fun B => ?_)
 refine kc_seq (kc_region (kl_as rfl (kl_nil (kq_code (kc_seq (kc_region (kl_mv rfl (kl_mv rfl (kl_neq rfl rfl ?_)))))))))
 refine kl_as rfl (kl_nil (kq_code (kc_ret (kq_retP rfl rfl (congrArg Value.bool ?_)))))
 simp
theorem cmpInt_ok (a : Int) (b : Int) : SpecP Tryz.prog 110 [.int .i64 a, .int .i64 b] [] (.int .i64 (cmpI a b)) := by
 refine spec_of Tryz.func110 rfl rfl rfl (fun B => ?_)
 refine kc_seq (kc_region (kl_as rfl (kl_nil (kq_code (kc_seq (kc_region (kl_mv rfl (kl_callP rfl rfl (isNaN_ok a) ?_))))))))
 refine kl_as rfl (kl_nil (kq_code (kc_seq (kc_region (kl_mv rfl (kl_callP rfl rfl (isNaN_ok b) ?_))))))
 refine kl_as rfl (kl_nil (kq_code (kc_seq (kc_seq (kc_region (kl_mv rfl (kl_nil (kq_code (kc_cond rfl (fun c1 => ?_) (fun c1 => ?_))))))))))
 ·skip
  have c1r := c1
  try simp only [smpC, decide_eq_true_eq, decide_eq_false_iff_not] at c1
  exact absurd c1r (by decide)
 ·skip
  have c1r := c1
  try simp only [smpC, decide_eq_true_eq, decide_eq_false_iff_not] at c1
  refine kc_skipQ (kq_code (kc_seq (kc_seq (kc_region (kl_mv rfl (kl_nil (kq_code (kc_cond rfl (fun c2 => ?_) (fun c2 => ?_)))))))))
  ·skip
   have c2r := c2
   try simp only [smpC, decide_eq_true_eq, decide_eq_false_iff_not] at c2
   exact absurd c2r (by decide)
  ·skip
   have c2r := c2
   try simp only [smpC, decide_eq_true_eq, decide_eq_false_iff_not] at c2
   refine kc_skipQ (kq_code (kc_seq (kc_seq (kc_region (kl_mv rfl (kl_mv rfl (kl_lss rfl rfl ?_)))))))
   refine kl_nil (kq_code (kc_if rfl (fun c3 => ?_) (fun c3 => ?_)))
   ·skip
    refine kc_seq (kc_region (kl_as rfl (kl_nil (kq_code (kc_ret (kq_retP rfl rfl (congrArg (Value.int .i64) ?_)))))))
    exact cmpI_1 (by assumption)
   ·skip
    refine kc_skipQ (kq_code (kc_seq (kc_seq (kc_region (kl_mv rfl (kl_mv rfl (kl_gtr rfl rfl ?_)))))))
    refine kl_nil (kq_code (kc_if rfl (fun c4 => ?_) (fun c4 => ?_)))
    ·skip
     refine kc_seq (kc_region (kl_as rfl (kl_nil (kq_code (kc_ret (kq_retP rfl rfl (congrArg (Value.int .i64) ?_)))))))
     exact cmpI_2 (by assumption) (by assumption)
    ·skip
     refine kc_skipQ (kq_code (kc_seq (kc_region (kl_as rfl (kl_nil (kq_code (kc_ret (kq_retP rfl rfl (congrArg (Value.int .i64) ?_)))))))))
     exact cmpI_3 (by assumption) (by assumption)
theorem cmpL_ok {Ha : Hp} {va : Value} {Hb : Hp} {vb : Value} (a : List Int) (b : List Int) (hl : a.length = b.length) (ha : Ints Ha va a) (hb : Ints Hb vb b) : SpecP Tryz.prog 74 [va, vb] [Ha, Hb] (.int .i64 (lexC a b)) := by
 refine spec_of Tryz.func74 rfl rfl rfl (fun B => ?_)
 refine kc_seq (kc_region (kl_as rfl (kl_nil (kq_code (kc_seq (kc_seq (kc_region (kl_mv rfl (kl_len rfl (by assumption) (fun l1 => ?_))))))))))
 refine kl_mv rfl (kl_nil (kq_code (kc_block (kc_loop0 (A := Nat) (fun zz => (zz ≤ a.length) ∧ (a.take zz = b.take zz)) (fun zz => a.length - zz) (fun zz => [(11, .int .i64 (zz : Int))]) (0) (pc 0 rfl (pc 1 rfl (pc 9 rfl (pc 10 rfl pn)))) (pc 11 rfl pn) ⟨Nat.zero_le _, rfl⟩ ?_))))
 rintro k hJ4
 obtain ⟨hk2, hi3⟩ : (k ≤ a.length) ∧ (a.take k = b.take k) := hJ4
 change KC _ _ (_) _ _ ([(11, .int .i64 (k : Int))] ++ _)
 refine kc_seq (kc_region (kl_lss rfl rfl ?_))
 refine kl_nil (kq_code (kc_seq (kc_if rfl (fun c5 => ?_) (fun c5 => ?_))))
 ·skip
  refine kc_skipQ (kq_code (kc_seq (kc_block (kc_seq (kc_region (kl_mv rfl (kl_inI rfl rfl (by assumption) (by omega) (fun p6 a7 => ?_))))))))
  refine kl_ld rfl (by assumption) (kl_as rfl (kl_as rfl (kl_nil (kq_code (kc_seq (kc_seq (kc_region (kl_mv rfl (kl_mv rfl (kl_len rfl (by assumption) (fun l8 => ?_)))))))))))
  refine kl_geq rfl rfl ?_
  refine kl_nil (kq_code (kc_if rfl (fun c9 => ?_) (fun c9 => ?_)))
  ·skip
   exfalso; omega
  ·skip
   refine kc_skipQ (kq_code (kc_seq (kc_region (kl_mv rfl (kl_mv rfl (kl_inI rfl rfl (by assumption) (by omega) (fun p10 a11 => ?_)))))))
   refine kl_ld rfl (by assumption) (kl_as rfl (kl_nil (kq_code (kc_seq (kc_region (kl_mv rfl (kl_mv rfl (kl_callP rfl rfl (cmpInt_ok (a.getD k 0) (b.getD k 0)) ?_))))))))
   refine kl_as rfl (kl_nil (kq_code (kc_seq (kc_region (kl_mv rfl (kl_neq rfl rfl ?_))))))
   refine kl_nil (kq_code (kc_if rfl (fun c12 => ?_) (fun c12 => ?_)))
   ·skip
    refine kc_seq (kc_region (kl_mv rfl (kl_as rfl (kl_nil (kq_code (kc_ret (kq_retP rfl rfl (congrArg (Value.int .i64) ?_))))))))
    exact lexC_hit hl (by omega) hi3 (by assumption)
   ·skip
    refine kc_skipQ (kq_code (kc_region (kl_inc rfl rfl (by omega) ?_)))
    refine kl_mv rfl (kl_nil (kq_round0 ((k + 1)) (by omega) (⟨by omega, lexC_step hl (by omega) hi3 (Decidable.not_not.1 (by assumption))⟩) (pc 11 rfl pn) (pc 0 rfl (pc 1 rfl (pc 9 rfl (pc 10 rfl pn)))) (List.Sublist.refl _)))
 ·skip
  refine kc_exit (kq_code (kc_seq (kc_seq (kc_region (kl_mv rfl (kl_len rfl (by assumption) (fun l13 => ?_)))))))
  refine kl_mv rfl (kl_len rfl (by assumption) (fun l14 => ?_))
  refine kl_lss rfl rfl ?_
  refine kl_nil (kq_code (kc_if rfl (fun c15 => ?_) (fun c15 => ?_)))
  ·skip
   exfalso; omega
  ·skip
   refine kc_skipQ (kq_code (kc_seq (kc_region (kl_as rfl (kl_nil (kq_code (kc_ret (kq_retP rfl rfl (congrArg (Value.int .i64) ?_)))))))))
   exact lexC_end hl (by omega) hi3
end Go.Proofs.YtkfioalfofoikaaGreat
