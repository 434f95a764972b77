/- Walks of functions of the program: each returns what the plain function gives. Conditions: those that each statement names. -/
import Derived.Test.YtiilanckbocifaaGreatWtup
import Derived.Test.YtiilanckbocifaaGreatSol
import Derived.Test.YtiilanckbocifaaGreatPureS
namespace Go.Proofs.YtiilanckbocifaaGreat
open Go
set_option linter.unusedSimpArgs false
set_option linter.unusedVariables false
theorem tuples_ok {Hds : Hp} {vds : Value} (ds : List Int) (hds : Ints Hds vds ds) : Spec Tryz.prog 93 [vds] [Hds] (fun Hq vq => ∃ p : Value, vq = .func (.func 124) #[] #[p] ∧ At Hq p [vds]) := by
 refine spec_of Tryz.func93 rfl rfl rfl (fun B => ?_)
 refine kc_seq (kc_region (kl_box rfl (Sl.cells (by assumption)) (fun p1 H2 f3 a4 => ?_)))
 refine kl_as rfl (kl_nil (kq_code (kc_seq (kc_region (kl_mkf rfl ?_)))))
 refine kl_as rfl (kl_nil (kq_code (kc_ret ?_)))
 exact kq_ret rfl rfl H2 f3 ⟨_, rfl, a4⟩
theorem filter_ok {Hcv : Hp} {vcv : Value} {Hca : Hp} {vca : Value} {Hcr : Hp} {vcr : Value} {Hds : Hp} {vds : Value} (c : Con) (ds : List Int) (hC : ConOk c ds.length) (hd : DomV ds) (hcv : Ints Hcv vcv c.vars) (hca : Ints Hca vca c.args) (hcr : Rows Hcr vcr c.rows) (hds : Ints Hds vds ds) : Spec Tryz.prog 152 [.agg #[.int .i64 c.kind, vcv, vca, .int .i64 c.bound, vcr], vds] [Hcv, Hca, Hcr, Hds] (fun Hq vq => Ints Hq vq (filtL c ds)) := by
 have h0 := hC.one
 refine spec_ofR Tryz.func152 rfl rfl rfl (fun B => ?_)
 refine kc_seq (kc_region (kl_box rfl rfl (fun p1 H2 f3 a4 => ?_)))
 refine kl_as rfl (kl_nil (kq_code (kc_seq (kc_region (kl_fd rfl (by assumption) (fun p5 a6 => ?_))))))
 refine kl_ld rfl (by assumption) (kl_len rfl (by assumption) (fun l7 => ?_))
 refine kl_mkL (R := IntV) (0 : Int) rfl rfl (by omega) (by decide) (by exact rfl) (fun v8 H9 f10 o11 => ?_)
 refine kl_alloc (cs := [.slice none 0 0]) rfl (fun b12 hb13 => ?_)
 refine kl_stB rfl rfl rfl (OwnL.oneCell (by assumption)) (OwnL.cells (by assumption)) ?_
 refine kl_nil (kq_code (kc_seq (kc_seq (kc_region (kl_ldS rfl (by assumption) rfl ?_)))))
 refine kl_mv rfl (kl_call rfl rfl (word_ok c ds hC.vars (by have := hC.one; omega) (by assumption) (by assumption) (by assumption) (by assumption)) (fun v14 H15 f16 h17 => ?_))
 refine kl_call rfl rfl (tuples_ok (wordL c.vars ds) (by assumption)) (fun v18 H19 f20 h21 => ?_)
 obtain ⟨p22, rfl, a23⟩ := h21
 refine kl_nil (kq_code (kc_block (kc_range (A := List Int × Value × Hp) (fun zz => [sing b12 (.cells [zz.2.1].toArray 23 (0, 0)), zz.2.2]) (fun n zz => (zz.1 = suppV c ((tupL (wordL c.vars ds)).take n)) ∧ OwnL 3 1 zz.2.2 noHp IntV zz.2.1 zz.1 ∧ Fr B zz.2.2) (fun _ _ => False) ((List.replicate c.vars.length (0 : Int)), v8, H9) rfl (tuples_it (wordL c.vars ds) (word_dom hC hd) (by have := hC.one; simp [wordL]; omega) a23 (by assumption)) (pc 1 rfl (pc 2 rfl (pc 4 rfl (pc 5 rfl pn)))) rfl rfl ⟨(suppV_0 c).symm, o11, f10⟩ ?_ ?_ (fun _ _ _ _ h => h.elim))))
 ·skip
  rintro l29 m30 D31 r32 H33 v34 n ⟨left, v25, H26⟩ hk35 hJ36 h37
  obtain ⟨hi24, o27, f28⟩ : (left = suppV c ((tupL (wordL c.vars ds)).take n)) ∧ OwnL 3 1 H26 noHp IntV v25 left ∧ Fr B H26 := hJ36
  obtain ⟨t, ht⟩ : ∃ t, (tupL (wordL c.vars ds)).getD n [] = t := ⟨_, rfl⟩
  rw [ht] at h37
  have hS : SatOk c t := (tup_sat hC rfl (by rw [← ht]; exact getD_mem hk35))
  have hT := take_succ_getD [] hk35
  rw [ht] at hT
  change KC _ _ _ (rdy l29 r32 :: [sing b12 (.cells [v25].toArray 23 (0, 0)), H26]) _ _
  refine kc_region (kl_as rfl (kl_nil (kq_begin (r := r32) ?_)))
  refine kc_block (kc_seq (kc_region (kl_ldS rfl (by assumption) rfl ?_)))
  refine kl_mv rfl (kl_callP rfl rfl (satisfied_ok c t hS (by assumption) (by assumption) (by assumption) (by assumption)) ?_)
  refine kl_nil (kq_code (kc_cond rfl (fun c39 => ?_) (fun c39 => ?_)))
  ·skip
   have c39r := c39
   try simp only [smpC, decide_eq_true_eq, decide_eq_false_iff_not] at c39
   refine kc_seq (kc_region (kl_mv rfl (kl_len rfl (by assumption) (fun l40 => ?_))))
   refine kl_mv rfl (kl_nil (kq_code (kc_block (kc_loopL (A := Nat × List Int × Value × Hp) (fun zz => (zz.1 ≤ t.length) ∧ (zz.2.1 = suppM c ((tupL (wordL c.vars ds)).take n) t zz.1) ∧ OwnL 3 1 zz.2.2.2 noHp IntV zz.2.2.1 zz.2.1 ∧ Fr B zz.2.2.2) (fun zz => t.length - zz.1) (fun zz => [bsy l29 r32, sing b12 (.cells [zz.2.2.1].toArray 23 (0, 0)), zz.2.2.2]) (fun zz => [(26, .int .i64 (zz.1 : Int))]) (0, left, v25, H26) (pc 1 rfl (pc 2 rfl (pc 4 rfl (pc 5 rfl (pc 6 rfl (pc 20 rfl (pc 21 rfl (pc 22 rfl (pc 23 rfl (pc 24 rfl (pc 25 rfl pn))))))))))) (pc 26 rfl pn) rfl ⟨Nat.zero_le _, (by rw [hi24, suppM_0]), o27, f28⟩ ?_))))
   rintro ⟨k, left1, v46, H43⟩ hJ47
   obtain ⟨hk41, hi42, o44, f45⟩ : (k ≤ t.length) ∧ (left1 = suppM c ((tupL (wordL c.vars ds)).take n) t k) ∧ OwnL 3 1 H43 noHp IntV v46 left1 ∧ Fr B H43 := hJ47
   change KC _ _ (_) [bsy l29 r32, sing b12 (.cells [v46].toArray 23 (0, 0)), H43] _ ([(26, .int .i64 (k : Int))] ++ _)
   have hln : left1.length = c.vars.length := (by rw [hi42]; exact suppM_len c _ t k)
   refine kc_seq (kc_region (kl_lss rfl rfl ?_))
   refine kl_nil (kq_code (kc_seq (kc_if rfl (fun c48 => ?_) (fun c48 => ?_))))
   ·skip
    have hv1 := hS.val.at (k := k) (by omega)
    have hl1 := hS.len
    refine kc_skipQ (kq_code (kc_seq (kc_block (kc_seq (kc_region (kl_mv rfl (kl_inI rfl rfl (by assumption) (by omega) (fun p49 a50 => ?_))))))))
    refine kl_ld rfl (by assumption) (kl_as rfl (kl_as rfl (kl_nil (kq_code (kc_draw 8 [true, true, true, true, true, true, true, true, false] (by kernel_rfl) (by kernel_rfl) ?_)))))
    refine kl_ldB rfl rfl (kl_mv rfl (kl_ixLn rfl rfl (by assumption) (by omega) (fun p51 q52 => ?_)))
    refine kl_ldLI rfl (by assumption) (by assumption) (by omega) ?_
    refine kl_mv rfl (kl_shl rfl rfl (by omega) ?_)
    refine kl_or rfl rfl ?_
    refine kl_ixLn rfl rfl (by assumption) (by omega) (fun p53 q54 => ?_)
    refine kl_stL (ior (left1.getD k 0) (ishl (1 : Int) (t.getD k 0))) rfl rfl (by assumption) o44 (by omega) rfl rfl rfl (fun H55 o56 f57 => ?_)
    have f58 := f57 _ f45
    refine kl_nil (kq_code (kc_region (kl_inc rfl rfl (by omega) ?_)))
    refine kl_mv rfl (kl_nil (kq_roundL ((k + 1), (left1.set k (ior (left1.getD k 0) (ishl (1 : Int) (t.getD k 0)))), v46, H55) (by omega) (⟨by omega, (by rw [hi42]; exact suppM_stepO (by assumption) hS (by omega)), o56, f58⟩) (pc 26 rfl pn) (pc 1 rfl (pc 2 rfl (pc 4 rfl (pc 5 rfl (pc 6 rfl (pc 20 rfl (pc 21 rfl (pc 22 rfl (pc 23 rfl (pc 24 rfl (pc 25 rfl pn))))))))))) rfl (List.Sublist.refl _)))
   ·skip
    refine kc_exit (kq_take [bsy l29 r32, sing b12 (.cells [v46].toArray 23 (0, 0)), H43] ?_)
    exact kq_rend (invx := fun _ _ => False) (left1, v46, H43) ⟨(by rw [hT]; first | exact supp_stepT hi42 hS (by omega) | (rw [suppV_no (by assumption)]; exact hi24)), o44, f45⟩ rfl inferInstance (List.Sublist.refl _)
  ·skip
   have c39r := c39
   try simp only [smpC, decide_eq_true_eq, decide_eq_false_iff_not] at c39
   refine kc_skipQ (kq_take [bsy l29 r32, sing b12 (.cells [v25].toArray 23 (0, 0)), H26] ?_)
   exact kq_rend (invx := fun _ _ => False) (left, v25, H26) ⟨(by rw [hT]; first | exact supp_stepT hi42 hS (by omega) | (rw [suppV_no (by assumption)]; exact hi24)), o27, f28⟩ rfl inferInstance (List.Sublist.refl _)
 ·skip
  rintro D59 ⟨left, v25, H26⟩ hD60 hJ61
  obtain ⟨hi24, o27, f28⟩ : (left = suppV c ((tupL (wordL c.vars ds)).take ((tupL (wordL c.vars ds)).length))) ∧ OwnL 3 1 H26 noHp IntV v25 left ∧ Fr B H26 := hJ61
  change KQ _ _ ([sing b12 (.cells [v25].toArray 23 (0, 0)), H26]) _ _
  have hll : left.length = c.vars.length := (by rw [hi24]; exact suppV_len c _)
  refine kq_code (kc_seq (kc_region (kl_mv rfl (kl_callL rfl rfl (copied_ok ds (by have := hC.one; omega) (by assumption)) (fun v62 H63 f64 o65 => ?_)))))
  refine kl_as rfl (kl_nil (kq_code (kc_seq (kc_seq (kc_region (kl_fd rfl (by assumption) (fun p66 a67 => ?_)))))))
  refine kl_ld rfl (by assumption) (kl_len rfl (by assumption) (fun l68 => ?_))
  refine kl_mv rfl (kl_nil (kq_code (kc_block (kc_loopL (A := Nat × List Int × Hp) (fun zz => (zz.1 ≤ c.vars.length) ∧ (zz.2.1 = filtTo c ds left zz.1) ∧ OwnL 3 1 zz.2.2 noHp IntV v62 zz.2.1 ∧ Fr B zz.2.2) (fun zz => c.vars.length - zz.1) (fun zz => [zz.2.2, sing b12 (.cells [v25].toArray 23 (0, 0)), H26]) (fun zz => [(45, .int .i64 (zz.1 : Int))]) (0, ds, H63) (pc 4 rfl (pc 5 rfl (pc 9 rfl (pc 43 rfl (pc 44 rfl pn))))) (pc 45 rfl pn) rfl ⟨Nat.zero_le _, rfl, o65, f64⟩ ?_))))
  rintro ⟨k2, out, H71⟩ hJ74
  obtain ⟨hk69, hi70, o72, f73⟩ : (k2 ≤ c.vars.length) ∧ (out = filtTo c ds left k2) ∧ OwnL 3 1 H71 noHp IntV v62 out ∧ Fr B H71 := hJ74
  change KC _ _ (_) [H71, sing b12 (.cells [v25].toArray 23 (0, 0)), H26] _ ([(45, .int .i64 (k2 : Int))] ++ _)
  have hln : out.length = ds.length := (by rw [hi70]; exact filtTo_len c ds left k2)
  refine kc_seq (kc_region (kl_lss rfl rfl ?_))
  refine kl_nil (kq_code (kc_seq (kc_if rfl (fun c75 => ?_) (fun c75 => ?_))))
  ·skip
   have hv2 := hC.at (k := k2) (by omega)
   refine kc_skipQ (kq_code (kc_seq (kc_block (kc_seq (kc_region (kl_mv rfl (kl_inI rfl rfl (by assumption) (by omega) (fun p76 a77 => ?_))))))))
   refine kl_ld rfl (by assumption) (kl_as rfl (kl_as rfl (kl_nil (kq_code (kc_region (kl_mv rfl (kl_mv rfl (kl_ldB rfl rfl (kl_mv rfl ?_)))))))))
   refine kl_ixLn rfl rfl (by assumption) (by omega) (fun p78 q79 => ?_)
   refine kl_ldLI rfl (by assumption) (by assumption) (by omega) ?_
   refine kl_ixL rfl rfl (by assumption) (by omega) (by omega) (fun p80 q81 => ?_)
   refine kl_stL (left.getD k2 0) rfl rfl (by assumption) o72 (by omega) rfl rfl rfl (fun H82 o83 f84 => ?_)
   have f85 := f84 _ f73
   refine kl_nil (kq_code (kc_region (kl_inc rfl rfl (by omega) ?_)))
   refine kl_mv rfl (kl_nil (kq_roundL ((k2 + 1), (out.set ((c.vars.getD k2 0).toNat) (left.getD k2 0)), H82) (by omega) (⟨by omega, (by rw [hi70, filtTo_succ]), o83, f85⟩) (pc 45 rfl pn) (pc 4 rfl (pc 5 rfl (pc 9 rfl (pc 43 rfl (pc 44 rfl pn))))) rfl (List.Sublist.refl _)))
  ·skip
   refine kc_exit (kq_code (kc_seq (kc_region (kl_mv rfl (kl_as rfl (kl_nil (kq_code (kc_ret ?_))))))))
   have e9 : out = filtL c ds := by rw [hi70, hi24, List.take_length, show k2 = c.vars.length from by omega]; rfl
   exact kq_retR (rss1 rfl (rs_tmp rfl)) H71 f73 (e9 ▸ OwnL.ints o72) (df1 hD60)
theorem isSol1_ok {Hcv : Hp} {vcv : Value} {Hca : Hp} {vca : Value} {Hcr : Hp} {vcr : Value} {Hx : Hp} {vx : Value} {Hpx : Hp} {ptrpx : Value} (c : Con) (x : List Int) (hC : ConOk c x.length) (hX : Vals x) (hcv : Ints Hcv vcv c.vars) (hca : Ints Hca vca c.args) (hcr : Rows Hcr vcr c.rows) (hx : Ints Hx vx x) (apx : At Hpx ptrpx [vx]) : SpecP Tryz.prog 72 [.agg #[.int .i64 c.kind, vcv, vca, .int .i64 c.bound, vcr], ptrpx] [Hcv, Hca, Hcr, Hx, Hpx] (.bool (!(conAt x c))) := by
 refine spec_of Tryz.func72 rfl rfl rfl (fun B => ?_)
 refine kc_seq (kc_region (kl_box rfl rfl (fun p1 H2 f3 a4 => ?_)))
 refine kl_as rfl (kl_nil (kq_code (kc_seq (kc_region (kl_ldS rfl (by assumption) rfl ?_)))))
 refine kl_ld rfl (by assumption) (kl_callP rfl rfl (holds_ok c x hC hX (by assumption) (by assumption) (by assumption) (by assumption)) ?_)
 refine kl_not rfl (kl_as rfl (kl_nil (kq_code (kc_ret (kq_retP rfl rfl (congrArg Value.bool ?_))))))
 rfl
theorem isSol_ok {Hmd : Hp} {vmd : Value} {Hmc : Hp} {vmc : Value} {Hx : Hp} {vx : Value} (m : Mod) (x : List Int) (hM : MOk m) (hl : x.length = m.doms.length) (hX : Vals x) (hmd : Ints Hmd vmd m.doms) (hmc : Cons Hmc vmc m.cons) (hx : Ints Hx vx x) : SpecP Tryz.prog 30 [.agg #[vmd, vmc], vx] [Hmd, Hmc, Hx] (.bool (isSolB m x)) := by
 refine spec_of Tryz.func30 rfl rfl rfl (fun B => ?_)
 refine kc_seq (kc_region (kl_box rfl rfl (fun p1 H2 f3 a4 => ?_)))
 refine kl_box rfl (Sl.cells (by assumption)) (fun p5 H6 f7 a8 => ?_)
 refine kl_as rfl (kl_nil (kq_code (kc_seq (kc_seq (kc_region (kl_ld rfl (by assumption) (kl_len rfl (by assumption) (fun l9 => ?_))))))))
 refine kl_mv rfl (kl_nil (kq_code (kc_block (kc_loop0 (A := Nat) (fun zz => (zz ≤ x.length) ∧ (inDomTo m x zz = true)) (fun zz => x.length - zz) (fun zz => [(9, .int .i64 (zz : Int))]) (0) (pc 2 rfl (pc 3 rfl (pc 7 rfl (pc 8 rfl pn)))) (pc 9 rfl pn) ⟨Nat.zero_le _, rfl⟩ ?_))))
 rintro k hJ12
 obtain ⟨hk10, hi11⟩ : (k ≤ x.length) ∧ (inDomTo m x k = true) := hJ12
 change KC _ _ (_) _ _ ([(9, .int .i64 (k : Int))] ++ _)
 refine kc_seq (kc_region (kl_lss rfl rfl ?_))
 refine kl_nil (kq_code (kc_seq (kc_if rfl (fun c13 => ?_) (fun c13 => ?_))))
 ·skip
  have hx1 := hX.at (k := k) (by omega)
  refine kc_skipQ (kq_code (kc_seq (kc_block (kc_seq (kc_region (kl_mv rfl (kl_inI rfl rfl (by assumption) (by omega) (fun p14 a15 => ?_))))))))
  refine kl_ld rfl (by assumption) (kl_as rfl (kl_as rfl (kl_nil (kq_code (kc_seq (kc_region (kl_fd rfl (by assumption) (fun p16 a17 => ?_))))))))
  refine kl_ld rfl (by assumption) (kl_mv rfl (kl_inI rfl rfl (by assumption) (by omega) (fun p18 a19 => ?_)))
  refine kl_ld rfl (by assumption) (kl_mv rfl (kl_callP rfl rfl (has_ok (m.doms.getD k 0) (x.getD k 0) (by omega)) ?_))
  refine kl_not rfl (kl_nil (kq_code (kc_cond rfl (fun c20 => ?_) (fun c20 => ?_))))
  ·skip
   have c20r := c20
   try simp only [smpC, decide_eq_true_eq, decide_eq_false_iff_not] at c20
   refine kc_seq (kc_region (kl_as rfl (kl_nil (kq_code (kc_ret (kq_retP rfl rfl (congrArg Value.bool ?_)))))))
   exact inDom_no (k := k) (by omega) (by assumption)
  ·skip
   have c20r := c20
   try simp only [smpC, decide_eq_true_eq, decide_eq_false_iff_not] at c20
   refine kc_skipQ (kq_code (kc_region (kl_inc rfl rfl (by omega) ?_)))
   refine kl_mv rfl (kl_nil (kq_round0 ((k + 1)) (by omega) (⟨by omega, inDom_step hi11 (by assumption)⟩) (pc 9 rfl pn) (pc 2 rfl (pc 3 rfl (pc 7 rfl (pc 8 rfl pn)))) (List.Sublist.refl _)))
 ·skip
  refine kc_exit (kq_code (kc_seq (kc_region (kl_fd rfl (by assumption) (fun p21 a22 => ?_)))))
  refine kl_ld rfl (by assumption) (kl_mkf rfl ?_)
  refine kl_callP rfl rfl (cf_con_ok m.cons (fun x22 => !(conAt x x22)) (by assumption) (fun _ _ _ ax22 bx22 rx22 x22 hmx22 hax22 hbx22 hrx22 => isSol1_ok x22 x (by rw [hl]; exact ⟨hM.cm hmx22⟩) hX hax22 hbx22 hrx22 (by assumption) (by assumption))) ?_
  refine kl_not rfl (kl_as rfl (kl_nil (kq_code (kc_ret (kq_retP rfl rfl (congrArg Value.bool ?_))))))
  exact inDom_yes hi11 (by omega) (by simp [metB, List.all_eq_not_any_not])
end Go.Proofs.YtiilanckbocifaaGreat
