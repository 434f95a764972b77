/- Walks of functions of the program: each returns what the plain function gives. Conditions: those that each statement names. -/
import Derived.Test.YtiilanckbocifaaGreatItr
import Derived.Test.YtiilanckbocifaaGreatWsat
import Derived.Test.YtiilanckbocifaaGreatSol
import Derived.Test.YtiilanckbocifaaGreatPureS
namespace Go.Proofs.YtiilanckbocifaaGreat
open Go
set_option linter.unusedSimpArgs false
set_option linter.unusedVariables false
theorem assigned_ok {Hx : Hp} {vx : Value} (x : List Int) (n : Int) (hx : Ints Hx vx x) : SpecP Tryz.prog 29 [vx, .int .i64 n] [Hx] (.bool (decide ((x.length : Int) = n) && allInB x 0 5)) := by
 refine spec_of Tryz.func29 rfl rfl rfl (fun B => ?_)
 refine kc_seq (kc_region (kl_as rfl (kl_nil (kq_code (kc_seq (kc_region (kl_mv rfl (kl_len rfl (by assumption) (fun l1 => ?_)))))))))
 refine kl_mv rfl (kl_eql rfl rfl ?_)
 refine kl_mv rfl (kl_join 3 12 (.bool (decide ((x.length : Int) = n) && (allInB x (0 : Int) (5 : Int)))) (pc 4 rfl (pc 9 rfl pn)) (fun J3 => ?_) ?_)
 ·rcases Bool.eq_false_or_eq_true (decide ((x.length : Int) = n)) with g2 | g2
  ·skip
   have g2p := of_decide_eq_true g2
   refine kl_gT rfl rfl g2 (kl_mv rfl (kl_gT rfl rfl g2 (kl_callP rfl rfl (allIn_ok x (0 : Int) (5 : Int) (by assumption)) ?_)))
   refine kl_andT rfl rfl g2 ?_
   exact J3 _ (pc 12 rfl (pc 4 rfl (pc 9 rfl pn)))
  ·skip
   refine kl_gF rfl rfl g2 (kl_gF rfl rfl g2 (kl_andF (allInB x (0 : Int) (5 : Int)) rfl rfl g2 ?_))
   exact J3 _ (pc 12 rfl (pc 4 rfl (pc 9 rfl pn)))
 refine kl_as rfl (kl_nil (kq_code (kc_ret (kq_retP rfl rfl (congrArg Value.bool ?_)))))
 rfl
theorem isSol1_ok {Hcv : Hp} {vcv : Value} {Hca : Hp} {vca : Value} {Hcr : Hp} {vcr : Value} {Hx : Hp} {vx : Value} {Hpx : Hp} {ptrpx : Value} (c : Con) (x : List Int) (hC : ConOk c x.length) (hX : Vals x) (hcv : Ints Hcv vcv c.vars) (hca : Ints Hca vca c.args) (hcr : Rows Hcr vcr c.rows) (hx : Ints Hx vx x) (apx : At Hpx ptrpx [vx]) : SpecP Tryz.prog 72 [.agg #[.int .i64 c.kind, vcv, vca, .int .i64 c.bound, vcr], ptrpx] [Hcv, Hca, Hcr, Hx, Hpx] (.bool (!(conAt x c))) := by
 refine spec_of Tryz.func72 rfl rfl rfl (fun B => ?_)
 refine kc_seq (kc_region (kl_box rfl rfl (fun p1 H2 f3 a4 => ?_)))
 refine kl_as rfl (kl_nil (kq_code (kc_seq (kc_region (kl_ldS rfl (by assumption) rfl ?_)))))
 refine kl_ld rfl (by assumption) (kl_callP rfl rfl (holds_ok c x hC hX (by assumption) (by assumption) (by assumption) (by assumption)) ?_)
 refine kl_not rfl (kl_as rfl (kl_nil (kq_code (kc_ret (kq_retP rfl rfl (congrArg Value.bool ?_))))))
 rfl
theorem isSol_ok {Hmd : Hp} {vmd : Value} {Hmc : Hp} {vmc : Value} {Hx : Hp} {vx : Value} (m : Mod) (x : List Int) (hM : MOk m) (hl : x.length = m.doms.length) (hX : Vals x) (hmd : Ints Hmd vmd m.doms) (hmc : Cons Hmc vmc m.cons) (hx : Ints Hx vx x) : SpecP Tryz.prog 30 [.agg #[vmd, vmc], vx] [Hmd, Hmc, Hx] (.bool (isSolB m x)) := by
 refine spec_of Tryz.func30 rfl rfl rfl (fun B => ?_)
 refine kc_seq (kc_region (kl_box rfl rfl (fun p1 H2 f3 a4 => ?_)))
 refine kl_box rfl (Sl.cells (by assumption)) (fun p5 H6 f7 a8 => ?_)
 refine kl_as rfl (kl_nil (kq_code (kc_seq (kc_seq (kc_region (kl_ld rfl (by assumption) (kl_len rfl (by assumption) (fun l9 => ?_))))))))
 refine kl_mv rfl (kl_nil (kq_code (kc_block (kc_loop0 (A := Nat) (fun zz => (zz ≤ x.length) ∧ (inDomTo m x zz = true)) (fun zz => x.length - zz) (fun zz => [(9, .int .i64 (zz : Int))]) (0) (pc 2 rfl (pc 3 rfl (pc 7 rfl (pc 8 rfl pn)))) (pc 9 rfl pn) ⟨Nat.zero_le _, rfl⟩ ?_))))
 rintro k hJ12
 obtain ⟨hk10, hi11⟩ : (k ≤ x.length) ∧ (inDomTo m x k = true) := hJ12
 change KC _ _ (_) _ _ ([(9, .int .i64 (k : Int))] ++ _)
 refine kc_seq (kc_region (kl_lss rfl rfl ?_))
 refine kl_nil (kq_code (kc_seq (kc_if rfl (fun c13 => ?_) (fun c13 => ?_))))
 ·skip
  have hx1 := hX.at (k := k) (by omega)
  refine kc_skipQ (kq_code (kc_seq (kc_block (kc_seq (kc_region (kl_mv rfl (kl_inI rfl rfl (by assumption) (by omega) (fun p14 a15 => ?_))))))))
  refine kl_ld rfl (by assumption) (kl_as rfl (kl_as rfl (kl_nil (kq_code (kc_seq (kc_region (kl_fd rfl (by assumption) (fun p16 a17 => ?_))))))))
  refine kl_ld rfl (by assumption) (kl_mv rfl (kl_inI rfl rfl (by assumption) (by omega) (fun p18 a19 => ?_)))
  refine kl_ld rfl (by assumption) (kl_mv rfl (kl_callP rfl rfl (has_ok (m.doms.getD k 0) (x.getD k 0) (by omega)) ?_))
  refine kl_not rfl (kl_nil (kq_code (kc_cond rfl (fun c20 => ?_) (fun c20 => ?_))))
  ·skip
   have c20r := c20
   try simp only [smpC, decide_eq_true_eq, decide_eq_false_iff_not] at c20
   refine kc_seq (kc_region (kl_as rfl (kl_nil (kq_code (kc_ret (kq_retP rfl rfl (congrArg Value.bool ?_)))))))
   exact inDom_no (k := k) (by omega) (by assumption)
  ·skip
   have c20r := c20
   try simp only [smpC, decide_eq_true_eq, decide_eq_false_iff_not] at c20
   refine kc_skipQ (kq_code (kc_region (kl_inc rfl rfl (by omega) ?_)))
   refine kl_mv rfl (kl_nil (kq_round0 ((k + 1)) (by omega) (⟨by omega, inDom_step hi11 (by assumption)⟩) (pc 9 rfl pn) (pc 2 rfl (pc 3 rfl (pc 7 rfl (pc 8 rfl pn)))) (List.Sublist.refl _)))
 ·skip
  refine kc_exit (kq_code (kc_seq (kc_region (kl_fd rfl (by assumption) (fun p21 a22 => ?_)))))
  refine kl_ld rfl (by assumption) (kl_mkf rfl ?_)
  refine kl_callP rfl rfl (cf_con_ok m.cons (fun x22 => !(conAt x x22)) (by assumption) (fun _ _ _ ax22 bx22 rx22 x22 hmx22 hax22 hbx22 hrx22 => isSol1_ok x22 x (by rw [hl]; exact ⟨hM.cm hmx22⟩) hX hax22 hbx22 hrx22 (by assumption) (by assumption))) ?_
  refine kl_not rfl (kl_as rfl (kl_nil (kq_code (kc_ret (kq_retP rfl rfl (congrArg Value.bool ?_))))))
  exact inDom_yes hi11 (by omega) (by simp [metB, List.all_eq_not_any_not])
end Go.Proofs.YtiilanckbocifaaGreat
