/- Walks of functions of the program: each returns what the plain function gives. Conditions: those that each statement names. -/
import Derived.Test.YtpnkinblekmjlaaGreatDoorWfix
import Derived.Test.YtpnkinblekmjlaaGreatDoorWsolve
import Derived.Test.YtpnkinblekmjlaaGreatDoorPureR
namespace Go.Proofs.YtpnkinblekmjlaaGreatDoor
open Go
set_option linter.unusedSimpArgs false
set_option linter.unusedVariables false
theorem isSolI_ok {Hmd : Hp} {vmd : Value} {Hmc : Hp} {vmc : Value} {Hx : Hp} {vx : Value} (m : Mod) (x : List Int) (hmd : Ints Hmd vmd m.doms) (hmc : Cons Hmc vmc m.cons) (hx : Ints Hx vx x) : SpecP Tryz.prog 27 [.agg #[vmd, vmc], vx] [Hmd, Hmc, Hx] (.bool (isSolT m x)) := by
 refine spec_of Tryz.func27 rfl rfl rfl (fun B => ?_)
 refine kc_seq (kc_region ?_)
 refine kl_box rfl rfl (fun p1 H2 f3 a4 => ?_)
 refine kl_as rfl ?_
 refine kl_nil (kq_code (kc_seq (kc_region ?_)))
 refine kl_ldS rfl (by assumption) rfl ?_
 refine kl_callP rfl rfl (validMod_ok m (by assumption) (by assumption)) ?_
 refine kl_mv rfl ?_
 refine kl_join 6 13 (.bool ((validModB m) && (decide ((x.length : Int) = (m.doms.length : Int)) && allInB x 0 5))) (pc 1 rfl (pc 2 rfl (pc 4 rfl (pc 7 rfl pn)))) (fun J9 => ?_) ?_
 ·rcases Bool.eq_false_or_eq_true (validModB m) with g5 | g5
  ·skip
   have g5p := g5
   try simp only [Bool.not_eq_true', Bool.not_eq_false', decide_eq_true_eq, decide_eq_false_iff_not, Bool.and_eq_true, Bool.or_eq_false_iff, withinB_iff] at g5p
   refine kl_gT rfl rfl g5 ?_
   refine kl_mv rfl ?_
   refine kl_gT rfl rfl g5 ?_
   refine kl_fd rfl (by assumption) (fun p6 a7 => ?_)
   refine kl_gT rfl rfl g5 ?_
   refine kl_ld rfl (by assumption) ?_
   refine kl_gT rfl rfl g5 ?_
   refine kl_len rfl (by assumption) (fun l8 => ?_)
   refine kl_gT rfl rfl g5 ?_
   refine kl_callP rfl rfl (assigned_ok x (m.doms.length : Int) (by assumption)) ?_
   refine kl_andT rfl rfl g5 ?_
   exact J9 _ (pc 13 rfl (pc 1 rfl (pc 2 rfl (pc 4 rfl (pc 7 rfl pn)))))
  ·skip
   refine kl_gF rfl rfl g5 ?_
   refine kl_gF rfl rfl g5 ?_
   refine kl_gF rfl rfl g5 ?_
   refine kl_gF rfl rfl g5 ?_
   refine kl_gF rfl rfl g5 ?_
   refine kl_andF (decide ((x.length : Int) = (m.doms.length : Int)) && allInB x 0 5) rfl rfl g5 ?_
   exact J9 _ (pc 13 rfl (pc 1 rfl (pc 2 rfl (pc 4 rfl (pc 7 rfl pn)))))
 refine kl_mv rfl ?_
 refine kl_join 4 18 (.bool (((validModB m) && (decide ((x.length : Int) = (m.doms.length : Int)) && allInB x 0 5)) && (isSolB m x))) (pc 4 rfl (pc 14 rfl pn)) (fun J11 => ?_) ?_
 ·rcases Bool.eq_false_or_eq_true ((validModB m) && (decide ((x.length : Int) = (m.doms.length : Int)) && allInB x 0 5)) with g10 | g10
  ·skip
   have g10p := g10
   try simp only [Bool.not_eq_true', Bool.not_eq_false', decide_eq_true_eq, decide_eq_false_iff_not, Bool.and_eq_true, Bool.or_eq_false_iff, withinB_iff] at g10p
   have hM : MOk m := ⟨g10p.1⟩
   have hl : x.length = m.doms.length := (by have := g10p.2.1; omega)
   have hX : Vals x := vals_of g10p.2.2
   refine kl_gT rfl rfl g10 ?_
   refine kl_ldS rfl (by assumption) rfl ?_
   refine kl_gT rfl rfl g10 ?_
   refine kl_mv rfl ?_
   refine kl_gT rfl rfl g10 ?_
   refine kl_callP rfl rfl (isSol_ok m x hM hl hX (by assumption) (by assumption) (by assumption)) ?_
   refine kl_andT rfl rfl g10 ?_
   exact J11 _ (pc 18 rfl (pc 4 rfl (pc 14 rfl pn)))
  ·skip
   refine kl_gF rfl rfl g10 ?_
   refine kl_gF rfl rfl g10 ?_
   refine kl_gF rfl rfl g10 ?_
   refine kl_andF (isSolB m x) rfl rfl g10 ?_
   exact J11 _ (pc 18 rfl (pc 4 rfl (pc 14 rfl pn)))
 refine kl_as rfl ?_
 refine kl_nil (kq_code ?_)
 refine kc_ret ?_
 refine kq_retP rfl rfl (congrArg Value.bool ?_)
 rfl
theorem sisSol_ok {Hmd : Hp} {vmd : Value} {Hmc : Hp} {vmc : Value} {Hx : Hp} {vx : Value} (m : Mod) (x : List Int) (hM : MOk m) (hl : x.length = m.doms.length) (hmd : Ints Hmd vmd m.doms) (hmc : Cons Hmc vmc m.cons) (hx : Ints Hx vx x) : SpecP Tryz.prog 22 [.agg #[vmd, vmc], vx] [Hmd, Hmc, Hx] (.bool (isSolS m x)) := by
 refine spec_of Tryz.func22 rfl rfl rfl (fun B => ?_)
 refine kc_seq (kc_region ?_)
 refine kl_box rfl rfl (fun p1 H2 f3 a4 => ?_)
 refine kl_as rfl ?_
 refine kl_nil (kq_code ?_)
 refine kc_seq ?_
 refine kc_seq (kc_region ?_)
 refine kl_as rfl ?_
 refine kl_nil (kq_code ?_)
 refine kc_block ?_
 refine kc_loop0 (A := Nat) (fun zz => (zz ≤ x.length) ∧ (inSTo m x zz = true)) (fun zz => x.length - zz) (fun zz => [(5, .int .i64 (zz : Int))]) (0) (pc 1 rfl (pc 2 rfl pn)) (pc 5 rfl pn) ⟨Nat.zero_le _, rfl⟩ ?_
 rintro k hJ7
 obtain ⟨hk5, hi6⟩ : (k ≤ x.length) ∧ (inSTo m x k = true) := hJ7
 change KC _ _ (_) _ _ ([(5, .int .i64 (k : Int))] ++ _)
 refine kc_seq ?_
 refine kc_seq (kc_region ?_)
 refine kl_mv rfl ?_
 refine kl_mv rfl ?_
 refine kl_len rfl (by assumption) (fun l8 => ?_)
 refine kl_lss rfl rfl ?_
 refine kl_nil (kq_code ?_)
 refine kc_if rfl (fun c9 => ?_) (fun c9 => ?_)
 ·skip
  refine kc_skipQ ?_
  refine kq_code ?_
  refine kc_seq ?_
  refine kc_block ?_
  refine kc_seq ?_
  refine kc_draw 11 [true, true, true, true, true, true, true, true, true, false, true] (by kernel_rfl) (by kernel_rfl) ?_
  refine kl_fd rfl (by assumption) (fun p10 a11 => ?_)
  refine kl_ld rfl (by assumption) ?_
  refine kl_mv rfl ?_
  refine kl_inI rfl rfl (by assumption) (by omega) (fun p12 a13 => ?_)
  refine kl_ld rfl (by assumption) ?_
  refine kl_mv rfl ?_
  refine kl_mv rfl ?_
  refine kl_inI rfl rfl (by assumption) (by omega) (fun p14 a15 => ?_)
  refine kl_ld rfl (by assumption) ?_
  refine kl_callP rfl rfl (domainHas_ok (m.doms.getD k 0) (x.getD k 0)) ?_
  refine kl_not rfl ?_
  refine kl_nil (kq_code ?_)
  refine kc_cond rfl (fun c16 => ?_) (fun c16 => ?_)
  ·skip
   have c16r := c16
   try simp only [Bool.not_eq_true', Bool.not_eq_false', Bool.not_true, Bool.not_false, decide_eq_true_eq, decide_eq_false_iff_not, Bool.and_eq_true, Bool.or_eq_false_iff] at c16
   refine kc_seq (kc_region ?_)
   refine kl_as rfl ?_
   refine kl_nil (kq_code ?_)
   refine kc_ret ?_
   refine kq_retP rfl rfl (congrArg Value.bool ?_)
   exact inS_no (k := k) (by omega) (by assumption)
  ·skip
   have c16r := c16
   try simp only [Bool.not_eq_true', Bool.not_eq_false', Bool.not_true, Bool.not_false, decide_eq_true_eq, decide_eq_false_iff_not, Bool.and_eq_true, Bool.or_eq_false_iff] at c16
   refine kc_skipQ ?_
   refine kq_code ?_
   refine kc_region ?_
   refine kl_mv rfl ?_
   refine kl_inc rfl rfl (by omega) ?_
   refine kl_as rfl ?_
   refine kl_nil ?_
   refine kq_round0 ((k + 1)) (by omega) (⟨by omega, inS_step hi6 (by assumption)⟩) (pc 5 rfl pn) (pc 1 rfl (pc 2 rfl pn)) (List.Sublist.refl _)
 ·skip
  refine kc_exit ?_
  refine kq_code ?_
  refine kc_seq ?_
  refine kc_seq (kc_region ?_)
  refine kl_as rfl ?_
  refine kl_nil (kq_code ?_)
  refine kc_block ?_
  refine kc_loop0 (A := Nat) (fun zz => (zz ≤ m.cons.length) ∧ ((m.cons.take zz).all (conAt x) = true)) (fun zz => m.cons.length - zz) (fun zz => [(6, .int .i64 (zz : Int))]) (0) (pc 1 rfl (pc 2 rfl pn)) (pc 6 rfl pn) ⟨Nat.zero_le _, rfl⟩ ?_
  rintro k2 hJ19
  obtain ⟨hk17, hi18⟩ : (k2 ≤ m.cons.length) ∧ ((m.cons.take k2).all (conAt x) = true) := hJ19
  change KC _ _ (_) _ _ ([(6, .int .i64 (k2 : Int))] ++ _)
  refine kc_seq ?_
  refine kc_seq (kc_region ?_)
  refine kl_mv rfl ?_
  refine kl_fd rfl (by assumption) (fun p20 a21 => ?_)
  refine kl_ld rfl (by assumption) ?_
  refine kl_len rfl (by assumption) (fun l22 => ?_)
  refine kl_lss rfl rfl ?_
  refine kl_nil (kq_code ?_)
  refine kc_if rfl (fun c23 => ?_) (fun c23 => ?_)
  ·skip
   have hX := inS_vals hi6 (by omega)
   have hc : ConOk (m.cons.getD k2 nilCon) x.length := (by rw [hl]; exact ⟨hM.c (by omega)⟩)
   have hf := hM.few
   refine kc_skipQ ?_
   refine kq_code ?_
   refine kc_seq ?_
   refine kc_block ?_
   refine kc_seq ?_
   refine kc_draw 14 [true, true, true, true, true, true, true, true, true, true, true, false, false, true] (by kernel_rfl) (by kernel_rfl) ?_
   refine kl_fd rfl (by assumption) (fun p24 a25 => ?_)
   refine kl_ld rfl (by assumption) ?_
   refine kl_mv rfl ?_
   refine kl_inC rfl rfl (by assumption) (by omega) (fun p26 u28 u29 u30 h31 h32 h33 a27 => ?_)
   refine kl_ldS rfl (by assumption) rfl ?_
   refine kl_fd rfl (by assumption) (fun p34 a35 => ?_)
   refine kl_ld rfl (by assumption) ?_
   refine kl_mv rfl ?_
   refine kl_inC rfl rfl (by assumption) (by omega) (fun p36 u38 u39 u40 h41 h42 h43 a37 => ?_)
   refine kl_ldS rfl (by assumption) rfl ?_
   refine kl_mv rfl ?_
   refine kl_call rfl rfl (project_ok (m.cons.getD k2 nilCon) x hc.vars (by have := hc.one; omega) (by assumption) (by assumption) (by assumption) (by assumption)) (fun v44 H45 f46 h47 => ?_)
   refine kl_callP rfl rfl (satisfies_ok (m.cons.getD k2 nilCon) (wordL (m.cons.getD k2 nilCon).vars x) (hc.sat rfl hX) (by assumption) (by assumption) (by assumption) (by assumption)) ?_
   refine kl_not rfl ?_
   refine kl_nil (kq_code ?_)
   refine kc_cond rfl (fun c48 => ?_) (fun c48 => ?_)
   ·skip
    have c48r := c48
    try simp only [Bool.not_eq_true', Bool.not_eq_false', Bool.not_true, Bool.not_false, decide_eq_true_eq, decide_eq_false_iff_not, Bool.and_eq_true, Bool.or_eq_false_iff] at c48
    refine kc_seq (kc_region ?_)
    refine kl_as rfl ?_
    refine kl_nil (kq_code ?_)
    refine kc_ret ?_
    refine kq_retP rfl rfl (congrArg Value.bool ?_)
    exact met_no (k := k2) (by omega) (by assumption)
   ·skip
    have c48r := c48
    try simp only [Bool.not_eq_true', Bool.not_eq_false', Bool.not_true, Bool.not_false, decide_eq_true_eq, decide_eq_false_iff_not, Bool.and_eq_true, Bool.or_eq_false_iff] at c48
    refine kc_skipQ ?_
    refine kq_code ?_
    refine kc_region ?_
    refine kl_mv rfl ?_
    refine kl_inc rfl rfl (by omega) ?_
    refine kl_as rfl ?_
    refine kl_nil ?_
    refine kq_round0 ((k2 + 1)) (by omega) (⟨by omega, all_take_step (d := nilCon) (by omega) hi18 (by simpa using (by assumption : (!(conAt x (m.cons.getD k2 nilCon))) = false))⟩) (pc 6 rfl pn) (pc 1 rfl (pc 2 rfl pn)) (List.Sublist.refl _)
  ·skip
   refine kc_exit ?_
   refine kq_code ?_
   refine kc_seq (kc_region ?_)
   refine kl_as rfl ?_
   refine kl_nil (kq_code ?_)
   refine kc_ret ?_
   refine kq_retP rfl rfl (congrArg Value.bool ?_)
   exact met_yes hi6 (by omega) hi18 (by omega)
end Go.Proofs.YtpnkinblekmjlaaGreatDoor
