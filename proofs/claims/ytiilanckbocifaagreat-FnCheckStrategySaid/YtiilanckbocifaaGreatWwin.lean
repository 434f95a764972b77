/- Walks of functions of the program: each returns what the plain function gives. Conditions: those that each statement names. -/
import Derived.Test.YtiilanckbocifaaGreatWsat
namespace Go.Proofs.YtiilanckbocifaaGreat
open Go
set_option linter.unusedSimpArgs false
set_option linter.unusedVariables false
theorem met1_ok {Hcv : Hp} {vcv : Value} {Hca : Hp} {vca : Value} {Hcr : Hp} {vcr : Value} {Hx : Hp} {vx : Value} {Hpx : Hp} {ptrpx : Value} (c : Con) (x : List Int) (hC : ConOk c x.length) (hX : Vals x) (hcv : Ints Hcv vcv c.vars) (hca : Ints Hca vca c.args) (hcr : Rows Hcr vcr c.rows) (hx : Ints Hx vx x) (apx : At Hpx ptrpx [vx]) : SpecP Tryz.prog 119 [.agg #[.int .i64 c.kind, vcv, vca, .int .i64 c.bound, vcr], ptrpx] [Hcv, Hca, Hcr, Hx, Hpx] (.bool (!(conAt x c))) := by
 refine spec_of Tryz.func119 rfl rfl rfl (fun B => ?_)
 refine kc_seq (kc_region (kl_box rfl rfl (fun p1 H2 f3 a4 => ?_)))
 refine kl_as rfl (kl_nil (kq_code (kc_seq (kc_region (kl_ldS rfl (by assumption) rfl ?_)))))
 refine kl_ld rfl (by assumption) (kl_callP rfl rfl (holds_ok c x hC hX (by assumption) (by assumption) (by assumption) (by assumption)) ?_)
 refine kl_not rfl (kl_as rfl (kl_nil (kq_code (kc_ret (kq_retP rfl rfl (congrArg Value.bool ?_))))))
 rfl
theorem met_ok {Hmd : Hp} {vmd : Value} {Hmc : Hp} {vmc : Value} {Hx : Hp} {vx : Value} (m : Mod) (x : List Int) (hM : MOk m) (hl : x.length = m.doms.length) (hX : Vals x) (hmd : Ints Hmd vmd m.doms) (hmc : Cons Hmc vmc m.cons) (hx : Ints Hx vx x) : SpecP Tryz.prog 86 [.agg #[vmd, vmc], vx] [Hmd, Hmc, Hx] (.bool (metB m x)) := by
 refine spec_of Tryz.func86 rfl rfl rfl (fun B => ?_)
 refine kc_seq (kc_region (kl_box rfl rfl (fun p1 H2 f3 a4 => ?_)))
 refine kl_box rfl (Sl.cells (by assumption)) (fun p5 H6 f7 a8 => ?_)
 refine kl_as rfl (kl_nil (kq_code (kc_seq (kc_region (kl_fd rfl (by assumption) (fun p9 a10 => ?_))))))
 refine kl_ld rfl (by assumption) (kl_mkf rfl ?_)
 refine kl_callP rfl rfl (cf_con_ok m.cons (fun x10 => !(conAt x x10)) (by assumption) (fun _ _ _ ax10 bx10 rx10 x10 hmx10 hax10 hbx10 hrx10 => met1_ok x10 x (by rw [hl]; exact ⟨hM.cm hmx10⟩) hX hax10 hbx10 hrx10 (by assumption) (by assumption))) ?_
 refine kl_not rfl (kl_as rfl (kl_nil (kq_code (kc_ret (kq_retP rfl rfl (congrArg Value.bool ?_))))))
 simp [metB, List.all_eq_not_any_not]
abbrev isTrueSt (k : Nat) : Prop := ∀ {Hmd : Hp} {vmd : Value} {Hmc : Hp} {vmc : Value} {Hfa : Hp} {vfa : Value} {Hx : Hp} {vx : Value} (m : Mod) (fa : List Bool) (x : List Int) (hM : MOk m) (hf : fa.length = m.doms.length) (hl : x.length + k = m.doms.length) (hX : Vals x) (hmd : Ints Hmd vmd m.doms) (hmc : Cons Hmc vmc m.cons) (hfa : Bools Hfa vfa fa) (hx : Ints Hx vx x), SpecP Tryz.prog 39 [.agg #[vmd, vmc], vfa, vx] [Hmd, Hmc, Hfa, Hx] (.bool (winB m fa k x))
theorem isTrue1_ok (k : Nat) {Hmd : Hp} {vmd : Value} {Hmc : Hp} {vmc : Value} {Hpm : Hp} {ptrpm : Value} {Hfa : Hp} {vfa : Value} {Hpfa : Hp} {ptrpfa : Value} {Hx : Hp} {vx : Value} {Hpx : Hp} {ptrpx : Value} (v : Int) (m : Mod) (fa : List Bool) (x : List Int) (hrec : isTrueSt k) (hM : MOk m) (hf : fa.length = m.doms.length) (hl : x.length + (k + 1) = m.doms.length) (hX : Vals x) (hv : 0 ≤ v ∧ v ≤ 5) (hmd : Ints Hmd vmd m.doms) (hmc : Cons Hmc vmc m.cons) (apm : At Hpm ptrpm [vmd, vmc]) (hfa : Bools Hfa vfa fa) (apfa : At Hpfa ptrpfa [vfa]) (hx : Ints Hx vx x) (apx : At Hpx ptrpx [vx]) : SpecP Tryz.prog 88 [.int .i64 v, ptrpm, ptrpfa, ptrpx] [Hmd, Hmc, Hpm, Hfa, Hpfa, Hx, Hpx] (.bool (!(winB m fa k (x ++ [v])))) := by
 refine spec_of Tryz.func88 rfl rfl rfl (fun B => ?_)
 refine kc_seq (kc_region (kl_as rfl (kl_nil (kq_code (kc_seq (kc_draw 8 [true, true, true, true, false, false, true, true] (by kernel_rfl) (by kernel_rfl) ?_))))))
 refine kl_ldS rfl (by assumption) rfl ?_
 refine kl_ld rfl (by assumption) (kl_ld rfl (by assumption) (kl_mv rfl (kl_call rfl rfl (extended_ok x v (by have := hM.n; omega) (by assumption)) (fun v1 H2 f3 h4 => ?_))))
 refine kl_callP rfl rfl (hrec m fa (x ++ [v]) hM hf (by simp; omega) (hX.snoc hv) (by assumption) (by assumption) (by assumption) (by assumption)) ?_
 refine kl_not rfl (kl_as rfl (kl_nil (kq_code (kc_ret (kq_retP rfl rfl (congrArg Value.bool ?_))))))
 rfl
theorem isTrue2_ok (k : Nat) {Hmd : Hp} {vmd : Value} {Hmc : Hp} {vmc : Value} {Hpm : Hp} {ptrpm : Value} {Hfa : Hp} {vfa : Value} {Hpfa : Hp} {ptrpfa : Value} {Hx : Hp} {vx : Value} {Hpx : Hp} {ptrpx : Value} (v : Int) (m : Mod) (fa : List Bool) (x : List Int) (hrec : isTrueSt k) (hM : MOk m) (hf : fa.length = m.doms.length) (hl : x.length + (k + 1) = m.doms.length) (hX : Vals x) (hv : 0 ≤ v ∧ v ≤ 5) (hmd : Ints Hmd vmd m.doms) (hmc : Cons Hmc vmc m.cons) (apm : At Hpm ptrpm [vmd, vmc]) (hfa : Bools Hfa vfa fa) (apfa : At Hpfa ptrpfa [vfa]) (hx : Ints Hx vx x) (apx : At Hpx ptrpx [vx]) : SpecP Tryz.prog 90 [.int .i64 v, ptrpm, ptrpfa, ptrpx] [Hmd, Hmc, Hpm, Hfa, Hpfa, Hx, Hpx] (.bool (winB m fa k (x ++ [v]))) := by
 refine spec_of Tryz.func90 rfl rfl rfl (fun B => ?_)
 refine kc_seq (kc_region (kl_as rfl (kl_nil (kq_code (kc_seq (kc_draw 7 [true, true, true, true, false, false, true] (by kernel_rfl) (by kernel_rfl) ?_))))))
 refine kl_ldS rfl (by assumption) rfl ?_
 refine kl_ld rfl (by assumption) (kl_ld rfl (by assumption) (kl_mv rfl (kl_call rfl rfl (extended_ok x v (by have := hM.n; omega) (by assumption)) (fun v1 H2 f3 h4 => ?_))))
 refine kl_callP rfl rfl (hrec m fa (x ++ [v]) hM hf (by simp; omega) (hX.snoc hv) (by assumption) (by assumption) (by assumption) (by assumption)) ?_
 refine kl_as rfl (kl_nil (kq_code (kc_ret (kq_retP rfl rfl (congrArg Value.bool ?_)))))
 rfl
theorem isTrue_step (k : Nat) (ih : ∀ j, j < k → isTrueSt j) : isTrueSt k := by
 intro Hmd vmd Hmc vmc Hfa vfa Hx vx m fa x hM hf hl hX hmd hmc hfa hx
 refine spec_of Tryz.func39 rfl rfl rfl (fun B => ?_)
 refine kc_seq (kc_region (kl_box rfl rfl (fun p1 H2 f3 a4 => ?_)))
 refine kl_box rfl (Sl.cells (by assumption)) (fun p5 H6 f7 a8 => ?_)
 refine kl_box rfl (Sl.cells (by assumption)) (fun p9 H10 f11 a12 => ?_)
 refine kl_as rfl (kl_nil (kq_code (kc_seq (kc_region (kl_ld rfl (by assumption) (kl_len rfl (by assumption) (fun l13 => ?_)))))))
 refine kl_as rfl (kl_nil (kq_code (kc_seq (kc_seq (kc_region (kl_mv rfl (kl_fd rfl (by assumption) (fun p14 a15 => ?_))))))))
 refine kl_ld rfl (by assumption) (kl_len rfl (by assumption) (fun l16 => ?_))
 refine kl_eql rfl rfl ?_
 refine kl_nil (kq_code (kc_if rfl (fun c17 => ?_) (fun c17 => ?_)))
 ·skip
  have hk0 : k = 0 := by omega
  subst hk0
  refine kc_seq (kc_region (kl_ldS rfl (by assumption) rfl ?_))
  refine kl_ld rfl (by assumption) (kl_callP rfl rfl (met_ok m x hM (by omega) hX (by assumption) (by assumption) (by assumption)) ?_)
  refine kl_as rfl (kl_nil (kq_code (kc_ret (kq_retP rfl rfl (congrArg Value.bool ?_)))))
  rfl
 ·skip
  obtain ⟨j, rfl⟩ : ∃ j, k = j + 1 := ⟨k - 1, by omega⟩
  have hn := hM.n
  refine kc_skipQ (kq_code (kc_seq (kc_region (kl_fd rfl (by assumption) (fun p18 a19 => ?_)))))
  refine kl_ld rfl (by assumption) (kl_mv rfl (kl_inI rfl rfl (by assumption) (by omega) (fun p20 a21 => ?_)))
  refine kl_ld rfl (by assumption) (kl_call rfl rfl (valuesOf_ok (m.doms.getD x.length 0) (hM.d (by omega))) (fun v22 H23 f24 h25 => ?_))
  refine kl_as rfl (kl_nil (kq_code (kc_seq (kc_seq (kc_region (kl_ld rfl (by assumption) (kl_mv rfl (kl_inB rfl rfl (by assumption) (by omega) (fun p26 a27 => ?_)))))))))
  refine kl_ld rfl (by assumption) (kl_nil (kq_code (kc_cond rfl (fun c28 => ?_) (fun c28 => ?_))))
  ·skip
   have c28r := c28
   try simp only [smpC, decide_eq_true_eq, decide_eq_false_iff_not] at c28
   refine kc_seq (kc_region (kl_mv rfl (kl_mkf rfl ?_)))
   refine kl_callP rfl rfl (cf_int_ok (valsI (m.doms.getD x.length 0)) (fun x28 => !(winB m fa j (x ++ [x28]))) (by assumption) (fun x28 hmx28 => isTrue1_ok j x28 m fa x (ih j (by omega)) hM hf (by omega) hX (valsI_mem hmx28) (by assumption) (by assumption) (by assumption) (by assumption) (by assumption) (by assumption) (by assumption))) ?_
   refine kl_not rfl (kl_as rfl (kl_nil (kq_code (kc_ret (kq_retP rfl rfl (congrArg Value.bool ?_))))))
   exact win_T (by assumption)
  ·skip
   have c28r := c28
   try simp only [smpC, decide_eq_true_eq, decide_eq_false_iff_not] at c28
   refine kc_skipQ (kq_code (kc_seq (kc_region (kl_mv rfl (kl_mkf rfl ?_)))))
   refine kl_callP rfl rfl (cf_int_ok (valsI (m.doms.getD x.length 0)) (fun x29 => winB m fa j (x ++ [x29])) (by assumption) (fun x29 hmx29 => isTrue2_ok j x29 m fa x (ih j (by omega)) hM hf (by omega) hX (valsI_mem hmx29) (by assumption) (by assumption) (by assumption) (by assumption) (by assumption) (by assumption) (by assumption))) ?_
   refine kl_as rfl (kl_nil (kq_code (kc_ret (kq_retP rfl rfl (congrArg Value.bool ?_)))))
   exact win_F (by assumption)
theorem isTrue_ok (k : Nat) : isTrueSt k := by
 induction k using Nat.strongRecOn with
 | _ k ih => exact @isTrue_step k ih
theorem formulaOk_ok {Hmd : Hp} {vmd : Value} {Hmc : Hp} {vmc : Value} {Hfa : Hp} {vfa : Value} (m : Mod) (fa : List Bool) (hmd : Ints Hmd vmd m.doms) (hmc : Cons Hmc vmc m.cons) (hfa : Bools Hfa vfa fa) : SpecP Tryz.prog 38 [.agg #[vmd, vmc], vfa] [Hmd, Hmc, Hfa] (.bool (fOkB m fa)) := by
 refine spec_of Tryz.func38 rfl rfl rfl (fun B => ?_)
 refine kc_seq (kc_region (kl_box rfl rfl (fun p1 H2 f3 a4 => ?_)))
 refine kl_as rfl (kl_nil (kq_code (kc_seq (kc_region (kl_ldS rfl (by assumption) rfl ?_)))))
 refine kl_callP rfl rfl (validMod_ok m (by assumption) (by assumption)) ?_
 refine kl_mv rfl (kl_join 7 14 (.bool ((validModB m) && decide ((fa.length : Int) = (m.doms.length : Int)))) (pc 4 rfl (pc 7 rfl pn)) (fun J10 => ?_) ?_)
 ·rcases Bool.eq_false_or_eq_true (validModB m) with g5 | g5
  ·skip
   have g5p := g5
   try simp only [Bool.not_eq_true', Bool.not_eq_false', decide_eq_true_eq, decide_eq_false_iff_not, Bool.and_eq_true, Bool.or_eq_false_iff, withinB_iff] at g5p
   refine kl_gT rfl rfl g5 (kl_mv rfl (kl_gT rfl rfl g5 (kl_len rfl (by assumption) (fun l6 => ?_))))
   refine kl_gT rfl rfl g5 (kl_fd rfl (by assumption) (fun p7 a8 => ?_))
   refine kl_gT rfl rfl g5 (kl_ld rfl (by assumption) (kl_gT rfl rfl g5 (kl_len rfl (by assumption) (fun l9 => ?_))))
   refine kl_gT rfl rfl g5 (kl_eql rfl rfl ?_)
   refine kl_andT rfl rfl g5 ?_
   exact J10 _ (pc 14 rfl (pc 4 rfl (pc 7 rfl pn)))
  ·skip
   refine kl_gF rfl rfl g5 (kl_gF rfl rfl g5 (kl_gF rfl rfl g5 (kl_gF rfl rfl g5 (kl_gF rfl rfl g5 (kl_gF rfl rfl g5 (kl_andF (decide ((fa.length : Int) = (m.doms.length : Int))) rfl rfl g5 ?_))))))
   exact J10 _ (pc 14 rfl (pc 4 rfl (pc 7 rfl pn)))
 refine kl_as rfl (kl_nil (kq_code (kc_ret (kq_retP rfl rfl (congrArg Value.bool ?_)))))
 rfl
theorem iqt_ok {Hmd : Hp} {vmd : Value} {Hmc : Hp} {vmc : Value} {Hfa : Hp} {vfa : Value} (m : Mod) (fa : List Bool) (hmd : Ints Hmd vmd m.doms) (hmc : Cons Hmc vmc m.cons) (hfa : Bools Hfa vfa fa) : SpecP Tryz.prog 9 [.agg #[vmd, vmc], vfa] [Hmd, Hmc, Hfa] (.bool (qtrueB m fa)) := by
 refine spec_of Tryz.func9 rfl rfl rfl (fun B => ?_)
 refine kc_seq (kc_region (kl_box rfl rfl (fun p1 H2 f3 a4 => ?_)))
 refine kl_as rfl (kl_nil (kq_code (kc_seq (kc_region (kl_ldS rfl (by assumption) rfl ?_)))))
 refine kl_mv rfl (kl_callP rfl rfl (formulaOk_ok m fa (by assumption) (by assumption) (by assumption)) ?_)
 refine kl_mv rfl (kl_join 4 12 (.bool ((fOkB m fa) && (winB m fa m.doms.length []))) (pc 4 rfl (pc 8 rfl pn)) (fun J6 => ?_) ?_)
 ·rcases Bool.eq_false_or_eq_true (fOkB m fa) with g5 | g5
  ·skip
   have g5p := g5
   try simp only [Bool.not_eq_true', Bool.not_eq_false', decide_eq_true_eq, decide_eq_false_iff_not, Bool.and_eq_true, Bool.or_eq_false_iff, withinB_iff] at g5p
   have hs := fok g5p
   refine kl_gT rfl rfl g5 (kl_ldS rfl (by assumption) rfl ?_)
   refine kl_gT rfl rfl g5 (kl_mv rfl (kl_gT rfl rfl g5 (kl_callP rfl rfl (isTrue_ok m.doms.length m fa [] hs.1 hs.2 (by simp) vals_nil (by assumption) (by assumption) (by assumption) (Sl.nil (H := noHp))) ?_)))
   refine kl_andT rfl rfl g5 ?_
   exact J6 _ (pc 12 rfl (pc 4 rfl (pc 8 rfl pn)))
  ·skip
   refine kl_gF rfl rfl g5 (kl_gF rfl rfl g5 (kl_gF rfl rfl g5 (kl_andF (winB m fa m.doms.length []) rfl rfl g5 ?_)))
   exact J6 _ (pc 12 rfl (pc 4 rfl (pc 8 rfl pn)))
 refine kl_as rfl (kl_nil (kq_code (kc_ret (kq_retP rfl rfl (congrArg Value.bool ?_)))))
 rfl
end Go.Proofs.YtiilanckbocifaaGreat
