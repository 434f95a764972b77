/- Walks of functions of the program: each returns what the plain function gives. Conditions: those that each statement names. -/
import Derived.Test.YtiilanckbocifaaGreatWssat
namespace Go.Proofs.YtiilanckbocifaaGreat
open Go
set_option linter.unusedSimpArgs false
set_option linter.unusedVariables false
theorem violated_ok {Hmd : Hp} {vmd : Value} {Hmc : Hp} {vmc : Value} {Hx : Hp} {vx : Value} (m : Mod) (x : List Int) (hM : MOk m) (hl : x.length = m.doms.length) (hX : Vals x) (hmd : Ints Hmd vmd m.doms) (hmc : Cons Hmc vmc m.cons) (hx : Ints Hx vx x) : Spec Tryz.prog 118 [.agg #[vmd, vmc], vx] [Hmd, Hmc, Hx] (fun Hq vq => Ints Hq vq (violI m x)) := by
 refine spec_of Tryz.func118 rfl rfl rfl (fun B => ?_)
 refine kc_seq (kc_region (kl_box rfl rfl (fun p1 H2 f3 a4 => ?_)))
 refine kl_as rfl (kl_nil (kq_code (kc_seq (kc_region (kl_bsI [] rfl rfl rfl (by decide) (fun v5 H6 f7 o8 => ?_))))))
 refine kl_as rfl (kl_nil (kq_code (kc_seq (kc_seq (kc_region (kl_as rfl (kl_nil (kq_code (kc_block (kc_loopL (A := Nat × List Int × Value × Hp) (fun zz => (zz.1 ≤ m.cons.length) ∧ (zz.2.1 = violTo m x zz.1) ∧ OwnL 3 1 zz.2.2.2 noHp IntV zz.2.2.1 zz.2.1 ∧ Fr B zz.2.2.2) (fun zz => m.cons.length - zz.1) (fun zz => [zz.2.2.2]) (fun zz => [(6, .int .i64 (zz.1 : Int)), (5, zz.2.2.1)]) (0, ([]), v5, H6) (pc 1 rfl (pc 2 rfl (pc 4 rfl pn))) (pc 6 rfl (pc 5 rfl pn)) rfl ⟨Nat.zero_le _, rfl, o8, f7⟩ ?_))))))))))
 rintro ⟨k, out, v14, H11⟩ hJ15
 obtain ⟨hk9, hi10, o12, f13⟩ : (k ≤ m.cons.length) ∧ (out = violTo m x k) ∧ OwnL 3 1 H11 noHp IntV v14 out ∧ Fr B H11 := hJ15
 change KC _ _ (_) [H11] _ ([(6, .int .i64 (k : Int)), (5, v14)] ++ _)
 refine kc_seq (kc_seq (kc_region (kl_mv rfl (kl_fd rfl (by assumption) (fun p16 a17 => ?_)))))
 refine kl_ld rfl (by assumption) (kl_len rfl (by assumption) (fun l18 => ?_))
 refine kl_lss rfl rfl ?_
 refine kl_nil (kq_code (kc_if rfl (fun c19 => ?_) (fun c19 => ?_)))
 ·skip
  have hc : ConOk (m.cons.getD k nilCon) x.length := (by rw [hl]; exact ⟨hM.c (by omega)⟩)
  have hf := hM.few
  refine kc_skipQ (kq_code (kc_seq (kc_block (kc_seq (kc_draw 14 [true, true, true, true, true, true, true, true, true, true, true, false, false, true] (by kernel_rfl) (by kernel_rfl) ?_)))))
  refine kl_fd rfl (by assumption) (fun p20 a21 => ?_)
  refine kl_ld rfl (by assumption) (kl_mv rfl (kl_inC rfl rfl (by assumption) (by omega) (fun p22 u24 u25 u26 h27 h28 h29 a23 => ?_)))
  refine kl_ldS rfl (by assumption) rfl ?_
  refine kl_fd rfl (by assumption) (fun p30 a31 => ?_)
  refine kl_ld rfl (by assumption) (kl_mv rfl (kl_inC rfl rfl (by assumption) (by omega) (fun p32 u34 u35 u36 h37 h38 h39 a33 => ?_)))
  refine kl_ldS rfl (by assumption) rfl ?_
  refine kl_mv rfl (kl_call rfl rfl (project_ok (m.cons.getD k nilCon) x hc.vars (by have := hc.one; omega) (by assumption) (by assumption) (by assumption) (by assumption)) (fun v40 H41 f42 h43 => ?_))
  refine kl_callP rfl rfl (satisfies_ok (m.cons.getD k nilCon) (wordL (m.cons.getD k nilCon).vars x) (hc.sat rfl hX) (by assumption) (by assumption) (by assumption) (by assumption)) ?_
  refine kl_not rfl (kl_nil (kq_code (kc_cond rfl (fun c44 => ?_) (fun c44 => ?_))))
  ·skip
   have c44r := c44
   try simp only [smpC, decide_eq_true_eq, decide_eq_false_iff_not] at c44
   refine kc_region (kl_mv rfl (kl_mv rfl (kl_bs rfl rfl rfl (by decide) (ca rfl ca_nil) (fun v45 H46 f47 r48 s49 => ?_))))
   have h50 : Ints H46 v45 [(k : Int)] := litInts (xs := [(k : Int)]) (by simpa using s49)
   refine kl_apL (k : Int) rfl rfl o12 (by assumption) rfl (oc rfl oc_nil) (by have := viol_len hi10; omega) (by decide) (fun v51 H52 o53 f54 => ?_)
   have f55 := f54 B f13 (Nat.le_refl _)
   refine kl_as rfl (kl_nil (kq_code (kc_region (kl_mv rfl (kl_inc rfl rfl (by omega) ?_)))))
   refine kl_as rfl (kl_nil (kq_roundL ((k + 1), (out ++ [(k : Int)]), v51, H52) (by omega) (⟨by omega, (by first | exact viol_stepT hi10 (by assumption) | exact viol_stepF hi10 (by assumption)), o53, f55⟩) (pc 6 rfl (pc 5 rfl pn)) (pc 1 rfl (pc 2 rfl (pc 4 rfl pn))) rfl (List.Sublist.refl _)))
  ·skip
   have c44r := c44
   try simp only [smpC, decide_eq_true_eq, decide_eq_false_iff_not] at c44
   refine kc_skipQ (kq_code (kc_region (kl_mv rfl (kl_inc rfl rfl (by omega) ?_))))
   refine kl_as rfl (kl_nil (kq_roundL ((k + 1), out, v14, H11) (by omega) (⟨by omega, (by first | exact viol_stepT hi10 (by assumption) | exact viol_stepF hi10 (by assumption)), o12, f13⟩) (pc 6 rfl (pc 5 rfl pn)) (pc 1 rfl (pc 2 rfl (pc 4 rfl pn))) rfl (List.Sublist.refl _)))
 ·skip
  refine kc_exit (kq_code (kc_seq (kc_region (kl_mv rfl (kl_as rfl (kl_nil (kq_code (kc_ret ?_))))))))
  have e9 : out = violI m x := by rw [hi10, show k = m.cons.length from by omega]; rfl
  exact kq_ret rfl rfl H11 f13 (e9 ▸ OwnL.ints o12)
theorem satisfiesAll_ok {Hmd : Hp} {vmd : Value} {Hmc : Hp} {vmc : Value} {Hx : Hp} {vx : Value} (m : Mod) (x : List Int) (hM : MOk m) (hl : x.length = m.doms.length) (hX : Vals x) (hmd : Ints Hmd vmd m.doms) (hmc : Cons Hmc vmc m.cons) (hx : Ints Hx vx x) : SpecP Tryz.prog 81 [.agg #[vmd, vmc], vx] [Hmd, Hmc, Hx] (.bool (metB m x)) := by
 refine spec_of Tryz.func81 rfl rfl rfl (fun B => ?_)
 refine kc_seq (kc_region (kl_box rfl rfl (fun p1 H2 f3 a4 => ?_)))
 refine kl_as rfl (kl_nil (kq_code (kc_seq (kc_region (kl_ldS rfl (by assumption) rfl ?_)))))
 refine kl_mv rfl (kl_call rfl rfl (violated_ok m x hM hl hX (by assumption) (by assumption) (by assumption)) (fun v5 H6 f7 h8 => ?_))
 refine kl_len rfl (by assumption) (fun l9 => ?_)
 refine kl_eql rfl rfl ?_
 refine kl_as rfl (kl_nil (kq_code (kc_ret (kq_retP rfl rfl (congrArg Value.bool ?_)))))
 exact viol_none m x
abbrev winsSt (k : Nat) : Prop := ∀ {Hmd : Hp} {vmd : Value} {Hmc : Hp} {vmc : Value} {Hfa : Hp} {vfa : Value} {Hx : Hp} {vx : Value} (m : Mod) (fa : List Bool) (x : List Int) (hM : MOk m) (hf : fa.length = m.doms.length) (hl : x.length + k = m.doms.length) (hX : Vals x) (hmd : Ints Hmd vmd m.doms) (hmc : Cons Hmc vmc m.cons) (hfa : Bools Hfa vfa fa) (hx : Ints Hx vx x), SpecP Tryz.prog 109 [.agg #[vmd, vmc], vfa, vx] [Hmd, Hmc, Hfa, Hx] (.bool (winB m fa k x))
theorem wins_step (k : Nat) (ih : ∀ j, j < k → winsSt j) : winsSt k := by
 intro Hmd vmd Hmc vmc Hfa vfa Hx vx m fa x hM hf hl hX hmd hmc hfa hx
 refine spec_of Tryz.func109 rfl rfl rfl (fun B => ?_)
 refine kc_seq (kc_region (kl_box rfl rfl (fun p1 H2 f3 a4 => ?_)))
 refine kl_as rfl (kl_nil (kq_code (kc_seq (kc_region (kl_mv rfl (kl_len rfl (by assumption) (fun l5 => ?_)))))))
 refine kl_as rfl (kl_nil (kq_code (kc_seq (kc_seq (kc_region (kl_mv rfl (kl_fd rfl (by assumption) (fun p6 a7 => ?_))))))))
 refine kl_ld rfl (by assumption) (kl_len rfl (by assumption) (fun l8 => ?_))
 refine kl_eql rfl rfl ?_
 refine kl_nil (kq_code (kc_if rfl (fun c9 => ?_) (fun c9 => ?_)))
 ·skip
  have hk0 : k = 0 := by omega
  subst hk0
  refine kc_seq (kc_region (kl_ldS rfl (by assumption) rfl ?_))
  refine kl_mv rfl (kl_callP rfl rfl (satisfiesAll_ok m x hM (by omega) hX (by assumption) (by assumption) (by assumption)) ?_)
  refine kl_as rfl (kl_nil (kq_code (kc_ret (kq_retP rfl rfl (congrArg Value.bool ?_)))))
  rfl
 ·skip
  obtain ⟨j, rfl⟩ : ∃ j, k = j + 1 := ⟨k - 1, by omega⟩
  have hn := hM.n
  refine kc_skipQ (kq_code (kc_seq (kc_region (kl_fd rfl (by assumption) (fun p10 a11 => ?_)))))
  refine kl_ld rfl (by assumption) (kl_mv rfl (kl_inI rfl rfl (by assumption) (by omega) (fun p12 a13 => ?_)))
  refine kl_ld rfl (by assumption) (kl_call rfl rfl (domainValues_ok (m.doms.getD x.length 0)) (fun v14 H15 f16 h17 => ?_))
  refine kl_as rfl (kl_nil (kq_code (kc_seq (kc_seq (kc_region (kl_as rfl (kl_nil (kq_code (kc_block (kc_loop0 (A := Nat) (fun zz => (zz ≤ (valsI (m.doms.getD x.length 0)).length) ∧ (((valsI (m.doms.getD x.length 0)).take zz).all (fun v => winB m fa j (x ++ [v]) == fa.getD x.length false) = true)) (fun zz => (valsI (m.doms.getD x.length 0)).length - zz) (fun zz => [(9, .int .i64 (zz : Int))]) (0) (pc 1 rfl (pc 2 rfl (pc 3 rfl (pc 7 rfl (pc 8 rfl pn))))) (pc 9 rfl pn) ⟨Nat.zero_le _, by simp⟩ ?_))))))))))
  rintro i hJ20
  obtain ⟨hk18, hi19⟩ : (i ≤ (valsI (m.doms.getD x.length 0)).length) ∧ (((valsI (m.doms.getD x.length 0)).take i).all (fun v => winB m fa j (x ++ [v]) == fa.getD x.length false) = true) := hJ20
  change KC _ _ (_) _ _ ([(9, .int .i64 (i : Int))] ++ _)
  refine kc_seq (kc_seq (kc_region (kl_mv rfl (kl_mv rfl (kl_len rfl (by assumption) (fun l21 => ?_))))))
  refine kl_lss rfl rfl ?_
  refine kl_nil (kq_code (kc_if rfl (fun c22 => ?_) (fun c22 => ?_)))
  ·skip
   have hv := valsI_mem (getD_mem (d := (0 : Int)) (by omega : i < (valsI (m.doms.getD x.length 0)).length))
   refine kc_skipQ (kq_code (kc_seq (kc_block (kc_seq (kc_tree (fun i => ([] : List Nat).contains i) [] (by kernel_rfl) ?_)))))
   refine kt_q 0 (List.nil_sublist _) rfl (by kernel_rfl) (kl_ldS rfl (by assumption) rfl ?_)
   refine kl_nil (kq_q (kt_q 1 (List.nil_sublist _) rfl (by kernel_rfl) (kl_mv rfl (kl_nil (kq_q (kt_q 2 (List.nil_sublist _) rfl (by kernel_rfl) (kl_mv rfl (kl_nil (kq_q (kt_q 4 (List.nil_sublist _) rfl (by kernel_rfl) (kl_mv rfl ?_)))))))))))
   refine kl_nil (kq_q (kt_q 5 (List.nil_sublist _) rfl (by kernel_rfl) (kl_mv rfl (kl_nil (kq_q (kt_q 6 (List.nil_sublist _) rfl (by kernel_rfl) (kl_inI rfl rfl (by assumption) (by omega) (fun p23 a24 => ?_))))))))
   refine kl_nil (kq_q (kt_q 7 (List.nil_sublist _) rfl (by kernel_rfl) (kl_ld rfl (by assumption) (kl_nil (kq_q (kt_q 11 (List.nil_sublist _) rfl (by kernel_rfl) (kl_mv rfl (kl_nil (kq_q (kt_q 12 (List.nil_sublist _) rfl (by kernel_rfl) (kl_mv rfl ?_)))))))))))
   refine kl_nil (kq_q (kt_q 13 (List.nil_sublist _) rfl (by kernel_rfl) (kl_inB rfl rfl (by assumption) (by omega) (fun p25 a26 => ?_))))
   refine kl_nil (kq_q (kt_q 14 (List.nil_sublist _) rfl (by kernel_rfl) (kl_ld rfl (by assumption) (kl_nil (kq_q (kt_callLit 3 8 (List.nil_sublist _) rfl rfl (by kernel_rfl) (fun _ => rfl) rfl (fun _ => rfl) rfl (copyInts_ok x (by omega) (by assumption)) (fun _ => rfl) rfl rfl rfl (by decide) (ca rfl ca_nil) (fun v27 H28 f29 o30 u31 K32 f33 r34 s35 => ?_)))))))
   refine kt_a 9 rfl (by kernel_rfl) (kl_apL ((valsI (m.doms.getD x.length 0)).getD i 0) rfl rfl o30 (by assumption) rfl (oc rfl oc_nil) (by omega) (by decide) (fun v36 H37 o38 f39 => ?_))
   have f40 := f39 B f29 (Nat.le_refl _)
   refine kl_nil (kq_a (List.nil_sublist _) (kt_a 10 rfl (by kernel_rfl) (kl_callP rfl rfl (ih j (by omega) m fa (x ++ [((valsI (m.doms.getD x.length 0)).getD i 0)]) hM hf (by simp; omega) (hX.snoc hv) (by assumption) (by assumption) (by assumption) (OwnL.ints o38)) ?_)))
   refine kl_nil (kq_a (List.nil_sublist _) (kt_q 15 (List.nil_sublist _) rfl (by kernel_rfl) (kl_bne rfl rfl ?_)))
   refine kl_nil (kq_q (kt_end (by kernel_rfl) ?_))
   refine kq_code (kc_cond rfl (fun c41 => ?_) (fun c41 => ?_))
   ·skip
    have c41r := c41
    try simp only [smpC, decide_eq_true_eq, decide_eq_false_iff_not] at c41
    refine kc_seq (kc_region (kl_mv rfl (kl_mv rfl (kl_inB rfl rfl (by assumption) (by omega) (fun p42 a43 => ?_)))))
    refine kl_ld rfl (by assumption) (kl_not rfl (kl_as rfl (kl_nil (kq_code (kc_ret (kq_retP rfl rfl (congrArg Value.bool ?_)))))))
    exact winS_no (i := i) (by omega) (by assumption)
   ·skip
    have c41r := c41
    try simp only [smpC, decide_eq_true_eq, decide_eq_false_iff_not] at c41
    refine kc_skipQ (kq_code (kc_region (kl_mv rfl (kl_inc rfl rfl (by omega) ?_))))
    refine kl_as rfl (kl_nil (kq_round0 ((i + 1)) (by omega) (⟨by omega, all_take_step (d := 0) (by omega) hi19 (bne_B (by assumption))⟩) (pc 9 rfl pn) (pc 1 rfl (pc 2 rfl (pc 3 rfl (pc 7 rfl (pc 8 rfl pn))))) (.cons _ (List.Sublist.refl _))))
  ·skip
   refine kc_exit (kq_code (kc_seq (kc_region (kl_mv rfl (kl_mv rfl (kl_inB rfl rfl (by assumption) (by omega) (fun p44 a45 => ?_)))))))
   refine kl_ld rfl (by assumption) (kl_as rfl (kl_nil (kq_code (kc_ret (kq_retP rfl rfl (congrArg Value.bool ?_))))))
   exact winS_yes (i := i) (by omega) (by assumption)
theorem wins_ok (k : Nat) : winsSt k := by
 induction k using Nat.strongRecOn with
 | _ k ih => exact @wins_step k ih
theorem validQuantifiers_ok {Hmd : Hp} {vmd : Value} {Hmc : Hp} {vmc : Value} {Hfa : Hp} {vfa : Value} (m : Mod) (fa : List Bool) (hmd : Ints Hmd vmd m.doms) (hmc : Cons Hmc vmc m.cons) (hfa : Bools Hfa vfa fa) : SpecP Tryz.prog 33 [.agg #[vmd, vmc], vfa] [Hmd, Hmc, Hfa] (.bool (fOkB m fa)) := by
 refine spec_of Tryz.func33 rfl rfl rfl (fun B => ?_)
 refine kc_seq (kc_region (kl_box rfl rfl (fun p1 H2 f3 a4 => ?_)))
 refine kl_as rfl (kl_nil (kq_code (kc_seq (kc_region (kl_ldS rfl (by assumption) rfl ?_)))))
 refine kl_callP rfl rfl (svalidMod_ok m (by assumption) (by assumption)) ?_
 refine kl_mv rfl (kl_join 7 14 (.bool ((validModB m) && decide ((fa.length : Int) = (m.doms.length : Int)))) (pc 4 rfl (pc 7 rfl pn)) (fun J10 => ?_) ?_)
 ·rcases Bool.eq_false_or_eq_true (validModB m) with g5 | g5
  ·skip
   have g5p := g5
   try simp only [Bool.not_eq_true', Bool.not_eq_false', decide_eq_true_eq, decide_eq_false_iff_not, Bool.and_eq_true, Bool.or_eq_false_iff, withinB_iff] at g5p
   refine kl_gT rfl rfl g5 (kl_mv rfl (kl_gT rfl rfl g5 (kl_len rfl (by assumption) (fun l6 => ?_))))
   refine kl_gT rfl rfl g5 (kl_fd rfl (by assumption) (fun p7 a8 => ?_))
   refine kl_gT rfl rfl g5 (kl_ld rfl (by assumption) (kl_gT rfl rfl g5 (kl_len rfl (by assumption) (fun l9 => ?_))))
   refine kl_gT rfl rfl g5 (kl_eql rfl rfl ?_)
   refine kl_andT rfl rfl g5 ?_
   exact J10 _ (pc 14 rfl (pc 4 rfl (pc 7 rfl pn)))
  ·skip
   refine kl_gF rfl rfl g5 (kl_gF rfl rfl g5 (kl_gF rfl rfl g5 (kl_gF rfl rfl g5 (kl_gF rfl rfl g5 (kl_gF rfl rfl g5 (kl_andF (decide ((fa.length : Int) = (m.doms.length : Int))) rfl rfl g5 ?_))))))
   exact J10 _ (pc 14 rfl (pc 4 rfl (pc 7 rfl pn)))
 refine kl_as rfl (kl_nil (kq_code (kc_ret (kq_retP rfl rfl (congrArg Value.bool ?_)))))
 rfl
theorem siqt_ok {Hmd : Hp} {vmd : Value} {Hmc : Hp} {vmc : Value} {Hfa : Hp} {vfa : Value} (m : Mod) (fa : List Bool) (hmd : Ints Hmd vmd m.doms) (hmc : Cons Hmc vmc m.cons) (hfa : Bools Hfa vfa fa) : SpecP Tryz.prog 67 [.agg #[vmd, vmc], vfa] [Hmd, Hmc, Hfa] (.bool (qtrueB m fa)) := by
 refine spec_of Tryz.func67 rfl rfl rfl (fun B => ?_)
 refine kc_seq (kc_region (kl_box rfl rfl (fun p1 H2 f3 a4 => ?_)))
 refine kl_as rfl (kl_nil (kq_code (kc_seq (kc_region (kl_ldS rfl (by assumption) rfl ?_)))))
 refine kl_mv rfl (kl_callP rfl rfl (validQuantifiers_ok m fa (by assumption) (by assumption) (by assumption)) ?_)
 refine kl_mv rfl (kl_join 5 13 (.bool ((fOkB m fa) && (winB m fa m.doms.length ([])))) (pc 4 rfl (pc 8 rfl pn)) (fun J10 => ?_) ?_)
 ·rcases Bool.eq_false_or_eq_true (fOkB m fa) with g5 | g5
  ·skip
   have g5p := g5
   try simp only [Bool.not_eq_true', Bool.not_eq_false', decide_eq_true_eq, decide_eq_false_iff_not, Bool.and_eq_true, Bool.or_eq_false_iff, withinB_iff] at g5p
   have hs := fok g5p
   refine kl_gT rfl rfl g5 (kl_ldS rfl (by assumption) rfl ?_)
   refine kl_gT rfl rfl g5 (kl_mv rfl (kl_gT rfl rfl g5 (kl_bsI [] rfl rfl rfl (by decide) (fun v6 H7 f8 o9 => ?_))))
   refine kl_gT rfl rfl g5 (kl_callP rfl rfl (wins_ok m.doms.length m fa ([]) hs.1 hs.2 (by simp) vals_nil (by assumption) (by assumption) (by assumption) (OwnL.ints o9)) ?_)
   refine kl_andT rfl rfl g5 ?_
   exact kl_fg (.cons _ (List.Sublist.refl _)) (J10 _ (pc 13 rfl (pc 4 rfl (pc 8 rfl pn))))
  ·skip
   refine kl_gF rfl rfl g5 (kl_gF rfl rfl g5 (kl_gF rfl rfl g5 (kl_gF rfl rfl g5 (kl_andF (winB m fa m.doms.length ([])) rfl rfl g5 ?_))))
   exact J10 _ (pc 13 rfl (pc 4 rfl (pc 8 rfl pn)))
 refine kl_as rfl (kl_nil (kq_code (kc_ret (kq_retP rfl rfl (congrArg Value.bool ?_)))))
 rfl
end Go.Proofs.YtiilanckbocifaaGreat
