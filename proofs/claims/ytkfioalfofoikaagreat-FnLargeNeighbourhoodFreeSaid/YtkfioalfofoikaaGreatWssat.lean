/- Walks of functions of the program: each returns what the plain function gives. Conditions: those that each statement names. -/
import Derived.Test.YtkfioalfofoikaaGreatWspecv
import Derived.Test.YtkfioalfofoikaaGreatPureQ
import Derived.Test.YtkfioalfofoikaaGreatTre
namespace Go.Proofs.YtkfioalfofoikaaGreat
open Go
set_option linter.unusedSimpArgs false
set_option linter.unusedVariables false
theorem domainHas_ok (d : Int) (v : Int) : SpecP Tryz.prog 62 [.int .i64 d, .int .i64 v] [] (.bool (withinB v 0 5 && hasB d v)) := by
 refine spec_of Tryz.func62 rfl rfl rfl (fun B => ?_)
 refine kc_seq (kc_region (kl_as rfl (kl_nil (kq_code (kc_seq (kc_region (kl_mv rfl (kl_callP rfl rfl (inRange_ok v (0 : Int) (5 : Int)) ?_))))))))
 refine kl_mv rfl (kl_join 6 13 (.bool ((withinB v (0 : Int) (5 : Int)) && decide ((iand (ishr d v) (1 : Int)) = (1 : Int)))) (pc 4 rfl (pc 7 rfl pn)) (fun J2 => ?_) ?_)
 ·rcases Bool.eq_false_or_eq_true (withinB v (0 : Int) (5 : Int)) with g1 | g1
  ·skip
   have g1p := g1
   try simp only [Bool.not_eq_true', Bool.not_eq_false', decide_eq_true_eq, decide_eq_false_iff_not, Bool.and_eq_true, Bool.or_eq_false_iff, withinB_iff] at g1p
   refine kl_gT rfl rfl g1 (kl_mv rfl (kl_gT rfl rfl g1 (kl_mv rfl (kl_gT rfl rfl g1 (kl_shr rfl rfl (by omega) ?_)))))
   refine kl_gT rfl rfl g1 (kl_and rfl rfl ?_)
   refine kl_gT rfl rfl g1 (kl_eql rfl rfl ?_)
   refine kl_andT rfl rfl g1 ?_
   exact J2 _ (pc 13 rfl (pc 4 rfl (pc 7 rfl pn)))
  ·skip
   refine kl_gF rfl rfl g1 (kl_gF rfl rfl g1 (kl_gF rfl rfl g1 (kl_gF rfl rfl g1 (kl_gF rfl rfl g1 (kl_andF (decide ((iand (ishr d v) (1 : Int)) = (1 : Int))) rfl rfl g1 ?_)))))
   exact J2 _ (pc 13 rfl (pc 4 rfl (pc 7 rfl pn)))
 refine kl_as rfl (kl_nil (kq_code (kc_ret (kq_retP rfl rfl (congrArg Value.bool ?_)))))
 rfl
theorem domainValues_ok (d : Int) : Spec Tryz.prog 127 [.int .i64 d] [] (fun Hq vq => Ints Hq vq (valsI d)) := by
 refine spec_of Tryz.func127 rfl rfl rfl (fun B => ?_)
 refine kc_seq (kc_region (kl_as rfl (kl_nil (kq_code (kc_seq (kc_region (kl_bsI [] rfl rfl rfl (by decide) (fun v1 H2 f3 o4 => ?_))))))))
 refine kl_as rfl (kl_nil (kq_code (kc_seq (kc_seq (kc_region (kl_as rfl (kl_nil (kq_code (kc_block (kc_loopL (A := Nat × List Int × Value × Hp) (fun zz => (zz.1 ≤ 6) ∧ (zz.2.1 = membersTo d zz.1) ∧ OwnL 3 1 zz.2.2.2 noHp IntV zz.2.2.1 zz.2.1 ∧ Fr B zz.2.2.2) (fun zz => 6 - zz.1) (fun zz => [zz.2.2.2]) (fun zz => [(4, .int .i64 (zz.1 : Int)), (3, zz.2.2.1)]) (0, ([]), v1, H2) (pc 0 rfl (pc 2 rfl pn)) (pc 4 rfl (pc 3 rfl pn)) rfl ⟨Nat.zero_le _, rfl, o4, f3⟩ ?_))))))))))
 rintro ⟨k, out, v10, H7⟩ hJ11
 obtain ⟨hk5, hi6, o8, f9⟩ : (k ≤ 6) ∧ (out = membersTo d k) ∧ OwnL 3 1 H7 noHp IntV v10 out ∧ Fr B H7 := hJ11
 change KC _ _ (_) [H7] _ ([(4, .int .i64 (k : Int)), (3, v10)] ++ _)
 refine kc_seq (kc_seq (kc_region (kl_mv rfl (kl_leq rfl rfl ?_))))
 refine kl_nil (kq_code (kc_if rfl (fun c12 => ?_) (fun c12 => ?_)))
 ·skip
  refine kc_skipQ (kq_code (kc_seq (kc_block (kc_seq (kc_region (kl_mv rfl (kl_mv rfl (kl_callP rfl rfl (domainHas_ok d (k : Int)) ?_))))))))
  refine kl_nil (kq_code (kc_cond rfl (fun c13 => ?_) (fun c13 => ?_)))
  ·skip
   have c13r := c13
   try simp only [smpC, decide_eq_true_eq, decide_eq_false_iff_not] at c13
   refine kc_region (kl_mv rfl (kl_mv rfl (kl_bs rfl rfl rfl (by decide) (ca rfl ca_nil) (fun v14 H15 f16 r17 s18 => ?_))))
   have h19 : Ints H15 v14 [(k : Int)] := litInts (xs := [(k : Int)]) (by simpa using s18)
   refine kl_apL (k : Int) rfl rfl o8 (by assumption) rfl (oc rfl oc_nil) (by have := members_len hi6; omega) (by decide) (fun v20 H21 o22 f23 => ?_)
   have f24 := f23 B f9 (Nat.le_refl _)
   refine kl_as rfl (kl_nil (kq_code (kc_region (kl_mv rfl (kl_inc rfl rfl (by omega) ?_)))))
   refine kl_as rfl (kl_nil (kq_roundL ((k + 1), (out ++ [(k : Int)]), v20, H21) (by omega) (⟨by omega, (by first | exact members_stepT hi6 (dh_T (by assumption)) | exact members_stepF hi6 (dh_F (by omega) (by assumption))), o22, f24⟩) (pc 4 rfl (pc 3 rfl pn)) (pc 0 rfl (pc 2 rfl pn)) rfl (List.Sublist.refl _)))
  ·skip
   have c13r := c13
   try simp only [smpC, decide_eq_true_eq, decide_eq_false_iff_not] at c13
   refine kc_skipQ (kq_code (kc_region (kl_mv rfl (kl_inc rfl rfl (by omega) ?_))))
   refine kl_as rfl (kl_nil (kq_roundL ((k + 1), out, v10, H7) (by omega) (⟨by omega, (by first | exact members_stepT hi6 (dh_T (by assumption)) | exact members_stepF hi6 (dh_F (by omega) (by assumption))), o8, f9⟩) (pc 4 rfl (pc 3 rfl pn)) (pc 0 rfl (pc 2 rfl pn)) rfl (List.Sublist.refl _)))
 ·skip
  refine kc_exit (kq_code (kc_seq (kc_region (kl_mv rfl (kl_as rfl (kl_nil (kq_code (kc_ret ?_))))))))
  have e9 : out = valsI d := by (have e : k = 6 := by omega); rw [hi6, e]; rfl
  exact kq_ret rfl rfl H7 f9 (e9 ▸ OwnL.ints o8)
theorem copyInts_ok {Hxs : Hp} {vxs : Value} (xs : List Int) (hb : xs.length ≤ 1048576) (hxs : Ints Hxs vxs xs) : Spec Tryz.prog 29 [vxs] [Hxs] (fun Hq vq => OwnL 3 1 Hq noHp IntV vq xs) := by
 refine spec_of Tryz.func29 rfl rfl rfl (fun B => ?_)
 refine kc_seq (kc_region (kl_as rfl (kl_nil (kq_code (kc_seq (kc_region (kl_bsI [] rfl rfl rfl (by decide) (fun v1 H2 f3 o4 => ?_))))))))
 refine kl_mv rfl (kl_apS rfl rfl o4 (by assumption) (fun _ _ h => h) (by first | omega | (simp; omega)) (by decide) (fun v5 H6 o7 f8 => ?_))
 have f9 := f8 B f3 (Nat.le_refl _)
 refine kl_as rfl (kl_nil (kq_code (kc_ret ?_)))
 have e9 : ([] ++ xs) = xs := by simp
 exact kq_ret rfl rfl H6 f9 (e9 ▸ o7)
theorem hasEmpty_ok {Hxs : Hp} {vxs : Value} (xs : List Int) (hxs : Ints Hxs vxs xs) : SpecP Tryz.prog 126 [vxs] [Hxs] (.bool (xs.contains 0)) := by
 refine spec_of Tryz.func126 rfl rfl rfl (fun B => ?_)
 refine kc_seq (kc_region (kl_as rfl (kl_nil (kq_code (kc_seq (kc_seq (kc_region (kl_as rfl (kl_nil (kq_code (kc_block (kc_loop0 (A := Nat) (fun zz => (zz ≤ xs.length) ∧ ((xs.take zz).any (fun y => decide (y = 0)) = false)) (fun zz => xs.length - zz) (fun zz => [(3, .int .i64 (zz : Int))]) (0) (pc 0 rfl pn) (pc 3 rfl pn) ⟨Nat.zero_le _, by simp⟩ ?_))))))))))))
 rintro k hJ3
 obtain ⟨hk1, hi2⟩ : (k ≤ xs.length) ∧ ((xs.take k).any (fun y => decide (y = 0)) = false) := hJ3
 change KC _ _ (_) _ _ ([(3, .int .i64 (k : Int))] ++ _)
 refine kc_seq (kc_seq (kc_region (kl_mv rfl (kl_mv rfl (kl_len rfl (by assumption) (fun l4 => ?_))))))
 refine kl_lss rfl rfl ?_
 refine kl_nil (kq_code (kc_if rfl (fun c5 => ?_) (fun c5 => ?_)))
 ·skip
  refine kc_skipQ (kq_code (kc_seq (kc_block (kc_seq (kc_region (kl_mv rfl (kl_mv rfl (kl_inI rfl rfl (by assumption) (by omega) (fun p6 a7 => ?_)))))))))
  refine kl_ld rfl (by assumption) (kl_eql rfl rfl ?_)
  refine kl_nil (kq_code (kc_if rfl (fun c8 => ?_) (fun c8 => ?_)))
  ·skip
   refine kc_seq (kc_region (kl_as rfl (kl_nil (kq_code (kc_ret (kq_retP rfl rfl (congrArg Value.bool ?_)))))))
   exact contains_hit (k := k) (by omega) (by assumption)
  ·skip
   refine kc_skipQ (kq_code (kc_region (kl_mv rfl (kl_inc rfl rfl (by omega) ?_))))
   refine kl_as rfl (kl_nil (kq_round0 ((k + 1)) (by omega) (⟨by omega, any_take_step (d := 0) (by omega) hi2 (by simpa using by assumption)⟩) (pc 3 rfl pn) (pc 0 rfl pn) (List.Sublist.refl _)))
 ·skip
  refine kc_exit (kq_code (kc_seq (kc_region (kl_as rfl (kl_nil (kq_code (kc_ret (kq_retP rfl rfl (congrArg Value.bool ?_)))))))))
  exact contains_none (by omega) (by assumption)
theorem project_ok {Hcv : Hp} {vcv : Value} {Hca : Hp} {vca : Value} {Hcr : Hp} {vcr : Value} {Hx : Hp} {vx : Value} (c : Con) (x : List Int) (hv : ∀ v ∈ c.vars, (0 : Int) ≤ v ∧ v < x.length) (hb : c.vars.length ≤ 1048576) (hcv : Ints Hcv vcv c.vars) (hca : Ints Hca vca c.args) (hcr : Rows Hcr vcr c.rows) (hx : Ints Hx vx x) : Spec Tryz.prog 64 [.agg #[.int .i64 c.kind, vcv, vca, .int .i64 c.bound, vcr], vx] [Hcv, Hca, Hcr, Hx] (fun Hq vq => Ints Hq vq (wordL c.vars x)) := by
 refine spec_of Tryz.func64 rfl rfl rfl (fun B => ?_)
 refine kc_seq (kc_region (kl_box rfl rfl (fun p1 H2 f3 a4 => ?_)))
 refine kl_as rfl (kl_nil (kq_code (kc_seq (kc_region (kl_bsI [] rfl rfl rfl (by decide) (fun v5 H6 f7 o8 => ?_))))))
 refine kl_as rfl (kl_nil (kq_code (kc_seq (kc_seq (kc_region (kl_as rfl (kl_nil (kq_code (kc_block (kc_loopL (A := Nat × List Int × Value × Hp) (fun zz => (zz.1 ≤ c.vars.length) ∧ (zz.2.1 = wordTo c.vars x zz.1) ∧ OwnL 3 1 zz.2.2.2 noHp IntV zz.2.2.1 zz.2.1 ∧ Fr B zz.2.2.2) (fun zz => c.vars.length - zz.1) (fun zz => [zz.2.2.2]) (fun zz => [(6, .int .i64 (zz.1 : Int)), (5, zz.2.2.1)]) (0, ([]), v5, H6) (pc 1 rfl (pc 2 rfl (pc 4 rfl pn))) (pc 6 rfl (pc 5 rfl pn)) rfl ⟨Nat.zero_le _, rfl, o8, f7⟩ ?_))))))))))
 rintro ⟨k, out, v14, H11⟩ hJ15
 obtain ⟨hk9, hi10, o12, f13⟩ : (k ≤ c.vars.length) ∧ (out = wordTo c.vars x k) ∧ OwnL 3 1 H11 noHp IntV v14 out ∧ Fr B H11 := hJ15
 change KC _ _ (_) [H11] _ ([(6, .int .i64 (k : Int)), (5, v14)] ++ _)
 refine kc_seq (kc_seq (kc_region (kl_mv rfl (kl_fd rfl (by assumption) (fun p16 a17 => ?_)))))
 refine kl_ld rfl (by assumption) (kl_len rfl (by assumption) (fun l18 => ?_))
 refine kl_lss rfl rfl ?_
 refine kl_nil (kq_code (kc_if rfl (fun c19 => ?_) (fun c19 => ?_)))
 ·skip
  have hv1 := hv _ (getD_mem (d := (0 : Int)) (by omega : k < c.vars.length))
  refine kc_skipQ (kq_code (kc_seq (kc_block (kc_region (kl_mv rfl (kl_mv rfl (kl_fd rfl (by assumption) (fun p20 a21 => ?_))))))))
  refine kl_ld rfl (by assumption) (kl_mv rfl (kl_inI rfl rfl (by assumption) (by omega) (fun p22 a23 => ?_)))
  refine kl_ld rfl (by assumption) (kl_ixI rfl rfl (by assumption) (by omega) (by omega) (fun p24 a25 => ?_))
  refine kl_ld rfl (by assumption) (kl_bs rfl rfl rfl (by decide) (ca rfl ca_nil) (fun v26 H27 f28 r29 s30 => ?_))
  have h31 : Ints H27 v26 [(x.getD (c.vars.getD k 0).toNat 0)] := litInts (xs := [(x.getD (c.vars.getD k 0).toNat 0)]) (by simpa using s30)
  refine kl_apL (x.getD (c.vars.getD k 0).toNat 0) rfl rfl o12 (by assumption) rfl (oc rfl oc_nil) (by have := word_len hi10; omega) (by decide) (fun v32 H33 o34 f35 => ?_)
  have f36 := f35 B f13 (Nat.le_refl _)
  refine kl_as rfl (kl_nil (kq_code (kc_region (kl_mv rfl (kl_inc rfl rfl (by omega) ?_)))))
  refine kl_as rfl (kl_nil (kq_roundL ((k + 1), (out ++ [(x.getD (c.vars.getD k 0).toNat 0)]), v32, H33) (by omega) (⟨by omega, word_step hi10 (by omega), o34, f36⟩) (pc 6 rfl (pc 5 rfl pn)) (pc 1 rfl (pc 2 rfl (pc 4 rfl pn))) rfl (List.Sublist.refl _)))
 ·skip
  refine kc_exit (kq_code (kc_seq (kc_region (kl_mv rfl (kl_as rfl (kl_nil (kq_code (kc_ret ?_))))))))
  have e9 : out = wordL c.vars x := by exact word_end hi10 (by omega)
  exact kq_ret rfl rfl H11 f13 (e9 ▸ OwnL.ints o12)
theorem svalue_ok {Ha : Hp} {va : Value} {Hx : Hp} {vx : Value} (a : List Int) (x : List Int) (hA : Coef a) (hX : Vals x) (hl : a.length = x.length) (h4 : x.length ≤ 4) (ha : Ints Ha va a) (hx : Ints Hx vx x) : SpecP Tryz.prog 33 [va, vx] [Ha, Hx] (.int .i64 (dotTo a x x.length)) := by
 refine spec_of Tryz.func33 rfl rfl rfl (fun B => ?_)
 refine kc_seq (kc_region (kl_as rfl (kl_nil (kq_code (kc_seq (kc_region (kl_as rfl (kl_nil (kq_code (kc_seq (kc_seq (kc_region (kl_as rfl (kl_nil (kq_code ?_)))))))))))))))
 refine kc_block (kc_loop0 (A := Nat × Int) (fun zz => (zz.1 ≤ x.length) ∧ (zz.2 = dotTo a x zz.1)) (fun zz => x.length - zz.1) (fun zz => [(6, .int .i64 (zz.1 : Int)), (5, .int .i64 zz.2)]) (0, (0 : Int)) (pc 0 rfl (pc 1 rfl (pc 4 rfl pn))) (pc 6 rfl (pc 5 rfl pn)) ⟨Nat.zero_le _, rfl⟩ ?_)
 rintro ⟨k, s⟩ hJ3
 obtain ⟨hk1, hi2⟩ : (k ≤ x.length) ∧ (s = dotTo a x k) := hJ3
 change KC _ _ (_) _ _ ([(6, .int .i64 (k : Int)), (5, .int .i64 s)] ++ _)
 refine kc_seq (kc_seq (kc_region (kl_mv rfl (kl_mv rfl (kl_len rfl (by assumption) (fun l4 => ?_))))))
 refine kl_lss rfl rfl ?_
 refine kl_nil (kq_code (kc_if rfl (fun c5 => ?_) (fun c5 => ?_)))
 ·skip
  have h1 := hA.at (k := k) (by omega)
  have h2 := hX.at (k := k) (by omega)
  have h3 := prod_le h1 h2
  have h5 := dot_le hA hX k (by omega) (by omega)
  refine kc_skipQ (kq_code (kc_seq (kc_block (kc_draw 12 [true, true, true, true, true, true, true, true, true, true, true, true] (by kernel_rfl) (by kernel_rfl) ?_))))
  refine kl_mv rfl (kl_mv rfl (kl_mv rfl (kl_inI rfl rfl (by assumption) (by omega) (fun p6 a7 => ?_))))
  refine kl_ld rfl (by assumption) (kl_mv rfl (kl_mv rfl (kl_inI rfl rfl (by assumption) (by omega) (fun p8 a9 => ?_))))
  refine kl_ld rfl (by assumption) (kl_mul rfl rfl (by omega) ?_)
  refine kl_add rfl rfl (by omega) ?_
  refine kl_as rfl (kl_nil (kq_code (kc_region (kl_mv rfl (kl_inc rfl rfl (by omega) ?_)))))
  refine kl_as rfl (kl_nil (kq_round0 ((k + 1), (s + ((a.getD k 0) * (x.getD k 0)))) (by omega) (⟨by omega, (by rw [dot_succ, ← hi2])⟩) (pc 6 rfl (pc 5 rfl pn)) (pc 0 rfl (pc 1 rfl (pc 4 rfl pn))) (List.Sublist.refl _)))
 ·skip
  refine kc_exit (kq_code (kc_seq (kc_region (kl_mv rfl (kl_as rfl (kl_nil (kq_code (kc_ret (kq_retP rfl rfl (congrArg (Value.int .i64) ?_))))))))))
  rw [show x.length = k from by omega]; exact hi2
theorem capacity_ok {Hcv : Hp} {vcv : Value} {Hca : Hp} {vca : Value} {Hcr : Hp} {vcr : Value} {Hx : Hp} {vx : Value} (c : Con) (x : List Int) (hs : SatOk c x) (hk : c.kind = 7) (hcv : Ints Hcv vcv c.vars) (hca : Ints Hca vca c.args) (hcr : Rows Hcr vcr c.rows) (hx : Ints Hx vx x) : SpecP Tryz.prog 102 [.agg #[.int .i64 c.kind, vcv, vca, .int .i64 c.bound, vcr], vx] [Hcv, Hca, Hcr, Hx] (.bool (roomB c x)) := by
 have h7 := hs.k7 hk
 have h4 := hs.four
 refine spec_of Tryz.func102 rfl rfl rfl (fun B => ?_)
 refine kc_seq (kc_region (kl_box rfl rfl (fun p1 H2 f3 a4 => ?_)))
 refine kl_as rfl (kl_nil (kq_code (kc_seq (kc_region (kl_mv rfl (kl_len rfl (by assumption) (fun l5 => ?_)))))))
 refine kl_as rfl (kl_nil (kq_code (kc_seq (kc_seq (kc_region (kl_as rfl (kl_nil (kq_code (kc_block (kc_loop0 (A := Nat) (fun zz => (zz ≤ 15) ∧ (roomTo c x zz = true)) (fun zz => 15 - zz) (fun zz => [(6, .int .i64 (zz : Int))]) (0) (pc 1 rfl (pc 2 rfl (pc 5 rfl pn))) (pc 6 rfl pn) ⟨Nat.zero_le _, rfl⟩ ?_))))))))))
 rintro k hJ8
 obtain ⟨hk6, hi7⟩ : (k ≤ 15) ∧ (roomTo c x k = true) := hJ8
 change KC _ _ (_) _ _ ([(6, .int .i64 (k : Int))] ++ _)
 refine kc_seq (kc_seq (kc_region (kl_mv rfl (kl_leq rfl rfl ?_))))
 refine kl_nil (kq_code (kc_if rfl (fun c9 => ?_) (fun c9 => ?_)))
 ·skip
  refine kc_skipQ (kq_code (kc_seq (kc_block (kc_seq (kc_region (kl_as rfl (kl_nil (kq_code (kc_seq (kc_seq (kc_region ?_)))))))))))
  refine kl_as rfl (kl_nil (kq_code (kc_block (kc_loop0 (A := Nat × Int) (fun zz => (zz.1 ≤ x.length) ∧ (zz.2 = loadTo c.args x k zz.1)) (fun zz => x.length - zz.1) (fun zz => [(8, .int .i64 (zz.1 : Int)), (7, .int .i64 zz.2)]) (0, (0 : Int)) (pc 1 rfl (pc 2 rfl (pc 5 rfl (pc 6 rfl (pc 11 rfl (pc 12 rfl pn)))))) (pc 8 rfl (pc 7 rfl pn)) ⟨Nat.zero_le _, rfl⟩ ?_))))
  rintro ⟨i, s⟩ hJ12
  obtain ⟨hk10, hi11⟩ : (i ≤ x.length) ∧ (s = loadTo c.args x k i) := hJ12
  change KC _ _ (_) _ _ ([(8, .int .i64 (i : Int)), (7, .int .i64 s)] ++ _)
  refine kc_seq (kc_seq (kc_region (kl_mv rfl (kl_mv rfl (kl_lss rfl rfl ?_)))))
  refine kl_nil (kq_code (kc_if rfl (fun c13 => ?_) (fun c13 => ?_)))
  ·skip
   have hl := load_le (x := x) h7.2 (by omega) k i (by omega)
   have hx1 := hs.val.at (k := i) (by omega)
   have ha1 := h7.2 _ (getD_mem (d := (0 : Int)) (by omega : i < c.args.length))
   refine kc_skipQ (kq_code (kc_seq (kc_block (kc_seq (kc_draw 20 [true, true, true, true, true, true, true, true, true, true, true, true, true, true, true, true, true, true, true, true] (by kernel_rfl) (by kernel_rfl) ?_)))))
   refine kl_mv rfl (kl_mv rfl (kl_mv rfl (kl_inI rfl rfl (by assumption) (by omega) (fun p14 a15 => ?_))))
   refine kl_ld rfl (by assumption) (kl_geq rfl rfl ?_)
   refine kl_mv rfl (kl_join 13 39 (.bool (decide ((x.getD i 0) ≤ (k : Int)) && decide ((k : Int) < ((x.getD i 0) + (c.args.getD i 0))))) (pc 1 rfl (pc 2 rfl (pc 5 rfl (pc 6 rfl (pc 7 rfl (pc 8 rfl (pc 11 rfl (pc 12 rfl (pc 15 rfl (pc 16 rfl (pc 17 rfl (pc 20 rfl (pc 21 rfl (pc 22 rfl (pc 23 rfl (pc 24 rfl (pc 25 rfl (pc 26 rfl pn)))))))))))))))))) (fun J23 => ?_) ?_)
   ·rcases Bool.eq_false_or_eq_true (decide ((x.getD i 0) ≤ (k : Int))) with g16 | g16
    ·skip
     have g16p := of_decide_eq_true g16
     refine kl_gT rfl rfl g16 (kl_mv rfl (kl_gT rfl rfl g16 (kl_mv rfl (kl_gT rfl rfl g16 (kl_mv rfl (kl_gT rfl rfl g16 (kl_inI rfl rfl (by assumption) (by omega) (fun p17 a18 => ?_))))))))
     refine kl_gT rfl rfl g16 (kl_ld rfl (by assumption) (kl_gT rfl rfl g16 (kl_fd rfl (by assumption) (fun p19 a20 => ?_))))
     refine kl_gT rfl rfl g16 (kl_ld rfl (by assumption) (kl_gT rfl rfl g16 (kl_mv rfl (kl_gT rfl rfl g16 (kl_inI rfl rfl (by assumption) (by omega) (fun p21 a22 => ?_))))))
     refine kl_gT rfl rfl g16 (kl_ld rfl (by assumption) (kl_gT rfl rfl g16 (kl_add rfl rfl (by omega) ?_)))
     refine kl_gT rfl rfl g16 (kl_lss rfl rfl ?_)
     refine kl_andT rfl rfl g16 ?_
     exact J23 _ (pc 39 rfl (pc 1 rfl (pc 2 rfl (pc 5 rfl (pc 6 rfl (pc 7 rfl (pc 8 rfl (pc 11 rfl (pc 12 rfl (pc 15 rfl (pc 16 rfl (pc 17 rfl (pc 20 rfl (pc 21 rfl (pc 22 rfl (pc 23 rfl (pc 24 rfl (pc 25 rfl (pc 26 rfl pn)))))))))))))))))))
    ·skip
     refine kl_gF rfl rfl g16 (kl_gF rfl rfl g16 (kl_gF rfl rfl g16 (kl_gF rfl rfl g16 (kl_gF rfl rfl g16 (kl_gF rfl rfl g16 (kl_gF rfl rfl g16 (kl_gF rfl rfl g16 (kl_gF rfl rfl g16 ?_))))))))
     refine kl_gF rfl rfl g16 (kl_gF rfl rfl g16 (kl_gF rfl rfl g16 (kl_andF (decide ((k : Int) < ((x.getD i 0) + (c.args.getD i 0)))) rfl rfl g16 ?_)))
     exact J23 _ (pc 39 rfl (pc 1 rfl (pc 2 rfl (pc 5 rfl (pc 6 rfl (pc 7 rfl (pc 8 rfl (pc 11 rfl (pc 12 rfl (pc 15 rfl (pc 16 rfl (pc 17 rfl (pc 20 rfl (pc 21 rfl (pc 22 rfl (pc 23 rfl (pc 24 rfl (pc 25 rfl (pc 26 rfl pn)))))))))))))))))))
   refine kl_nil (kq_code (kc_cond rfl (fun c24 => ?_) (fun c24 => ?_)))
   ·skip
    have c24r := c24
    try simp only [smpC, decide_eq_true_eq, decide_eq_false_iff_not] at c24
    have ha2 := h7.2 _ (getD_mem (d := (0 : Int)) (by omega : x.length + i < c.args.length))
    refine kc_region (kl_mv rfl (kl_fd rfl (by assumption) (fun p25 a26 => ?_)))
    refine kl_ld rfl (by assumption) (kl_mv rfl (kl_mv rfl (kl_addN rfl rfl (by omega) ?_)))
    refine kl_inI rfl rfl (by assumption) (by omega) (fun p27 a28 => ?_)
    refine kl_ld rfl (by assumption) (kl_add rfl rfl (by omega) ?_)
    refine kl_as rfl (kl_nil (kq_code (kc_region (kl_mv rfl (kl_inc rfl rfl (by omega) ?_)))))
    refine kl_as rfl (kl_nil (kq_round0 ((i + 1), (s + (c.args.getD (x.length + i) 0))) (by omega) (⟨by omega, (by first | exact load_stepT hi11 (by assumption) | exact load_stepF hi11 (by assumption))⟩) (pc 8 rfl (pc 7 rfl pn)) (pc 1 rfl (pc 2 rfl (pc 5 rfl (pc 6 rfl (pc 11 rfl (pc 12 rfl pn)))))) (List.Sublist.refl _)))
   ·skip
    have c24r := c24
    try simp only [smpC, decide_eq_true_eq, decide_eq_false_iff_not] at c24
    refine kc_skipQ (kq_code (kc_region (kl_mv rfl (kl_inc rfl rfl (by omega) ?_))))
    refine kl_as rfl (kl_nil (kq_round0 ((i + 1), s) (by omega) (⟨by omega, (by first | exact load_stepT hi11 (by assumption) | exact load_stepF hi11 (by assumption))⟩) (pc 8 rfl (pc 7 rfl pn)) (pc 1 rfl (pc 2 rfl (pc 5 rfl (pc 6 rfl (pc 11 rfl (pc 12 rfl pn)))))) (List.Sublist.refl _)))
  ·skip
   refine kc_exit (kq_code (kc_seq (kc_region (kl_mv rfl (kl_fd rfl (by assumption) (fun p29 a30 => ?_))))))
   refine kl_ld rfl (by assumption) (kl_gtr rfl rfl ?_)
   refine kl_nil (kq_code (kc_if rfl (fun c31 => ?_) (fun c31 => ?_)))
   ·skip
    refine kc_seq (kc_region (kl_as rfl (kl_nil (kq_code (kc_ret (kq_retP rfl rfl (congrArg Value.bool ?_)))))))
    exact room_no' (k := k) (by omega) hi11 (by omega) (by assumption)
   ·skip
    refine kc_skipQ (kq_code (kc_region (kl_mv rfl (kl_inc rfl rfl (by omega) ?_))))
    refine kl_as rfl (kl_nil (kq_round0 ((k + 1)) (by omega) (⟨by omega, room_step hi7 hi11 (by omega) (by assumption)⟩) (pc 6 rfl pn) (pc 1 rfl (pc 2 rfl (pc 5 rfl pn))) (List.Sublist.refl _)))
 ·skip
  refine kc_exit (kq_code (kc_seq (kc_region (kl_as rfl (kl_nil (kq_code (kc_ret (kq_retP rfl rfl (congrArg Value.bool ?_)))))))))
  exact room_yes hi7 (by omega)
theorem saccepts_ok {Hcv : Hp} {vcv : Value} {Hca : Hp} {vca : Value} {Hcr : Hp} {vcr : Value} {Hx : Hp} {vx : Value} (c : Con) (x : List Int) (hs : SatOk c x) (hk : c.kind = 8) (hcv : Ints Hcv vcv c.vars) (hca : Ints Hca vca c.args) (hcr : Rows Hcr vcr c.rows) (hx : Ints Hx vx x) : SpecP Tryz.prog 103 [.agg #[.int .i64 c.kind, vcv, vca, .int .i64 c.bound, vcr], vx] [Hcv, Hca, Hcr, Hx] (.bool (accB c x)) := by
 have h8 := hs.k8 hk
 have h8r := hs.k8r hk
 refine spec_of Tryz.func103 rfl rfl rfl (fun B => ?_)
 refine kc_seq (kc_region (kl_box rfl rfl (fun p1 H2 f3 a4 => ?_)))
 refine kl_as rfl (kl_nil (kq_code (kc_seq (kc_region (kl_as rfl (kl_nil (kq_code (kc_seq (kc_seq (kc_region (kl_as rfl (kl_nil (kq_code (kc_block ?_))))))))))))))
 refine kc_loop0 (A := Nat × Int) (fun zz => (zz.1 ≤ x.length) ∧ (0 ≤ zz.2 ∧ zz.2 < c.rows.length ∧ accGo c.rows zz.2 (x.drop zz.1) = accGo c.rows 0 x)) (fun zz => x.length - zz.1) (fun zz => [(6, .int .i64 (zz.1 : Int)), (5, .int .i64 zz.2)]) (0, (0 : Int)) (pc 1 rfl (pc 2 rfl pn)) (pc 6 rfl (pc 5 rfl pn)) ⟨Nat.zero_le _, ⟨by dsimp only; omega, by dsimp only; omega, by simp⟩⟩ ?_
 rintro ⟨k, s⟩ hJ7
 obtain ⟨hk5, hi6⟩ : (k ≤ x.length) ∧ (0 ≤ s ∧ s < c.rows.length ∧ accGo c.rows s (x.drop k) = accGo c.rows 0 x) := hJ7
 change KC _ _ (_) _ _ ([(6, .int .i64 (k : Int)), (5, .int .i64 s)] ++ _)
 refine kc_seq (kc_seq (kc_region (kl_mv rfl (kl_mv rfl (kl_len rfl (by assumption) (fun l8 => ?_))))))
 refine kl_lss rfl rfl ?_
 refine kl_nil (kq_code (kc_if rfl (fun c9 => ?_) (fun c9 => ?_)))
 ·skip
  have hr := h8.2 _ (getD_mem (d := ([] : List Int)) (by omega : s.toNat < c.rows.length))
  have hx1 := hs.val.at (k := k) (by omega)
  refine kc_skipQ (kq_code (kc_seq (kc_block (kc_seq (kc_draw 12 [true, true, true, true, true, true, true, true, true, true, true, true] (by kernel_rfl) (by kernel_rfl) ?_)))))
  refine kl_fd rfl (by assumption) (fun p10 a11 => ?_)
  refine kl_ld rfl (by assumption) (kl_mv rfl (kl_ixS rfl rfl (by assumption) (by omega) (by omega) (fun p12 u14 h15 a13 => ?_)))
  refine kl_ld rfl (by assumption) (kl_mv rfl (kl_mv rfl (kl_inI rfl rfl (by assumption) (by omega) (fun p16 a17 => ?_))))
  refine kl_ld rfl (by assumption) (kl_ixI rfl rfl (by assumption) (by omega) (by omega) (fun p18 a19 => ?_))
  refine kl_ld rfl (by assumption) (kl_as rfl (kl_nil (kq_code (kc_seq (kc_region (kl_mv rfl (kl_lss rfl rfl ?_)))))))
  refine kl_nil (kq_code (kc_if rfl (fun c20 => ?_) (fun c20 => ?_)))
  ·skip
   refine kc_seq (kc_region (kl_as rfl (kl_nil (kq_code (kc_ret (kq_retP rfl rfl (congrArg Value.bool ?_)))))))
   exact acc_no (k := k) (by omega) hi6.2.2 (by assumption)
  ·skip
   refine kc_skipQ (kq_code (kc_region (kl_mv rfl (kl_inc rfl rfl (by omega) ?_))))
   refine kl_as rfl (kl_nil (kq_round0 ((k + 1), ((c.rows.getD s.toNat []).getD (x.getD k 0).toNat 0)) (by omega) (⟨by omega, acc_step h8r (by omega) ⟨hi6.1, hi6.2.1⟩ hx1 hi6.2.2 (by assumption)⟩) (pc 6 rfl (pc 5 rfl pn)) (pc 1 rfl (pc 2 rfl pn)) (List.Sublist.refl _)))
 ·skip
  refine kc_exit (kq_code (kc_seq (kc_seq (kc_region (kl_as rfl (kl_nil (kq_code (kc_block (kc_loop0 (A := Nat) (fun zz => (zz ≤ c.args.length) ∧ ((c.args.take zz).any (fun y => decide (y = s)) = false)) (fun zz => c.args.length - zz) (fun zz => [(7, .int .i64 (zz : Int))]) (0) (pc 2 rfl (pc 5 rfl pn)) (pc 7 rfl pn) ⟨Nat.zero_le _, by simp⟩ ?_)))))))))
  rintro j hJ23
  obtain ⟨hk21, hi22⟩ : (j ≤ c.args.length) ∧ ((c.args.take j).any (fun y => decide (y = s)) = false) := hJ23
  change KC _ _ (_) _ _ ([(7, .int .i64 (j : Int))] ++ _)
  refine kc_seq (kc_seq (kc_region (kl_mv rfl (kl_fd rfl (by assumption) (fun p24 a25 => ?_)))))
  refine kl_ld rfl (by assumption) (kl_len rfl (by assumption) (fun l26 => ?_))
  refine kl_lss rfl rfl ?_
  refine kl_nil (kq_code (kc_if rfl (fun c27 => ?_) (fun c27 => ?_)))
  ·skip
   refine kc_skipQ (kq_code (kc_seq (kc_block (kc_seq (kc_region (kl_fd rfl (by assumption) (fun p28 a29 => ?_)))))))
   refine kl_ld rfl (by assumption) (kl_mv rfl (kl_inI rfl rfl (by assumption) (by omega) (fun p30 a31 => ?_)))
   refine kl_ld rfl (by assumption) (kl_mv rfl (kl_eql rfl rfl ?_))
   refine kl_nil (kq_code (kc_if rfl (fun c32 => ?_) (fun c32 => ?_)))
   ·skip
    refine kc_seq (kc_region (kl_as rfl (kl_nil (kq_code (kc_ret (kq_retP rfl rfl (congrArg Value.bool ?_)))))))
    rw [← acc_yes (k := k) (by omega) hi6.1 hi6.2.2]; exact contains_hit (k := j) (by omega) (by assumption)
   ·skip
    refine kc_skipQ (kq_code (kc_region (kl_mv rfl (kl_inc rfl rfl (by omega) ?_))))
    refine kl_as rfl (kl_nil (kq_round0 ((j + 1)) (by omega) (⟨by omega, any_take_step (d := 0) (by omega) hi22 (by simpa using by assumption)⟩) (pc 7 rfl pn) (pc 2 rfl (pc 5 rfl pn)) (List.Sublist.refl _)))
  ·skip
   refine kc_exit (kq_code (kc_seq (kc_region (kl_as rfl (kl_nil (kq_code (kc_ret (kq_retP rfl rfl (congrArg Value.bool ?_)))))))))
   rw [← acc_yes (k := k) (by omega) hi6.1 hi6.2.2]; exact contains_none (by omega) (by assumption)
theorem circuit_ok {Hx : Hp} {vx : Value} (x : List Int) (h1 : 1 ≤ x.length) (hv : Vals x) (hx : Ints Hx vx x) : SpecP Tryz.prog 104 [vx] [Hx] (.bool (cycB x)) := by
 refine spec_of Tryz.func104 rfl rfl rfl (fun B => ?_)
 refine kc_seq (kc_region (kl_as rfl (kl_nil (kq_code (kc_seq (kc_region (kl_as rfl (kl_nil (kq_code (kc_seq (kc_seq (kc_region (kl_as rfl (kl_nil (kq_code ?_)))))))))))))))
 refine kc_block (kc_loop0 (A := Nat × Int) (fun zz => (1 ≤ zz.1 ∧ zz.1 ≤ x.length + 1) ∧ (0 ≤ zz.2 ∧ zz.2 < x.length ∧ cycSGo x (x.length + 1 - zz.1) zz.2 (zz.1 : Int) = cycB x)) (fun zz => (x.length + 1) - zz.1) (fun zz => [(4, .int .i64 (zz.1 : Int)), (3, .int .i64 zz.2)]) (1, (0 : Int)) (pc 0 rfl pn) (pc 4 rfl (pc 3 rfl pn)) ⟨by constructor <;> omega, ⟨by dsimp only; omega, by dsimp only; omega, rfl⟩⟩ ?_)
 rintro ⟨k, a⟩ hJ3
 obtain ⟨hk1, hi2⟩ : (1 ≤ k ∧ k ≤ x.length + 1) ∧ (0 ≤ a ∧ a < x.length ∧ cycSGo x (x.length + 1 - k) a (k : Int) = cycB x) := hJ3
 change KC _ _ (_) _ _ ([(4, .int .i64 (k : Int)), (3, .int .i64 a)] ++ _)
 refine kc_seq (kc_seq (kc_region (kl_mv rfl (kl_mv rfl (kl_len rfl (by assumption) (fun l4 => ?_))))))
 refine kl_leq rfl rfl ?_
 refine kl_nil (kq_code (kc_if rfl (fun c5 => ?_) (fun c5 => ?_)))
 ·skip
  refine kc_skipQ (kq_code (kc_seq (kc_block (kc_seq (kc_seq (kc_region (kl_mv rfl (kl_mv rfl (kl_ixI rfl rfl (by assumption) (by omega) (by omega) (fun p6 a7 => ?_))))))))))
  refine kl_ld rfl (by assumption) (kl_mv rfl (kl_len rfl (by assumption) (fun l8 => ?_)))
  refine kl_geq rfl rfl ?_
  refine kl_nil (kq_code (kc_if rfl (fun c9 => ?_) (fun c9 => ?_)))
  ·skip
   refine kc_seq (kc_region (kl_as rfl (kl_nil (kq_code (kc_ret (kq_retP rfl rfl (congrArg Value.bool ?_)))))))
   (have h := cycS_at hi2.2.2 (by omega); rw [if_pos (by assumption)] at h; exact h.symm)
  ·skip
   refine kc_skipQ (kq_code (kc_seq (kc_region (kl_mv rfl (kl_mv rfl (kl_ixI rfl rfl (by assumption) (by omega) (by omega) (fun p10 a11 => ?_)))))))
   refine kl_ld rfl (by assumption) (kl_as rfl (kl_nil (kq_code (kc_seq (kc_region (kl_mv rfl (kl_eql rfl rfl ?_)))))))
   refine kl_nil (kq_code (kc_if rfl (fun c12 => ?_) (fun c12 => ?_)))
   ·skip
    refine kc_seq (kc_region (kl_mv rfl (kl_mv rfl (kl_len rfl (by assumption) (fun l13 => ?_)))))
    refine kl_eql rfl rfl ?_
    refine kl_as rfl (kl_nil (kq_code (kc_ret (kq_retP rfl rfl (congrArg Value.bool ?_)))))
    (have h := cycS_at hi2.2.2 (by omega); rw [if_neg (by assumption), if_pos (by assumption)] at h; exact h.symm)
   ·skip
    refine kc_skipQ (kq_code (kc_region (kl_mv rfl (kl_inc rfl rfl (by omega) ?_))))
    refine kl_as rfl (kl_nil (kq_round0 ((k + 1), (x.getD a.toNat 0)) (by omega) (⟨by constructor <;> omega, (by have h := cycS_at hi2.2.2 (by omega); rw [if_neg (by assumption), if_neg (by assumption)] at h; exact ⟨(hv _ (getD_mem (by omega))).1, by omega, h.symm⟩)⟩) (pc 4 rfl (pc 3 rfl pn)) (pc 0 rfl pn) (List.Sublist.refl _)))
 ·skip
  refine kc_exit (kq_code (kc_seq (kc_region (kl_as rfl (kl_nil (kq_code (kc_ret (kq_retP rfl rfl (congrArg Value.bool ?_)))))))))
  exact cycS_0 hi2.2.2 (by assumption)
theorem hasRow_ok {Hrows : Hp} {vrows : Value} {Hx : Hp} {vx : Value} (rows : List (List Int)) (x : List Int) (hr : ∀ r ∈ rows, r.length = x.length) (hrows : Rows Hrows vrows rows) (hx : Ints Hx vx x) : SpecP Tryz.prog 101 [vrows, vx] [Hrows, Hx] (.bool (rows.any (fun r => decide (r = x)))) := by
 refine spec_of Tryz.func101 rfl rfl rfl (fun B => ?_)
 refine kc_seq (kc_region (kl_as rfl (kl_nil (kq_code (kc_seq (kc_seq (kc_region (kl_as rfl (kl_nil (kq_code (kc_block (kc_loop0 (A := Nat) (fun zz => (zz ≤ rows.length) ∧ ((rows.take zz).any (fun r => decide (r = x)) = false)) (fun zz => rows.length - zz) (fun zz => [(5, .int .i64 (zz : Int))]) (0) (pc 0 rfl (pc 1 rfl pn)) (pc 5 rfl pn) ⟨Nat.zero_le _, by simp⟩ ?_))))))))))))
 rintro k hJ3
 obtain ⟨hk1, hi2⟩ : (k ≤ rows.length) ∧ ((rows.take k).any (fun r => decide (r = x)) = false) := hJ3
 change KC _ _ (_) _ _ ([(5, .int .i64 (k : Int))] ++ _)
 refine kc_seq (kc_seq (kc_region (kl_mv rfl (kl_mv rfl (kl_len rfl (by assumption) (fun l4 => ?_))))))
 refine kl_lss rfl rfl ?_
 refine kl_nil (kq_code (kc_if rfl (fun c5 => ?_) (fun c5 => ?_)))
 ·skip
  have hr1 := hr _ (getD_mem (d := ([] : List Int)) (by omega : k < rows.length))
  refine kc_skipQ (kq_code (kc_seq (kc_block (kc_seq (kc_region (kl_as rfl (kl_nil (kq_code (kc_seq (kc_seq (kc_region ?_)))))))))))
  refine kl_as rfl (kl_nil (kq_code (kc_block (kc_loop0 (A := Nat × Bool) (fun zz => (zz.1 ≤ x.length) ∧ (zz.2 = decide ((rows.getD k []).take zz.1 = x.take zz.1))) (fun zz => x.length - zz.1) (fun zz => [(7, .int .i64 (zz.1 : Int)), (6, .bool zz.2)]) (0, true) (pc 0 rfl (pc 1 rfl (pc 5 rfl (pc 8 rfl (pc 9 rfl (pc 10 rfl (pc 11 rfl pn))))))) (pc 7 rfl (pc 6 rfl pn)) ⟨Nat.zero_le _, by simp⟩ ?_))))
  rintro ⟨j, b⟩ hJ8
  obtain ⟨hk6, hi7⟩ : (j ≤ x.length) ∧ (b = decide ((rows.getD k []).take j = x.take j)) := hJ8
  change KC _ _ (_) _ _ ([(7, .int .i64 (j : Int)), (6, .bool b)] ++ _)
  refine kc_seq (kc_seq (kc_region (kl_mv rfl (kl_mv rfl (kl_len rfl (by assumption) (fun l9 => ?_))))))
  refine kl_lss rfl rfl ?_
  refine kl_nil (kq_code (kc_if rfl (fun c10 => ?_) (fun c10 => ?_)))
  ·skip
   refine kc_skipQ (kq_code (kc_seq (kc_block (kc_draw 16 [true, true, true, true, true, true, true, true, true, true, true, true, true, true, true, true] (by kernel_rfl) (by kernel_rfl) ?_))))
   refine kl_mv rfl (kl_mv rfl (kl_join 13 34 (.bool (b && decide (((rows.getD k []).getD j 0) = (x.getD j 0)))) (pc 0 rfl (pc 1 rfl (pc 5 rfl (pc 6 rfl (pc 7 rfl (pc 8 rfl (pc 9 rfl (pc 10 rfl (pc 11 rfl (pc 14 rfl (pc 15 rfl (pc 16 rfl (pc 17 rfl (pc 20 rfl (pc 21 rfl pn))))))))))))))) (fun J20 => ?_) ?_))
   ·rcases Bool.eq_false_or_eq_true b with g11 | g11
    ·skip
     have g11p := g11
     try simp only [Bool.not_eq_true', Bool.not_eq_false', decide_eq_true_eq, decide_eq_false_iff_not, Bool.and_eq_true, Bool.or_eq_false_iff, withinB_iff] at g11p
     refine kl_gT rfl rfl g11 (kl_mv rfl (kl_gT rfl rfl g11 (kl_mv rfl (kl_gT rfl rfl g11 (kl_inS rfl rfl (by assumption) (by omega) (fun p12 u14 h15 a13 => ?_))))))
     refine kl_gT rfl rfl g11 (kl_ld rfl (by assumption) (kl_gT rfl rfl g11 (kl_mv rfl (kl_gT rfl rfl g11 (kl_inI rfl rfl (by assumption) (by omega) (fun p16 a17 => ?_))))))
     refine kl_gT rfl rfl g11 (kl_ld rfl (by assumption) (kl_gT rfl rfl g11 (kl_mv rfl (kl_gT rfl rfl g11 (kl_mv rfl (kl_gT rfl rfl g11 (kl_inI rfl rfl (by assumption) (by omega) (fun p18 a19 => ?_))))))))
     refine kl_gT rfl rfl g11 (kl_ld rfl (by assumption) (kl_gT rfl rfl g11 (kl_eql rfl rfl ?_)))
     refine kl_andT rfl rfl g11 ?_
     exact J20 _ (pc 34 rfl (pc 0 rfl (pc 1 rfl (pc 5 rfl (pc 6 rfl (pc 7 rfl (pc 8 rfl (pc 9 rfl (pc 10 rfl (pc 11 rfl (pc 14 rfl (pc 15 rfl (pc 16 rfl (pc 17 rfl (pc 20 rfl (pc 21 rfl pn))))))))))))))))
    ·skip
     refine kl_gF rfl rfl g11 (kl_gF rfl rfl g11 (kl_gF rfl rfl g11 (kl_gF rfl rfl g11 (kl_gF rfl rfl g11 (kl_gF rfl rfl g11 (kl_gF rfl rfl g11 (kl_gF rfl rfl g11 (kl_gF rfl rfl g11 ?_))))))))
     refine kl_gF rfl rfl g11 (kl_gF rfl rfl g11 (kl_gF rfl rfl g11 (kl_andF (decide (((rows.getD k []).getD j 0) = (x.getD j 0))) rfl rfl g11 ?_)))
     exact J20 _ (pc 34 rfl (pc 0 rfl (pc 1 rfl (pc 5 rfl (pc 6 rfl (pc 7 rfl (pc 8 rfl (pc 9 rfl (pc 10 rfl (pc 11 rfl (pc 14 rfl (pc 15 rfl (pc 16 rfl (pc 17 rfl (pc 20 rfl (pc 21 rfl pn))))))))))))))))
   refine kl_as rfl (kl_nil (kq_code (kc_region (kl_mv rfl (kl_inc rfl rfl (by omega) ?_)))))
   refine kl_as rfl (kl_nil (kq_round0 ((j + 1), (b && decide (((rows.getD k []).getD j 0) = (x.getD j 0)))) (by omega) (⟨by omega, row_step (by omega) hr1 hi7⟩) (pc 7 rfl (pc 6 rfl pn)) (pc 0 rfl (pc 1 rfl (pc 5 rfl (pc 8 rfl (pc 9 rfl (pc 10 rfl (pc 11 rfl pn))))))) (List.Sublist.refl _)))
  ·skip
   refine kc_exit (kq_code (kc_seq (kc_region (kl_mv rfl (kl_nil (kq_code (kc_cond rfl (fun c21 => ?_) (fun c21 => ?_))))))))
   ·skip
    have c21r := c21
    try simp only [smpC, decide_eq_true_eq, decide_eq_false_iff_not] at c21
    refine kc_seq (kc_region (kl_as rfl (kl_nil (kq_code (kc_ret (kq_retP rfl rfl (congrArg Value.bool ?_)))))))
    exact (any_true (d := []) (k := k) (by omega) (row_eq (by omega) hr1 hi7 (by assumption))).symm
   ·skip
    have c21r := c21
    try simp only [smpC, decide_eq_true_eq, decide_eq_false_iff_not] at c21
    refine kc_skipQ (kq_code (kc_region (kl_mv rfl (kl_inc rfl rfl (by omega) ?_))))
    refine kl_as rfl (kl_nil (kq_round0 ((k + 1)) (by omega) (⟨by omega, any_take_step (d := []) (by omega) hi2 (row_neq (by omega) hr1 hi7 (by assumption))⟩) (pc 5 rfl pn) (pc 0 rfl (pc 1 rfl pn)) (List.Sublist.refl _)))
 ·skip
  refine kc_exit (kq_code (kc_seq (kc_region (kl_as rfl (kl_nil (kq_code (kc_ret (kq_retP rfl rfl (congrArg Value.bool ?_)))))))))
  rw [List.take_of_length_le (by omega)] at *; exact (by assumption : rows.any (fun r => decide (r = x)) = false).symm
theorem satisfies_ok {Hcv : Hp} {vcv : Value} {Hca : Hp} {vca : Value} {Hcr : Hp} {vcr : Value} {Hx : Hp} {vx : Value} (c : Con) (x : List Int) (hs : SatOk c x) (hcv : Ints Hcv vcv c.vars) (hca : Ints Hca vca c.args) (hcr : Rows Hcr vcr c.rows) (hx : Ints Hx vx x) : SpecP Tryz.prog 63 [.agg #[.int .i64 c.kind, vcv, vca, .int .i64 c.bound, vcr], vx] [Hcv, Hca, Hcr, Hx] (.bool (satB c x)) := by
 have h4 := hs.four
 have h1 := hs.one
 refine spec_of Tryz.func63 rfl rfl rfl (fun B => ?_)
 refine kc_seq (kc_region (kl_box rfl rfl (fun p1 H2 f3 a4 => ?_)))
 refine kl_as rfl (kl_nil (kq_code (kc_seq (kc_seq (kc_region (kl_fd rfl (by assumption) (fun p5 a6 => ?_)))))))
 refine kl_ld rfl (by assumption) (kl_nil (kq_code (kc_block (kc_seq (kc_region (kl_eql rfl rfl ?_))))))
 refine kl_as rfl (kl_nil (kq_code (kc_if rfl (fun c7 => ?_) (fun c7 => ?_))))
 ·skip
  have hk := hs.k1 c7
  refine kc_seq (kc_region (kl_as rfl (kl_nil (kq_code (kc_seq (kc_seq (kc_region (kl_as rfl (kl_nil (kq_code (kc_block (kc_loop0 (A := Nat × Int) (fun zz => (zz.1 ≤ x.length) ∧ (zz.2 = dotTo c.args x zz.1)) (fun zz => x.length - zz.1) (fun zz => [(6, .int .i64 (zz.1 : Int)), (5, .int .i64 zz.2)]) (0, (0 : Int)) (pc 1 rfl (pc 2 rfl (pc 4 rfl pn))) (pc 6 rfl (pc 5 rfl pn)) ⟨Nat.zero_le _, rfl⟩ ?_))))))))))))
  rintro ⟨k, s⟩ hJ10
  obtain ⟨hk8, hi9⟩ : (k ≤ x.length) ∧ (s = dotTo c.args x k) := hJ10
  change KC _ _ (_) _ _ ([(6, .int .i64 (k : Int)), (5, .int .i64 s)] ++ _)
  refine kc_seq (kc_seq (kc_region (kl_mv rfl (kl_mv rfl (kl_len rfl (by assumption) (fun l11 => ?_))))))
  refine kl_lss rfl rfl ?_
  refine kl_nil (kq_code (kc_if rfl (fun c12 => ?_) (fun c12 => ?_)))
  ·skip
   try (
    have ha1 := hk.2.at (k := k) (by omega)
    have hx1 := hs.val.at (k := k) (by omega)
    have h3 := prod_le ha1 hx1
    have h5 := dot_le hk.2 hs.val k (by omega) (by omega))
   refine kc_skipQ (kq_code (kc_seq (kc_block (kc_draw 13 [true, true, true, true, true, true, true, true, true, true, true, true, true] (by kernel_rfl) (by kernel_rfl) ?_))))
   refine kl_mv rfl (kl_fd rfl (by assumption) (fun p13 a14 => ?_))
   refine kl_ld rfl (by assumption) (kl_mv rfl (kl_inI rfl rfl (by assumption) (by omega) (fun p15 a16 => ?_)))
   refine kl_ld rfl (by assumption) (kl_mv rfl (kl_mv rfl (kl_inI rfl rfl (by assumption) (by omega) (fun p17 a18 => ?_))))
   refine kl_ld rfl (by assumption) (kl_mul rfl rfl (by omega) ?_)
   refine kl_add rfl rfl (by omega) ?_
   refine kl_as rfl (kl_nil (kq_code (kc_region (kl_mv rfl (kl_inc rfl rfl (by omega) ?_)))))
   refine kl_as rfl (kl_nil (kq_round0 ((k + 1), (s + ((c.args.getD k 0) * (x.getD k 0)))) (by omega) (⟨by omega, (by rw [dot_succ, ← hi9])⟩) (pc 6 rfl (pc 5 rfl pn)) (pc 1 rfl (pc 2 rfl (pc 4 rfl pn))) (List.Sublist.refl _)))
  ·skip
   refine kc_exit (kq_code (kc_seq (kc_region (kl_mv rfl (kl_fd rfl (by assumption) (fun p19 a20 => ?_))))))
   refine kl_ld rfl (by assumption) (kl_leq rfl rfl ?_)
   refine kl_as rfl (kl_nil (kq_code (kc_ret (kq_retP rfl rfl (congrArg Value.bool ?_)))))
   rw [sat_1 (by assumption), hi9, show k = x.length from by omega]
 ·skip
  refine kc_seq (kc_region (kl_eql rfl rfl ?_))
  refine kl_as rfl (kl_nil (kq_code (kc_if rfl (fun c21 => ?_) (fun c21 => ?_))))
  ·skip
   have hk := hs.k2 c21
   have hk1 := hs.val.at (k := 1) (by omega)
   have hk2 := hk.2.2.at (k := 0) (by omega)
   refine kc_seq (kc_draw 13 [true, true, true, true, true, true, true, true, true, true, true, true, true] (by kernel_rfl) (by kernel_rfl) ?_)
   refine kl_mv rfl (kl_inI (i := 0) rfl rfl (by assumption) (by omega) (fun p22 a23 => ?_))
   refine kl_ld rfl (by assumption) (kl_mv rfl (kl_inI (i := 1) rfl rfl (by assumption) (by omega) (fun p24 a25 => ?_)))
   refine kl_ld rfl (by assumption) (kl_fd rfl (by assumption) (fun p26 a27 => ?_))
   refine kl_ld rfl (by assumption) (kl_inI (i := 0) rfl rfl (by assumption) (by omega) (fun p28 a29 => ?_))
   refine kl_ld rfl (by assumption) (kl_add rfl rfl (by omega) ?_)
   refine kl_neq rfl rfl ?_
   refine kl_as rfl (kl_nil (kq_code (kc_ret (kq_retP rfl rfl (congrArg Value.bool ?_)))))
   rw [sat_2 (by assumption)]
  ·skip
   refine kc_seq (kc_region (kl_eql rfl rfl ?_))
   refine kl_as rfl (kl_nil (kq_code (kc_if rfl (fun c30 => ?_) (fun c30 => ?_))))
   ·skip
    refine kc_seq (kc_region (kl_mv rfl (kl_callP rfl rfl (sdistinct_ok x (by assumption)) ?_)))
    refine kl_as rfl (kl_nil (kq_code (kc_ret (kq_retP rfl rfl (congrArg Value.bool ?_)))))
    rw [sat_3 (by assumption)]
   ·skip
    refine kc_seq (kc_region (kl_eql rfl rfl ?_))
    refine kl_as rfl (kl_nil (kq_code (kc_if rfl (fun c31 => ?_) (fun c31 => ?_))))
    ·skip
     have hk := hs.k4 c31
     have hk1 := hs.val.at (k := 0) (by omega)
     refine kc_seq (kc_draw 21 [true, true, true, true, true, true, true, true, true, true, true, true, true, true, true, true, true, true, true, true, true] (by kernel_rfl) (by kernel_rfl) ?_)
     refine kl_mv rfl (kl_inI (i := 0) rfl rfl (by assumption) (by omega) (fun p32 a33 => ?_))
     refine kl_ld rfl (by assumption) (kl_fd rfl (by assumption) (fun p34 a35 => ?_))
     refine kl_ld rfl (by assumption) (kl_len rfl (by assumption) (fun l36 => ?_))
     refine kl_lss rfl rfl ?_
     refine kl_mv rfl (kl_join 12 74 (.bool (decide ((x.getD 0 0) < (c.args.length : Int)) && decide ((c.args.getD (x.getD 0 0).toNat 0) = (x.getD 1 0)))) (pc 1 rfl (pc 4 rfl (pc 62 rfl pn))) (fun J46 => ?_) ?_)
     ·rcases Bool.eq_false_or_eq_true (decide ((x.getD 0 0) < (c.args.length : Int))) with g37 | g37
      ·skip
       have g37p := of_decide_eq_true g37
       refine kl_gT rfl rfl g37 (kl_fd rfl (by assumption) (fun p38 a39 => ?_))
       refine kl_gT rfl rfl g37 (kl_ld rfl (by assumption) (kl_gT rfl rfl g37 (kl_mv rfl (kl_gT rfl rfl g37 (kl_inI (i := 0) rfl rfl (by assumption) (by omega) (fun p40 a41 => ?_))))))
       refine kl_gT rfl rfl g37 (kl_ld rfl (by assumption) (kl_gT rfl rfl g37 (kl_ixI rfl rfl (by assumption) (by omega) (by omega) (fun p42 a43 => ?_))))
       refine kl_gT rfl rfl g37 (kl_ld rfl (by assumption) (kl_gT rfl rfl g37 (kl_mv rfl (kl_gT rfl rfl g37 (kl_inI (i := 1) rfl rfl (by assumption) (by omega) (fun p44 a45 => ?_))))))
       refine kl_gT rfl rfl g37 (kl_ld rfl (by assumption) (kl_gT rfl rfl g37 (kl_eql rfl rfl ?_)))
       refine kl_andT rfl rfl g37 ?_
       exact J46 _ (pc 74 rfl (pc 1 rfl (pc 4 rfl (pc 62 rfl pn))))
      ·skip
       refine kl_gF rfl rfl g37 (kl_gF rfl rfl g37 (kl_gF rfl rfl g37 (kl_gF rfl rfl g37 (kl_gF rfl rfl g37 (kl_gF rfl rfl g37 (kl_gF rfl rfl g37 (kl_gF rfl rfl g37 (kl_gF rfl rfl g37 ?_))))))))
       refine kl_gF rfl rfl g37 (kl_gF rfl rfl g37 (kl_andF (decide ((c.args.getD (x.getD 0 0).toNat 0) = (x.getD 1 0))) rfl rfl g37 ?_))
       exact J46 _ (pc 74 rfl (pc 1 rfl (pc 4 rfl (pc 62 rfl pn))))
     refine kl_as rfl (kl_nil (kq_code (kc_ret (kq_retP rfl rfl (congrArg Value.bool ?_)))))
     rw [sat_4 (by assumption)]
    ·skip
     refine kc_seq (kc_region (kl_eql rfl rfl ?_))
     refine kl_as rfl (kl_nil (kq_code (kc_if rfl (fun c47 => ?_) (fun c47 => ?_))))
     ·skip
      have hk := hs.k5 c47
      refine kc_seq (kc_region (kl_fd rfl (by assumption) (fun p48 a49 => ?_)))
      refine kl_ld rfl (by assumption) (kl_mv rfl (kl_callP rfl rfl (hasRow_ok c.rows x hk (by assumption) (by assumption)) ?_))
      refine kl_as rfl (kl_nil (kq_code (kc_ret (kq_retP rfl rfl (congrArg Value.bool ?_)))))
      rw [sat_5 (by assumption)]
     ·skip
      refine kc_seq (kc_region (kl_eql rfl rfl ?_))
      refine kl_as rfl (kl_nil (kq_code (kc_if rfl (fun c50 => ?_) (fun c50 => ?_))))
      ·skip
       have hk := hs.k6 c50
       refine kc_seq (kc_region (kl_as rfl (kl_nil (kq_code (kc_seq (kc_seq (kc_region (kl_as rfl (kl_nil (kq_code (kc_block (kc_loop0 (A := Nat × Int) (fun zz => (zz.1 ≤ x.length) ∧ (zz.2 = cntTo x (c.args.getD 0 0) zz.1)) (fun zz => x.length - zz.1) (fun zz => [(8, .int .i64 (zz.1 : Int)), (7, .int .i64 zz.2)]) (0, (0 : Int)) (pc 1 rfl (pc 2 rfl (pc 4 rfl pn))) (pc 8 rfl (pc 7 rfl pn)) ⟨Nat.zero_le _, rfl⟩ ?_))))))))))))
       rintro ⟨k, s⟩ hJ53
       obtain ⟨hk51, hi52⟩ : (k ≤ x.length) ∧ (s = cntTo x (c.args.getD 0 0) k) := hJ53
       change KC _ _ (_) _ _ ([(8, .int .i64 (k : Int)), (7, .int .i64 s)] ++ _)
       have hcl := cnt_le x (c.args.getD 0 0) k
       refine kc_seq (kc_seq (kc_region (kl_mv rfl (kl_mv rfl (kl_len rfl (by assumption) (fun l54 => ?_))))))
       refine kl_lss rfl rfl ?_
       refine kl_nil (kq_code (kc_if rfl (fun c55 => ?_) (fun c55 => ?_)))
       ·skip
        try (
         have ha1 := hk.2.at (k := k) (by omega)
         have hx1 := hs.val.at (k := k) (by omega)
         have h3 := prod_le ha1 hx1
         have h5 := dot_le hk.2 hs.val k (by omega) (by omega))
        refine kc_skipQ (kq_code (kc_seq (kc_block (kc_seq (kc_draw 9 [true, true, true, true, true, true, true, true, true] (by kernel_rfl) (by kernel_rfl) ?_)))))
        refine kl_mv rfl (kl_mv rfl (kl_inI rfl rfl (by assumption) (by omega) (fun p56 a57 => ?_)))
        refine kl_ld rfl (by assumption) (kl_fd rfl (by assumption) (fun p58 a59 => ?_))
        refine kl_ld rfl (by assumption) (kl_inI (i := 0) rfl rfl (by assumption) (by omega) (fun p60 a61 => ?_))
        refine kl_ld rfl (by assumption) (kl_eql rfl rfl ?_)
        refine kl_nil (kq_code (kc_if rfl (fun c62 => ?_) (fun c62 => ?_)))
        ·skip
         refine kc_region (kl_mv rfl (kl_add rfl rfl (by omega) ?_))
         refine kl_as rfl (kl_nil (kq_code (kc_region (kl_mv rfl (kl_inc rfl rfl (by omega) ?_)))))
         refine kl_as rfl (kl_nil (kq_round0 ((k + 1), (s + (1 : Int))) (by omega) (⟨by omega, (by first | exact cnt_stepT hi52 (by omega) (by assumption) | exact cnt_stepF hi52 (by omega) (by assumption))⟩) (pc 8 rfl (pc 7 rfl pn)) (pc 1 rfl (pc 2 rfl (pc 4 rfl pn))) (List.Sublist.refl _)))
        ·skip
         refine kc_skipQ (kq_code (kc_region (kl_mv rfl (kl_inc rfl rfl (by omega) ?_))))
         refine kl_as rfl (kl_nil (kq_round0 ((k + 1), s) (by omega) (⟨by omega, (by first | exact cnt_stepT hi52 (by omega) (by assumption) | exact cnt_stepF hi52 (by omega) (by assumption))⟩) (pc 8 rfl (pc 7 rfl pn)) (pc 1 rfl (pc 2 rfl (pc 4 rfl pn))) (List.Sublist.refl _)))
       ·skip
        refine kc_exit (kq_code (kc_seq (kc_region (kl_mv rfl (kl_fd rfl (by assumption) (fun p63 a64 => ?_))))))
        refine kl_ld rfl (by assumption) (kl_eql rfl rfl ?_)
        refine kl_as rfl (kl_nil (kq_code (kc_ret (kq_retP rfl rfl (congrArg Value.bool ?_)))))
        rw [sat_6 (by assumption), hi52, show k = x.length from by omega]
      ·skip
       refine kc_seq (kc_region (kl_eql rfl rfl ?_))
       refine kl_as rfl (kl_nil (kq_code (kc_if rfl (fun c65 => ?_) (fun c65 => ?_))))
       ·skip
        refine kc_seq (kc_region (kl_ldS rfl (by assumption) rfl ?_))
        refine kl_mv rfl (kl_callP rfl rfl (capacity_ok c x hs (by assumption) (by assumption) (by assumption) (by assumption) (by assumption)) ?_)
        refine kl_as rfl (kl_nil (kq_code (kc_ret (kq_retP rfl rfl (congrArg Value.bool ?_)))))
        rw [sat_7 (by assumption)]
       ·skip
        refine kc_seq (kc_region (kl_eql rfl rfl ?_))
        refine kl_as rfl (kl_nil (kq_code (kc_if rfl (fun c66 => ?_) (fun c66 => ?_))))
        ·skip
         refine kc_seq (kc_region (kl_ldS rfl (by assumption) rfl ?_))
         refine kl_mv rfl (kl_callP rfl rfl (saccepts_ok c x hs (by assumption) (by assumption) (by assumption) (by assumption) (by assumption)) ?_)
         refine kl_as rfl (kl_nil (kq_code (kc_ret (kq_retP rfl rfl (congrArg Value.bool ?_)))))
         rw [sat_8 (by assumption)]
        ·skip
         refine kc_skipQ (kq_code (kc_seq (kc_region (kl_mv rfl (kl_callP rfl rfl (circuit_ok x hs.one hs.val (by assumption)) ?_)))))
         refine kl_as rfl (kl_nil (kq_code (kc_ret (kq_retP rfl rfl (congrArg Value.bool ?_)))))
         rw [sat_9 (by assumption) (by assumption) (by assumption) (by assumption) (by assumption) (by assumption) (by assumption) (by assumption)]
theorem validObjective_ok {Hmd : Hp} {vmd : Value} {Hmc : Hp} {vmc : Value} {Hobj : Hp} {vobj : Value} (m : Mod) (obj : List Int) (hmd : Ints Hmd vmd m.doms) (hmc : Cons Hmc vmc m.cons) (hobj : Ints Hobj vobj obj) : SpecP Tryz.prog 26 [.agg #[vmd, vmc], vobj] [Hmd, Hmc, Hobj] (.bool (objOkS m obj)) := by
 refine spec_of Tryz.func26 rfl rfl rfl (fun B => ?_)
 refine kc_seq (kc_region (kl_box rfl rfl (fun p1 H2 f3 a4 => ?_)))
 refine kl_as rfl (kl_nil (kq_code (kc_seq (kc_region (kl_mv rfl (kl_len rfl (by assumption) (fun l5 => ?_)))))))
 refine kl_fd rfl (by assumption) (fun p6 a7 => ?_)
 refine kl_ld rfl (by assumption) (kl_len rfl (by assumption) (fun l8 => ?_))
 refine kl_eql rfl rfl ?_
 refine kl_mv rfl (kl_join 3 14 (.bool (decide ((obj.length : Int) = (m.doms.length : Int)) && (allInB obj (-9 : Int) (9 : Int)))) (pc 4 rfl (pc 11 rfl pn)) (fun J10 => ?_) ?_)
 ·rcases Bool.eq_false_or_eq_true (decide ((obj.length : Int) = (m.doms.length : Int))) with g9 | g9
  ·skip
   have g9p := of_decide_eq_true g9
   refine kl_gT rfl rfl g9 (kl_mv rfl (kl_gT rfl rfl g9 (kl_callP rfl rfl (allInRange_ok obj (-9 : Int) (9 : Int) (by assumption)) ?_)))
   refine kl_andT rfl rfl g9 ?_
   exact J10 _ (pc 14 rfl (pc 4 rfl (pc 11 rfl pn)))
  ·skip
   refine kl_gF rfl rfl g9 (kl_gF rfl rfl g9 (kl_andF (allInB obj (-9 : Int) (9 : Int)) rfl rfl g9 ?_))
   exact J10 _ (pc 14 rfl (pc 4 rfl (pc 11 rfl pn)))
 refine kl_as rfl (kl_nil (kq_code (kc_ret (kq_retP rfl rfl (congrArg Value.bool ?_)))))
 rfl
end Go.Proofs.YtkfioalfofoikaaGreat
