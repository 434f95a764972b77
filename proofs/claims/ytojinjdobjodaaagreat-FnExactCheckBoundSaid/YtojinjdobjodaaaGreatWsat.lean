/- Walks of functions of the program: each returns what the plain function gives. Conditions: those that each statement names. -/
import Derived.Test.YtojinjdobjodaaaGreatWvalid
import Derived.Test.YtojinjdobjodaaaGreatPureQ
import Derived.Test.YtojinjdobjodaaaGreatTre
import Derived.Test.YtojinjdobjodaaaGreatPureN
namespace Go.Proofs.YtojinjdobjodaaaGreat
open Go
set_option linter.unusedSimpArgs false
set_option linter.unusedVariables false
theorem ones64_ok (x : Int) (hb : 0 ≤ x ∧ x ≤ 63) : SpecP Tryz.prog 185 [.int .u64 x] [] (.int .i64 (popI x)) := by
 refine spec_of Tryz.func185 rfl rfl rfl (fun B => ?_)
 refine kc_seq (kc_region (kl_as rfl (kl_nil (kq_code (kc_seq (kc_region (kl_mv rfl (kl_shrK rfl rfl (by omega) ?_))))))))
 refine kl_andK rfl rfl ?_
 refine kl_mv rfl (kl_andK rfl rfl ?_)
 refine kl_addK rfl rfl ?_
 refine kl_as rfl (kl_nil (kq_code (kc_seq (kc_region (kl_mv rfl (kl_shrK rfl rfl (by omega) ?_))))))
 refine kl_andK rfl rfl ?_
 refine kl_mv rfl (kl_andK rfl rfl ?_)
 refine kl_addK rfl rfl ?_
 refine kl_as rfl (kl_nil (kq_code (kc_seq (kc_region (kl_mv rfl (kl_shrK rfl rfl (by omega) ?_))))))
 refine kl_mv rfl (kl_addK rfl rfl ?_)
 refine kl_andK rfl rfl ?_
 refine kl_as rfl (kl_nil (kq_code (kc_seq (kc_region (kl_mv rfl (kl_mv rfl (kl_shrK rfl rfl (by omega) ?_)))))))
 refine kl_addK rfl rfl ?_
 refine kl_as rfl (kl_nil (kq_code (kc_seq (kc_region (kl_mv rfl (kl_mv rfl (kl_shrK rfl rfl (by omega) ?_)))))))
 refine kl_addK rfl rfl ?_
 refine kl_as rfl (kl_nil (kq_code (kc_seq (kc_region (kl_mv rfl (kl_mv rfl (kl_shrK rfl rfl (by omega) ?_)))))))
 refine kl_addK rfl rfl ?_
 refine kl_as rfl (kl_nil (kq_code (kc_seq (kc_region (kl_mv rfl (kl_cv rfl ?_))))))
 refine kl_and rfl rfl ?_
 refine kl_as rfl (kl_nil (kq_code (kc_ret (kq_retP rfl rfl (congrArg (Value.int .i64) ?_)))))
 (obtain ⟨n, rfl⟩ := Int.eq_ofNat_of_zero_le hb.1; have hn : n < 64 := (by omega); clear hb; revert n; decide +kernel)
theorem ones_ok (x : Int) (hb : 0 ≤ x ∧ x ≤ 63) : SpecP Tryz.prog 160 [.int .u64 x] [] (.int .i64 (popI x)) := by
 refine spec_of Tryz.func160 rfl rfl rfl (fun B => ?_)
 refine kc_seq (kc_region (kl_as rfl (kl_nil (kq_code (kc_seq (kc_condF ?_))))))
 refine kc_skipQ (kq_code (kc_seq (kc_region (kl_mv rfl (kl_callP rfl rfl (ones64_ok x hb) ?_)))))
 refine kl_as rfl (kl_nil (kq_code (kc_ret (kq_retP rfl rfl (congrArg (Value.int .i64) ?_)))))
 rfl
theorem valuesOf_ok (d : Int) (hb : 0 ≤ d ∧ d ≤ 63) : Spec Tryz.prog 117 [.int .i64 d] [] (fun Hq vq => Ints Hq vq (valsI d)) := by
 have hp := popI_le d
 refine spec_of Tryz.func117 rfl rfl rfl (fun B => ?_)
 refine kc_seq (kc_region (kl_as rfl (kl_nil (kq_code (kc_seq (kc_region (kl_mv rfl (kl_cvu rfl (by omega) ?_))))))))
 refine kl_callP rfl rfl (ones_ok d hb) ?_
 refine kl_mkL0 (R := IntV) rfl rfl (by omega) (by omega) (by decide) (fun v1 H2 f3 o4 => ?_)
 refine kl_as rfl (kl_nil (kq_code (kc_seq (kc_seq (kc_region (kl_mv rfl (kl_nil (kq_code (kc_block (kc_loopL (A := Nat × List Int × Value × Hp) (fun zz => (zz.1 ≤ 6) ∧ (zz.2.1 = membersTo d zz.1) ∧ OwnL 3 1 zz.2.2.2 noHp IntV zz.2.2.1 zz.2.1 ∧ Fr B zz.2.2.2) (fun zz => 6 - zz.1) (fun zz => [zz.2.2.2]) (fun zz => [(9, .int .i64 (zz.1 : Int)), (3, zz.2.2.1)]) (0, ([]), v1, H2) (pc 0 rfl (pc 2 rfl pn)) (pc 9 rfl (pc 3 rfl pn)) rfl ⟨Nat.zero_le _, rfl, o4, f3⟩ ?_))))))))))
 rintro ⟨k, out, v10, H7⟩ hJ11
 obtain ⟨hk5, hi6, o8, f9⟩ : (k ≤ 6) ∧ (out = membersTo d k) ∧ OwnL 3 1 H7 noHp IntV v10 out ∧ Fr B H7 := hJ11
 change KC _ _ (_) [H7] _ ([(9, .int .i64 (k : Int)), (3, v10)] ++ _)
 refine kc_seq (kc_region (kl_lss rfl rfl ?_))
 refine kl_nil (kq_code (kc_seq (kc_if rfl (fun c12 => ?_) (fun c12 => ?_))))
 ·skip
  refine kc_skipQ (kq_code (kc_seq (kc_block (kc_seq (kc_region (kl_mv rfl (kl_as rfl (kl_nil (kq_code (kc_seq (kc_region (kl_mv rfl ?_))))))))))))
  refine kl_mv rfl (kl_callP rfl rfl (has_ok d (k : Int) (by omega)) ?_)
  refine kl_nil (kq_code (kc_cond rfl (fun c13 => ?_) (fun c13 => ?_)))
  ·skip
   have c13r := c13
   try simp only [smpC, decide_eq_true_eq, decide_eq_false_iff_not] at c13
   refine kc_region (kl_mv rfl (kl_mv rfl (kl_bs rfl rfl rfl (by decide) (ca rfl ca_nil) (fun v14 H15 f16 r17 s18 => ?_))))
   have h19 : Ints H15 v14 [(k : Int)] := litInts (xs := [(k : Int)]) (by simpa using s18)
   refine kl_apL (k : Int) rfl rfl o8 (by assumption) rfl (oc rfl oc_nil) (by have := members_len hi6; omega) (by decide) (fun v20 H21 o22 f23 => ?_)
   have f24 := f23 B f9 (Nat.le_refl _)
   refine kl_as rfl (kl_nil (kq_code (kc_region (kl_inc rfl rfl (by omega) ?_))))
   refine kl_mv rfl (kl_nil (kq_roundL ((k + 1), (out ++ [(k : Int)]), v20, H21) (by omega) (⟨by omega, (by first | exact members_stepT hi6 (by assumption) | exact members_stepF hi6 (by assumption)), o22, f24⟩) (pc 9 rfl (pc 3 rfl pn)) (pc 0 rfl (pc 2 rfl pn)) rfl (List.Sublist.refl _)))
  ·skip
   have c13r := c13
   try simp only [smpC, decide_eq_true_eq, decide_eq_false_iff_not] at c13
   refine kc_skipQ (kq_code (kc_region (kl_inc rfl rfl (by omega) ?_)))
   refine kl_mv rfl (kl_nil (kq_roundL ((k + 1), out, v10, H7) (by omega) (⟨by omega, (by first | exact members_stepT hi6 (by assumption) | exact members_stepF hi6 (by assumption)), o8, f9⟩) (pc 9 rfl (pc 3 rfl pn)) (pc 0 rfl (pc 2 rfl pn)) rfl (List.Sublist.refl _)))
 ·skip
  refine kc_exit (kq_code (kc_seq (kc_region (kl_mv rfl (kl_as rfl (kl_nil (kq_code (kc_ret ?_))))))))
  have e9 : out = valsI d := by (have e : k = 6 := by omega); rw [hi6, e]; rfl
  exact kq_ret rfl rfl H7 f9 (e9 ▸ OwnL.ints o8)
theorem clone_ok {Hxs : Hp} {vxs : Value} (xs : List Int) (hb : xs.length ≤ 1048576) (hxs : Ints Hxs vxs xs) : Spec Tryz.prog 147 [vxs] [Hxs] (fun Hq vq => OwnL 3 1 Hq noHp IntV vq xs) := by
 refine spec_of Tryz.func147 rfl rfl rfl (fun B => ?_)
 refine kc_seq (kc_region (kl_as rfl (kl_nil (kq_code (kc_seq (kc_seq (kc_region (kl_mv rfl (kl_eqlnil rfl rfl (by assumption) (fun b1 h2 => ?_))))))))))
 refine kl_nil (kq_code (kc_cond rfl (fun c3 => ?_) (fun c3 => ?_)))
 ·skip
  have c3r := c3
  try simp only [smpC, decide_eq_true_eq, decide_eq_false_iff_not] at c3
  refine kc_seq (kc_region (kl_as rfl (kl_nil (kq_code (kc_ret ?_)))))
  exact kq_ret rfl rfl noHp (fr_no _) (by rw [show xs = [] from (by simp_all)]; exact OwnL.nil)
 ·skip
  have c3r := c3
  try simp only [smpC, decide_eq_true_eq, decide_eq_false_iff_not] at c3
  refine kc_skipQ (kq_code (kc_seq (kc_region (kl_bsI [] rfl rfl rfl (by decide) (fun v4 H5 f6 o7 => ?_)))))
  refine kl_mv rfl (kl_apS rfl rfl o7 (by assumption) (fun _ _ h => h) (by first | omega | (simp; omega)) (by decide) (fun v8 H9 o10 f11 => ?_))
  have f12 := f11 B f6 (Nat.le_refl _)
  refine kl_as rfl (kl_nil (kq_code (kc_ret ?_)))
  have e9 : ([] ++ xs) = xs := by simp
  exact kq_ret rfl rfl H9 f12 (e9 ▸ o10)
theorem copied_ok {Hxs : Hp} {vxs : Value} (xs : List Int) (hb : xs.length ≤ 1048576) (hxs : Ints Hxs vxs xs) : Spec Tryz.prog 99 [vxs] [Hxs] (fun Hq vq => OwnL 3 1 Hq noHp IntV vq xs) := by
 refine spec_of Tryz.func99 rfl rfl rfl (fun B => ?_)
 refine kc_seq (kc_region (kl_as rfl (kl_nil (kq_code (kc_seq (kc_region (kl_mv rfl (kl_callL rfl rfl (clone_ok xs hb (by assumption)) (fun v1 H2 f3 o4 => ?_)))))))))
 refine kl_call rfl rfl (clip_ok xs (OwnL.ints o4)) (fun v5 H6 f7 h8 => ?_)
 obtain ⟨h8, h9⟩ := h8
 refine kl_as rfl (kl_nil (kq_code (kc_ret ?_)))
 exact kq_ret rfl rfl H2 f3 ((OwnL.clip o4 h9))
theorem equal_ok {Ha : Hp} {va : Value} {Hb : Hp} {vb : Value} (a : List Int) (b : List Int) (ha : Ints Ha va a) (hb : Ints Hb vb b) : SpecP Tryz.prog 179 [va, vb] [Ha, Hb] (.bool (decide (a = b))) := by
 refine spec_of Tryz.func179 rfl rfl rfl (fun B => ?_)
 refine kc_seq (kc_region (kl_as rfl (kl_nil (kq_code (kc_seq (kc_seq (kc_region (kl_mv rfl (kl_len rfl (by assumption) (fun l1 => ?_))))))))))
 refine kl_mv rfl (kl_len rfl (by assumption) (fun l2 => ?_))
 refine kl_neq rfl rfl ?_
 refine kl_nil (kq_code (kc_if rfl (fun c3 => ?_) (fun c3 => ?_)))
 ·skip
  refine kc_seq (kc_region (kl_as rfl (kl_nil (kq_code (kc_ret (kq_retP rfl rfl (congrArg Value.bool ?_)))))))
  exact eq_len (by assumption)
 ·skip
  refine kc_skipQ (kq_code (kc_seq (kc_seq (kc_region (kl_mv rfl (kl_len rfl (by assumption) (fun l4 => ?_)))))))
  refine kl_mv rfl (kl_nil (kq_code (kc_block (kc_loop0 (A := Nat) (fun zz => (zz ≤ a.length) ∧ (a.take zz = b.take zz)) (fun zz => a.length - zz) (fun zz => [(13, .int .i64 (zz : Int))]) (0) (pc 0 rfl (pc 1 rfl (pc 12 rfl pn))) (pc 13 rfl pn) ⟨Nat.zero_le _, by simp⟩ ?_))))
  rintro k hJ7
  obtain ⟨hk5, hi6⟩ : (k ≤ a.length) ∧ (a.take k = b.take k) := hJ7
  change KC _ _ (_) _ _ ([(13, .int .i64 (k : Int))] ++ _)
  refine kc_seq (kc_region (kl_lss rfl rfl ?_))
  refine kl_nil (kq_code (kc_seq (kc_if rfl (fun c8 => ?_) (fun c8 => ?_))))
  ·skip
   refine kc_skipQ (kq_code (kc_seq (kc_block (kc_seq (kc_region (kl_mv rfl (kl_as rfl (kl_nil (kq_code (kc_seq ?_))))))))))
   refine kc_draw 9 [true, true, true, true, true, true, true, true, true] (by kernel_rfl) (by kernel_rfl) ?_
   refine kl_mv rfl (kl_mv rfl (kl_inI rfl rfl (by assumption) (by omega) (fun p9 a10 => ?_)))
   refine kl_ld rfl (by assumption) (kl_mv rfl (kl_mv rfl (kl_inI rfl rfl (by assumption) (by omega) (fun p11 a12 => ?_))))
   refine kl_ld rfl (by assumption) (kl_neq rfl rfl ?_)
   refine kl_nil (kq_code (kc_if rfl (fun c13 => ?_) (fun c13 => ?_)))
   ·skip
    refine kc_seq (kc_region (kl_as rfl (kl_nil (kq_code (kc_ret (kq_retP rfl rfl (congrArg Value.bool ?_)))))))
    exact eq_at (k := k) 0 (by simpa using by assumption)
   ·skip
    refine kc_skipQ (kq_code (kc_region (kl_inc rfl rfl (by omega) ?_)))
    refine kl_mv rfl (kl_nil (kq_round0 ((k + 1)) (by omega) (⟨by omega, eq_step 0 (by omega) (by omega) hi6 (by first | exact Decidable.not_not.1 (by assumption) | (simpa using by assumption))⟩) (pc 13 rfl pn) (pc 0 rfl (pc 1 rfl (pc 12 rfl pn))) (List.Sublist.refl _)))
  ·skip
   refine kc_exit (kq_code (kc_seq (kc_region (kl_as rfl (kl_nil (kq_code (kc_ret (kq_retP rfl rfl (congrArg Value.bool ?_)))))))))
   exact eq_end (k := k) (by omega) (by omega) (by assumption)
theorem word_ok {Hcv : Hp} {vcv : Value} {Hca : Hp} {vca : Value} {Hcr : Hp} {vcr : Value} {Hx : Hp} {vx : Value} (c : Con) (x : List Int) (hv : ∀ v ∈ c.vars, (0 : Int) ≤ v ∧ v < x.length) (hb : c.vars.length ≤ 1048576) (hcv : Ints Hcv vcv c.vars) (hca : Ints Hca vca c.args) (hcr : Rows Hcr vcr c.rows) (hx : Ints Hx vx x) : Spec Tryz.prog 182 [.agg #[.int .i64 c.kind, vcv, vca, .int .i64 c.bound, vcr], vx] [Hcv, Hca, Hcr, Hx] (fun Hq vq => Ints Hq vq (wordL c.vars x)) := by
 refine spec_of Tryz.func182 rfl rfl rfl (fun B => ?_)
 refine kc_seq (kc_region (kl_box rfl rfl (fun p1 H2 f3 a4 => ?_)))
 refine kl_as rfl (kl_nil (kq_code (kc_seq (kc_region (kl_fd rfl (by assumption) (fun p5 a6 => ?_))))))
 refine kl_ld rfl (by assumption) (kl_len rfl (by assumption) (fun l7 => ?_))
 refine kl_mkL0 (R := IntV) rfl rfl (by omega) (by omega) (by decide) (fun v8 H9 f10 o11 => ?_)
 refine kl_as rfl (kl_nil (kq_code (kc_seq (kc_seq (kc_region (kl_fd rfl (by assumption) (fun p12 a13 => ?_)))))))
 refine kl_ld rfl (by assumption) (kl_len rfl (by assumption) (fun l14 => ?_))
 refine kl_mv rfl (kl_nil (kq_code (kc_block (kc_loopL (A := Nat × List Int × Value × Hp) (fun zz => (zz.1 ≤ c.vars.length) ∧ (zz.2.1 = wordTo c.vars x zz.1) ∧ OwnL 3 1 zz.2.2.2 noHp IntV zz.2.2.1 zz.2.1 ∧ Fr B zz.2.2.2) (fun zz => c.vars.length - zz.1) (fun zz => [zz.2.2.2]) (fun zz => [(15, .int .i64 (zz.1 : Int)), (5, zz.2.2.1)]) (0, ([]), v8, H9) (pc 1 rfl (pc 4 rfl (pc 13 rfl (pc 14 rfl pn)))) (pc 15 rfl (pc 5 rfl pn)) rfl ⟨Nat.zero_le _, rfl, o11, f10⟩ ?_))))
 rintro ⟨k, out, v20, H17⟩ hJ21
 obtain ⟨hk15, hi16, o18, f19⟩ : (k ≤ c.vars.length) ∧ (out = wordTo c.vars x k) ∧ OwnL 3 1 H17 noHp IntV v20 out ∧ Fr B H17 := hJ21
 change KC _ _ (_) [H17] _ ([(15, .int .i64 (k : Int)), (5, v20)] ++ _)
 refine kc_seq (kc_region (kl_lss rfl rfl ?_))
 refine kl_nil (kq_code (kc_seq (kc_if rfl (fun c22 => ?_) (fun c22 => ?_))))
 ·skip
  have hv1 := hv _ (getD_mem (d := (0 : Int)) (by omega : k < c.vars.length))
  refine kc_skipQ (kq_code (kc_seq (kc_block (kc_seq (kc_region (kl_inI rfl rfl (by assumption) (by omega) (fun p23 a24 => ?_)))))))
  refine kl_ld rfl (by assumption) (kl_as rfl (kl_nil (kq_code (kc_region (kl_mv rfl (kl_mv rfl (kl_mv rfl (kl_ixI rfl rfl (by assumption) (by omega) (by omega) (fun p25 a26 => ?_)))))))))
  refine kl_ld rfl (by assumption) (kl_bs rfl rfl rfl (by decide) (ca rfl ca_nil) (fun v27 H28 f29 r30 s31 => ?_))
  have h32 : Ints H28 v27 [(x.getD (c.vars.getD k 0).toNat 0)] := litInts (xs := [(x.getD (c.vars.getD k 0).toNat 0)]) (by simpa using s31)
  refine kl_apL (x.getD (c.vars.getD k 0).toNat 0) rfl rfl o18 (by assumption) rfl (oc rfl oc_nil) (by have := word_len hi16; omega) (by decide) (fun v33 H34 o35 f36 => ?_)
  have f37 := f36 B f19 (Nat.le_refl _)
  refine kl_as rfl (kl_nil (kq_code (kc_region (kl_inc rfl rfl (by omega) ?_))))
  refine kl_mv rfl (kl_nil (kq_roundL ((k + 1), (out ++ [(x.getD (c.vars.getD k 0).toNat 0)]), v33, H34) (by omega) (⟨by omega, word_step hi16 (by omega), o35, f37⟩) (pc 15 rfl (pc 5 rfl pn)) (pc 1 rfl (pc 4 rfl (pc 13 rfl (pc 14 rfl pn)))) rfl (List.Sublist.refl _)))
 ·skip
  refine kc_exit (kq_code (kc_seq (kc_region (kl_mv rfl (kl_as rfl (kl_nil (kq_code (kc_ret ?_))))))))
  have e9 : out = wordL c.vars x := by exact word_end hi16 (by omega)
  exact kq_ret rfl rfl H17 f19 (e9 ▸ OwnL.ints o18)
theorem weighted_ok {Ha : Hp} {va : Value} {Hx : Hp} {vx : Value} (a : List Int) (x : List Int) (hA : Coef a) (hX : Vals x) (hl : a.length = x.length) (h4 : x.length ≤ 4) (ha : Ints Ha va a) (hx : Ints Hx vx x) : SpecP Tryz.prog 50 [va, vx] [Ha, Hx] (.int .i64 (dotTo a x x.length)) := by
 refine spec_of Tryz.func50 rfl rfl rfl (fun B => ?_)
 refine kc_seq (kc_region (kl_as rfl (kl_nil (kq_code (kc_seq (kc_region (kl_as rfl (kl_nil (kq_code (kc_seq (kc_seq (kc_region (kl_mv rfl (kl_len rfl (by assumption) (fun l1 => ?_)))))))))))))))
 refine kl_mv rfl (kl_nil (kq_code (kc_block (kc_loop0 (A := Nat × Int) (fun zz => (zz.1 ≤ a.length) ∧ (zz.2 = dotTo a x zz.1)) (fun zz => a.length - zz.1) (fun zz => [(10, .int .i64 (zz.1 : Int)), (5, .int .i64 zz.2)]) (0, (0 : Int)) (pc 1 rfl (pc 4 rfl (pc 8 rfl (pc 9 rfl pn)))) (pc 10 rfl (pc 5 rfl pn)) ⟨Nat.zero_le _, rfl⟩ ?_))))
 rintro ⟨k, s⟩ hJ4
 obtain ⟨hk2, hi3⟩ : (k ≤ a.length) ∧ (s = dotTo a x k) := hJ4
 change KC _ _ (_) _ _ ([(10, .int .i64 (k : Int)), (5, .int .i64 s)] ++ _)
 refine kc_seq (kc_region (kl_lss rfl rfl ?_))
 refine kl_nil (kq_code (kc_seq (kc_if rfl (fun c5 => ?_) (fun c5 => ?_))))
 ·skip
  have h1 := hA.at (k := k) (by omega)
  have h2 := hX.at (k := k) (by omega)
  have h3 := prod_le h1 h2
  have h5 := dot_le hA hX k (by omega) (by omega)
  refine kc_skipQ (kq_code (kc_seq (kc_block (kc_seq (kc_region (kl_mv rfl (kl_inI rfl rfl (by assumption) (by omega) (fun p6 a7 => ?_))))))))
  refine kl_ld rfl (by assumption) (kl_as rfl (kl_as rfl (kl_nil (kq_code (kc_region (kl_mv rfl (kl_mv rfl (kl_mv rfl (kl_mv rfl ?_)))))))))
  refine kl_inI rfl rfl (by assumption) (by omega) (fun p8 a9 => ?_)
  refine kl_ld rfl (by assumption) (kl_mul rfl rfl (by omega) ?_)
  refine kl_add rfl rfl (by omega) ?_
  refine kl_as rfl (kl_nil (kq_code (kc_region (kl_inc rfl rfl (by omega) ?_))))
  refine kl_mv rfl (kl_nil (kq_round0 ((k + 1), (s + ((a.getD k 0) * (x.getD k 0)))) (by omega) (⟨by omega, (by rw [dot_succ, ← hi3])⟩) (pc 10 rfl (pc 5 rfl pn)) (pc 1 rfl (pc 4 rfl (pc 8 rfl (pc 9 rfl pn)))) (List.Sublist.refl _)))
 ·skip
  refine kc_exit (kq_code (kc_seq (kc_region (kl_mv rfl (kl_as rfl (kl_nil (kq_code (kc_ret (kq_retP rfl rfl (congrArg (Value.int .i64) ?_))))))))))
  rw [show x.length = k from by omega]; exact hi3
theorem roomy_ok {Hcv : Hp} {vcv : Value} {Hca : Hp} {vca : Value} {Hcr : Hp} {vcr : Value} {Hx : Hp} {vx : Value} (c : Con) (x : List Int) (hs : SatOk c x) (hk : c.kind = 7) (hcv : Ints Hcv vcv c.vars) (hca : Ints Hca vca c.args) (hcr : Rows Hcr vcr c.rows) (hx : Ints Hx vx x) : SpecP Tryz.prog 196 [.agg #[.int .i64 c.kind, vcv, vca, .int .i64 c.bound, vcr], vx] [Hcv, Hca, Hcr, Hx] (.bool (roomB c x)) := by
 have h7 := hs.k7 hk
 have h4 := hs.four
 refine spec_of Tryz.func196 rfl rfl rfl (fun B => ?_)
 refine kc_seq (kc_region (kl_box rfl rfl (fun p1 H2 f3 a4 => ?_)))
 refine kl_as rfl (kl_nil (kq_code (kc_seq (kc_region (kl_mv rfl (kl_len rfl (by assumption) (fun l5 => ?_)))))))
 refine kl_as rfl (kl_nil (kq_code (kc_seq (kc_seq (kc_region (kl_mv rfl (kl_nil (kq_code (kc_block (kc_loop0 (A := Nat) (fun zz => (zz ≤ 15) ∧ (roomTo c x zz = true)) (fun zz => 15 - zz) (fun zz => [(12, .int .i64 (zz : Int))]) (0) (pc 1 rfl (pc 2 rfl (pc 5 rfl pn))) (pc 12 rfl pn) ⟨Nat.zero_le _, rfl⟩ ?_))))))))))
 rintro k hJ8
 obtain ⟨hk6, hi7⟩ : (k ≤ 15) ∧ (roomTo c x k = true) := hJ8
 change KC _ _ (_) _ _ ([(12, .int .i64 (k : Int))] ++ _)
 refine kc_seq (kc_region (kl_lss rfl rfl ?_))
 refine kl_nil (kq_code (kc_seq (kc_if rfl (fun c9 => ?_) (fun c9 => ?_))))
 ·skip
  refine kc_skipQ (kq_code (kc_seq (kc_block (kc_seq (kc_region (kl_mv rfl (kl_as rfl (kl_nil (kq_code (kc_seq (kc_region (kl_as rfl ?_))))))))))))
  refine kl_nil (kq_code (kc_seq (kc_seq (kc_region (kl_mv rfl (kl_len rfl (by assumption) (fun l10 => ?_)))))))
  refine kl_mv rfl (kl_nil (kq_code (kc_block (kc_loop0 (A := Nat × Int) (fun zz => (zz.1 ≤ x.length) ∧ (zz.2 = loadTo c.args x k zz.1)) (fun zz => x.length - zz.1) (fun zz => [(17, .int .i64 (zz.1 : Int)), (7, .int .i64 zz.2)]) (0, (0 : Int)) (pc 1 rfl (pc 2 rfl (pc 5 rfl (pc 6 rfl (pc 12 rfl (pc 13 rfl (pc 14 rfl (pc 15 rfl (pc 16 rfl pn))))))))) (pc 17 rfl (pc 7 rfl pn)) ⟨Nat.zero_le _, rfl⟩ ?_))))
  rintro ⟨i, s⟩ hJ13
  obtain ⟨hk11, hi12⟩ : (i ≤ x.length) ∧ (s = loadTo c.args x k i) := hJ13
  change KC _ _ (_) _ _ ([(17, .int .i64 (i : Int)), (7, .int .i64 s)] ++ _)
  refine kc_seq (kc_region (kl_lss rfl rfl ?_))
  refine kl_nil (kq_code (kc_seq (kc_if rfl (fun c14 => ?_) (fun c14 => ?_))))
  ·skip
   have hl := load_le (x := x) h7.2 (by omega) k i (by omega)
   have hx1 := hs.val.at (k := i) (by omega)
   have ha1 := h7.2 _ (getD_mem (d := (0 : Int)) (by omega : i < c.args.length))
   refine kc_skipQ (kq_code (kc_seq (kc_block (kc_seq (kc_region (kl_mv rfl (kl_inI rfl rfl (by assumption) (by omega) (fun p15 a16 => ?_))))))))
   refine kl_ld rfl (by assumption) (kl_as rfl (kl_as rfl (kl_nil (kq_code (kc_seq (kc_region (kl_mv rfl (kl_mv rfl (kl_leq rfl rfl ?_)))))))))
   refine kl_mv rfl (kl_join 10 35 (.bool (decide ((x.getD i 0) ≤ (k : Int)) && decide ((k : Int) < ((x.getD i 0) + (c.args.getD i 0))))) (pc 1 rfl (pc 2 rfl (pc 5 rfl (pc 6 rfl (pc 7 rfl (pc 8 rfl (pc 9 rfl (pc 12 rfl (pc 13 rfl (pc 14 rfl (pc 15 rfl (pc 16 rfl (pc 17 rfl (pc 18 rfl (pc 19 rfl (pc 20 rfl (pc 21 rfl (pc 22 rfl (pc 23 rfl (pc 24 rfl (pc 25 rfl pn))))))))))))))))))))) (fun J22 => ?_) ?_)
   ·rcases Bool.eq_false_or_eq_true (decide ((x.getD i 0) ≤ (k : Int))) with g17 | g17
    ·skip
     have g17p := of_decide_eq_true g17
     refine kl_gT rfl rfl g17 (kl_mv rfl (kl_gT rfl rfl g17 (kl_mv rfl (kl_gT rfl rfl g17 (kl_fd rfl (by assumption) (fun p18 a19 => ?_))))))
     refine kl_gT rfl rfl g17 (kl_ld rfl (by assumption) (kl_gT rfl rfl g17 (kl_mv rfl (kl_gT rfl rfl g17 (kl_inI rfl rfl (by assumption) (by omega) (fun p20 a21 => ?_))))))
     refine kl_gT rfl rfl g17 (kl_ld rfl (by assumption) (kl_gT rfl rfl g17 (kl_add rfl rfl (by omega) ?_)))
     refine kl_gT rfl rfl g17 (kl_lss rfl rfl ?_)
     refine kl_andT rfl rfl g17 ?_
     exact J22 _ (pc 35 rfl (pc 1 rfl (pc 2 rfl (pc 5 rfl (pc 6 rfl (pc 7 rfl (pc 8 rfl (pc 9 rfl (pc 12 rfl (pc 13 rfl (pc 14 rfl (pc 15 rfl (pc 16 rfl (pc 17 rfl (pc 18 rfl (pc 19 rfl (pc 20 rfl (pc 21 rfl (pc 22 rfl (pc 23 rfl (pc 24 rfl (pc 25 rfl pn))))))))))))))))))))))
    ·skip
     refine kl_gF rfl rfl g17 (kl_gF rfl rfl g17 (kl_gF rfl rfl g17 (kl_gF rfl rfl g17 (kl_gF rfl rfl g17 (kl_gF rfl rfl g17 (kl_gF rfl rfl g17 (kl_gF rfl rfl g17 (kl_gF rfl rfl g17 ?_))))))))
     refine kl_andF (decide ((k : Int) < ((x.getD i 0) + (c.args.getD i 0)))) rfl rfl g17 ?_
     exact J22 _ (pc 35 rfl (pc 1 rfl (pc 2 rfl (pc 5 rfl (pc 6 rfl (pc 7 rfl (pc 8 rfl (pc 9 rfl (pc 12 rfl (pc 13 rfl (pc 14 rfl (pc 15 rfl (pc 16 rfl (pc 17 rfl (pc 18 rfl (pc 19 rfl (pc 20 rfl (pc 21 rfl (pc 22 rfl (pc 23 rfl (pc 24 rfl (pc 25 rfl pn))))))))))))))))))))))
   refine kl_nil (kq_code (kc_cond rfl (fun c23 => ?_) (fun c23 => ?_)))
   ·skip
    have c23r := c23
    try simp only [smpC, decide_eq_true_eq, decide_eq_false_iff_not] at c23
    have ha2 := h7.2 _ (getD_mem (d := (0 : Int)) (by omega : x.length + i < c.args.length))
    refine kc_region (kl_mv rfl (kl_fd rfl (by assumption) (fun p24 a25 => ?_)))
    refine kl_ld rfl (by assumption) (kl_mv rfl (kl_mv rfl (kl_addN rfl rfl (by omega) ?_)))
    refine kl_inI rfl rfl (by assumption) (by omega) (fun p26 a27 => ?_)
    refine kl_ld rfl (by assumption) (kl_add rfl rfl (by omega) ?_)
    refine kl_as rfl (kl_nil (kq_code (kc_region (kl_inc rfl rfl (by omega) ?_))))
    refine kl_mv rfl (kl_nil (kq_round0 ((i + 1), (s + (c.args.getD (x.length + i) 0))) (by omega) (⟨by omega, (by first | exact load_stepT hi12 (by assumption) | exact load_stepF hi12 (by assumption))⟩) (pc 17 rfl (pc 7 rfl pn)) (pc 1 rfl (pc 2 rfl (pc 5 rfl (pc 6 rfl (pc 12 rfl (pc 13 rfl (pc 14 rfl (pc 15 rfl (pc 16 rfl pn))))))))) (List.Sublist.refl _)))
   ·skip
    have c23r := c23
    try simp only [smpC, decide_eq_true_eq, decide_eq_false_iff_not] at c23
    refine kc_skipQ (kq_code (kc_region (kl_inc rfl rfl (by omega) ?_)))
    refine kl_mv rfl (kl_nil (kq_round0 ((i + 1), s) (by omega) (⟨by omega, (by first | exact load_stepT hi12 (by assumption) | exact load_stepF hi12 (by assumption))⟩) (pc 17 rfl (pc 7 rfl pn)) (pc 1 rfl (pc 2 rfl (pc 5 rfl (pc 6 rfl (pc 12 rfl (pc 13 rfl (pc 14 rfl (pc 15 rfl (pc 16 rfl pn))))))))) (List.Sublist.refl _)))
  ·skip
   refine kc_exit (kq_code (kc_seq (kc_region (kl_mv rfl (kl_fd rfl (by assumption) (fun p28 a29 => ?_))))))
   refine kl_ld rfl (by assumption) (kl_gtr rfl rfl ?_)
   refine kl_nil (kq_code (kc_if rfl (fun c30 => ?_) (fun c30 => ?_)))
   ·skip
    refine kc_seq (kc_region (kl_as rfl (kl_nil (kq_code (kc_ret (kq_retP rfl rfl (congrArg Value.bool ?_)))))))
    exact room_no' (k := k) (by omega) hi12 (by omega) (by assumption)
   ·skip
    refine kc_skipQ (kq_code (kc_region (kl_inc rfl rfl (by omega) ?_)))
    refine kl_mv rfl (kl_nil (kq_round0 ((k + 1)) (by omega) (⟨by omega, room_step hi7 hi12 (by omega) (by assumption)⟩) (pc 12 rfl pn) (pc 1 rfl (pc 2 rfl (pc 5 rfl pn))) (List.Sublist.refl _)))
 ·skip
  refine kc_exit (kq_code (kc_seq (kc_region (kl_as rfl (kl_nil (kq_code (kc_ret (kq_retP rfl rfl (congrArg Value.bool ?_)))))))))
  exact room_yes hi7 (by omega)
theorem accepts_ok {Hcv : Hp} {vcv : Value} {Hca : Hp} {vca : Value} {Hcr : Hp} {vcr : Value} {Hx : Hp} {vx : Value} (c : Con) (x : List Int) (hs : SatOk c x) (hk : c.kind = 8) (hcv : Ints Hcv vcv c.vars) (hca : Ints Hca vca c.args) (hcr : Rows Hcr vcr c.rows) (hx : Ints Hx vx x) : SpecP Tryz.prog 197 [.agg #[.int .i64 c.kind, vcv, vca, .int .i64 c.bound, vcr], vx] [Hcv, Hca, Hcr, Hx] (.bool (accB c x)) := by
 have h8 := hs.k8 hk
 have h8r := hs.k8r hk
 refine spec_of Tryz.func197 rfl rfl rfl (fun B => ?_)
 refine kc_seq (kc_region (kl_box rfl rfl (fun p1 H2 f3 a4 => ?_)))
 refine kl_as rfl (kl_nil (kq_code (kc_seq (kc_region (kl_as rfl (kl_nil (kq_code (kc_seq (kc_seq (kc_region (kl_mv rfl (kl_len rfl (by assumption) (fun l5 => ?_)))))))))))))
 refine kl_mv rfl (kl_nil (kq_code (kc_block (kc_loop0 (A := Nat × Int) (fun zz => (zz.1 ≤ x.length) ∧ (0 ≤ zz.2 ∧ zz.2 < c.rows.length ∧ accGo c.rows zz.2 (x.drop zz.1) = accGo c.rows 0 x)) (fun zz => x.length - zz.1) (fun zz => [(10, .int .i64 (zz.1 : Int)), (5, .int .i64 zz.2)]) (0, (0 : Int)) (pc 2 rfl (pc 8 rfl (pc 9 rfl pn))) (pc 10 rfl (pc 5 rfl pn)) ⟨Nat.zero_le _, ⟨by dsimp only; omega, by dsimp only; omega, by simp⟩⟩ ?_))))
 rintro ⟨k, s⟩ hJ8
 obtain ⟨hk6, hi7⟩ : (k ≤ x.length) ∧ (0 ≤ s ∧ s < c.rows.length ∧ accGo c.rows s (x.drop k) = accGo c.rows 0 x) := hJ8
 change KC _ _ (_) _ _ ([(10, .int .i64 (k : Int)), (5, .int .i64 s)] ++ _)
 refine kc_seq (kc_region (kl_lss rfl rfl ?_))
 refine kl_nil (kq_code (kc_seq (kc_if rfl (fun c9 => ?_) (fun c9 => ?_))))
 ·skip
  have hr := h8.2 _ (getD_mem (d := ([] : List Int)) (by omega : s.toNat < c.rows.length))
  have hx1 := hs.val.at (k := k) (by omega)
  refine kc_skipQ (kq_code (kc_seq (kc_block (kc_seq (kc_region (kl_inI rfl rfl (by assumption) (by omega) (fun p10 a11 => ?_)))))))
  refine kl_ld rfl (by assumption) (kl_as rfl (kl_nil (kq_code (kc_seq (kc_region (kl_fd rfl (by assumption) (fun p12 a13 => ?_)))))))
  refine kl_ld rfl (by assumption) (kl_mv rfl (kl_ixS rfl rfl (by assumption) (by omega) (by omega) (fun p14 u16 h17 a15 => ?_)))
  refine kl_ld rfl (by assumption) (kl_mv rfl (kl_ixI rfl rfl (by assumption) (by omega) (by omega) (fun p18 a19 => ?_)))
  refine kl_ld rfl (by assumption) (kl_as rfl (kl_nil (kq_code (kc_seq (kc_region (kl_mv rfl (kl_lss rfl rfl ?_)))))))
  refine kl_nil (kq_code (kc_if rfl (fun c20 => ?_) (fun c20 => ?_)))
  ·skip
   refine kc_seq (kc_region (kl_as rfl (kl_nil (kq_code (kc_ret (kq_retP rfl rfl (congrArg Value.bool ?_)))))))
   exact acc_no (k := k) (by omega) hi7.2.2 (by assumption)
  ·skip
   refine kc_skipQ (kq_code (kc_region (kl_inc rfl rfl (by omega) ?_)))
   refine kl_mv rfl (kl_nil (kq_round0 ((k + 1), ((c.rows.getD s.toNat []).getD (x.getD k 0).toNat 0)) (by omega) (⟨by omega, acc_step h8r (by omega) ⟨hi7.1, hi7.2.1⟩ hx1 hi7.2.2 (by assumption)⟩) (pc 10 rfl (pc 5 rfl pn)) (pc 2 rfl (pc 8 rfl (pc 9 rfl pn))) (List.Sublist.refl _)))
 ·skip
  refine kc_exit (kq_code (kc_seq (kc_region (kl_fd rfl (by assumption) (fun p21 a22 => ?_)))))
  refine kl_ld rfl (by assumption) (kl_mv rfl (kl_callP rfl rfl (containsInts_ok c.args s (by assumption)) ?_))
  refine kl_as rfl (kl_nil (kq_code (kc_ret (kq_retP rfl rfl (congrArg Value.bool ?_)))))
  exact acc_yes (k := k) (by omega) hi7.1 hi7.2.2
theorem cycle1_ok {Hx : Hp} {vx : Value} {Hpx : Hp} {ptrpx : Value} (v : Int) (x : List Int) (hx : Ints Hx vx x) (apx : At Hpx ptrpx [vx]) : SpecP Tryz.prog 204 [.int .i64 v, ptrpx] [Hx, Hpx] (.bool (decide ((x.length : Int) ≤ v))) := by
 refine spec_of Tryz.func204 rfl rfl rfl (fun B => ?_)
 refine kc_seq (kc_region (kl_as rfl (kl_nil (kq_code (kc_seq (kc_region (kl_mv rfl (kl_ld rfl (by assumption) (kl_len rfl (by assumption) (fun l1 => ?_))))))))))
 refine kl_geq rfl rfl ?_
 refine kl_as rfl (kl_nil (kq_code (kc_ret (kq_retP rfl rfl (congrArg Value.bool ?_)))))
 rfl
theorem cycle_ok {Hx : Hp} {vx : Value} (x : List Int) (h1 : 1 ≤ x.length) (h4 : x.length ≤ 4) (hv : Vals x) (hx : Ints Hx vx x) : SpecP Tryz.prog 198 [vx] [Hx] (.bool (cycI x)) := by
 refine spec_of Tryz.func198 rfl rfl rfl (fun B => ?_)
 refine kc_seq (kc_region (kl_box rfl (Sl.cells (by assumption)) (fun p1 H2 f3 a4 => ?_)))
 refine kl_as rfl (kl_nil (kq_code (kc_seq (kc_seq (kc_region (kl_ld rfl (by assumption) (kl_mkf rfl ?_)))))))
 refine kl_callP rfl rfl (cf_int_ok x (fun x4 => decide ((x.length : Int) ≤ x4)) (by assumption) (fun x4 _ => cycle1_ok x4 x (by assumption) (by assumption))) ?_
 refine kl_nil (kq_code (kc_cond rfl (fun c6 => ?_) (fun c6 => ?_)))
 ·skip
  have c6r := c6
  try simp only [smpC, decide_eq_true_eq, decide_eq_false_iff_not] at c6
  refine kc_seq (kc_region (kl_as rfl (kl_nil (kq_code (kc_ret (kq_retP rfl rfl (congrArg Value.bool ?_)))))))
  exact cyc_bad (by assumption)
 ·skip
  have c6r := c6
  try simp only [smpC, decide_eq_true_eq, decide_eq_false_iff_not] at c6
  have hin := cyc_in c6r
  refine kc_skipQ (kq_code (kc_seq (kc_region (kl_ld rfl (by assumption) (kl_inI (i := 0) rfl rfl (by assumption) (by omega) (fun p7 a8 => ?_))))))
  refine kl_ld rfl (by assumption) (kl_as rfl (kl_as rfl (kl_nil (kq_code (kc_seq (kc_block (kc_loop0 (A := Nat × Int × Int) (fun zz => (cycIGo x zz.1 zz.2.1 zz.2.2 = cycIGo x x.length (x.getD 0 0) 1 ∧ 0 ≤ zz.2.1 ∧ zz.2.1 < x.length ∧ zz.2.2 + (zz.1 : Int) = x.length + 1 ∧ 1 ≤ zz.2.2)) (fun zz => zz.1) (fun zz => [(3, .int .i64 zz.2.1), (4, .int .i64 zz.2.2)]) (x.length, (x.getD 0 0), (1 : Int)) (pc 1 rfl (pc 2 rfl pn)) (pc 3 rfl (pc 4 rfl pn)) (⟨rfl, (hv.at (k := 0) (by omega)).1, hin _ (getD_mem (by omega)), by dsimp only; omega, by dsimp only; omega⟩) ?_)))))))
  rintro ⟨f, a, s⟩ hJ11
  have hi10 : (cycIGo x f a s = cycIGo x x.length (x.getD 0 0) 1 ∧ 0 ≤ a ∧ a < x.length ∧ s + (f : Int) = x.length + 1 ∧ 1 ≤ s) := hJ11
  change KC _ _ (_) _ _ ([(3, .int .i64 a), (4, .int .i64 s)] ++ _)
  refine kc_seq (kc_seq (kc_region (kl_mv rfl (kl_neq rfl rfl ?_))))
  refine kl_mv rfl (kl_join 5 18 (.bool (decide (a ≠ (0 : Int)) && decide (s ≤ (x.length : Int)))) (pc 1 rfl (pc 2 rfl (pc 3 rfl (pc 4 rfl (pc 11 rfl (pc 12 rfl (pc 13 rfl pn))))))) (fun J14 => ?_) ?_)
  ·rcases Bool.eq_false_or_eq_true (decide (a ≠ (0 : Int))) with g12 | g12
   ·skip
    have g12p := of_decide_eq_true g12
    refine kl_gT rfl rfl g12 (kl_mv rfl (kl_gT rfl rfl g12 (kl_ld rfl (by assumption) (kl_gT rfl rfl g12 (kl_len rfl (by assumption) (fun l13 => ?_))))))
    refine kl_gT rfl rfl g12 (kl_leq rfl rfl ?_)
    refine kl_andT rfl rfl g12 ?_
    exact J14 _ (pc 18 rfl (pc 1 rfl (pc 2 rfl (pc 3 rfl (pc 4 rfl (pc 11 rfl (pc 12 rfl (pc 13 rfl pn))))))))
   ·skip
    refine kl_gF rfl rfl g12 (kl_gF rfl rfl g12 (kl_gF rfl rfl g12 (kl_gF rfl rfl g12 (kl_andF (decide (s ≤ (x.length : Int))) rfl rfl g12 ?_))))
    exact J14 _ (pc 18 rfl (pc 1 rfl (pc 2 rfl (pc 3 rfl (pc 4 rfl (pc 11 rfl (pc 12 rfl (pc 13 rfl pn))))))))
  refine kl_nil (kq_code (kc_cond rfl (fun c15 => ?_) (fun c15 => ?_)))
  ·skip
   have c15r := c15
   try simp only [smpC, decide_eq_true_eq, decide_eq_false_iff_not] at c15
   refine kc_skipQ (kq_code (kc_block (kc_seq (kc_region (kl_ld rfl (by assumption) (kl_mv rfl (kl_ixI rfl rfl (by assumption) (by omega) (by omega) (fun p16 a17 => ?_))))))))
   refine kl_ld rfl (by assumption) (kl_as rfl (kl_nil (kq_code (kc_region (kl_mv rfl (kl_add rfl rfl (by omega) ?_))))))
   refine kl_as rfl (kl_nil (kq_round0 ((f - 1), (x.getD a.toNat 0), (s + (1 : Int))) (by dsimp only; omega) (⟨cyc_step hi10.1 (by omega) (by assumption), (hv _ (getD_mem (by omega))).1, hin _ (getD_mem (by omega)), by dsimp only; omega, by dsimp only; omega⟩) (pc 3 rfl (pc 4 rfl pn)) (pc 1 rfl (pc 2 rfl pn)) (List.Sublist.refl _)))
  ·skip
   have c15r := c15
   try simp only [smpC, decide_eq_true_eq, decide_eq_false_iff_not] at c15
   refine kc_exit (kq_code (kc_seq (kc_region (kl_mv rfl (kl_eql rfl rfl ?_)))))
   refine kl_mv rfl (kl_join 5 32 (.bool (decide (a = (0 : Int)) && decide (s = (x.length : Int)))) (pc 2 rfl (pc 27 rfl pn)) (fun J20 => ?_) ?_)
   ·rcases Bool.eq_false_or_eq_true (decide (a = (0 : Int))) with g18 | g18
    ·skip
     have g18p := of_decide_eq_true g18
     refine kl_gT rfl rfl g18 (kl_mv rfl (kl_gT rfl rfl g18 (kl_ld rfl (by assumption) (kl_gT rfl rfl g18 (kl_len rfl (by assumption) (fun l19 => ?_))))))
     refine kl_gT rfl rfl g18 (kl_eql rfl rfl ?_)
     refine kl_andT rfl rfl g18 ?_
     exact J20 _ (pc 32 rfl (pc 2 rfl (pc 27 rfl pn)))
    ·skip
     refine kl_gF rfl rfl g18 (kl_gF rfl rfl g18 (kl_gF rfl rfl g18 (kl_gF rfl rfl g18 (kl_andF (decide (s = (x.length : Int))) rfl rfl g18 ?_))))
     exact J20 _ (pc 32 rfl (pc 2 rfl (pc 27 rfl pn)))
   refine kl_as rfl (kl_nil (kq_code (kc_ret (kq_retP rfl rfl (congrArg Value.bool ?_)))))
   exact cyc_end (by assumption) hi10.1 (by assumption)
theorem satisfied1_ok {Hrow : Hp} {vrow : Value} {Hx : Hp} {vx : Value} {Hpx : Hp} {ptrpx : Value} (row : List Int) (x : List Int) (hrow : Ints Hrow vrow row) (hx : Ints Hx vx x) (apx : At Hpx ptrpx [vx]) : SpecP Tryz.prog 195 [vrow, ptrpx] [Hrow, Hx, Hpx] (.bool (decide (row = x))) := by
 refine spec_of Tryz.func195 rfl rfl rfl (fun B => ?_)
 refine kc_seq (kc_region (kl_as rfl (kl_nil (kq_code (kc_seq (kc_region (kl_mv rfl (kl_ld rfl (by assumption) (kl_callP rfl rfl (equal_ok row x (by assumption) (by assumption)) ?_)))))))))
 refine kl_as rfl (kl_nil (kq_code (kc_ret (kq_retP rfl rfl (congrArg Value.bool ?_)))))
 rfl
theorem satisfied_ok {Hcv : Hp} {vcv : Value} {Hca : Hp} {vca : Value} {Hcr : Hp} {vcr : Value} {Hx : Hp} {vx : Value} (c : Con) (x : List Int) (hs : SatOk c x) (hcv : Ints Hcv vcv c.vars) (hca : Ints Hca vca c.args) (hcr : Rows Hcr vcr c.rows) (hx : Ints Hx vx x) : SpecP Tryz.prog 181 [.agg #[.int .i64 c.kind, vcv, vca, .int .i64 c.bound, vcr], vx] [Hcv, Hca, Hcr, Hx] (.bool (satB c x)) := by
 have h4 := hs.four
 have h1 := hs.one
 refine spec_of Tryz.func181 rfl rfl rfl (fun B => ?_)
 refine kc_seq (kc_region (kl_box rfl rfl (fun p1 H2 f3 a4 => ?_)))
 refine kl_box rfl (Sl.cells (by assumption)) (fun p5 H6 f7 a8 => ?_)
 refine kl_as rfl (kl_nil (kq_code (kc_seq (kc_seq (kc_region (kl_fd rfl (by assumption) (fun p9 a10 => ?_)))))))
 refine kl_ld rfl (by assumption) (kl_nil (kq_code (kc_block (kc_seq (kc_region (kl_eql rfl rfl ?_))))))
 refine kl_as rfl (kl_nil (kq_code (kc_if rfl (fun c11 => ?_) (fun c11 => ?_))))
 ·skip
  have hk := hs.k1 c11
  refine kc_seq (kc_tree (fun i => ([] : List Nat).contains i) [] (by kernel_rfl) ?_)
  refine kt_q 0 (List.nil_sublist _) rfl (by kernel_rfl) (kl_fd rfl (by assumption) (fun p12 a13 => ?_))
  refine kl_nil (kq_q (kt_q 1 (List.nil_sublist _) rfl (by kernel_rfl) (kl_ld rfl (by assumption) (kl_nil (kq_q (kt_q 2 (List.nil_sublist _) rfl (by kernel_rfl) (kl_ld rfl (by assumption) (kl_nil (kq_q (kt_q 4 (List.nil_sublist _) rfl (by kernel_rfl) (kl_fd rfl (by assumption) (fun p14 a15 => ?_))))))))))))
  refine kl_nil (kq_q (kt_q 5 (List.nil_sublist _) rfl (by kernel_rfl) (kl_ld rfl (by assumption) (kl_nil (kq_q (kt_a 3 rfl (by kernel_rfl) (kl_callP rfl rfl (weighted_ok c.args x hk.2 hs.val hk.1 hs.four (by assumption) (by assumption)) ?_)))))))
  refine kl_nil (kq_a (List.nil_sublist _) (kt_q 6 (List.nil_sublist _) rfl (by kernel_rfl) (kl_leq rfl rfl ?_)))
  refine kl_nil (kq_q (kt_q 7 (List.nil_sublist _) rfl (by kernel_rfl) (kl_as rfl (kl_nil (kq_q (kt_end (by kernel_rfl) ?_))))))
  refine kq_code (kc_ret (kq_retP rfl rfl (congrArg Value.bool ?_)))
  rw [sat_1 (by assumption)]
 ·skip
  refine kc_seq (kc_region (kl_eql rfl rfl ?_))
  refine kl_as rfl (kl_nil (kq_code (kc_if rfl (fun c16 => ?_) (fun c16 => ?_))))
  ·skip
   have hk := hs.k2 c16
   have hk1 := hs.val.at (k := 1) (by omega)
   have hk2 := hk.2.2.at (k := 0) (by omega)
   refine kc_seq (kc_draw 13 [true, true, true, true, true, true, true, true, true, true, true, true, true] (by kernel_rfl) (by kernel_rfl) ?_)
   refine kl_ld rfl (by assumption) (kl_inI (i := 0) rfl rfl (by assumption) (by omega) (fun p17 a18 => ?_))
   refine kl_ld rfl (by assumption) (kl_ld rfl (by assumption) (kl_inI (i := 1) rfl rfl (by assumption) (by omega) (fun p19 a20 => ?_)))
   refine kl_ld rfl (by assumption) (kl_fd rfl (by assumption) (fun p21 a22 => ?_))
   refine kl_ld rfl (by assumption) (kl_inI (i := 0) rfl rfl (by assumption) (by omega) (fun p23 a24 => ?_))
   refine kl_ld rfl (by assumption) (kl_add rfl rfl (by omega) ?_)
   refine kl_neq rfl rfl ?_
   refine kl_as rfl (kl_nil (kq_code (kc_ret (kq_retP rfl rfl (congrArg Value.bool ?_)))))
   rw [sat_2 (by assumption)]
  ·skip
   refine kc_seq (kc_region (kl_eql rfl rfl ?_))
   refine kl_as rfl (kl_nil (kq_code (kc_if rfl (fun c25 => ?_) (fun c25 => ?_))))
   ·skip
    refine kc_seq (kc_region (kl_ld rfl (by assumption) (kl_callP rfl rfl (distinct_ok x (by assumption)) ?_)))
    refine kl_as rfl (kl_nil (kq_code (kc_ret (kq_retP rfl rfl (congrArg Value.bool ?_)))))
    rw [sat_3 (by assumption)]
   ·skip
    refine kc_seq (kc_region (kl_eql rfl rfl ?_))
    refine kl_as rfl (kl_nil (kq_code (kc_if rfl (fun c26 => ?_) (fun c26 => ?_))))
    ·skip
     have hk := hs.k4 c26
     have hk1 := hs.val.at (k := 0) (by omega)
     refine kc_seq (kc_draw 21 [true, true, true, true, true, true, true, true, true, true, true, true, true, true, true, true, true, true, true, true, true] (by kernel_rfl) (by kernel_rfl) ?_)
     refine kl_ld rfl (by assumption) (kl_inI (i := 0) rfl rfl (by assumption) (by omega) (fun p27 a28 => ?_))
     refine kl_ld rfl (by assumption) (kl_fd rfl (by assumption) (fun p29 a30 => ?_))
     refine kl_ld rfl (by assumption) (kl_len rfl (by assumption) (fun l31 => ?_))
     refine kl_lss rfl rfl ?_
     refine kl_mv rfl (kl_join 12 58 (.bool (decide ((x.getD 0 0) < (c.args.length : Int)) && decide ((c.args.getD (x.getD 0 0).toNat 0) = (x.getD 1 0)))) (pc 3 rfl (pc 4 rfl (pc 46 rfl pn))) (fun J41 => ?_) ?_)
     ·rcases Bool.eq_false_or_eq_true (decide ((x.getD 0 0) < (c.args.length : Int))) with g32 | g32
      ·skip
       have g32p := of_decide_eq_true g32
       refine kl_gT rfl rfl g32 (kl_fd rfl (by assumption) (fun p33 a34 => ?_))
       refine kl_gT rfl rfl g32 (kl_ld rfl (by assumption) (kl_gT rfl rfl g32 (kl_ld rfl (by assumption) (kl_gT rfl rfl g32 (kl_inI (i := 0) rfl rfl (by assumption) (by omega) (fun p35 a36 => ?_))))))
       refine kl_gT rfl rfl g32 (kl_ld rfl (by assumption) (kl_gT rfl rfl g32 (kl_ixI rfl rfl (by assumption) (by omega) (by omega) (fun p37 a38 => ?_))))
       refine kl_gT rfl rfl g32 (kl_ld rfl (by assumption) (kl_gT rfl rfl g32 (kl_ld rfl (by assumption) (kl_gT rfl rfl g32 (kl_inI (i := 1) rfl rfl (by assumption) (by omega) (fun p39 a40 => ?_))))))
       refine kl_gT rfl rfl g32 (kl_ld rfl (by assumption) (kl_gT rfl rfl g32 (kl_eql rfl rfl ?_)))
       refine kl_andT rfl rfl g32 ?_
       exact J41 _ (pc 58 rfl (pc 3 rfl (pc 4 rfl (pc 46 rfl pn))))
      ·skip
       refine kl_gF rfl rfl g32 (kl_gF rfl rfl g32 (kl_gF rfl rfl g32 (kl_gF rfl rfl g32 (kl_gF rfl rfl g32 (kl_gF rfl rfl g32 (kl_gF rfl rfl g32 (kl_gF rfl rfl g32 (kl_gF rfl rfl g32 ?_))))))))
       refine kl_gF rfl rfl g32 (kl_gF rfl rfl g32 (kl_andF (decide ((c.args.getD (x.getD 0 0).toNat 0) = (x.getD 1 0))) rfl rfl g32 ?_))
       exact J41 _ (pc 58 rfl (pc 3 rfl (pc 4 rfl (pc 46 rfl pn))))
     refine kl_as rfl (kl_nil (kq_code (kc_ret (kq_retP rfl rfl (congrArg Value.bool ?_)))))
     rw [sat_4 (by assumption)]
    ·skip
     refine kc_seq (kc_region (kl_eql rfl rfl ?_))
     refine kl_as rfl (kl_nil (kq_code (kc_if rfl (fun c42 => ?_) (fun c42 => ?_))))
     ·skip
      have hk := hs.k5 c42
      refine kc_seq (kc_region (kl_fd rfl (by assumption) (fun p43 a44 => ?_)))
      refine kl_ld rfl (by assumption) (kl_mkf rfl ?_)
      refine kl_callP rfl rfl (cf_row_ok c.rows (fun x44 => decide (x44 = x)) (by assumption) (fun _ ux44 x44 _ hux44 => satisfied1_ok x44 x hux44 (by assumption) (by assumption))) ?_
      refine kl_as rfl (kl_nil (kq_code (kc_ret (kq_retP rfl rfl (congrArg Value.bool ?_)))))
      rw [sat_5 (by assumption)]
     ·skip
      refine kc_seq (kc_region (kl_eql rfl rfl ?_))
      refine kl_as rfl (kl_nil (kq_code (kc_if rfl (fun c46 => ?_) (fun c46 => ?_))))
      ·skip
       have hk := hs.k6 c46
       refine kc_seq (kc_region (kl_as rfl (kl_nil (kq_code (kc_seq (kc_seq (kc_region (kl_ld rfl (by assumption) (kl_len rfl (by assumption) (fun l47 => ?_))))))))))
       refine kl_mv rfl (kl_nil (kq_code (kc_block (kc_loop0 (A := Nat × Int) (fun zz => (zz.1 ≤ x.length) ∧ (zz.2 = cntTo x (c.args.getD 0 0) zz.1)) (fun zz => x.length - zz.1) (fun zz => [(69, .int .i64 (zz.1 : Int)), (5, .int .i64 zz.2)]) (0, (0 : Int)) (pc 2 rfl (pc 3 rfl (pc 4 rfl (pc 67 rfl (pc 68 rfl pn))))) (pc 69 rfl (pc 5 rfl pn)) ⟨Nat.zero_le _, rfl⟩ ?_))))
       rintro ⟨k, s⟩ hJ50
       obtain ⟨hk48, hi49⟩ : (k ≤ x.length) ∧ (s = cntTo x (c.args.getD 0 0) k) := hJ50
       change KC _ _ (_) _ _ ([(69, .int .i64 (k : Int)), (5, .int .i64 s)] ++ _)
       have hcl := cnt_le x (c.args.getD 0 0) k
       refine kc_seq (kc_region (kl_lss rfl rfl ?_))
       refine kl_nil (kq_code (kc_seq (kc_if rfl (fun c51 => ?_) (fun c51 => ?_))))
       ·skip
        refine kc_skipQ (kq_code (kc_seq (kc_block (kc_seq (kc_region (kl_inI rfl rfl (by assumption) (by omega) (fun p52 a53 => ?_)))))))
        refine kl_ld rfl (by assumption) (kl_as rfl (kl_nil (kq_code (kc_seq (kc_region (kl_mv rfl (kl_fd rfl (by assumption) (fun p54 a55 => ?_))))))))
        refine kl_ld rfl (by assumption) (kl_inI (i := 0) rfl rfl (by assumption) (by omega) (fun p56 a57 => ?_))
        refine kl_ld rfl (by assumption) (kl_eql rfl rfl ?_)
        refine kl_nil (kq_code (kc_if rfl (fun c58 => ?_) (fun c58 => ?_)))
        ·skip
         refine kc_region (kl_mv rfl (kl_add rfl rfl (by omega) ?_))
         refine kl_as rfl (kl_nil (kq_code (kc_region (kl_inc rfl rfl (by omega) ?_))))
         refine kl_mv rfl (kl_nil (kq_round0 ((k + 1), (s + (1 : Int))) (by omega) (⟨by omega, (by first | exact cnt_stepT hi49 (by omega) (by assumption) | exact cnt_stepF hi49 (by omega) (by assumption))⟩) (pc 69 rfl (pc 5 rfl pn)) (pc 2 rfl (pc 3 rfl (pc 4 rfl (pc 67 rfl (pc 68 rfl pn))))) (List.Sublist.refl _)))
        ·skip
         refine kc_skipQ (kq_code (kc_region (kl_inc rfl rfl (by omega) ?_)))
         refine kl_mv rfl (kl_nil (kq_round0 ((k + 1), s) (by omega) (⟨by omega, (by first | exact cnt_stepT hi49 (by omega) (by assumption) | exact cnt_stepF hi49 (by omega) (by assumption))⟩) (pc 69 rfl (pc 5 rfl pn)) (pc 2 rfl (pc 3 rfl (pc 4 rfl (pc 67 rfl (pc 68 rfl pn))))) (List.Sublist.refl _)))
       ·skip
        refine kc_exit (kq_code (kc_seq (kc_region (kl_mv rfl (kl_fd rfl (by assumption) (fun p59 a60 => ?_))))))
        refine kl_ld rfl (by assumption) (kl_eql rfl rfl ?_)
        refine kl_as rfl (kl_nil (kq_code (kc_ret (kq_retP rfl rfl (congrArg Value.bool ?_)))))
        rw [sat_6 (by assumption), hi49, show k = x.length from by omega]
      ·skip
       refine kc_seq (kc_region (kl_eql rfl rfl ?_))
       refine kl_as rfl (kl_nil (kq_code (kc_if rfl (fun c61 => ?_) (fun c61 => ?_))))
       ·skip
        refine kc_seq (kc_region (kl_ldS rfl (by assumption) rfl ?_))
        refine kl_ld rfl (by assumption) (kl_callP rfl rfl (roomy_ok c x hs (by assumption) (by assumption) (by assumption) (by assumption) (by assumption)) ?_)
        refine kl_as rfl (kl_nil (kq_code (kc_ret (kq_retP rfl rfl (congrArg Value.bool ?_)))))
        rw [sat_7 (by assumption)]
       ·skip
        refine kc_seq (kc_region (kl_eql rfl rfl ?_))
        refine kl_as rfl (kl_nil (kq_code (kc_if rfl (fun c62 => ?_) (fun c62 => ?_))))
        ·skip
         refine kc_seq (kc_region (kl_ldS rfl (by assumption) rfl ?_))
         refine kl_ld rfl (by assumption) (kl_callP rfl rfl (accepts_ok c x hs (by assumption) (by assumption) (by assumption) (by assumption) (by assumption)) ?_)
         refine kl_as rfl (kl_nil (kq_code (kc_ret (kq_retP rfl rfl (congrArg Value.bool ?_)))))
         rw [sat_8 (by assumption)]
        ·skip
         refine kc_skipQ (kq_code (kc_seq (kc_region (kl_ld rfl (by assumption) (kl_callP rfl rfl (cycle_ok x hs.one hs.four hs.val (by assumption)) ?_)))))
         refine kl_as rfl (kl_nil (kq_code (kc_ret (kq_retP rfl rfl (congrArg Value.bool ?_)))))
         rw [sat_9 (by assumption) (by assumption) (by assumption) (by assumption) (by assumption) (by assumption) (by assumption) (by assumption), cyc_eq hs.four hs.val hs.one]
theorem valueOk_ok (v : Int) : SpecP Tryz.prog 168 [.int .i64 v] [] (.bool (withinB v 0 5)) := by
 refine spec_of Tryz.func168 rfl rfl rfl (fun B => ?_)
 refine kc_seq (kc_region (kl_as rfl (kl_nil (kq_code (kc_seq (kc_region (kl_mv rfl (kl_callP rfl rfl (within_ok v (0 : Int) (5 : Int)) ?_))))))))
 refine kl_as rfl (kl_nil (kq_code (kc_ret (kq_retP rfl rfl (congrArg Value.bool ?_)))))
 rfl
theorem objectiveOk_ok {Hmd : Hp} {vmd : Value} {Hmc : Hp} {vmc : Value} {Hobj : Hp} {vobj : Value} (m : Mod) (obj : List Int) (hmd : Ints Hmd vmd m.doms) (hmc : Cons Hmc vmc m.cons) (hobj : Ints Hobj vobj obj) : SpecP Tryz.prog 46 [.agg #[vmd, vmc], vobj] [Hmd, Hmc, Hobj] (.bool (objOkB m obj)) := by
 refine spec_of Tryz.func46 rfl rfl rfl (fun B => ?_)
 refine kc_seq (kc_region (kl_box rfl rfl (fun p1 H2 f3 a4 => ?_)))
 refine kl_as rfl (kl_nil (kq_code (kc_seq (kc_region (kl_ldS rfl (by assumption) rfl ?_)))))
 refine kl_callP rfl rfl (validMod_ok m (by assumption) (by assumption)) ?_
 refine kl_mv rfl (kl_join 7 14 (.bool ((validModB m) && decide ((obj.length : Int) = (m.doms.length : Int)))) (pc 1 rfl (pc 4 rfl (pc 7 rfl pn))) (fun J10 => ?_) ?_)
 ·rcases Bool.eq_false_or_eq_true (validModB m) with g5 | g5
  ·skip
   have g5p := g5
   try simp only [Bool.not_eq_true', Bool.not_eq_false', decide_eq_true_eq, decide_eq_false_iff_not, Bool.and_eq_true, Bool.or_eq_false_iff, withinB_iff] at g5p
   refine kl_gT rfl rfl g5 (kl_mv rfl (kl_gT rfl rfl g5 (kl_len rfl (by assumption) (fun l6 => ?_))))
   refine kl_gT rfl rfl g5 (kl_fd rfl (by assumption) (fun p7 a8 => ?_))
   refine kl_gT rfl rfl g5 (kl_ld rfl (by assumption) (kl_gT rfl rfl g5 (kl_len rfl (by assumption) (fun l9 => ?_))))
   refine kl_gT rfl rfl g5 (kl_eql rfl rfl ?_)
   refine kl_andT rfl rfl g5 ?_
   exact J10 _ (pc 14 rfl (pc 1 rfl (pc 4 rfl (pc 7 rfl pn))))
  ·skip
   refine kl_gF rfl rfl g5 (kl_gF rfl rfl g5 (kl_gF rfl rfl g5 (kl_gF rfl rfl g5 (kl_gF rfl rfl g5 (kl_gF rfl rfl g5 (kl_andF (decide ((obj.length : Int) = (m.doms.length : Int))) rfl rfl g5 ?_))))))
   exact J10 _ (pc 14 rfl (pc 1 rfl (pc 4 rfl (pc 7 rfl pn))))
 refine kl_mv rfl (kl_join 3 18 (.bool (((validModB m) && decide ((obj.length : Int) = (m.doms.length : Int))) && (allInB obj (-9 : Int) (9 : Int)))) (pc 4 rfl (pc 15 rfl pn)) (fun J12 => ?_) ?_)
 ·rcases Bool.eq_false_or_eq_true ((validModB m) && decide ((obj.length : Int) = (m.doms.length : Int))) with g11 | g11
  ·skip
   have g11p := g11
   try simp only [Bool.not_eq_true', Bool.not_eq_false', decide_eq_true_eq, decide_eq_false_iff_not, Bool.and_eq_true, Bool.or_eq_false_iff, withinB_iff] at g11p
   refine kl_gT rfl rfl g11 (kl_mv rfl (kl_gT rfl rfl g11 (kl_callP rfl rfl (allIn_ok obj (-9 : Int) (9 : Int) (by assumption)) ?_)))
   refine kl_andT rfl rfl g11 ?_
   exact J12 _ (pc 18 rfl (pc 4 rfl (pc 15 rfl pn)))
  ·skip
   refine kl_gF rfl rfl g11 (kl_gF rfl rfl g11 (kl_andF (allInB obj (-9 : Int) (9 : Int)) rfl rfl g11 ?_))
   exact J12 _ (pc 18 rfl (pc 4 rfl (pc 15 rfl pn)))
 refine kl_as rfl (kl_nil (kq_code (kc_ret (kq_retP rfl rfl (congrArg Value.bool ?_)))))
 rfl
end Go.Proofs.YtojinjdobjodaaaGreat
