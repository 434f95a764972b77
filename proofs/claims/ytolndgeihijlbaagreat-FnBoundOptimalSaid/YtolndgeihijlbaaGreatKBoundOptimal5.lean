/- Parts of the proof: a logic of partial frames, plain functions, walks of the program's functions. Conditions: those that each statement names. -/
import Derived.Test.YtolndgeihijlbaaGreatKBoundOptimal4
namespace Go.Proofs.YtolndgeihijlbaaGreat
open Go
set_option linter.unusedSimpArgs false
set_option linter.unusedVariables false
section
theorem ones64_ok (x : Int) (hb : 0 ≤ x ∧ x ≤ 63) : SpecP Tryz.prog 179 [.int .u64 x] [] (.int .i64 (popI x)) := by
 refine spec_of Tryz.func179 rfl rfl rfl (fun B => ?_)
 refine cS (cr (sg rfl (ln (qc (cS (cr (mv rfl (kl_shrK rfl rfl (by omega) ?_))))))))
 refine kl_andK rfl rfl ?_
 refine mv rfl (kl_andK rfl rfl ?_)
 refine kl_addK rfl rfl ?_
 refine sg rfl (ln (qc (cS (cr (mv rfl (kl_shrK rfl rfl (by omega) ?_))))))
 refine kl_andK rfl rfl ?_
 refine mv rfl (kl_andK rfl rfl ?_)
 refine kl_addK rfl rfl ?_
 refine sg rfl (ln (qc (cS (cr (mv rfl (kl_shrK rfl rfl (by omega) ?_))))))
 refine mv rfl (kl_addK rfl rfl ?_)
 refine kl_andK rfl rfl ?_
 refine sg rfl (ln (qc (cS (cr (mv rfl (mv rfl (kl_shrK rfl rfl (by omega) ?_)))))))
 refine kl_addK rfl rfl ?_
 refine sg rfl (ln (qc (cS (cr (mv rfl (mv rfl (kl_shrK rfl rfl (by omega) ?_)))))))
 refine kl_addK rfl rfl ?_
 refine sg rfl (ln (qc (cS (cr (mv rfl (mv rfl (kl_shrK rfl rfl (by omega) ?_)))))))
 refine kl_addK rfl rfl ?_
 refine sg rfl (ln (qc (cS (cr (mv rfl (kl_cv rfl ?_))))))
 refine kl_and rfl rfl ?_
 refine sg rfl (ln (qc (rt (kq_retP rfl rfl (congrArg (Value.int .i64) ?_)))))
 (obtain ⟨n, rfl⟩ := Int.eq_ofNat_of_zero_le hb.1; have hn : n < 64 := (by omega); clear hb; revert n; decide +kernel)
theorem ones_ok (x : Int) (hb : 0 ≤ x ∧ x ≤ 63) : SpecP Tryz.prog 154 [.int .u64 x] [] (.int .i64 (popI x)) := by
 refine spec_of Tryz.func154 rfl rfl rfl (fun B => ?_)
 refine cS (cr (sg rfl (ln (qc (cS (kc_condF ?_))))))
 refine sk (qc (cS (cr (mv rfl (cP rfl rfl (ones64_ok x hb) ?_)))))
 refine sg rfl (ln (qc (rt (kq_retP rfl rfl (congrArg (Value.int .i64) ?_)))))
 rfl
theorem valuesOf_ok (d : Int) (hb : 0 ≤ d ∧ d ≤ 63) : Spec Tryz.prog 111 [.int .i64 d] [] (fun Hq vq => Ints Hq vq (valsI d)) := by
 have hp := popI_le d
 refine spec_of Tryz.func111 rfl rfl rfl (fun B => ?_)
 refine cS (cr (sg rfl (ln (qc (cS (cr (mv rfl (kl_cvu rfl (by omega) ?_))))))))
 refine cP rfl rfl (ones_ok d hb) ?_
 refine kl_mkL0 (R := IntV) rfl rfl (by omega) (by omega) (by decide) (fun v1 H2 f3 o4 => ?_)
 refine sg rfl (ln (qc (cS (cS (cr (mv rfl (ln (qc (bl (kc_loopL (A := Nat × List Int × Value × Hp) (fun zz => (zz.1 ≤ 6) ∧ (zz.2.1 = membersTo d zz.1) ∧ OwnL 3 1 zz.2.2.2 noHp IntV zz.2.2.1 zz.2.1 ∧ Fr B zz.2.2.2) (fun zz => 6 - zz.1) (fun zz => [zz.2.2.2]) (fun zz => [(9, .int .i64 (zz.1 : Int)), (3, zz.2.2.1)]) (0, ([]), v1, H2) (pk [0, 2] rfl) (pk [9, 3] rfl) rfl ⟨Nat.zero_le _, rfl, o4, f3⟩ ?_))))))))))
 rintro ⟨k, out, v10, H7⟩ hJ11
 obtain ⟨hk5, hi6, o8, f9⟩ : (k ≤ 6) ∧ (out = membersTo d k) ∧ OwnL 3 1 H7 noHp IntV v10 out ∧ Fr B H7 := hJ11
 change KC _ _ (_) [H7] _ ([(9, .int .i64 (k : Int)), (3, v10)] ++ _)
 refine cS (cr (ls9 rfl rfl ?_))
 refine ln (qc (cS (ci9 rfl (fun c12 => ?_) (fun c12 => ?_))))
 ·refine sk (qc (cS (bl (cS (cr (mv rfl (sg rfl (ln (qc (cS (cr (mv rfl ?_))))))))))))
  refine mv rfl (cP rfl rfl (has_ok d (k : Int) (by omega)) ?_)
  refine ln (qc (cd9 rfl (fun c13 => ?_) (fun c13 => ?_)))
  ·have c13r := c13
   try simp only [smpE] at c13
   refine cr (mv rfl (mv rfl (bs9 rfl rfl rfl (by decide) (ca rfl ca_nil) (fun v14 H15 f16 r17 s18 => ?_))))
   have h19 : Ints H15 v14 [(k : Int)] := litInts (xs := [(k : Int)]) (by simpa using s18)
   refine aL9 (k : Int) rfl rfl o8 ‹_› rfl (oc rfl oc_nil) (by have := members_len hi6; omega) (by decide) (fun v20 H21 o22 f23 => ?_)
   have f24 := f23 B f9 (Nat.le_refl _)
   refine sg rfl (ln (qc (cr (ic9 rfl rfl (by omega) ?_))))
   refine mv rfl (ln (rL ((k + 1), (out ++ [(k : Int)]), v20, H21) (by omega) (⟨by omega, (by first | exact members_stepT hi6 ‹_› | exact members_stepF hi6 ‹_›), o22, f24⟩) (pk [9, 3] rfl) (pk [0, 2] rfl) rfl slr9))
  ·have c13r := c13
   try simp only [smpE] at c13
   refine sk (qc (cr (ic9 rfl rfl (by omega) ?_)))
   refine mv rfl (ln (rL ((k + 1), out, v10, H7) (by omega) (⟨by omega, (by first | exact members_stepT hi6 ‹_› | exact members_stepF hi6 ‹_›), o8, f9⟩) (pk [9, 3] rfl) (pk [0, 2] rfl) rfl slr9))
 ·refine ex9 (qc (cS (cr (mv rfl (sg rfl (ln (qc (rt ?_))))))))
  have e9 : out = valsI d := by (have e : k = 6 := by omega); rw [hi6, e]; rfl
  exact kq_ret rfl rfl H7 f9 (e9 ▸ OwnL.ints o8)
theorem clone_ok {Hxs : Hp} {vxs : Value} (xs : List Int) (hb : xs.length ≤ 1048576) (hxs : Ints Hxs vxs xs) : Spec Tryz.prog 141 [vxs] [Hxs] (fun Hq vq => OwnL 3 1 Hq noHp IntV vq xs) := by
 refine spec_of Tryz.func141 rfl rfl rfl (fun B => ?_)
 refine cS (cr (sg rfl (ln (qc (cS (cS (cr (mv rfl (kl_eqlnil rfl rfl ‹_› (fun b1 h2 => ?_))))))))))
 refine ln (qc (cd9 rfl (fun c3 => ?_) (fun c3 => ?_)))
 ·have c3r := c3
  try simp only [smpE] at c3
  refine cS (cr (sg rfl (ln (qc (rt ?_)))))
  exact kq_ret rfl rfl noHp (fr_no _) (by rw [show xs = [] from (by simp_all)]; exact OwnL.nil)
 ·have c3r := c3
  try simp only [smpE] at c3
  refine sk (qc (cS (cr (kl_bsI [] rfl rfl rfl (by decide) (fun v4 H5 f6 o7 => ?_)))))
  refine mv rfl (kl_apS rfl rfl o7 ‹_› (fun _ _ h => h) (by first | omega | (simp; omega)) (by decide) (fun v8 H9 o10 f11 => ?_))
  have f12 := f11 B f6 (Nat.le_refl _)
  refine sg rfl (ln (qc (rt ?_)))
  have e9 : ([] ++ xs) = xs := by simp
  exact kq_ret rfl rfl H9 f12 (e9 ▸ o10)
theorem copied_ok {Hxs : Hp} {vxs : Value} (xs : List Int) (hb : xs.length ≤ 1048576) (hxs : Ints Hxs vxs xs) : Spec Tryz.prog 94 [vxs] [Hxs] (fun Hq vq => OwnL 3 1 Hq noHp IntV vq xs) := by
 refine spec_of Tryz.func94 rfl rfl rfl (fun B => ?_)
 refine cS (cr (sg rfl (ln (qc (cS (cr (mv rfl (kl_callL rfl rfl (clone_ok xs hb ‹_›) (fun v1 H2 f3 o4 => ?_)))))))))
 refine kl_call rfl rfl (clip_ok xs (OwnL.ints o4)) (fun v5 H6 f7 h8 => ?_)
 obtain ⟨h8, h9⟩ := h8
 refine sg rfl (ln (qc (rt ?_)))
 exact kq_ret rfl rfl H2 f3 ((OwnL.clip o4 h9))
theorem equal_ok {Ha : Hp} {va : Value} {Hb : Hp} {vb : Value} (a : List Int) (b : List Int) (ha : Ints Ha va a) (hb : Ints Hb vb b) : SpecP Tryz.prog 173 [va, vb] [Ha, Hb] (.bool (decide (a = b))) := by
 refine spec_of Tryz.func173 rfl rfl rfl (fun B => ?_)
 refine cS (cr (sg rfl (ln (qc (cS (cS (cr (mv rfl (le9 rfl ‹_› (fun l1 => ?_))))))))))
 refine mv rfl (le9 rfl ‹_› (fun l2 => ?_))
 refine kl_neq rfl rfl ?_
 refine ln (qc (ci9 rfl (fun c3 => ?_) (fun c3 => ?_)))
 ·refine cS (cr (sg rfl (ln (qc (rt (kq_retP rfl rfl (congrArg Value.bool ?_)))))))
  exact eq_len ‹_›
 ·refine sk (qc (cS (cS (cr (mv rfl (le9 rfl ‹_› (fun l4 => ?_)))))))
  refine mv rfl (ln (qc (bl (kc_loop0 (A := Nat) (fun zz => (zz ≤ a.length) ∧ (a.take zz = b.take zz)) (fun zz => a.length - zz) (fun zz => [(13, .int .i64 (zz : Int))]) (0) (pk [0, 1, 12] rfl) (pc 13 rfl pn) ⟨Nat.zero_le _, by simp⟩ ?_))))
  rintro k hJ7
  obtain ⟨hk5, hi6⟩ : (k ≤ a.length) ∧ (a.take k = b.take k) := hJ7
  change KC _ _ (_) _ _ ([(13, .int .i64 (k : Int))] ++ _)
  refine cS (cr (ls9 rfl rfl ?_))
  refine ln (qc (cS (ci9 rfl (fun c8 => ?_) (fun c8 => ?_))))
  ·refine sk (qc (cS (bl (cS (cr (mv rfl (sg rfl (ln (qc (cS ?_))))))))))
   refine kc_draw 9 [true, true, true, true, true, true, true, true, true] (by kernel_rfl) (by kernel_rfl) ?_
   refine mv rfl (mv rfl (kl_inI rfl rfl ‹_› (by omega) (fun p9 a10 => ?_)))
   refine ld rfl ‹_› (mv rfl (mv rfl (kl_inI rfl rfl ‹_› (by omega) (fun p11 a12 => ?_))))
   refine ld rfl ‹_› (kl_neq rfl rfl ?_)
   refine ln (qc (ci9 rfl (fun c13 => ?_) (fun c13 => ?_)))
   ·refine cS (cr (sg rfl (ln (qc (rt (kq_retP rfl rfl (congrArg Value.bool ?_)))))))
    exact eq_at (k := k) 0 (by simpa using by assumption)
   ·refine sk (qc (cr (ic9 rfl rfl (by omega) ?_)))
    refine mv rfl (ln (kq_round0 ((k + 1)) (by omega) (⟨by omega, eq_step 0 (by omega) (by omega) hi6 (by first | exact Decidable.not_not.1 ‹_› | (simpa using by assumption))⟩) (pc 13 rfl pn) (pk [0, 1, 12] rfl) slr9))
  ·refine ex9 (qc (cS (cr (sg rfl (ln (qc (rt (kq_retP rfl rfl (congrArg Value.bool ?_)))))))))
   exact eq_end (k := k) (by omega) (by omega) ‹_›
theorem word_ok {Hcv : Hp} {vcv : Value} {Hca : Hp} {vca : Value} {Hcr : Hp} {vcr : Value} {Hx : Hp} {vx : Value} (c : Con) (x : List Int) (hv : ∀ v ∈ c.vars, (0 : Int) ≤ v ∧ v < x.length) (hb : c.vars.length ≤ 1048576) (hcv : Ints Hcv vcv c.vars) (hca : Ints Hca vca c.args) (hcr : Rows Hcr vcr c.rows) (hx : Ints Hx vx x) : Spec Tryz.prog 176 [.agg #[.int .i64 c.kind, vcv, vca, .int .i64 c.bound, vcr], vx] [Hcv, Hca, Hcr, Hx] (fun Hq vq => Ints Hq vq (wordL c.vars x)) := by
 refine spec_of Tryz.func176 rfl rfl rfl (fun B => ?_)
 refine cS (cr (kl_box rfl rfl (fun p1 H2 f3 a4 => ?_)))
 refine sg rfl (ln (qc (cS (cr (fd9 rfl ‹_› (fun p5 a6 => ?_))))))
 refine ld rfl ‹_› (le9 rfl ‹_› (fun l7 => ?_))
 refine kl_mkL0 (R := IntV) rfl rfl (by omega) (by omega) (by decide) (fun v8 H9 f10 o11 => ?_)
 refine sg rfl (ln (qc (cS (cS (cr (fd9 rfl ‹_› (fun p12 a13 => ?_)))))))
 refine ld rfl ‹_› (le9 rfl ‹_› (fun l14 => ?_))
 refine mv rfl (ln (qc (bl (kc_loopL (A := Nat × List Int × Value × Hp) (fun zz => (zz.1 ≤ c.vars.length) ∧ (zz.2.1 = wordTo c.vars x zz.1) ∧ OwnL 3 1 zz.2.2.2 noHp IntV zz.2.2.1 zz.2.1 ∧ Fr B zz.2.2.2) (fun zz => c.vars.length - zz.1) (fun zz => [zz.2.2.2]) (fun zz => [(15, .int .i64 (zz.1 : Int)), (5, zz.2.2.1)]) (0, ([]), v8, H9) (pk [1, 4, 13, 14] rfl) (pk [15, 5] rfl) rfl ⟨Nat.zero_le _, rfl, o11, f10⟩ ?_))))
 rintro ⟨k, out, v20, H17⟩ hJ21
 obtain ⟨hk15, hi16, o18, f19⟩ : (k ≤ c.vars.length) ∧ (out = wordTo c.vars x k) ∧ OwnL 3 1 H17 noHp IntV v20 out ∧ Fr B H17 := hJ21
 change KC _ _ (_) [H17] _ ([(15, .int .i64 (k : Int)), (5, v20)] ++ _)
 refine cS (cr (ls9 rfl rfl ?_))
 refine ln (qc (cS (ci9 rfl (fun c22 => ?_) (fun c22 => ?_))))
 ·have hv1 := hv _ (getD_mem (d := (0 : Int)) (by omega : k < c.vars.length))
  refine sk (qc (cS (bl (cS (cr (kl_inI rfl rfl ‹_› (by omega) (fun p23 a24 => ?_)))))))
  refine ld rfl ‹_› (sg rfl (ln (qc (cr (mv rfl (mv rfl (mv rfl (kl_ixI rfl rfl ‹_› (by omega) (by omega) (fun p25 a26 => ?_)))))))))
  refine ld rfl ‹_› (bs9 rfl rfl rfl (by decide) (ca rfl ca_nil) (fun v27 H28 f29 r30 s31 => ?_))
  have h32 : Ints H28 v27 [(x.getD (c.vars.getD k 0).toNat 0)] := litInts (xs := [(x.getD (c.vars.getD k 0).toNat 0)]) (by simpa using s31)
  refine aL9 (x.getD (c.vars.getD k 0).toNat 0) rfl rfl o18 ‹_› rfl (oc rfl oc_nil) (by have := word_len hi16; omega) (by decide) (fun v33 H34 o35 f36 => ?_)
  have f37 := f36 B f19 (Nat.le_refl _)
  refine sg rfl (ln (qc (cr (ic9 rfl rfl (by omega) ?_))))
  refine mv rfl (ln (rL ((k + 1), (out ++ [(x.getD (c.vars.getD k 0).toNat 0)]), v33, H34) (by omega) (⟨by omega, word_step hi16 (by omega), o35, f37⟩) (pk [15, 5] rfl) (pk [1, 4, 13, 14] rfl) rfl slr9))
 ·refine ex9 (qc (cS (cr (mv rfl (sg rfl (ln (qc (rt ?_))))))))
  have e9 : out = wordL c.vars x := by exact word_end hi16 (by omega)
  exact kq_ret rfl rfl H17 f19 (e9 ▸ OwnL.ints o18)
theorem weighted_ok {Ha : Hp} {va : Value} {Hx : Hp} {vx : Value} (a : List Int) (x : List Int) (hA : Coef a) (hX : Vals x) (hl : a.length = x.length) (h4 : x.length ≤ 4) (ha : Ints Ha va a) (hx : Ints Hx vx x) : SpecP Tryz.prog 47 [va, vx] [Ha, Hx] (.int .i64 (dotTo a x x.length)) := by
 refine spec_of Tryz.func47 rfl rfl rfl (fun B => ?_)
 refine cS (cr (sg rfl (ln (qc (cS (cr (sg rfl (ln (qc (cS (cS (cr (mv rfl (le9 rfl ‹_› (fun l1 => ?_)))))))))))))))
 refine mv rfl (ln (qc (bl (kc_loop0 (A := Nat × Int) (fun zz => (zz.1 ≤ a.length) ∧ (zz.2 = dotTo a x zz.1)) (fun zz => a.length - zz.1) (fun zz => [(10, .int .i64 (zz.1 : Int)), (5, .int .i64 zz.2)]) (0, (0 : Int)) (pk [1, 4, 8, 9] rfl) (pk [10, 5] rfl) ⟨Nat.zero_le _, rfl⟩ ?_))))
 rintro ⟨k, s⟩ hJ4
 obtain ⟨hk2, hi3⟩ : (k ≤ a.length) ∧ (s = dotTo a x k) := hJ4
 change KC _ _ (_) _ _ ([(10, .int .i64 (k : Int)), (5, .int .i64 s)] ++ _)
 refine cS (cr (ls9 rfl rfl ?_))
 refine ln (qc (cS (ci9 rfl (fun c5 => ?_) (fun c5 => ?_))))
 ·have h1 := hA.at (k := k) (by omega)
  have h2 := hX.at (k := k) (by omega)
  have h3 := prod_le h1 h2
  have h5 := dot_le hA hX k (by omega) (by omega)
  refine sk (qc (cS (bl (cS (cr (mv rfl (kl_inI rfl rfl ‹_› (by omega) (fun p6 a7 => ?_))))))))
  refine ld rfl ‹_› (sg rfl (sg rfl (ln (qc (cr (mv rfl (mv rfl (mv rfl (mv rfl ?_)))))))))
  refine kl_inI rfl rfl ‹_› (by omega) (fun p8 a9 => ?_)
  refine ld rfl ‹_› (kl_mul rfl rfl (by omega) ?_)
  refine ad9 rfl rfl (by omega) ?_
  refine sg rfl (ln (qc (cr (ic9 rfl rfl (by omega) ?_))))
  refine mv rfl (ln (kq_round0 ((k + 1), (s + ((a.getD k 0) * (x.getD k 0)))) (by omega) (⟨by omega, (by rw [dot_succ, ← hi3])⟩) (pk [10, 5] rfl) (pk [1, 4, 8, 9] rfl) slr9))
 ·refine ex9 (qc (cS (cr (mv rfl (sg rfl (ln (qc (rt (kq_retP rfl rfl (congrArg (Value.int .i64) ?_))))))))))
  rw [show x.length = k from by omega]; exact hi3
theorem roomy_ok {Hcv : Hp} {vcv : Value} {Hca : Hp} {vca : Value} {Hcr : Hp} {vcr : Value} {Hx : Hp} {vx : Value} (c : Con) (x : List Int) (hs : SatOk c x) (hk : c.kind = 7) (hcv : Ints Hcv vcv c.vars) (hca : Ints Hca vca c.args) (hcr : Rows Hcr vcr c.rows) (hx : Ints Hx vx x) : SpecP Tryz.prog 190 [.agg #[.int .i64 c.kind, vcv, vca, .int .i64 c.bound, vcr], vx] [Hcv, Hca, Hcr, Hx] (.bool (roomB c x)) := by
 have h7 := hs.k7 hk
 have h4 := hs.four
 refine spec_of Tryz.func190 rfl rfl rfl (fun B => ?_)
 refine cS (cr (kl_box rfl rfl (fun p1 H2 f3 a4 => ?_)))
 refine sg rfl (ln (qc (cS (cr (mv rfl (le9 rfl ‹_› (fun l5 => ?_)))))))
 refine sg rfl (ln (qc (cS (cS (cr (mv rfl (ln (qc (bl (kc_loop0 (A := Nat) (fun zz => (zz ≤ 15) ∧ (roomTo c x zz = true)) (fun zz => 15 - zz) (fun zz => [(12, .int .i64 (zz : Int))]) (0) (pk [1, 2, 5] rfl) (pc 12 rfl pn) ⟨Nat.zero_le _, rfl⟩ ?_))))))))))
 rintro k hJ8
 obtain ⟨hk6, hi7⟩ : (k ≤ 15) ∧ (roomTo c x k = true) := hJ8
 change KC _ _ (_) _ _ ([(12, .int .i64 (k : Int))] ++ _)
 refine cS (cr (ls9 rfl rfl ?_))
 refine ln (qc (cS (ci9 rfl (fun c9 => ?_) (fun c9 => ?_))))
 ·refine sk (qc (cS (bl (cS (cr (mv rfl (sg rfl (ln (qc (cS (cr (sg rfl ?_))))))))))))
  refine ln (qc (cS (cS (cr (mv rfl (le9 rfl ‹_› (fun l10 => ?_)))))))
  refine mv rfl (ln (qc (bl (kc_loop0 (A := Nat × Int) (fun zz => (zz.1 ≤ x.length) ∧ (zz.2 = loadTo c.args x k zz.1)) (fun zz => x.length - zz.1) (fun zz => [(17, .int .i64 (zz.1 : Int)), (7, .int .i64 zz.2)]) (0, (0 : Int)) (pk [1, 2, 5, 6, 12, 13, 14, 15, 16] rfl) (pk [17, 7] rfl) ⟨Nat.zero_le _, rfl⟩ ?_))))
  rintro ⟨i, s⟩ hJ13
  obtain ⟨hk11, hi12⟩ : (i ≤ x.length) ∧ (s = loadTo c.args x k i) := hJ13
  change KC _ _ (_) _ _ ([(17, .int .i64 (i : Int)), (7, .int .i64 s)] ++ _)
  refine cS (cr (ls9 rfl rfl ?_))
  refine ln (qc (cS (ci9 rfl (fun c14 => ?_) (fun c14 => ?_))))
  ·have hl := load_le (x := x) h7.2 (by omega) k i (by omega)
   have hx1 := hs.val.at (k := i) (by omega)
   have ha1 := h7.2 _ (getD_mem (d := (0 : Int)) (by omega : i < c.args.length))
   refine sk (qc (cS (bl (cS (cr (mv rfl (kl_inI rfl rfl ‹_› (by omega) (fun p15 a16 => ?_))))))))
   refine ld rfl ‹_› (sg rfl (sg rfl (ln (qc (cS (cr (mv rfl (mv rfl (kl_leq rfl rfl ?_)))))))))
   refine mv rfl (jn 10 35 (.bool (decide ((x.getD i 0) ≤ (k : Int)) && decide ((k : Int) < ((x.getD i 0) + (c.args.getD i 0))))) (pk [1, 2, 5, 6, 7, 8, 9, 12, 13, 14, 15, 16, 17, 18, 19, 20, 21, 22, 23, 24, 25] rfl) (fun J22 => ?_) ?_)
   ·rcases Bool.eq_false_or_eq_true (decide ((x.getD i 0) ≤ (k : Int))) with g17 | g17
    ·have g17p := of_decide_eq_true g17
     refine gT rfl rfl g17 (mv rfl (gT rfl rfl g17 (mv rfl (gT rfl rfl g17 (fd9 rfl ‹_› (fun p18 a19 => ?_))))))
     refine gT rfl rfl g17 (ld rfl ‹_› (gT rfl rfl g17 (mv rfl (gT rfl rfl g17 (kl_inI rfl rfl ‹_› (by omega) (fun p20 a21 => ?_))))))
     refine gT rfl rfl g17 (ld rfl ‹_› (gT rfl rfl g17 (ad9 rfl rfl (by omega) ?_)))
     refine gT rfl rfl g17 (ls9 rfl rfl ?_)
     refine aT rfl rfl g17 ?_
     exact J22 _ (pk [35, 1, 2, 5, 6, 7, 8, 9, 12, 13, 14, 15, 16, 17, 18, 19, 20, 21, 22, 23, 24, 25] rfl)
    ·refine gF rfl rfl g17 (gF rfl rfl g17 (gF rfl rfl g17 (gF rfl rfl g17 (gF rfl rfl g17 (gF rfl rfl g17 (gF rfl rfl g17 (gF rfl rfl g17 (gF rfl rfl g17 ?_))))))))
     refine aF (decide ((k : Int) < ((x.getD i 0) + (c.args.getD i 0)))) rfl rfl g17 ?_
     exact J22 _ (pk [35, 1, 2, 5, 6, 7, 8, 9, 12, 13, 14, 15, 16, 17, 18, 19, 20, 21, 22, 23, 24, 25] rfl)
   refine ln (qc (cd9 rfl (fun c23 => ?_) (fun c23 => ?_)))
   ·have c23r := c23
    try simp only [smpE] at c23
    have ha2 := h7.2 _ (getD_mem (d := (0 : Int)) (by omega : x.length + i < c.args.length))
    refine cr (mv rfl (fd9 rfl ‹_› (fun p24 a25 => ?_)))
    refine ld rfl ‹_› (mv rfl (mv rfl (kl_addN rfl rfl (by omega) ?_)))
    refine kl_inI rfl rfl ‹_› (by omega) (fun p26 a27 => ?_)
    refine ld rfl ‹_› (ad9 rfl rfl (by omega) ?_)
    refine sg rfl (ln (qc (cr (ic9 rfl rfl (by omega) ?_))))
    refine mv rfl (ln (kq_round0 ((i + 1), (s + (c.args.getD (x.length + i) 0))) (by omega) (⟨by omega, (by first | exact load_stepT hi12 ‹_› | exact load_stepF hi12 ‹_›)⟩) (pk [17, 7] rfl) (pk [1, 2, 5, 6, 12, 13, 14, 15, 16] rfl) slr9))
   ·have c23r := c23
    try simp only [smpE] at c23
    refine sk (qc (cr (ic9 rfl rfl (by omega) ?_)))
    refine mv rfl (ln (kq_round0 ((i + 1), s) (by omega) (⟨by omega, (by first | exact load_stepT hi12 ‹_› | exact load_stepF hi12 ‹_›)⟩) (pk [17, 7] rfl) (pk [1, 2, 5, 6, 12, 13, 14, 15, 16] rfl) slr9))
  ·refine ex9 (qc (cS (cr (mv rfl (fd9 rfl ‹_› (fun p28 a29 => ?_))))))
   refine ld rfl ‹_› (kl_gtr rfl rfl ?_)
   refine ln (qc (ci9 rfl (fun c30 => ?_) (fun c30 => ?_)))
   ·refine cS (cr (sg rfl (ln (qc (rt (kq_retP rfl rfl (congrArg Value.bool ?_)))))))
    exact room_no' (k := k) (by omega) hi12 (by omega) ‹_›
   ·refine sk (qc (cr (ic9 rfl rfl (by omega) ?_)))
    refine mv rfl (ln (kq_round0 ((k + 1)) (by omega) (⟨by omega, room_step hi7 hi12 (by omega) ‹_›⟩) (pc 12 rfl pn) (pk [1, 2, 5] rfl) slr9))
 ·refine ex9 (qc (cS (cr (sg rfl (ln (qc (rt (kq_retP rfl rfl (congrArg Value.bool ?_)))))))))
  exact room_yes hi7 (by omega)
theorem accepts_ok {Hcv : Hp} {vcv : Value} {Hca : Hp} {vca : Value} {Hcr : Hp} {vcr : Value} {Hx : Hp} {vx : Value} (c : Con) (x : List Int) (hs : SatOk c x) (hk : c.kind = 8) (hcv : Ints Hcv vcv c.vars) (hca : Ints Hca vca c.args) (hcr : Rows Hcr vcr c.rows) (hx : Ints Hx vx x) : SpecP Tryz.prog 191 [.agg #[.int .i64 c.kind, vcv, vca, .int .i64 c.bound, vcr], vx] [Hcv, Hca, Hcr, Hx] (.bool (accB c x)) := by
 have h8 := hs.k8 hk
 have h8r := hs.k8r hk
 refine spec_of Tryz.func191 rfl rfl rfl (fun B => ?_)
 refine cS (cr (kl_box rfl rfl (fun p1 H2 f3 a4 => ?_)))
 refine sg rfl (ln (qc (cS (cr (sg rfl (ln (qc (cS (cS (cr (mv rfl (le9 rfl ‹_› (fun l5 => ?_)))))))))))))
 refine mv rfl (ln (qc (bl (kc_loop0 (A := Nat × Int) (fun zz => (zz.1 ≤ x.length) ∧ (0 ≤ zz.2 ∧ zz.2 < c.rows.length ∧ accGo c.rows zz.2 (x.drop zz.1) = accGo c.rows 0 x)) (fun zz => x.length - zz.1) (fun zz => [(10, .int .i64 (zz.1 : Int)), (5, .int .i64 zz.2)]) (0, (0 : Int)) (pk [2, 8, 9] rfl) (pk [10, 5] rfl) ⟨Nat.zero_le _, ⟨by dsimp only; omega, by dsimp only; omega, by simp⟩⟩ ?_))))
 rintro ⟨k, s⟩ hJ8
 obtain ⟨hk6, hi7⟩ : (k ≤ x.length) ∧ (0 ≤ s ∧ s < c.rows.length ∧ accGo c.rows s (x.drop k) = accGo c.rows 0 x) := hJ8
 change KC _ _ (_) _ _ ([(10, .int .i64 (k : Int)), (5, .int .i64 s)] ++ _)
 refine cS (cr (ls9 rfl rfl ?_))
 refine ln (qc (cS (ci9 rfl (fun c9 => ?_) (fun c9 => ?_))))
 ·have hr := h8.2 _ (getD_mem (d := ([] : List Int)) (by omega : s.toNat < c.rows.length))
  have hx1 := hs.val.at (k := k) (by omega)
  refine sk (qc (cS (bl (cS (cr (kl_inI rfl rfl ‹_› (by omega) (fun p10 a11 => ?_)))))))
  refine ld rfl ‹_› (sg rfl (ln (qc (cS (cr (fd9 rfl ‹_› (fun p12 a13 => ?_)))))))
  refine ld rfl ‹_› (mv rfl (kl_ixS rfl rfl ‹_› (by omega) (by omega) (fun p14 u16 h17 a15 => ?_)))
  refine ld rfl ‹_› (mv rfl (kl_ixI rfl rfl ‹_› (by omega) (by omega) (fun p18 a19 => ?_)))
  refine ld rfl ‹_› (sg rfl (ln (qc (cS (cr (mv rfl (ls9 rfl rfl ?_)))))))
  refine ln (qc (ci9 rfl (fun c20 => ?_) (fun c20 => ?_)))
  ·refine cS (cr (sg rfl (ln (qc (rt (kq_retP rfl rfl (congrArg Value.bool ?_)))))))
   exact acc_no (k := k) (by omega) hi7.2.2 ‹_›
  ·refine sk (qc (cr (ic9 rfl rfl (by omega) ?_)))
   refine mv rfl (ln (kq_round0 ((k + 1), ((c.rows.getD s.toNat []).getD (x.getD k 0).toNat 0)) (by omega) (⟨by omega, acc_step h8r (by omega) ⟨hi7.1, hi7.2.1⟩ hx1 hi7.2.2 ‹_›⟩) (pk [10, 5] rfl) (pk [2, 8, 9] rfl) slr9))
 ·refine ex9 (qc (cS (cr (fd9 rfl ‹_› (fun p21 a22 => ?_)))))
  refine ld rfl ‹_› (mv rfl (cP rfl rfl (containsInts_ok c.args s ‹_›) ?_))
  refine sg rfl (ln (qc (rt (kq_retP rfl rfl (congrArg Value.bool ?_)))))
  exact acc_yes (k := k) (by omega) hi7.1 hi7.2.2
theorem cycle1_ok {Hx : Hp} {vx : Value} {Hpx : Hp} {ptrpx : Value} (v : Int) (x : List Int) (hx : Ints Hx vx x) (apx : At Hpx ptrpx [vx]) : SpecP Tryz.prog 198 [.int .i64 v, ptrpx] [Hx, Hpx] (.bool (decide ((x.length : Int) ≤ v))) := by
 refine spec_of Tryz.func198 rfl rfl rfl (fun B => ?_)
 refine cS (cr (sg rfl (ln (qc (cS (cr (mv rfl (ld rfl ‹_› (le9 rfl ‹_› (fun l1 => ?_))))))))))
 refine kl_geq rfl rfl ?_
 refine sg rfl (ln (qc (rt (kq_retP rfl rfl (congrArg Value.bool ?_)))))
 rfl
theorem cycle_ok {Hx : Hp} {vx : Value} (x : List Int) (h1 : 1 ≤ x.length) (h4 : x.length ≤ 4) (hv : Vals x) (hx : Ints Hx vx x) : SpecP Tryz.prog 192 [vx] [Hx] (.bool (cycI x)) := by
 refine spec_of Tryz.func192 rfl rfl rfl (fun B => ?_)
 refine cS (cr (kl_box rfl (Sl.cells ‹_›) (fun p1 H2 f3 a4 => ?_)))
 refine sg rfl (ln (qc (cS (cS (cr (ld rfl ‹_› (kl_mkf rfl ?_)))))))
 refine cP rfl rfl (cf_int_ok x (fun x4 => decide ((x.length : Int) ≤ x4)) ‹_› (fun x4 _ => cycle1_ok x4 x ‹_› ‹_›)) ?_
 refine ln (qc (cd9 rfl (fun c6 => ?_) (fun c6 => ?_)))
 ·have c6r := c6
  try simp only [smpE] at c6
  refine cS (cr (sg rfl (ln (qc (rt (kq_retP rfl rfl (congrArg Value.bool ?_)))))))
  exact cyc_bad ‹_›
 ·have c6r := c6
  try simp only [smpE] at c6
  have hin := cyc_in c6r
  refine sk (qc (cS (cr (ld rfl ‹_› (kl_inI (i := 0) rfl rfl ‹_› (by omega) (fun p7 a8 => ?_))))))
  refine ld rfl ‹_› (sg rfl (sg rfl (ln (qc (cS (bl (kc_loop0 (A := Nat × Int × Int) (fun zz => (cycIGo x zz.1 zz.2.1 zz.2.2 = cycIGo x x.length (x.getD 0 0) 1 ∧ 0 ≤ zz.2.1 ∧ zz.2.1 < x.length ∧ zz.2.2 + (zz.1 : Int) = x.length + 1 ∧ 1 ≤ zz.2.2)) (fun zz => zz.1) (fun zz => [(3, .int .i64 zz.2.1), (4, .int .i64 zz.2.2)]) (x.length, (x.getD 0 0), (1 : Int)) (pk [1, 2] rfl) (pk [3, 4] rfl) (⟨rfl, (hv.at (k := 0) (by omega)).1, hin _ (getD_mem (by omega)), by dsimp only; omega, by dsimp only; omega⟩) ?_)))))))
  rintro ⟨f, a, s⟩ hJ11
  have hi10 : (cycIGo x f a s = cycIGo x x.length (x.getD 0 0) 1 ∧ 0 ≤ a ∧ a < x.length ∧ s + (f : Int) = x.length + 1 ∧ 1 ≤ s) := hJ11
  change KC _ _ (_) _ _ ([(3, .int .i64 a), (4, .int .i64 s)] ++ _)
  refine cS (cS (cr (mv rfl (kl_neq rfl rfl ?_))))
  refine mv rfl (jn 5 18 (.bool (decide (a ≠ (0 : Int)) && decide (s ≤ (x.length : Int)))) (pk [1, 2, 3, 4, 11, 12, 13] rfl) (fun J14 => ?_) ?_)
  ·rcases Bool.eq_false_or_eq_true (decide (a ≠ (0 : Int))) with g12 | g12
   ·have g12p := of_decide_eq_true g12
    refine gT rfl rfl g12 (mv rfl (gT rfl rfl g12 (ld rfl ‹_› (gT rfl rfl g12 (le9 rfl ‹_› (fun l13 => ?_))))))
    refine gT rfl rfl g12 (kl_leq rfl rfl ?_)
    refine aT rfl rfl g12 ?_
    exact J14 _ (pk [18, 1, 2, 3, 4, 11, 12, 13] rfl)
   ·refine gF rfl rfl g12 (gF rfl rfl g12 (gF rfl rfl g12 (gF rfl rfl g12 (aF (decide (s ≤ (x.length : Int))) rfl rfl g12 ?_))))
    exact J14 _ (pk [18, 1, 2, 3, 4, 11, 12, 13] rfl)
  refine ln (qc (cd9 rfl (fun c15 => ?_) (fun c15 => ?_)))
  ·have c15r := c15
   try simp only [smpE] at c15
   refine sk (qc (bl (cS (cr (ld rfl ‹_› (mv rfl (kl_ixI rfl rfl ‹_› (by omega) (by omega) (fun p16 a17 => ?_))))))))
   refine ld rfl ‹_› (sg rfl (ln (qc (cr (mv rfl (ad9 rfl rfl (by omega) ?_))))))
   refine sg rfl (ln (kq_round0 ((f - 1), (x.getD a.toNat 0), (s + (1 : Int))) (by dsimp only; omega) (⟨cyc_step hi10.1 (by omega) ‹_›, (hv _ (getD_mem (by omega))).1, hin _ (getD_mem (by omega)), by dsimp only; omega, by dsimp only; omega⟩) (pk [3, 4] rfl) (pk [1, 2] rfl) slr9))
  ·have c15r := c15
   try simp only [smpE] at c15
   refine ex9 (qc (cS (cr (mv rfl (eq9 rfl rfl ?_)))))
   refine mv rfl (jn 5 32 (.bool (decide (a = (0 : Int)) && decide (s = (x.length : Int)))) (pk [2, 27] rfl) (fun J20 => ?_) ?_)
   ·rcases Bool.eq_false_or_eq_true (decide (a = (0 : Int))) with g18 | g18
    ·have g18p := of_decide_eq_true g18
     refine gT rfl rfl g18 (mv rfl (gT rfl rfl g18 (ld rfl ‹_› (gT rfl rfl g18 (le9 rfl ‹_› (fun l19 => ?_))))))
     refine gT rfl rfl g18 (eq9 rfl rfl ?_)
     refine aT rfl rfl g18 ?_
     exact J20 _ (pk [32, 2, 27] rfl)
    ·refine gF rfl rfl g18 (gF rfl rfl g18 (gF rfl rfl g18 (gF rfl rfl g18 (aF (decide (s = (x.length : Int))) rfl rfl g18 ?_))))
     exact J20 _ (pk [32, 2, 27] rfl)
   refine sg rfl (ln (qc (rt (kq_retP rfl rfl (congrArg Value.bool ?_)))))
   exact cyc_end ‹_› hi10.1 ‹_›
theorem satisfied1_ok {Hrow : Hp} {vrow : Value} {Hx : Hp} {vx : Value} {Hpx : Hp} {ptrpx : Value} (row : List Int) (x : List Int) (hrow : Ints Hrow vrow row) (hx : Ints Hx vx x) (apx : At Hpx ptrpx [vx]) : SpecP Tryz.prog 189 [vrow, ptrpx] [Hrow, Hx, Hpx] (.bool (decide (row = x))) := by
 refine spec_of Tryz.func189 rfl rfl rfl (fun B => ?_)
 refine cS (cr (sg rfl (ln (qc (cS (cr (mv rfl (ld rfl ‹_› (cP rfl rfl (equal_ok row x ‹_› ‹_›) ?_)))))))))
 refine sg rfl (ln (qc (rt (kq_retP rfl rfl (congrArg Value.bool ?_)))))
 rfl
theorem satisfied_ok {Hcv : Hp} {vcv : Value} {Hca : Hp} {vca : Value} {Hcr : Hp} {vcr : Value} {Hx : Hp} {vx : Value} (c : Con) (x : List Int) (hs : SatOk c x) (hcv : Ints Hcv vcv c.vars) (hca : Ints Hca vca c.args) (hcr : Rows Hcr vcr c.rows) (hx : Ints Hx vx x) : SpecP Tryz.prog 175 [.agg #[.int .i64 c.kind, vcv, vca, .int .i64 c.bound, vcr], vx] [Hcv, Hca, Hcr, Hx] (.bool (satB c x)) := by
 have h4 := hs.four
 have h1 := hs.one
 refine spec_of Tryz.func175 rfl rfl rfl (fun B => ?_)
 refine cS (cr (kl_box rfl rfl (fun p1 H2 f3 a4 => ?_)))
 refine kl_box rfl (Sl.cells ‹_›) (fun p5 H6 f7 a8 => ?_)
 refine sg rfl (ln (qc (cS (cS (cr (fd9 rfl ‹_› (fun p9 a10 => ?_)))))))
 refine ld rfl ‹_› (ln (qc (bl (cS (cr (eq9 rfl rfl ?_))))))
 refine sg rfl (ln (qc (ci9 rfl (fun c11 => ?_) (fun c11 => ?_))))
 ·have hk := hs.k1 c11
  refine cS (kc_tree (fun i => ([] : List Nat).contains i) [] (by kernel_rfl) ?_)
  refine tq 0 nsl rfl (fd9 rfl ‹_› (fun p12 a13 => ?_))
  refine ln (qq (tq 1 nsl rfl (ld rfl ‹_› (ln (qq (tq 2 nsl rfl (ld rfl ‹_› (ln (qq (tq 4 nsl rfl (fd9 rfl ‹_› (fun p14 a15 => ?_))))))))))))
  refine ln (qq (tq 5 nsl rfl (ld rfl ‹_› (ln (qq (ta 3 rfl (cP rfl rfl (weighted_ok c.args x hk.2 hs.val hk.1 hs.four ‹_› ‹_›) ?_)))))))
  refine ln (qa nsl (tq 6 nsl rfl (kl_leq rfl rfl ?_)))
  refine ln (qq (tq 7 nsl rfl (sg rfl (ln (qq (kt_end (by kernel_rfl) ?_))))))
  refine qc (rt (kq_retP rfl rfl (congrArg Value.bool ?_)))
  rw [sat_1 ‹_›]
 ·refine cS (cr (eq9 rfl rfl ?_))
  refine sg rfl (ln (qc (ci9 rfl (fun c16 => ?_) (fun c16 => ?_))))
  ·have hk := hs.k2 c16
   have hk1 := hs.val.at (k := 1) (by omega)
   have hk2 := hk.2.2.at (k := 0) (by omega)
   refine cS (kc_draw 13 [true, true, true, true, true, true, true, true, true, true, true, true, true] (by kernel_rfl) (by kernel_rfl) ?_)
   refine ld rfl ‹_› (kl_inI (i := 0) rfl rfl ‹_› (by omega) (fun p17 a18 => ?_))
   refine ld rfl ‹_› (ld rfl ‹_› (kl_inI (i := 1) rfl rfl ‹_› (by omega) (fun p19 a20 => ?_)))
   refine ld rfl ‹_› (fd9 rfl ‹_› (fun p21 a22 => ?_))
   refine ld rfl ‹_› (kl_inI (i := 0) rfl rfl ‹_› (by omega) (fun p23 a24 => ?_))
   refine ld rfl ‹_› (ad9 rfl rfl (by omega) ?_)
   refine kl_neq rfl rfl ?_
   refine sg rfl (ln (qc (rt (kq_retP rfl rfl (congrArg Value.bool ?_)))))
   rw [sat_2 ‹_›]
  ·refine cS (cr (eq9 rfl rfl ?_))
   refine sg rfl (ln (qc (ci9 rfl (fun c25 => ?_) (fun c25 => ?_))))
   ·refine cS (cr (ld rfl ‹_› (cP rfl rfl (distinct_ok x ‹_›) ?_)))
    refine sg rfl (ln (qc (rt (kq_retP rfl rfl (congrArg Value.bool ?_)))))
    rw [sat_3 ‹_›]
   ·refine cS (cr (eq9 rfl rfl ?_))
    refine sg rfl (ln (qc (ci9 rfl (fun c26 => ?_) (fun c26 => ?_))))
    ·have hk := hs.k4 c26
     have hk1 := hs.val.at (k := 0) (by omega)
     refine cS (kc_draw 21 [true, true, true, true, true, true, true, true, true, true, true, true, true, true, true, true, true, true, true, true, true] (by kernel_rfl) (by kernel_rfl) ?_)
     refine ld rfl ‹_› (kl_inI (i := 0) rfl rfl ‹_› (by omega) (fun p27 a28 => ?_))
     refine ld rfl ‹_› (fd9 rfl ‹_› (fun p29 a30 => ?_))
     refine ld rfl ‹_› (le9 rfl ‹_› (fun l31 => ?_))
     refine ls9 rfl rfl ?_
     refine mv rfl (jn 12 58 (.bool (decide ((x.getD 0 0) < (c.args.length : Int)) && decide ((c.args.getD (x.getD 0 0).toNat 0) = (x.getD 1 0)))) (pk [3, 4, 46] rfl) (fun J41 => ?_) ?_)
     ·rcases Bool.eq_false_or_eq_true (decide ((x.getD 0 0) < (c.args.length : Int))) with g32 | g32
      ·have g32p := of_decide_eq_true g32
       refine gT rfl rfl g32 (fd9 rfl ‹_› (fun p33 a34 => ?_))
       refine gT rfl rfl g32 (ld rfl ‹_› (gT rfl rfl g32 (ld rfl ‹_› (gT rfl rfl g32 (kl_inI (i := 0) rfl rfl ‹_› (by omega) (fun p35 a36 => ?_))))))
       refine gT rfl rfl g32 (ld rfl ‹_› (gT rfl rfl g32 (kl_ixI rfl rfl ‹_› (by omega) (by omega) (fun p37 a38 => ?_))))
       refine gT rfl rfl g32 (ld rfl ‹_› (gT rfl rfl g32 (ld rfl ‹_› (gT rfl rfl g32 (kl_inI (i := 1) rfl rfl ‹_› (by omega) (fun p39 a40 => ?_))))))
       refine gT rfl rfl g32 (ld rfl ‹_› (gT rfl rfl g32 (eq9 rfl rfl ?_)))
       refine aT rfl rfl g32 ?_
       exact J41 _ (pk [58, 3, 4, 46] rfl)
      ·refine gF rfl rfl g32 (gF rfl rfl g32 (gF rfl rfl g32 (gF rfl rfl g32 (gF rfl rfl g32 (gF rfl rfl g32 (gF rfl rfl g32 (gF rfl rfl g32 (gF rfl rfl g32 ?_))))))))
       refine gF rfl rfl g32 (gF rfl rfl g32 (aF (decide ((c.args.getD (x.getD 0 0).toNat 0) = (x.getD 1 0))) rfl rfl g32 ?_))
       exact J41 _ (pk [58, 3, 4, 46] rfl)
     refine sg rfl (ln (qc (rt (kq_retP rfl rfl (congrArg Value.bool ?_)))))
     rw [sat_4 ‹_›]
    ·refine cS (cr (eq9 rfl rfl ?_))
     refine sg rfl (ln (qc (ci9 rfl (fun c42 => ?_) (fun c42 => ?_))))
     ·have hk := hs.k5 c42
      refine cS (cr (fd9 rfl ‹_› (fun p43 a44 => ?_)))
      refine ld rfl ‹_› (kl_mkf rfl ?_)
      refine cP rfl rfl (cf_row_ok c.rows (fun x44 => decide (x44 = x)) ‹_› (fun _ ux44 x44 _ hux44 => satisfied1_ok x44 x hux44 ‹_› ‹_›)) ?_
      refine sg rfl (ln (qc (rt (kq_retP rfl rfl (congrArg Value.bool ?_)))))
      rw [sat_5 ‹_›]
     ·refine cS (cr (eq9 rfl rfl ?_))
      refine sg rfl (ln (qc (ci9 rfl (fun c46 => ?_) (fun c46 => ?_))))
      ·have hk := hs.k6 c46
       refine cS (cr (sg rfl (ln (qc (cS (cS (cr (ld rfl ‹_› (le9 rfl ‹_› (fun l47 => ?_))))))))))
       refine mv rfl (ln (qc (bl (kc_loop0 (A := Nat × Int) (fun zz => (zz.1 ≤ x.length) ∧ (zz.2 = cntTo x (c.args.getD 0 0) zz.1)) (fun zz => x.length - zz.1) (fun zz => [(69, .int .i64 (zz.1 : Int)), (5, .int .i64 zz.2)]) (0, (0 : Int)) (pk [2, 3, 4, 67, 68] rfl) (pk [69, 5] rfl) ⟨Nat.zero_le _, rfl⟩ ?_))))
       rintro ⟨k, s⟩ hJ50
       obtain ⟨hk48, hi49⟩ : (k ≤ x.length) ∧ (s = cntTo x (c.args.getD 0 0) k) := hJ50
       change KC _ _ (_) _ _ ([(69, .int .i64 (k : Int)), (5, .int .i64 s)] ++ _)
       have hcl := cnt_le x (c.args.getD 0 0) k
       refine cS (cr (ls9 rfl rfl ?_))
       refine ln (qc (cS (ci9 rfl (fun c51 => ?_) (fun c51 => ?_))))
       ·refine sk (qc (cS (bl (cS (cr (kl_inI rfl rfl ‹_› (by omega) (fun p52 a53 => ?_)))))))
        refine ld rfl ‹_› (sg rfl (ln (qc (cS (cr (mv rfl (fd9 rfl ‹_› (fun p54 a55 => ?_))))))))
        refine ld rfl ‹_› (kl_inI (i := 0) rfl rfl ‹_› (by omega) (fun p56 a57 => ?_))
        refine ld rfl ‹_› (eq9 rfl rfl ?_)
        refine ln (qc (ci9 rfl (fun c58 => ?_) (fun c58 => ?_)))
        ·refine cr (mv rfl (ad9 rfl rfl (by omega) ?_))
         refine sg rfl (ln (qc (cr (ic9 rfl rfl (by omega) ?_))))
         refine mv rfl (ln (kq_round0 ((k + 1), (s + (1 : Int))) (by omega) (⟨by omega, (by first | exact cnt_stepT hi49 (by omega) ‹_› | exact cnt_stepF hi49 (by omega) ‹_›)⟩) (pk [69, 5] rfl) (pk [2, 3, 4, 67, 68] rfl) slr9))
        ·refine sk (qc (cr (ic9 rfl rfl (by omega) ?_)))
         refine mv rfl (ln (kq_round0 ((k + 1), s) (by omega) (⟨by omega, (by first | exact cnt_stepT hi49 (by omega) ‹_› | exact cnt_stepF hi49 (by omega) ‹_›)⟩) (pk [69, 5] rfl) (pk [2, 3, 4, 67, 68] rfl) slr9))
       ·refine ex9 (qc (cS (cr (mv rfl (fd9 rfl ‹_› (fun p59 a60 => ?_))))))
        refine ld rfl ‹_› (eq9 rfl rfl ?_)
        refine sg rfl (ln (qc (rt (kq_retP rfl rfl (congrArg Value.bool ?_)))))
        rw [sat_6 ‹_›, hi49, show k = x.length from by omega]
      ·refine cS (cr (eq9 rfl rfl ?_))
       refine sg rfl (ln (qc (ci9 rfl (fun c61 => ?_) (fun c61 => ?_))))
       ·refine cS (cr (kl_ldS rfl ‹_› rfl ?_))
        refine ld rfl ‹_› (cP rfl rfl (roomy_ok c x hs ‹_› ‹_› ‹_› ‹_› ‹_›) ?_)
        refine sg rfl (ln (qc (rt (kq_retP rfl rfl (congrArg Value.bool ?_)))))
        rw [sat_7 ‹_›]
       ·refine cS (cr (eq9 rfl rfl ?_))
        refine sg rfl (ln (qc (ci9 rfl (fun c62 => ?_) (fun c62 => ?_))))
        ·refine cS (cr (kl_ldS rfl ‹_› rfl ?_))
         refine ld rfl ‹_› (cP rfl rfl (accepts_ok c x hs ‹_› ‹_› ‹_› ‹_› ‹_›) ?_)
         refine sg rfl (ln (qc (rt (kq_retP rfl rfl (congrArg Value.bool ?_)))))
         rw [sat_8 ‹_›]
        ·refine sk (qc (cS (cr (ld rfl ‹_› (cP rfl rfl (cycle_ok x hs.one hs.four hs.val ‹_›) ?_)))))
         refine sg rfl (ln (qc (rt (kq_retP rfl rfl (congrArg Value.bool ?_)))))
         rw [sat_9 ‹_› ‹_› ‹_› ‹_› ‹_› ‹_› ‹_› ‹_›, cyc_eq hs.four hs.val hs.one]
theorem holds_ok {Hcv : Hp} {vcv : Value} {Hca : Hp} {vca : Value} {Hcr : Hp} {vcr : Value} {Hx : Hp} {vx : Value} (c : Con) (x : List Int) (hC : ConOk c x.length) (hX : Vals x) (hcv : Ints Hcv vcv c.vars) (hca : Ints Hca vca c.args) (hcr : Rows Hcr vcr c.rows) (hx : Ints Hx vx x) : SpecP Tryz.prog 139 [.agg #[.int .i64 c.kind, vcv, vca, .int .i64 c.bound, vcr], vx] [Hcv, Hca, Hcr, Hx] (.bool (conAt x c)) := by
 refine spec_of Tryz.func139 rfl rfl rfl (fun B => ?_)
 refine cS (cr (kl_box rfl rfl (fun p1 H2 f3 a4 => ?_)))
 refine sg rfl (ln (qc (cS (kc_draw 6 [true, true, true, false, false, true] (by kernel_rfl) (by kernel_rfl) ?_))))
 refine kl_ldS rfl ‹_› rfl ?_
 refine kl_ldS rfl ‹_› rfl ?_
 refine mv rfl (kl_call rfl rfl (word_ok c x hC.vars (by have := hC.one; omega) ‹_› ‹_› ‹_› ‹_›) (fun v5 H6 f7 h8 => ?_))
 refine cP rfl rfl (satisfied_ok c (wordL c.vars x) (hC.sat rfl hX) ‹_› ‹_› ‹_› ‹_›) ?_
 refine sg rfl (ln (qc (rt (kq_retP rfl rfl (congrArg Value.bool ?_)))))
 rfl
end
section
/-- A loop, its invariant a word on the frame and the world. -/
theorem loopS {A : Type} {P : Program} {R : Option Nat} {Q : Post} {body : Code} (J : A → Prop) (mu : A → Nat) (S : A → Act → World → Prop)
    (round : ∀ x, J x → ∀ a w, S x a w → body.wpIn (FW R) 0 P (Exit.then (fun a w => ∃ x', mu x' < mu x ∧ J x' ∧ S x' a w) Q) a w) : ∀ x a w, J x → S x a w → (Code.loop body).wpIn (FW R) 0 P Q a w := by
  have key : ∀ m x a w, mu x = m → J x → S x a w → (Code.loop body).wpIn (FW R) 0 P Q a w := by
    intro m x a w _ hJ hS
    refine wpIn_loop (I := fun a w => ∃ x, J x ∧ S x a w)
      (μ := fun a w => Classical.epsilon fun m => (∃ x, mu x = m ∧ J x ∧ S x a w) ∧ ∀ x, J x → S x a w → m ≤ mu x) ⟨x, hJ, hS⟩ ?_
    intro a w hI
    have hmin : ∃ m, (∃ x, mu x = m ∧ J x ∧ S x a w) ∧ ∀ x, J x → S x a w → m ≤ mu x := by
      have aux : ∀ k, (∃ x, mu x = k ∧ J x ∧ S x a w) → ∃ m, (∃ x, mu x = m ∧ J x ∧ S x a w) ∧ ∀ x, J x → S x a w → m ≤ mu x := by
        intro k
        induction k using Nat.strongRecOn with
        | _ k ih =>
          intro hk
          by_cases hlow : ∃ x, mu x < k ∧ J x ∧ S x a w
          · obtain ⟨x, h1, h2⟩ := hlow
            exact ih (mu x) h1 ⟨x, rfl, h2⟩
          · exact ⟨k, hk, fun x h1 h2 => Nat.le_of_not_lt fun h4 => hlow ⟨x, h4, h1, h2⟩⟩
      obtain ⟨x, hx⟩ := hI
      exact aux (mu x) ⟨x, rfl, hx⟩
    obtain ⟨⟨x, hm, hJ, hS⟩, hle⟩ := Classical.epsilon_spec hmin
    refine wpIn_mono (round x hJ a w hS) ?_
    intro e a' w' hq
    cases e with
    | normal =>
      obtain ⟨x', hlt, hJ', hS'⟩ := hq
      refine ⟨⟨x', hJ', hS'⟩, ?_⟩
      have hmin' : ∃ m, (∃ x, mu x = m ∧ J x ∧ S x a' w') ∧ ∀ x, J x → S x a' w' → m ≤ mu x := by
        have aux : ∀ k, (∃ x, mu x = k ∧ J x ∧ S x a' w') → ∃ m, (∃ x, mu x = m ∧ J x ∧ S x a' w') ∧ ∀ x, J x → S x a' w' → m ≤ mu x := by
          intro k
          induction k using Nat.strongRecOn with
          | _ k ih =>
            intro hk
            by_cases hlow : ∃ x, mu x < k ∧ J x ∧ S x a' w'
            · obtain ⟨x, h1, h2⟩ := hlow
              exact ih (mu x) h1 ⟨x, rfl, h2⟩
            · exact ⟨k, hk, fun x h1 h2 => Nat.le_of_not_lt fun h4 => hlow ⟨x, h4, h1, h2⟩⟩
        exact aux (mu x') ⟨x', rfl, hJ', hS'⟩
      have h4 := (Classical.epsilon_spec hmin').2 x' hJ' hS'
      exact Nat.lt_of_le_of_lt h4 (hm ▸ hlt)
    | exit id => exact hq
    | goto l => exact hq
    | ret => exact hq
    | panic c => exact hq
    | outgrown => exact hq
  exact fun x a w => key _ x a w rfl
theorem kc_loopX {A : Type} {P : Program} {nt : Nat} {B : World} {df : List Deferred} {R : Option Nat} {Q : Post} {ims L : List Hp} {G : Env} {body : Code} (Xf : A → Side) (J : A → Prop) (mu : A → Nat) (Lf : A → List Hp) (Gf : A → Env) (x0 : A) {Gx : Env}
    (hx : Pick G Gx) (hg : Pick G (Gf x0)) (hl : L = Lf x0) (h0 : J x0)
    (round : ∀ x, J x → KC ⟨P, nt, B, Xf x, false, df, R⟩ (Exit.then (fun a w => ∃ x', mu x' < mu x ∧ J x' ∧ Fit (nt, df) (Gf x' ++ Gx) a ∧ St B (Xf x') ims (Lf x') w) Q) ims (Lf x) body (Gf x ++ Gx)) :
    KC ⟨P, nt, B, Xf x0, false, df, R⟩ Q ims L (.loop body) G := fun a w hf hs => by
  subst hl
  exact loopS J mu (fun x a w => Fit (nt, df) (Gf x ++ Gx) a ∧ St B (Xf x) ims (Lf x) w) (fun x hJ a w ⟨h1, h2⟩ => round x hJ a w h1 h2) x0 a w h0 ⟨(hg.app hx).fit hf, hs⟩
theorem kq_roundX {A : Type} {P : Program} {nt : Nat} {B : World} {X : Side} {df : List Deferred} {R : Option Nat} {ims L : List Hp} {G : Env} {Xf : A → Side} {J : A → Prop} {mu : A → Nat} {Lf : A → List Hp} {Gf : A → Env} {x : A} {Gx : Env} {ims0 L' L0 : List Hp} (x' : A) (hX : X = Xf x')
    (hlt : mu x' < mu x) (hJ : J x') (hg : Pick G (Gf x')) (hx : Pick G Gx) (hl : L0 = Lf x') [i : AllIn ims0 ims] [t : TakeL L0 L L'] :
    KQ ⟨P, nt, B, X, false, df, R⟩ ims L G (fun a w => ∃ x', mu x' < mu x ∧ J x' ∧ Fit (nt, df) (Gf x' ++ Gx) a ∧ St B (Xf x') ims0 (Lf x') w) :=
  fun a w hf hs' => ⟨x', hlt, hJ, (hg.app hx).fit hf, by subst hl hX; exact (hs'.perm t.t).weak (i := i) (List.sublist_append_left _ _)⟩

/-! ### Calls that carry the caller's word -/
/-- The word of the caller, over what is the iterator's elsewhere (Kr) and here (D). -/
def jr (Kr : Hp) (j : (Nat → Prop) → World → Prop) : (Nat → Prop) → World → Prop := fun D w => (∀ b, Kr b ≠ none → b < w.heap.size) ∧ j (fun b => Kr b ≠ none ∨ D b) w
structure JK (j : (Nat → Prop) → World → Prop) : Prop where ok : JOk j
theorem jr_ok {Kr : Hp} {j : (Nat → Prop) → World → Prop} (h : JK j) : JOk (jr Kr j) := fun {D D' w w'} hj hs he hio hd =>
  ⟨fun b hb => Nat.lt_of_lt_of_le (hj.1 b hb) hs, h.ok hj.2 hs (fun b hb hn => he b hb (fun hd => hn (.inr hd))) hio (fun b hb => by
    rcases hb with hb | hb
    · exact ⟨.inl (.inl hb), Nat.lt_of_lt_of_le (hj.1 b hb) hs⟩
    · exact ⟨(hd b hb).1.imp .inr id, (hd b hb).2⟩)⟩
def sj (Kr : Hp) (j : (Nat → Prop) → World → Prop) (h : JK j) : Side := .it (jr Kr j) (jr_ok h)
/-- How such a call ends. -/
def ResJ (w : World) (Kr : Hp) (imsO L0 : List Hp) (phi : Value → List Hp → ((Nat → Prop) → World → Prop) → Prop) : Ending → World → Prop
  | .returned v, w' => w.heap.size ≤ w'.heap.size ∧ Io w w' ∧ Agree Kr w' ∧ (∀ I ∈ imsO, Agree I w') ∧ ∃ L1 j, (∀ H ∈ L1, Agree H w' ∧ Apart H Kr ∧ ∀ I ∈ imsO, Apart H I) ∧ L1.Pairwise Apart ∧
      JK j ∧ j (fun b => Kr b ≠ none ∨ ∃ H ∈ L1, H b ≠ none) w' ∧ phi v L1 j
  | _, _ => False
def SpecJ (P : Program) (f : FuncId) (args : List Value) (Kr : Hp) (imsO L0 : List Hp) (j : (Nat → Prop) → World → Prop) (phi : Value → List Hp → ((Nat → Prop) → World → Prop) → Prop) : Prop :=
  ∀ w, (∀ H ∈ L0, Agree H w ∧ Apart H Kr ∧ ∀ I ∈ imsO, Apart H I) → L0.Pairwise Apart → Agree Kr w → (∀ I ∈ imsO, Agree I w) → j (fun b => Kr b ≠ none ∨ ∃ H ∈ L0, H b ≠ none) w → Calls P f args.toArray w (ResJ w Kr imsO L0 phi)
theorem specJ_of {P : Program} {f : FuncId} {fn : Func} {c : Code} {vs : List Value} {n : Nat} {Kr : Hp} {imsO L0 : List Hp} {j : (Nat → Prop) → World → Prop} {phi : Value → List Hp → ((Nat → Prop) → World → Prop) → Prop} (hj : JK j)
    (hf : P.funcs[f]? = some fn) (hb : fn.body = some c) (hn : fn.ntmps = n) (hle : Nat.ble vs.length n = true)
    (h : ∀ B, KC ⟨P, n, B, sj Kr j hj, false, [], none⟩ (bodyPostM (FW none) 0 P fn (ResJ B Kr imsO L0 phi)) (Kr :: imsO) L0 c (pars 0 vs)) : SpecJ P f vs Kr imsO L0 j phi := fun w hL hp hK hO hjw => by
  refine calls_of_FW (R := none) (n := 0) (callsIn_of_wp_marks hf hb trivial ?_ rfl)
  rw [hn]
  refine h w _ w (fit_pars (Nat.le_of_ble_eq_true hle)) ⟨Nat.le_refl _, fun _ _ _ => rfl, fun I hI => ?_, fun H hH => ⟨(hL H hH).1, fun _ _ => .inr trivial, fun I hI => ?_⟩, hp, Io.refl _, ?_, Nat.zero_le _⟩
  · cases hI with
    | head => exact hK
    | tail _ hI => exact hO I hI
  · cases hI with
    | head => exact (hL H hH).2.1
    | tail _ hI => exact (hL H hH).2.2 I hI
  · refine jr_ok hj ⟨fun b hb => ?_, hjw⟩ (Nat.le_refl _) (fun _ _ _ => rfl) (Io.refl _) (fun b hb => ?_)
    · cases hh : Kr b with
      | none => exact absurd hh hb
      | some o => exact hK.lt hh
    · rcases hb with ⟨H, hH, hb⟩ | ⟨hB, H, hH, hb⟩
      · refine ⟨.inl ⟨H, hH, hb⟩, ?_⟩
        cases hh : H b with
        | none => exact absurd hh hb
        | some o => exact (hL H hH).1.lt hh
      · exfalso
        have hA : Agree H w := by
          cases hH with
          | head => exact hK
          | tail _ hH => exact hO H hH
        cases hh : H b with
        | none => exact hb hh
        | some o => exact absurd (hA.lt hh) (Nat.not_lt.2 hB)
section rets
variable {P : Program} {n : Nat} {B : World} {ims L : List Hp} {G : Env} {fn : Func} {Kr : Hp} {imsO L0 : List Hp} {phi : Value → List Hp → ((Nat → Prop) → World → Prop) → Prop} {j : (Nat → Prop) → World → Prop} {hj : JK j}
/-- L1: what is given back. -/
theorem kq_retJ {v : Value} (hr : ∀ a : Act, Fit (n, []) G a → ∀ w, St B (sj Kr j hj) ims L w → (results fn a.tmps).run P w = .ok v w) (L1 : List Hp) {L' : List Hp} [t : TakeL L1 L L'] [i : AllIn (Kr :: imsO) ims] (hp : phi v L1 j) :
    KQ ⟨P, n, B, sj Kr j hj, false, [], none⟩ ims L G (bodyPostM (FW none) 0 P fn (ResJ B Kr imsO L0 phi) .ret) := fun a w hF hS => by
  show LeavesInM (FW none) 0 P fn a.tmps (ResJ B Kr imsO L0 phi) a.defers .returning w
  rw [show a.defers = [] from hF.defers]
  have h2 := hS.perm t.t
  refine ⟨v, hr a hF w hS, hS.size, hS.io, hS.im Kr (i.all _ (.head _)), fun I hI => hS.im I (i.all _ (.tail _ hI)), L1, j, fun H hH => ?_, (List.pairwise_append.1 h2.nd).1, hj, ?_, hp⟩
  · have ho := h2.own H (List.mem_append_left _ hH)
    exact ⟨ho.1, ho.2.2 Kr (i.all _ (.head _)), fun I hI => ho.2.2 I (i.all _ (.tail _ hI))⟩
  · have hjw : jr Kr j (dm B ims L) w := hS.j
    refine hj.ok hjw.2 (Nat.le_refl _) (fun _ _ _ => rfl) (Io.refl _) (fun b hb => ?_)
    rcases hb with hb | ⟨H, hH, hb⟩
    · exact ⟨.inl (.inl hb), hjw.1 b hb⟩
    · refine ⟨.inl (.inr (.inl ⟨H, t.t.mem_iff.2 (List.mem_append_left _ hH), hb⟩)), ?_⟩
      cases hh : H b with
      | none => exact absurd hh hb
      | some o => exact (h2.own H (List.mem_append_left _ hH)).1.lt hh
theorem kq_retJ1 {t : Nat} {v : Value} (hr : fn.results = #[.tmp t]) (hv : look t G = some v) (L1 : List Hp) {L' : List Hp} [k : TakeL L1 L L'] [i : AllIn (Kr :: imsO) ims] (hp : phi v L1 j) :
    KQ ⟨P, n, B, sj Kr j hj, false, [], none⟩ ims L G (bodyPostM (FW none) 0 P fn (ResJ B Kr imsO L0 phi) .ret) :=
  kq_retJ (fun a hF w _ => by rw [results_tmp hr, (hF.get t v hv).2]) L1 hp
theorem kq_retJ0 (hr : fn.results = #[]) (L1 : List Hp) {L' : List Hp} [k : TakeL L1 L L'] [i : AllIn (Kr :: imsO) ims] (hp : phi (.tuple #[]) L1 j) :
    KQ ⟨P, n, B, sj Kr j hj, false, [], none⟩ ims L G (bodyPostM (FW none) 0 P fn (ResJ B Kr imsO L0 phi) .ret) :=
  kq_retJ (fun a hF w _ => by simp [results, hr]) L1 hp
end rets
/-- Behind such a call, or behind yield: L0 has become L1, the caller's word has turned to j'. -/
theorem St.afterJ {B : World} {Kr : Hp} {j j' : (Nat → Prop) → World → Prop} {hj : JK j} {ims imsO Ks L0 L' L1 : List Hp} {w w' : World} (h : St B (sj Kr j hj) ims (L0 ++ L') w) (hi : ∀ I ∈ Kr :: imsO, I ∈ ims) (hK : ∀ K ∈ Ks, K ∈ ims)
    (hs : w.heap.size ≤ w'.heap.size) (hio : Io w w') (aK : Agree Kr w') (aO : ∀ I ∈ imsO, Agree I w') (aKs : ∀ K ∈ Ks, Agree K w') (aL : ∀ H ∈ L', Agree H w')
    (h1 : ∀ H ∈ L1, Agree H w' ∧ (∀ I ∈ Ks ++ (Kr :: imsO), Apart H I) ∧ ∀ M ∈ L', Apart H M) (hp : L1.Pairwise Apart) (hj' : JK j') (hjw : j' (fun b => Kr b ≠ none ∨ (∃ H ∈ L1, H b ≠ none) ∨ dm B (Ks ++ (Kr :: imsO)) L' b) w') :
    St B (sj Kr j' hj') (Ks ++ (Kr :: imsO)) (L1 ++ L') w' := by
  have himem : ∀ I, I ∈ Ks ++ (Kr :: imsO) → I ∈ ims := fun I hI => (List.mem_append.1 hI).elim (hK I) (hi I)
  have hag : ∀ I, I ∈ Ks ++ (Kr :: imsO) → Agree I w' := fun I hI => by
    rcases List.mem_append.1 hI with hI | hI
    · exact aKs I hI
    · cases hI with
      | head => exact aK
      | tail _ hI => exact aO I hI
  refine ⟨Nat.le_trans h.size hs, fun b _ hx => absurd trivial hx, hag, fun H hH => ?_, ?_, h.io.trans hio, ⟨fun b hb => ?_, ?_⟩, Nat.zero_le _⟩
  · refine ⟨?_, fun _ _ => .inr trivial, fun I hI => ?_⟩
    · rcases List.mem_append.1 hH with hH | hH
      · exact (h1 H hH).1
      · exact aL H hH
    · rcases List.mem_append.1 hH with hH | hH
      · exact (h1 H hH).2.1 I hI
      · exact (h.own H (List.mem_append_right _ hH)).2.2 I (himem I hI)
  · exact List.pairwise_append.2 ⟨hp, (List.pairwise_append.1 h.nd).2.1, fun H hH M hM => (h1 H hH).2.2 M hM⟩
  · cases hh : Kr b with
    | none => exact absurd hh hb
    | some o => exact aK.lt hh
  · refine hj'.ok hjw (Nat.le_refl _) (fun _ _ _ => rfl) (Io.refl _) (fun b hb => ?_)
    rcases hb with hb | hb
    · refine ⟨.inl (.inl hb), ?_⟩
      cases hh : Kr b with
      | none => exact absurd hh hb
      | some o => exact aK.lt hh
    · refine ⟨.inl ?_, dm_lt (B := B) hag (L := L1 ++ L') (fun H hH => ?_) hb⟩
      · rcases hb with ⟨H, hH, hb⟩ | hb
        · rcases List.mem_append.1 hH with hH | hH
          · exact .inr (.inl ⟨H, hH, hb⟩)
          · exact .inr (.inr (.inl ⟨H, hH, hb⟩))
        · exact .inr (.inr (.inr hb))
      · rcases List.mem_append.1 hH with hH | hH
        · exact (h1 H hH).1
        · exact aL H hH
/-- All that is the iterator's, but for L0: as one heaplet. -/
theorem St.restJ {B : World} {Kr : Hp} {j : (Nat → Prop) → World → Prop} {hj : JK j} {ims L0 L' : List Hp} {w : World} (h : St B (sj Kr j hj) ims (L0 ++ L') w) (hi : Kr ∈ ims) :
    ∃ K2 : Hp, (∀ b, K2 b ≠ none ↔ (Kr b ≠ none ∨ dm B ims L' b)) ∧ Agree K2 w ∧ ∀ H ∈ L0, Apart H K2 := by
  have hlt : ∀ b, (Kr b ≠ none ∨ dm B ims L' b) → b < w.heap.size := fun b hb => by
    rcases hb with hb | hb
    · cases hh : Kr b with
      | none => exact absurd hh hb
      | some o => exact (h.im Kr hi).lt hh
    · exact dm_lt (B := B) h.im (fun H hH => (h.own H (List.mem_append_right _ hH)).1) hb
  obtain ⟨K2, h1, h2⟩ := cont_ex (w := w) hlt
  refine ⟨K2, h1, h2, fun H hH b => ?_⟩
  by_cases hb : H b = none
  · exact .inl hb
  · right
    cases hk : K2 b with
    | none => rfl
    | some o =>
      exfalso
      rcases (h1 b).1 (by rw [hk]; simp) with h3 | ⟨M, hM, h3⟩ | ⟨_, I, hI, h3⟩
      · exact h3 (((h.own H (List.mem_append_left _ hH)).2.2 Kr hi b).resolve_left hb)
      · exact h3 (((List.pairwise_append.1 h.nd).2.2 H hH M hM b).resolve_left hb)
      · exact h3 (((h.own H (List.mem_append_left _ hH)).2.2 I hI b).resolve_left hb)
theorem sub_of {H K : Hp} {w : World} (h : Agree H w) (k : Agree K w) (hd : ∀ b, H b ≠ none → K b ≠ none) : ∀ b o, H b = some o → K b = some o := fun b o hb => by
  cases hk : K b with
  | none => exact absurd hk (hd b (by rw [hb]; simp))
  | some x => rw [← agree_cmp h k b o x hb hk]
section calls
variable {P : Program} {nt : Nat} {B : World} {df : List Deferred} {R : Option Nat} {ops : Array Oper} {Q : Post} {ims L : List Hp} {G : Env} {fl : List Bool} {rest : List Oper} {d ty : Nat} {pos : String} {af : Array Edge} {Kr : Hp} {imsO : List Hp} {j : (Nat → Prop) → World → Prop} {hj : JK j}
theorem kl_callJ {f : Operand} {xs : List Operand} {ats : Array Nat} {g : Nat} {cap : Array Value} {vs : List Value} {L0 L' : List Hp} {phi : Value → List Hp → ((Nat → Prop) → World → Prop) → Prop} [hb : FnC P g] (Ks : List Hp)
    (hf : ev G f = some (.func (.func g) #[] cap)) (ha : evs G xs = some vs) (hs : ∀ Kr2, (∀ b o, Kr b = some o → Kr2 b = some o) → (∀ K ∈ Ks, ∀ b o, K b = some o → Kr2 b = some o) → SpecJ P g (vs ++ cap.toList) Kr2 imsO L0 j phi) [hF : TakeL L0 L L'] [hi : AllIn (Kr :: imsO) ims] [hk : AllIn Ks ims] (hfr : ∀ K ∈ Ks, Fr B K)
    (h : ∀ v L1 j' (hj' : JK j'), phi v L1 j' → KL ⟨P, nt, B, sj Kr j' hj', false, df, R⟩ false ops Q (Ks ++ (Kr :: imsO)) (L1 ++ L') fl.tail rest ((d, v) :: G)) (hlt : Nat.blt d nt = true := by rfl) :
    KL ⟨P, nt, B, sj Kr j hj, false, df, R⟩ false ops Q ims L fl (⟨some d, .call ⟨.value f, xs.toArray, ats⟩, ty, pos, af, none⟩ :: rest) G := fun a w hFt hS0 => by
  unfold wpSeq
  rw [if_pos (by simp [Region.wanted])]
  refine .inr ⟨fun e => (by cases e), ?_⟩
  have hrun : (execOp a.eval ⟨some d, .call ⟨.value f, xs.toArray, ats⟩, ty, pos, af, none⟩).run P w = .ok (.enter g (vs ++ cap.toList).toArray) w := by
    have h1 : xs.map a.eval = vs := hFt.evs ha
    simp only [execOp, resolve, hFt.ev hf, Deferred.ofValue, Sem.run_bind, Sem.run_pure, Result.andThen_ok, invoke, List.map_toArray, h1]
    rw [hb.run]
    simp
  unfold Oper.wp
  rw [hrun]
  have hS := hS0.perm hF.t
  obtain ⟨K2, k1, k2, k3⟩ := hS.restJ (hj := hj) (hi.all _ (.head _))
  have hKr := sub_of (hS.im Kr (hi.all _ (.head _))) k2 (fun b hb => (k1 b).2 (.inl hb))
  have hjw : jr Kr j (dm B ims (L0 ++ L')) w := hS.j
  refine (hs K2 hKr (fun K hK => sub_of (hS.im K (hk.all K hK)) k2 (fun b hb => (k1 b).2 (.inr (.inr ⟨(hfr K hK).1 b hb, K, hk.all K hK, hb⟩)))) w (fun H hH => ⟨(hS.own H (List.mem_append_left _ hH)).1, k3 H hH, fun I hI => (hS.own H (List.mem_append_left _ hH)).2.2 I (hi.all _ (.tail _ hI))⟩) (List.pairwise_append.1 hS.nd).1 k2 (fun I hI => hS.im I (hi.all _ (.tail _ hI))) ?_).mono fun e w' he => ?_
  · refine hj.ok hjw.2 (Nat.le_refl _) (fun _ _ _ => rfl) (Io.refl _) (fun b hb => ?_)
    rcases hb with hb | ⟨H, hH, hb⟩
    · have hb' := (k1 b).1 hb
      refine ⟨.inl ?_, ?_⟩
      · rcases hb' with hb' | ⟨H, hH, hb'⟩ | hb'
        · exact .inl hb'
        · exact .inr (.inl ⟨H, List.mem_append_right _ hH, hb'⟩)
        · exact .inr (.inr hb')
      · cases hh : K2 b with
        | none => exact absurd hh hb
        | some o => exact k2.lt hh
    · refine ⟨.inl (.inr (.inl ⟨H, List.mem_append_left _ hH, hb⟩)), ?_⟩
      cases hh : H b with
      | none => exact absurd hh hb
      | some o => exact (hS.own H (List.mem_append_left _ hH)).1.lt hh
  · cases e with
    | returned v =>
      obtain ⟨h1, h2, h3, h4, L1, j', h5, h6, h7, h8, h9⟩ := he
      have hag : ∀ M : Hp, Agree M w → (∀ b, M b ≠ none → K2 b ≠ none) → Agree M w' := fun M hM hd b o hb => h3 b o (sub_of hM k2 hd b o hb)
      have apM : ∀ M : Hp, Agree M w → (∀ b, M b ≠ none → K2 b ≠ none) → ∀ H ∈ L1, Apart H M := fun M _ hd H hH b => by
        rcases (h5 H hH).2.1 b with h | h
        · exact .inl h
        · right
          cases hm : M b with
          | none => rfl
          | some o => exact absurd h (hd b (by rw [hm]; simp))
      have hst : St B (sj Kr j' h7) (Ks ++ (Kr :: imsO)) (L1 ++ L') w' := hS.afterJ (hj := hj) (hj' := h7) (fun I hI => hi.all I hI) (fun K hK => hk.all K hK) h1 h2 (fun b o hb => h3 b o (hKr b o hb)) h4
        (fun K hK => hag K (hS.im K (hk.all K hK)) (fun b hb => (k1 b).2 (.inr (.inr ⟨(hfr K hK).1 b hb, K, hk.all K hK, hb⟩))))
        (fun H hH => hag H (hS.own H (List.mem_append_right _ hH)).1 (fun b hb => (k1 b).2 (.inr (.inl ⟨H, hH, hb⟩))))
        (fun H hH => ⟨(h5 H hH).1, fun I hI => by
          rcases List.mem_append.1 hI with hI | hI
          · exact apM I (hS.im I (hk.all I hI)) (fun b hb => (k1 b).2 (.inr (.inr ⟨(hfr I hI).1 b hb, I, hk.all I hI, hb⟩))) H hH
          · cases hI with
            | head => exact apM Kr (hS.im Kr (hi.all _ (.head _))) (fun b hb => (k1 b).2 (.inl hb)) H hH
            | tail _ hI => exact (h5 H hH).2.2 I hI, fun M hM => apM M (hS.own M (List.mem_append_right _ hM)).1 (fun b hb => (k1 b).2 (.inr (.inl ⟨M, hM, hb⟩))) H hH⟩) h6 (h7.ok h8 (Nat.le_refl _) (fun _ _ _ => rfl) (Io.refl _) (fun b hb => by
          have key : ∀ b, K2 b ≠ none → b < w'.heap.size := fun b hb => by
            cases hh : K2 b with
            | none => exact absurd hh hb
            | some o => exact h3.lt hh
          rcases hb with hb | ⟨H, hH, hb⟩ | hb
          · have := (k1 b).2 (.inl hb); exact ⟨.inl (.inl this), key b this⟩
          · refine ⟨.inl (.inr ⟨H, hH, hb⟩), ?_⟩
            cases hh : H b with
            | none => exact absurd hh hb
            | some o => exact (h5 H hH).1.lt hh
          · have : K2 b ≠ none := by
              refine (k1 b).2 (.inr ?_)
              rcases hb with hb | ⟨hB, I, hI, hb⟩
              · exact .inl hb
              · refine .inr ⟨hB, I, ?_, hb⟩
                rcases List.mem_append.1 hI with hI | hI
                · exact hk.all I hI
                · exact hi.all I hI
            exact ⟨.inl (.inl this), key b this⟩))
      exact ⟨St B (sj Kr j' h7) (Ks ++ (Kr :: imsO)) (L1 ++ L'), .inr ⟨hst, fun e => by cases e⟩, h v L1 j' h7 h9 _ w' (hFt.put (by simpa [Nat.blt_eq, Cx.m] using hlt)) hst⟩
    | panicked c => exact he
    | outgrown => exact he.elim
end calls
/-! ### Yield -/
/-- What is left of a region, seen from where rounds begin. -/
def KI (C : Cx) (ops : Array Oper) (Q : Post) (ims L : List Hp) (l : List Oper) (G : Env) : Prop := ∀ a w, Fit C.m G a → St C.B C.X ims L w → wpListIn (FW C.R) 0 C.P ops Q l a w
section ki
variable {C : Cx} {Q : Post} {ops : Array Oper} {ims L : List Hp} {G : Env} {rest : List Oper} {d ty : Nat} {pos : String} {af : Array Edge}
theorem kc_regI {id : Nat} {l : List Oper} (h : KI C l.toArray Q ims L l G) : KC C Q ims L (.region id l.toArray false) G := fun a w hf hs => wpIn_region_lit (h a w hf hs)
theorem ki_nil (h : KQ C ims L G (Q .normal)) : KI C ops Q ims L [] G := fun a w hf hs => h a w hf hs
theorem ki_y {op : Op} {v : Value} (hd : ∀ c, op ≠ .defer c) (hr : ∀ (r : Operand → Value) w, Ev G r → St C.B C.X ims L w → (execOp r ⟨some d, op, ty, pos, af, none⟩).run C.P w = .ok (.value v) w) (h : KI C ops Q ims L rest ((d, v) :: G)) (hlt : Nat.blt d C.n = true) :
    KI C ops Q ims L (⟨some d, op, ty, pos, af, none⟩ :: rest) G := fun a w hf hs => by
  unfold wpListIn
  rw [if_pos (by simp [Region.wanted])]
  refine opIn_of hd ?_
  unfold Oper.wp
  rw [hr a.eval w hf.toEv hs]
  exact h _ w (hf.put (by simpa [Nat.blt_eq, Cx.m] using hlt)) hs
theorem ki_as {x : Operand} {v : Value} (hx : ev G x = some v) (h : KI C ops Q ims L rest ((d, v) :: G)) (hlt : Nat.blt d C.n = true := by rfl) : KI C ops Q ims L (⟨some d, .assign x, ty, pos, af, none⟩ :: rest) G :=
  ki_y (fun _ e => by cases e) (fun r w hr _ => by simp [go_sem, hr _ _ hx]) h hlt
theorem ki_ld {H : Hp} {p v : Value} {vs : List Value} {x : Operand} {T : Nat} [hT : OneC C.P T] [hi : In H ims] (hx : ev G x = some p) (hp : At H p (v :: vs)) (h : KI C ops Q ims L rest ((d, v) :: G)) (hlt : Nat.blt d C.n = true := by rfl) :
    KI C ops Q ims L (⟨some d, .load T x, ty, pos, af, none⟩ :: rest) G :=
  ki_y (fun _ e => by cases e) (fun r w hr hs => by
    have hat := hp
    obtain ⟨b, o, cs, T', fz, rfl, _⟩ := hp
    have hc : w.cell? ⟨b, o, none⟩ = some v := cell_at (hs.im H hi.mem) hat (j := 0) (u := v) rfl
    simp [go_sem, hr _ _ hx, Instr.loadAt, loadVar, OneC.run, hc]) h hlt
theorem ki_ldB {x : Operand} {T b j E : Nat} {u : Value} {cs : List Value} {F : List Value → List Hp} [hT : OneC C.P T] [hF : BoxF b cs E L F] (hx : ev G x = some (.pointer (some ⟨b, j, none⟩))) (hc : cs[j]? = some u)
    (h : KI C ops Q ims L rest ((d, u) :: G)) (hlt : Nat.blt d C.n = true := by rfl) : KI C ops Q ims L (⟨some d, .load T x, ty, pos, af, none⟩ :: rest) G :=
  ki_y (fun _ e => by cases e) (fun r w hr hs => by
    have hA := (hs.own _ (hF.u cs).mem).1 b _ (sing_self _ _)
    have hcell : w.cell? ⟨b, j, none⟩ = some u := by simp [World.cell?, hA, hc]
    simp [go_sem, hr _ _ hx, Instr.loadAt, loadVar, OneC.run, hcell]) h hlt
end ki
theorem ki_yield {P : Program} {nt : Nat} {B : World} {df : List Deferred} {Q : Post} {ops : Array Oper} {ims imsO L : List Hp} {G : Env} {rest : List Oper} {d ty l n : Nat} {pos : String} {af : Array Edge} {Kr Hx : Hp} {xs : List (List Int)}
    {J : Nat → (Nat → Prop) → World → Prop} {Jx : (Nat → Prop) → World → Prop} {hJ : ∀ n, JK (J n)} (hJx : JK Jx) {f x : Operand} {ats : Array Nat} {v : Value} (hR : Rounds P l imsO xs J Jx)
    (hf : ev G f = some (.func (.yield l) #[] #[])) (hx : ev G x = some v) (hn : n < xs.length) [hi : AllIn (Kr :: imsO) ims] [hL : In Hx L] (hv : Ints Hx v (xs.getD n []))
    (h1 : KI ⟨P, nt, B, sj Kr (J (n + 1)) (hJ _), false, df, none⟩ ops Q (Kr :: imsO) L rest ((d, .bool true) :: G)) (h2 : KI ⟨P, nt, B, sj Kr Jx hJx, false, df, none⟩ ops Q (Kr :: imsO) L rest ((d, .bool false) :: G)) (hlt : Nat.blt d nt = true := by rfl) :
    KI ⟨P, nt, B, sj Kr (J n) (hJ n), false, df, none⟩ ops Q ims L (⟨some d, .call ⟨.value f, #[x], ats⟩, ty, pos, af, none⟩ :: rest) G := fun a w hF hS => by
  unfold wpListIn
  rw [if_pos (by simp [Region.wanted])]
  obtain ⟨K2, k1, k2, _⟩ := St.restJ (hj := hJ n) (L0 := []) (L' := L) hS (hi.all _ (.head _))
  have hjw : jr Kr (J n) (dm B ims L) w := hS.j
  have hsub : ∀ M ∈ L, ∀ b o, M b = some o → K2 b = some o := fun M hM => sub_of (hS.own M hM).1 k2 (fun b hb => (k1 b).2 (.inr (.inl ⟨M, hM, hb⟩)))
  have hKr := sub_of (hS.im Kr (hi.all _ (.head _))) k2 (fun b hb => (k1 b).2 (.inl hb))
  obtain ⟨fn, tmps, assign, body, hy, hround⟩ := hR n hn _ w K2 v hjw.2 k1 k2 (hv.mono (hsub Hx hL.mem) (fun _ _ h => h))
  refine ⟨fun _ _ => trivial, ?_⟩
  rw [Oper.semAt_eq _ _ _ (fun _ e => by cases e)]
  have hrun : (execOp a.eval ⟨some d, .call ⟨.value f, #[x], ats⟩, ty, pos, af, none⟩).run P w = .ok (.round l fn tmps assign body) w := by
    simp only [execOp, resolve, hF.ev hf, Deferred.ofValue, Sem.run_bind, Sem.run_pure, Result.andThen_ok, invoke]
    simpa [hF.ev hx] using hy
  rw [hrun]
  refine ⟨fun e => (by cases e), hround.mono fun e W' he => ?_⟩
  obtain ⟨g1, g2, g3, g4, g5⟩ := he
  have fin : ∀ (j' : (Nat → Prop) → World → Prop) (hj' : JK j'), j' (fun b => Kr b ≠ none ∨ dm B ims L b) W' → St B (sj Kr j' hj') (Kr :: imsO) L W' := fun j' hj' hw => by
    have := St.afterJ (hj := hJ n) (L0 := []) (L' := L) (L1 := []) (Ks := []) (hj' := hj') (imsO := imsO) hS (fun I hI => hi.all I hI) (fun _ h => by cases h) g1 g2 (fun b o hb => g3 b o (hKr b o hb)) g4 (fun _ h => by cases h)
      (fun H hH b o hb => g3 b o (hsub H hH b o hb)) (fun _ h => by cases h) List.Pairwise.nil (hj'.ok hw (Nat.le_refl _) (fun _ _ _ => rfl) (Io.refl _) (fun b hb => by
        have hb2 : K2 b ≠ none := by
          refine (k1 b).2 ?_
          rcases hb with hb | ⟨_, h, _⟩ | hb
          · exact .inl hb
          · cases h
          · rcases hb with hb | ⟨hB, I, hI, hb⟩
            · exact .inr (.inl hb)
            · exact .inr (.inr ⟨hB, I, hi.all I hI, hb⟩)
        refine ⟨.inl ((k1 b).1 hb2), ?_⟩
        cases hh : K2 b with
        | none => exact absurd hh hb2
        | some o => exact g3.lt hh))
    simpa using this
  rcases g5 with ⟨rfl, g5⟩ | ⟨rfl, g5⟩
  · exact h1 _ W' (hF.put (by simpa [Nat.blt_eq, Cx.m] using hlt)) (fin _ (hJ _) g5)
  · exact h2 _ W' (hF.put (by simpa [Nat.blt_eq, Cx.m] using hlt)) (fin _ hJx g5)
theorem sj_eq {Kr : Hp} {J : Nat → (Nat → Prop) → World → Prop} {hJ : ∀ n, JK (J n)} {a b : Nat} (h : a = b) : sj Kr (J a) (hJ a) = sj Kr (J b) (hJ b) := by subst h; rfl
/-! ### All tuples, in order -/
def tupL : List Int → List (List Int)
  | [] => [[]]
  | d :: ds => (valsI d).flatMap (fun v => (tupL ds).map (fun r => v :: r))
theorem flat_len {A B : Type} (f : A → List B) (m : Nat) : ∀ xs : List A, (∀ x ∈ xs, (f x).length = m) → (xs.flatMap f).length = m * xs.length
  | [], _ => by simp
  | x :: xs, h => by
    rw [List.flatMap_cons, List.length_append, h x (.head _), flat_len f m xs (fun y hy => h y (.tail _ hy)), List.length_cons, Nat.mul_succ]; omega
theorem flat_at {A B : Type} (f : A → List B) (m : Nat) (da : A) (db : B) : ∀ (xs : List A) (k i : Nat), (∀ x ∈ xs, (f x).length = m) → k < xs.length → i < m → (xs.flatMap f).getD (m * k + i) db = (f (xs.getD k da)).getD i db
  | [], k, i, _, h, _ => absurd h (Nat.not_lt_zero k)
  | x :: xs, k, i, h, hk, hi => by
    have hx := h x (.head _)
    cases k with
    | zero =>
      rw [List.flatMap_cons]
      simp only [Nat.mul_zero, Nat.zero_add, List.getD_cons_zero]
      rw [List.getD_eq_getElem?_getD, List.getElem?_append_left (by omega), ← List.getD_eq_getElem?_getD]
    | succ k =>
      rw [List.flatMap_cons, List.getD_cons_succ, ← flat_at f m da db xs k i (fun y hy => h y (.tail _ hy)) (by simpa using hk) hi]
      rw [List.getD_eq_getElem?_getD, List.getElem?_append_right (by rw [hx, Nat.mul_succ]; omega), ← List.getD_eq_getElem?_getD]
      congr 1
      rw [hx, Nat.mul_succ]; omega
theorem tup_len (d : Int) (ds : List Int) : (tupL (d :: ds)).length = (tupL ds).length * (valsI d).length := by
  rw [tupL]; exact flat_len _ _ _ (fun _ _ => by simp)
theorem tup_at (d : Int) (ds : List Int) {k i : Nat} (hk : k < (valsI d).length) (hi : i < (tupL ds).length) : (tupL (d :: ds)).getD ((tupL ds).length * k + i) [] = (valsI d).getD k 0 :: (tupL ds).getD i [] := by
  rw [tupL, flat_at _ (tupL ds).length 0 [] _ k i (fun _ _ => by simp) hk hi]
  simp [List.getD_eq_getElem?_getD, hi]
end
section
/-! ### Masks -/
def maskP (p : Int → Bool) : Int := (((p 0).toNat + 2 * (p 1).toNat + 4 * (p 2).toNat + 8 * (p 3).toNat + 16 * (p 4).toNat + 32 * (p 5).toNat : Nat) : Int)
theorem val_cases {v : Int} (h : 0 ≤ v ∧ v ≤ 5) : v = 0 ∨ v = 1 ∨ v = 2 ∨ v = 3 ∨ v = 4 ∨ v = 5 := by omega
theorem maskP_in (p : Int → Bool) : 0 ≤ maskP p ∧ maskP p ≤ 63 := by
  unfold maskP
  have h : ∀ b : Bool, b.toNat ≤ 1 := fun b => by cases b <;> simp
  have := h (p 0); have := h (p 1); have := h (p 2); have := h (p 3); have := h (p 4); have := h (p 5)
  omega
theorem maskP_has {p : Int → Bool} {v : Int} (h : 0 ≤ v ∧ v ≤ 5) : hasB (maskP p) v = p v := by
  have key : ∀ b0 b1 b2 b3 b4 b5 : Bool, let n : Int := ((b0.toNat + 2 * b1.toNat + 4 * b2.toNat + 8 * b3.toNat + 16 * b4.toNat + 32 * b5.toNat : Nat) : Int); hasB n 0 = b0 ∧ hasB n 1 = b1 ∧ hasB n 2 = b2 ∧ hasB n 3 = b3 ∧ hasB n 4 = b4 ∧ hasB n 5 = b5 := by decide +kernel
  obtain ⟨h0, h1, h2, h3, h4, h5⟩ := key (p 0) (p 1) (p 2) (p 3) (p 4) (p 5)
  unfold maskP
  rcases val_cases h with rfl | rfl | rfl | rfl | rfl | rfl <;> assumption
theorem maskP_congr {p q : Int → Bool} (h : ∀ v, 0 ≤ v ∧ v ≤ 5 → p v = q v) : maskP p = maskP q := by
  unfold maskP; rw [h 0 (by omega), h 1 (by omega), h 2 (by omega), h 3 (by omega), h 4 (by omega), h 5 (by omega)]
theorem dom_mask {d : Int} (h : 0 ≤ d ∧ d ≤ 63) : maskP (hasB d) = d :=
  fin_nat (n := 64) (p := fun d => maskP (hasB d) = d) (by decide +kernel) h.1 (by omega)
theorem dom_ext {d e : Int} (hd : 0 ≤ d ∧ d ≤ 63) (he : 0 ≤ e ∧ e ≤ 63) (h : ∀ v, 0 ≤ v ∧ v ≤ 5 → hasB d v = hasB e v) : d = e := by
  rw [← dom_mask hd, ← dom_mask he]; exact maskP_congr h
theorem ior_has {d : Int} (hd : 0 ≤ d ∧ d ≤ 63) {v : Int} (hv : 0 ≤ v ∧ v ≤ 5) : ior d (ishl 1 v) = maskP (fun u => hasB d u || decide (u = v)) := by
  have key : ∀ i, i < 64 → ∀ j, j < 6 → ior ((i : Nat) : Int) (ishl 1 ((j : Nat) : Int)) = maskP (fun u => hasB ((i : Nat) : Int) u || decide (u = ((j : Nat) : Int))) := by decide +kernel
  exact fin_nat (n := 64) (p := fun d => ior d (ishl 1 v) = maskP (fun u => hasB d u || decide (u = v))) (fun i hi => fin_nat (n := 6) (p := fun v => ior ((i : Nat) : Int) (ishl 1 v) = maskP (fun u => hasB ((i : Nat) : Int) u || decide (u = v))) (fun j hj => key i hi j hj) hv.1 (by omega)) hd.1 (by omega)
theorem add_has {d : Int} (hd : 0 ≤ d ∧ d ≤ 63) {v : Int} (hv : 0 ≤ v ∧ v ≤ 5) (h : hasB d v = false) : d + ishl 1 v = maskP (fun u => hasB d u || decide (u = v)) := by
  have key : ∀ i, i < 64 → ∀ j, j < 6 → hasB ((i : Nat) : Int) ((j : Nat) : Int) = false → ((i : Nat) : Int) + (ishl 1 ((j : Nat) : Int)) = maskP (fun u => hasB ((i : Nat) : Int) u || decide (u = ((j : Nat) : Int))) := by decide +kernel
  exact fin_nat (n := 64) (p := fun d => hasB d v = false → d + (ishl 1 v) = maskP (fun u => hasB d u || decide (u = v))) (fun i hi => fin_nat (n := 6) (p := fun v => hasB ((i : Nat) : Int) v = false → ((i : Nat) : Int) + (ishl 1 v) = maskP (fun u => hasB ((i : Nat) : Int) u || decide (u = v))) (fun j hj => key i hi j hj) hv.1 (by omega)) hd.1 (by omega) h
theorem sub_le {d e : Int} (hd : 0 ≤ d ∧ d ≤ 63) (he : 0 ≤ e ∧ e ≤ 63) (h : ∀ v, 0 ≤ v ∧ v ≤ 5 → hasB e v = true → hasB d v = true) : e ≤ d := by
  rw [← dom_mask hd, ← dom_mask he]
  unfold maskP
  have k : ∀ v, 0 ≤ v ∧ v ≤ 5 → (hasB e v).toNat ≤ (hasB d v).toNat := fun v hv => by
    have := h v hv
    cases h1 : hasB e v with
    | false => simp
    | true => rw [this h1]; simp
  have := k 0 (by omega); have := k 1 (by omega); have := k 2 (by omega); have := k 3 (by omega); have := k 4 (by omega); have := k 5 (by omega)
  omega
theorem mem_valsI {d v : Int} : v ∈ valsI d ↔ (0 ≤ v ∧ v ≤ 5) ∧ hasB d v = true := by
  simp only [valsI, membersTo, natsI, List.mem_map, List.mem_filter, List.mem_range]
  constructor
  · rintro ⟨i, ⟨h1, h2⟩, rfl⟩; exact ⟨by omega, h2⟩
  · rintro ⟨h1, h2⟩
    obtain ⟨i, rfl⟩ := Int.eq_ofNat_of_zero_le h1.1
    exact ⟨i, ⟨by omega, h2⟩, rfl⟩
theorem valsI_sub {d e : Int} (h : ∀ v, 0 ≤ v ∧ v ≤ 5 → hasB e v = true → hasB d v = true) : valsI e = (valsI d).filter (fun v => hasB e v) := by
  simp only [valsI, membersTo, natsI, List.filter_map, List.filter_filter]
  congr 1
  refine List.filter_congr fun i hi => ?_
  have := h (i : Int) (by have := List.mem_range.1 hi; omega)
  simp only [Function.comp]
  cases h1 : hasB e (i : Int) with
  | false => simp
  | true => rw [this h1]; rfl
theorem valsI_0 : valsI 0 = [] := by decide +kernel
theorem valsI_ne {d : Int} (hd : 0 ≤ d ∧ d ≤ 63) (h : d ≠ 0) : valsI d ≠ [] := by
  have key : ∀ i, i < 64 → i ≠ 0 → valsI ((i : Nat) : Int) ≠ [] := by decide +kernel
  exact fin_nat (n := 64) (p := fun d => d ≠ 0 → valsI d ≠ []) (fun i hi h0 => key i hi (fun e => h0 (by rw [e]; rfl))) hd.1 (by omega) h
theorem valsI_one {v : Int} (h : 0 ≤ v ∧ v ≤ 5) : valsI (ishl 1 v) = [v] :=
  fin_nat (n := 6) (p := fun v => valsI (ishl 1 v) = [v]) (by decide +kernel) h.1 (by omega)
theorem shl_lt {d v : Int} (hd : 0 ≤ d ∧ d ≤ 63) (hm : v ∈ valsI d) (hl : (valsI d).length ≠ 1) : ishl 1 v < d := by
  have key : ∀ i, i < 64 → ∀ j, j < 6 → ((j : Nat) : Int) ∈ valsI ((i : Nat) : Int) → (valsI ((i : Nat) : Int)).length ≠ 1 → ishl 1 ((j : Nat) : Int) < ((i : Nat) : Int) := by decide +kernel
  have hv := valsI_mem hm
  exact fin_nat (n := 64) (p := fun d => v ∈ valsI d → (valsI d).length ≠ 1 → ishl 1 v < d) (fun i hi => fin_nat (n := 6) (p := fun v => v ∈ valsI ((i : Nat) : Int) → (valsI ((i : Nat) : Int)).length ≠ 1 → ishl 1 v < ((i : Nat) : Int)) (fun j hj => key i hi j hj) hv.1 (by omega)) hd.1 (by omega) hm hl
/-! ### Boxes -/
def DomV (ds : List Int) : Prop := ∀ d ∈ ds, (0 : Int) ≤ d ∧ d ≤ 63
theorem DomV.at {ds : List Int} (h : DomV ds) {i : Nat} (hi : i < ds.length) : (0 : Int) ≤ ds.getD i 0 ∧ ds.getD i 0 ≤ 63 := h _ (getD_mem hi)
def Box (ds x : List Int) : Prop := x.length = ds.length ∧ ∀ i, i < ds.length → x.getD i 0 ∈ valsI (ds.getD i 0)
theorem box_cons {d : Int} {ds x : List Int} : Box (d :: ds) x ↔ ∃ v y, x = v :: y ∧ v ∈ valsI d ∧ Box ds y := by
  constructor
  · rintro ⟨hl, h⟩
    cases x with
    | nil => simp at hl
    | cons v y =>
      refine ⟨v, y, rfl, by simpa using h 0 (by simp), by simpa using hl, fun i hi => ?_⟩
      simpa using h (i + 1) (by simpa using hi)
  · rintro ⟨v, y, rfl, hv, hl, h⟩
    refine ⟨by simpa using hl, fun i hi => ?_⟩
    cases i with
    | zero => simpa using hv
    | succ i => simpa using h i (by simpa using hi)
theorem mem_tupL {ds : List Int} : ∀ {x : List Int}, x ∈ tupL ds ↔ Box ds x := by
  induction ds with
  | nil => intro x; simp [tupL, Box]
  | cons d ds ih =>
    intro x
    rw [box_cons]
    simp only [tupL, List.mem_flatMap, List.mem_map]
    constructor
    · rintro ⟨v, hv, y, hy, rfl⟩; exact ⟨v, y, rfl, hv, ih.1 hy⟩
    · rintro ⟨v, y, rfl, hv, hy⟩; exact ⟨v, hv, y, ih.2 hy, rfl⟩
theorem Box.vals {ds x : List Int} (h : Box ds x) : Vals x := fun v hv => by
  obtain ⟨i, hi, rfl⟩ := List.getElem_of_mem hv
  have := h.2 i (by rw [← h.1]; exact hi)
  rw [show x[i] = x.getD i 0 from by simp [List.getD, hi]]
  exact valsI_mem this
def boxB : List Int → List Int → Bool
  | [], [] => true
  | d :: ds, v :: x => hasB d v && boxB ds x
  | _, _ => false
theorem boxB_iff {ds : List Int} : ∀ {x : List Int}, Vals x → (boxB ds x = true ↔ Box ds x) := by
  induction ds with
  | nil => intro x _; cases x <;> simp [boxB, Box]
  | cons d ds ih =>
    intro x hx
    rw [box_cons]
    cases x with
    | nil => simp [boxB]
    | cons v y =>
      simp only [boxB, Bool.and_eq_true, List.cons.injEq]
      have hy : Vals y := fun u hu => hx u (.tail _ hu)
      constructor
      · rintro ⟨h1, h2⟩; exact ⟨v, y, ⟨rfl, rfl⟩, mem_valsI.2 ⟨hx v (.head _), h1⟩, (ih hy).1 h2⟩
      · rintro ⟨v', y', ⟨rfl, rfl⟩, h1, h2⟩; exact ⟨(mem_valsI.1 h1).2, (ih hy).2 h2⟩
/-- es lies in ds. -/
def SubD (es ds : List Int) : Prop := es.length = ds.length ∧ ∀ i, i < ds.length → ∀ v, 0 ≤ v ∧ v ≤ 5 → hasB (es.getD i 0) v = true → hasB (ds.getD i 0) v = true
theorem SubD.refl (ds : List Int) : SubD ds ds := ⟨rfl, fun _ _ _ _ h => h⟩
theorem SubD.trans {a b c : List Int} (h : SubD a b) (k : SubD b c) : SubD a c := ⟨h.1.trans k.1, fun i hi v hv hh => k.2 i hi v hv (h.2 i (by rw [k.1]; exact hi) v hv hh)⟩
theorem flat_filter {A B : Type} {f g : A → List B} {p : B → Bool} {q : A → Bool} : ∀ {xs : List A}, (∀ x ∈ xs, (f x).filter p = if q x = true then g x else []) → (xs.flatMap f).filter p = (xs.filter q).flatMap g
  | [], _ => rfl
  | x :: xs, h => by
    rw [List.flatMap_cons, List.filter_append, flat_filter (fun y hy => h y (.tail _ hy)), h x (.head _)]
    cases hq : q x with
    | true => rw [List.filter_cons, if_pos hq, List.flatMap_cons]; rfl
    | false => rw [List.filter_cons, hq]; rfl
theorem tupL_sub {ds : List Int} : ∀ {es : List Int}, SubD es ds → tupL es = (tupL ds).filter (boxB es) := by
  induction ds with
  | nil => intro es h; cases es with | nil => rfl | cons e es => simp [SubD] at h
  | cons d ds ih =>
    intro es h
    cases es with
    | nil => simp [SubD] at h
    | cons e es =>
      have h1 : SubD es ds := ⟨by simpa using h.1, fun i hi v hv hh => by simpa using h.2 (i + 1) (by simpa using hi) v hv (by simpa using hh)⟩
      have h0 := valsI_sub (d := d) (e := e) (fun v hv hh => by simpa using h.2 0 (by simp) v hv (by simpa using hh))
      simp only [tupL]
      rw [flat_filter (q := fun v => hasB e v) (g := fun v => (tupL es).map (fun r => v :: r)) (fun v hv => ?_), ← h0]
      rw [List.filter_map]
      have hc : (boxB (e :: es) ∘ fun r => v :: r) = fun r => hasB e v && boxB es r := rfl
      rw [hc]
      cases hh : hasB e v with
      | true => simp only [Bool.true_and, if_true]; rw [ih h1]
      | false => simp
/-! ### One constraint -/
def supp (c : Con) (T : List (List Int)) (j : Nat) : Int := maskP (fun v => T.any (fun t => satB c t && decide (v = t.getD j 0)))
def suppV (c : Con) (T : List (List Int)) : List Int := (List.range c.vars.length).map (supp c T)
theorem suppV_len (c : Con) (T : List (List Int)) : (suppV c T).length = c.vars.length := by simp [suppV]
theorem suppV_at {c : Con} {T : List (List Int)} {j : Nat} (h : j < c.vars.length) : (suppV c T).getD j 0 = supp c T j := by simp [suppV, List.getD, h]
theorem supp_has {c : Con} {T : List (List Int)} {j : Nat} {v : Int} (h : 0 ≤ v ∧ v ≤ 5) : hasB (supp c T j) v = true ↔ ∃ t ∈ T, satB c t = true ∧ v = t.getD j 0 := by
  unfold supp
  rw [maskP_has h, List.any_eq_true]
  simp only [Bool.and_eq_true, decide_eq_true_eq]
theorem supp_no {c : Con} {T : List (List Int)} {t : List Int} (h : satB c t = false) (j : Nat) : supp c (T ++ [t]) j = supp c T j := by
  unfold supp; refine maskP_congr fun v _ => ?_
  rw [List.any_append]; simp [h]
theorem suppV_no {c : Con} {T : List (List Int)} {t : List Int} (h : satB c t = false) : suppV c (T ++ [t]) = suppV c T := by
  unfold suppV; exact List.map_congr_left fun j _ => supp_no h j
theorem supp_yes {c : Con} {T : List (List Int)} {t : List Int} (h : satB c t = true) {j : Nat} (hv : 0 ≤ t.getD j 0 ∧ t.getD j 0 ≤ 5) : supp c (T ++ [t]) j = maskP (fun u => hasB (supp c T j) u || decide (u = t.getD j 0)) := by
  refine maskP_congr fun v hv => ?_
  unfold supp
  rw [maskP_has hv, List.any_append]; simp [h]
theorem supp_or {c : Con} {T : List (List Int)} {t : List Int} (h : satB c t = true) {j : Nat} (hv : 0 ≤ t.getD j 0 ∧ t.getD j 0 ≤ 5) : ior (supp c T j) (ishl 1 (t.getD j 0)) = supp c (T ++ [t]) j := by
  rw [supp_yes h hv]; exact ior_has (maskP_in _) hv
theorem supp_addF {c : Con} {T : List (List Int)} {t : List Int} (h : satB c t = true) {j : Nat} (hv : 0 ≤ t.getD j 0 ∧ t.getD j 0 ≤ 5) (hh : hasB (supp c T j) (t.getD j 0) = false) : supp c T j + ishl 1 (t.getD j 0) = supp c (T ++ [t]) j := by
  rw [supp_yes h hv]; exact add_has (maskP_in _) hv hh
theorem supp_addT {c : Con} {T : List (List Int)} {t : List Int} (h : satB c t = true) {j : Nat} (hv : 0 ≤ t.getD j 0 ∧ t.getD j 0 ≤ 5) (hh : hasB (supp c T j) (t.getD j 0) = true) : supp c T j = supp c (T ++ [t]) j := by
  rw [supp_yes h hv]
  refine dom_ext (maskP_in _) (maskP_in _) fun v hv' => ?_
  rw [maskP_has (p := fun u => hasB (supp c T j) u || decide (u = t.getD j 0)) hv']
  by_cases e : v = t.getD j 0
  · rw [e, hh]; rfl
  · rw [decide_eq_false e, Bool.or_false]
/-- Between two tuples: the first j positions have the new one. -/
def suppM (c : Con) (T : List (List Int)) (t : List Int) (j : Nat) : List Int := (List.range c.vars.length).map (fun i => if i < j then supp c (T ++ [t]) i else supp c T i)
theorem suppM_0 (c : Con) (T : List (List Int)) (t : List Int) : suppM c T t 0 = suppV c T := by simp [suppM, suppV]
theorem suppM_len (c : Con) (T : List (List Int)) (t : List Int) (j : Nat) : (suppM c T t j).length = c.vars.length := by simp [suppM]
theorem suppM_all (c : Con) (T : List (List Int)) (t : List Int) {j : Nat} (h : c.vars.length ≤ j) : suppM c T t j = suppV c (T ++ [t]) := by
  unfold suppM suppV
  refine List.map_congr_left fun i hi => ?_
  rw [if_pos (by have := List.mem_range.1 hi; omega)]
theorem suppM_at {c : Con} {T : List (List Int)} {t : List Int} {j : Nat} (h : j < c.vars.length) : (suppM c T t j).getD j 0 = supp c T j := by simp [suppM, List.getD, h]
theorem suppM_set {c : Con} {T : List (List Int)} {t : List Int} {j : Nat} (h : j < c.vars.length) {y : Int} (e : y = supp c (T ++ [t]) j) : (suppM c T t j).set j y = suppM c T t (j + 1) := by
  subst e
  refine List.ext_getElem (by simp [suppM]) fun i h1 h2 => ?_
  simp only [suppM, List.getElem_set, List.getElem_map, List.getElem_range]
  by_cases e : j = i
  · subst e; simp
  · rw [if_neg e]
    by_cases h3 : i < j
    · rw [if_pos h3, if_pos (by omega)]
    · rw [if_neg h3, if_neg (by omega)]
theorem suppM_same {c : Con} {T : List (List Int)} {t : List Int} {j : Nat} (h : j < c.vars.length) (e : supp c T j = supp c (T ++ [t]) j) : suppM c T t j = suppM c T t (j + 1) := by
  rw [← suppM_set h rfl, ← e]
  refine List.ext_getElem (by simp) fun i h1 h2 => ?_
  rw [List.getElem_set]
  split
  · rename_i e; subst e; simp [suppM]
  · rfl
def filtTo (c : Con) (ds L : List Int) (k : Nat) : List Int := (List.range k).foldl (fun o j => o.set (c.vars.getD j 0).toNat (L.getD j 0)) ds
theorem filtTo_succ (c : Con) (ds L : List Int) (k : Nat) : filtTo c ds L (k + 1) = (filtTo c ds L k).set (c.vars.getD k 0).toNat (L.getD k 0) := by
  simp [filtTo, List.range_succ]
theorem filtTo_len (c : Con) (ds L : List Int) : ∀ k, (filtTo c ds L k).length = ds.length
  | 0 => rfl
  | k + 1 => by rw [filtTo_succ, List.length_set, filtTo_len c ds L k]
def tups (c : Con) (ds : List Int) : List (List Int) := tupL (wordL c.vars ds)
def filtL (c : Con) (ds : List Int) : List Int := filtTo c ds (suppV c (tups c ds)) c.vars.length
theorem filtL_len (c : Con) (ds : List Int) : (filtL c ds).length = ds.length := filtTo_len _ _ _ _
theorem filtTo_no {c : Con} {ds L : List Int} {i : Nat} : ∀ k, (∀ j, j < k → (c.vars.getD j 0).toNat ≠ i) → (filtTo c ds L k).getD i 0 = ds.getD i 0
  | 0, _ => rfl
  | k + 1, h => by
    rw [filtTo_succ]
    have h0 := h k (by omega)
    rw [List.getD_eq_getElem?_getD, List.getElem?_set_ne h0, ← List.getD_eq_getElem?_getD]
    exact filtTo_no k (fun j hj => h j (by omega))
theorem filtTo_at {c : Con} {ds L : List Int} {i j : Nat} (hi : i < ds.length) (e : (c.vars.getD j 0).toNat = i) : ∀ k, j < k → (∀ j', j' < k → (c.vars.getD j' 0).toNat = i → j' = j) → (filtTo c ds L k).getD i 0 = L.getD j 0
  | 0, h, _ => absurd h (Nat.not_lt_zero _)
  | k + 1, h, hu => by
    rw [filtTo_succ]
    by_cases hk : j = k
    · subst hk
      rw [e, List.getD_eq_getElem?_getD, List.getElem?_set_self (by rw [filtTo_len]; exact hi)]; rfl
    · have h0 : (c.vars.getD k 0).toNat ≠ i := fun e' => hk (hu k (by omega) e').symm
      rw [List.getD_eq_getElem?_getD, List.getElem?_set_ne h0, ← List.getD_eq_getElem?_getD]
      exact filtTo_at hi e k (by omega) (fun j' hj' => hu j' (by omega))
theorem ConOk.inj {c : Con} {n : Nat} (h : ConOk c n) {i j : Nat} (hi : i < c.vars.length) (hj : j < c.vars.length) (e : (c.vars.getD i 0).toNat = (c.vars.getD j 0).toNat) : i = j := by
  have hv := h.v
  simp only [validConB, Bool.and_eq_true, distinctB, decide_eq_true_eq] at hv
  have hn := hv.1.2
  have h1 := h.at hi; have h2 := h.at hj
  have e2 : c.vars.getD i 0 = c.vars.getD j 0 := by omega
  have e3 : c.vars[i] = c.vars[j] := by simpa [List.getD, hi, hj] using e2
  have hp := List.pairwise_iff_getElem.1 hn
  rcases Nat.lt_trichotomy i j with h3 | h3 | h3
  · exact absurd e3 (hp i j hi hj h3)
  · exact h3
  · exact absurd e3.symm (hp j i hj hi h3)
section filt
variable {c : Con} {n : Nat} {ds : List Int}
/-- What a filtered domain is. -/
theorem filt_cases (hc : ConOk c n) (hl : ds.length = n) {i : Nat} (hi : i < n) : (∃ j, j < c.vars.length ∧ (c.vars.getD j 0).toNat = i ∧ (filtL c ds).getD i 0 = supp c (tups c ds) j) ∨ ((∀ j, j < c.vars.length → (c.vars.getD j 0).toNat ≠ i) ∧ (filtL c ds).getD i 0 = ds.getD i 0) := by
  by_cases h : ∃ j, j < c.vars.length ∧ (c.vars.getD j 0).toNat = i
  · obtain ⟨j, hj, e⟩ := h
    refine .inl ⟨j, hj, e, ?_⟩
    rw [← suppV_at hj]
    exact filtTo_at (by omega) e _ hj (fun j' hj' e' => hc.inj hj' hj (by omega))
  · have h' : ∀ j, j < c.vars.length → (c.vars.getD j 0).toNat ≠ i := fun j hj e => h ⟨j, hj, e⟩
    exact .inr ⟨h', filtTo_no _ h'⟩
theorem word_at {vs ds : List Int} {j : Nat} (h : j < vs.length) : (wordL vs ds).getD j 0 = ds.getD (vs.getD j 0).toNat 0 := by simp [wordL, List.getD, h]
theorem filt_sub (hc : ConOk c n) (hl : ds.length = n) : SubD (filtL c ds) ds := ⟨filtL_len c ds, fun i hi v hv h => by
  rcases filt_cases hc hl (i := i) (by omega) with ⟨j, hj, e, e2⟩ | ⟨_, e2⟩
  · rw [e2] at h
    obtain ⟨t, ht, _, rfl⟩ := (supp_has hv).1 h
    have hb := mem_tupL.1 ht
    have := hb.2 j (by simpa [wordL] using hj)
    rw [word_at hj, e] at this
    exact (mem_valsI.1 this).2
  · rw [e2] at h; exact h⟩
theorem filt_dom (hc : ConOk c n) (hl : ds.length = n) (hd : DomV ds) : DomV (filtL c ds) := fun d hm => by
  obtain ⟨i, hi, rfl⟩ := List.getElem_of_mem hm
  rw [show (filtL c ds)[i] = (filtL c ds).getD i 0 from by simp [List.getD, hi]]
  rw [filtL_len] at hi
  rcases filt_cases hc hl (i := i) (by omega) with ⟨j, hj, e, e2⟩ | ⟨_, e2⟩
  · rw [e2]; exact maskP_in _
  · rw [e2]; exact hd.at hi
theorem box_word {x : List Int} (hc : ConOk c n) (hl : ds.length = n) (h : Box ds x) : Box (wordL c.vars ds) (wordL c.vars x) := ⟨by simp [wordL], fun j hj => by
  have hj : j < c.vars.length := by simpa [wordL] using hj
  rw [word_at hj, word_at hj]
  exact h.2 _ (by have := hc.at hj; omega)⟩
theorem filt_sound {x : List Int} (hc : ConOk c n) (hl : ds.length = n) (h : Box ds x) (hs : conAt x c = true) : Box (filtL c ds) x := ⟨by rw [filtL_len]; exact h.1, fun i hi => by
  rw [filtL_len] at hi
  rcases filt_cases hc hl (i := i) (by omega) with ⟨j, hj, e, e2⟩ | ⟨_, e2⟩
  · rw [e2, mem_valsI]
    have hv := valsI_mem (h.2 i hi)
    refine ⟨hv, (supp_has hv).2 ⟨wordL c.vars x, mem_tupL.2 (box_word hc hl h), hs, ?_⟩⟩
    rw [word_at hj, e]
  · rw [e2]; exact h.2 i hi⟩
theorem filt_sat {x : List Int} (hc : ConOk c n) (hl : ds.length = n) (hf : filtL c ds = ds) (h : Box ds x) (h1 : ∀ i, i < n → (valsI (ds.getD i 0)).length = 1) : conAt x c = true := by
  have h0 := hc.one
  have hj : 0 < c.vars.length := by omega
  have hi := hc.at hj
  have hin : (c.vars.getD 0 0).toNat < n := by omega
  have hx := h.2 (c.vars.getD 0 0).toNat (by omega)
  rcases filt_cases hc hl hin with ⟨j, hj2, e, e2⟩ | ⟨h2, _⟩
  · rw [hf] at e2
    rw [e2] at hx
    obtain ⟨t, ht, hs, _⟩ := (supp_has (valsI_mem hx)).1 (mem_valsI.1 hx).2
    have hb := mem_tupL.1 ht
    have he : t = wordL c.vars x := by
      have hbw := box_word hc hl h
      refine List.ext_getElem (by rw [hb.1, hbw.1]) fun k k1 k2 => ?_
      have k3 : k < (wordL c.vars ds).length := by rw [← hb.1]; exact k1
      have a := hb.2 k k3
      have b := hbw.2 k k3
      have k4 : k < c.vars.length := by simpa [wordL] using k3
      rw [word_at (ds := ds) k4] at a b
      have hk := hc.at k4
      have l1 := h1 (c.vars.getD k 0).toNat (by omega)
      obtain ⟨w, hw⟩ := List.length_eq_one_iff.1 l1
      rw [hw, List.mem_singleton] at a b
      rw [show t[k] = t.getD k 0 from by simp [List.getD, k1], show (wordL c.vars x)[k] = (wordL c.vars x).getD k 0 from by simp [List.getD, k2], a, b]
    unfold conAt; rw [← he]; exact hs
  · exact absurd rfl (h2 0 hj)
end filt
/-! ### All constraints, until nothing changes -/
def sumN (ds : List Int) : Nat := (ds.map Int.toNat).sum
theorem sumN_le : ∀ {es ds : List Int}, es.length = ds.length → (∀ i, i < ds.length → es.getD i 0 ≤ ds.getD i 0) → sumN es ≤ sumN ds
  | [], [], _, _ => Nat.le_refl _
  | [], _ :: _, h, _ => by simp at h
  | _ :: _, [], h, _ => by simp at h
  | e :: es, d :: ds, hl, h => by
    have h0 := h 0 (by simp)
    have ih := sumN_le (es := es) (ds := ds) (by simpa using hl) (fun i hi => by simpa using h (i + 1) (by simpa using hi))
    simp only [sumN, List.map_cons, List.sum_cons] at *
    simp at h0
    omega
theorem sumN_lt : ∀ {es ds : List Int}, es.length = ds.length → (∀ d ∈ es, (0 : Int) ≤ d) → (∀ i, i < ds.length → es.getD i 0 ≤ ds.getD i 0) → es ≠ ds → sumN es < sumN ds
  | [], [], _, _, _, h => absurd rfl h
  | [], _ :: _, h, _, _, _ => by simp at h
  | _ :: _, [], h, _, _, _ => by simp at h
  | e :: es, d :: ds, hl, hp, h, hne => by
    have h0 := h 0 (by simp)
    have hl' : es.length = ds.length := by simpa using hl
    have h' : ∀ i, i < ds.length → es.getD i 0 ≤ ds.getD i 0 := fun i hi => by simpa using h (i + 1) (by simpa using hi)
    have ih := sumN_le hl' h'
    have he := hp e (.head _)
    simp only [sumN, List.map_cons, List.sum_cons] at *
    simp at h0
    by_cases e1 : e = d
    · have := sumN_lt hl' (fun d hd => hp d (.tail _ hd)) h' (fun e2 => hne (by rw [e1, e2]))
      simp only [sumN] at this
      omega
    · omega
theorem SubD.sum {es ds : List Int} (h : SubD es ds) (he : DomV es) (hd : DomV ds) : sumN es ≤ sumN ds :=
  sumN_le h.1 fun i hi => sub_le (hd.at hi) (he.at (by rw [h.1]; exact hi)) (h.2 i hi)
theorem SubD.lt {es ds : List Int} (h : SubD es ds) (he : DomV es) (hd : DomV ds) (hne : es ≠ ds) : sumN es < sumN ds :=
  sumN_lt h.1 (fun d hm => (he d hm).1) (fun i hi => sub_le (hd.at hi) (he.at (by rw [h.1]; exact hi)) (h.2 i hi)) hne
def filtC (cs : List Con) (ds : List Int) : List Int := cs.foldl (fun d c => filtL c d) ds
def filtA (m : Mod) (ds : List Int) : List Int := filtC m.cons ds
def consB (cs : List Con) (ds : List Int) : Bool := cs.all (fun c => decide (filtL c ds = ds))
def zerosL (n : Nat) : List Int := List.replicate n 0
def prop (m : Mod) (ds : List Int) : List Int :=
  if ds.contains 0 = true then zerosL ds.length else if filtA m ds = ds then ds else if h : sumN (filtA m ds) < sumN ds then prop m (filtA m ds) else ds
termination_by sumN ds
/-- Domains of a model's variables. -/
structure DOk (n : Nat) (ds : List Int) : Prop where
  l : ds.length = n
  d : DomV ds
theorem filtC_ok {cs : List Con} {n : Nat} (hc : ∀ c ∈ cs, ConOk c n) : ∀ {ds : List Int}, DOk n ds → DOk n (filtC cs ds) ∧ SubD (filtC cs ds) ds := by
  induction cs with
  | nil => intro ds h; exact ⟨h, SubD.refl _⟩
  | cons c cs ih =>
    intro ds h
    have h0 := hc c (.head _)
    have h1 : DOk n (filtL c ds) := ⟨(filtL_len c ds).trans h.l, filt_dom h0 h.l h.d⟩
    obtain ⟨h2, h3⟩ := ih (fun c hm => hc c (.tail _ hm)) h1
    exact ⟨h2, h3.trans (filt_sub h0 h.l)⟩
theorem filtC_fix {cs : List Con} {n : Nat} (hc : ∀ c ∈ cs, ConOk c n) : ∀ {ds : List Int}, DOk n ds → (filtC cs ds = ds ↔ consB cs ds = true) := by
  induction cs with
  | nil => intro ds h; simp [filtC, consB]
  | cons c cs ih =>
    intro ds h
    have h0 := hc c (.head _)
    have hcs : ∀ c ∈ cs, ConOk c n := fun c hm => hc c (.tail _ hm)
    have h1 : DOk n (filtL c ds) := ⟨(filtL_len c ds).trans h.l, filt_dom h0 h.l h.d⟩
    have hs := filt_sub h0 h.l
    have h2 := filtC_ok hcs h1
    simp only [consB, List.all_cons, Bool.and_eq_true, decide_eq_true_eq]
    constructor
    · intro e
      have e1 : filtC cs (filtL c ds) = ds := e
      have e2 : filtL c ds = ds := by
        by_cases hne : filtL c ds = ds
        · exact hne
        · have a := hs.lt h1.d h.d hne
          have b := h2.2.sum h2.1.d h1.d
          rw [e1] at b; omega
      rw [e2] at e1
      exact ⟨e2, (ih hcs h).1 e1⟩
    · rintro ⟨e1, e2⟩
      show filtC cs (filtL c ds) = ds
      rw [e1]; exact (ih hcs h).2 e2
section props
variable {m : Mod} {ds : List Int}
theorem MOk.cons (hM : MOk m) : ∀ c ∈ m.cons, ConOk c m.doms.length := fun c hc => ⟨hM.cm hc⟩
theorem MOk.dok (hM : MOk m) : DOk m.doms.length m.doms := ⟨rfl, fun d hd => by
  obtain ⟨i, hi, rfl⟩ := List.getElem_of_mem hd
  rw [show m.doms[i] = m.doms.getD i 0 from by simp [List.getD, hi]]
  exact hM.d hi⟩
theorem filtA_ok (hM : MOk m) (h : DOk m.doms.length ds) : DOk m.doms.length (filtA m ds) ∧ SubD (filtA m ds) ds := filtC_ok hM.cons h
theorem filtA_lt (hM : MOk m) (h : DOk m.doms.length ds) (hne : filtA m ds ≠ ds) : sumN (filtA m ds) < sumN ds :=
  (filtA_ok hM h).2.lt (filtA_ok hM h).1.d h.d hne
theorem filtA_fix (hM : MOk m) (h : DOk m.doms.length ds) : filtA m ds = ds ↔ consB m.cons ds = true := filtC_fix hM.cons h
theorem prop_0 (h : ds.contains 0 = true) : prop m ds = zerosL ds.length := by rw [prop, if_pos h]
theorem prop_fix (h : ds.contains 0 = false) (e : filtA m ds = ds) : prop m ds = ds := by rw [prop, if_neg (by rw [h]; simp), if_pos e]
theorem prop_step (hM : MOk m) (hd : DOk m.doms.length ds) (h : ds.contains 0 = false) (e : filtA m ds ≠ ds) : prop m (filtA m ds) = prop m ds := by
  rw [prop.eq_1 m ds, if_neg (by rw [h]; simp), if_neg e, dif_pos (filtA_lt hM hd e)]
theorem zerosL_ok (n : Nat) : DOk n (zerosL n) := ⟨by simp [zerosL], fun d hd => by
  simp only [zerosL, List.mem_replicate] at hd
  omega⟩
theorem zerosL_sub (ds : List Int) : SubD (zerosL ds.length) ds := ⟨by simp [zerosL], fun i hi v hv h => by
  have : (zerosL ds.length).getD i 0 = 0 := by simp [zerosL, List.getD, hi]
  rw [this] at h
  have h2 : v ∈ valsI 0 := mem_valsI.2 ⟨hv, h⟩
  rw [valsI_0] at h2; cases h2⟩
theorem tupL_0 {ds : List Int} (h : ds.contains 0 = true) : tupL ds = [] := by
  cases e : tupL ds with
  | nil => rfl
  | cons x xs =>
    exfalso
    have hb := mem_tupL.1 (show x ∈ tupL ds by rw [e]; exact .head _)
    obtain ⟨i, hi, h0⟩ := List.getElem_of_mem (List.contains_iff_mem.1 h)
    have := hb.2 i hi
    rw [show ds.getD i 0 = ds[i] from by simp [List.getD, hi], h0, valsI_0] at this
    cases this
def solT (m : Mod) (ds : List Int) : List (List Int) := (tupL ds).filter (metB m)
theorem solT_filt (hM : MOk m) {c : Con} (hc : c ∈ m.cons) (hd : DOk m.doms.length ds) : solT m (filtL c ds) = solT m ds := by
  unfold solT
  rw [tupL_sub (filt_sub (hM.cons c hc) hd.l), List.filter_filter]
  refine List.filter_congr fun x hx => ?_
  have hb := mem_tupL.1 hx
  cases h : metB m x with
  | false => simp
  | true =>
    have := (boxB_iff hb.vals).2 (filt_sound (hM.cons c hc) hd.l hb (List.all_eq_true.1 h c hc))
    rw [this]; rfl
theorem solT_filtC (hM : MOk m) : ∀ {cs : List Con}, (∀ c ∈ cs, c ∈ m.cons) → ∀ {ds : List Int}, DOk m.doms.length ds → solT m (filtC cs ds) = solT m ds
  | [], _, _, _ => rfl
  | c :: cs, h, ds, hd => by
    have h0 := hM.cons c (h c (.head _))
    have h1 : DOk m.doms.length (filtL c ds) := ⟨(filtL_len c ds).trans hd.l, filt_dom h0 hd.l hd.d⟩
    exact (solT_filtC hM (cs := cs) (fun c hm => h c (.tail _ hm)) h1).trans (solT_filt hM (h c (.head _)) hd)
/-- What propagation gives: valid domains, within the old ones, with the same solutions; either no domain is empty and no constraint changes them, or all are. -/
structure PropOk (m : Mod) (ds es : List Int) : Prop where
  ok : DOk m.doms.length es
  sub : SubD es ds
  sol : solT m es = solT m ds
  fix : es.contains 0 = true ∨ consB m.cons es = true
theorem prop_ok (hM : MOk m) : ∀ (k : Nat) {ds : List Int}, sumN ds = k → DOk m.doms.length ds → PropOk m ds (prop m ds) := by
  intro k
  induction k using Nat.strongRecOn with
  | _ k ih =>
    intro ds hk hd
    cases h0 : ds.contains 0 with
    | true =>
      rw [prop_0 h0, hd.l]
      have hz := zerosL_ok m.doms.length
      have hn := hM.n
      have hc : (zerosL m.doms.length).contains 0 = true := by
        rw [List.contains_iff_mem]; simp only [zerosL, List.mem_replicate]; exact ⟨by omega, trivial⟩
      exact ⟨hz, hd.l ▸ zerosL_sub ds, by unfold solT; rw [tupL_0 h0, tupL_0 hc], .inl hc⟩
    | false =>
      by_cases e : filtA m ds = ds
      · rw [prop_fix h0 e]; exact ⟨hd, SubD.refl _, rfl, .inr ((filtA_fix hM hd).1 e)⟩
      · rw [← prop_step hM hd h0 e]
        have hf := filtA_ok hM hd
        have := ih _ (hk ▸ filtA_lt hM hd e) rfl hf.1
        exact ⟨this.ok, this.sub.trans hf.2, this.sol.trans (solT_filtC hM (fun _ h => h) hd), this.fix⟩
theorem propOk (hM : MOk m) {ds : List Int} (hd : DOk m.doms.length ds) : PropOk m ds (prop m ds) := prop_ok hM _ rfl hd
/-! ### All solutions -/
def sols (m : Mod) : List (List Int) := solT m m.doms
def inDomB (m : Mod) (x : List Int) : Bool := (List.range x.length).all (fun i => hasB (m.doms.getD i 0) (x.getD i 0))
def isSolB (m : Mod) (x : List Int) : Bool := inDomB m x && metB m x
theorem sols_prop (hM : MOk m) : (tupL (prop m m.doms)).filter (isSolB m) = sols m := by
  have hp := propOk hM hM.dok
  unfold sols
  rw [← hp.sol]
  unfold solT
  refine List.filter_congr fun x hx => ?_
  have hb := mem_tupL.1 hx
  have : inDomB m x = true := List.all_eq_true.2 fun i hi => by
    have hi : i < x.length := List.mem_range.1 hi
    have h1 := hb.2 i (by rw [← hb.1]; exact hi)
    exact hp.sub.2 i (by rw [← hp.sub.1, ← hb.1]; exact hi) _ (valsI_mem h1) (mem_valsI.1 h1).2
  unfold isSolB; rw [this]; rfl
/-! Branching. -/
theorem tupL_one {ds : List Int} (h : ∀ i, i < ds.length → (valsI (ds.getD i 0)).length = 1) : tupL ds = [ds.map (fun d => (valsI d).getD 0 0)] := by
  induction ds with
  | nil => rfl
  | cons d ds ih =>
    have h0 := h 0 (by simp)
    obtain ⟨w, hw⟩ := List.length_eq_one_iff.1 (show (valsI d).length = 1 by simpa using h0)
    have := ih (fun i hi => by simpa using h (i + 1) (by simpa using hi))
    simp [tupL, hw, this]
theorem tupL_split : ∀ {ds : List Int} {i : Nat}, i < ds.length → (∀ j, j < i → (valsI (ds.getD j 0)).length = 1) → tupL ds = (valsI (ds.getD i 0)).flatMap (fun v => tupL (ds.set i (ishl 1 v)))
  | [], i, h, _ => absurd h (Nat.not_lt_zero _)
  | d :: ds, 0, _, _ => by
    have e : ∀ v ∈ valsI d, (tupL ds).map (fun r => v :: r) = tupL (ishl 1 v :: ds) := fun v hv => by
      simp [tupL, valsI_one (valsI_mem hv)]
    simp only [List.getD_cons_zero, List.set_cons_zero]
    rw [tupL]
    have : ∀ xs : List Int, (∀ v ∈ xs, v ∈ valsI d) → xs.flatMap (fun v => (tupL ds).map (fun r => v :: r)) = xs.flatMap (fun v => tupL (ishl 1 v :: ds)) := fun xs => by
      induction xs with
      | nil => intro _; rfl
      | cons x xs ih => intro h; rw [List.flatMap_cons, List.flatMap_cons, e x (h x (.head _)), ih (fun v hv => h v (.tail _ hv))]
    exact this _ (fun _ h => h)
  | d :: ds, i + 1, h, h1 => by
    have h0 := h1 0 (by omega)
    obtain ⟨w, hw⟩ := List.length_eq_one_iff.1 (show (valsI d).length = 1 by simpa using h0)
    have ih := tupL_split (ds := ds) (i := i) (by simpa using h) (fun j hj => by simpa using h1 (j + 1) (by omega))
    simp only [List.getD_cons_succ, List.set_cons_succ, tupL, hw]
    rw [ih]
    simp [List.map_flatMap]
theorem filter_flat {A B : Type} (f : A → List B) (p : B → Bool) : ∀ xs : List A, (xs.flatMap f).filter p = xs.flatMap (fun x => (f x).filter p)
  | [] => rfl
  | x :: xs => by rw [List.flatMap_cons, List.filter_append, filter_flat f p xs, List.flatMap_cons]
theorem solT_split {i : Nat} (hi : i < ds.length) (h : ∀ j, j < i → (valsI (ds.getD j 0)).length = 1) : solT m ds = (valsI (ds.getD i 0)).flatMap (fun v => solT m (ds.set i (ishl 1 v))) := by
  unfold solT
  rw [tupL_split hi h, filter_flat]
def firstL (ds : List Int) : List Int := ds.map (fun d => (valsI d).getD 0 0)
theorem solT_one (hM : MOk m) (hd : DOk m.doms.length ds) (hf : consB m.cons ds = true) (h : ∀ i, i < ds.length → (valsI (ds.getD i 0)).length = 1) : solT m ds = [firstL ds] := by
  unfold solT
  rw [tupL_one h]
  have hb : Box ds (firstL ds) := mem_tupL.1 (by rw [tupL_one h]; exact .head _)
  have hm : metB m (firstL ds) = true := List.all_eq_true.2 fun c hc => by
    have e : filtL c ds = ds := by simpa using List.all_eq_true.1 hf c hc
    exact filt_sat (hM.cons c hc) hd.l e hb (fun i hi => h i (by rw [hd.l]; exact hi))
  show List.filter (metB m) [firstL ds] = _
  rw [List.filter_cons, if_pos hm]; rfl
theorem set_ok {i : Nat} {v : Int} (hd : DOk m.doms.length ds) (hv : 0 ≤ v ∧ v ≤ 5) : DOk m.doms.length (ds.set i (ishl 1 v)) := ⟨by rw [List.length_set]; exact hd.l, fun d hm => by
  rcases List.mem_or_eq_of_mem_set hm with h | h
  · exact hd.d d h
  · have := shl_le hv; omega⟩
theorem set_lt {i : Nat} {v : Int} (hd : DOk m.doms.length ds) (hi : i < ds.length) (hv : v ∈ valsI (ds.getD i 0)) (h1 : (valsI (ds.getD i 0)).length ≠ 1) : sumN (ds.set i (ishl 1 v)) < sumN ds := by
  have h2 := shl_lt (hd.d.at hi) hv h1
  have h3 := shl_le (valsI_mem hv)
  refine sumN_lt (by simp) (fun d hm => ((set_ok hd (valsI_mem hv)).d d hm).1) (fun j hj => ?_) (fun e => ?_)
  · by_cases e : i = j
    · subst e
      rw [List.getD_eq_getElem?_getD, List.getElem?_set_self hi]
      simp only [Option.getD_some]; omega
    · rw [List.getD_eq_getElem?_getD, List.getElem?_set_ne e, ← List.getD_eq_getElem?_getD]; exact Int.le_refl _
  · have : (ds.set i (ishl 1 v)).getD i 0 = ishl 1 v := by rw [List.getD_eq_getElem?_getD, List.getElem?_set_self hi]; rfl
    rw [e] at this; omega
end props
/-! ### What the walks ask -/
def inDomTo (m : Mod) (x : List Int) (k : Nat) : Bool := (List.range k).all (fun i => hasB (m.doms.getD i 0) (x.getD i 0))
theorem inDom_step {m : Mod} {x : List Int} {k : Nat} (h : inDomTo m x k = true) (c : (!(hasB (m.doms.getD k 0) (x.getD k 0))) = false) : inDomTo m x (k + 1) = true := by
  simp only [inDomTo, List.range_succ, List.all_append, List.all_cons, List.all_nil, Bool.and_true] at *
  rw [h]; simpa using c
theorem inDom_no {m : Mod} {x : List Int} {k : Nat} (hk : k < x.length) (c : (!(hasB (m.doms.getD k 0) (x.getD k 0))) = true) : false = isSolB m x := by
  have : inDomB m x = false := by
    cases h : inDomB m x with
    | false => rfl
    | true => have := List.all_eq_true.1 h k (List.mem_range.2 hk); rw [this] at c; simp at c
  unfold isSolB; rw [this]; rfl
theorem inDom_yes {m : Mod} {x : List Int} {k : Nat} (h : inDomTo m x k = true) (hk : k = x.length) {b : Bool} (e : b = metB m x) : b = isSolB m x := by
  subst hk
  have : inDomB m x = true := h
  unfold isSolB; rw [this, e]; rfl
theorem supp_nil (c : Con) (j : Nat) : supp c [] j = 0 := by simp [supp, maskP]
theorem suppV_0 (c : Con) : suppV c [] = List.replicate c.vars.length 0 := by
  refine List.ext_getElem (by simp [suppV]) fun i h1 h2 => ?_
  simp [suppV, supp_nil]
theorem word_dom {c : Con} {ds : List Int} (hC : ConOk c ds.length) (hd : DomV ds) : ∀ d ∈ wordL c.vars ds, (0 : Int) ≤ d ∧ d ≤ 63 := fun d hm => by
  simp only [wordL, List.mem_map] at hm
  obtain ⟨v, hv, rfl⟩ := hm
  have := hC.vars v hv
  exact hd.at (by omega)
theorem tup_sat {c : Con} {n : Nat} {ds t : List Int} (hC : ConOk c n) (hl : ds.length = n) (h : t ∈ tupL (wordL c.vars ds)) : SatOk c t := by
  have hb := mem_tupL.1 h
  have ho := hC.one
  have hf := hC.v
  simp only [validConB, Bool.and_eq_true] at hf
  have h1 := hb.1
  simp [wordL] at h1
  exact ⟨hf.2, h1.symm, by omega, by omega, hb.vals⟩
theorem supp_stepT {c : Con} {T : List (List Int)} {t left : List Int} {k : Nat} (h : left = suppM c T t k) (hS : SatOk c t) (hk : t.length ≤ k) : left = suppV c (T ++ [t]) := by
  rw [h]; exact suppM_all c T t (by rw [hS.len]; exact hk)
theorem suppM_stepO {c : Con} {T : List (List Int)} {t : List Int} {k : Nat} (hs : satB c t = true) (hS : SatOk c t) (hk : k < t.length) : (suppM c T t k).set k (ior ((suppM c T t k).getD k 0) (ishl 1 (t.getD k 0))) = suppM c T t (k + 1) := by
  have h1 := hS.len
  rw [suppM_at (by omega), supp_or hs (hS.val.at hk)]
  exact suppM_set (by omega) rfl
theorem filtC_step {cs : List Con} {k : Nat} {ds : List Int} (h : k < cs.length) : filtC (cs.take (k + 1)) ds = filtL (cs.getD k nilCon) (filtC (cs.take k) ds) := by
  unfold filtC
  rw [take_succ_getD nilCon h, List.foldl_append]; rfl
theorem filtC_at {m : Mod} {ds xs : List Int} {k : Nat} (hM : MOk m) (hd : DOk m.doms.length ds) (e : xs = filtC (m.cons.take k) ds) : DOk m.doms.length xs := by
  subst e
  exact (filtC_ok (fun c hc => hM.cons c (List.mem_of_mem_take hc)) hd).1
theorem tupL_max : ∀ ds : List Int, (tupL ds).length ≤ 6 ^ ds.length
  | [] => by simp [tupL]
  | d :: ds => by
    rw [tup_len, List.length_cons, Nat.pow_succ]
    exact Nat.mul_le_mul (tupL_max ds) (membersTo_len d 6)
theorem tupL_few {ds : List Int} (h : ds.length ≤ 4) : (tupL ds).length ≤ 1296 :=
  Nat.le_trans (tupL_max ds) (Nat.pow_le_pow_right (n := 6) (by omega) h)
theorem sol_room {n i : Nat} {ds : List Int} {out : List (List Int)} {p : List Int → Bool} (hd : DOk n ds) (hn : n ≤ 4) (e : out = ((tupL ds).take i).filter p) (hk : i < (tupL ds).length) : out.length < 1296 := by
  have h1 := tupL_few (ds := ds) (by have := hd.l; omega)
  have h2 := List.length_filter_le p ((tupL ds).take i)
  rw [← e, List.length_take] at h2
  omega
theorem filter_oneT {A : Type} {p : A → Bool} {x : A} (h : p x = true) : [x].filter p = [x] := by rw [List.filter_cons, if_pos h]; rfl
theorem filter_oneF {A : Type} {p : A → Bool} {x : A} (h : p x = false) : [x].filter p = [] := by rw [List.filter_cons, h]; rfl
theorem solT_few {m : Mod} {ds : List Int} (h : ds.length ≤ 4) : (solT m ds).length ≤ 1296 := Nat.le_trans (List.length_filter_le _ _) (tupL_few h)
/-! The reference's walk over the tuples. -/
/-- The tuples of w that begin with p (i values). -/
def extP (w : List Int) (i : Nat) (p : List Int) : List (List Int) := (tupL (w.drop i)).map (fun r => p ++ r)
theorem extP_base {w p : List Int} {i : Nat} (h : w.length ≤ i) : extP w i p = [p] := by simp [extP, List.drop_eq_nil_of_le h, tupL]
theorem extP_split {w p : List Int} {i : Nat} (h : i < w.length) : extP w i p = (valsI (w.getD i 0)).flatMap (fun v => extP w (i + 1) (p ++ [v])) := by
  unfold extP
  rw [List.drop_eq_getElem_cons h, tupL, List.map_flatMap, show w[i] = w.getD i 0 from by simp [List.getD, h]]
  simp [Function.comp_def]
theorem extP_all (w : List Int) : extP w 0 [] = tupL w := by simp [extP]
theorem take_set_succ {x p : List Int} {i : Nat} {v : Int} (h : x.take i = p) (hi : i < x.length) : (x.set i v).take (i + 1) = p ++ [v] := by
  rw [take_succ_getD 0 (by simpa using hi), List.take_set_of_le (Nat.le_refl _), h]
  congr 2
  rw [List.getD_eq_getElem?_getD, List.getElem?_set_self hi]; rfl
theorem take_of_succ {x p : List Int} {i : Nat} {v : Int} (h : x.take (i + 1) = p ++ [v]) (hp : p.length = i) : x.take i = p := by
  have : (x.take (i + 1)).take i = x.take i := by rw [List.take_take]; congr 1; omega
  rw [← this, h, List.take_append_of_le_length (by omega), List.take_of_length_le (by omega)]
theorem sat_of {c : Con} {n : Nat} {t : List Int} (hC : ConOk c n) (h1 : t.length = c.vars.length) (hv : Vals t) : SatOk c t := by
  have ho := hC.one
  have hf := hC.v
  simp only [validConB, Bool.and_eq_true] at hf
  exact ⟨hf.2, h1.symm, by omega, by omega, hv⟩
def extTo (w : List Int) (i : Nat) (p : List Int) (k : Nat) : List (List Int) := (membersTo (w.getD i 0) k).flatMap (fun v => extP w (i + 1) (p ++ [v]))
theorem extTo_0 (w : List Int) (i : Nat) (p : List Int) : extTo w i p 0 = [] := rfl
theorem extTo_T {w p : List Int} {i k : Nat} (h : hasB (w.getD i 0) (k : Int) = true) : extTo w i p k ++ extP w (i + 1) (p ++ [(k : Int)]) = extTo w i p (k + 1) := by
  unfold extTo; rw [← members_stepT rfl h]; simp
theorem extTo_F {w p : List Int} {i k : Nat} (h : hasB (w.getD i 0) (k : Int) = false) : extTo w i p k = extTo w i p (k + 1) := by
  unfold extTo; rw [← members_stepF rfl h]
theorem extTo_6 {w p : List Int} {i k : Nat} (h : i < w.length) (hk : k = 6) : extTo w i p k = extP w i p := by subst hk; exact (extP_split h).symm
theorem supp_stepS {c : Con} {T : List (List Int)} {t : List Int} {k : Nat} (hs : satB c t = true) (hS : SatOk c t) (hk : k < t.length) (b : (!(withinB (t.getD k 0) 0 5 && hasB ((suppM c T t k).getD k 0) (t.getD k 0))) = true) :
    (suppM c T t k).set k ((suppM c T t k).getD k 0 + ishl 1 (t.getD k 0)) = suppM c T t (k + 1) := by
  have h1 := hS.len
  have hv := hS.val.at hk
  rw [suppM_at (by omega)] at b ⊢
  rw [show withinB (t.getD k 0) 0 5 = true from withinB_iff.2 hv] at b
  exact suppM_set (by omega) (supp_addF hs hv (by simpa using b))
theorem supp_stepN {c : Con} {T : List (List Int)} {t : List Int} {k : Nat} (hs : satB c t = true) (hS : SatOk c t) (hk : k < t.length) (b : (!(withinB (t.getD k 0) 0 5 && hasB ((suppM c T t k).getD k 0) (t.getD k 0))) = false) :
    suppM c T t k = suppM c T t (k + 1) := by
  have h1 := hS.len
  have hv := hS.val.at hk
  rw [suppM_at (by omega)] at b
  rw [show withinB (t.getD k 0) 0 5 = true from withinB_iff.2 hv] at b
  exact suppM_same (by omega) (supp_addT hs hv (by simpa using b))
theorem dh_iff {d : Int} {k : Nat} (hk : k < 6) : (withinB (k : Int) 0 5 && hasB d (k : Int)) = hasB d (k : Int) := by
  rw [show withinB (k : Int) 0 5 = true from withinB_iff.2 (by omega)]; rfl
theorem supp_addle {c : Con} {T : List (List Int)} {t : List Int} {k : Nat} (hS : SatOk c t) (hk : k < t.length) : 0 ≤ (suppM c T t k).getD k 0 ∧ (suppM c T t k).getD k 0 ≤ 63 := by
  rw [suppM_at (by have := hS.len; omega)]; exact maskP_in _
/-! The reference's fixpoint. -/
theorem cons_no {cs : List Con} {ds : List Int} {k : Nat} (hk : k < cs.length) (h : (!(decide (filtL (cs.getD k nilCon) ds = ds))) = true) : false = consB cs ds :=
  (all_false (d := nilCon) hk (by simpa using h)).symm
theorem cons_step {cs : List Con} {ds : List Int} {k : Nat} (hk : k < cs.length) (hp : (cs.take k).all (fun c => decide (filtL c ds = ds)) = true) (h : (!(decide (filtL (cs.getD k nilCon) ds = ds))) = false) : (cs.take (k + 1)).all (fun c => decide (filtL c ds = ds)) = true :=
  all_take_step (d := nilCon) hk hp (by simpa using h)
theorem fix_go {m : Mod} {xs : List Int} (hM : MOk m) (hD : DOk m.doms.length xs) (h : (!(consB m.cons xs) && !(xs.contains 0)) = true) : filtA m xs ≠ xs ∧ xs.contains 0 = false := by
  simp only [Bool.and_eq_true, Bool.not_eq_true'] at h
  exact ⟨fun e => by have := (filtA_fix hM hD).1 e; rw [this] at h; simp at h, h.2⟩
theorem fix_end {m : Mod} {xs : List Int} (hM : MOk m) (hD : DOk m.doms.length xs) (h : (!(consB m.cons xs) && !(xs.contains 0)) = false) (h0 : xs.contains 0 = false) : prop m xs = xs := by
  rw [h0] at h
  exact prop_fix h0 ((filtA_fix hM hD).2 (by simpa using h))
/-! Branching, as the reference does it. -/
theorem solT_prop {m : Mod} {ds : List Int} (hM : MOk m) (hd : DOk m.doms.length ds) : solT m (prop m ds) = solT m ds := (propOk hM hd).sol
theorem solT_empty {m : Mod} {ds : List Int} (hM : MOk m) (hd : DOk m.doms.length ds) (h : (prop m ds).contains 0 = true) : solT m ds = [] := by
  rw [← solT_prop hM hd]; unfold solT; rw [tupL_0 h]; rfl
theorem solT_leaf {m : Mod} {ds : List Int} (hM : MOk m) (hd : DOk m.doms.length ds) (h0 : (prop m ds).contains 0 = false) (h : ∀ i, i < (prop m ds).length → (valsI ((prop m ds).getD i 0)).length = 1) : solT m ds = [firstL (prop m ds)] := by
  have hp := propOk hM hd
  rw [← hp.sol]
  exact solT_one hM hp.ok (hp.fix.resolve_left (by rw [h0]; simp)) h
def brTo (m : Mod) (ds : List Int) (i k : Nat) : List (List Int) := ((valsI (ds.getD i 0)).take k).flatMap (fun v => solT m (ds.set i (ishl 1 v)))
theorem brTo_0 (m : Mod) (ds : List Int) (i : Nat) : brTo m ds i 0 = [] := rfl
theorem brTo_succ {m : Mod} {ds : List Int} {i k : Nat} (h : k < (valsI (ds.getD i 0)).length) : brTo m ds i (k + 1) = brTo m ds i k ++ solT m (ds.set i (ishl 1 ((valsI (ds.getD i 0)).getD k 0))) := by
  unfold brTo; rw [take_succ_getD 0 h, List.flatMap_append]; simp
theorem brTo_all {m : Mod} {ds : List Int} {i k : Nat} (hi : i < ds.length) (h : ∀ j, j < i → (valsI (ds.getD j 0)).length = 1) (hk : (valsI (ds.getD i 0)).length ≤ k) : brTo m ds i k = solT m ds := by
  unfold brTo; rw [List.take_of_length_le hk, ← solT_split hi h]
theorem brTo_le (m : Mod) (ds : List Int) (i k : Nat) : (brTo m ds i k).length ≤ ((valsI (ds.getD i 0)).flatMap (fun v => solT m (ds.set i (ishl 1 v)))).length := by
  unfold brTo
  generalize valsI (ds.getD i 0) = xs
  have : xs.flatMap (fun v => solT m (ds.set i (ishl 1 v))) = (xs.take k).flatMap (fun v => solT m (ds.set i (ishl 1 v))) ++ (xs.drop k).flatMap (fun v => solT m (ds.set i (ishl 1 v))) := by
    rw [← List.flatMap_append, List.take_append_drop]
  rw [this, List.length_append]; omega
theorem brTo_le' {m : Mod} {ds : List Int} {i : Nat} (hi : i < ds.length) (h : ∀ j, j < i → (valsI (ds.getD j 0)).length = 1) (k : Nat) : (brTo m ds i k).length ≤ (solT m ds).length := by
  rw [solT_split hi h]; exact brTo_le m ds i k
theorem firstL_take {ds : List Int} {k : Nat} (h : k < ds.length) : firstL (ds.take k) ++ [(valsI (ds.getD k 0)).getD 0 0] = firstL (ds.take (k + 1)) := by
  unfold firstL; rw [take_succ_getD 0 h, List.map_append]; rfl
theorem br_exit {a : Nat} {n : Nat} {l : Int} (h : (decide ((a : Int) < (n : Int)) && decide (l = 1)) = false) : ¬ a < n ∨ l ≠ 1 := by
  by_cases h1 : a < n
  · right; intro e; subst e; simp at h; omega
  · exact .inl h1
theorem br_go {a : Nat} {n : Nat} {l : Int} (h : (decide ((a : Int) < (n : Int)) && decide (l = 1)) = true) : a < n ∧ l = 1 := by
  simp only [Bool.and_eq_true, decide_eq_true_eq] at h; exact ⟨by omega, h.2⟩
theorem br_lt {a b : Nat} {x y : Nat} (h : (decide ((a : Int) < (b : Int)) && decide ((x : Int) < (y : Int))) = true) : a < b ∧ x < y := by
  simp only [Bool.and_eq_true, decide_eq_true_eq] at h; omega
theorem br_out {a b : Nat} {x y : Nat} (h : (decide ((a : Int) < (b : Int)) && decide ((x : Int) < (y : Int))) = false) (hx : x < y) : b ≤ a := by
  have e : decide ((x : Int) < (y : Int)) = true := decide_eq_true (by omega)
  rw [e, Bool.and_true, decide_eq_false_iff_not] at h; omega
end
section
theorem vals_of {x : List Int} (h : allInB x 0 5 = true) : Vals x := fun v hv => by
  simp only [allInB, List.all_eq_true] at h
  exact withinB_iff.1 (h v hv)
theorem allIn_of {x : List Int} (h : Vals x) : allInB x 0 5 = true := by
  simp only [allInB, List.all_eq_true]; exact fun v hv => withinB_iff.2 (h v hv)
def isSolT (m : Mod) (x : List Int) : Bool := (validModB m && (decide ((x.length : Int) = (m.doms.length : Int)) && allInB x 0 5)) && isSolB m x
theorem sols_few {m : Mod} (h : MOk m) : (sols m).length ≤ 1296 := solT_few h.n.2
section at_
variable {m : Mod} {r : Int}
end at_
theorem sols_len {m : Mod} {x : List Int} (h : x ∈ sols m) : x.length = m.doms.length := (mem_tupL.1 (List.mem_filter.1 (show x ∈ (tupL m.doms).filter (metB m) from h)).1).1
theorem sols_vals {m : Mod} {x : List Int} (h : x ∈ sols m) : Vals x := (mem_tupL.1 (List.mem_filter.1 (show x ∈ (tupL m.doms).filter (metB m) from h)).1).vals
theorem sols_ne {m : Mod} (hM : MOk m) : ∀ x ∈ sols m, x ≠ [] := fun x hx e => by
  have h1 := sols_len hx; rw [e] at h1; have := hM.n; simp at h1; omega
end
section
theorem sols_mem {m : Mod} {x : List Int} : x ∈ sols m ↔ Box m.doms x ∧ metB m x = true := by
  unfold sols solT; rw [List.mem_filter, mem_tupL]
theorem sols_isSol {m : Mod} (hM : MOk m) {x : List Int} (h : x ∈ sols m) : isSolT m x = true := by
  obtain ⟨hb, hm⟩ := sols_mem.1 h
  have h1 := hb.1
  unfold isSolT isSolB
  rw [hM.v, hm, allIn_of hb.vals, decide_eq_true (by omega)]
  have : inDomB m x = true := List.all_eq_true.2 fun i hi => (mem_valsI.1 (hb.2 i (by have := List.mem_range.1 hi; omega))).2
  rw [this]; rfl
/-! Formulas with one quantifier for all. -/
end
section
/-! The values in a list of tuples. -/
end
section
/-! Entailment. -/
end
section
theorem cloneC_ok {Hxs : Hp} {vxs : Value} (xs : List Con) (hb : xs.length ≤ 1000) (hxs : Cons Hxs vxs xs) : Spec Tryz.prog 150 [vxs] [Hxs] ((fun Hq vq => OwnL 88 5 Hq Hxs ConV vq xs)) := by
 refine spec_of Tryz.func150 rfl rfl rfl (fun B => ?_)
 refine cS (cr (sg rfl (ln (qc (cS (cS (cr (mv rfl (kl_eqlnilX rfl rfl ‹_› (fun bn nn nx => ?_))))))))))
 refine ln (qc (cd9 rfl (fun c3 => ?_) (fun c3 => ?_)))
 ·have c3r := c3
  try simp only [smpE] at c3
  refine cS (cr (sg rfl (ln (qc (rt ?_)))))
  exact kq_ret rfl rfl noHp (fr_no _) (by rw [nn ‹_›]; exact OwnL.nil)
 ·have c3r := c3
  try simp only [smpE] at c3
  refine sk (qc (cS (cr (kl_bs0k (K := Hxs) ConV rfl (fun v4 H5 f6 o7 => ?_)))))
  refine mv rfl (kl_apS rfl rfl o7 ‹_› (fun _ _ h => h) (by simp; omega) (by decide) (fun v8 H9 o10 f11 => ?_))
  have f12 := f11 B f6 (Nat.le_refl _)
  refine sg rfl (ln (qc (rt ?_)))
  exact kq_ret rfl rfl H9 f12 o10
theorem copyConI_ok {Hcv : Hp} {vcv : Value} {Hca : Hp} {vca : Value} {Hcr : Hp} {vcr : Value} (c : Con) (hc : ConSm 100 c) (hcv : Ints Hcv vcv c.vars) (hca : Ints Hca vca c.args) (hcr : Rows Hcr vcr c.rows) : Spec Tryz.prog 177 [.agg #[.int .i64 c.kind, vcv, vca, .int .i64 c.bound, vcr]] [Hcv, Hca, Hcr] (fun Hq vq => ConR Hq vq c) := by
 have h1 := hc.v1
 have h2 := hc.v
 have h3 := hc.a
 have h4 := hc.r
 have h5 := hc.rr
 refine spec_of Tryz.func177 rfl rfl rfl (fun B => ?_)
 refine cS (cr (kl_box rfl rfl (fun p1 H2 f3 a4 => ?_)))
 refine kl_alloc (cs := [.int .i64 (0 : Int), .slice none 0 0, .slice none 0 0, .int .i64 (0 : Int), .slice none 0 0]) rfl (fun b5 hb6 => ?_)
 refine ln (qc (cS (cr (fd9 rfl ‹_› (fun p7 a8 => ?_)))))
 refine ld rfl ‹_› (le9 rfl ‹_› (fun l9 => ?_))
 refine kl_mkL0 (R := RowV) rfl rfl (by omega) (by omega) (by decide) (fun v10 H11 f12 o13 => ?_)
 refine sg rfl (ln (qc (cS (cS (cr (fd9 rfl ‹_› (fun p14 a15 => ?_)))))))
 refine ld rfl ‹_› (le9 rfl ‹_› (fun l16 => ?_))
 refine mv rfl (ln (qc (bl (kc_loopK (A := Nat × List (List Int) × Value × Hp × Hp) (fun zz => (zz.1 ≤ c.rows.length) ∧ (zz.2.1 = c.rows.take zz.1) ∧ Fr B zz.2.2.2.2 ∧ OwnL 23 1 zz.2.2.2.1 zz.2.2.2.2 RowV zz.2.2.1 zz.2.1 ∧ Fr B zz.2.2.2.1) (fun zz => c.rows.length - zz.1) (fun zz => zz.2.2.2.2) (fun zz => [zz.2.2.2.1, sing b5 (.cells [.int .i64 (0 : Int), .slice none 0 0, .slice none 0 0, .int .i64 (0 : Int), .slice none 0 0].toArray 88 (0, 0))]) (fun zz => [(13, .int .i64 (zz.1 : Int)), (3, zz.2.2.1)]) (0, ([]), v10, H11, noHp) (pk [1, 2, 11, 12] rfl) (pk [13, 3] rfl) rfl ⟨Nat.zero_le _, rfl, (fr_no _), o13, f12⟩ ?_))))
 rintro ⟨k, out, v22, H19, K23⟩ hJ25
 obtain ⟨hk17, hi18, f24, o20, f21⟩ : (k ≤ c.rows.length) ∧ (out = c.rows.take k) ∧ Fr B K23 ∧ OwnL 23 1 H19 K23 RowV v22 out ∧ Fr B H19 := hJ25
 change KC _ _ (K23 :: _) [H19, sing b5 (.cells [.int .i64 (0 : Int), .slice none 0 0, .slice none 0 0, .int .i64 (0 : Int), .slice none 0 0].toArray 88 (0, 0))] _ ([(13, .int .i64 (k : Int)), (3, v22)] ++ _)
 refine cS (cr (ls9 rfl rfl ?_))
 refine ln (qc (cS (ci9 rfl (fun c26 => ?_) (fun c26 => ?_))))
 ·refine sk (qc (cS (bl (cS (cr (kl_inS rfl rfl ‹_› (by omega) (fun p27 u29 h30 a28 => ?_)))))))
  refine ld rfl ‹_› (sg rfl (ln (qc (cr (mv rfl (mv rfl (kl_call rfl rfl (copied_ok (c.rows.getD k []) (by first | omega | (have h6 := h5 _ (getD_mem (d := []) (by omega : k < c.rows.length)); omega)) ‹_›) (fun v31 H32 f33 o34 => ?_))))))))
  have h35 := OwnL.ints o34
  refine bs9 rfl rfl rfl (by decide) (ca (by first | exact Sl.cells ‹_› | exact OwnL.cells ‹_›) ca_nil) (fun v36 H37 f38 r39 s40 => ?_)
  refine cm9 K23 H32 (fun c41 => ?_)
  have o42 := OwnL.mono (K' := orHp K23 H32) o20 orL
  refine aL9 (c.rows.getD k []) rfl rfl o42 ‹_› ⟨_, rfl, Sl.mono ‹_› (orC c41) (fun _ _ h => h)⟩ (oc (Sl.oneCell ‹_›) oc_nil) (by (have h9 := congrArg List.length hi18; simp at h9; omega)) (by decide) (fun v43 H44 o45 f46 => ?_)
  have f47 := f46 B f21 (Nat.le_refl _)
  refine sg rfl (ln (qc (cr (ic9 rfl rfl (by omega) ?_))))
  refine mv rfl (ln (tk [H44, sing b5 (.cells [.int .i64 (0 : Int), .slice none 0 0, .slice none 0 0, .int .i64 (0 : Int), .slice none 0 0].toArray 88 (0, 0))] ?_))
  refine kq_roundK ((k + 1), (out ++ [(c.rows.getD k [])]), v43, H44, (orHp K23 H32)) (by omega) (⟨by omega, (by rw [hi18, take_succ_getD [] (by omega)]), (fr_or f24 f33), o45, f47⟩) (pk [13, 3] rfl) (pk [1, 2, 11, 12] rfl) rfl slr9
 ·refine ex9 (qc (cS (kc_tree (fun i => ([11, 12] : List Nat).contains i) [] (by kernel_rfl) ?_)))
  refine tq 0 nsl rfl (fd9 rfl ‹_› (fun p48 a49 => ?_))
  refine ln (qq (tq 1 nsl rfl (ld rfl ‹_› (ln (qq (tq 2 nsl rfl (fd9 rfl ‹_› (fun p50 a51 => ?_))))))))
  refine ln (qq (tq 3 nsl rfl (ld rfl ‹_› (ln (qq (tq 5 nsl rfl (fd9 rfl ‹_› (fun p52 a53 => ?_))))))))
  refine ln (qq (tq 6 nsl rfl (ld rfl ‹_› (ln (qq (tq 8 nsl rfl (fd9 rfl ‹_› (fun p54 a55 => ?_))))))))
  refine ln (qq (tq 9 nsl rfl (ld rfl ‹_› (ln (qq (tq 10 nsl rfl (mv rfl (ln (qq (ta 4 rfl (kl_call rfl rfl (copied_ok c.vars (by first | omega | (have h6 := h5 _ (getD_mem (d := []) (by omega : k < c.rows.length)); omega)) ‹_›) (fun v56 H57 f58 o59 => ?_))))))))))))
  have h60 := OwnL.ints o59
  refine ln (qa nsl (ta 7 rfl (kl_call rfl rfl (copied_ok c.args (by first | omega | (have h6 := h5 _ (getD_mem (d := []) (by omega : k < c.rows.length)); omega)) ‹_›) (fun v61 H62 f63 o64 => ?_))))
  have h65 := OwnL.ints o64
  refine ln (qa nsl (ta 11 rfl (kl_bd rfl (cp rfl (cp (Sl.cells ‹_›) (cp (Sl.cells ‹_›) (cp rfl (cp (OwnL.cells ‹_›) cp_nil))))) rfl ?_)))
  refine ln (qx rfl (ta 12 rfl (kl_stW (us := [.int .i64 c.kind, v56, v61, .int .i64 c.bound, v22]) rfl rfl rfl rfl (oc rfl (oc (Sl.oneCell ‹_›) (oc (Sl.oneCell ‹_›) (oc rfl (oc (OwnL.oneCell ‹_›) oc_nil))))) rfl ?_)))
  refine cg [H19, sing b5 (.cells [.int .i64 c.kind, v56, v61, .int .i64 c.bound, v22].toArray 88 (0, 0))] rfl ?_
  refine ln (qx rfl (kt_end (by kernel_rfl) ?_))
  refine qc (rt (kq_frz H19 ?_))
  refine kq_cmp H19 K23 (fun c66 => ?_)
  refine kq_cmp H62 (orHp H19 K23) (fun c67 => ?_)
  refine kq_cmp H57 (orHp H62 (orHp H19 K23)) (fun c68 => ?_)
  exact kq_retC rfl rfl rfl (orHp H57 (orHp H62 (orHp H19 K23))) (fr_or f58 (fr_or f63 (fr_or f21 f24))) ⟨_, rfl, _, _, _, rfl, (Sl.mono ‹_› (fun b o h => orL b o h) (fun _ _ h => h)), (Sl.mono ‹_› (fun b o h => orC c68 b o (orL b o h)) (fun _ _ h => h)), (by have e9 : out = c.rows := (by rw [hi18, List.take_of_length_le (by omega)]); rw [← e9]; exact (Rows.mono' (OwnL.rowsK o20 c66) (fun b o h => orC c68 b o (orC c67 b o h))))⟩
theorem copyModI_ok {Hmd : Hp} {vmd : Value} {Hmc : Hp} {vmc : Value} (m : Mod) (hm : ModSm 100 m) (hmd : Ints Hmd vmd m.doms) (hmc : Cons Hmc vmc m.cons) : Spec Tryz.prog 151 [.agg #[vmd, vmc]] [Hmd, Hmc] (fun Hq vq => ModR Hq vq m) := by
 have h1 := hm.d1
 have h2 := hm.d
 have h3 := hm.c
 have h4 := hm.cc
 refine spec_of Tryz.func151 rfl rfl rfl (fun B => ?_)
 refine cS (cr (kl_box rfl rfl (fun p1 H2 f3 a4 => ?_)))
 refine kl_alloc (cs := [.slice none 0 0, .slice none 0 0]) rfl (fun b5 hb6 => ?_)
 refine ln (qc (cS (kc_tree (fun i => ([7, 9] : List Nat).contains i) [] (by kernel_rfl) ?_)))
 refine tq 0 nsl rfl (fd9 rfl ‹_› (fun p7 a8 => ?_))
 refine ln (qq (tq 1 nsl rfl (ld rfl ‹_› (ln (qq (tq 3 nsl rfl (fd9 rfl ‹_› (fun p9 a10 => ?_))))))))
 refine ln (qq (tq 4 nsl rfl (ld rfl ‹_› (ln (qq (tq 5 nsl rfl (le9 rfl ‹_› (fun l11 => ?_))))))))
 refine ln (qq (kt_c 2 6 8 rfl rfl rfl (by kernel_rfl) ?_ ?_ ?_))
 ·refine kl_call rfl rfl (copied_ok m.doms (by omega) ‹_›) (fun v12 H13 f14 o15 => ?_)
  have h16 := OwnL.ints o15
  refine ln (qa nsl (kt_b 6 8 rfl rfl (by kernel_rfl) ?_ ?_))
  ·refine kl_mkL0 (R := ConV) rfl rfl (by omega) (by omega) (by decide) (fun v17 H18 f19 o20 => ?_)
   refine ln (qa nsl (kt_b 7 8 rfl rfl (by kernel_rfl) ?_ ?_))
   ·refine kl_bd rfl (cp (Sl.cells ‹_›) (cp (OwnL.cells ‹_›) cp_nil)) rfl ?_
    refine ln (qx rfl (ta 8 rfl (kl_alloc (cs := [.slice none 0 0, .slice none 0 0]) rfl (fun b21 hb22 => ?_))))
    refine ln (qa nsl (ta 9 rfl (kl_stW (us := [v12, v17]) rfl rfl rfl rfl (oc (Sl.oneCell ‹_›) (oc (OwnL.oneCell ‹_›) oc_nil)) rfl ?_)))
    refine cg [sing b21 (.cells [v12, v17].toArray 26 (0, 0)), H18, sing b5 (.cells [.slice none 0 0, .slice none 0 0].toArray 26 (0, 0))] rfl ?_
    refine ln (qx rfl (kt_end (by kernel_rfl) ?_))
    refine qc (cS (cS (cr (fd9 rfl ‹_› (fun p23 a24 => ?_)))))
    refine ld rfl ‹_› (le9 rfl ‹_› (fun l25 => ?_))
    refine mv rfl (ln (qc (bl (kc_loopK (A := Nat × List Con × Value × Hp × Hp) (fun zz => (zz.1 ≤ m.cons.length) ∧ (zz.2.1 = m.cons.take zz.1) ∧ Fr B zz.2.2.2.2 ∧ OwnL 88 5 zz.2.2.2.1 zz.2.2.2.2 ConV zz.2.2.1 zz.2.1 ∧ Fr B zz.2.2.2.1) (fun zz => m.cons.length - zz.1) (fun zz => zz.2.2.2.2) (fun zz => [sing b21 (.cells [v12, zz.2.2.1].toArray 26 (0, 0)), zz.2.2.2.1, sing b5 (.cells [.slice none 0 0, .slice none 0 0].toArray 26 (0, 0))]) (fun zz => [(17, .int .i64 (zz.1 : Int))]) (0, ([]), v17, H18, noHp) (pk [2, 3, 15, 16] rfl) (pc 17 rfl pn) rfl ⟨Nat.zero_le _, rfl, (fr_no _), o20, f19⟩ ?_))))
    rintro ⟨k, out, v31, H28, K32⟩ hJ34
    obtain ⟨hk26, hi27, f33, o29, f30⟩ : (k ≤ m.cons.length) ∧ (out = m.cons.take k) ∧ Fr B K32 ∧ OwnL 88 5 H28 K32 ConV v31 out ∧ Fr B H28 := hJ34
    change KC _ _ (K32 :: _) [sing b21 (.cells [v12, v31].toArray 26 (0, 0)), H28, sing b5 (.cells [.slice none 0 0, .slice none 0 0].toArray 26 (0, 0))] _ ([(17, .int .i64 (k : Int))] ++ _)
    refine cS (cr (ls9 rfl rfl ?_))
    refine ln (qc (cS (ci9 rfl (fun c35 => ?_) (fun c35 => ?_))))
    ·refine sk (qc (cS (bl (cS (cr (kl_inC rfl rfl ‹_› (by omega) (fun p36 u38 u39 u40 h41 h42 h43 a37 => ?_)))))))
     refine kl_ldS rfl ‹_› rfl ?_
     refine kl_alloc (cs := [.int .i64 (0 : Int), .slice none 0 0, .slice none 0 0, .int .i64 (0 : Int), .slice none 0 0]) rfl (fun b44 hb45 => ?_)
     refine kl_stW (us := [.int .i64 ((m.cons.getD k nilCon).kind), u38, u39, .int .i64 ((m.cons.getD k nilCon).bound), u40]) rfl rfl rfl rfl (oc rfl (oc (Sl.oneCell ‹_›) (oc (Sl.oneCell ‹_›) (oc rfl (oc (Sl.oneCell ‹_›) oc_nil))))) rfl ?_
     refine cg [sing b44 (.cells [.int .i64 ((m.cons.getD k nilCon).kind), u38, u39, .int .i64 ((m.cons.getD k nilCon).bound), u40].toArray 88 (0, 0)), sing b21 (.cells [v12, v31].toArray 26 (0, 0)), H28, sing b5 (.cells [.slice none 0 0, .slice none 0 0].toArray 26 (0, 0))] rfl ?_
     refine ln (qc (kc_tree (fun i => ([5, 7] : List Nat).contains i) [sing b44 (.cells [.int .i64 ((m.cons.getD k nilCon).kind), u38, u39, .int .i64 ((m.cons.getD k nilCon).bound), u40].toArray 88 (0, 0)), sing b21 (.cells [v12, v31].toArray 26 (0, 0))] (by kernel_rfl) ?_))
     refine kt_q 0 (.cons_cons _ (.cons_cons _ nsl)) rfl (by kernel_rfl) (fV rfl (ln (qq (kt_q 1 (.cons_cons _ (.cons_cons _ nsl)) rfl (by kernel_rfl) (ld rfl (at_box (T := 26) (cs := [v12, v31]) (off := 1) (fz := (0, 0))) (ln (qq (kt_q 2 (.cons_cons _ (.cons_cons _ nsl)) rfl (by kernel_rfl) (kl_ldS rfl (at_box (T := 88) (cs := [.int .i64 ((m.cons.getD k nilCon).kind), u38, u39, .int .i64 ((m.cons.getD k nilCon).bound), u40]) (off := 0) (fz := (0, 0))) rfl ?_)))))))))
     refine ln (qq (ta 3 rfl (kl_call rfl rfl (copyConI_ok (m.cons.getD k nilCon) (h4 _ (getD_mem (by omega))) ‹_› ‹_› ‹_›) (fun v46 H47 f48 h49 => ?_))))
     obtain ⟨_, rfl, h53⟩ := h49
     have h53' := h53
     obtain ⟨u50, u51, u52, rfl, h54, h55, h56⟩ := h53
     refine ln (qa (.cons_cons _ (.cons_cons _ nsl)) (ta 4 rfl (kl_bsK rfl (fun v57 H58 f59 r60 => ?_))))
     refine ln (qa (.cons_cons _ (.cons_cons _ nsl)) (ta 5 rfl (cm9 K32 H47 (fun c61 => ?_))))
     have o62 := OwnL.mono (K' := orHp K32 H47) o29 orL
     refine aL9 (m.cons.getD k nilCon) rfl rfl o62 r60 (RMono.mono (orC c61) ‹_›) (oc rfl (oc (Sl.oneCell ‹_›) (oc (Sl.oneCell ‹_›) (oc rfl (oc (Sl.oneCell ‹_›) oc_nil))))) (by (have h9 := congrArg List.length hi27; simp at h9; omega)) (by decide) (fun v63 H64 o65 f66 => ?_)
     have f67 := f66 B f30 (Nat.le_refl _)
     refine ln (qx rfl (kt_q 6 (.cons_cons _ (.cons_cons _ nsl)) rfl (by kernel_rfl) (fV rfl (ln (qq (ta 7 rfl (sB rfl rfl rfl (OwnL.oneCell ‹_›) (OwnL.cells ‹_›) ?_)))))))
     refine cg [sing b44 (.cells [.int .i64 ((m.cons.getD k nilCon).kind), u38, u39, .int .i64 ((m.cons.getD k nilCon).bound), u40].toArray 88 (0, 0)), sing b21 (.cells [v12, v63].toArray 26 (0, 0)), H64, sing b5 (.cells [.slice none 0 0, .slice none 0 0].toArray 26 (0, 0))] rfl ?_
     refine ln (qx rfl (kt_end (by kernel_rfl) ?_))
     refine qc (cr (ic9 rfl rfl (by omega) ?_))
     refine mv rfl (ln (tk [sing b21 (.cells [v12, v63].toArray 26 (0, 0)), H64, sing b5 (.cells [.slice none 0 0, .slice none 0 0].toArray 26 (0, 0))] ?_))
     refine kq_roundK ((k + 1), (out ++ [(m.cons.getD k nilCon)]), v63, H64, (orHp K32 H47)) (by omega) (⟨by omega, (by rw [hi27, take_succ_getD nilCon (by omega)]), (fr_or f33 f48), o65, f67⟩) (pc 17 rfl pn) (pk [2, 3, 15, 16] rfl) rfl slr9
    ·refine ex9 (qc (cS (cr (kl_ldW rfl rfl (kl_stW (us := [v12, v31]) rfl rfl rfl rfl (oc (Sl.oneCell ‹_›) (oc (OwnL.oneCell ‹_›) oc_nil)) rfl ?_)))))
     refine cg [sing b21 (.cells [v12, v31].toArray 26 (0, 0)), H28, sing b5 (.cells [v12, v31].toArray 26 (0, 0))] rfl ?_
     refine ln (qc (rt (kq_frz H28 ?_)))
     refine kq_cmp H28 K32 (fun c68 => ?_)
     refine kq_cmp H13 (orHp H28 K32) (fun c69 => ?_)
     exact kq_retC rfl rfl rfl (orHp H13 (orHp H28 K32)) (fr_or f14 (fr_or f30 f33)) ⟨_, _, rfl, (Sl.mono ‹_› (fun b o h => orL b o h) (fun _ _ h => h)), (by have e9 : out = m.cons := (by rw [hi27, List.take_of_length_le (by omega)]); rw [← e9]; exact (Cons.mono' (OwnL.consK o29 c68) (fun b o h => orC c69 b o h)))⟩
   ·refine kl_alloc (cs := [.slice none 0 0, .slice none 0 0]) rfl (fun b70 hb71 => ?_)
    refine ln (qa nsl (ta 7 rfl (kl_bd rfl (cp (Sl.cells ‹_›) (cp (OwnL.cells ‹_›) cp_nil)) rfl ?_)))
    refine ln (qx rfl (ta 9 rfl (kl_stW (us := [v12, v17]) rfl rfl rfl rfl (oc (Sl.oneCell ‹_›) (oc (OwnL.oneCell ‹_›) oc_nil)) rfl ?_)))
    refine cg [sing b70 (.cells [v12, v17].toArray 26 (0, 0)), H18, sing b5 (.cells [.slice none 0 0, .slice none 0 0].toArray 26 (0, 0))] rfl ?_
    refine ln (qx rfl (kt_end (by kernel_rfl) ?_))
    refine qc (cS (cS (cr (fd9 rfl ‹_› (fun p72 a73 => ?_)))))
    refine ld rfl ‹_› (le9 rfl ‹_› (fun l74 => ?_))
    refine mv rfl (ln (qc (bl (kc_loopK (A := Nat × List Con × Value × Hp × Hp) (fun zz => (zz.1 ≤ m.cons.length) ∧ (zz.2.1 = m.cons.take zz.1) ∧ Fr B zz.2.2.2.2 ∧ OwnL 88 5 zz.2.2.2.1 zz.2.2.2.2 ConV zz.2.2.1 zz.2.1 ∧ Fr B zz.2.2.2.1) (fun zz => m.cons.length - zz.1) (fun zz => zz.2.2.2.2) (fun zz => [sing b70 (.cells [v12, zz.2.2.1].toArray 26 (0, 0)), zz.2.2.2.1, sing b5 (.cells [.slice none 0 0, .slice none 0 0].toArray 26 (0, 0))]) (fun zz => [(17, .int .i64 (zz.1 : Int))]) (0, ([]), v17, H18, noHp) (pk [2, 3, 15, 16] rfl) (pc 17 rfl pn) rfl ⟨Nat.zero_le _, rfl, (fr_no _), o20, f19⟩ ?_))))
    rintro ⟨k, out, v80, H77, K81⟩ hJ83
    obtain ⟨hk75, hi76, f82, o78, f79⟩ : (k ≤ m.cons.length) ∧ (out = m.cons.take k) ∧ Fr B K81 ∧ OwnL 88 5 H77 K81 ConV v80 out ∧ Fr B H77 := hJ83
    change KC _ _ (K81 :: _) [sing b70 (.cells [v12, v80].toArray 26 (0, 0)), H77, sing b5 (.cells [.slice none 0 0, .slice none 0 0].toArray 26 (0, 0))] _ ([(17, .int .i64 (k : Int))] ++ _)
    refine cS (cr (ls9 rfl rfl ?_))
    refine ln (qc (cS (ci9 rfl (fun c84 => ?_) (fun c84 => ?_))))
    ·refine sk (qc (cS (bl (cS (cr (kl_inC rfl rfl ‹_› (by omega) (fun p85 u87 u88 u89 h90 h91 h92 a86 => ?_)))))))
     refine kl_ldS rfl ‹_› rfl ?_
     refine kl_alloc (cs := [.int .i64 (0 : Int), .slice none 0 0, .slice none 0 0, .int .i64 (0 : Int), .slice none 0 0]) rfl (fun b93 hb94 => ?_)
     refine kl_stW (us := [.int .i64 ((m.cons.getD k nilCon).kind), u87, u88, .int .i64 ((m.cons.getD k nilCon).bound), u89]) rfl rfl rfl rfl (oc rfl (oc (Sl.oneCell ‹_›) (oc (Sl.oneCell ‹_›) (oc rfl (oc (Sl.oneCell ‹_›) oc_nil))))) rfl ?_
     refine cg [sing b93 (.cells [.int .i64 ((m.cons.getD k nilCon).kind), u87, u88, .int .i64 ((m.cons.getD k nilCon).bound), u89].toArray 88 (0, 0)), sing b70 (.cells [v12, v80].toArray 26 (0, 0)), H77, sing b5 (.cells [.slice none 0 0, .slice none 0 0].toArray 26 (0, 0))] rfl ?_
     refine ln (qc (kc_tree (fun i => ([5, 7] : List Nat).contains i) [sing b93 (.cells [.int .i64 ((m.cons.getD k nilCon).kind), u87, u88, .int .i64 ((m.cons.getD k nilCon).bound), u89].toArray 88 (0, 0)), sing b70 (.cells [v12, v80].toArray 26 (0, 0))] (by kernel_rfl) ?_))
     refine kt_q 0 (.cons_cons _ (.cons_cons _ nsl)) rfl (by kernel_rfl) (fV rfl (ln (qq (kt_q 1 (.cons_cons _ (.cons_cons _ nsl)) rfl (by kernel_rfl) (ld rfl (at_box (T := 26) (cs := [v12, v80]) (off := 1) (fz := (0, 0))) (ln (qq (kt_q 2 (.cons_cons _ (.cons_cons _ nsl)) rfl (by kernel_rfl) (kl_ldS rfl (at_box (T := 88) (cs := [.int .i64 ((m.cons.getD k nilCon).kind), u87, u88, .int .i64 ((m.cons.getD k nilCon).bound), u89]) (off := 0) (fz := (0, 0))) rfl ?_)))))))))
     refine ln (qq (ta 3 rfl (kl_call rfl rfl (copyConI_ok (m.cons.getD k nilCon) (h4 _ (getD_mem (by omega))) ‹_› ‹_› ‹_›) (fun v95 H96 f97 h98 => ?_))))
     obtain ⟨_, rfl, h102⟩ := h98
     have h102' := h102
     obtain ⟨u99, u100, u101, rfl, h103, h104, h105⟩ := h102
     refine ln (qa (.cons_cons _ (.cons_cons _ nsl)) (ta 4 rfl (kl_bsK rfl (fun v106 H107 f108 r109 => ?_))))
     refine ln (qa (.cons_cons _ (.cons_cons _ nsl)) (ta 5 rfl (cm9 K81 H96 (fun c110 => ?_))))
     have o111 := OwnL.mono (K' := orHp K81 H96) o78 orL
     refine aL9 (m.cons.getD k nilCon) rfl rfl o111 r109 (RMono.mono (orC c110) ‹_›) (oc rfl (oc (Sl.oneCell ‹_›) (oc (Sl.oneCell ‹_›) (oc rfl (oc (Sl.oneCell ‹_›) oc_nil))))) (by (have h9 := congrArg List.length hi76; simp at h9; omega)) (by decide) (fun v112 H113 o114 f115 => ?_)
     have f116 := f115 B f79 (Nat.le_refl _)
     refine ln (qx rfl (kt_q 6 (.cons_cons _ (.cons_cons _ nsl)) rfl (by kernel_rfl) (fV rfl (ln (qq (ta 7 rfl (sB rfl rfl rfl (OwnL.oneCell ‹_›) (OwnL.cells ‹_›) ?_)))))))
     refine cg [sing b93 (.cells [.int .i64 ((m.cons.getD k nilCon).kind), u87, u88, .int .i64 ((m.cons.getD k nilCon).bound), u89].toArray 88 (0, 0)), sing b70 (.cells [v12, v112].toArray 26 (0, 0)), H113, sing b5 (.cells [.slice none 0 0, .slice none 0 0].toArray 26 (0, 0))] rfl ?_
     refine ln (qx rfl (kt_end (by kernel_rfl) ?_))
     refine qc (cr (ic9 rfl rfl (by omega) ?_))
     refine mv rfl (ln (tk [sing b70 (.cells [v12, v112].toArray 26 (0, 0)), H113, sing b5 (.cells [.slice none 0 0, .slice none 0 0].toArray 26 (0, 0))] ?_))
     refine kq_roundK ((k + 1), (out ++ [(m.cons.getD k nilCon)]), v112, H113, (orHp K81 H96)) (by omega) (⟨by omega, (by rw [hi76, take_succ_getD nilCon (by omega)]), (fr_or f82 f97), o114, f116⟩) (pc 17 rfl pn) (pk [2, 3, 15, 16] rfl) rfl slr9
    ·refine ex9 (qc (cS (cr (kl_ldW rfl rfl (kl_stW (us := [v12, v80]) rfl rfl rfl rfl (oc (Sl.oneCell ‹_›) (oc (OwnL.oneCell ‹_›) oc_nil)) rfl ?_)))))
     refine cg [sing b70 (.cells [v12, v80].toArray 26 (0, 0)), H77, sing b5 (.cells [v12, v80].toArray 26 (0, 0))] rfl ?_
     refine ln (qc (rt (kq_frz H77 ?_)))
     refine kq_cmp H77 K81 (fun c117 => ?_)
     refine kq_cmp H13 (orHp H77 K81) (fun c118 => ?_)
     exact kq_retC rfl rfl rfl (orHp H13 (orHp H77 K81)) (fr_or f14 (fr_or f79 f82)) ⟨_, _, rfl, (Sl.mono ‹_› (fun b o h => orL b o h) (fun _ _ h => h)), (by have e9 : out = m.cons := (by rw [hi76, List.take_of_length_le (by omega)]); rw [← e9]; exact (Cons.mono' (OwnL.consK o78 c117) (fun b o h => orC c118 b o h)))⟩
  ·refine kl_alloc (cs := [.slice none 0 0, .slice none 0 0]) rfl (fun b119 hb120 => ?_)
   refine ln (qa nsl (ta 6 rfl (kl_mkL0 (R := ConV) rfl rfl (by omega) (by omega) (by decide) (fun v121 H122 f123 o124 => ?_))))
   refine ln (qa nsl (ta 7 rfl (kl_bd rfl (cp (Sl.cells ‹_›) (cp (OwnL.cells ‹_›) cp_nil)) rfl ?_)))
   refine ln (qx rfl (ta 9 rfl (kl_stW (us := [v12, v121]) rfl rfl rfl rfl (oc (Sl.oneCell ‹_›) (oc (OwnL.oneCell ‹_›) oc_nil)) rfl ?_)))
   refine cg [H122, sing b119 (.cells [v12, v121].toArray 26 (0, 0)), sing b5 (.cells [.slice none 0 0, .slice none 0 0].toArray 26 (0, 0))] rfl ?_
   refine ln (qx rfl (kt_end (by kernel_rfl) ?_))
   refine qc (cS (cS (cr (fd9 rfl ‹_› (fun p125 a126 => ?_)))))
   refine ld rfl ‹_› (le9 rfl ‹_› (fun l127 => ?_))
   refine mv rfl (ln (qc (bl (kc_loopK (A := Nat × List Con × Value × Hp × Hp) (fun zz => (zz.1 ≤ m.cons.length) ∧ (zz.2.1 = m.cons.take zz.1) ∧ Fr B zz.2.2.2.2 ∧ OwnL 88 5 zz.2.2.2.1 zz.2.2.2.2 ConV zz.2.2.1 zz.2.1 ∧ Fr B zz.2.2.2.1) (fun zz => m.cons.length - zz.1) (fun zz => zz.2.2.2.2) (fun zz => [zz.2.2.2.1, sing b119 (.cells [v12, zz.2.2.1].toArray 26 (0, 0)), sing b5 (.cells [.slice none 0 0, .slice none 0 0].toArray 26 (0, 0))]) (fun zz => [(17, .int .i64 (zz.1 : Int))]) (0, ([]), v121, H122, noHp) (pk [2, 3, 15, 16] rfl) (pc 17 rfl pn) rfl ⟨Nat.zero_le _, rfl, (fr_no _), o124, f123⟩ ?_))))
   rintro ⟨k, out, v133, H130, K134⟩ hJ136
   obtain ⟨hk128, hi129, f135, o131, f132⟩ : (k ≤ m.cons.length) ∧ (out = m.cons.take k) ∧ Fr B K134 ∧ OwnL 88 5 H130 K134 ConV v133 out ∧ Fr B H130 := hJ136
   change KC _ _ (K134 :: _) [H130, sing b119 (.cells [v12, v133].toArray 26 (0, 0)), sing b5 (.cells [.slice none 0 0, .slice none 0 0].toArray 26 (0, 0))] _ ([(17, .int .i64 (k : Int))] ++ _)
   refine cS (cr (ls9 rfl rfl ?_))
   refine ln (qc (cS (ci9 rfl (fun c137 => ?_) (fun c137 => ?_))))
   ·refine sk (qc (cS (bl (cS (cr (kl_inC rfl rfl ‹_› (by omega) (fun p138 u140 u141 u142 h143 h144 h145 a139 => ?_)))))))
    refine kl_ldS rfl ‹_› rfl ?_
    refine kl_alloc (cs := [.int .i64 (0 : Int), .slice none 0 0, .slice none 0 0, .int .i64 (0 : Int), .slice none 0 0]) rfl (fun b146 hb147 => ?_)
    refine kl_stW (us := [.int .i64 ((m.cons.getD k nilCon).kind), u140, u141, .int .i64 ((m.cons.getD k nilCon).bound), u142]) rfl rfl rfl rfl (oc rfl (oc (Sl.oneCell ‹_›) (oc (Sl.oneCell ‹_›) (oc rfl (oc (Sl.oneCell ‹_›) oc_nil))))) rfl ?_
    refine cg [sing b146 (.cells [.int .i64 ((m.cons.getD k nilCon).kind), u140, u141, .int .i64 ((m.cons.getD k nilCon).bound), u142].toArray 88 (0, 0)), H130, sing b119 (.cells [v12, v133].toArray 26 (0, 0)), sing b5 (.cells [.slice none 0 0, .slice none 0 0].toArray 26 (0, 0))] rfl ?_
    refine ln (qc (kc_tree (fun i => ([5, 7] : List Nat).contains i) [sing b146 (.cells [.int .i64 ((m.cons.getD k nilCon).kind), u140, u141, .int .i64 ((m.cons.getD k nilCon).bound), u142].toArray 88 (0, 0)), sing b119 (.cells [v12, v133].toArray 26 (0, 0))] (by kernel_rfl) ?_))
    refine kt_q 0 (.cons_cons _ (.cons _ (.cons_cons _ nsl))) rfl (by kernel_rfl) (fV rfl (ln (qq (kt_q 1 (.cons_cons _ (.cons _ (.cons_cons _ nsl))) rfl (by kernel_rfl) (ld rfl (at_box (T := 26) (cs := [v12, v133]) (off := 1) (fz := (0, 0))) (ln (qq (kt_q 2 (.cons_cons _ (.cons _ (.cons_cons _ nsl))) rfl (by kernel_rfl) (kl_ldS rfl (at_box (T := 88) (cs := [.int .i64 ((m.cons.getD k nilCon).kind), u140, u141, .int .i64 ((m.cons.getD k nilCon).bound), u142]) (off := 0) (fz := (0, 0))) rfl ?_)))))))))
    refine ln (qq (ta 3 rfl (kl_call rfl rfl (copyConI_ok (m.cons.getD k nilCon) (h4 _ (getD_mem (by omega))) ‹_› ‹_› ‹_›) (fun v148 H149 f150 h151 => ?_))))
    obtain ⟨_, rfl, h155⟩ := h151
    have h155' := h155
    obtain ⟨u152, u153, u154, rfl, h156, h157, h158⟩ := h155
    refine ln (qa (.cons_cons _ (.cons _ (.cons_cons _ nsl))) (ta 4 rfl (kl_bsK rfl (fun v159 H160 f161 r162 => ?_))))
    refine ln (qa (.cons_cons _ (.cons _ (.cons_cons _ nsl))) (ta 5 rfl (cm9 K134 H149 (fun c163 => ?_))))
    have o164 := OwnL.mono (K' := orHp K134 H149) o131 orL
    refine aL9 (m.cons.getD k nilCon) rfl rfl o164 r162 (RMono.mono (orC c163) ‹_›) (oc rfl (oc (Sl.oneCell ‹_›) (oc (Sl.oneCell ‹_›) (oc rfl (oc (Sl.oneCell ‹_›) oc_nil))))) (by (have h9 := congrArg List.length hi129; simp at h9; omega)) (by decide) (fun v165 H166 o167 f168 => ?_)
    have f169 := f168 B f132 (Nat.le_refl _)
    refine ln (qx rfl (kt_q 6 (.cons_cons _ (.cons _ (.cons_cons _ nsl))) rfl (by kernel_rfl) (fV rfl (ln (qq (ta 7 rfl (sB rfl rfl rfl (OwnL.oneCell ‹_›) (OwnL.cells ‹_›) ?_)))))))
    refine cg [sing b146 (.cells [.int .i64 ((m.cons.getD k nilCon).kind), u140, u141, .int .i64 ((m.cons.getD k nilCon).bound), u142].toArray 88 (0, 0)), H166, sing b119 (.cells [v12, v165].toArray 26 (0, 0)), sing b5 (.cells [.slice none 0 0, .slice none 0 0].toArray 26 (0, 0))] rfl ?_
    refine ln (qx rfl (kt_end (by kernel_rfl) ?_))
    refine qc (cr (ic9 rfl rfl (by omega) ?_))
    refine mv rfl (ln (tk [H166, sing b119 (.cells [v12, v165].toArray 26 (0, 0)), sing b5 (.cells [.slice none 0 0, .slice none 0 0].toArray 26 (0, 0))] ?_))
    refine kq_roundK ((k + 1), (out ++ [(m.cons.getD k nilCon)]), v165, H166, (orHp K134 H149)) (by omega) (⟨by omega, (by rw [hi129, take_succ_getD nilCon (by omega)]), (fr_or f135 f150), o167, f169⟩) (pc 17 rfl pn) (pk [2, 3, 15, 16] rfl) rfl slr9
   ·refine ex9 (qc (cS (cr (kl_ldW rfl rfl (kl_stW (us := [v12, v133]) rfl rfl rfl rfl (oc (Sl.oneCell ‹_›) (oc (OwnL.oneCell ‹_›) oc_nil)) rfl ?_)))))
    refine cg [H130, sing b119 (.cells [v12, v133].toArray 26 (0, 0)), sing b5 (.cells [v12, v133].toArray 26 (0, 0))] rfl ?_
    refine ln (qc (rt (kq_frz H130 ?_)))
    refine kq_cmp H130 K134 (fun c170 => ?_)
    refine kq_cmp H13 (orHp H130 K134) (fun c171 => ?_)
    exact kq_retC rfl rfl rfl (orHp H13 (orHp H130 K134)) (fr_or f14 (fr_or f132 f135)) ⟨_, _, rfl, (Sl.mono ‹_› (fun b o h => orL b o h) (fun _ _ h => h)), (by have e9 : out = m.cons := (by rw [hi129, List.take_of_length_le (by omega)]); rw [← e9]; exact (Cons.mono' (OwnL.consK o131 c170) (fun b o h => orC c171 b o h)))⟩
 ·refine kl_mkL0 (R := ConV) rfl rfl (by omega) (by omega) (by decide) (fun v172 H173 f174 o175 => ?_)
  refine ln (qa nsl (kt_b 2 8 rfl rfl (by kernel_rfl) ?_ ?_))
  ·refine kl_call rfl rfl (copied_ok m.doms (by omega) ‹_›) (fun v176 H177 f178 o179 => ?_)
   have h180 := OwnL.ints o179
   refine ln (qa nsl (kt_b 7 8 rfl rfl (by kernel_rfl) ?_ ?_))
   ·refine kl_bd rfl (cp (Sl.cells ‹_›) (cp (OwnL.cells ‹_›) cp_nil)) rfl ?_
    refine ln (qx rfl (ta 8 rfl (kl_alloc (cs := [.slice none 0 0, .slice none 0 0]) rfl (fun b181 hb182 => ?_))))
    refine ln (qa nsl (ta 9 rfl (kl_stW (us := [v176, v172]) rfl rfl rfl rfl (oc (Sl.oneCell ‹_›) (oc (OwnL.oneCell ‹_›) oc_nil)) rfl ?_)))
    refine cg [sing b181 (.cells [v176, v172].toArray 26 (0, 0)), H173, sing b5 (.cells [.slice none 0 0, .slice none 0 0].toArray 26 (0, 0))] rfl ?_
    refine ln (qx rfl (kt_end (by kernel_rfl) ?_))
    refine qc (cS (cS (cr (fd9 rfl ‹_› (fun p183 a184 => ?_)))))
    refine ld rfl ‹_› (le9 rfl ‹_› (fun l185 => ?_))
    refine mv rfl (ln (qc (bl (kc_loopK (A := Nat × List Con × Value × Hp × Hp) (fun zz => (zz.1 ≤ m.cons.length) ∧ (zz.2.1 = m.cons.take zz.1) ∧ Fr B zz.2.2.2.2 ∧ OwnL 88 5 zz.2.2.2.1 zz.2.2.2.2 ConV zz.2.2.1 zz.2.1 ∧ Fr B zz.2.2.2.1) (fun zz => m.cons.length - zz.1) (fun zz => zz.2.2.2.2) (fun zz => [sing b181 (.cells [v176, zz.2.2.1].toArray 26 (0, 0)), zz.2.2.2.1, sing b5 (.cells [.slice none 0 0, .slice none 0 0].toArray 26 (0, 0))]) (fun zz => [(17, .int .i64 (zz.1 : Int))]) (0, ([]), v172, H173, noHp) (pk [2, 3, 15, 16] rfl) (pc 17 rfl pn) rfl ⟨Nat.zero_le _, rfl, (fr_no _), o175, f174⟩ ?_))))
    rintro ⟨k, out, v191, H188, K192⟩ hJ194
    obtain ⟨hk186, hi187, f193, o189, f190⟩ : (k ≤ m.cons.length) ∧ (out = m.cons.take k) ∧ Fr B K192 ∧ OwnL 88 5 H188 K192 ConV v191 out ∧ Fr B H188 := hJ194
    change KC _ _ (K192 :: _) [sing b181 (.cells [v176, v191].toArray 26 (0, 0)), H188, sing b5 (.cells [.slice none 0 0, .slice none 0 0].toArray 26 (0, 0))] _ ([(17, .int .i64 (k : Int))] ++ _)
    refine cS (cr (ls9 rfl rfl ?_))
    refine ln (qc (cS (ci9 rfl (fun c195 => ?_) (fun c195 => ?_))))
    ·refine sk (qc (cS (bl (cS (cr (kl_inC rfl rfl ‹_› (by omega) (fun p196 u198 u199 u200 h201 h202 h203 a197 => ?_)))))))
     refine kl_ldS rfl ‹_› rfl ?_
     refine kl_alloc (cs := [.int .i64 (0 : Int), .slice none 0 0, .slice none 0 0, .int .i64 (0 : Int), .slice none 0 0]) rfl (fun b204 hb205 => ?_)
     refine kl_stW (us := [.int .i64 ((m.cons.getD k nilCon).kind), u198, u199, .int .i64 ((m.cons.getD k nilCon).bound), u200]) rfl rfl rfl rfl (oc rfl (oc (Sl.oneCell ‹_›) (oc (Sl.oneCell ‹_›) (oc rfl (oc (Sl.oneCell ‹_›) oc_nil))))) rfl ?_
     refine cg [sing b204 (.cells [.int .i64 ((m.cons.getD k nilCon).kind), u198, u199, .int .i64 ((m.cons.getD k nilCon).bound), u200].toArray 88 (0, 0)), sing b181 (.cells [v176, v191].toArray 26 (0, 0)), H188, sing b5 (.cells [.slice none 0 0, .slice none 0 0].toArray 26 (0, 0))] rfl ?_
     refine ln (qc (kc_tree (fun i => ([5, 7] : List Nat).contains i) [sing b204 (.cells [.int .i64 ((m.cons.getD k nilCon).kind), u198, u199, .int .i64 ((m.cons.getD k nilCon).bound), u200].toArray 88 (0, 0)), sing b181 (.cells [v176, v191].toArray 26 (0, 0))] (by kernel_rfl) ?_))
     refine kt_q 0 (.cons_cons _ (.cons_cons _ nsl)) rfl (by kernel_rfl) (fV rfl (ln (qq (kt_q 1 (.cons_cons _ (.cons_cons _ nsl)) rfl (by kernel_rfl) (ld rfl (at_box (T := 26) (cs := [v176, v191]) (off := 1) (fz := (0, 0))) (ln (qq (kt_q 2 (.cons_cons _ (.cons_cons _ nsl)) rfl (by kernel_rfl) (kl_ldS rfl (at_box (T := 88) (cs := [.int .i64 ((m.cons.getD k nilCon).kind), u198, u199, .int .i64 ((m.cons.getD k nilCon).bound), u200]) (off := 0) (fz := (0, 0))) rfl ?_)))))))))
     refine ln (qq (ta 3 rfl (kl_call rfl rfl (copyConI_ok (m.cons.getD k nilCon) (h4 _ (getD_mem (by omega))) ‹_› ‹_› ‹_›) (fun v206 H207 f208 h209 => ?_))))
     obtain ⟨_, rfl, h213⟩ := h209
     have h213' := h213
     obtain ⟨u210, u211, u212, rfl, h214, h215, h216⟩ := h213
     refine ln (qa (.cons_cons _ (.cons_cons _ nsl)) (ta 4 rfl (kl_bsK rfl (fun v217 H218 f219 r220 => ?_))))
     refine ln (qa (.cons_cons _ (.cons_cons _ nsl)) (ta 5 rfl (cm9 K192 H207 (fun c221 => ?_))))
     have o222 := OwnL.mono (K' := orHp K192 H207) o189 orL
     refine aL9 (m.cons.getD k nilCon) rfl rfl o222 r220 (RMono.mono (orC c221) ‹_›) (oc rfl (oc (Sl.oneCell ‹_›) (oc (Sl.oneCell ‹_›) (oc rfl (oc (Sl.oneCell ‹_›) oc_nil))))) (by (have h9 := congrArg List.length hi187; simp at h9; omega)) (by decide) (fun v223 H224 o225 f226 => ?_)
     have f227 := f226 B f190 (Nat.le_refl _)
     refine ln (qx rfl (kt_q 6 (.cons_cons _ (.cons_cons _ nsl)) rfl (by kernel_rfl) (fV rfl (ln (qq (ta 7 rfl (sB rfl rfl rfl (OwnL.oneCell ‹_›) (OwnL.cells ‹_›) ?_)))))))
     refine cg [sing b204 (.cells [.int .i64 ((m.cons.getD k nilCon).kind), u198, u199, .int .i64 ((m.cons.getD k nilCon).bound), u200].toArray 88 (0, 0)), sing b181 (.cells [v176, v223].toArray 26 (0, 0)), H224, sing b5 (.cells [.slice none 0 0, .slice none 0 0].toArray 26 (0, 0))] rfl ?_
     refine ln (qx rfl (kt_end (by kernel_rfl) ?_))
     refine qc (cr (ic9 rfl rfl (by omega) ?_))
     refine mv rfl (ln (tk [sing b181 (.cells [v176, v223].toArray 26 (0, 0)), H224, sing b5 (.cells [.slice none 0 0, .slice none 0 0].toArray 26 (0, 0))] ?_))
     refine kq_roundK ((k + 1), (out ++ [(m.cons.getD k nilCon)]), v223, H224, (orHp K192 H207)) (by omega) (⟨by omega, (by rw [hi187, take_succ_getD nilCon (by omega)]), (fr_or f193 f208), o225, f227⟩) (pc 17 rfl pn) (pk [2, 3, 15, 16] rfl) rfl slr9
    ·refine ex9 (qc (cS (cr (kl_ldW rfl rfl (kl_stW (us := [v176, v191]) rfl rfl rfl rfl (oc (Sl.oneCell ‹_›) (oc (OwnL.oneCell ‹_›) oc_nil)) rfl ?_)))))
     refine cg [sing b181 (.cells [v176, v191].toArray 26 (0, 0)), H188, sing b5 (.cells [v176, v191].toArray 26 (0, 0))] rfl ?_
     refine ln (qc (rt (kq_frz H188 ?_)))
     refine kq_cmp H188 K192 (fun c228 => ?_)
     refine kq_cmp H177 (orHp H188 K192) (fun c229 => ?_)
     exact kq_retC rfl rfl rfl (orHp H177 (orHp H188 K192)) (fr_or f178 (fr_or f190 f193)) ⟨_, _, rfl, (Sl.mono ‹_› (fun b o h => orL b o h) (fun _ _ h => h)), (by have e9 : out = m.cons := (by rw [hi187, List.take_of_length_le (by omega)]); rw [← e9]; exact (Cons.mono' (OwnL.consK o189 c228) (fun b o h => orC c229 b o h)))⟩
   ·refine kl_alloc (cs := [.slice none 0 0, .slice none 0 0]) rfl (fun b230 hb231 => ?_)
    refine ln (qa nsl (ta 7 rfl (kl_bd rfl (cp (Sl.cells ‹_›) (cp (OwnL.cells ‹_›) cp_nil)) rfl ?_)))
    refine ln (qx rfl (ta 9 rfl (kl_stW (us := [v176, v172]) rfl rfl rfl rfl (oc (Sl.oneCell ‹_›) (oc (OwnL.oneCell ‹_›) oc_nil)) rfl ?_)))
    refine cg [sing b230 (.cells [v176, v172].toArray 26 (0, 0)), H173, sing b5 (.cells [.slice none 0 0, .slice none 0 0].toArray 26 (0, 0))] rfl ?_
    refine ln (qx rfl (kt_end (by kernel_rfl) ?_))
    refine qc (cS (cS (cr (fd9 rfl ‹_› (fun p232 a233 => ?_)))))
    refine ld rfl ‹_› (le9 rfl ‹_› (fun l234 => ?_))
    refine mv rfl (ln (qc (bl (kc_loopK (A := Nat × List Con × Value × Hp × Hp) (fun zz => (zz.1 ≤ m.cons.length) ∧ (zz.2.1 = m.cons.take zz.1) ∧ Fr B zz.2.2.2.2 ∧ OwnL 88 5 zz.2.2.2.1 zz.2.2.2.2 ConV zz.2.2.1 zz.2.1 ∧ Fr B zz.2.2.2.1) (fun zz => m.cons.length - zz.1) (fun zz => zz.2.2.2.2) (fun zz => [sing b230 (.cells [v176, zz.2.2.1].toArray 26 (0, 0)), zz.2.2.2.1, sing b5 (.cells [.slice none 0 0, .slice none 0 0].toArray 26 (0, 0))]) (fun zz => [(17, .int .i64 (zz.1 : Int))]) (0, ([]), v172, H173, noHp) (pk [2, 3, 15, 16] rfl) (pc 17 rfl pn) rfl ⟨Nat.zero_le _, rfl, (fr_no _), o175, f174⟩ ?_))))
    rintro ⟨k, out, v240, H237, K241⟩ hJ243
    obtain ⟨hk235, hi236, f242, o238, f239⟩ : (k ≤ m.cons.length) ∧ (out = m.cons.take k) ∧ Fr B K241 ∧ OwnL 88 5 H237 K241 ConV v240 out ∧ Fr B H237 := hJ243
    change KC _ _ (K241 :: _) [sing b230 (.cells [v176, v240].toArray 26 (0, 0)), H237, sing b5 (.cells [.slice none 0 0, .slice none 0 0].toArray 26 (0, 0))] _ ([(17, .int .i64 (k : Int))] ++ _)
    refine cS (cr (ls9 rfl rfl ?_))
    refine ln (qc (cS (ci9 rfl (fun c244 => ?_) (fun c244 => ?_))))
    ·refine sk (qc (cS (bl (cS (cr (kl_inC rfl rfl ‹_› (by omega) (fun p245 u247 u248 u249 h250 h251 h252 a246 => ?_)))))))
     refine kl_ldS rfl ‹_› rfl ?_
     refine kl_alloc (cs := [.int .i64 (0 : Int), .slice none 0 0, .slice none 0 0, .int .i64 (0 : Int), .slice none 0 0]) rfl (fun b253 hb254 => ?_)
     refine kl_stW (us := [.int .i64 ((m.cons.getD k nilCon).kind), u247, u248, .int .i64 ((m.cons.getD k nilCon).bound), u249]) rfl rfl rfl rfl (oc rfl (oc (Sl.oneCell ‹_›) (oc (Sl.oneCell ‹_›) (oc rfl (oc (Sl.oneCell ‹_›) oc_nil))))) rfl ?_
     refine cg [sing b253 (.cells [.int .i64 ((m.cons.getD k nilCon).kind), u247, u248, .int .i64 ((m.cons.getD k nilCon).bound), u249].toArray 88 (0, 0)), sing b230 (.cells [v176, v240].toArray 26 (0, 0)), H237, sing b5 (.cells [.slice none 0 0, .slice none 0 0].toArray 26 (0, 0))] rfl ?_
     refine ln (qc (kc_tree (fun i => ([5, 7] : List Nat).contains i) [sing b253 (.cells [.int .i64 ((m.cons.getD k nilCon).kind), u247, u248, .int .i64 ((m.cons.getD k nilCon).bound), u249].toArray 88 (0, 0)), sing b230 (.cells [v176, v240].toArray 26 (0, 0))] (by kernel_rfl) ?_))
     refine kt_q 0 (.cons_cons _ (.cons_cons _ nsl)) rfl (by kernel_rfl) (fV rfl (ln (qq (kt_q 1 (.cons_cons _ (.cons_cons _ nsl)) rfl (by kernel_rfl) (ld rfl (at_box (T := 26) (cs := [v176, v240]) (off := 1) (fz := (0, 0))) (ln (qq (kt_q 2 (.cons_cons _ (.cons_cons _ nsl)) rfl (by kernel_rfl) (kl_ldS rfl (at_box (T := 88) (cs := [.int .i64 ((m.cons.getD k nilCon).kind), u247, u248, .int .i64 ((m.cons.getD k nilCon).bound), u249]) (off := 0) (fz := (0, 0))) rfl ?_)))))))))
     refine ln (qq (ta 3 rfl (kl_call rfl rfl (copyConI_ok (m.cons.getD k nilCon) (h4 _ (getD_mem (by omega))) ‹_› ‹_› ‹_›) (fun v255 H256 f257 h258 => ?_))))
     obtain ⟨_, rfl, h262⟩ := h258
     have h262' := h262
     obtain ⟨u259, u260, u261, rfl, h263, h264, h265⟩ := h262
     refine ln (qa (.cons_cons _ (.cons_cons _ nsl)) (ta 4 rfl (kl_bsK rfl (fun v266 H267 f268 r269 => ?_))))
     refine ln (qa (.cons_cons _ (.cons_cons _ nsl)) (ta 5 rfl (cm9 K241 H256 (fun c270 => ?_))))
     have o271 := OwnL.mono (K' := orHp K241 H256) o238 orL
     refine aL9 (m.cons.getD k nilCon) rfl rfl o271 r269 (RMono.mono (orC c270) ‹_›) (oc rfl (oc (Sl.oneCell ‹_›) (oc (Sl.oneCell ‹_›) (oc rfl (oc (Sl.oneCell ‹_›) oc_nil))))) (by (have h9 := congrArg List.length hi236; simp at h9; omega)) (by decide) (fun v272 H273 o274 f275 => ?_)
     have f276 := f275 B f239 (Nat.le_refl _)
     refine ln (qx rfl (kt_q 6 (.cons_cons _ (.cons_cons _ nsl)) rfl (by kernel_rfl) (fV rfl (ln (qq (ta 7 rfl (sB rfl rfl rfl (OwnL.oneCell ‹_›) (OwnL.cells ‹_›) ?_)))))))
     refine cg [sing b253 (.cells [.int .i64 ((m.cons.getD k nilCon).kind), u247, u248, .int .i64 ((m.cons.getD k nilCon).bound), u249].toArray 88 (0, 0)), sing b230 (.cells [v176, v272].toArray 26 (0, 0)), H273, sing b5 (.cells [.slice none 0 0, .slice none 0 0].toArray 26 (0, 0))] rfl ?_
     refine ln (qx rfl (kt_end (by kernel_rfl) ?_))
     refine qc (cr (ic9 rfl rfl (by omega) ?_))
     refine mv rfl (ln (tk [sing b230 (.cells [v176, v272].toArray 26 (0, 0)), H273, sing b5 (.cells [.slice none 0 0, .slice none 0 0].toArray 26 (0, 0))] ?_))
     refine kq_roundK ((k + 1), (out ++ [(m.cons.getD k nilCon)]), v272, H273, (orHp K241 H256)) (by omega) (⟨by omega, (by rw [hi236, take_succ_getD nilCon (by omega)]), (fr_or f242 f257), o274, f276⟩) (pc 17 rfl pn) (pk [2, 3, 15, 16] rfl) rfl slr9
    ·refine ex9 (qc (cS (cr (kl_ldW rfl rfl (kl_stW (us := [v176, v240]) rfl rfl rfl rfl (oc (Sl.oneCell ‹_›) (oc (OwnL.oneCell ‹_›) oc_nil)) rfl ?_)))))
     refine cg [sing b230 (.cells [v176, v240].toArray 26 (0, 0)), H237, sing b5 (.cells [v176, v240].toArray 26 (0, 0))] rfl ?_
     refine ln (qc (rt (kq_frz H237 ?_)))
     refine kq_cmp H237 K241 (fun c277 => ?_)
     refine kq_cmp H177 (orHp H237 K241) (fun c278 => ?_)
     exact kq_retC rfl rfl rfl (orHp H177 (orHp H237 K241)) (fr_or f178 (fr_or f239 f242)) ⟨_, _, rfl, (Sl.mono ‹_› (fun b o h => orL b o h) (fun _ _ h => h)), (by have e9 : out = m.cons := (by rw [hi236, List.take_of_length_le (by omega)]); rw [← e9]; exact (Cons.mono' (OwnL.consK o238 c277) (fun b o h => orC c278 b o h)))⟩
  ·refine kl_alloc (cs := [.slice none 0 0, .slice none 0 0]) rfl (fun b279 hb280 => ?_)
   refine ln (qa nsl (ta 2 rfl (kl_call rfl rfl (copied_ok m.doms (by omega) ‹_›) (fun v281 H282 f283 o284 => ?_))))
   have h285 := OwnL.ints o284
   refine ln (qa nsl (ta 7 rfl (kl_bd rfl (cp (Sl.cells ‹_›) (cp (OwnL.cells ‹_›) cp_nil)) rfl ?_)))
   refine ln (qx rfl (ta 9 rfl (kl_stW (us := [v281, v172]) rfl rfl rfl rfl (oc (Sl.oneCell ‹_›) (oc (OwnL.oneCell ‹_›) oc_nil)) rfl ?_)))
   refine cg [sing b279 (.cells [v281, v172].toArray 26 (0, 0)), H173, sing b5 (.cells [.slice none 0 0, .slice none 0 0].toArray 26 (0, 0))] rfl ?_
   refine ln (qx rfl (kt_end (by kernel_rfl) ?_))
   refine qc (cS (cS (cr (fd9 rfl ‹_› (fun p286 a287 => ?_)))))
   refine ld rfl ‹_› (le9 rfl ‹_› (fun l288 => ?_))
   refine mv rfl (ln (qc (bl (kc_loopK (A := Nat × List Con × Value × Hp × Hp) (fun zz => (zz.1 ≤ m.cons.length) ∧ (zz.2.1 = m.cons.take zz.1) ∧ Fr B zz.2.2.2.2 ∧ OwnL 88 5 zz.2.2.2.1 zz.2.2.2.2 ConV zz.2.2.1 zz.2.1 ∧ Fr B zz.2.2.2.1) (fun zz => m.cons.length - zz.1) (fun zz => zz.2.2.2.2) (fun zz => [sing b279 (.cells [v281, zz.2.2.1].toArray 26 (0, 0)), zz.2.2.2.1, sing b5 (.cells [.slice none 0 0, .slice none 0 0].toArray 26 (0, 0))]) (fun zz => [(17, .int .i64 (zz.1 : Int))]) (0, ([]), v172, H173, noHp) (pk [2, 3, 15, 16] rfl) (pc 17 rfl pn) rfl ⟨Nat.zero_le _, rfl, (fr_no _), o175, f174⟩ ?_))))
   rintro ⟨k, out, v294, H291, K295⟩ hJ297
   obtain ⟨hk289, hi290, f296, o292, f293⟩ : (k ≤ m.cons.length) ∧ (out = m.cons.take k) ∧ Fr B K295 ∧ OwnL 88 5 H291 K295 ConV v294 out ∧ Fr B H291 := hJ297
   change KC _ _ (K295 :: _) [sing b279 (.cells [v281, v294].toArray 26 (0, 0)), H291, sing b5 (.cells [.slice none 0 0, .slice none 0 0].toArray 26 (0, 0))] _ ([(17, .int .i64 (k : Int))] ++ _)
   refine cS (cr (ls9 rfl rfl ?_))
   refine ln (qc (cS (ci9 rfl (fun c298 => ?_) (fun c298 => ?_))))
   ·refine sk (qc (cS (bl (cS (cr (kl_inC rfl rfl ‹_› (by omega) (fun p299 u301 u302 u303 h304 h305 h306 a300 => ?_)))))))
    refine kl_ldS rfl ‹_› rfl ?_
    refine kl_alloc (cs := [.int .i64 (0 : Int), .slice none 0 0, .slice none 0 0, .int .i64 (0 : Int), .slice none 0 0]) rfl (fun b307 hb308 => ?_)
    refine kl_stW (us := [.int .i64 ((m.cons.getD k nilCon).kind), u301, u302, .int .i64 ((m.cons.getD k nilCon).bound), u303]) rfl rfl rfl rfl (oc rfl (oc (Sl.oneCell ‹_›) (oc (Sl.oneCell ‹_›) (oc rfl (oc (Sl.oneCell ‹_›) oc_nil))))) rfl ?_
    refine cg [sing b307 (.cells [.int .i64 ((m.cons.getD k nilCon).kind), u301, u302, .int .i64 ((m.cons.getD k nilCon).bound), u303].toArray 88 (0, 0)), sing b279 (.cells [v281, v294].toArray 26 (0, 0)), H291, sing b5 (.cells [.slice none 0 0, .slice none 0 0].toArray 26 (0, 0))] rfl ?_
    refine ln (qc (kc_tree (fun i => ([5, 7] : List Nat).contains i) [sing b307 (.cells [.int .i64 ((m.cons.getD k nilCon).kind), u301, u302, .int .i64 ((m.cons.getD k nilCon).bound), u303].toArray 88 (0, 0)), sing b279 (.cells [v281, v294].toArray 26 (0, 0))] (by kernel_rfl) ?_))
    refine kt_q 0 (.cons_cons _ (.cons_cons _ nsl)) rfl (by kernel_rfl) (fV rfl (ln (qq (kt_q 1 (.cons_cons _ (.cons_cons _ nsl)) rfl (by kernel_rfl) (ld rfl (at_box (T := 26) (cs := [v281, v294]) (off := 1) (fz := (0, 0))) (ln (qq (kt_q 2 (.cons_cons _ (.cons_cons _ nsl)) rfl (by kernel_rfl) (kl_ldS rfl (at_box (T := 88) (cs := [.int .i64 ((m.cons.getD k nilCon).kind), u301, u302, .int .i64 ((m.cons.getD k nilCon).bound), u303]) (off := 0) (fz := (0, 0))) rfl ?_)))))))))
    refine ln (qq (ta 3 rfl (kl_call rfl rfl (copyConI_ok (m.cons.getD k nilCon) (h4 _ (getD_mem (by omega))) ‹_› ‹_› ‹_›) (fun v309 H310 f311 h312 => ?_))))
    obtain ⟨_, rfl, h316⟩ := h312
    have h316' := h316
    obtain ⟨u313, u314, u315, rfl, h317, h318, h319⟩ := h316
    refine ln (qa (.cons_cons _ (.cons_cons _ nsl)) (ta 4 rfl (kl_bsK rfl (fun v320 H321 f322 r323 => ?_))))
    refine ln (qa (.cons_cons _ (.cons_cons _ nsl)) (ta 5 rfl (cm9 K295 H310 (fun c324 => ?_))))
    have o325 := OwnL.mono (K' := orHp K295 H310) o292 orL
    refine aL9 (m.cons.getD k nilCon) rfl rfl o325 r323 (RMono.mono (orC c324) ‹_›) (oc rfl (oc (Sl.oneCell ‹_›) (oc (Sl.oneCell ‹_›) (oc rfl (oc (Sl.oneCell ‹_›) oc_nil))))) (by (have h9 := congrArg List.length hi290; simp at h9; omega)) (by decide) (fun v326 H327 o328 f329 => ?_)
    have f330 := f329 B f293 (Nat.le_refl _)
    refine ln (qx rfl (kt_q 6 (.cons_cons _ (.cons_cons _ nsl)) rfl (by kernel_rfl) (fV rfl (ln (qq (ta 7 rfl (sB rfl rfl rfl (OwnL.oneCell ‹_›) (OwnL.cells ‹_›) ?_)))))))
    refine cg [sing b307 (.cells [.int .i64 ((m.cons.getD k nilCon).kind), u301, u302, .int .i64 ((m.cons.getD k nilCon).bound), u303].toArray 88 (0, 0)), sing b279 (.cells [v281, v326].toArray 26 (0, 0)), H327, sing b5 (.cells [.slice none 0 0, .slice none 0 0].toArray 26 (0, 0))] rfl ?_
    refine ln (qx rfl (kt_end (by kernel_rfl) ?_))
    refine qc (cr (ic9 rfl rfl (by omega) ?_))
    refine mv rfl (ln (tk [sing b279 (.cells [v281, v326].toArray 26 (0, 0)), H327, sing b5 (.cells [.slice none 0 0, .slice none 0 0].toArray 26 (0, 0))] ?_))
    refine kq_roundK ((k + 1), (out ++ [(m.cons.getD k nilCon)]), v326, H327, (orHp K295 H310)) (by omega) (⟨by omega, (by rw [hi290, take_succ_getD nilCon (by omega)]), (fr_or f296 f311), o328, f330⟩) (pc 17 rfl pn) (pk [2, 3, 15, 16] rfl) rfl slr9
   ·refine ex9 (qc (cS (cr (kl_ldW rfl rfl (kl_stW (us := [v281, v294]) rfl rfl rfl rfl (oc (Sl.oneCell ‹_›) (oc (OwnL.oneCell ‹_›) oc_nil)) rfl ?_)))))
    refine cg [sing b279 (.cells [v281, v294].toArray 26 (0, 0)), H291, sing b5 (.cells [v281, v294].toArray 26 (0, 0))] rfl ?_
    refine ln (qc (rt (kq_frz H291 ?_)))
    refine kq_cmp H291 K295 (fun c331 => ?_)
    refine kq_cmp H282 (orHp H291 K295) (fun c332 => ?_)
    exact kq_retC rfl rfl rfl (orHp H282 (orHp H291 K295)) (fr_or f283 (fr_or f293 f296)) ⟨_, _, rfl, (Sl.mono ‹_› (fun b o h => orL b o h) (fun _ _ h => h)), (by have e9 : out = m.cons := (by rw [hi290, List.take_of_length_le (by omega)]); rw [← e9]; exact (Cons.mono' (OwnL.consK o292 c331) (fun b o h => orC c332 b o h)))⟩
 ·refine kl_alloc (cs := [.slice none 0 0, .slice none 0 0]) rfl (fun b333 hb334 => ?_)
  refine ln (qa nsl (kt_b 2 6 rfl rfl (by kernel_rfl) ?_ ?_))
  ·refine kl_call rfl rfl (copied_ok m.doms (by omega) ‹_›) (fun v335 H336 f337 o338 => ?_)
   have h339 := OwnL.ints o338
   refine ln (qa nsl (ta 6 rfl (kl_mkL0 (R := ConV) rfl rfl (by omega) (by omega) (by decide) (fun v340 H341 f342 o343 => ?_))))
   refine ln (qa nsl (ta 7 rfl (kl_bd rfl (cp (Sl.cells ‹_›) (cp (OwnL.cells ‹_›) cp_nil)) rfl ?_)))
   refine ln (qx rfl (ta 9 rfl (kl_stW (us := [v335, v340]) rfl rfl rfl rfl (oc (Sl.oneCell ‹_›) (oc (OwnL.oneCell ‹_›) oc_nil)) rfl ?_)))
   refine cg [H341, sing b333 (.cells [v335, v340].toArray 26 (0, 0)), sing b5 (.cells [.slice none 0 0, .slice none 0 0].toArray 26 (0, 0))] rfl ?_
   refine ln (qx rfl (kt_end (by kernel_rfl) ?_))
   refine qc (cS (cS (cr (fd9 rfl ‹_› (fun p344 a345 => ?_)))))
   refine ld rfl ‹_› (le9 rfl ‹_› (fun l346 => ?_))
   refine mv rfl (ln (qc (bl (kc_loopK (A := Nat × List Con × Value × Hp × Hp) (fun zz => (zz.1 ≤ m.cons.length) ∧ (zz.2.1 = m.cons.take zz.1) ∧ Fr B zz.2.2.2.2 ∧ OwnL 88 5 zz.2.2.2.1 zz.2.2.2.2 ConV zz.2.2.1 zz.2.1 ∧ Fr B zz.2.2.2.1) (fun zz => m.cons.length - zz.1) (fun zz => zz.2.2.2.2) (fun zz => [zz.2.2.2.1, sing b333 (.cells [v335, zz.2.2.1].toArray 26 (0, 0)), sing b5 (.cells [.slice none 0 0, .slice none 0 0].toArray 26 (0, 0))]) (fun zz => [(17, .int .i64 (zz.1 : Int))]) (0, ([]), v340, H341, noHp) (pk [2, 3, 15, 16] rfl) (pc 17 rfl pn) rfl ⟨Nat.zero_le _, rfl, (fr_no _), o343, f342⟩ ?_))))
   rintro ⟨k, out, v352, H349, K353⟩ hJ355
   obtain ⟨hk347, hi348, f354, o350, f351⟩ : (k ≤ m.cons.length) ∧ (out = m.cons.take k) ∧ Fr B K353 ∧ OwnL 88 5 H349 K353 ConV v352 out ∧ Fr B H349 := hJ355
   change KC _ _ (K353 :: _) [H349, sing b333 (.cells [v335, v352].toArray 26 (0, 0)), sing b5 (.cells [.slice none 0 0, .slice none 0 0].toArray 26 (0, 0))] _ ([(17, .int .i64 (k : Int))] ++ _)
   refine cS (cr (ls9 rfl rfl ?_))
   refine ln (qc (cS (ci9 rfl (fun c356 => ?_) (fun c356 => ?_))))
   ·refine sk (qc (cS (bl (cS (cr (kl_inC rfl rfl ‹_› (by omega) (fun p357 u359 u360 u361 h362 h363 h364 a358 => ?_)))))))
    refine kl_ldS rfl ‹_› rfl ?_
    refine kl_alloc (cs := [.int .i64 (0 : Int), .slice none 0 0, .slice none 0 0, .int .i64 (0 : Int), .slice none 0 0]) rfl (fun b365 hb366 => ?_)
    refine kl_stW (us := [.int .i64 ((m.cons.getD k nilCon).kind), u359, u360, .int .i64 ((m.cons.getD k nilCon).bound), u361]) rfl rfl rfl rfl (oc rfl (oc (Sl.oneCell ‹_›) (oc (Sl.oneCell ‹_›) (oc rfl (oc (Sl.oneCell ‹_›) oc_nil))))) rfl ?_
    refine cg [sing b365 (.cells [.int .i64 ((m.cons.getD k nilCon).kind), u359, u360, .int .i64 ((m.cons.getD k nilCon).bound), u361].toArray 88 (0, 0)), H349, sing b333 (.cells [v335, v352].toArray 26 (0, 0)), sing b5 (.cells [.slice none 0 0, .slice none 0 0].toArray 26 (0, 0))] rfl ?_
    refine ln (qc (kc_tree (fun i => ([5, 7] : List Nat).contains i) [sing b365 (.cells [.int .i64 ((m.cons.getD k nilCon).kind), u359, u360, .int .i64 ((m.cons.getD k nilCon).bound), u361].toArray 88 (0, 0)), sing b333 (.cells [v335, v352].toArray 26 (0, 0))] (by kernel_rfl) ?_))
    refine kt_q 0 (.cons_cons _ (.cons _ (.cons_cons _ nsl))) rfl (by kernel_rfl) (fV rfl (ln (qq (kt_q 1 (.cons_cons _ (.cons _ (.cons_cons _ nsl))) rfl (by kernel_rfl) (ld rfl (at_box (T := 26) (cs := [v335, v352]) (off := 1) (fz := (0, 0))) (ln (qq (kt_q 2 (.cons_cons _ (.cons _ (.cons_cons _ nsl))) rfl (by kernel_rfl) ?_))))))))
    refine kl_ldS rfl (at_box (T := 88) (cs := [.int .i64 ((m.cons.getD k nilCon).kind), u359, u360, .int .i64 ((m.cons.getD k nilCon).bound), u361]) (off := 0) (fz := (0, 0))) rfl ?_
    refine ln (qq (ta 3 rfl (kl_call rfl rfl (copyConI_ok (m.cons.getD k nilCon) (h4 _ (getD_mem (by omega))) ‹_› ‹_› ‹_›) (fun v367 H368 f369 h370 => ?_))))
    obtain ⟨_, rfl, h374⟩ := h370
    have h374' := h374
    obtain ⟨u371, u372, u373, rfl, h375, h376, h377⟩ := h374
    refine ln (qa (.cons_cons _ (.cons _ (.cons_cons _ nsl))) (ta 4 rfl (kl_bsK rfl (fun v378 H379 f380 r381 => ?_))))
    refine ln (qa (.cons_cons _ (.cons _ (.cons_cons _ nsl))) (ta 5 rfl (cm9 K353 H368 (fun c382 => ?_))))
    have o383 := OwnL.mono (K' := orHp K353 H368) o350 orL
    refine aL9 (m.cons.getD k nilCon) rfl rfl o383 r381 (RMono.mono (orC c382) ‹_›) (oc rfl (oc (Sl.oneCell ‹_›) (oc (Sl.oneCell ‹_›) (oc rfl (oc (Sl.oneCell ‹_›) oc_nil))))) (by (have h9 := congrArg List.length hi348; simp at h9; omega)) (by decide) (fun v384 H385 o386 f387 => ?_)
    have f388 := f387 B f351 (Nat.le_refl _)
    refine ln (qx rfl (kt_q 6 (.cons_cons _ (.cons _ (.cons_cons _ nsl))) rfl (by kernel_rfl) (fV rfl (ln (qq (ta 7 rfl (sB rfl rfl rfl (OwnL.oneCell ‹_›) (OwnL.cells ‹_›) ?_)))))))
    refine cg [sing b365 (.cells [.int .i64 ((m.cons.getD k nilCon).kind), u359, u360, .int .i64 ((m.cons.getD k nilCon).bound), u361].toArray 88 (0, 0)), H385, sing b333 (.cells [v335, v384].toArray 26 (0, 0)), sing b5 (.cells [.slice none 0 0, .slice none 0 0].toArray 26 (0, 0))] rfl ?_
    refine ln (qx rfl (kt_end (by kernel_rfl) ?_))
    refine qc (cr (ic9 rfl rfl (by omega) ?_))
    refine mv rfl (ln (tk [H385, sing b333 (.cells [v335, v384].toArray 26 (0, 0)), sing b5 (.cells [.slice none 0 0, .slice none 0 0].toArray 26 (0, 0))] ?_))
    refine kq_roundK ((k + 1), (out ++ [(m.cons.getD k nilCon)]), v384, H385, (orHp K353 H368)) (by omega) (⟨by omega, (by rw [hi348, take_succ_getD nilCon (by omega)]), (fr_or f354 f369), o386, f388⟩) (pc 17 rfl pn) (pk [2, 3, 15, 16] rfl) rfl slr9
   ·refine ex9 (qc (cS (cr (kl_ldW rfl rfl (kl_stW (us := [v335, v352]) rfl rfl rfl rfl (oc (Sl.oneCell ‹_›) (oc (OwnL.oneCell ‹_›) oc_nil)) rfl ?_)))))
    refine cg [H349, sing b333 (.cells [v335, v352].toArray 26 (0, 0)), sing b5 (.cells [v335, v352].toArray 26 (0, 0))] rfl ?_
    refine ln (qc (rt (kq_frz H349 ?_)))
    refine kq_cmp H349 K353 (fun c389 => ?_)
    refine kq_cmp H336 (orHp H349 K353) (fun c390 => ?_)
    exact kq_retC rfl rfl rfl (orHp H336 (orHp H349 K353)) (fr_or f337 (fr_or f351 f354)) ⟨_, _, rfl, (Sl.mono ‹_› (fun b o h => orL b o h) (fun _ _ h => h)), (by have e9 : out = m.cons := (by rw [hi348, List.take_of_length_le (by omega)]); rw [← e9]; exact (Cons.mono' (OwnL.consK o350 c389) (fun b o h => orC c390 b o h)))⟩
  ·refine kl_mkL0 (R := ConV) rfl rfl (by omega) (by omega) (by decide) (fun v391 H392 f393 o394 => ?_)
   refine ln (qa nsl (ta 2 rfl (kl_call rfl rfl (copied_ok m.doms (by omega) ‹_›) (fun v395 H396 f397 o398 => ?_))))
   have h399 := OwnL.ints o398
   refine ln (qa nsl (ta 7 rfl (kl_bd rfl (cp (Sl.cells ‹_›) (cp (OwnL.cells ‹_›) cp_nil)) rfl ?_)))
   refine ln (qx rfl (ta 9 rfl (kl_stW (us := [v395, v391]) rfl rfl rfl rfl (oc (Sl.oneCell ‹_›) (oc (OwnL.oneCell ‹_›) oc_nil)) rfl ?_)))
   refine cg [H392, sing b333 (.cells [v395, v391].toArray 26 (0, 0)), sing b5 (.cells [.slice none 0 0, .slice none 0 0].toArray 26 (0, 0))] rfl ?_
   refine ln (qx rfl (kt_end (by kernel_rfl) ?_))
   refine qc (cS (cS (cr (fd9 rfl ‹_› (fun p400 a401 => ?_)))))
   refine ld rfl ‹_› (le9 rfl ‹_› (fun l402 => ?_))
   refine mv rfl (ln (qc (bl (kc_loopK (A := Nat × List Con × Value × Hp × Hp) (fun zz => (zz.1 ≤ m.cons.length) ∧ (zz.2.1 = m.cons.take zz.1) ∧ Fr B zz.2.2.2.2 ∧ OwnL 88 5 zz.2.2.2.1 zz.2.2.2.2 ConV zz.2.2.1 zz.2.1 ∧ Fr B zz.2.2.2.1) (fun zz => m.cons.length - zz.1) (fun zz => zz.2.2.2.2) (fun zz => [zz.2.2.2.1, sing b333 (.cells [v395, zz.2.2.1].toArray 26 (0, 0)), sing b5 (.cells [.slice none 0 0, .slice none 0 0].toArray 26 (0, 0))]) (fun zz => [(17, .int .i64 (zz.1 : Int))]) (0, ([]), v391, H392, noHp) (pk [2, 3, 15, 16] rfl) (pc 17 rfl pn) rfl ⟨Nat.zero_le _, rfl, (fr_no _), o394, f393⟩ ?_))))
   rintro ⟨k, out, v408, H405, K409⟩ hJ411
   obtain ⟨hk403, hi404, f410, o406, f407⟩ : (k ≤ m.cons.length) ∧ (out = m.cons.take k) ∧ Fr B K409 ∧ OwnL 88 5 H405 K409 ConV v408 out ∧ Fr B H405 := hJ411
   change KC _ _ (K409 :: _) [H405, sing b333 (.cells [v395, v408].toArray 26 (0, 0)), sing b5 (.cells [.slice none 0 0, .slice none 0 0].toArray 26 (0, 0))] _ ([(17, .int .i64 (k : Int))] ++ _)
   refine cS (cr (ls9 rfl rfl ?_))
   refine ln (qc (cS (ci9 rfl (fun c412 => ?_) (fun c412 => ?_))))
   ·refine sk (qc (cS (bl (cS (cr (kl_inC rfl rfl ‹_› (by omega) (fun p413 u415 u416 u417 h418 h419 h420 a414 => ?_)))))))
    refine kl_ldS rfl ‹_› rfl ?_
    refine kl_alloc (cs := [.int .i64 (0 : Int), .slice none 0 0, .slice none 0 0, .int .i64 (0 : Int), .slice none 0 0]) rfl (fun b421 hb422 => ?_)
    refine kl_stW (us := [.int .i64 ((m.cons.getD k nilCon).kind), u415, u416, .int .i64 ((m.cons.getD k nilCon).bound), u417]) rfl rfl rfl rfl (oc rfl (oc (Sl.oneCell ‹_›) (oc (Sl.oneCell ‹_›) (oc rfl (oc (Sl.oneCell ‹_›) oc_nil))))) rfl ?_
    refine cg [sing b421 (.cells [.int .i64 ((m.cons.getD k nilCon).kind), u415, u416, .int .i64 ((m.cons.getD k nilCon).bound), u417].toArray 88 (0, 0)), H405, sing b333 (.cells [v395, v408].toArray 26 (0, 0)), sing b5 (.cells [.slice none 0 0, .slice none 0 0].toArray 26 (0, 0))] rfl ?_
    refine ln (qc (kc_tree (fun i => ([5, 7] : List Nat).contains i) [sing b421 (.cells [.int .i64 ((m.cons.getD k nilCon).kind), u415, u416, .int .i64 ((m.cons.getD k nilCon).bound), u417].toArray 88 (0, 0)), sing b333 (.cells [v395, v408].toArray 26 (0, 0))] (by kernel_rfl) ?_))
    refine kt_q 0 (.cons_cons _ (.cons _ (.cons_cons _ nsl))) rfl (by kernel_rfl) (fV rfl (ln (qq (kt_q 1 (.cons_cons _ (.cons _ (.cons_cons _ nsl))) rfl (by kernel_rfl) (ld rfl (at_box (T := 26) (cs := [v395, v408]) (off := 1) (fz := (0, 0))) (ln (qq (kt_q 2 (.cons_cons _ (.cons _ (.cons_cons _ nsl))) rfl (by kernel_rfl) ?_))))))))
    refine kl_ldS rfl (at_box (T := 88) (cs := [.int .i64 ((m.cons.getD k nilCon).kind), u415, u416, .int .i64 ((m.cons.getD k nilCon).bound), u417]) (off := 0) (fz := (0, 0))) rfl ?_
    refine ln (qq (ta 3 rfl (kl_call rfl rfl (copyConI_ok (m.cons.getD k nilCon) (h4 _ (getD_mem (by omega))) ‹_› ‹_› ‹_›) (fun v423 H424 f425 h426 => ?_))))
    obtain ⟨_, rfl, h430⟩ := h426
    have h430' := h430
    obtain ⟨u427, u428, u429, rfl, h431, h432, h433⟩ := h430
    refine ln (qa (.cons_cons _ (.cons _ (.cons_cons _ nsl))) (ta 4 rfl (kl_bsK rfl (fun v434 H435 f436 r437 => ?_))))
    refine ln (qa (.cons_cons _ (.cons _ (.cons_cons _ nsl))) (ta 5 rfl (cm9 K409 H424 (fun c438 => ?_))))
    have o439 := OwnL.mono (K' := orHp K409 H424) o406 orL
    refine aL9 (m.cons.getD k nilCon) rfl rfl o439 r437 (RMono.mono (orC c438) ‹_›) (oc rfl (oc (Sl.oneCell ‹_›) (oc (Sl.oneCell ‹_›) (oc rfl (oc (Sl.oneCell ‹_›) oc_nil))))) (by (have h9 := congrArg List.length hi404; simp at h9; omega)) (by decide) (fun v440 H441 o442 f443 => ?_)
    have f444 := f443 B f407 (Nat.le_refl _)
    refine ln (qx rfl (kt_q 6 (.cons_cons _ (.cons _ (.cons_cons _ nsl))) rfl (by kernel_rfl) (fV rfl (ln (qq (ta 7 rfl (sB rfl rfl rfl (OwnL.oneCell ‹_›) (OwnL.cells ‹_›) ?_)))))))
    refine cg [sing b421 (.cells [.int .i64 ((m.cons.getD k nilCon).kind), u415, u416, .int .i64 ((m.cons.getD k nilCon).bound), u417].toArray 88 (0, 0)), H441, sing b333 (.cells [v395, v440].toArray 26 (0, 0)), sing b5 (.cells [.slice none 0 0, .slice none 0 0].toArray 26 (0, 0))] rfl ?_
    refine ln (qx rfl (kt_end (by kernel_rfl) ?_))
    refine qc (cr (ic9 rfl rfl (by omega) ?_))
    refine mv rfl (ln (tk [H441, sing b333 (.cells [v395, v440].toArray 26 (0, 0)), sing b5 (.cells [.slice none 0 0, .slice none 0 0].toArray 26 (0, 0))] ?_))
    refine kq_roundK ((k + 1), (out ++ [(m.cons.getD k nilCon)]), v440, H441, (orHp K409 H424)) (by omega) (⟨by omega, (by rw [hi404, take_succ_getD nilCon (by omega)]), (fr_or f410 f425), o442, f444⟩) (pc 17 rfl pn) (pk [2, 3, 15, 16] rfl) rfl slr9
   ·refine ex9 (qc (cS (cr (kl_ldW rfl rfl (kl_stW (us := [v395, v408]) rfl rfl rfl rfl (oc (Sl.oneCell ‹_›) (oc (OwnL.oneCell ‹_›) oc_nil)) rfl ?_)))))
    refine cg [H405, sing b333 (.cells [v395, v408].toArray 26 (0, 0)), sing b5 (.cells [v395, v408].toArray 26 (0, 0))] rfl ?_
    refine ln (qc (rt (kq_frz H405 ?_)))
    refine kq_cmp H405 K409 (fun c445 => ?_)
    refine kq_cmp H396 (orHp H405 K409) (fun c446 => ?_)
    exact kq_retC rfl rfl rfl (orHp H396 (orHp H405 K409)) (fr_or f397 (fr_or f407 f410)) ⟨_, _, rfl, (Sl.mono ‹_› (fun b o h => orL b o h) (fun _ _ h => h)), (by have e9 : out = m.cons := (by rw [hi404, List.take_of_length_le (by omega)]); rw [← e9]; exact (Cons.mono' (OwnL.consK o406 c445) (fun b o h => orC c446 b o h)))⟩
end
section
abbrev tupSt (k : Nat) : Prop := ∀ {l : Nat} {J : Nat → (Nat → Prop) → World → Prop} {Jx : (Nat → Prop) → World → Prop} (hJ : ∀ n, JK (J n)) (hJx : JK Jx) {xs : List (List Int)} {H1 Hd Kr Hx : Hp} {b0 : Nat} {pd py pf vd vx : Value} (ds x : List Int) (n : Nat) (hd : ∀ d ∈ ds, (0 : Int) ≤ d ∧ d ≤ 63) (hl : ds.length ≤ 1048576) (hk : x.length + k = ds.length)
    (hxs : ∀ q, q < (tupL (ds.drop x.length)).length → xs.getD (n + q) [] = x ++ (tupL (ds.drop x.length)).getD q []) (hlen : n + (tupL (ds.drop x.length)).length ≤ xs.length) (hR : Rounds Tryz.prog l [H1, Hd] xs J Jx) (a1 : At H1 pd [vd]) (hdd : Ints Hd vd ds) (a2 : At Kr py [.func (.yield l) #[] #[]]) (a3 : At Kr pf [.func (.func 134) #[] #[.pointer (some ⟨b0, 0, none⟩), pd, py, pf]]) (ho : OwnL 3 1 Hx noHp IntV vx x),
    SpecJ Tryz.prog 134 [.pointer (some ⟨b0, 0, none⟩), pd, py, pf] Kr [H1, Hd] [sing b0 (.cells [vx].toArray 23 (0, 0)), Hx] (J n) (fun vq L1 j => (vq = .bool true ∧ j = J (n + (tupL (ds.drop x.length)).length) ∧ ∃ (vx2 : Value) (Hx2 : Hp), L1 = [sing b0 (.cells [vx2].toArray 23 (0, 0)), Hx2] ∧ OwnL 3 1 Hx2 noHp IntV vx2 x) ∨ (vq = .bool false ∧ j = Jx ∧ L1 = []))

theorem tup_next {ds x : List Int} {xs : List (List Int)} {n i : Nat} (hxs : ∀ q, q < (tupL (ds.drop x.length)).length → xs.getD (n + q) [] = x ++ (tupL (ds.drop x.length)).getD q []) (hk : x.length < ds.length) (hi : i < (valsI (ds.getD x.length 0)).length) {q : Nat} (hq : q < (tupL (ds.drop (x.length + 1))).length) :
    xs.getD (n + (tupL (ds.drop (x.length + 1))).length * i + q) [] = (x ++ [(valsI (ds.getD x.length 0)).getD i 0]) ++ (tupL (ds.drop (x ++ [(valsI (ds.getD x.length 0)).getD i 0]).length)).getD q [] := by
  have e : ds.drop x.length = ds.getD x.length 0 :: ds.drop (x.length + 1) := by
    rw [List.drop_eq_getElem_cons hk]; congr 1; simp [List.getD_eq_getElem?_getD, hk]
  have h := hxs ((tupL (ds.drop (x.length + 1))).length * i + q) (by
    rw [e, tup_len]
    have : (tupL (ds.drop (x.length + 1))).length * (i + 1) ≤ (tupL (ds.drop (x.length + 1))).length * (valsI (ds.getD x.length 0)).length := Nat.mul_le_mul_left _ hi
    rw [Nat.mul_succ] at this
    omega)
  rw [Nat.add_assoc, h, e, tup_at _ _ hi hq]
  simp
theorem tup_room {ds x : List Int} {n N : Nat} (h : n + (tupL (ds.drop x.length)).length ≤ N) (hk : x.length < ds.length) {k : Nat} (hi : k < (valsI (ds.getD x.length 0)).length) : n + (tupL (ds.drop (x.length + 1))).length * k + (tupL (ds.drop (x.length + 1))).length ≤ N := by
  have e : ds.drop x.length = ds.getD x.length 0 :: ds.drop (x.length + 1) := by
    rw [List.drop_eq_getElem_cons hk]; congr 1; simp [List.getD_eq_getElem?_getD, hk]
  rw [e, tup_len] at h
  have : (tupL (ds.drop (x.length + 1))).length * (k + 1) ≤ (tupL (ds.drop (x.length + 1))).length * (valsI (ds.getD x.length 0)).length := Nat.mul_le_mul_left _ hi
  rw [Nat.mul_succ] at this
  omega
theorem tup_all {ds x : List Int} (hk : x.length < ds.length) {k : Nat} (hi : k = (valsI (ds.getD x.length 0)).length) : (tupL (ds.drop x.length)).length = (tupL (ds.drop (x.length + 1))).length * k := by
  have e : ds.drop x.length = ds.getD x.length 0 :: ds.drop (x.length + 1) := by
    rw [List.drop_eq_getElem_cons hk]; congr 1; simp [List.getD_eq_getElem?_getD, hk]
  rw [e, tup_len, hi]
theorem tup_step (k : Nat) (ih : ∀ j, j < k → tupSt j) : tupSt k := by
  intro l J Jx hJ hJx xs H1 Hd Kr Hx b0 pd py pf vd vx ds x n hd hl hk hxs hlen hR a1 hdd a2 a3 ho
  have hol := OwnL.ints ho
  refine specJ_of (hJ n) Tryz.func134 rfl rfl rfl (fun B => ?_)
  refine cS ?_
  refine cr ?_
  refine sg rfl ?_
  refine ln ?_
  refine qc ?_
  refine cS ?_
  refine cS ?_
  refine cr ?_
  refine lB rfl rfl ?_
  refine lL rfl ho (fun l1 => ?_)
  refine ld rfl ‹_› ?_
  refine le9 rfl ‹_› (fun l2 => ?_)
  refine eq9 rfl rfl ?_
  refine ln ?_
  refine qc ?_
  refine ci9 rfl (fun c3 => ?_) (fun c3 => ?_)
  · skip
    refine cS ?_
    refine kc_regI ?_
    refine ki_ld rfl a2 ?_
    refine ki_ldB rfl rfl ?_
    have e0 : ds.drop x.length = [] := List.drop_eq_nil_of_le (by omega)
    have e1 : (tupL (ds.drop x.length)).length = 1 := by rw [e0]; rfl
    have e2 := hxs 0 (by omega)
    have e3 : xs.getD n [] = x := by rw [e0] at e2; simpa [tupL] using e2
    refine ki_yield (Hx := Hx) hJx hR rfl rfl (by omega) (by rw [e3]; exact OwnL.ints ho) ?_ ?_
    · skip
      refine ki_as rfl (ki_nil ?_)
      refine qc ?_
      refine rt ?_
      exact kq_retJ1 rfl rfl [sing b0 (.cells [vx].toArray 23 (0, 0)), Hx] (.inl ⟨rfl, by rw [e1], vx, Hx, rfl, ho⟩)
    · skip
      refine ki_as rfl (ki_nil ?_)
      refine qc ?_
      refine rt ?_
      exact kq_retJ1 rfl rfl [] (.inr ⟨rfl, rfl, rfl⟩)
  · skip
    refine sk ?_
    refine qc ?_
    refine cS ?_
    refine cS ?_
    refine cr ?_
    refine ld rfl ‹_› ?_
    refine lB rfl rfl ?_
    refine lL rfl ho (fun l4 => ?_)
    refine kl_inI rfl rfl ‹_› (by omega) (fun p5 a6 => ?_)
    refine ld rfl ‹_› ?_
    refine kl_call rfl rfl (valuesOf_ok (ds.getD x.length 0) (hd _ (getD_mem (by omega)))) (fun v7 H8 f9 h10 => ?_)
    refine le9 rfl ‹_› (fun l11 => ?_)
    refine mv rfl ?_
    refine ln ?_
    refine qc ?_
    refine bl ?_
    have hk1 : x.length < ds.length := by omega
    refine kc_take [sing b0 (.cells [vx].toArray 23 (0, 0)), Hx] ?_
    refine kc_loopX (A := Nat × Value × Hp) (fun zz => sj Kr (J (n + (tupL (ds.drop (x.length + 1))).length * zz.1)) (hJ _)) (fun zz => zz.1 ≤ (valsI (ds.getD x.length 0)).length ∧ OwnL 3 1 zz.2.2 noHp IntV zz.2.1 x) (fun zz => (valsI (ds.getD x.length 0)).length - zz.1) (fun zz => [sing b0 (.cells [zz.2.1].toArray 23 (0, 0)), zz.2.2]) (fun zz => [(22, .int .i64 (zz.1 : Int))]) (0, vx, Hx) (pk [0, 3, 20, 21] rfl) (pc 22 rfl pn) rfl ⟨Nat.zero_le _, ho⟩ ?_
    rintro ⟨i, vi, Hi⟩ ⟨hi1, hi2⟩
    have hi1 : i ≤ (valsI (ds.getD x.length 0)).length := hi1
    have hi2 : OwnL 3 1 Hi noHp IntV vi x := hi2
    change KC (⟨_, _, _, sj Kr (J (n + (tupL (ds.drop (x.length + 1))).length * i)) (hJ _), _, _, _⟩ : Cx) _ _ [sing b0 (.cells [vi].toArray 23 (0, 0)), Hi] _ ([(22, .int .i64 (i : Int))] ++ _)
    refine cS ?_
    refine cr ?_
    refine ls9 rfl rfl ?_
    refine ln ?_
    refine qc ?_
    refine cS ?_
    refine ci9 rfl (fun c12 => ?_) (fun c12 => ?_)
    · skip
      refine sk ?_
      refine qc ?_
      refine cS ?_
      refine bl ?_
      refine cS ?_
      refine cr ?_
      refine kl_inI rfl rfl ‹_› (by omega) (fun p13 a14 => ?_)
      refine ld rfl ‹_› ?_
      refine sg rfl ?_
      refine ln ?_
      refine qc ?_
      refine cS ?_
      refine cr ?_
      refine lB rfl rfl ?_
      refine mv rfl ?_
      refine bs9 rfl rfl rfl (by decide) (ca rfl ca_nil) (fun v15 H16 f17 r18 s19 => ?_)
      have h20 : Ints H16 v15 [((valsI (ds.getD x.length 0)).getD i 0)] := litInts (xs := [((valsI (ds.getD x.length 0)).getD i 0)]) (by simpa using s19)
      refine aL9 ((valsI (ds.getD x.length 0)).getD i 0) rfl rfl hi2 ‹_› rfl (oc rfl oc_nil) (by simp; omega) (by decide) (fun v21 H22 o23 f24 => ?_)
      refine sB rfl rfl rfl (OwnL.oneCell ‹_›) (OwnL.cells ‹_›) ?_
      refine cg [sing b0 (.cells [v21].toArray 23 (0, 0)), H22] rfl ?_
      refine ln ?_
      refine qc ?_
      refine cS ?_
      refine cS ?_
      refine cr ?_
      refine ld rfl ‹_› ?_
      refine kl_callJ [H8] rfl rfl (fun Kr2 hk hks => ih (k - 1) (by omega) hJ hJx ds (x ++ [((valsI (ds.getD x.length 0)).getD i 0)]) (n + (tupL (ds.drop (x.length + 1))).length * i) hd hl (by simp; omega) (by intro q hq; exact tup_next hxs hk1 (by omega) (by simpa using hq)) (by have := tup_room hlen hk1 (k := i) (by omega); simpa using this) hR a1 hdd (At.mono a2 hk) (At.mono a3 hk) o23) (fr1 f9) (fun v26 L27 j28 h29 h30 => ?_)
      rcases h30 with ⟨rfl, rfl, v32, H33, rfl, o31⟩ | ⟨rfl, rfl, rfl⟩
      · skip
        refine nm ?_
        refine nt9 rfl ?_
        refine ln ?_
        refine kq_normI ?_
        refine qc ?_
        refine cd9 rfl (fun hc => absurd hc (by decide)) (fun hc => ?_)
        refine sk ?_
        refine qc ?_
        refine cr ?_
        refine lB rfl rfl ?_
        refine lB rfl rfl ?_
        refine lL rfl o31 (fun l34 => ?_)
        refine sb9 rfl rfl (by omega) ?_
        have e37 : (((x ++ [((valsI (ds.getD x.length 0)).getD i 0)]).length : Int) - (1 : Int)) = (((Int.toNat (((x ++ [((valsI (ds.getD x.length 0)).getD i 0)]).length : Int) - (1 : Int))) : Nat) : Int) := by first | omega | (simp only [List.length_append, List.length_cons, List.length_nil]; omega)
        refine kl_slTakeL (i := (Int.toNat (((x ++ [((valsI (ds.getD x.length 0)).getD i 0)]).length : Int) - (1 : Int)))) rfl (by rw [← e37]; rfl) o31 (by first | omega | (simp; omega)) (fun u35 o36 => ?_)
        refine sB rfl rfl rfl (OwnL.oneCell ‹_›) (OwnL.cells ‹_›) ?_
        refine cg [sing b0 (.cells [u35].toArray 23 (0, 0)), H33] rfl ?_
        refine ln ?_
        refine qc ?_
        refine cr ?_
        refine ic9 rfl rfl (by omega) ?_
        refine mv rfl ?_
        refine ln ?_
        refine kq_roundX (i + 1, u35, H33) (sj_eq (by rw [Nat.mul_succ]; simp; omega)) (by dsimp only; omega) ⟨by dsimp only; omega, OwnL.cast (by simp) o36⟩ (pc 22 rfl pn) (pk [0, 3, 20, 21] rfl) rfl
      · skip
        refine nm ?_
        refine nt9 rfl ?_
        refine ln ?_
        refine kq_normI ?_
        refine qc ?_
        refine cd9 rfl (fun hc => ?_) (fun hc => absurd hc (by decide))
        refine cS ?_
        refine cr ?_
        refine sg rfl ?_
        refine ln ?_
        refine qc ?_
        refine rt ?_
        exact kq_retJ1 rfl rfl [] (.inr ⟨rfl, rfl, rfl⟩)
    · skip
      refine ex9 ?_
      refine qc ?_
      refine cS ?_
      refine cr ?_
      refine sg rfl ?_
      refine ln ?_
      refine qc ?_
      refine rt ?_
      exact kq_retJ1 rfl rfl [sing b0 (.cells [vi].toArray 23 (0, 0)), Hi] (.inl ⟨rfl, congrArg J (by have := tup_all (x := x) hk1 (k := i) (by omega); rw [this]), vi, Hi, rfl, hi2⟩)
theorem tup_ok (k : Nat) : tupSt k := by
  induction k using Nat.strongRecOn with
  | _ k ih => exact tup_step k ih
theorem tup118_ok {l : Nat} {J : Nat → (Nat → Prop) → World → Prop} {Jx : (Nat → Prop) → World → Prop} (hJ : ∀ n, JK (J n)) (hJx : JK Jx) {H1 Hd : Hp} {pd vd : Value} (ds : List Int) (hd : ∀ d ∈ ds, (0 : Int) ≤ d ∧ d ≤ 63) (hl : ds.length ≤ 1048576) (hR : Rounds Tryz.prog l [H1, Hd] (tupL ds) J Jx) (a1 : At H1 pd [vd]) (hdd : Ints Hd vd ds) :
    SpecJ Tryz.prog 133 [.func (.yield l) #[] #[], pd] noHp [H1, Hd] [] (J 0) (fun vq L1 j => j = J (tupL ds).length ∨ j = Jx) := by
  refine specJ_of (hJ 0) Tryz.func133 rfl rfl rfl (fun B => ?_)
  refine cS ?_
  refine cr ?_
  refine kl_box rfl rfl (fun p1 H2 f3 a4 => ?_)
  refine ln ?_
  refine qc ?_
  refine cS ?_
  refine cr ?_
  refine ld rfl ‹_› ?_
  refine le9 rfl ‹_› (fun l5 => ?_)
  refine kl_mkL0 (R := IntV) rfl rfl (by omega) (by omega) (by decide) (fun v6 H7 f8 o9 => ?_)
  refine kl_alloc (cs := [.slice none 0 0]) rfl (fun b10 hb11 => ?_)
  refine sB rfl rfl rfl (OwnL.oneCell ‹_›) (OwnL.cells ‹_›) ?_
  refine cg [sing b10 (.cells [v6].toArray 23 (0, 0)), H7] rfl ?_
  refine ln ?_
  refine qc ?_
  refine cS ?_
  refine cr ?_
  refine kl_alloc (cs := [.nilFunc]) rfl (fun b12 hb13 => ?_)
  refine ln ?_
  refine qc ?_
  refine cS ?_
  refine cr ?_
  refine kl_mkf rfl ?_
  refine sB rfl rfl rfl rfl rfl ?_
  refine cg [sing b12 (.cells [.func (.func 134) #[] #[.pointer (some ⟨b10, 0, none⟩), pd, p1, .pointer (some ⟨b12, 0, none⟩)]].toArray 143 (0, 0)), sing b10 (.cells [v6].toArray 23 (0, 0)), H7] rfl ?_
  refine fZ (sing b12 (.cells [.func (.func 134) #[] #[.pointer (some ⟨b10, 0, none⟩), pd, p1, .pointer (some ⟨b12, 0, none⟩)]].toArray 143 (0, 0))) ?_
  have a3 : At (sing b12 (.cells [.func (.func 134) #[] #[.pointer (some ⟨b10, 0, none⟩), pd, p1, .pointer (some ⟨b12, 0, none⟩)]].toArray 143 (0, 0))) (.pointer (some ⟨b12, 0, none⟩)) [.func (.func 134) #[] #[.pointer (some ⟨b10, 0, none⟩), pd, p1, .pointer (some ⟨b12, 0, none⟩)]] := At.sing (cs := #[.func (.func 134) #[] #[.pointer (some ⟨b10, 0, none⟩), pd, p1, .pointer (some ⟨b12, 0, none⟩)]])
  refine ln ?_
  refine qc ?_
  refine cr ?_
  refine ld rfl ‹_› ?_
  refine kl_callJ [H2, (sing b12 (.cells [.func (.func 134) #[] #[.pointer (some ⟨b10, 0, none⟩), pd, p1, .pointer (some ⟨b12, 0, none⟩)]].toArray 143 (0, 0)))] rfl rfl (fun Kr2 hk hks => tup_ok ds.length hJ hJx ds [] 0 hd hl (by simp) (by intro q hq; simp) (by simp) hR a1 hdd (At.mono a4 (hks _ (.head _))) (At.mono a3 (hks _ (.tail _ (.head _)))) o9) (frc f3 (fr1 (fr_sing ‹_›))) (fun v14 L15 j16 h17 h18 => ?_)
  rcases h18 with ⟨rfl, rfl, v20, H21, rfl, o19⟩ | ⟨rfl, rfl, rfl⟩
  · skip
    refine nm ?_
    refine ln ?_
    refine kq_normI ?_
    exact kq_retJ0 rfl [] (.inl (by simp))
  · skip
    refine nm ?_
    refine ln ?_
    refine kq_normI ?_
    exact kq_retJ0 rfl [] (.inr rfl)
theorem tuples_it {p vd : Value} {H1 Hd : Hp} (ds : List Int) (hd : ∀ d ∈ ds, (0 : Int) ≤ d ∧ d ≤ 63) (hl : ds.length ≤ 1048576) (a1 : At H1 p [vd]) (hdd : Ints Hd vd ds) : ItSpec Tryz.prog 133 [p] [H1, Hd] (tupL ds) := fun l J Jx hJ hJx hR W hA hW =>
  (tup118_ok (fun n => ⟨hJ n⟩) ⟨hJx⟩ ds hd hl hR a1 hdd W (fun _ h => by cases h) List.Pairwise.nil (agree_no W) hA (hJ 0 hW (Nat.le_refl _) (fun _ _ _ => rfl) (Io.refl _) (fun b hb => by
    rcases hb with hb | ⟨_, h, _⟩
    · exact absurd rfl hb
    · cases h))).mono fun e W' he => by
    cases e with
    | returned v =>
      obtain ⟨_, _, _, _, L1, j, _, _, hj, hw, hp⟩ := he
      have hw' := hj.ok hw (Nat.le_refl _) (fun _ _ _ => rfl) (Io.refl _) (D' := fun _ => False) (fun _ h => h.elim)
      refine ⟨v, rfl, ?_⟩
      rcases hp with rfl | rfl
      · exact .inl hw'
      · exact .inr hw'
    | panicked c => exact he.elim
    | outgrown => exact he.elim
end
section
theorem tuples_ok {Hds : Hp} {vds : Value} (ds : List Int) (hds : Ints Hds vds ds) : Spec Tryz.prog 91 [vds] [Hds] (fun Hq vq => ∃ p : Value, vq = .func (.func 133) #[] #[p] ∧ At Hq p [vds]) := by
 refine spec_of Tryz.func91 rfl rfl rfl (fun B => ?_)
 refine cS (cr (kl_box rfl (Sl.cells ‹_›) (fun p1 H2 f3 a4 => ?_)))
 refine sg rfl (ln (qc (cS (cr (kl_mkf rfl ?_)))))
 refine sg rfl (ln (qc (rt ?_)))
 exact kq_ret rfl rfl H2 f3 ⟨_, rfl, a4⟩
theorem filter_ok {Hcv : Hp} {vcv : Value} {Hca : Hp} {vca : Value} {Hcr : Hp} {vcr : Value} {Hds : Hp} {vds : Value} (c : Con) (ds : List Int) (hC : ConOk c ds.length) (hd : DomV ds) (hcv : Ints Hcv vcv c.vars) (hca : Ints Hca vca c.args) (hcr : Rows Hcr vcr c.rows) (hds : Ints Hds vds ds) : Spec Tryz.prog 174 [.agg #[.int .i64 c.kind, vcv, vca, .int .i64 c.bound, vcr], vds] [Hcv, Hca, Hcr, Hds] (fun Hq vq => Ints Hq vq (filtL c ds)) := by
 have h0 := hC.one
 refine spec_ofR Tryz.func174 rfl rfl rfl (fun B => ?_)
 refine cS (cr (kl_box rfl rfl (fun p1 H2 f3 a4 => ?_)))
 refine sg rfl (ln (qc (cS (cr (fd9 rfl ‹_› (fun p5 a6 => ?_))))))
 refine ld rfl ‹_› (le9 rfl ‹_› (fun l7 => ?_))
 refine kl_mkL (R := IntV) (0 : Int) rfl rfl (by omega) (by decide) (by exact rfl) (fun v8 H9 f10 o11 => ?_)
 refine kl_alloc (cs := [.slice none 0 0]) rfl (fun b12 hb13 => ?_)
 refine sB rfl rfl rfl (OwnL.oneCell ‹_›) (OwnL.cells ‹_›) ?_
 refine ln (qc (cS (cS (cr (kl_ldS rfl ‹_› rfl ?_)))))
 refine mv rfl (kl_call rfl rfl (word_ok c ds hC.vars (by have := hC.one; omega) ‹_› ‹_› ‹_› ‹_›) (fun v14 H15 f16 h17 => ?_))
 refine kl_call rfl rfl (tuples_ok (wordL c.vars ds) ‹_›) (fun v18 H19 f20 h21 => ?_)
 obtain ⟨p22, rfl, a23⟩ := h21
 refine ln (qc (bl (kc_range (A := List Int × Value × Hp) (fun zz => [sing b12 (.cells [zz.2.1].toArray 23 (0, 0)), zz.2.2]) (fun n zz => (zz.1 = suppV c ((tupL (wordL c.vars ds)).take n)) ∧ OwnL 3 1 zz.2.2 noHp IntV zz.2.1 zz.1 ∧ Fr B zz.2.2) (fun _ _ => False) ((List.replicate c.vars.length (0 : Int)), v8, H9) rfl (tuples_it (wordL c.vars ds) (word_dom hC hd) (by have := hC.one; simp [wordL]; omega) a23 ‹_›) (pk [1, 2, 4, 5] rfl) rfl rfl ⟨(suppV_0 c).symm, o11, f10⟩ ?_ ?_ (fun _ _ _ _ h => h.elim))))
 ·rintro l29 m30 D31 r32 H33 v34 n ⟨left, v25, H26⟩ hk35 hJ36 h37
  obtain ⟨hi24, o27, f28⟩ : (left = suppV c ((tupL (wordL c.vars ds)).take n)) ∧ OwnL 3 1 H26 noHp IntV v25 left ∧ Fr B H26 := hJ36
  obtain ⟨t, ht⟩ : ∃ t, (tupL (wordL c.vars ds)).getD n [] = t := ⟨_, rfl⟩
  rw [ht] at h37
  have hS : SatOk c t := (tup_sat hC rfl (by rw [← ht]; exact getD_mem hk35))
  have hT := take_succ_getD [] hk35
  rw [ht] at hT
  change KC _ _ _ (rdy l29 r32 :: [sing b12 (.cells [v25].toArray 23 (0, 0)), H26]) _ _
  refine cr (sg rfl (ln (kq_begin (r := r32) ?_)))
  refine bl (cS (cr (kl_ldS rfl ‹_› rfl ?_)))
  refine mv rfl (cP rfl rfl (satisfied_ok c t hS ‹_› ‹_› ‹_› ‹_›) ?_)
  refine ln (qc (cd9 rfl (fun c39 => ?_) (fun c39 => ?_)))
  ·have c39r := c39
   try simp only [smpE] at c39
   refine cS (cr (mv rfl (le9 rfl ‹_› (fun l40 => ?_))))
   refine mv rfl (ln (qc (bl (kc_loopL (A := Nat × List Int × Value × Hp) (fun zz => (zz.1 ≤ t.length) ∧ (zz.2.1 = suppM c ((tupL (wordL c.vars ds)).take n) t zz.1) ∧ OwnL 3 1 zz.2.2.2 noHp IntV zz.2.2.1 zz.2.1 ∧ Fr B zz.2.2.2) (fun zz => t.length - zz.1) (fun zz => [bsy l29 r32, sing b12 (.cells [zz.2.2.1].toArray 23 (0, 0)), zz.2.2.2]) (fun zz => [(26, .int .i64 (zz.1 : Int))]) (0, left, v25, H26) (pk [1, 2, 4, 5, 6, 20, 21, 22, 23, 24, 25] rfl) (pc 26 rfl pn) rfl ⟨Nat.zero_le _, (by rw [hi24, suppM_0]), o27, f28⟩ ?_))))
   rintro ⟨k, left1, v46, H43⟩ hJ47
   obtain ⟨hk41, hi42, o44, f45⟩ : (k ≤ t.length) ∧ (left1 = suppM c ((tupL (wordL c.vars ds)).take n) t k) ∧ OwnL 3 1 H43 noHp IntV v46 left1 ∧ Fr B H43 := hJ47
   change KC _ _ (_) [bsy l29 r32, sing b12 (.cells [v46].toArray 23 (0, 0)), H43] _ ([(26, .int .i64 (k : Int))] ++ _)
   have hln : left1.length = c.vars.length := (by rw [hi42]; exact suppM_len c _ t k)
   refine cS (cr (ls9 rfl rfl ?_))
   refine ln (qc (cS (ci9 rfl (fun c48 => ?_) (fun c48 => ?_))))
   ·have hv1 := hS.val.at (k := k) (by omega)
    have hl1 := hS.len
    refine sk (qc (cS (bl (cS (cr (mv rfl (kl_inI rfl rfl ‹_› (by omega) (fun p49 a50 => ?_))))))))
    refine ld rfl ‹_› (sg rfl (sg rfl (ln (qc (kc_draw 8 [true, true, true, true, true, true, true, true, false] (by kernel_rfl) (by kernel_rfl) ?_)))))
    refine lB rfl rfl (mv rfl (kl_ixLn rfl rfl ‹_› (by omega) (fun p51 q52 => ?_)))
    refine kl_ldLI rfl ‹_› ‹_› (by omega) ?_
    refine mv rfl (kl_shl rfl rfl (by omega) ?_)
    refine kl_or rfl rfl ?_
    refine kl_ixLn rfl rfl ‹_› (by omega) (fun p53 q54 => ?_)
    refine kl_stL (ior (left1.getD k 0) (ishl (1 : Int) (t.getD k 0))) rfl rfl ‹_› o44 (by omega) rfl rfl rfl (fun H55 o56 f57 => ?_)
    have f58 := f57 _ f45
    refine ln (qc (cr (ic9 rfl rfl (by omega) ?_)))
    refine mv rfl (ln (rL ((k + 1), (left1.set k (ior (left1.getD k 0) (ishl (1 : Int) (t.getD k 0)))), v46, H55) (by omega) (⟨by omega, (by rw [hi42]; exact suppM_stepO ‹_› hS (by omega)), o56, f58⟩) (pc 26 rfl pn) (pk [1, 2, 4, 5, 6, 20, 21, 22, 23, 24, 25] rfl) rfl slr9))
   ·refine ex9 (tk [bsy l29 r32, sing b12 (.cells [v46].toArray 23 (0, 0)), H43] ?_)
    exact kq_rend (invx := fun _ _ => False) (left1, v46, H43) ⟨(by rw [hT]; first | exact supp_stepT hi42 hS (by omega) | (rw [suppV_no ‹_›]; exact hi24)), o44, f45⟩ rfl inferInstance slr9
  ·have c39r := c39
   try simp only [smpE] at c39
   refine sk (tk [bsy l29 r32, sing b12 (.cells [v25].toArray 23 (0, 0)), H26] ?_)
   exact kq_rend (invx := fun _ _ => False) (left, v25, H26) ⟨(by rw [hT]; first | exact supp_stepT hi42 hS (by omega) | (rw [suppV_no ‹_›]; exact hi24)), o27, f28⟩ rfl inferInstance slr9
 ·rintro D59 ⟨left, v25, H26⟩ hD60 hJ61
  obtain ⟨hi24, o27, f28⟩ : (left = suppV c ((tupL (wordL c.vars ds)).take ((tupL (wordL c.vars ds)).length))) ∧ OwnL 3 1 H26 noHp IntV v25 left ∧ Fr B H26 := hJ61
  change KQ _ _ ([sing b12 (.cells [v25].toArray 23 (0, 0)), H26]) _ _
  have hll : left.length = c.vars.length := (by rw [hi24]; exact suppV_len c _)
  refine qc (cS (cr (mv rfl (kl_callL rfl rfl (copied_ok ds (by have := hC.one; omega) ‹_›) (fun v62 H63 f64 o65 => ?_)))))
  refine sg rfl (ln (qc (cS (cS (cr (fd9 rfl ‹_› (fun p66 a67 => ?_)))))))
  refine ld rfl ‹_› (le9 rfl ‹_› (fun l68 => ?_))
  refine mv rfl (ln (qc (bl (kc_loopL (A := Nat × List Int × Hp) (fun zz => (zz.1 ≤ c.vars.length) ∧ (zz.2.1 = filtTo c ds left zz.1) ∧ OwnL 3 1 zz.2.2 noHp IntV v62 zz.2.1 ∧ Fr B zz.2.2) (fun zz => c.vars.length - zz.1) (fun zz => [zz.2.2, sing b12 (.cells [v25].toArray 23 (0, 0)), H26]) (fun zz => [(45, .int .i64 (zz.1 : Int))]) (0, ds, H63) (pk [4, 5, 9, 43, 44] rfl) (pc 45 rfl pn) rfl ⟨Nat.zero_le _, rfl, o65, f64⟩ ?_))))
  rintro ⟨k2, out, H71⟩ hJ74
  obtain ⟨hk69, hi70, o72, f73⟩ : (k2 ≤ c.vars.length) ∧ (out = filtTo c ds left k2) ∧ OwnL 3 1 H71 noHp IntV v62 out ∧ Fr B H71 := hJ74
  change KC _ _ (_) [H71, sing b12 (.cells [v25].toArray 23 (0, 0)), H26] _ ([(45, .int .i64 (k2 : Int))] ++ _)
  have hln : out.length = ds.length := (by rw [hi70]; exact filtTo_len c ds left k2)
  refine cS (cr (ls9 rfl rfl ?_))
  refine ln (qc (cS (ci9 rfl (fun c75 => ?_) (fun c75 => ?_))))
  ·have hv2 := hC.at (k := k2) (by omega)
   refine sk (qc (cS (bl (cS (cr (mv rfl (kl_inI rfl rfl ‹_› (by omega) (fun p76 a77 => ?_))))))))
   refine ld rfl ‹_› (sg rfl (sg rfl (ln (qc (cr (mv rfl (mv rfl (lB rfl rfl (mv rfl ?_)))))))))
   refine kl_ixLn rfl rfl ‹_› (by omega) (fun p78 q79 => ?_)
   refine kl_ldLI rfl ‹_› ‹_› (by omega) ?_
   refine kl_ixL rfl rfl ‹_› (by omega) (by omega) (fun p80 q81 => ?_)
   refine kl_stL (left.getD k2 0) rfl rfl ‹_› o72 (by omega) rfl rfl rfl (fun H82 o83 f84 => ?_)
   have f85 := f84 _ f73
   refine ln (qc (cr (ic9 rfl rfl (by omega) ?_)))
   refine mv rfl (ln (rL ((k2 + 1), (out.set ((c.vars.getD k2 0).toNat) (left.getD k2 0)), H82) (by omega) (⟨by omega, (by rw [hi70, filtTo_succ]), o83, f85⟩) (pc 45 rfl pn) (pk [4, 5, 9, 43, 44] rfl) rfl slr9))
  ·refine ex9 (qc (cS (cr (mv rfl (sg rfl (ln (qc (rt ?_))))))))
   have e9 : out = filtL c ds := by rw [hi70, hi24, List.take_length, show k2 = c.vars.length from by omega]; rfl
   exact kq_retR (rss1 rfl (rs_tmp rfl)) H71 f73 (e9 ▸ OwnL.ints o72) (df1 hD60)
theorem assigned_ok {Hx : Hp} {vx : Value} (x : List Int) (n : Int) (hx : Ints Hx vx x) : SpecP Tryz.prog 142 [vx, .int .i64 n] [Hx] (.bool (decide ((x.length : Int) = n) && allInB x 0 5)) := by
 refine spec_of Tryz.func142 rfl rfl rfl (fun B => ?_)
 refine cS (cr (sg rfl (ln (qc (cS (cr (mv rfl (le9 rfl ‹_› (fun l1 => ?_)))))))))
 refine mv rfl (eq9 rfl rfl ?_)
 refine mv rfl (jn 3 12 (.bool (decide ((x.length : Int) = n) && (allInB x (0 : Int) (5 : Int)))) (pk [4, 9] rfl) (fun J3 => ?_) ?_)
 ·rcases Bool.eq_false_or_eq_true (decide ((x.length : Int) = n)) with g2 | g2
  ·have g2p := of_decide_eq_true g2
   refine gT rfl rfl g2 (mv rfl (gT rfl rfl g2 (cP rfl rfl (allIn_ok x (0 : Int) (5 : Int) ‹_›) ?_)))
   refine aT rfl rfl g2 ?_
   exact J3 _ (pk [12, 4, 9] rfl)
  ·refine gF rfl rfl g2 (gF rfl rfl g2 (aF (allInB x (0 : Int) (5 : Int)) rfl rfl g2 ?_))
   exact J3 _ (pk [12, 4, 9] rfl)
 refine sg rfl (ln (qc (rt (kq_retP rfl rfl (congrArg Value.bool ?_)))))
 rfl
theorem isSol1_ok {Hcv : Hp} {vcv : Value} {Hca : Hp} {vca : Value} {Hcr : Hp} {vcr : Value} {Hx : Hp} {vx : Value} {Hpx : Hp} {ptrpx : Value} (c : Con) (x : List Int) (hC : ConOk c x.length) (hX : Vals x) (hcv : Ints Hcv vcv c.vars) (hca : Ints Hca vca c.args) (hcr : Rows Hcr vcr c.rows) (hx : Ints Hx vx x) (apx : At Hpx ptrpx [vx]) : SpecP Tryz.prog 138 [.agg #[.int .i64 c.kind, vcv, vca, .int .i64 c.bound, vcr], ptrpx] [Hcv, Hca, Hcr, Hx, Hpx] (.bool (!(conAt x c))) := by
 refine spec_of Tryz.func138 rfl rfl rfl (fun B => ?_)
 refine cS (cr (kl_box rfl rfl (fun p1 H2 f3 a4 => ?_)))
 refine sg rfl (ln (qc (cS (cr (kl_ldS rfl ‹_› rfl ?_)))))
 refine ld rfl ‹_› (cP rfl rfl (holds_ok c x hC hX ‹_› ‹_› ‹_› ‹_›) ?_)
 refine nt9 rfl (sg rfl (ln (qc (rt (kq_retP rfl rfl (congrArg Value.bool ?_))))))
 rfl
theorem isSol_ok {Hmd : Hp} {vmd : Value} {Hmc : Hp} {vmc : Value} {Hx : Hp} {vx : Value} (m : Mod) (x : List Int) (hM : MOk m) (hl : x.length = m.doms.length) (hX : Vals x) (hmd : Ints Hmd vmd m.doms) (hmc : Cons Hmc vmc m.cons) (hx : Ints Hx vx x) : SpecP Tryz.prog 93 [.agg #[vmd, vmc], vx] [Hmd, Hmc, Hx] (.bool (isSolB m x)) := by
 refine spec_of Tryz.func93 rfl rfl rfl (fun B => ?_)
 refine cS (cr (kl_box rfl rfl (fun p1 H2 f3 a4 => ?_)))
 refine kl_box rfl (Sl.cells ‹_›) (fun p5 H6 f7 a8 => ?_)
 refine sg rfl (ln (qc (cS (cS (cr (ld rfl ‹_› (le9 rfl ‹_› (fun l9 => ?_))))))))
 refine mv rfl (ln (qc (bl (kc_loop0 (A := Nat) (fun zz => (zz ≤ x.length) ∧ (inDomTo m x zz = true)) (fun zz => x.length - zz) (fun zz => [(9, .int .i64 (zz : Int))]) (0) (pk [2, 3, 7, 8] rfl) (pc 9 rfl pn) ⟨Nat.zero_le _, rfl⟩ ?_))))
 rintro k hJ12
 obtain ⟨hk10, hi11⟩ : (k ≤ x.length) ∧ (inDomTo m x k = true) := hJ12
 change KC _ _ (_) _ _ ([(9, .int .i64 (k : Int))] ++ _)
 refine cS (cr (ls9 rfl rfl ?_))
 refine ln (qc (cS (ci9 rfl (fun c13 => ?_) (fun c13 => ?_))))
 ·have hx1 := hX.at (k := k) (by omega)
  refine sk (qc (cS (bl (cS (cr (mv rfl (kl_inI rfl rfl ‹_› (by omega) (fun p14 a15 => ?_))))))))
  refine ld rfl ‹_› (sg rfl (sg rfl (ln (qc (cS (cr (fd9 rfl ‹_› (fun p16 a17 => ?_))))))))
  refine ld rfl ‹_› (mv rfl (kl_inI rfl rfl ‹_› (by omega) (fun p18 a19 => ?_)))
  refine ld rfl ‹_› (mv rfl (cP rfl rfl (has_ok (m.doms.getD k 0) (x.getD k 0) (by omega)) ?_))
  refine nt9 rfl (ln (qc (cd9 rfl (fun c20 => ?_) (fun c20 => ?_))))
  ·have c20r := c20
   try simp only [smpE] at c20
   refine cS (cr (sg rfl (ln (qc (rt (kq_retP rfl rfl (congrArg Value.bool ?_)))))))
   exact inDom_no (k := k) (by omega) ‹_›
  ·have c20r := c20
   try simp only [smpE] at c20
   refine sk (qc (cr (ic9 rfl rfl (by omega) ?_)))
   refine mv rfl (ln (kq_round0 ((k + 1)) (by omega) (⟨by omega, inDom_step hi11 ‹_›⟩) (pc 9 rfl pn) (pk [2, 3, 7, 8] rfl) slr9))
 ·refine ex9 (qc (cS (cr (fd9 rfl ‹_› (fun p21 a22 => ?_)))))
  refine ld rfl ‹_› (kl_mkf rfl ?_)
  refine cP rfl rfl (cf_con_ok m.cons (fun x22 => !(conAt x x22)) ‹_› (fun _ _ _ ax22 bx22 rx22 x22 hmx22 hax22 hbx22 hrx22 => isSol1_ok x22 x (by rw [hl]; exact ⟨hM.cm hmx22⟩) hX hax22 hbx22 hrx22 ‹_› ‹_›)) ?_
  refine nt9 rfl (sg rfl (ln (qc (rt (kq_retP rfl rfl (congrArg Value.bool ?_))))))
  exact inDom_yes hi11 (by omega) (by simp [metB, List.all_eq_not_any_not])
end
end Go.Proofs.YtolndgeihijlbaaGreat
