/- Walks of functions of the program: each returns what the plain function gives. Conditions: those that each statement names. -/
import Derived.Test.YtidllhcfcmjggaaWvalid
import Derived.Test.YtidllhcfcmjggaaWgraph
import Derived.Test.YtidllhcfcmjggaaWclip
import Derived.Test.YtidllhcfcmjggaaPureQ
import Derived.Test.YtidllhcfcmjggaaTre
namespace Go.Proofs.Ytidllhcfcmjggaa
open Go
set_option linter.unusedSimpArgs false
set_option linter.unusedVariables false
theorem ones64_ok (x : Int) (hb : 0 ≤ x ∧ x ≤ 63) : SpecP Try.prog 88 [.int .u64 x] [] (.int .i64 (popI x)) := by
 refine spec_of Try.func88 rfl rfl rfl (fun B => ?_)
 refine kc_seq (kc_region ?_)
 refine kl_as rfl ?_
 refine kl_nil (kq_code (kc_seq (kc_region ?_)))
 refine kl_mv rfl ?_
 refine kl_shrK rfl rfl (by omega) ?_
 refine kl_andK rfl rfl ?_
 refine kl_mv rfl ?_
 refine kl_andK rfl rfl ?_
 refine kl_addK rfl rfl ?_
 refine kl_as rfl ?_
 refine kl_nil (kq_code (kc_seq (kc_region ?_)))
 refine kl_mv rfl ?_
 refine kl_shrK rfl rfl (by omega) ?_
 refine kl_andK rfl rfl ?_
 refine kl_mv rfl ?_
 refine kl_andK rfl rfl ?_
 refine kl_addK rfl rfl ?_
 refine kl_as rfl ?_
 refine kl_nil (kq_code (kc_seq (kc_region ?_)))
 refine kl_mv rfl ?_
 refine kl_shrK rfl rfl (by omega) ?_
 refine kl_mv rfl ?_
 refine kl_addK rfl rfl ?_
 refine kl_andK rfl rfl ?_
 refine kl_as rfl ?_
 refine kl_nil (kq_code (kc_seq (kc_region ?_)))
 refine kl_mv rfl ?_
 refine kl_mv rfl ?_
 refine kl_shrK rfl rfl (by omega) ?_
 refine kl_addK rfl rfl ?_
 refine kl_as rfl ?_
 refine kl_nil (kq_code (kc_seq (kc_region ?_)))
 refine kl_mv rfl ?_
 refine kl_mv rfl ?_
 refine kl_shrK rfl rfl (by omega) ?_
 refine kl_addK rfl rfl ?_
 refine kl_as rfl ?_
 refine kl_nil (kq_code (kc_seq (kc_region ?_)))
 refine kl_mv rfl ?_
 refine kl_mv rfl ?_
 refine kl_shrK rfl rfl (by omega) ?_
 refine kl_addK rfl rfl ?_
 refine kl_as rfl ?_
 refine kl_nil (kq_code (kc_seq (kc_region ?_)))
 refine kl_mv rfl ?_
 refine kl_cv rfl ?_
 refine kl_and rfl rfl ?_
 refine kl_as rfl ?_
 refine kl_nil (kq_code ?_)
 refine kc_ret ?_
 refine kq_retP rfl rfl (congrArg (Value.int .i64) ?_)
 (obtain ⟨n, rfl⟩ := Int.eq_ofNat_of_zero_le hb.1; have hn : n < 64 := (by omega); clear hb; revert n; decide +kernel)
theorem ones_ok (x : Int) (hb : 0 ≤ x ∧ x ≤ 63) : SpecP Try.prog 56 [.int .u64 x] [] (.int .i64 (popI x)) := by
 refine spec_of Try.func56 rfl rfl rfl (fun B => ?_)
 refine kc_seq (kc_region ?_)
 refine kl_as rfl ?_
 refine kl_nil (kq_code ?_)
 refine kc_seq ?_
 refine kc_condF ?_
 refine kc_skipQ ?_
 refine kq_code ?_
 refine kc_seq (kc_region ?_)
 refine kl_mv rfl ?_
 refine kl_callP rfl rfl (ones64_ok x hb) ?_
 refine kl_as rfl ?_
 refine kl_nil (kq_code ?_)
 refine kc_ret ?_
 refine kq_retP rfl rfl (congrArg (Value.int .i64) ?_)
 rfl
theorem valuesOf_ok (d : Int) (hb : 0 ≤ d ∧ d ≤ 63) : Spec Try.prog 69 [.int .i64 d] [] (fun Hq vq => Ints Hq vq (valsI d)) := by
 have hp := popI_le d
 refine spec_of Try.func69 rfl rfl rfl (fun B => ?_)
 refine kc_seq (kc_region ?_)
 refine kl_as rfl ?_
 refine kl_nil (kq_code (kc_seq (kc_region ?_)))
 refine kl_mv rfl ?_
 refine kl_cvu rfl (by omega) ?_
 refine kl_callP rfl rfl (ones_ok d hb) ?_
 refine kl_mkL0 (R := IntV) rfl rfl (by omega) (by omega) (by decide) (fun v1 H2 f3 o4 => ?_)
 refine kl_as rfl ?_
 refine kl_nil (kq_code ?_)
 refine kc_seq ?_
 refine kc_seq (kc_region ?_)
 refine kl_mv rfl ?_
 refine kl_nil (kq_code ?_)
 refine kc_block ?_
 refine kc_loopL (A := Nat × List Int × Value × Hp) (fun zz => (zz.1 ≤ 6) ∧ (zz.2.1 = membersTo d zz.1) ∧ OwnL 3 1 zz.2.2.2 noHp IntV zz.2.2.1 zz.2.1 ∧ Fr B zz.2.2.2) (fun zz => 6 - zz.1) (fun zz => [zz.2.2.2]) (fun zz => [(9, .int .i64 (zz.1 : Int)), (3, zz.2.2.1)]) (0, ([]), v1, H2) (pc 0 rfl (pc 2 rfl pn)) (pc 9 rfl (pc 3 rfl pn)) rfl ⟨Nat.zero_le _, rfl, o4, f3⟩ ?_
 rintro ⟨k, out, v10, H7⟩ hJ11
 obtain ⟨hk5, hi6, o8, f9⟩ : (k ≤ 6) ∧ (out = membersTo d k) ∧ OwnL 3 1 H7 noHp IntV v10 out ∧ Fr B H7 := hJ11
 change KC _ _ (_) [H7] _ ([(9, .int .i64 (k : Int)), (3, v10)] ++ _)
 refine kc_seq (kc_region ?_)
 refine kl_lss rfl rfl ?_
 refine kl_nil (kq_code ?_)
 refine kc_seq ?_
 refine kc_if rfl (fun c12 => ?_) (fun c12 => ?_)
 ·skip
  refine kc_skipQ ?_
  refine kq_code ?_
  refine kc_seq ?_
  refine kc_block ?_
  refine kc_seq (kc_region ?_)
  refine kl_mv rfl ?_
  refine kl_as rfl ?_
  refine kl_nil (kq_code (kc_seq (kc_region ?_)))
  refine kl_mv rfl ?_
  refine kl_mv rfl ?_
  refine kl_callP rfl rfl (has_ok d (k : Int) (by omega)) ?_
  refine kl_nil (kq_code ?_)
  refine kc_cond rfl (fun c13 => ?_) (fun c13 => ?_)
  ·skip
   have c13r := c13
   try simp only [Bool.not_eq_true', Bool.not_eq_false', Bool.not_true, Bool.not_false, decide_eq_true_eq, decide_eq_false_iff_not, Bool.and_eq_true, Bool.or_eq_false_iff] at c13
   refine kc_region ?_
   refine kl_mv rfl ?_
   refine kl_mv rfl ?_
   refine kl_bs rfl rfl rfl (by decide) (ca rfl ca_nil) (fun v14 H15 f16 r17 s18 => ?_)
   have h19 : Ints H15 v14 [(k : Int)] := litInts (xs := [(k : Int)]) (by simpa using s18)
   refine kl_apL (k : Int) rfl rfl o8 (by assumption) rfl (oc rfl oc_nil) (by have := members_len hi6; omega) (by decide) (fun v20 H21 o22 f23 => ?_)
   have f24 := f23 B f9 (Nat.le_refl _)
   refine kl_as rfl ?_
   refine kl_nil (kq_code ?_)
   refine kc_region ?_
   refine kl_inc rfl rfl (by omega) ?_
   refine kl_mv rfl ?_
   refine kl_nil ?_
   refine kq_roundL ((k + 1), (out ++ [(k : Int)]), v20, H21) (by omega) (⟨by omega, (by first | exact members_stepT hi6 (by assumption) | exact members_stepF hi6 (by assumption)), o22, f24⟩) (pc 9 rfl (pc 3 rfl pn)) (pc 0 rfl (pc 2 rfl pn)) rfl (List.Sublist.refl _)
  ·skip
   have c13r := c13
   try simp only [Bool.not_eq_true', Bool.not_eq_false', Bool.not_true, Bool.not_false, decide_eq_true_eq, decide_eq_false_iff_not, Bool.and_eq_true, Bool.or_eq_false_iff] at c13
   refine kc_skipQ ?_
   refine kq_code ?_
   refine kc_region ?_
   refine kl_inc rfl rfl (by omega) ?_
   refine kl_mv rfl ?_
   refine kl_nil ?_
   refine kq_roundL ((k + 1), out, v10, H7) (by omega) (⟨by omega, (by first | exact members_stepT hi6 (by assumption) | exact members_stepF hi6 (by assumption)), o8, f9⟩) (pc 9 rfl (pc 3 rfl pn)) (pc 0 rfl (pc 2 rfl pn)) rfl (List.Sublist.refl _)
 ·skip
  refine kc_exit ?_
  refine kq_code ?_
  refine kc_seq (kc_region ?_)
  refine kl_mv rfl ?_
  refine kl_as rfl ?_
  refine kl_nil (kq_code ?_)
  refine kc_ret ?_
  have e9 : out = valsI d := by (have e : k = 6 := by omega); rw [hi6, e]; rfl
  exact kq_ret rfl rfl H7 f9 (e9 ▸ OwnL.ints o8)
theorem clone_ok {Hxs : Hp} {vxs : Value} (xs : List Int) (hb : xs.length ≤ 1048576) (hxs : Ints Hxs vxs xs) : Spec Try.prog 72 [vxs] [Hxs] (fun Hq vq => OwnL 3 1 Hq noHp IntV vq xs) := by
 refine spec_of Try.func72 rfl rfl rfl (fun B => ?_)
 refine kc_seq (kc_region ?_)
 refine kl_as rfl ?_
 refine kl_nil (kq_code ?_)
 refine kc_seq ?_
 refine kc_seq (kc_region ?_)
 refine kl_mv rfl ?_
 refine kl_eqlnil rfl rfl (by assumption) (fun b1 h2 => ?_)
 refine kl_nil (kq_code ?_)
 refine kc_cond rfl (fun c3 => ?_) (fun c3 => ?_)
 ·skip
  have c3r := c3
  try simp only [Bool.not_eq_true', Bool.not_eq_false', Bool.not_true, Bool.not_false, decide_eq_true_eq, decide_eq_false_iff_not, Bool.and_eq_true, Bool.or_eq_false_iff] at c3
  refine kc_seq (kc_region ?_)
  refine kl_as rfl ?_
  refine kl_nil (kq_code ?_)
  refine kc_ret ?_
  exact kq_ret rfl rfl noHp (fr_no _) (by rw [show xs = [] from (by simp_all)]; exact OwnL.nil)
 ·skip
  have c3r := c3
  try simp only [Bool.not_eq_true', Bool.not_eq_false', Bool.not_true, Bool.not_false, decide_eq_true_eq, decide_eq_false_iff_not, Bool.and_eq_true, Bool.or_eq_false_iff] at c3
  refine kc_skipQ ?_
  refine kq_code ?_
  refine kc_seq (kc_region ?_)
  refine kl_bsI [] rfl rfl rfl (by decide) (fun v4 H5 f6 o7 => ?_)
  refine kl_mv rfl ?_
  refine kl_apS rfl rfl o7 (by assumption) (fun _ _ h => h) (by first | omega | (simp; omega)) (by decide) (fun v8 H9 o10 f11 => ?_)
  have f12 := f11 B f6 (Nat.le_refl _)
  refine kl_as rfl ?_
  refine kl_nil (kq_code ?_)
  refine kc_ret ?_
  have e9 : ([] ++ xs) = xs := by simp
  exact kq_ret rfl rfl H9 f12 (e9 ▸ o10)
theorem copied_ok {Hxs : Hp} {vxs : Value} (xs : List Int) (hb : xs.length ≤ 1048576) (hxs : Ints Hxs vxs xs) : Spec Try.prog 37 [vxs] [Hxs] (fun Hq vq => OwnL 3 1 Hq noHp IntV vq xs) := by
 refine spec_of Try.func37 rfl rfl rfl (fun B => ?_)
 refine kc_seq (kc_region ?_)
 refine kl_as rfl ?_
 refine kl_nil (kq_code (kc_seq (kc_region ?_)))
 refine kl_mv rfl ?_
 refine kl_callL rfl rfl (clone_ok xs hb (by assumption)) (fun v1 H2 f3 o4 => ?_)
 refine kl_call rfl rfl (clip_ok xs (OwnL.ints o4)) (fun v5 H6 f7 h8 => ?_)
 obtain ⟨h8, h9⟩ := h8
 refine kl_as rfl ?_
 refine kl_nil (kq_code ?_)
 refine kc_ret ?_
 exact kq_ret rfl rfl H2 f3 ((OwnL.clip o4 h9))
end Go.Proofs.Ytidllhcfcmjggaa
