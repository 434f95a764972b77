/- Walks of functions of the program: each returns what the plain function gives. Conditions: those that each statement names. -/
import Derived.Test.YtidllhcfcmjggaaWgraph
import Derived.Test.YtidllhcfcmjggaaWclip
import Derived.Test.YtidllhcfcmjggaaPure
namespace Go.Proofs.Ytidllhcfcmjggaa
open Go
set_option linter.unusedSimpArgs false
set_option linter.unusedVariables false
theorem members_ok (b : Int) (hb : 0 ≤ b ∧ b < 2 ^ 63) : Spec Try.prog 39 [.int .i64 b] [] (fun Hq vq => Ints Hq vq (membersI b)) := by
 refine spec_of Try.func39 rfl rfl rfl (fun B => ?_)
 refine kc_seq (kc_region ?_)
 refine kl_as rfl ?_
 refine kl_nil (kq_code (kc_seq (kc_region ?_)))
 refine kl_bsI [] rfl rfl rfl (by decide) (fun v1 H2 f3 o4 => ?_)
 refine kl_as rfl ?_
 refine kl_nil (kq_code ?_)
 refine kc_seq ?_
 refine kc_seq (kc_region ?_)
 refine kl_as rfl ?_
 refine kl_nil (kq_code ?_)
 refine kc_block ?_
 refine kc_loopL (A := Nat × List Int × Value × Hp) (fun zz => (zz.1 ≤ 63) ∧ (zz.2.1 = membersTo b zz.1) ∧ OwnL 3 1 zz.2.2.2 noHp IntV zz.2.2.1 zz.2.1 ∧ Fr B zz.2.2.2) (fun zz => 63 - zz.1) (fun zz => [zz.2.2.2]) (fun zz => [(4, .int .i64 (zz.1 : Int)), (3, zz.2.2.1)]) (0, ([]), v1, H2) (pc 0 rfl (pc 2 rfl pn)) (pc 4 rfl (pc 3 rfl pn)) rfl ⟨Nat.zero_le _, rfl, o4, f3⟩ ?_
 rintro ⟨k, out, v10, H7⟩ hJ11
 obtain ⟨hk5, hi6, o8, f9⟩ : (k ≤ 63) ∧ (out = membersTo b k) ∧ OwnL 3 1 H7 noHp IntV v10 out ∧ Fr B H7 := hJ11
 change KC _ _ (_) [H7] _ ([(4, .int .i64 (k : Int)), (3, v10)] ++ _)
 refine kc_seq ?_
 refine kc_seq (kc_region ?_)
 refine kl_mv rfl ?_
 refine kl_mv rfl ?_
 refine kl_shr rfl rfl (by omega) ?_
 refine kl_gtr rfl rfl ?_
 refine kl_nil (kq_code ?_)
 refine kc_if rfl (fun c12 => ?_) (fun c12 => ?_)
 ·skip
  refine kc_skipQ ?_
  refine kq_code ?_
  refine kc_seq ?_
  refine kc_block ?_
  refine kc_seq (kc_region ?_)
  refine kl_mv rfl ?_
  refine kl_mv rfl ?_
  refine kl_callP rfl rfl (has_ok b (k : Int) (by omega)) ?_
  refine kl_nil (kq_code ?_)
  refine kc_cond rfl (fun c13 => ?_) (fun c13 => ?_)
  ·skip
   have c13r := c13
   try simp only [Bool.not_eq_true', Bool.not_eq_false', Bool.not_true, Bool.not_false, decide_eq_true_eq, decide_eq_false_iff_not, Bool.and_eq_true, Bool.or_eq_false_iff] at c13
   refine kc_region ?_
   refine kl_mv rfl ?_
   refine kl_mv rfl ?_
   refine kl_bs rfl rfl rfl (by decide) (ca rfl ca_nil) (fun v14 H15 f16 r17 s18 => ?_)
   have h19 : Ints H15 v14 [(k : Int)] := litInts (xs := [(k : Int)]) (by simpa using s18)
   refine kl_apL (k : Int) rfl rfl o8 (by assumption) rfl (oc rfl oc_nil) (by have := members_len hi6; omega) (by decide) (fun v20 H21 o22 f23 => ?_)
   have f24 := f23 B f9 (Nat.le_refl _)
   refine kl_as rfl ?_
   refine kl_nil (kq_code ?_)
   refine kc_region ?_
   refine kl_mv rfl ?_
   refine kl_inc rfl rfl (by omega) ?_
   refine kl_as rfl ?_
   refine kl_nil ?_
   refine kq_roundL ((k + 1), (out ++ [(k : Int)]), v20, H21) (by have := ishr_pos hb.1 hb.2 (by assumption : k ≤ 63) (by assumption); omega) (⟨by have := ishr_pos hb.1 hb.2 hk5 (by assumption); omega, (by first | exact members_stepT hi6 (by assumption) | exact members_stepF hi6 (by assumption)), o22, f24⟩) (pc 4 rfl (pc 3 rfl pn)) (pc 0 rfl (pc 2 rfl pn)) rfl (List.Sublist.refl _)
  ·skip
   have c13r := c13
   try simp only [Bool.not_eq_true', Bool.not_eq_false', Bool.not_true, Bool.not_false, decide_eq_true_eq, decide_eq_false_iff_not, Bool.and_eq_true, Bool.or_eq_false_iff] at c13
   refine kc_skipQ ?_
   refine kq_code ?_
   refine kc_region ?_
   refine kl_mv rfl ?_
   refine kl_inc rfl rfl (by omega) ?_
   refine kl_as rfl ?_
   refine kl_nil ?_
   refine kq_roundL ((k + 1), out, v10, H7) (by have := ishr_pos hb.1 hb.2 (by assumption : k ≤ 63) (by assumption); omega) (⟨by have := ishr_pos hb.1 hb.2 hk5 (by assumption); omega, (by first | exact members_stepT hi6 (by assumption) | exact members_stepF hi6 (by assumption)), o8, f9⟩) (pc 4 rfl (pc 3 rfl pn)) (pc 0 rfl (pc 2 rfl pn)) rfl (List.Sublist.refl _)
 ·skip
  refine kc_exit ?_
  refine kq_code ?_
  refine kc_seq (kc_region ?_)
  refine kl_mv rfl ?_
  refine kl_call rfl rfl (clip_ok out (OwnL.ints o8)) (fun v25 H26 f27 h28 => ?_)
  obtain ⟨h28, h29⟩ := h28
  refine kl_as rfl ?_
  refine kl_nil (kq_code ?_)
  refine kc_ret ?_
  exact kq_ret rfl rfl H7 f9 (by rw [← members_end hb.1 hb.2 (by assumption) hi6 (by assumption)]; assumption)
theorem neighbours_ok {Hmd : Hp} {vmd : Value} {Hmc : Hp} {vmc : Value} (m : Mod) (v : Int) (hmd : Ints Hmd vmd m.doms) (hmc : Cons Hmc vmc m.cons) : Spec Try.prog 10 [.agg #[vmd, vmc], .int .i64 v] [Hmd, Hmc] (fun Hq vq => Ints Hq vq (nbI m v)) := by
 refine spec_of Try.func10 rfl rfl rfl (fun B => ?_)
 refine kc_seq (kc_region ?_)
 refine kl_box rfl rfl (fun p1 H2 f3 a4 => ?_)
 refine kl_as rfl ?_
 refine kl_nil (kq_code ?_)
 refine kc_seq ?_
 refine kc_seq (kc_region ?_)
 refine kl_ldS rfl (by assumption) rfl ?_
 refine kl_mv rfl ?_
 refine kl_bs rfl rfl rfl (by decide) (ca rfl ca_nil) (fun v5 H6 f7 r8 s9 => ?_)
 have h10 : Ints H6 v5 [v] := litInts (xs := [v]) (by simpa using s9)
 refine kl_callP rfl rfl (varsIn_ok m ([v]) (by assumption) (by assumption) (by assumption)) ?_
 refine kl_not rfl ?_
 refine kl_nil (kq_code ?_)
 refine kc_cond rfl (fun c11 => ?_) (fun c11 => ?_)
 ·skip
  have c11r := c11
  try simp only [Bool.not_eq_true', Bool.not_eq_false', Bool.not_true, Bool.not_false, decide_eq_true_eq, decide_eq_false_iff_not, Bool.and_eq_true, Bool.or_eq_false_iff] at c11
  refine kc_seq (kc_region ?_)
  refine kl_as rfl ?_
  refine kl_nil (kq_code ?_)
  refine kc_ret ?_
  exact kq_ret rfl rfl noHp (fr_no _) (by rw [show nbI m v = [] from if_pos (by assumption)]; exact Sl.nil)
 ·skip
  have c11r := c11
  try simp only [Bool.not_eq_true', Bool.not_eq_false', Bool.not_true, Bool.not_false, decide_eq_true_eq, decide_eq_false_iff_not, Bool.and_eq_true, Bool.or_eq_false_iff] at c11
  have hs := nb_okI (m := m) (v := v) c11r; have hmk := hs.mask
  refine kc_skipQ ?_
  refine kq_code ?_
  refine kc_seq (kc_region ?_)
  refine kl_ldS rfl (by assumption) rfl ?_
  refine kl_call rfl rfl (graph_ok m hs.n hs.i (by assumption) (by assumption)) (fun v12 H13 f14 o15 => ?_)
  have h16 := OwnL.ints o15
  refine kl_mv rfl ?_
  refine kl_ixI rfl rfl (by assumption) (by have hv := hs.v; omega) (by have hv := hs.v; omega) (fun p17 a18 => ?_)
  refine kl_ld rfl (by assumption) ?_
  refine kl_call rfl rfl (members_ok ((graphI m).getD v.toNat 0) hmk.2) (fun v19 H20 f21 h22 => ?_)
  refine kl_as rfl ?_
  refine kl_nil (kq_code ?_)
  refine kc_ret ?_
  exact kq_ret rfl rfl H20 f21 (by rw [show nbI m v = _ from if_neg (by rw [show (!(varsInB m [v])) = false by assumption]; simp)]; assumption)
end Go.Proofs.Ytidllhcfcmjggaa
