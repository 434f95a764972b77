/- Walks of functions of the program: each returns what the plain function gives. Conditions: those that each statement names. -/
import Derived.Test.YtiilanckbocifaaDoorWtz
import Derived.Test.YtiilanckbocifaaDoorWgraph
import Derived.Test.YtiilanckbocifaaDoorPureT
namespace Go.Proofs.YtiilanckbocifaaDoor
open Go
set_option linter.unusedSimpArgs false
set_option linter.unusedVariables false
theorem components_ok {Hmd : Hp} {vmd : Value} {Hmc : Hp} {vmc : Value} {Ht : Hp} (m : Mod) (hmd : Ints Hmd vmd m.doms) (hmc : Cons Hmc vmc m.cons) (htab : At Ht (.pointer (some ⟨1, 0, none⟩)) tabV) : Spec Tryd.prog 5 [.agg #[vmd, vmc]] [Hmd, Hmc, Ht] (fun Hq vq => Ints Hq vq (compI m)) := by
 refine spec_of Tryd.func5 rfl rfl rfl (fun B => ?_)
 refine kc_seq (kc_region (kl_box rfl rfl (fun p1 H2 f3 a4 => ?_)))
 refine kl_as rfl (kl_nil (kq_code (kc_seq (kc_seq (kc_region (kl_ldS rfl (by assumption) rfl ?_))))))
 refine kl_callP rfl rfl (validMod_ok m (by assumption) (by assumption)) ?_
 refine kl_not rfl (kl_nil (kq_code (kc_cond rfl (fun c5 => ?_) (fun c5 => ?_))))
 ·skip
  have c5r := c5
  try simp only [smpC, decide_eq_true_eq, decide_eq_false_iff_not] at c5
  refine kc_seq (kc_region (kl_as rfl (kl_nil (kq_code (kc_ret ?_)))))
  exact kq_ret rfl rfl noHp (fr_no _) (by rw [show compI m = [] from if_neg (by simpa using (by assumption : (!(validModB m)) = true))]; exact Sl.nil)
 ·skip
  have c5r := c5
  try simp only [smpC, decide_eq_true_eq, decide_eq_false_iff_not] at c5
  have hm : validModB m = true := (by simpa using c5r)
  have hM : MOk m := ⟨hm⟩
  have hn := hM.n
  refine kc_skipQ (kq_code (kc_seq (kc_region (kl_fd rfl (by assumption) (fun p6 a7 => ?_)))))
  refine kl_ld rfl (by assumption) (kl_len rfl (by assumption) (fun l8 => ?_))
  refine kl_mkL0 (R := IntV) rfl rfl (by omega) (by omega) (by decide) (fun v9 H10 f11 o12 => ?_)
  refine kl_as rfl (kl_nil (kq_code (kc_seq (kc_seq (kc_region (kl_fd rfl (by assumption) (fun p13 a14 => ?_)))))))
  refine kl_ld rfl (by assumption) (kl_len rfl (by assumption) (fun l15 => ?_))
  refine kl_mv rfl (kl_nil (kq_code (kc_block (kc_loopL (A := Nat × List Int × Value × Hp) (fun zz => (zz.1 ≤ m.doms.length) ∧ (zz.2.1 = (List.range zz.1).map (compAt m)) ∧ OwnL 3 1 zz.2.2.2 noHp IntV zz.2.2.1 zz.2.1 ∧ Fr B zz.2.2.2) (fun zz => m.doms.length - zz.1) (fun zz => [zz.2.2.2]) (fun zz => [(15, .int .i64 (zz.1 : Int)), (3, zz.2.2.1)]) (0, ([]), v9, H10) (pc 1 rfl (pc 2 rfl (pc 14 rfl pn))) (pc 15 rfl (pc 3 rfl pn)) rfl ⟨Nat.zero_le _, rfl, o12, f11⟩ ?_))))
  rintro ⟨k, out, v21, H18⟩ hJ22
  obtain ⟨hk16, hi17, o19, f20⟩ : (k ≤ m.doms.length) ∧ (out = (List.range k).map (compAt m)) ∧ OwnL 3 1 H18 noHp IntV v21 out ∧ Fr B H18 := hJ22
  change KC _ _ (_) [H18] _ ([(15, .int .i64 (k : Int)), (3, v21)] ++ _)
  refine kc_seq (kc_region (kl_lss rfl rfl ?_))
  refine kl_nil (kq_code (kc_seq (kc_if rfl (fun c23 => ?_) (fun c23 => ?_))))
  ·skip
   obtain ⟨x, hx⟩ := maskC hM (v := k) (by omega)
   have hx1 := hx.pos
   have hx2 := hx.lt
   have hx3 := hx.e
   refine kc_skipQ (kq_code (kc_seq (kc_block (kc_seq (kc_region (kl_mv rfl (kl_as rfl (kl_nil (kq_code (kc_region ?_))))))))))
   refine kl_mv rfl (kl_ldS rfl (by assumption) rfl ?_)
   refine kl_mv rfl (kl_callP rfl rfl (linked_ok m (k : Int) (0 : Int) hn.2 hM.i (by omega) (by omega) (by assumption) (by assumption)) ?_)
   refine kl_cvu rfl (by omega) ?_
   refine kl_callP rfl rfl (tz_ok (linkedI m (k : Int) (0 : Int)) (by omega) htab) ?_
   refine kl_bs rfl rfl rfl (by decide) (ca rfl ca_nil) (fun v24 H25 f26 r27 s28 => ?_)
   have h29 : Ints H25 v24 [(tzI (linkedI m (k : Int) (0 : Int)))] := litInts (xs := [(tzI (linkedI m (k : Int) (0 : Int)))]) (by simpa using s28)
   refine kl_apL (tzI (linkedI m (k : Int) (0 : Int))) rfl rfl o19 (by assumption) rfl (oc rfl oc_nil) (by (have h5 := congrArg List.length hi17; simp at h5; omega)) (by decide) (fun v30 H31 o32 f33 => ?_)
   have f34 := f33 B f20 (Nat.le_refl _)
   refine kl_as rfl (kl_nil (kq_code (kc_region (kl_inc rfl rfl (by omega) ?_))))
   refine kl_mv rfl (kl_nil (kq_take [H31] ?_))
   refine kq_roundL ((k + 1), (out ++ [(tzI (linkedI m (k : Int) (0 : Int)))]), v30, H31) (by omega) (⟨by omega, (by rw [hi17]; exact map_snoc (compAt m) k), o32, f34⟩) (pc 15 rfl (pc 3 rfl pn)) (pc 1 rfl (pc 2 rfl (pc 14 rfl pn))) rfl (List.Sublist.refl _)
  ·skip
   refine kc_exit (kq_code (kc_seq (kc_region (kl_mv rfl (kl_as rfl (kl_nil (kq_code (kc_ret ?_))))))))
   have e9 : out = compI m := by (rw [hi17, show k = m.doms.length from by omega]; exact (if_pos hm).symm)
   exact kq_ret rfl rfl H18 f20 (e9 ▸ OwnL.ints o19)
end Go.Proofs.YtiilanckbocifaaDoor
