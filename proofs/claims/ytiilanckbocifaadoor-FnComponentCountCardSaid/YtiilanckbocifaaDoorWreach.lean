/- Walks of functions of the program: each returns what the plain function gives. Conditions: those that each statement names. -/
import Derived.Test.YtiilanckbocifaaDoorWspecv
import Derived.Test.YtiilanckbocifaaDoorPure
namespace Go.Proofs.YtiilanckbocifaaDoor
open Go
set_option linter.unusedSimpArgs false
set_option linter.unusedVariables false
theorem reachable_ok {Hmd : Hp} {vmd : Value} {Hmc : Hp} {vmc : Value} {Hrem : Hp} {vrem : Value} (m : Mod) (v : Int) (rem : List Int) (hv : 0 ≤ v ∧ v < m.doms.length) (hb : m.doms.length ≤ 1048576) (hmd : Ints Hmd vmd m.doms) (hmc : Cons Hmc vmc m.cons) (hrem : Ints Hrem vrem rem) : Spec Tryd.prog 17 [.agg #[vmd, vmc], .int .i64 v, vrem] [Hmd, Hmc, Hrem] (fun Hq vq => OwnL 3 1 Hq noHp IntV vq (reachS m v rem)) := by
 refine spec_of Tryd.func17 rfl rfl rfl (fun B => ?_)
 refine kc_seq (kc_region (kl_box rfl rfl (fun p1 H2 f3 a4 => ?_)))
 refine kl_as rfl (kl_nil (kq_code (kc_seq (kc_region (kl_mv rfl (kl_bsI [v] rfl rfl rfl (by decide) (fun v5 H6 f7 o8 => ?_)))))))
 refine kl_as rfl (kl_nil (kq_code (kc_seq (kc_seq (kc_region (kl_as rfl (kl_nil (kq_code (kc_block (kc_loopL (A := Nat × List Int × Value × Hp) (fun zz => (zz.1 ≤ m.doms.length) ∧ (reachGo m.cons rem m.doms.length (m.doms.length - zz.1) zz.1 zz.2.1 = reachS m v rem ∧ ROk m.doms.length zz.2.1 ∧ zz.1 ≤ zz.2.1.length) ∧ OwnL 3 1 zz.2.2.2 noHp IntV zz.2.2.1 zz.2.1 ∧ Fr B zz.2.2.2) (fun zz => m.doms.length - zz.1) (fun zz => [zz.2.2.2]) (fun zz => [(8, .int .i64 (zz.1 : Int)), (7, zz.2.2.1)]) (0, ([v]), v5, H6) (pc 2 rfl (pc 3 rfl (pc 6 rfl pn))) (pc 8 rfl (pc 7 rfl pn)) rfl ⟨Nat.zero_le _, ⟨rfl, ROk.one hv, Nat.zero_le _⟩, o8, f7⟩ ?_))))))))))
 rintro ⟨k, out, v14, H11⟩ hJ15
 obtain ⟨hk9, hi10, o12, f13⟩ : (k ≤ m.doms.length) ∧ (reachGo m.cons rem m.doms.length (m.doms.length - k) k out = reachS m v rem ∧ ROk m.doms.length out ∧ k ≤ out.length) ∧ OwnL 3 1 H11 noHp IntV v14 out ∧ Fr B H11 := hJ15
 change KC _ _ (_) [H11] _ ([(8, .int .i64 (k : Int)), (7, v14)] ++ _)
 have hlen := hi10.2.1.len
 refine kc_seq (kc_seq (kc_region (kl_mv rfl (kl_mv rfl (kl_lenL rfl o12 (fun l16 => ?_))))))
 refine kl_lss rfl rfl ?_
 refine kl_nil (kq_code (kc_if rfl (fun c17 => ?_) (fun c17 => ?_)))
 ·skip
  refine kc_skipQ (kq_code (kc_seq (kc_block (kc_seq (kc_region (kl_as rfl (kl_nil (kq_code (kc_block (kc_loopL (A := Nat × List Int × Value × Hp) (fun zz => (zz.1 ≤ m.doms.length) ∧ (zz.2.1 = reachRow m.cons rem k out zz.1 ∧ ROk m.doms.length zz.2.1 ∧ k < zz.2.1.length) ∧ OwnL 3 1 zz.2.2.2 noHp IntV zz.2.2.1 zz.2.1 ∧ Fr B zz.2.2.2) (fun zz => m.doms.length - zz.1) (fun zz => [zz.2.2.2]) (fun zz => [(9, .int .i64 (zz.1 : Int)), (7, zz.2.2.1)]) (0, out, v14, H11) (pc 2 rfl (pc 3 rfl (pc 6 rfl (pc 8 rfl (pc 12 rfl (pc 13 rfl (pc 14 rfl (pc 15 rfl pn)))))))) (pc 9 rfl (pc 7 rfl pn)) rfl ⟨Nat.zero_le _, ⟨rfl, hi10.2.1, by dsimp only; omega⟩, o12, f13⟩ ?_))))))))))
  rintro ⟨j, o2, v23, H20⟩ hJ24
  obtain ⟨hk18, hi19, o21, f22⟩ : (j ≤ m.doms.length) ∧ (o2 = reachRow m.cons rem k out j ∧ ROk m.doms.length o2 ∧ k < o2.length) ∧ OwnL 3 1 H20 noHp IntV v23 o2 ∧ Fr B H20 := hJ24
  change KC _ _ (_) [H20] _ ([(9, .int .i64 (j : Int)), (7, v23)] ++ _)
  refine kc_seq (kc_seq (kc_region (kl_mv rfl (kl_fd rfl (by assumption) (fun p25 a26 => ?_)))))
  refine kl_ld rfl (by assumption) (kl_len rfl (by assumption) (fun l27 => ?_))
  refine kl_lss rfl rfl ?_
  refine kl_nil (kq_code (kc_if rfl (fun c28 => ?_) (fun c28 => ?_)))
  ·skip
   refine kc_skipQ (kq_code (kc_seq (kc_block (kc_seq (kc_draw 19 [true, true, true, true, true, true, false, true, true, true, false, true, true, true, true, true, false, true, true] (by kernel_rfl) (by kernel_rfl) ?_)))))
   refine kl_ldS rfl (by assumption) rfl ?_
   refine kl_mv rfl (kl_mv rfl (kl_ixLn rfl rfl (by assumption) (by omega) (fun p29 q30 => ?_)))
   refine kl_ldLI rfl (by assumption) (by assumption) (by omega) ?_
   refine kl_mv rfl (kl_callP rfl rfl (adjacent_ok m (o2.getD k 0) (j : Int) (by assumption) (by assumption)) ?_)
   refine kl_mv rfl (kl_join 5 37 (.bool ((adjB m.cons (o2.getD k 0) (j : Int)) && !(rem.contains (j : Int)))) (pc 2 rfl (pc 3 rfl (pc 6 rfl (pc 7 rfl (pc 8 rfl (pc 9 rfl (pc 12 rfl (pc 13 rfl (pc 14 rfl (pc 15 rfl (pc 18 rfl (pc 19 rfl (pc 20 rfl (pc 21 rfl (pc 22 rfl (pc 25 rfl (pc 26 rfl (pc 27 rfl (pc 28 rfl (pc 29 rfl (pc 30 rfl (pc 31 rfl (pc 32 rfl pn))))))))))))))))))))))) (fun J32 => ?_) ?_)
   ·rcases Bool.eq_false_or_eq_true (adjB m.cons (o2.getD k 0) (j : Int)) with g31 | g31
    ·skip
     have g31p := g31
     try simp only [Bool.not_eq_true', Bool.not_eq_false', decide_eq_true_eq, decide_eq_false_iff_not, Bool.and_eq_true, Bool.or_eq_false_iff, withinB_iff] at g31p
     refine kl_gT rfl rfl g31 (kl_mv rfl (kl_gT rfl rfl g31 (kl_mv rfl (kl_gT rfl rfl g31 (kl_callP rfl rfl (containsInt_ok rem (j : Int) (by assumption)) ?_)))))
     refine kl_gT rfl rfl g31 (kl_not rfl (kl_andT rfl rfl g31 ?_))
     exact J32 _ (pc 37 rfl (pc 2 rfl (pc 3 rfl (pc 6 rfl (pc 7 rfl (pc 8 rfl (pc 9 rfl (pc 12 rfl (pc 13 rfl (pc 14 rfl (pc 15 rfl (pc 18 rfl (pc 19 rfl (pc 20 rfl (pc 21 rfl (pc 22 rfl (pc 25 rfl (pc 26 rfl (pc 27 rfl (pc 28 rfl (pc 29 rfl (pc 30 rfl (pc 31 rfl (pc 32 rfl pn))))))))))))))))))))))))
    ·skip
     refine kl_gF rfl rfl g31 (kl_gF rfl rfl g31 (kl_gF rfl rfl g31 (kl_gF rfl rfl g31 (kl_andF (!(rem.contains (j : Int))) rfl rfl g31 ?_))))
     exact J32 _ (pc 37 rfl (pc 2 rfl (pc 3 rfl (pc 6 rfl (pc 7 rfl (pc 8 rfl (pc 9 rfl (pc 12 rfl (pc 13 rfl (pc 14 rfl (pc 15 rfl (pc 18 rfl (pc 19 rfl (pc 20 rfl (pc 21 rfl (pc 22 rfl (pc 25 rfl (pc 26 rfl (pc 27 rfl (pc 28 rfl (pc 29 rfl (pc 30 rfl (pc 31 rfl (pc 32 rfl pn))))))))))))))))))))))))
   refine kl_mv rfl (kl_join 5 43 (.bool (((adjB m.cons (o2.getD k 0) (j : Int)) && !(rem.contains (j : Int))) && !(o2.contains (j : Int)))) (pc 2 rfl (pc 3 rfl (pc 6 rfl (pc 7 rfl (pc 8 rfl (pc 9 rfl (pc 12 rfl (pc 13 rfl (pc 14 rfl (pc 15 rfl (pc 18 rfl (pc 19 rfl (pc 20 rfl (pc 21 rfl (pc 22 rfl (pc 25 rfl (pc 26 rfl (pc 27 rfl (pc 28 rfl (pc 29 rfl (pc 30 rfl (pc 31 rfl (pc 32 rfl (pc 37 rfl (pc 38 rfl pn))))))))))))))))))))))))) (fun J34 => ?_) ?_)
   ·rcases Bool.eq_false_or_eq_true ((adjB m.cons (o2.getD k 0) (j : Int)) && !(rem.contains (j : Int))) with g33 | g33
    ·skip
     have g33p := g33
     try simp only [Bool.not_eq_true', Bool.not_eq_false', decide_eq_true_eq, decide_eq_false_iff_not, Bool.and_eq_true, Bool.or_eq_false_iff, withinB_iff] at g33p
     refine kl_gT rfl rfl g33 (kl_mv rfl (kl_gT rfl rfl g33 (kl_mv rfl (kl_gT rfl rfl g33 (kl_callP rfl rfl (containsInt_ok o2 (j : Int) (OwnL.ints o21)) ?_)))))
     refine kl_gT rfl rfl g33 (kl_not rfl (kl_andT rfl rfl g33 ?_))
     exact J34 _ (pc 43 rfl (pc 2 rfl (pc 3 rfl (pc 6 rfl (pc 7 rfl (pc 8 rfl (pc 9 rfl (pc 12 rfl (pc 13 rfl (pc 14 rfl (pc 15 rfl (pc 18 rfl (pc 19 rfl (pc 20 rfl (pc 21 rfl (pc 22 rfl (pc 25 rfl (pc 26 rfl (pc 27 rfl (pc 28 rfl (pc 29 rfl (pc 30 rfl (pc 31 rfl (pc 32 rfl (pc 37 rfl (pc 38 rfl pn))))))))))))))))))))))))))
    ·skip
     refine kl_gF rfl rfl g33 (kl_gF rfl rfl g33 (kl_gF rfl rfl g33 (kl_gF rfl rfl g33 (kl_andF (!(o2.contains (j : Int))) rfl rfl g33 ?_))))
     exact J34 _ (pc 43 rfl (pc 2 rfl (pc 3 rfl (pc 6 rfl (pc 7 rfl (pc 8 rfl (pc 9 rfl (pc 12 rfl (pc 13 rfl (pc 14 rfl (pc 15 rfl (pc 18 rfl (pc 19 rfl (pc 20 rfl (pc 21 rfl (pc 22 rfl (pc 25 rfl (pc 26 rfl (pc 27 rfl (pc 28 rfl (pc 29 rfl (pc 30 rfl (pc 31 rfl (pc 32 rfl (pc 37 rfl (pc 38 rfl pn))))))))))))))))))))))))))
   refine kl_nil (kq_code (kc_cond rfl (fun c35 => ?_) (fun c35 => ?_)))
   ·skip
    have c35r := c35
    try simp only [smpC, decide_eq_true_eq, decide_eq_false_iff_not] at c35
    refine kc_region (kl_mv rfl (kl_mv rfl (kl_bs rfl rfl rfl (by decide) (ca rfl ca_nil) (fun v36 H37 f38 r39 s40 => ?_))))
    have h41 : Ints H37 v36 [(j : Int)] := litInts (xs := [(j : Int)]) (by simpa using s40)
    refine kl_apL (j : Int) rfl rfl o21 (by assumption) rfl (oc rfl oc_nil) (by have hlen := hi19.2.1.len; omega) (by decide) (fun v42 H43 o44 f45 => ?_)
    have f46 := f45 B f22 (Nat.le_refl _)
    refine kl_as rfl (kl_nil (kq_code (kc_region (kl_mv rfl (kl_inc rfl rfl (by omega) ?_)))))
    refine kl_as rfl (kl_nil (kq_roundL ((j + 1), (o2 ++ [(j : Int)]), v42, H43) (by omega) (⟨by omega, (by first | exact reach_stepT hi19 (by omega) (by assumption) | exact reach_stepF hi19 (by assumption)), o44, f46⟩) (pc 9 rfl (pc 7 rfl pn)) (pc 2 rfl (pc 3 rfl (pc 6 rfl (pc 8 rfl (pc 12 rfl (pc 13 rfl (pc 14 rfl (pc 15 rfl pn)))))))) rfl (List.Sublist.refl _)))
   ·skip
    have c35r := c35
    try simp only [smpC, decide_eq_true_eq, decide_eq_false_iff_not] at c35
    refine kc_skipQ (kq_code (kc_region (kl_mv rfl (kl_inc rfl rfl (by omega) ?_))))
    refine kl_as rfl (kl_nil (kq_roundL ((j + 1), o2, v23, H20) (by omega) (⟨by omega, (by first | exact reach_stepT hi19 (by omega) (by assumption) | exact reach_stepF hi19 (by assumption)), o21, f22⟩) (pc 9 rfl (pc 7 rfl pn)) (pc 2 rfl (pc 3 rfl (pc 6 rfl (pc 8 rfl (pc 12 rfl (pc 13 rfl (pc 14 rfl (pc 15 rfl pn)))))))) rfl (List.Sublist.refl _)))
  ·skip
   refine kc_exit (kq_code (kc_region (kl_mv rfl (kl_inc rfl rfl (by omega) ?_))))
   refine kl_as rfl (kl_nil (kq_roundL ((k + 1), o2, v23, H20) (by omega) (⟨by omega, reach_next hi10 hi19 (by omega) (by omega), o21, f22⟩) (pc 8 rfl (pc 7 rfl pn)) (pc 2 rfl (pc 3 rfl (pc 6 rfl pn))) rfl (List.Sublist.refl _)))
 ·skip
  refine kc_exit (kq_code (kc_seq (kc_region (kl_mv rfl (kl_as rfl (kl_nil (kq_code (kc_ret ?_))))))))
  have e9 : out = reachS m v rem := by exact reach_end hi10 (by assumption)
  exact kq_ret rfl rfl H11 f13 (e9 ▸ o12)
end Go.Proofs.YtiilanckbocifaaDoor
