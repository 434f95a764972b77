/- Walks of functions of the program: each returns what the plain function gives. Conditions: those that each statement names. -/
import Derived.Test.YtiilanckbocifaaDoorWsmi
import Derived.Test.YtiilanckbocifaaDoorWcomp
import Derived.Test.YtiilanckbocifaaDoorWscomp
import Derived.Test.YtiilanckbocifaaDoorWsp
import Derived.Test.YtiilanckbocifaaDoorWdc
import Derived.Test.YtiilanckbocifaaDoorWcnt
import Derived.Test.YtiilanckbocifaaDoorWfl
import Derived.Test.YtiilanckbocifaaDoorPureCc
namespace Go.Proofs.YtiilanckbocifaaDoor
open Go
set_option linter.unusedSimpArgs false
set_option linter.unusedVariables false
theorem lawFnCc_ok {Hcode : Hp} {vcode : Value} {Ht : Hp} (code : List Int) (hcode : Bytes Hcode vcode code) (htab : At Ht (.pointer (some ⟨1, 0, none⟩)) tabV) : SpecP Tryd.prog 3 [vcode] [Hcode, Ht] (.bool true) := by
 refine spec_of Tryd.func3 rfl rfl rfl (fun B => ?_)
 refine kc_seq (kc_region (kl_as rfl (kl_nil (kq_code (kc_seq (kc_seq (kc_region (kl_mv rfl (kl_len rfl (by assumption) (fun l1 => ?_))))))))))
 refine kl_gtr rfl rfl ?_
 refine kl_nil (kq_code (kc_if rfl (fun c2 => ?_) (fun c2 => ?_)))
 ·skip
  refine kc_seq (kc_region (kl_as rfl (kl_nil (kq_code (kc_ret (kq_retP rfl rfl (congrArg Value.bool ?_)))))))
  first | rfl | (rw [comp_eq]; simp; done) | exact cc_fin hM hlen hnone (by omega)
 ·skip
  refine kc_skipQ (kq_code (kc_seq (kc_region (kl_mv rfl (kl_call rfl rfl (drawComp_ok code hcode) (fun v3 H4 f5 h6 => ?_))))))
  obtain ⟨z7, ⟨u9, u10, rfl, h11, h12⟩, h8⟩ := h6
  have hd1 := h8.d1
  have hd4 := h8.d
  refine kl_alloc (cs := [.slice none 0 0, .slice none 0 0]) rfl (fun b13 hb14 => ?_)
  refine kl_stW (us := [u9, u10]) rfl rfl rfl rfl (oc (Sl.oneCell (by assumption)) (oc (Sl.oneCell (by assumption)) oc_nil)) rfl ?_
  refine kl_chg [sing b13 (.cells [u9, u10].toArray 26 (0, 0))] rfl ?_
  refine kl_nil (kq_code (kc_seq (kc_region (kl_ldW rfl rfl (kl_call rfl rfl (components_ok z7 (by assumption) (by assumption) htab) (fun v15 H16 f17 h18 => ?_))))))
  refine kl_as rfl (kl_nil (kq_code (kc_seq (kc_seq (kc_region (kl_mv rfl (kl_ldW rfl rfl (kl_call rfl rfl (scomponents_ok z7 (by omega) (by assumption) (by assumption)) (fun v19 H20 f21 h22 => ?_)))))))))
  refine kl_callP rfl rfl (equalInts_ok (compI z7) (compS z7) (by assumption) (by assumption)) ?_
  refine kl_not rfl (kl_mv rfl (kl_join 4 27 (.bool (!(decide ((compI z7) = (compS z7))) || decide (((compI z7).length : Int) = (0 : Int)))) (pc 2 rfl (pc 3 rfl (pc 4 rfl (pc 23 rfl pn)))) (fun J25 => ?_) ?_))
  ·rcases Bool.eq_false_or_eq_true (!(decide ((compI z7) = (compS z7)))) with g23 | g23
   ·skip
    refine kl_gF rfl rfl g23 (kl_gF rfl rfl g23 (kl_gF rfl rfl g23 (kl_orT (decide (((compI z7).length : Int) = (0 : Int))) rfl rfl g23 ?_)))
    exact J25 _ (pc 27 rfl (pc 2 rfl (pc 3 rfl (pc 4 rfl (pc 23 rfl pn)))))
   ·skip
    have g23p := g23
    try simp only [Bool.not_eq_true', Bool.not_eq_false', decide_eq_true_eq, decide_eq_false_iff_not, Bool.and_eq_true, Bool.or_eq_false_iff, withinB_iff] at g23p
    refine kl_gT rfl rfl g23 (kl_mv rfl (kl_gT rfl rfl g23 (kl_len rfl (by assumption) (fun l24 => ?_))))
    refine kl_gT rfl rfl g23 (kl_eql rfl rfl ?_)
    refine kl_orF rfl rfl g23 ?_
    exact J25 _ (pc 27 rfl (pc 2 rfl (pc 3 rfl (pc 4 rfl (pc 23 rfl pn)))))
  refine kl_nil (kq_code (kc_cond rfl (fun c26 => ?_) (fun c26 => ?_)))
  ·skip
   have c26r := c26
   try simp only [smpC, decide_eq_true_eq, decide_eq_false_iff_not] at c26
   refine kc_seq (kc_region (kl_mv rfl (kl_ldW rfl rfl (kl_call rfl rfl (scomponents_ok z7 (by omega) (by assumption) (by assumption)) (fun v27 H28 f29 h30 => ?_)))))
   refine kl_callP rfl rfl (equalInts_ok (compI z7) (compS z7) (by assumption) (by assumption)) ?_
   refine kl_as rfl (kl_nil (kq_code (kc_ret (kq_retP rfl rfl (congrArg Value.bool ?_)))))
   first | rfl | (rw [comp_eq]; simp; done) | exact cc_fin hM hlen hnone (by omega)
  ·skip
   have c26r := c26
   try simp only [smpC, decide_eq_true_eq, decide_eq_false_iff_not] at c26
   have hg := grdC c26r
   have hM := mok_of hg
   have hlen := compI_len hg
   have hn := hM.n
   refine kc_skipQ (kq_code (kc_seq (kc_region (kl_as rfl (kl_nil (kq_code (kc_seq (kc_seq (kc_region (kl_as rfl (kl_nil (kq_code ?_))))))))))))
   refine kc_block (kc_loop0 (A := Nat × Int) (fun zz => (zz.1 ≤ (compI z7).length) ∧ (zz.2 = prodC z7 zz.1)) (fun zz => (compI z7).length - zz.1) (fun zz => [(6, .int .i64 (zz.1 : Int)), (5, .int .i64 zz.2)]) (0, (1 : Int)) (pc 3 rfl (pc 4 rfl pn)) (pc 6 rfl (pc 5 rfl pn)) ⟨Nat.zero_le _, rfl⟩ ?_)
   rintro ⟨k, p⟩ hJ33
   obtain ⟨hk31, hi32⟩ : (k ≤ (compI z7).length) ∧ (p = prodC z7 k) := hJ33
   change KC _ _ (_) _ _ ([(6, .int .i64 (k : Int)), (5, .int .i64 p)] ++ _)
   have hpb : 0 ≤ p ∧ p ≤ 1296 := (by rw [hi32]; exact prod_b hM k)
   refine kc_seq (kc_seq (kc_region (kl_mv rfl (kl_mv rfl (kl_len rfl (by assumption) (fun l34 => ?_))))))
   refine kl_lss rfl rfl ?_
   refine kl_nil (kq_code (kc_if rfl (fun c35 => ?_) (fun c35 => ?_)))
   ·skip
    refine kc_skipQ (kq_code (kc_seq (kc_block (kc_seq (kc_region (kl_bsI [] rfl rfl rfl (by decide) (fun v36 H37 f38 o39 => ?_)))))))
    refine kl_as rfl (kl_nil (kq_code (kc_seq (kc_seq (kc_region (kl_as rfl (kl_nil (kq_code (kc_block (kc_loopL (A := Nat × List Int × Value × Hp) (fun zz => (zz.1 ≤ (compI z7).length) ∧ (zz.2.1 = cmTo z7 k zz.1) ∧ OwnL 3 1 zz.2.2.2 noHp IntV zz.2.2.1 zz.2.1 ∧ Fr B zz.2.2.2) (fun zz => (compI z7).length - zz.1) (fun zz => [zz.2.2.2, sing b13 (.cells [u9, u10].toArray 26 (0, 0))]) (fun zz => [(8, .int .i64 (zz.1 : Int)), (7, zz.2.2.1)]) (0, ([]), v36, H37) (pc 3 rfl (pc 4 rfl (pc 5 rfl (pc 6 rfl (pc 32 rfl (pc 33 rfl (pc 34 rfl (pc 35 rfl (pc 38 rfl pn))))))))) (pc 8 rfl (pc 7 rfl pn)) rfl ⟨Nat.zero_le _, rfl, o39, f38⟩ ?_))))))))))
    rintro ⟨j, vs, v45, H42⟩ hJ46
    obtain ⟨hk40, hi41, o43, f44⟩ : (j ≤ (compI z7).length) ∧ (vs = cmTo z7 k j) ∧ OwnL 3 1 H42 noHp IntV v45 vs ∧ Fr B H42 := hJ46
    change KC _ _ (_) [H42, sing b13 (.cells [u9, u10].toArray 26 (0, 0))] _ ([(8, .int .i64 (j : Int)), (7, v45)] ++ _)
    have hvl := cmTo_len hi41
    refine kc_seq (kc_seq (kc_region (kl_mv rfl (kl_mv rfl (kl_len rfl (by assumption) (fun l47 => ?_))))))
    refine kl_lss rfl rfl ?_
    refine kl_nil (kq_code (kc_if rfl (fun c48 => ?_) (fun c48 => ?_)))
    ·skip
     refine kc_skipQ (kq_code (kc_seq (kc_block (kc_seq (kc_region (kl_mv rfl (kl_mv rfl (kl_inI rfl rfl (by assumption) (by omega) (fun p49 a50 => ?_)))))))))
     refine kl_ld rfl (by assumption) (kl_mv rfl (kl_eql rfl rfl ?_))
     refine kl_nil (kq_code (kc_if rfl (fun c51 => ?_) (fun c51 => ?_)))
     ·skip
      refine kc_region (kl_mv rfl (kl_mv rfl (kl_bs rfl rfl rfl (by decide) (ca rfl ca_nil) (fun v52 H53 f54 r55 s56 => ?_))))
      have h57 : Ints H53 v52 [(j : Int)] := litInts (xs := [(j : Int)]) (by simpa using s56)
      refine kl_apL (j : Int) rfl rfl o43 (by assumption) rfl (oc rfl oc_nil) (by omega) (by decide) (fun v58 H59 o60 f61 => ?_)
      have f62 := f61 B f44 (Nat.le_refl _)
      refine kl_as rfl (kl_nil (kq_code (kc_region (kl_mv rfl (kl_inc rfl rfl (by omega) ?_)))))
      refine kl_as rfl (kl_nil (kq_take [H59, sing b13 (.cells [u9, u10].toArray 26 (0, 0))] ?_))
      refine kq_roundL ((j + 1), (vs ++ [(j : Int)]), v58, H59) (by omega) (⟨by omega, (by first | exact cmTo_T hi41 (by assumption) | exact cmTo_F hi41 (by assumption)), o60, f62⟩) (pc 8 rfl (pc 7 rfl pn)) (pc 3 rfl (pc 4 rfl (pc 5 rfl (pc 6 rfl (pc 32 rfl (pc 33 rfl (pc 34 rfl (pc 35 rfl (pc 38 rfl pn))))))))) rfl (List.Sublist.refl _)
     ·skip
      refine kc_skipQ (kq_code (kc_region (kl_mv rfl (kl_inc rfl rfl (by omega) ?_))))
      refine kl_as rfl (kl_nil (kq_take [H42, sing b13 (.cells [u9, u10].toArray 26 (0, 0))] ?_))
      refine kq_roundL ((j + 1), vs, v45, H42) (by omega) (⟨by omega, (by first | exact cmTo_T hi41 (by assumption) | exact cmTo_F hi41 (by assumption)), o43, f44⟩) (pc 8 rfl (pc 7 rfl pn)) (pc 3 rfl (pc 4 rfl (pc 5 rfl (pc 6 rfl (pc 32 rfl (pc 33 rfl (pc 34 rfl (pc 35 rfl (pc 38 rfl pn))))))))) rfl (List.Sublist.refl _)
    ·skip
     refine kc_exit (kq_code (kc_seq (kc_region (kl_mv rfl (kl_lenL rfl o43 (fun l63 => ?_))))))
     refine kl_gtr rfl rfl ?_
     refine kl_nil (kq_code (kc_if rfl (fun c64 => ?_) (fun c64 => ?_)))
     ·skip
      have hpos := c64
      have hcv := cm_vs hlen hi41 (by omega)
      refine kc_seq (kc_region (kl_ldW rfl rfl (kl_mv rfl (kl_call rfl rfl (subI_ok z7 vs (by assumption) (by assumption) (OwnL.ints o43)) (fun v65 H66 f67 h68 => ?_)))))
      obtain ⟨z71, z76, u72, u73, rfl, h74, h75, h70⟩ := h68
      have hn1 := h70
      refine kl_mv rfl (kl_xt rfl rfl (kl_xt rfl rfl (kl_alloc (cs := [.slice none 0 0, .slice none 0 0]) rfl (fun b77 hb78 => ?_))))
      refine kl_stW (us := [u72, u73]) rfl rfl rfl rfl (oc (Sl.oneCell (by assumption)) (oc (Sl.oneCell (by assumption)) oc_nil)) rfl ?_
      refine kl_chg [sing b77 (.cells [u72, u73].toArray 26 (0, 0)), H42, sing b13 (.cells [u9, u10].toArray 26 (0, 0))] rfl ?_
      refine kl_as rfl (kl_nil (kq_code (kc_seq (kc_seq (kc_region (kl_mv rfl (kl_not rfl (kl_nil (kq_code (kc_cond rfl (fun c79 => ?_) (fun c79 => ?_)))))))))))
      ·skip
       have c79r := c79
       try simp only [smpC, decide_eq_true_eq, decide_eq_false_iff_not] at c79
       exact absurd c79r (by rw [cm_some hM hn1 hcv hpos]; simp)
      ·skip
       have c79r := c79
       try simp only [smpC, decide_eq_true_eq, decide_eq_false_iff_not] at c79
       refine kc_skipQ (kq_code (kc_region (kl_mv rfl (kl_ldW rfl rfl (kl_callP rfl rfl (countSols_ok z71 (by assumption) (by assumption)) ?_)))))
       refine kl_mul rfl rfl (by first | omega | (have h8 := cc_mul hpb (cc_b hM hn1 hcv hpos); omega)) ?_
       refine kl_as rfl (kl_nil (kq_code (kc_region (kl_mv rfl (kl_inc rfl rfl (by omega) ?_)))))
       refine kl_as rfl (kl_nil (kq_round0 ((k + 1), (p * (cntI z71))) (by omega) (⟨by omega, (by first | exact cc_T hM hi32 hn1 hcv hpos | exact cc_F hi32 (cm_vs hlen hi41 (by omega)) (by assumption))⟩) (pc 6 rfl (pc 5 rfl pn)) (pc 3 rfl (pc 4 rfl pn)) (.cons _ (.cons _ (List.Sublist.refl _)))))
     ·skip
      refine kc_skipQ (kq_code (kc_region (kl_mv rfl (kl_inc rfl rfl (by omega) ?_))))
      refine kl_as rfl (kl_nil (kq_round0 ((k + 1), p) (by omega) (⟨by omega, (by first | exact cc_T hM hi32 hn1 hcv hpos | exact cc_F hi32 (cm_vs hlen hi41 (by omega)) (by assumption))⟩) (pc 6 rfl (pc 5 rfl pn)) (pc 3 rfl (pc 4 rfl pn)) (.cons _ (List.Sublist.refl _))))
   ·skip
    refine kc_exit (kq_code (kc_seq (kc_region (kl_mv rfl (kl_ldW rfl rfl (kl_callP rfl rfl (countSols_ok z7 (by assumption) (by assumption)) ?_))))))
    refine kl_eql rfl rfl ?_
    refine kl_as rfl (kl_nil (kq_code (kc_ret (kq_retP rfl rfl (congrArg Value.bool ?_)))))
    first | rfl | (rw [comp_eq]; simp; done) | exact cc_fin hM hlen hi32 (by omega)
end Go.Proofs.YtiilanckbocifaaDoor
