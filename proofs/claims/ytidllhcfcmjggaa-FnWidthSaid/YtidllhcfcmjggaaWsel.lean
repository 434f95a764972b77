/- Walks of functions of the program: each returns what the plain function gives. Conditions: those that each statement names. -/
import Derived.Test.YtidllhcfcmjggaaWspecv
import Derived.Test.YtidllhcfcmjggaaMat
import Derived.Test.YtidllhcfcmjggaaPureD
namespace Go.Proofs.Ytidllhcfcmjggaa
open Go
set_option linter.unusedSimpArgs false
set_option linter.unusedVariables false
theorem sgraph_ok {Hmd : Hp} {vmd : Value} {Hmc : Hp} {vmc : Value} (m : Mod) (hM : MOk m) (hmd : Ints Hmd vmd m.doms) (hmc : Cons Hmc vmc m.cons) : Spec Try.prog 62 [.agg #[vmd, vmc]] [Hmd, Hmc] (fun Hq vq => MatR 91 4 encB Hq vq (gsTo m m.doms.length)) := by
 have hn := hM.n
 refine spec_of Try.func62 rfl rfl rfl (fun B => ?_)
 refine kc_seq (kc_region ?_)
 refine kl_box rfl rfl (fun p1 H2 f3 a4 => ?_)
 refine kl_as rfl ?_
 refine kl_nil (kq_code (kc_seq (kc_region ?_)))
 refine kl_bsO (us := []) rfl rfl rfl (by decide) (fun _ h => by cases h) (fun v5 H6 f7 o8 => ?_)
 refine kl_no ?_
 have o9 : Mat 91 4 encB H6 noHp v5 [] [] := Mat.nil o8
 refine kl_as rfl ?_
 refine kl_nil (kq_code ?_)
 refine kc_seq ?_
 refine kc_seq (kc_region ?_)
 refine kl_as rfl ?_
 refine kl_nil (kq_code ?_)
 refine kc_block ?_
 refine kc_loopL (A := Nat × Value × Hp × List Value × Hp) (fun zz => (zz.1 ≤ m.doms.length) ∧ Mat 91 4 encB zz.2.2.1 zz.2.2.2.2 zz.2.1 zz.2.2.2.1 (gsTo m zz.1) ∧ Fr B zz.2.2.2.2 ∧ Fr B zz.2.2.1) (fun zz => m.doms.length - zz.1) (fun zz => [zz.2.2.2.2, zz.2.2.1]) (fun zz => [(4, .int .i64 (zz.1 : Int)), (3, zz.2.1)]) (0, v5, H6, ([]), noHp) (pc 1 rfl (pc 2 rfl pn)) (pc 4 rfl (pc 3 rfl pn)) rfl ⟨Nat.zero_le _, (Mat.castX (by rfl : [] = gsTo m 0) o9), (fr_no _), f7⟩ ?_
 rintro ⟨u, v15, H16, us17, K13⟩ hJ20
 obtain ⟨hk11, o14, f18, f19⟩ : (u ≤ m.doms.length) ∧ Mat 91 4 encB H16 K13 v15 us17 (gsTo m u) ∧ Fr B K13 ∧ Fr B H16 := hJ20
 change KC _ _ (_) [K13, H16] _ ([(4, .int .i64 (u : Int)), (3, v15)] ++ _)
 refine kc_seq ?_
 refine kc_seq (kc_region ?_)
 refine kl_mv rfl ?_
 refine kl_fd rfl (by assumption) (fun p21 a22 => ?_)
 refine kl_ld rfl (by assumption) ?_
 refine kl_len rfl (by assumption) (fun l23 => ?_)
 refine kl_lss rfl rfl ?_
 refine kl_nil (kq_code ?_)
 refine kc_if rfl (fun c24 => ?_) (fun c24 => ?_)
 ·skip
  refine kc_skipQ ?_
  refine kq_code ?_
  refine kc_seq ?_
  refine kc_block ?_
  refine kc_seq (kc_region ?_)
  refine kl_fd rfl (by assumption) (fun p25 a26 => ?_)
  refine kl_ld rfl (by assumption) ?_
  refine kl_len rfl (by assumption) (fun l27 => ?_)
  refine kl_mkL (R := BoolV) false rfl rfl (by omega) (by decide) (by exact rfl) (fun v28 H29 f30 o31 => ?_)
  refine kl_as rfl ?_
  refine kl_nil (kq_code ?_)
  refine kc_seq ?_
  refine kc_seq (kc_region ?_)
  refine kl_as rfl ?_
  refine kl_nil (kq_code ?_)
  refine kc_block ?_
  refine kc_loopL (A := Nat × List Bool × Hp) (fun zz => (zz.1 ≤ m.doms.length) ∧ (zz.2.1 = gsrTo m u zz.1) ∧ OwnL 4 1 zz.2.2 noHp BoolV v28 zz.2.1 ∧ Fr B zz.2.2) (fun zz => m.doms.length - zz.1) (fun zz => [zz.2.2, K13, H16]) (fun zz => [(6, .int .i64 (zz.1 : Int))]) (0, (List.replicate m.doms.length false), H29) (pc 1 rfl (pc 2 rfl (pc 3 rfl (pc 4 rfl (pc 5 rfl (pc 8 rfl (pc 9 rfl (pc 10 rfl (pc 11 rfl (pc 12 rfl (pc 15 rfl (pc 16 rfl (pc 17 rfl (pc 18 rfl pn)))))))))))))) (pc 6 rfl pn) rfl ⟨Nat.zero_le _, (gsr_0 m u), o31, f30⟩ ?_
  rintro ⟨v, rw, H34⟩ hJ37
  obtain ⟨hk32, hi33, o35, f36⟩ : (v ≤ m.doms.length) ∧ (rw = gsrTo m u v) ∧ OwnL 4 1 H34 noHp BoolV v28 rw ∧ Fr B H34 := hJ37
  change KC _ _ (_) [H34, K13, H16] _ ([(6, .int .i64 (v : Int))] ++ _)
  have hrl : rw.length = m.doms.length := by rw [hi33, gsr_len]
  refine kc_seq ?_
  refine kc_seq (kc_region ?_)
  refine kl_mv rfl ?_
  refine kl_fd rfl (by assumption) (fun p38 a39 => ?_)
  refine kl_ld rfl (by assumption) ?_
  refine kl_len rfl (by assumption) (fun l40 => ?_)
  refine kl_lss rfl rfl ?_
  refine kl_nil (kq_code ?_)
  refine kc_if rfl (fun c41 => ?_) (fun c41 => ?_)
  ·skip
   refine kc_skipQ ?_
   refine kq_code ?_
   refine kc_seq ?_
   refine kc_block ?_
   refine kc_region ?_
   refine kl_mv rfl ?_
   refine kl_mv rfl ?_
   refine kl_ldS rfl (by assumption) rfl ?_
   refine kl_mv rfl ?_
   refine kl_mv rfl ?_
   refine kl_callP rfl rfl (adjacent_ok m (u : Int) (v : Int) (by assumption) (by assumption)) ?_
   refine kl_ixLn rfl rfl (by assumption) (by omega) (fun p42 q43 => ?_)
   refine kl_stL (adjB m.cons (u : Int) (v : Int)) rfl rfl (by assumption) o35 (by omega) rfl rfl rfl (fun H44 o45 f46 => ?_)
   have f47 := f46 _ f36
   refine kl_chg [H44, K13, H16] rfl ?_
   refine kl_nil (kq_code ?_)
   refine kc_region ?_
   refine kl_mv rfl ?_
   refine kl_inc rfl rfl (by omega) ?_
   refine kl_as rfl ?_
   refine kl_nil ?_
   refine kq_take [H44, K13, H16] ?_
   refine kq_roundL ((v + 1), (rw.set v (adjB m.cons (u : Int) (v : Int))), H44) (by omega) (⟨by omega, (by rw [hi33]; exact gsr_step (by omega)), o45, f47⟩) (pc 6 rfl pn) (pc 1 rfl (pc 2 rfl (pc 3 rfl (pc 4 rfl (pc 5 rfl (pc 8 rfl (pc 9 rfl (pc 10 rfl (pc 11 rfl (pc 12 rfl (pc 15 rfl (pc 16 rfl (pc 17 rfl (pc 18 rfl pn)))))))))))))) rfl (List.Sublist.refl _)
  ·skip
   refine kc_exit ?_
   refine kq_code ?_
   refine kc_region ?_
   refine kl_mv rfl ?_
   refine kl_mv rfl ?_
   refine kl_bs rfl rfl rfl (by decide) (ca (by first | exact Sl.cells (by assumption) | exact OwnL.cells (by assumption)) ca_nil) (fun v48 H49 f50 r51 s52 => ?_)
   refine kl_apart K13 H34 (fun a58 => ?_)
   refine kl_app rfl rfl o14.hd (by assumption) (oc (OwnL.oneCell o35) oc_nil) (by (simp [gsTo]; omega)) (by decide) (fun v53 H54 o55 f56 => ?_)
   have f57 := f56 B f19 (Nat.le_refl _)
   have m59 := Mat.push o14 o55 (OwnL.bmap o35) (by (rw [hi33, gsr_len]; omega)) (OwnL.liq o35) a58
   refine kl_mrg K13 H34 ?_
   refine kl_as rfl ?_
   refine kl_nil (kq_code ?_)
   refine kc_region ?_
   refine kl_mv rfl ?_
   refine kl_inc rfl rfl (by omega) ?_
   refine kl_as rfl ?_
   refine kl_nil ?_
   refine kq_take [(orHp K13 H34), H54] ?_
   refine kq_roundL ((u + 1), v53, H54, (us17 ++ [v28]), (orHp K13 H34)) (by omega) (⟨by omega, (Mat.castX (by exact gs_succ (by rw [hi33]; exact gsr_end (by omega)) : (gsTo m u ++ [rw]) = gsTo m (u + 1)) m59), (fr_or f18 f36), f57⟩) (pc 4 rfl (pc 3 rfl pn)) (pc 1 rfl (pc 2 rfl pn)) rfl (List.Sublist.refl _)
 ·skip
  refine kc_exit ?_
  refine kq_code ?_
  refine kc_seq (kc_region ?_)
  refine kl_mv rfl ?_
  refine kl_as rfl ?_
  refine kl_nil (kq_code ?_)
  refine kc_ret ?_
  refine kq_apart H16 K13 (fun c60 => ?_)
  have e9 : gsTo m u = gsTo m m.doms.length := by rw [show u = m.doms.length from (by omega)]
  exact kq_ret rfl rfl (orHp H16 K13) (fr_or f19 f18) ⟨H16, K13, us17, rfl, c60, (Mat.castX e9 o14)⟩
theorem swidth_ok {Hmd : Hp} {vmd : Value} {Hmc : Hp} {vmc : Value} {Horder : Hp} {vorder : Value} (m : Mod) (order : List Int) (hM : MOk m) (ho : OrdOk m order) (hl : order.length = m.doms.length) (hmd : Ints Hmd vmd m.doms) (hmc : Cons Hmc vmc m.cons) (horder : Ints Horder vorder order) : SpecP Try.prog 33 [.agg #[vmd, vmc], vorder] [Hmd, Hmc, Horder] (.int .i64 (widI m order)) := by
 have hn := hM.n
 refine spec_of Try.func33 rfl rfl rfl (fun B => ?_)
 refine kc_seq (kc_region ?_)
 refine kl_box rfl rfl (fun p1 H2 f3 a4 => ?_)
 refine kl_as rfl ?_
 refine kl_nil (kq_code (kc_seq (kc_region ?_)))
 refine kl_ldS rfl (by assumption) rfl ?_
 refine kl_callL rfl rfl (sgraph_ok m hM (by assumption) (by assumption)) (fun v5 H6 f7 h8 => ?_)
 obtain ⟨H9, K10, us11, rfl, a12, m13⟩ := h8
 refine kl_split H9 K10 a12 ?_
 have f15 := fr_l f7 m13.hlq
 have f16 := fr_r f7 m13.lq
 refine kl_as rfl ?_
 refine kl_nil (kq_code (kc_seq (kc_region ?_)))
 refine kl_mv rfl ?_
 refine kl_len rfl (by assumption) (fun l17 => ?_)
 refine kl_mkL (R := BoolV) false rfl rfl (by omega) (by decide) (by exact rfl) (fun v18 H19 f20 o21 => ?_)
 refine kl_as rfl ?_
 refine kl_nil (kq_code (kc_seq (kc_region ?_)))
 refine kl_as rfl ?_
 refine kl_nil (kq_code ?_)
 refine kc_seq ?_
 refine kc_seq (kc_region ?_)
 refine kl_as rfl ?_
 refine kl_nil (kq_code ?_)
 refine kc_block ?_
 refine kc_loopL (A := Nat × Int × List (List Bool) × Hp × List Bool × Hp) (fun zz => (zz.1 ≤ order.length) ∧ (zz.2.1 = (widTo m order zz.1).2.2 ∧ SRel m.doms.length (widTo m order zz.1).1 (widTo m order zz.1).2.1 zz.2.2.1 zz.2.2.2.2.1) ∧ Mat 91 4 encB H9 zz.2.2.2.1 v5 us11 zz.2.2.1 ∧ Fr B zz.2.2.2.1 ∧ OwnL 4 1 zz.2.2.2.2.2 noHp BoolV v18 zz.2.2.2.2.1 ∧ Fr B zz.2.2.2.2.2) (fun zz => order.length - zz.1) (fun zz => [zz.2.2.2.2.2, H9, zz.2.2.2.1]) (fun zz => [(8, .int .i64 (zz.1 : Int)), (7, .int .i64 zz.2.1)]) (0, (0 : Int), (gsTo m m.doms.length), K10, (List.replicate order.length false), H19) (pc 1 rfl (pc 4 rfl (pc 5 rfl (pc 6 rfl pn)))) (pc 8 rfl (pc 7 rfl pn)) rfl ⟨Nat.zero_le _, ⟨rfl, by dsimp only; rw [hl]; exact srel_0 hM⟩, m13, f16, o21, f20⟩ ?_
 rintro ⟨k, wd, gs, K24, gn, H27⟩ hJ30
 obtain ⟨hk22, hi23, o25, f26, o28, f29⟩ : (k ≤ order.length) ∧ (wd = (widTo m order k).2.2 ∧ SRel m.doms.length (widTo m order k).1 (widTo m order k).2.1 gs gn) ∧ Mat 91 4 encB H9 K24 v5 us11 gs ∧ Fr B K24 ∧ OwnL 4 1 H27 noHp BoolV v18 gn ∧ Fr B H27 := hJ30
 change KC _ _ (_) [H27, H9, K24] _ ([(8, .int .i64 (k : Int)), (7, .int .i64 wd)] ++ _)
 have hr := hi23.2
 have hgl := hr.ls
 have hrl := hr.lr
 have hgn := hr.ln
 refine kc_seq ?_
 refine kc_seq (kc_region ?_)
 refine kl_mv rfl ?_
 refine kl_mv rfl ?_
 refine kl_len rfl (by assumption) (fun l31 => ?_)
 refine kl_lss rfl rfl ?_
 refine kl_nil (kq_code ?_)
 refine kc_if rfl (fun c32 => ?_) (fun c32 => ?_)
 ·skip
  have hk1 : k < order.length := by omega
  have hat := ho.at hk1
  have hvn : (order.getD k 0).toNat < m.doms.length := by omega
  have hrv := hrl _ hvn
  have hgs : (gn.set (order.getD k 0).toNat true).length = m.doms.length := by rw [List.length_set]; exact hgn
  refine kc_skipQ ?_
  refine kq_code ?_
  refine kc_seq ?_
  refine kc_block ?_
  refine kc_seq (kc_region ?_)
  refine kl_mv rfl ?_
  refine kl_mv rfl ?_
  refine kl_inI rfl rfl (by assumption) (by omega) (fun p33 a34 => ?_)
  refine kl_ld rfl (by assumption) ?_
  refine kl_as rfl ?_
  refine kl_nil (kq_code (kc_seq (kc_region ?_)))
  refine kl_mv rfl ?_
  refine kl_mv rfl ?_
  refine kl_ixL rfl rfl (by assumption) (by omega) (by omega) (fun p35 q36 => ?_)
  refine kl_stL true rfl rfl (by assumption) o28 (by omega) rfl rfl rfl (fun H37 o38 f39 => ?_)
  have f40 := f39 _ f29
  refine kl_chg [H37, H9, K24] rfl ?_
  refine kl_nil (kq_code (kc_seq (kc_region ?_)))
  refine kl_bsI [] rfl rfl rfl (by decide) (fun v41 H42 f43 o44 => ?_)
  refine kl_as rfl ?_
  refine kl_nil (kq_code ?_)
  refine kc_seq ?_
  refine kc_seq (kc_region ?_)
  refine kl_as rfl ?_
  refine kl_nil (kq_code ?_)
  refine kc_block ?_
  refine kc_loopL (A := Nat × List Int × Value × Hp) (fun zz => (zz.1 ≤ gs.length) ∧ (zz.2.1 = membersTo (nearI (widTo m order k).1 (widTo m order k).2.1 (((order.getD k 0).toNat : Nat) : Int)) zz.1) ∧ OwnL 3 1 zz.2.2.2 noHp IntV zz.2.2.1 zz.2.1 ∧ Fr B zz.2.2.2) (fun zz => gs.length - zz.1) (fun zz => [zz.2.2.2, H37, H9, K24]) (fun zz => [(11, .int .i64 (zz.1 : Int)), (10, zz.2.2.1)]) (0, ([]), v41, H42) (pc 1 rfl (pc 4 rfl (pc 5 rfl (pc 6 rfl (pc 7 rfl (pc 8 rfl (pc 9 rfl (pc 19 rfl (pc 20 rfl (pc 21 rfl (pc 22 rfl (pc 25 rfl (pc 26 rfl (pc 27 rfl (pc 28 rfl (pc 29 rfl (pc 30 rfl (pc 31 rfl (pc 32 rfl pn))))))))))))))))))) (pc 11 rfl (pc 10 rfl pn)) rfl ⟨Nat.zero_le _, rfl, o44, f43⟩ ?_
  rintro ⟨u, rs, v50, H47⟩ hJ51
  obtain ⟨hk45, hi46, o48, f49⟩ : (u ≤ gs.length) ∧ (rs = membersTo (nearI (widTo m order k).1 (widTo m order k).2.1 (((order.getD k 0).toNat : Nat) : Int)) u) ∧ OwnL 3 1 H47 noHp IntV v50 rs ∧ Fr B H47 := hJ51
  change KC _ _ (_) [H47, H37, H9, K24] _ ([(11, .int .i64 (u : Int)), (10, v50)] ++ _)
  refine kc_seq ?_
  refine kc_seq (kc_region ?_)
  refine kl_mv rfl ?_
  refine kl_mv rfl ?_
  refine kl_mtLen rfl o25 (fun l52 => ?_)
  refine kl_lss rfl rfl ?_
  refine kl_nil (kq_code ?_)
  refine kc_if rfl (fun c53 => ?_) (fun c53 => ?_)
  ·skip
   refine kc_skipQ ?_
   refine kq_code ?_
   refine kc_seq ?_
   refine kc_block ?_
   refine kc_seq (kc_region ?_)
   refine kl_mv rfl ?_
   refine kl_mv rfl ?_
   refine kl_mtIz rfl rfl o25 (by omega) (by omega) (fun p54 q55 => ?_)
   refine kl_mtLd rfl (by assumption) o25 (by omega) ?_
   refine kl_mv rfl ?_
   refine kl_rwIx (j := u) rfl rfl o25 (by omega) (by omega) (fun p56 q57 => ?_)
   refine kl_rwLd false rfl o25 (by assumption) (by omega) (by omega) ?_
   refine kl_mv rfl ?_
   refine kl_join 6 52 (.bool (((gs.getD (Int.toNat (order.getD k 0)) []).getD u false) && !((gn.set ((order.getD k 0).toNat) true).getD u false))) (pc 1 rfl (pc 4 rfl (pc 5 rfl (pc 6 rfl (pc 7 rfl (pc 8 rfl (pc 9 rfl (pc 10 rfl (pc 11 rfl (pc 19 rfl (pc 20 rfl (pc 21 rfl (pc 22 rfl (pc 25 rfl (pc 26 rfl (pc 27 rfl (pc 28 rfl (pc 29 rfl (pc 30 rfl (pc 31 rfl (pc 32 rfl (pc 33 rfl (pc 34 rfl (pc 35 rfl (pc 36 rfl (pc 39 rfl (pc 40 rfl (pc 41 rfl (pc 42 rfl (pc 43 rfl (pc 44 rfl (pc 45 rfl (pc 46 rfl pn))))))))))))))))))))))))))))))))) (fun J61 => ?_) ?_
   ·rcases Bool.eq_false_or_eq_true ((gs.getD (Int.toNat (order.getD k 0)) []).getD u false) with g58 | g58
    ·skip
     have g58p := g58
     try simp only [Bool.not_eq_true', Bool.not_eq_false', decide_eq_true_eq, decide_eq_false_iff_not, Bool.and_eq_true, Bool.or_eq_false_iff, withinB_iff] at g58p
     refine kl_gT rfl rfl g58 ?_
     refine kl_mv rfl ?_
     refine kl_gT rfl rfl g58 ?_
     refine kl_mv rfl ?_
     refine kl_gT rfl rfl g58 ?_
     refine kl_ixLn rfl rfl (by assumption) (by omega) (fun p59 q60 => ?_)
     refine kl_gT rfl rfl g58 ?_
     refine kl_ldLB rfl (by assumption) (by assumption) (by omega) ?_
     refine kl_gT rfl rfl g58 ?_
     refine kl_not rfl ?_
     refine kl_andT rfl rfl g58 ?_
     exact J61 _ (pc 52 rfl (pc 1 rfl (pc 4 rfl (pc 5 rfl (pc 6 rfl (pc 7 rfl (pc 8 rfl (pc 9 rfl (pc 10 rfl (pc 11 rfl (pc 19 rfl (pc 20 rfl (pc 21 rfl (pc 22 rfl (pc 25 rfl (pc 26 rfl (pc 27 rfl (pc 28 rfl (pc 29 rfl (pc 30 rfl (pc 31 rfl (pc 32 rfl (pc 33 rfl (pc 34 rfl (pc 35 rfl (pc 36 rfl (pc 39 rfl (pc 40 rfl (pc 41 rfl (pc 42 rfl (pc 43 rfl (pc 44 rfl (pc 45 rfl (pc 46 rfl pn))))))))))))))))))))))))))))))))))
    ·skip
     refine kl_gF rfl rfl g58 ?_
     refine kl_gF rfl rfl g58 ?_
     refine kl_gF rfl rfl g58 ?_
     refine kl_gF rfl rfl g58 ?_
     refine kl_gF rfl rfl g58 ?_
     refine kl_andF (!((gn.set ((order.getD k 0).toNat) true).getD u false)) rfl rfl g58 ?_
     exact J61 _ (pc 52 rfl (pc 1 rfl (pc 4 rfl (pc 5 rfl (pc 6 rfl (pc 7 rfl (pc 8 rfl (pc 9 rfl (pc 10 rfl (pc 11 rfl (pc 19 rfl (pc 20 rfl (pc 21 rfl (pc 22 rfl (pc 25 rfl (pc 26 rfl (pc 27 rfl (pc 28 rfl (pc 29 rfl (pc 30 rfl (pc 31 rfl (pc 32 rfl (pc 33 rfl (pc 34 rfl (pc 35 rfl (pc 36 rfl (pc 39 rfl (pc 40 rfl (pc 41 rfl (pc 42 rfl (pc 43 rfl (pc 44 rfl (pc 45 rfl (pc 46 rfl pn))))))))))))))))))))))))))))))))))
   refine kl_nil (kq_code ?_)
   refine kc_cond rfl (fun c62 => ?_) (fun c62 => ?_)
   ·skip
    have c62r := c62
    try simp only [Bool.not_eq_true', Bool.not_eq_false', Bool.not_true, Bool.not_false, decide_eq_true_eq, decide_eq_false_iff_not, Bool.and_eq_true, Bool.or_eq_false_iff] at c62
    refine kc_region ?_
    refine kl_mv rfl ?_
    refine kl_mv rfl ?_
    refine kl_bs rfl rfl rfl (by decide) (ca rfl ca_nil) (fun v63 H64 f65 r66 s67 => ?_)
    have h68 : Ints H64 v63 [(u : Int)] := litInts (xs := [(u : Int)]) (by simpa using s67)
    refine kl_apL (u : Int) rfl rfl o48 (by assumption) rfl (oc rfl oc_nil) (by (rw [hi46]; exact Nat.le_trans (Nat.succ_le_succ (memTo_len _ _)) (by omega))) (by decide) (fun v69 H70 o71 f72 => ?_)
    have f73 := f72 B f49 (Nat.le_refl _)
    refine kl_as rfl ?_
    refine kl_nil (kq_code ?_)
    refine kc_region ?_
    refine kl_mv rfl ?_
    refine kl_inc rfl rfl (by omega) ?_
    refine kl_as rfl ?_
    refine kl_nil ?_
    refine kq_take [H70, H37, H9, K24] ?_
    refine kq_roundL ((u + 1), (rs ++ [(u : Int)]), v69, H70) (by omega) (⟨by omega, (by first | exact memTo_T hi46 (rest_c hr hn.2 hvn (by omega)) (by assumption) | exact memTo_F hi46 (rest_c hr hn.2 hvn (by omega)) (by assumption)), o71, f73⟩) (pc 11 rfl (pc 10 rfl pn)) (pc 1 rfl (pc 4 rfl (pc 5 rfl (pc 6 rfl (pc 7 rfl (pc 8 rfl (pc 9 rfl (pc 19 rfl (pc 20 rfl (pc 21 rfl (pc 22 rfl (pc 25 rfl (pc 26 rfl (pc 27 rfl (pc 28 rfl (pc 29 rfl (pc 30 rfl (pc 31 rfl (pc 32 rfl pn))))))))))))))))))) rfl (List.Sublist.refl _)
   ·skip
    have c62r := c62
    try simp only [Bool.not_eq_true', Bool.not_eq_false', Bool.not_true, Bool.not_false, decide_eq_true_eq, decide_eq_false_iff_not, Bool.and_eq_true, Bool.or_eq_false_iff] at c62
    refine kc_skipQ ?_
    refine kq_code ?_
    refine kc_region ?_
    refine kl_mv rfl ?_
    refine kl_inc rfl rfl (by omega) ?_
    refine kl_as rfl ?_
    refine kl_nil ?_
    refine kq_take [H47, H37, H9, K24] ?_
    refine kq_roundL ((u + 1), rs, v50, H47) (by omega) (⟨by omega, (by first | exact memTo_T hi46 (rest_c hr hn.2 hvn (by omega)) (by assumption) | exact memTo_F hi46 (rest_c hr hn.2 hvn (by omega)) (by assumption)), o48, f49⟩) (pc 11 rfl (pc 10 rfl pn)) (pc 1 rfl (pc 4 rfl (pc 5 rfl (pc 6 rfl (pc 7 rfl (pc 8 rfl (pc 9 rfl (pc 19 rfl (pc 20 rfl (pc 21 rfl (pc 22 rfl (pc 25 rfl (pc 26 rfl (pc 27 rfl (pc 28 rfl (pc 29 rfl (pc 30 rfl (pc 31 rfl (pc 32 rfl pn))))))))))))))))))) rfl (List.Sublist.refl _)
  ·skip
   refine kc_exit ?_
   refine kq_code ?_
   refine kc_seq (kc_region ?_)
   refine kl_mv rfl ?_
   refine kl_mv rfl ?_
   refine kl_lenL rfl o48 (fun l74 => ?_)
   refine kl_max rfl rfl ?_
   refine kl_as rfl ?_
   refine kl_nil (kq_code (kc_seq (kc_region ?_)))
   refine kl_as rfl ?_
   refine kl_nil (kq_code ?_)
   refine kc_block ?_
   refine kc_loopL (A := Nat × List (List Bool) × Hp) (fun zz => (zz.1 ≤ rs.length) ∧ (SUp m.doms.length (widTo m order k).1 rs zz.1 0 zz.2.1) ∧ Mat 91 4 encB H9 zz.2.2 v5 us11 zz.2.1 ∧ Fr B zz.2.2) (fun zz => rs.length - zz.1) (fun zz => [H47, H37, H9, zz.2.2]) (fun zz => [(12, .int .i64 (zz.1 : Int))]) (0, gs, K24) (pc 1 rfl (pc 4 rfl (pc 5 rfl (pc 6 rfl (pc 7 rfl (pc 8 rfl (pc 9 rfl (pc 10 rfl (pc 11 rfl (pc 19 rfl (pc 20 rfl (pc 21 rfl (pc 22 rfl (pc 25 rfl (pc 26 rfl (pc 27 rfl (pc 28 rfl (pc 29 rfl (pc 30 rfl (pc 31 rfl (pc 32 rfl (pc 33 rfl (pc 34 rfl (pc 35 rfl (pc 36 rfl (pc 57 rfl (pc 58 rfl (pc 59 rfl (pc 60 rfl pn))))))))))))))))))))))))))))) (pc 12 rfl pn) rfl ⟨Nat.zero_le _, (hr.up _), o25, f26⟩ ?_
   rintro ⟨a, g2, K77⟩ hJ80
   obtain ⟨hk75, hi76, o78, f79⟩ : (a ≤ rs.length) ∧ (SUp m.doms.length (widTo m order k).1 rs a 0 g2) ∧ Mat 91 4 encB H9 K77 v5 us11 g2 ∧ Fr B K77 := hJ80
   change KC _ _ (_) [H47, H37, H9, K77] _ ([(12, .int .i64 (a : Int))] ++ _)
   refine kc_seq ?_
   refine kc_seq (kc_region ?_)
   refine kl_mv rfl ?_
   refine kl_mv rfl ?_
   refine kl_lenL rfl o48 (fun l81 => ?_)
   refine kl_lss rfl rfl ?_
   refine kl_nil (kq_code ?_)
   refine kc_if rfl (fun c82 => ?_) (fun c82 => ?_)
   ·skip
    have hrs : ∀ r ∈ rs, (0 : Int) ≤ r ∧ r < (m.doms.length : Int) := (by rw [hi46]; intro r hr9; obtain ⟨u9, h1, h2, _⟩ := memTo_mem.1 hr9; omega)
    have hnd : rs.Pairwise (· ≠ ·) := (by rw [hi46]; exact memTo_nodup _ _)
    refine kc_skipQ ?_
    refine kq_code ?_
    refine kc_seq ?_
    refine kc_block ?_
    refine kc_seq (kc_region ?_)
    refine kl_as rfl ?_
    refine kl_nil (kq_code ?_)
    refine kc_block ?_
    refine kc_loopL (A := Nat × List (List Bool) × Hp) (fun zz => (zz.1 ≤ rs.length) ∧ (SUp m.doms.length (widTo m order k).1 rs a zz.1 zz.2.1) ∧ Mat 91 4 encB H9 zz.2.2 v5 us11 zz.2.1 ∧ Fr B zz.2.2) (fun zz => rs.length - zz.1) (fun zz => [H47, H37, H9, zz.2.2]) (fun zz => [(13, .int .i64 (zz.1 : Int))]) (0, g2, K77) (pc 1 rfl (pc 4 rfl (pc 5 rfl (pc 6 rfl (pc 7 rfl (pc 8 rfl (pc 9 rfl (pc 10 rfl (pc 11 rfl (pc 12 rfl (pc 19 rfl (pc 20 rfl (pc 21 rfl (pc 22 rfl (pc 25 rfl (pc 26 rfl (pc 27 rfl (pc 28 rfl (pc 29 rfl (pc 30 rfl (pc 31 rfl (pc 32 rfl (pc 33 rfl (pc 34 rfl (pc 35 rfl (pc 36 rfl (pc 57 rfl (pc 58 rfl (pc 59 rfl (pc 60 rfl (pc 61 rfl (pc 62 rfl (pc 63 rfl (pc 64 rfl pn)))))))))))))))))))))))))))))))))) (pc 13 rfl pn) rfl ⟨Nat.zero_le _, hi76, o78, f79⟩ ?_
    rintro ⟨b, g3, K85⟩ hJ88
    obtain ⟨hk83, hi84, o86, f87⟩ : (b ≤ rs.length) ∧ (SUp m.doms.length (widTo m order k).1 rs a b g3) ∧ Mat 91 4 encB H9 K85 v5 us11 g3 ∧ Fr B K85 := hJ88
    change KC _ _ (_) [H47, H37, H9, K85] _ ([(13, .int .i64 (b : Int))] ++ _)
    have h3l := hi84.ls
    have h3r := hi84.lr
    refine kc_seq ?_
    refine kc_seq (kc_region ?_)
    refine kl_mv rfl ?_
    refine kl_mv rfl ?_
    refine kl_lenL rfl o48 (fun l89 => ?_)
    refine kl_lss rfl rfl ?_
    refine kl_nil (kq_code ?_)
    refine kc_if rfl (fun c90 => ?_) (fun c90 => ?_)
    ·skip
     have hra := hrs _ (getD_mem (d := (0 : Int)) (by omega : a < rs.length))
     have hrb := hrs _ (getD_mem (d := (0 : Int)) (by omega : b < rs.length))
     have hrow := h3r (rs.getD a 0).toNat (by omega)
     refine kc_skipQ ?_
     refine kq_code ?_
     refine kc_seq ?_
     refine kc_block ?_
     refine kc_draw 30 [true, true, true, true, true, true, true, true, true, true, true, true, true, true, true, true, true, true, true, true, true, true, true, true, true, true, true, true, true, true, false] (by kernel_rfl) (by kernel_rfl) ?_
     refine kl_mv rfl ?_
     refine kl_mv rfl ?_
     refine kl_mv rfl ?_
     refine kl_ixLn rfl rfl (by assumption) (by omega) (fun p91 q92 => ?_)
     refine kl_ldLI rfl (by assumption) (by assumption) (by omega) ?_
     refine kl_mtIz rfl rfl o86 (by omega) (by omega) (fun p93 q94 => ?_)
     refine kl_mtLd rfl (by assumption) o86 (by omega) ?_
     refine kl_mv rfl ?_
     refine kl_mv rfl ?_
     refine kl_ixLn rfl rfl (by assumption) (by omega) (fun p95 q96 => ?_)
     refine kl_ldLI rfl (by assumption) (by assumption) (by omega) ?_
     refine kl_mv rfl ?_
     refine kl_mv rfl ?_
     refine kl_mv rfl ?_
     refine kl_ixLn rfl rfl (by assumption) (by omega) (fun p97 q98 => ?_)
     refine kl_ldLI rfl (by assumption) (by assumption) (by omega) ?_
     refine kl_mtIz rfl rfl o86 (by omega) (by omega) (fun p99 q100 => ?_)
     refine kl_mtLd rfl (by assumption) o86 (by omega) ?_
     refine kl_mv rfl ?_
     refine kl_mv rfl ?_
     refine kl_ixLn rfl rfl (by assumption) (by omega) (fun p101 q102 => ?_)
     refine kl_ldLI rfl (by assumption) (by assumption) (by omega) ?_
     refine kl_rwIz rfl rfl o86 (by omega) (by omega) (by omega) (fun p103 q104 => ?_)
     refine kl_rwLd false rfl o86 (by assumption) (by omega) (by omega) ?_
     refine kl_mv rfl ?_
     refine kl_join 4 101 (.bool (((g3.getD (Int.toNat (rs.getD a 0)) []).getD (Int.toNat (rs.getD b 0)) false) || decide ((a : Int) ≠ (b : Int)))) (pc 1 rfl (pc 4 rfl (pc 5 rfl (pc 6 rfl (pc 7 rfl (pc 8 rfl (pc 9 rfl (pc 10 rfl (pc 11 rfl (pc 12 rfl (pc 13 rfl (pc 19 rfl (pc 20 rfl (pc 21 rfl (pc 22 rfl (pc 25 rfl (pc 26 rfl (pc 27 rfl (pc 28 rfl (pc 29 rfl (pc 30 rfl (pc 31 rfl (pc 32 rfl (pc 33 rfl (pc 34 rfl (pc 35 rfl (pc 36 rfl (pc 57 rfl (pc 58 rfl (pc 59 rfl (pc 60 rfl (pc 61 rfl (pc 62 rfl (pc 63 rfl (pc 64 rfl (pc 67 rfl (pc 68 rfl (pc 69 rfl (pc 70 rfl (pc 73 rfl (pc 74 rfl (pc 75 rfl (pc 76 rfl (pc 77 rfl (pc 78 rfl (pc 79 rfl (pc 80 rfl (pc 81 rfl (pc 82 rfl (pc 83 rfl (pc 84 rfl (pc 85 rfl (pc 86 rfl (pc 87 rfl (pc 88 rfl (pc 89 rfl (pc 90 rfl (pc 91 rfl (pc 92 rfl (pc 93 rfl (pc 94 rfl (pc 95 rfl (pc 96 rfl (pc 97 rfl pn)))))))))))))))))))))))))))))))))))))))))))))))))))))))))))))))) (fun J106 => ?_) ?_
     ·rcases Bool.eq_false_or_eq_true ((g3.getD (Int.toNat (rs.getD a 0)) []).getD (Int.toNat (rs.getD b 0)) false) with g105 | g105
      ·skip
       refine kl_gF rfl rfl g105 ?_
       refine kl_gF rfl rfl g105 ?_
       refine kl_gF rfl rfl g105 ?_
       refine kl_orT (decide ((a : Int) ≠ (b : Int))) rfl rfl g105 ?_
       exact J106 _ (pc 101 rfl (pc 1 rfl (pc 4 rfl (pc 5 rfl (pc 6 rfl (pc 7 rfl (pc 8 rfl (pc 9 rfl (pc 10 rfl (pc 11 rfl (pc 12 rfl (pc 13 rfl (pc 19 rfl (pc 20 rfl (pc 21 rfl (pc 22 rfl (pc 25 rfl (pc 26 rfl (pc 27 rfl (pc 28 rfl (pc 29 rfl (pc 30 rfl (pc 31 rfl (pc 32 rfl (pc 33 rfl (pc 34 rfl (pc 35 rfl (pc 36 rfl (pc 57 rfl (pc 58 rfl (pc 59 rfl (pc 60 rfl (pc 61 rfl (pc 62 rfl (pc 63 rfl (pc 64 rfl (pc 67 rfl (pc 68 rfl (pc 69 rfl (pc 70 rfl (pc 73 rfl (pc 74 rfl (pc 75 rfl (pc 76 rfl (pc 77 rfl (pc 78 rfl (pc 79 rfl (pc 80 rfl (pc 81 rfl (pc 82 rfl (pc 83 rfl (pc 84 rfl (pc 85 rfl (pc 86 rfl (pc 87 rfl (pc 88 rfl (pc 89 rfl (pc 90 rfl (pc 91 rfl (pc 92 rfl (pc 93 rfl (pc 94 rfl (pc 95 rfl (pc 96 rfl (pc 97 rfl pn)))))))))))))))))))))))))))))))))))))))))))))))))))))))))))))))))
      ·skip
       have g105p := g105
       try simp only [Bool.not_eq_true', Bool.not_eq_false', decide_eq_true_eq, decide_eq_false_iff_not, Bool.and_eq_true, Bool.or_eq_false_iff, withinB_iff] at g105p
       refine kl_gT rfl rfl g105 ?_
       refine kl_mv rfl ?_
       refine kl_gT rfl rfl g105 ?_
       refine kl_mv rfl ?_
       refine kl_gT rfl rfl g105 ?_
       refine kl_neq rfl rfl ?_
       refine kl_orF rfl rfl g105 ?_
       exact J106 _ (pc 101 rfl (pc 1 rfl (pc 4 rfl (pc 5 rfl (pc 6 rfl (pc 7 rfl (pc 8 rfl (pc 9 rfl (pc 10 rfl (pc 11 rfl (pc 12 rfl (pc 13 rfl (pc 19 rfl (pc 20 rfl (pc 21 rfl (pc 22 rfl (pc 25 rfl (pc 26 rfl (pc 27 rfl (pc 28 rfl (pc 29 rfl (pc 30 rfl (pc 31 rfl (pc 32 rfl (pc 33 rfl (pc 34 rfl (pc 35 rfl (pc 36 rfl (pc 57 rfl (pc 58 rfl (pc 59 rfl (pc 60 rfl (pc 61 rfl (pc 62 rfl (pc 63 rfl (pc 64 rfl (pc 67 rfl (pc 68 rfl (pc 69 rfl (pc 70 rfl (pc 73 rfl (pc 74 rfl (pc 75 rfl (pc 76 rfl (pc 77 rfl (pc 78 rfl (pc 79 rfl (pc 80 rfl (pc 81 rfl (pc 82 rfl (pc 83 rfl (pc 84 rfl (pc 85 rfl (pc 86 rfl (pc 87 rfl (pc 88 rfl (pc 89 rfl (pc 90 rfl (pc 91 rfl (pc 92 rfl (pc 93 rfl (pc 94 rfl (pc 95 rfl (pc 96 rfl (pc 97 rfl pn)))))))))))))))))))))))))))))))))))))))))))))))))))))))))))))))))
     refine kl_rwIz rfl rfl o86 (by omega) (by omega) (by omega) (fun p107 q108 => ?_)
     refine kl_rwSt (enc := encB) (((g3.getD (Int.toNat (rs.getD a 0)) []).getD (Int.toNat (rs.getD b 0)) false) || decide ((a : Int) ≠ (b : Int))) rfl rfl o86 (by assumption) (by omega) (by omega) (fun K109 o110 f111 => ?_)
     have f112 := f111 _ f87
     refine kl_chg [H47, H37, H9, K109] rfl ?_
     refine kl_nil (kq_code ?_)
     refine kc_region ?_
     refine kl_mv rfl ?_
     refine kl_inc rfl rfl (by omega) ?_
     refine kl_as rfl ?_
     refine kl_nil ?_
     refine kq_take [H47, H37, H9, K109] ?_
     refine kq_roundL ((b + 1), (g3.set (Int.toNat (rs.getD a 0)) ((g3.getD (Int.toNat (rs.getD a 0)) []).set (Int.toNat (rs.getD b 0)) (((g3.getD (Int.toNat (rs.getD a 0)) []).getD (Int.toNat (rs.getD b 0)) false) || decide ((a : Int) ≠ (b : Int))))), K109) (by omega) (⟨by omega, (hi84.step hrs hnd (by omega) (by omega) (by rw [show decide ((a : Int) ≠ (b : Int)) = decide (a ≠ b) from decide_eq_decide.2 (by omega)])), o110, f112⟩) (pc 13 rfl pn) (pc 1 rfl (pc 4 rfl (pc 5 rfl (pc 6 rfl (pc 7 rfl (pc 8 rfl (pc 9 rfl (pc 10 rfl (pc 11 rfl (pc 12 rfl (pc 19 rfl (pc 20 rfl (pc 21 rfl (pc 22 rfl (pc 25 rfl (pc 26 rfl (pc 27 rfl (pc 28 rfl (pc 29 rfl (pc 30 rfl (pc 31 rfl (pc 32 rfl (pc 33 rfl (pc 34 rfl (pc 35 rfl (pc 36 rfl (pc 57 rfl (pc 58 rfl (pc 59 rfl (pc 60 rfl (pc 61 rfl (pc 62 rfl (pc 63 rfl (pc 64 rfl pn)))))))))))))))))))))))))))))))))) rfl (List.Sublist.refl _)
    ·skip
     refine kc_exit ?_
     refine kq_code ?_
     refine kc_region ?_
     refine kl_mv rfl ?_
     refine kl_inc rfl rfl (by omega) ?_
     refine kl_as rfl ?_
     refine kl_nil ?_
     refine kq_take [H47, H37, H9, K85] ?_
     refine kq_roundL ((a + 1), g3, K85) (by omega) (⟨by omega, (hi84.next (by omega) (by omega)), o86, f87⟩) (pc 12 rfl pn) (pc 1 rfl (pc 4 rfl (pc 5 rfl (pc 6 rfl (pc 7 rfl (pc 8 rfl (pc 9 rfl (pc 10 rfl (pc 11 rfl (pc 19 rfl (pc 20 rfl (pc 21 rfl (pc 22 rfl (pc 25 rfl (pc 26 rfl (pc 27 rfl (pc 28 rfl (pc 29 rfl (pc 30 rfl (pc 31 rfl (pc 32 rfl (pc 33 rfl (pc 34 rfl (pc 35 rfl (pc 36 rfl (pc 57 rfl (pc 58 rfl (pc 59 rfl (pc 60 rfl pn))))))))))))))))))))))))))))) rfl (List.Sublist.refl _)
   ·skip
    refine kc_exit ?_
    refine kq_code ?_
    refine kc_region ?_
    refine kl_mv rfl ?_
    refine kl_inc rfl rfl (by omega) ?_
    refine kl_as rfl ?_
    refine kl_nil ?_
    refine kq_take [H37, H9, K77] ?_
    refine kq_roundL ((k + 1), (max wd (rs.length : Int)), g2, K77, (gn.set ((order.getD k 0).toNat) true), H37) (by omega) (⟨by omega, (wid_next hM hk1 hat hi23.1 hi23.2 hi46 (by omega) hi76 (by omega)), o78, f79, o38, f40⟩) (pc 8 rfl (pc 7 rfl pn)) (pc 1 rfl (pc 4 rfl (pc 5 rfl (pc 6 rfl pn)))) rfl (List.Sublist.refl _)
 ·skip
  refine kc_exit ?_
  refine kq_code ?_
  refine kc_seq (kc_region ?_)
  refine kl_mv rfl ?_
  refine kl_as rfl ?_
  refine kl_nil (kq_code ?_)
  refine kc_ret ?_
  refine kq_retP rfl rfl (congrArg (Value.int .i64) ?_)
  unfold widI; rw [show order.length = k from (by omega)]; exact hi23.1
theorem isPerm_ok {Hxs : Hp} {vxs : Value} (xs : List Int) (n : Int) (hb : 0 ≤ n ∧ n ≤ 1048576) (hxs : Ints Hxs vxs xs) : SpecP Try.prog 32 [vxs, .int .i64 n] [Hxs] (.bool (permB xs n)) := by
 refine spec_of Try.func32 rfl rfl rfl (fun B => ?_)
 refine kc_seq (kc_region ?_)
 refine kl_as rfl ?_
 refine kl_nil (kq_code (kc_seq (kc_region ?_)))
 refine kl_mv rfl ?_
 refine kl_len rfl (by assumption) (fun l1 => ?_)
 refine kl_mv rfl ?_
 refine kl_eql rfl rfl ?_
 refine kl_mv rfl ?_
 refine kl_join 5 14 (.bool (decide ((xs.length : Int) = n) && (allInB xs (0 : Int) (n - (1 : Int))))) (pc 0 rfl (pc 4 rfl (pc 9 rfl pn))) (fun J3 => ?_) ?_
 ·rcases Bool.eq_false_or_eq_true (decide ((xs.length : Int) = n)) with g2 | g2
  ·skip
   have g2p := of_decide_eq_true g2
   refine kl_gT rfl rfl g2 ?_
   refine kl_mv rfl ?_
   refine kl_gT rfl rfl g2 ?_
   refine kl_mv rfl ?_
   refine kl_gT rfl rfl g2 ?_
   refine kl_sub rfl rfl (by omega) ?_
   refine kl_gT rfl rfl g2 ?_
   refine kl_callP rfl rfl (allInRange_ok xs (0 : Int) (n - (1 : Int)) (by assumption)) ?_
   refine kl_andT rfl rfl g2 ?_
   exact J3 _ (pc 14 rfl (pc 0 rfl (pc 4 rfl (pc 9 rfl pn))))
  ·skip
   refine kl_gF rfl rfl g2 ?_
   refine kl_gF rfl rfl g2 ?_
   refine kl_gF rfl rfl g2 ?_
   refine kl_gF rfl rfl g2 ?_
   refine kl_andF (allInB xs (0 : Int) (n - (1 : Int))) rfl rfl g2 ?_
   exact J3 _ (pc 14 rfl (pc 0 rfl (pc 4 rfl (pc 9 rfl pn))))
 refine kl_mv rfl ?_
 refine kl_join 3 18 (.bool ((decide ((xs.length : Int) = n) && (allInB xs (0 : Int) (n - (1 : Int)))) && (distinctB xs))) (pc 4 rfl (pc 15 rfl pn)) (fun J5 => ?_) ?_
 ·rcases Bool.eq_false_or_eq_true (decide ((xs.length : Int) = n) && (allInB xs (0 : Int) (n - (1 : Int)))) with g4 | g4
  ·skip
   have g4p := g4
   try simp only [Bool.not_eq_true', Bool.not_eq_false', decide_eq_true_eq, decide_eq_false_iff_not, Bool.and_eq_true, Bool.or_eq_false_iff, withinB_iff] at g4p
   refine kl_gT rfl rfl g4 ?_
   refine kl_mv rfl ?_
   refine kl_gT rfl rfl g4 ?_
   refine kl_callP rfl rfl (sdistinct_ok xs (by assumption)) ?_
   refine kl_andT rfl rfl g4 ?_
   exact J5 _ (pc 18 rfl (pc 4 rfl (pc 15 rfl pn)))
  ·skip
   refine kl_gF rfl rfl g4 ?_
   refine kl_gF rfl rfl g4 ?_
   refine kl_andF (distinctB xs) rfl rfl g4 ?_
   exact J5 _ (pc 18 rfl (pc 4 rfl (pc 15 rfl pn)))
 refine kl_as rfl ?_
 refine kl_nil (kq_code ?_)
 refine kc_ret ?_
 refine kq_retP rfl rfl (congrArg Value.bool ?_)
 rfl
theorem selim_ok {Hmd : Hp} {vmd : Value} {Hmc : Hp} {vmc : Value} {Horder : Hp} {vorder : Value} (m : Mod) (order : List Int) (hmd : Ints Hmd vmd m.doms) (hmc : Cons Hmc vmc m.cons) (horder : Ints Horder vorder order) : SpecP Try.prog 8 [.agg #[vmd, vmc], vorder] [Hmd, Hmc, Horder] (.int .i64 (elimW m order)) := by
 refine spec_of Try.func8 rfl rfl rfl (fun B => ?_)
 refine kc_seq (kc_region ?_)
 refine kl_box rfl rfl (fun p1 H2 f3 a4 => ?_)
 refine kl_as rfl ?_
 refine kl_nil (kq_code ?_)
 refine kc_seq ?_
 refine kc_seq (kc_region ?_)
 refine kl_ldS rfl (by assumption) rfl ?_
 refine kl_callP rfl rfl (svalidMod_ok m (by assumption) (by assumption)) ?_
 refine kl_not rfl ?_
 refine kl_mv rfl ?_
 refine kl_join 7 15 (.bool (!(validModB m) || !(permB order (m.doms.length : Int)))) (pc 1 rfl (pc 2 rfl (pc 4 rfl (pc 8 rfl pn)))) (fun J9 => ?_) ?_
 ·rcases Bool.eq_false_or_eq_true (!(validModB m)) with g5 | g5
  ·skip
   refine kl_gF rfl rfl g5 ?_
   refine kl_gF rfl rfl g5 ?_
   refine kl_gF rfl rfl g5 ?_
   refine kl_gF rfl rfl g5 ?_
   refine kl_gF rfl rfl g5 ?_
   refine kl_gF rfl rfl g5 ?_
   refine kl_orT (!(permB order (m.doms.length : Int))) rfl rfl g5 ?_
   exact J9 _ (pc 15 rfl (pc 1 rfl (pc 2 rfl (pc 4 rfl (pc 8 rfl pn)))))
  ·skip
   have g5p := g5
   try simp only [Bool.not_eq_true', Bool.not_eq_false', decide_eq_true_eq, decide_eq_false_iff_not, Bool.and_eq_true, Bool.or_eq_false_iff, withinB_iff] at g5p
   have hvn := valid_n (m := m) (by simpa using g5)
   refine kl_gT rfl rfl g5 ?_
   refine kl_mv rfl ?_
   refine kl_gT rfl rfl g5 ?_
   refine kl_fd rfl (by assumption) (fun p6 a7 => ?_)
   refine kl_gT rfl rfl g5 ?_
   refine kl_ld rfl (by assumption) ?_
   refine kl_gT rfl rfl g5 ?_
   refine kl_len rfl (by assumption) (fun l8 => ?_)
   refine kl_gT rfl rfl g5 ?_
   refine kl_callP rfl rfl (isPerm_ok order (m.doms.length : Int) (by omega) (by assumption)) ?_
   refine kl_gT rfl rfl g5 ?_
   refine kl_not rfl ?_
   refine kl_orF rfl rfl g5 ?_
   exact J9 _ (pc 15 rfl (pc 1 rfl (pc 2 rfl (pc 4 rfl (pc 8 rfl pn)))))
 refine kl_nil (kq_code ?_)
 refine kc_cond rfl (fun c10 => ?_) (fun c10 => ?_)
 ·skip
  have c10r := c10
  try simp only [Bool.not_eq_true', Bool.not_eq_false', Bool.not_true, Bool.not_false, decide_eq_true_eq, decide_eq_false_iff_not, Bool.and_eq_true, Bool.or_eq_false_iff] at c10
  refine kc_seq (kc_region ?_)
  refine kl_as rfl ?_
  refine kl_nil (kq_code ?_)
  refine kc_ret ?_
  refine kq_retP rfl rfl (congrArg (Value.int .i64) ?_)
  first | exact elim_no (elimS_c m order) (by assumption) | exact elim_at1 hok
 ·skip
  have c10r := c10
  try simp only [Bool.not_eq_true', Bool.not_eq_false', Bool.not_true, Bool.not_false, decide_eq_true_eq, decide_eq_false_iff_not, Bool.and_eq_true, Bool.or_eq_false_iff] at c10
  have hok := elim_yes (elimS_c m order) c10r
  obtain ⟨hM, ho, hl⟩ := elim_ok0 hok
  refine kc_skipQ ?_
  refine kq_code ?_
  refine kc_seq (kc_region ?_)
  refine kl_ldS rfl (by assumption) rfl ?_
  refine kl_mv rfl ?_
  refine kl_callP rfl rfl (swidth_ok m order (by first | assumption | omega) (by first | assumption | omega) (by first | assumption | omega) (by assumption) (by assumption) (by assumption)) ?_
  refine kl_as rfl ?_
  refine kl_nil (kq_code ?_)
  refine kc_ret ?_
  refine kq_retP rfl rfl (congrArg (Value.int .i64) ?_)
  first | exact elim_no (elimS_c m order) (by assumption) | exact elim_at1 hok
end Go.Proofs.Ytidllhcfcmjggaa
