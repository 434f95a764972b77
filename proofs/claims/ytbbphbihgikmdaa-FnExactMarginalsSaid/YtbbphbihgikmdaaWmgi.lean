/- Walks of functions of the program: each returns what the plain function gives. Conditions: those that each statement names. -/
import Derived.Test.YtbbphbihgikmdaaWfix
import Derived.Test.YtbbphbihgikmdaaOrd
import Derived.Test.YtbbphbihgikmdaaPureM
namespace Go.Proofs.Ytbbphbihgikmdaa
open Go
set_option linter.unusedSimpArgs false
set_option linter.unusedVariables false
theorem margImp_ok {Hmd : Hp} {vmd : Value} {Hmc : Hp} {vmc : Value} (m : Mod) (hmd : Ints Hmd vmd m.doms) (hmc : Cons Hmc vmc m.cons) : Spec Try.prog 27 [.agg #[vmd, vmc]] [Hmd, Hmc] (fun Hq vq => MatR 22 3 encI Hq vq (margI m)) := by
 refine spec_of Try.func27 rfl rfl rfl (fun B => ?_)
 refine kc_seq (kc_region ?_)
 refine kl_box rfl rfl (fun p1 H2 f3 a4 => ?_)
 refine kl_as rfl ?_
 refine kl_nil (kq_code ?_)
 refine kc_seq ?_
 refine kc_seq (kc_region ?_)
 refine kl_ldS rfl (by assumption) rfl ?_
 refine kl_callP rfl rfl (validMod_ok m (by assumption) (by assumption)) ?_
 refine kl_not rfl ?_
 refine kl_nil (kq_code ?_)
 refine kc_cond rfl (fun c5 => ?_) (fun c5 => ?_)
 ·skip
  have c5r := c5
  try simp only [Bool.not_eq_true', Bool.not_eq_false', Bool.not_true, Bool.not_false, decide_eq_true_eq, decide_eq_false_iff_not, Bool.and_eq_true, Bool.or_eq_false_iff] at c5
  refine kc_seq (kc_region ?_)
  refine kl_as rfl ?_
  refine kl_nil (kq_code ?_)
  refine kc_ret ?_
  exact kq_ret rfl rfl (orHp noHp noHp) (fr_or (fr_no _) (fr_no _)) (by rw [margI_no (by assumption)]; exact ⟨noHp, noHp, [], rfl, fun _ => .inl rfl, Mat.nil OwnS.nil⟩)
 ·skip
  have c5r := c5
  try simp only [Bool.not_eq_true', Bool.not_eq_false', Bool.not_true, Bool.not_false, decide_eq_true_eq, decide_eq_false_iff_not, Bool.and_eq_true, Bool.or_eq_false_iff] at c5
  have hM : MOk m := ⟨by simpa using c5r⟩
  have hn := hM.n
  have hfw := sols_few hM
  refine kc_skipQ ?_
  refine kq_code ?_
  refine kc_seq (kc_region ?_)
  refine kl_fd rfl (by assumption) (fun p6 a7 => ?_)
  refine kl_ld rfl (by assumption) ?_
  refine kl_len rfl (by assumption) (fun l8 => ?_)
  refine kl_mkL0 (R := RowV) rfl rfl (by omega) (by first | omega | decide) (by decide) (fun v9 H10 f11 o12 => ?_)
  refine kl_no ?_
  have o13 : Mat 22 3 encI H10 noHp v9 [] [] := Mat.ofL o12
  refine kl_as rfl ?_
  refine kl_nil (kq_code ?_)
  refine kc_seq ?_
  refine kc_seq (kc_region ?_)
  refine kl_fd rfl (by assumption) (fun p15 a16 => ?_)
  refine kl_ld rfl (by assumption) ?_
  refine kl_len rfl (by assumption) (fun l17 => ?_)
  refine kl_mv rfl ?_
  refine kl_nil (kq_code ?_)
  refine kc_block ?_
  refine kc_loopL (A := Nat × Value × Hp × List Value × Hp) (fun zz => (zz.1 ≤ m.doms.length) ∧ Mat 22 3 encI zz.2.2.1 zz.2.2.2.2 zz.2.1 zz.2.2.2.1 (List.replicate zz.1 (List.replicate 6 (0 : Int))) ∧ Fr B zz.2.2.2.2 ∧ Fr B zz.2.2.1) (fun zz => m.doms.length - zz.1) (fun zz => [zz.2.2.2.2, zz.2.2.1]) (fun zz => [(18, .int .i64 (zz.1 : Int)), (3, zz.2.1)]) (0, v9, H10, ([]), noHp) (pc 1 rfl (pc 2 rfl (pc 17 rfl pn))) (pc 18 rfl (pc 3 rfl pn)) rfl ⟨Nat.zero_le _, (Mat.castX (by rfl : [] = List.replicate 0 (List.replicate 6 (0 : Int))) o13), (fr_no _), f11⟩ ?_
  rintro ⟨k, v22, H23, us24, K20⟩ hJ27
  obtain ⟨hk18, o21, f25, f26⟩ : (k ≤ m.doms.length) ∧ Mat 22 3 encI H23 K20 v22 us24 (List.replicate k (List.replicate 6 (0 : Int))) ∧ Fr B K20 ∧ Fr B H23 := hJ27
  change KC _ _ (_) [K20, H23] _ ([(18, .int .i64 (k : Int)), (3, v22)] ++ _)
  refine kc_seq (kc_region ?_)
  refine kl_lss rfl rfl ?_
  refine kl_nil (kq_code ?_)
  refine kc_seq ?_
  refine kc_if rfl (fun c28 => ?_) (fun c28 => ?_)
  ·skip
   refine kc_skipQ ?_
   refine kq_code ?_
   refine kc_seq ?_
   refine kc_block ?_
   refine kc_region ?_
   refine kl_mv rfl ?_
   refine kl_mkL (R := IntV) (0 : Int) rfl rfl (by first | omega | decide) (by decide) (by exact rfl) (fun v29 H30 f31 o32 => ?_)
   refine kl_bs rfl rfl rfl (by decide) (ca (by first | exact Sl.cells (by assumption) | exact OwnL.cells (by assumption)) ca_nil) (fun v33 H34 f35 r36 s37 => ?_)
   refine kl_apart K20 H30 (fun a43 => ?_)
   refine kl_app rfl rfl o21.hd (by assumption) (oc (OwnL.oneCell o32) oc_nil) (by (simp; omega)) (by decide) (fun v38 H39 o40 f41 => ?_)
   have f42 := f41 B f26 (Nat.le_refl _)
   have m44 := Mat.push o21 o40 (OwnL.imap o32) (by decide) (OwnL.liq o32) a43
   refine kl_mrg K20 H30 ?_
   refine kl_as rfl ?_
   refine kl_nil (kq_code ?_)
   refine kc_region ?_
   refine kl_inc rfl rfl (by omega) ?_
   refine kl_mv rfl ?_
   refine kl_nil ?_
   refine kq_take [(orHp K20 H30), H39] ?_
   refine kq_roundL ((k + 1), v38, H39, (us24 ++ [v29]), (orHp K20 H30)) (by omega) (⟨by omega, (Mat.castX (by exact rep_snoc k : (List.replicate k (List.replicate 6 (0 : Int)) ++ [(List.replicate 6 (0 : Int))]) = List.replicate (k + 1) (List.replicate 6 (0 : Int))) m44), (fr_or f25 f31), f42⟩) (pc 18 rfl (pc 3 rfl pn)) (pc 1 rfl (pc 2 rfl (pc 17 rfl pn))) rfl (List.Sublist.refl _)
  ·skip
   refine kc_exit ?_
   refine kq_code ?_
   refine kc_seq ?_
   refine kc_seq (kc_region ?_)
   refine kl_ldS rfl (by assumption) rfl ?_
   refine kl_call rfl rfl (solutions_ok m hM (by assumption) (by assumption)) (fun v45 H46 f47 h48 => ?_)
   refine kl_len rfl (by assumption) (fun l49 => ?_)
   refine kl_mv rfl ?_
   refine kl_nil (kq_code ?_)
   refine kc_block ?_
   refine kc_loopL (A := Nat × List (List Int) × Hp) (fun zz => (zz.1 ≤ (sols m).length) ∧ (zz.2.1 = margTo ((sols m).take zz.1) m.doms.length) ∧ Mat 22 3 encI H23 zz.2.2 v22 us24 zz.2.1 ∧ Fr B zz.2.2) (fun zz => (sols m).length - zz.1) (fun zz => [zz.2.2, H23]) (fun zz => [(28, .int .i64 (zz.1 : Int))]) (0, (List.replicate k (List.replicate 6 (0 : Int))), K20) (pc 2 rfl (pc 3 rfl (pc 26 rfl (pc 27 rfl pn)))) (pc 28 rfl pn) rfl ⟨Nat.zero_le _, (by rw [show k = m.doms.length from by omega]; exact mg_0 _ _), o21, f25⟩ ?_
   rintro ⟨k2, out, K52⟩ hJ55
   obtain ⟨hk50, hi51, o53, f54⟩ : (k2 ≤ (sols m).length) ∧ (out = margTo ((sols m).take k2) m.doms.length) ∧ Mat 22 3 encI H23 K52 v22 us24 out ∧ Fr B K52 := hJ55
   change KC _ _ (_) [K52, H23] _ ([(28, .int .i64 (k2 : Int))] ++ _)
   refine kc_seq (kc_region ?_)
   refine kl_lss rfl rfl ?_
   refine kl_nil (kq_code ?_)
   refine kc_seq ?_
   refine kc_if rfl (fun c56 => ?_) (fun c56 => ?_)
   ·skip
    have hrl := sols_len (getD_mem (d := []) (by omega : k2 < (sols m).length))
    have hrv := sols_vals (getD_mem (d := []) (by omega : k2 < (sols m).length))
    refine kc_skipQ ?_
    refine kq_code ?_
    refine kc_seq ?_
    refine kc_block ?_
    refine kc_seq (kc_region ?_)
    refine kl_inS rfl rfl (by assumption) (by omega) (fun p57 u59 h60 a58 => ?_)
    refine kl_ld rfl (by assumption) ?_
    refine kl_as rfl ?_
    refine kl_nil (kq_code (kc_seq (kc_region ?_)))
    refine kl_mv rfl ?_
    refine kl_len rfl (by assumption) (fun l61 => ?_)
    refine kl_mv rfl ?_
    refine kl_nil (kq_code ?_)
    refine kc_block ?_
    refine kc_loopL (A := Nat × List (List Int) × Hp) (fun zz => (zz.1 ≤ ((sols m).getD k2 []).length) ∧ (zz.2.1 = mgIn (sols m) m.doms.length k2 zz.1) ∧ Mat 22 3 encI H23 zz.2.2 v22 us24 zz.2.1 ∧ Fr B zz.2.2) (fun zz => ((sols m).getD k2 []).length - zz.1) (fun zz => [zz.2.2, H23]) (fun zz => [(34, .int .i64 (zz.1 : Int))]) (0, out, K52) (pc 2 rfl (pc 3 rfl (pc 5 rfl (pc 26 rfl (pc 27 rfl (pc 28 rfl (pc 29 rfl (pc 30 rfl (pc 31 rfl (pc 32 rfl (pc 33 rfl pn))))))))))) (pc 34 rfl pn) rfl ⟨Nat.zero_le _, (by show out = _; rw [hi51]; exact mgIn_0 _ _ _), o53, f54⟩ ?_
    rintro ⟨j, o2, K64⟩ hJ67
    obtain ⟨hk62, hi63, o65, f66⟩ : (j ≤ ((sols m).getD k2 []).length) ∧ (o2 = mgIn (sols m) m.doms.length k2 j) ∧ Mat 22 3 encI H23 K64 v22 us24 o2 ∧ Fr B K64 := hJ67
    change KC _ _ (_) [K64, H23] _ ([(34, .int .i64 (j : Int))] ++ _)
    refine kc_seq (kc_region ?_)
    refine kl_lss rfl rfl ?_
    refine kl_nil (kq_code ?_)
    refine kc_seq ?_
    refine kc_if rfl (fun c68 => ?_) (fun c68 => ?_)
    ·skip
     have hcv := hrv.at (k := j) (by omega)
     have hol : o2.length = m.doms.length := (by rw [hi63]; exact mgIn_len _ _ _ _)
     have hor : (o2.getD j []).length = 6 := (by rw [hi63]; exact mgIn_row (by omega))
     have hcb := mg_cnt hi63 (show j < m.doms.length by omega) hcv hfw
     refine kc_skipQ ?_
     refine kq_code ?_
     refine kc_seq ?_
     refine kc_block ?_
     refine kc_seq (kc_region ?_)
     refine kl_mv rfl ?_
     refine kl_inI rfl rfl (by assumption) (by omega) (fun p69 a70 => ?_)
     refine kl_ld rfl (by assumption) ?_
     refine kl_as rfl ?_
     refine kl_as rfl ?_
     refine kl_nil (kq_code ?_)
     refine kc_region ?_
     refine kl_mv rfl ?_
     refine kl_mv rfl ?_
     refine kl_mtIx (i := j) rfl rfl o65 (by omega) (fun p71 q72 => ?_)
     refine kl_mtLd rfl (by assumption) o65 (by omega) ?_
     refine kl_mv rfl ?_
     refine kl_rwIz rfl rfl o65 (by omega) (by omega) (by omega) (fun p73 q74 => ?_)
     refine kl_rwLd (0 : Int) rfl o65 (by assumption) (by omega) (by omega) ?_
     refine kl_add rfl rfl (by omega) ?_
     refine kl_rwIz rfl rfl o65 (by omega) (by omega) (by omega) (fun p75 q76 => ?_)
     refine kl_rwSt (enc := encI) (((o2.getD j []).getD (Int.toNat (((sols m).getD k2 []).getD j 0)) (0 : Int)) + (1 : Int)) rfl rfl o65 (by assumption) (by omega) (by omega) (fun K77 o78 f79 => ?_)
     have f80 := f79 _ f66
     refine kl_chg [K77, H23] rfl ?_
     refine kl_nil (kq_code ?_)
     refine kc_region ?_
     refine kl_inc rfl rfl (by omega) ?_
     refine kl_mv rfl ?_
     refine kl_nil ?_
     refine kq_take [K77, H23] ?_
     refine kq_roundL ((j + 1), (o2.set j ((o2.getD j []).set (Int.toNat (((sols m).getD k2 []).getD j 0)) (((o2.getD j []).getD (Int.toNat (((sols m).getD k2 []).getD j 0)) (0 : Int)) + (1 : Int)))), K77) (by omega) (⟨by omega, (mgIn_step hi63 (by omega) (by omega) (hrv.at (by omega))), o78, f80⟩) (pc 34 rfl pn) (pc 2 rfl (pc 3 rfl (pc 5 rfl (pc 26 rfl (pc 27 rfl (pc 28 rfl (pc 29 rfl (pc 30 rfl (pc 31 rfl (pc 32 rfl (pc 33 rfl pn))))))))))) rfl (List.Sublist.refl _)
    ·skip
     refine kc_exit ?_
     refine kq_code ?_
     refine kc_region ?_
     refine kl_inc rfl rfl (by omega) ?_
     refine kl_mv rfl ?_
     refine kl_nil ?_
     refine kq_take [K64, H23] ?_
     refine kq_roundL ((k2 + 1), o2, K64) (by omega) (⟨by omega, (by rw [hi63]; exact mgIn_end (by omega)), o65, f66⟩) (pc 28 rfl pn) (pc 2 rfl (pc 3 rfl (pc 26 rfl (pc 27 rfl pn)))) rfl (List.Sublist.refl _)
   ·skip
    refine kc_exit ?_
    refine kq_code ?_
    refine kc_seq (kc_region ?_)
    refine kl_mv rfl ?_
    refine kl_as rfl ?_
    refine kl_nil (kq_code ?_)
    refine kc_ret ?_
    refine kq_apart H23 K52 (fun c81 => ?_)
    have e9 : out = margI m := by rw [hi51, margI_yes hM.v, List.take_of_length_le (by omega)]
    exact kq_ret rfl rfl (orHp H23 K52) (fr_or f26 f54) ⟨H23, K52, us24, rfl, c81, (Mat.castX e9 o53)⟩
end Go.Proofs.Ytbbphbihgikmdaa
