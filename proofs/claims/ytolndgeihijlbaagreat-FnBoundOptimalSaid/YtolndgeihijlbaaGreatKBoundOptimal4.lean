/- Parts of the proof: a logic of partial frames, plain functions, walks of the program's functions. Conditions: those that each statement names. -/
import Derived.Test.YtolndgeihijlbaaGreatKBoundOptimal3
namespace Go.Proofs.YtolndgeihijlbaaGreat
open Go
set_option linter.unusedSimpArgs false
set_option linter.unusedVariables false
section
theorem randomAutomaton_ok {br : Nat} {vbr : Value} {Hr : Hp} {bsr : List Int} (pr : Nat) (n : Int) (hn : 1 ≤ n ∧ n ≤ 4) (hp : pr + (12 * n.toNat) ≤ 1000000) (hr : Bytes Hr vbr bsr) : SpecT Tryz.prog 149 [.pointer (some ⟨br, 0, none⟩), .int .i64 n] [sing br (.cells [vbr, .int .i64 (pr : Int)].toArray 84 (0, 0))] [Hr] (fun vq L1 Ln Kq => ∃ q : Nat, q ≤ pr + (12 * n.toNat) ∧ L1 = [sing br (.cells [vbr, .int .i64 (q : Int)].toArray 84 (0, 0))] ∧ ∃ (Hq : Hp) (xq : List (List Int)), Ln = [Hq] ∧ OwnL 23 1 Hq Kq RowV vq xq ∧ ((xq.length : Int) = n ∧ ∀ r ∈ xq, r.length ≤ 12)) := by
 refine specT_of Tryz.func149 rfl rfl rfl (fun B => ?_)
 refine cS (cr (sg rfl (ln (qc (cS (cr (kl_bs0 RowV rfl (fun v1 H2 f3 o4 => ?_))))))))
 refine sg rfl (ln (qc (cS (cS (cr (sg rfl (ln (qc (bl (kc_loopK (A := Nat × List (List Int) × Value × Hp × Hp × Nat) (fun zz => (zz.1 ≤ n.toNat) ∧ (zz.2.1.length = zz.1 ∧ ∀ r ∈ zz.2.1, r.length ≤ 12) ∧ Fr B zz.2.2.2.2.1 ∧ OwnL 23 1 zz.2.2.2.1 zz.2.2.2.2.1 RowV zz.2.2.1 zz.2.1 ∧ Fr B zz.2.2.2.1 ∧ zz.2.2.2.2.2 ≤ pr + 12 * zz.1) (fun zz => n.toNat - zz.1) (fun zz => zz.2.2.2.2.1) (fun zz => [zz.2.2.2.1, sing br (.cells [vbr, .int .i64 (zz.2.2.2.2.2 : Int)].toArray 84 (0, 0))]) (fun zz => [(6, .int .i64 (zz.1 : Int)), (5, zz.2.2.1)]) (0, ([]), v1, H2, noHp, pr) (pk [0, 1, 4] rfl) (pk [6, 5] rfl) rfl ⟨Nat.zero_le _, ⟨rfl, all_nil⟩, (fr_no _), o4, f3, (by first | omega | (dsimp only; omega))⟩ ?_))))))))))
 rintro ⟨i, out, v10, H7, K11, q13⟩ hJ15
 obtain ⟨hk5, hi6, f12, o8, f9, hq14⟩ : (i ≤ n.toNat) ∧ (out.length = i ∧ ∀ r ∈ out, r.length ≤ 12) ∧ Fr B K11 ∧ OwnL 23 1 H7 K11 RowV v10 out ∧ Fr B H7 ∧ q13 ≤ pr + 12 * i := hJ15
 change KC _ _ (K11 :: _) [H7, sing br (.cells [vbr, .int .i64 (q13 : Int)].toArray 84 (0, 0))] _ ([(6, .int .i64 (i : Int)), (5, v10)] ++ _)
 refine cS (cS (cr (mv rfl (mv rfl (ls9 rfl rfl ?_)))))
 refine ln (qc (ci9 rfl (fun c16 => ?_) (fun c16 => ?_)))
 ·refine sk (qc (cS (bl (cS (cr (kl_bsI [] rfl rfl rfl (by decide) (fun v17 H18 f19 o20 => ?_)))))))
  refine sg rfl (ln (qc (cS (cS (cr (sg rfl (ln (qc (bl (kc_loopL (A := Nat × List Int × Value × Hp × Nat) (fun zz => (zz.1 ≤ 6) ∧ (zz.2.1.length = zz.1) ∧ OwnL 3 1 zz.2.2.2.1 noHp IntV zz.2.2.1 zz.2.1 ∧ Fr B zz.2.2.2.1 ∧ zz.2.2.2.2 ≤ q13 + 2 * zz.1) (fun zz => 6 - zz.1) (fun zz => [zz.2.2.2.1, H7, sing br (.cells [vbr, .int .i64 (zz.2.2.2.2 : Int)].toArray 84 (0, 0))]) (fun zz => [(8, .int .i64 (zz.1 : Int)), (7, zz.2.2.1)]) (0, ([]), v17, H18, q13) (pk [0, 1, 4, 5, 6, 11, 12, 13, 16] rfl) (pk [8, 7] rfl) rfl ⟨Nat.zero_le _, rfl, o20, f19, (by first | omega | (dsimp only; omega))⟩ ?_))))))))))
  rintro ⟨j, row, v26, H23, q27⟩ hJ29
  obtain ⟨hk21, hi22, o24, f25, hq28⟩ : (j ≤ 6) ∧ (row.length = j) ∧ OwnL 3 1 H23 noHp IntV v26 row ∧ Fr B H23 ∧ q27 ≤ q13 + 2 * j := hJ29
  change KC _ _ (_) [H23, H7, sing br (.cells [vbr, .int .i64 (q27 : Int)].toArray 84 (0, 0))] _ ([(8, .int .i64 (j : Int)), (7, v26)] ++ _)
  refine cS (cS (cr (mv rfl (kl_leq rfl rfl ?_))))
  refine ln (qc (ci9 rfl (fun c30 => ?_) (fun c30 => ?_)))
  ·refine sk (qc (cS (bl (cr (mv rfl (mv rfl (mv rfl (ad9 rfl rfl (by omega) ?_))))))))
   refine cT rfl rfl (pick_ok q27 (n + (1 : Int)) (by omega) hr) (fun v31 L1 Ln K35 h32 f33 f34 => ?_)
   obtain ⟨q36, h37, rfl, rfl, z38, rfl, h39⟩ := h32
   refine nm ?_
   refine mv rfl (cT rfl rfl (pick_ok q36 (2 : Int) (by omega) hr) (fun v42 L1 Ln K46 h43 f44 f45 => ?_))
   obtain ⟨q47, h48, rfl, rfl, z49, rfl, h50⟩ := h43
   refine nm ?_
   refine sb9 rfl rfl (by omega) ?_
   refine bs9 rfl rfl rfl (by decide) (ca rfl ca_nil) (fun v53 H54 f55 r56 s57 => ?_)
   have h58 : Ints H54 v53 [(z38 - z49)] := litInts (xs := [(z38 - z49)]) (by simpa using s57)
   refine aL9 (z38 - z49) rfl rfl o24 ‹_› rfl (oc rfl oc_nil) (by omega) (by decide) (fun v59 H60 o61 f62 => ?_)
   have f63 := f62 B f25 (Nat.le_refl _)
   refine sg rfl (ln (qc (cr (mv rfl (ic9 rfl rfl (by omega) ?_)))))
   refine sg rfl (ln (tk [H60, H7, sing br (.cells [vbr, .int .i64 (q47 : Int)].toArray 84 (0, 0))] ?_))
   refine rL ((j + 1), (row ++ [(z38 - z49)]), v59, H60, q47) (by omega) (⟨by omega, (by simp; omega), o61, f63, (by first | omega | (dsimp only; omega))⟩) (pk [8, 7] rfl) (pk [0, 1, 4, 5, 6, 11, 12, 13, 16] rfl) rfl slr9
  ·refine ex9 (qc (cS (cS (cr (sg rfl (ln (qc (bl (kc_loopL (A := Nat × List Int × Hp) (fun zz => (zz.1 ≤ 6) ∧ (zz.2.1.length = 6) ∧ OwnL 3 1 zz.2.2 noHp IntV v26 zz.2.1 ∧ Fr B zz.2.2) (fun zz => 6 - zz.1) (fun zz => [zz.2.2, H7, sing br (.cells [vbr, .int .i64 (q27 : Int)].toArray 84 (0, 0))]) (fun zz => [(9, .int .i64 (zz.1 : Int))]) (0, row, H23) (pk [0, 1, 4, 5, 6, 7, 8, 11, 12, 13, 16, 17, 18] rfl) (pc 9 rfl pn) rfl ⟨Nat.zero_le _, (by dsimp only; omega), o24, f25⟩ ?_)))))))))
   rintro ⟨k, row2, H66⟩ hJ69
   obtain ⟨hk64, hi65, o67, f68⟩ : (k ≤ 6) ∧ (row2.length = 6) ∧ OwnL 3 1 H66 noHp IntV v26 row2 ∧ Fr B H66 := hJ69
   change KC _ _ (_) [H66, H7, sing br (.cells [vbr, .int .i64 (q27 : Int)].toArray 84 (0, 0))] _ ([(9, .int .i64 (k : Int))] ++ _)
   refine cS (cS (cr (mv rfl (kl_leq rfl rfl ?_))))
   refine ln (qc (ci9 rfl (fun c70 => ?_) (fun c70 => ?_)))
   ·refine sk (qc (cS (bl (cS (cr (mv rfl (mv rfl (kl_ixLn rfl rfl ‹_› (by omega) (fun p71 q72 => ?_)))))))))
    refine kl_ldLI rfl ‹_› ‹_› (by omega) ?_
    refine mv rfl (kl_geq rfl rfl ?_)
    refine ln (qc (ci9 rfl (fun c73 => ?_) (fun c73 => ?_)))
    ·refine cr (mv rfl (mv rfl (mv rfl (sb9 rfl rfl (by omega) ?_))))
     refine kl_ixLn rfl rfl ‹_› (by omega) (fun p74 q75 => ?_)
     refine kl_stL (n - (1 : Int)) rfl rfl ‹_› o67 (by omega) rfl rfl rfl (fun H76 o77 f78 => ?_)
     have f79 := f78 _ f68
     refine cg [H76, H7, sing br (.cells [vbr, .int .i64 (q27 : Int)].toArray 84 (0, 0))] rfl ?_
     refine ln (qc (cr (mv rfl (ic9 rfl rfl (by omega) ?_))))
     refine sg rfl (ln (tk [H76, H7, sing br (.cells [vbr, .int .i64 (q27 : Int)].toArray 84 (0, 0))] ?_))
     refine rL ((k + 1), (row2.set k (n - (1 : Int))), H76) (by omega) (⟨by omega, (by first | omega | (simp; omega)), o77, f79⟩) (pc 9 rfl pn) (pk [0, 1, 4, 5, 6, 7, 8, 11, 12, 13, 16, 17, 18] rfl) rfl slr9
    ·refine sk (qc (cr (mv rfl (ic9 rfl rfl (by omega) ?_))))
     refine sg rfl (ln (tk [H66, H7, sing br (.cells [vbr, .int .i64 (q27 : Int)].toArray 84 (0, 0))] ?_))
     refine rL ((k + 1), row2, H66) (by omega) (⟨by omega, (by first | omega | (simp; omega)), o67, f68⟩) (pc 9 rfl pn) (pk [0, 1, 4, 5, 6, 7, 8, 11, 12, 13, 16, 17, 18] rfl) rfl slr9
   ·refine ex9 (qc (cr (mv rfl (mv rfl (bs9 rfl rfl rfl (by decide) (ca (by first | exact Sl.cells ‹_› | exact OwnL.cells ‹_›) ca_nil) (fun v80 H81 f82 r83 s84 => ?_))))))
    refine fZ H66 ?_
    have h85 := OwnL.ints o67
    refine cm9 K11 H66 (fun c86 => ?_)
    have o87 := OwnL.mono (K' := orHp K11 H66) o8 orL
    refine aL9 row2 rfl rfl o87 ‹_› ⟨_, rfl, Sl.mono ‹_› (orC c86) (fun _ _ h => h)⟩ (oc (OwnL.oneCell ‹_›) oc_nil) (by omega) (by decide) (fun v88 H89 o90 f91 => ?_)
    have f92 := f91 B f9 (Nat.le_refl _)
    refine sg rfl (ln (qc (cr (mv rfl (ic9 rfl rfl (by omega) ?_)))))
    refine sg rfl (ln (tk [H89, sing br (.cells [vbr, .int .i64 (q27 : Int)].toArray 84 (0, 0))] ?_))
    refine kq_roundK ((i + 1), (out ++ [row2]), v88, H89, (orHp K11 H66), q27) (by omega) (⟨by omega, ⟨by simp; omega, all_snoc hi6.2 (by first | omega | (simp; omega))⟩, (fr_or f12 f68), o90, f92, (by first | omega | (dsimp only; omega))⟩) (pk [6, 5] rfl) (pk [0, 1, 4] rfl) rfl slr9
 ·refine ex9 (qc (cS (cr (mv rfl (sg rfl (ln (qc (rt ?_))))))))
  exact kq_retT rfl rfl [sing br (.cells [vbr, .int .i64 (q13 : Int)].toArray 84 (0, 0))] [H7] K11 (fr1 f9) f12 ⟨q13, by omega, rfl, H7, out, rfl, o8, by exact ⟨by omega, hi6.2⟩⟩
theorem allIndices_ok (n : Int) (hn : 0 ≤ n ∧ n ≤ 4) : Spec Tryz.prog 105 [.int .i64 n] [] (fun Hq vq => ∃ xq : List Int, OwnL 3 1 Hq noHp IntV vq xq ∧ (xq.length : Int) = n) := by
 refine spec_of Tryz.func105 rfl rfl rfl (fun B => ?_)
 refine cS (cr (sg rfl (ln (qc (cS (cr (kl_bsI [] rfl rfl rfl (by decide) (fun v1 H2 f3 o4 => ?_))))))))
 refine sg rfl (ln (qc (cS (cS (cr (sg rfl (ln (qc (bl (kc_loopL (A := Nat × List Int × Value × Hp) (fun zz => (zz.1 ≤ n.toNat) ∧ (zz.2.1.length = zz.1) ∧ OwnL 3 1 zz.2.2.2 noHp IntV zz.2.2.1 zz.2.1 ∧ Fr B zz.2.2.2) (fun zz => n.toNat - zz.1) (fun zz => [zz.2.2.2]) (fun zz => [(4, .int .i64 (zz.1 : Int)), (3, zz.2.2.1)]) (0, ([]), v1, H2) (pk [0, 2] rfl) (pk [4, 3] rfl) rfl ⟨Nat.zero_le _, rfl, o4, f3⟩ ?_))))))))))
 rintro ⟨i, out, v10, H7⟩ hJ11
 obtain ⟨hk5, hi6, o8, f9⟩ : (i ≤ n.toNat) ∧ (out.length = i) ∧ OwnL 3 1 H7 noHp IntV v10 out ∧ Fr B H7 := hJ11
 change KC _ _ (_) [H7] _ ([(4, .int .i64 (i : Int)), (3, v10)] ++ _)
 refine cS (cS (cr (mv rfl (mv rfl (ls9 rfl rfl ?_)))))
 refine ln (qc (ci9 rfl (fun c12 => ?_) (fun c12 => ?_)))
 ·refine sk (qc (cS (bl (cr (mv rfl (mv rfl (bs9 rfl rfl rfl (by decide) (ca rfl ca_nil) (fun v13 H14 f15 r16 s17 => ?_))))))))
  have h18 : Ints H14 v13 [(i : Int)] := litInts (xs := [(i : Int)]) (by simpa using s17)
  refine aL9 (i : Int) rfl rfl o8 ‹_› rfl (oc rfl oc_nil) (by omega) (by decide) (fun v19 H20 o21 f22 => ?_)
  have f23 := f22 B f9 (Nat.le_refl _)
  refine sg rfl (ln (qc (cr (mv rfl (ic9 rfl rfl (by omega) ?_)))))
  refine sg rfl (ln (tk [H20] ?_))
  refine rL ((i + 1), (out ++ [(i : Int)]), v19, H20) (by omega) (⟨by omega, (by simp; omega), o21, f23⟩) (pk [4, 3] rfl) (pk [0, 2] rfl) rfl slr9
 ·refine ex9 (qc (cS (cr (mv rfl (sg rfl (ln (qc (rt ?_))))))))
  exact kq_ret rfl rfl H7 f9 ⟨out, o8, by omega⟩
theorem randomConstraint_ok {br : Nat} {vbr : Value} {Hr : Hp} {bsr : List Int} (pr : Nat) (n : Int) (hn : 1 ≤ n ∧ n ≤ 4) (hp : pr + (100) ≤ 1000000) (hr : Bytes Hr vbr bsr) : SpecT Tryz.prog 103 [.pointer (some ⟨br, 0, none⟩), .int .i64 n] [sing br (.cells [vbr, .int .i64 (pr : Int)].toArray 84 (0, 0))] [Hr] (fun vq L1 Ln Kq => ∃ q : Nat, q ≤ pr + (100) ∧ L1 = [sing br (.cells [vbr, .int .i64 (q : Int)].toArray 84 (0, 0))] ∧ ∃ cq : Con, Ln = [] ∧ ConR Kq vq cq ∧ ConSm 50 cq) := by
 refine specT_of Tryz.func103 rfl rfl rfl (fun B => ?_)
 refine cS (cr (kl_alloc (cs := [.int .i64 (0 : Int), .slice none 0 0, .slice none 0 0, .int .i64 (0 : Int), .slice none 0 0]) rfl (fun b1 hb2 => ?_)))
 refine ln (qc (cS (cr (mv rfl (mv rfl (cT rfl rfl (pick_ok pr n (by omega) hr) (fun v3 L1 Ln K7 h4 f5 f6 => ?_)))))))
 obtain ⟨q8, h9, rfl, rfl, z10, rfl, h11⟩ := h4
 refine nm ?_
 refine ad9 rfl rfl (by omega) ?_
 refine sg rfl (ln (qc (cS (cr (mv rfl (cT rfl rfl (pick_ok q8 (9 : Int) (by omega) hr) (fun v14 L1 Ln K18 h15 f16 f17 => ?_)))))))
 obtain ⟨q19, h20, rfl, rfl, z21, rfl, h22⟩ := h15
 refine nm ?_
 refine ad9 rfl rfl (by omega) ?_
 refine mv rfl (mv rfl (mv rfl (cT rfl rfl (someVars_ok q19 n ((1 : Int) + z10) (by first | assumption | omega) (by first | assumption | omega) (by omega) hr) (fun v25 L1 Ln K29 h26 f27 f28 => ?_))))
 obtain ⟨q30, h31, rfl, H34, z32, rfl, o35, h33⟩ := h26
 have f36 := f27 _ (.head _)
 refine nm ?_
 refine kl_bd rfl (cp rfl (cp (OwnL.cells ‹_›) cp_nil)) rfl ?_
 refine kl_alloc (cs := [.int .i64 (0 : Int), .slice none 0 0, .slice none 0 0, .int .i64 (0 : Int), .slice none 0 0]) rfl (fun b37 hb38 => ?_)
 refine kl_stW (us := [.int .i64 ((1 : Int) + z21), v25, .slice none 0 0, .int .i64 (0 : Int), .slice none 0 0]) rfl rfl rfl rfl (oc rfl (oc (OwnL.oneCell ‹_›) (oc rfl (oc rfl (oc rfl oc_nil))))) rfl ?_
 refine cg [sing b37 (.cells [.int .i64 ((1 : Int) + z21), v25, .slice none 0 0, .int .i64 (0 : Int), .slice none 0 0].toArray 88 (0, 0)), sing br (.cells [vbr, .int .i64 (q30 : Int)].toArray 84 (0, 0)), H34, sing b1 (.cells [.int .i64 (0 : Int), .slice none 0 0, .slice none 0 0, .int .i64 (0 : Int), .slice none 0 0].toArray 88 (0, 0))] rfl ?_
 refine ln (qc (cS (cS (cr (mv rfl (ls9 rfl rfl ?_))))))
 refine mv rfl (jn 9 33 (.bool (decide (n < (2 : Int)) && (decide (((1 : Int) + z21) = (2 : Int)) || decide (((1 : Int) + z21) = (4 : Int))))) (pk [0, 1, 4, 5, 6, 24] rfl) (fun J42 => ?_) ?_)
 ·rcases Bool.eq_false_or_eq_true (decide (n < (2 : Int))) with g39 | g39
  ·have g39p := of_decide_eq_true g39
   refine gT rfl rfl g39 (fV rfl (gT rfl rfl g39 (lB rfl rfl (gT rfl rfl g39 (eq9 rfl rfl ?_)))))
   refine gT rfl rfl g39 (mv rfl (jn 4 32 (.bool (decide (((1 : Int) + z21) = (2 : Int)) || decide (((1 : Int) + z21) = (4 : Int)))) (pk [0, 1, 4, 5, 6, 24, 28] rfl) (fun J41 => ?_) ?_))
   ·rcases Bool.eq_false_or_eq_true (decide (((1 : Int) + z21) = (2 : Int))) with g40 | g40
    ·refine gF rfl rfl g40 (gF rfl rfl g40 (gF rfl rfl g40 (gT rfl rfl g39 (oT (decide (((1 : Int) + z21) = (4 : Int))) rfl rfl g40 ?_))))
     exact J41 _ (pk [32, 0, 1, 4, 5, 6, 24, 28] rfl)
    ·have g40p := of_decide_eq_false g40
     refine gT rfl rfl g40 (fV rfl (gT rfl rfl g40 (lB rfl rfl (gT rfl rfl g40 (eq9 rfl rfl ?_)))))
     refine gT rfl rfl g39 (oF rfl rfl g40 ?_)
     exact J41 _ (pk [32, 0, 1, 4, 5, 6, 24, 28] rfl)
   refine aT rfl rfl g39 ?_
   exact J42 _ (pk [33, 0, 1, 4, 5, 6, 24] rfl)
  ·refine gF rfl rfl g39 (gF rfl rfl g39 (gF rfl rfl g39 (gF rfl rfl g39 (kl_gU rfl rfl (kl_gU rfl rfl (kl_gU rfl rfl (gF rfl rfl g39 (aF (decide (((1 : Int) + z21) = (2 : Int)) || decide (((1 : Int) + z21) = (4 : Int))) rfl rfl g39 ?_))))))))
   exact J42 _ (pk [33, 0, 1, 4, 5, 6, 24] rfl)
 refine ln (qc (cd9 rfl (fun c43 => ?_) (fun c43 => ?_)))
 ·have c43r := c43
  try simp only [smpE] at c43
  refine cr (fV rfl (sB rfl rfl rfl rfl rfl ?_))
  refine cg [sing b37 (.cells [.int .i64 (5 : Int), v25, .slice none 0 0, .int .i64 (0 : Int), .slice none 0 0].toArray 88 (0, 0)), sing br (.cells [vbr, .int .i64 (q30 : Int)].toArray 84 (0, 0)), H34, sing b1 (.cells [.int .i64 (0 : Int), .slice none 0 0, .slice none 0 0, .int .i64 (0 : Int), .slice none 0 0].toArray 88 (0, 0))] rfl ?_
  refine ln (qc (cS (cr (fV rfl (lB rfl rfl (lL rfl o35 (fun l44 => ?_)))))))
  refine sg rfl (ln (qc (cS (cS (cr (fV rfl (lB rfl rfl (ln (qc (bl (cS (cr ?_))))))))))))
  refine eq9 rfl rfl ?_
  refine sg rfl (ln (qc (ci9 rfl (fun c45 => ?_) (fun c45 => ?_))))
  ·refine cS (cS (cr (sg rfl (ln (qc (bl (kc_no ?_)))))))
   refine kc_loopL (A := Nat × List Int × Value × Hp × Nat) (fun zz => (zz.1 ≤ z32.length) ∧ (zz.2.1.length = zz.1) ∧ OwnL 3 1 zz.2.2.2.1 noHp IntV zz.2.2.1 zz.2.1 ∧ Fr B zz.2.2.2.1 ∧ zz.2.2.2.2 ≤ q30 + zz.1) (fun zz => z32.length - zz.1) (fun zz => [zz.2.2.2.1, sing b37 (.cells [.int .i64 (5 : Int), v25, zz.2.2.1, .int .i64 (0 : Int), .slice none 0 0].toArray 88 (0, 0)), sing br (.cells [vbr, .int .i64 (zz.2.2.2.2 : Int)].toArray 84 (0, 0)), H34, sing b1 (.cells [.int .i64 (0 : Int), .slice none 0 0, .slice none 0 0, .int .i64 (0 : Int), .slice none 0 0].toArray 88 (0, 0))]) (fun zz => [(7, .int .i64 (zz.1 : Int))]) (0, [], .slice none 0 0, noHp, q30) (pk [0, 4, 5, 6] rfl) (pc 7 rfl pn) rfl ⟨Nat.zero_le _, rfl, OwnL.nil, (fr_no _), (by first | omega | (dsimp only; omega))⟩ ?_
   rintro ⟨i, out, v51, H48, q53⟩ hJ55
   obtain ⟨hk46, hi47, o49, f50, hq54⟩ : (i ≤ z32.length) ∧ (out.length = i) ∧ OwnL 3 1 H48 noHp IntV v51 out ∧ Fr B H48 ∧ q53 ≤ q30 + i := hJ55
   change KC _ _ (_) [H48, sing b37 (.cells [.int .i64 (5 : Int), v25, v51, .int .i64 (0 : Int), .slice none 0 0].toArray 88 (0, 0)), sing br (.cells [vbr, .int .i64 (q53 : Int)].toArray 84 (0, 0)), H34, sing b1 (.cells [.int .i64 (0 : Int), .slice none 0 0, .slice none 0 0, .int .i64 (0 : Int), .slice none 0 0].toArray 88 (0, 0))] _ ([(7, .int .i64 (i : Int))] ++ _)
   refine cS (cS (cr (mv rfl (mv rfl (ls9 rfl rfl ?_)))))
   refine ln (qc (ci9 rfl (fun c56 => ?_) (fun c56 => ?_)))
   ·refine sk (qc (cS (bl (kc_tree (fun i => ([6, 8] : List Nat).contains i) [sing b37 (.cells [.int .i64 (5 : Int), v25, v51, .int .i64 (0 : Int), .slice none 0 0].toArray 88 (0, 0))] (by kernel_rfl) ?_))))
    refine kt_q 0 (.cons _ (.cons_cons _ nsl)) rfl (by kernel_rfl) (fV rfl (ln (qq (kt_q 1 (.cons _ (.cons_cons _ nsl)) rfl (by kernel_rfl) (ld rfl (at_box (T := 88) (cs := [.int .i64 (5 : Int), v25, v51, .int .i64 (0 : Int), .slice none 0 0]) (off := 2) (fz := (0, 0))) (ln (qq (kt_q 2 (.cons _ (.cons_cons _ nsl)) rfl (by kernel_rfl) ?_))))))))
    refine mv rfl (ln (qq (ta 3 rfl (bs9 rfl rfl rfl (by decide) (ca rfl (ca rfl (ca rfl (ca rfl (ca rfl (ca rfl ca_nil)))))) (fun v57 H58 f59 r60 s61 => ?_)))))
    have h62 : Ints H58 v57 [(1 : Int), (1 : Int), (-1 : Int), (2 : Int), (-3 : Int), (0 : Int)] := litInts (xs := [(1 : Int), (1 : Int), (-1 : Int), (2 : Int), (-3 : Int), (0 : Int)]) (by simpa using s61)
    refine ln (qa (.cons _ (.cons_cons _ nsl)) (ta 4 rfl (cT rfl rfl (one_ok q53 ([(1 : Int), (1 : Int), (-1 : Int), (2 : Int), (-3 : Int), (0 : Int)]) (by first | (simp; done) | omega) (by omega) hr ‹_›) (fun v63 L1 Ln K67 h64 f65 f66 => ?_))))
    obtain ⟨q68, h69, rfl, rfl, z70, rfl, h71⟩ := h64
    refine nm ?_
    refine ln (qa (.cons _ (.cons _ (.cons_cons _ nsl))) (ta 5 rfl (bs9 rfl rfl rfl (by decide) (ca rfl ca_nil) (fun v74 H75 f76 r77 s78 => ?_))))
    have h79 : Ints H75 v74 [z70] := litInts (xs := [z70]) (by simpa using s78)
    refine ln (qa (.cons _ (.cons _ (.cons_cons _ nsl))) (ta 6 rfl (aL9 z70 rfl rfl o49 ‹_› rfl (oc rfl oc_nil) (by omega) (by decide) (fun v80 H81 o82 f83 => ?_))))
    have f84 := f83 B f50 (Nat.le_refl _)
    refine ln (qx rfl (kt_q 7 (.cons _ (.cons _ (.cons_cons _ nsl))) rfl (by kernel_rfl) (fV rfl (ln (qq (ta 8 rfl (sB rfl rfl rfl (OwnL.oneCell ‹_›) (OwnL.cells ‹_›) ?_)))))))
    refine cg [sing br (.cells [vbr, .int .i64 (q68 : Int)].toArray 84 (0, 0)), H81, sing b37 (.cells [.int .i64 (5 : Int), v25, v80, .int .i64 (0 : Int), .slice none 0 0].toArray 88 (0, 0)), H34, sing b1 (.cells [.int .i64 (0 : Int), .slice none 0 0, .slice none 0 0, .int .i64 (0 : Int), .slice none 0 0].toArray 88 (0, 0))] rfl ?_
    refine ln (qx rfl (kt_end (by kernel_rfl) ?_))
    refine qc (cr (mv rfl (ic9 rfl rfl (by omega) ?_)))
    refine sg rfl (ln (tk [H81, sing b37 (.cells [.int .i64 (5 : Int), v25, v80, .int .i64 (0 : Int), .slice none 0 0].toArray 88 (0, 0)), sing br (.cells [vbr, .int .i64 (q68 : Int)].toArray 84 (0, 0)), H34, sing b1 (.cells [.int .i64 (0 : Int), .slice none 0 0, .slice none 0 0, .int .i64 (0 : Int), .slice none 0 0].toArray 88 (0, 0))] ?_))
    refine rL ((i + 1), (out ++ [z70]), v80, H81, q68) (by omega) (⟨by omega, (by simp; omega), o82, f84, (by first | omega | (dsimp only; omega))⟩) (pc 7 rfl pn) (pk [0, 4, 5, 6] rfl) rfl slr9
   ·refine ex9 (qc (cr (mv rfl (cT rfl rfl (pick_ok q53 (14 : Int) (by omega) hr) (fun v85 L1 Ln K89 h86 f87 f88 => ?_)))))
    obtain ⟨q90, h91, rfl, rfl, z92, rfl, h93⟩ := h86
    refine nm ?_
    refine sb9 rfl rfl (by omega) ?_
    refine fV rfl (sB rfl rfl rfl rfl rfl ?_)
    refine cg [sing br (.cells [vbr, .int .i64 (q90 : Int)].toArray 84 (0, 0)), H48, sing b37 (.cells [.int .i64 (5 : Int), v25, v51, .int .i64 (z92 - (4 : Int)), .slice none 0 0].toArray 88 (0, 0)), H34, sing b1 (.cells [.int .i64 (0 : Int), .slice none 0 0, .slice none 0 0, .int .i64 (0 : Int), .slice none 0 0].toArray 88 (0, 0))] rfl ?_
    refine ln (qc (cS (cr (kl_ldW rfl rfl (kl_stW (us := [.int .i64 (5 : Int), v25, v51, .int .i64 (z92 - (4 : Int)), .slice none 0 0]) rfl rfl rfl rfl (oc rfl (oc (OwnL.oneCell ‹_›) (oc (OwnL.oneCell ‹_›) (oc rfl (oc rfl oc_nil))))) rfl ?_)))))
    refine cg [sing br (.cells [vbr, .int .i64 (q90 : Int)].toArray 84 (0, 0)), H48, sing b37 (.cells [.int .i64 (5 : Int), v25, v51, .int .i64 (z92 - (4 : Int)), .slice none 0 0].toArray 88 (0, 0)), H34, sing b1 (.cells [.int .i64 (5 : Int), v25, v51, .int .i64 (z92 - (4 : Int)), .slice none 0 0].toArray 88 (0, 0))] rfl ?_
    refine ln (qc (rt (kq_frz H34 ?_)))
    refine kq_frz H48 ?_
    refine kq_cmp H48 noHp (fun c96 => ?_)
    refine kq_cmp H34 (orHp H48 noHp) (fun c97 => ?_)
    exact rC rfl rfl rfl [sing br (.cells [vbr, .int .i64 (q90 : Int)].toArray 84 (0, 0))] [] (orHp H34 (orHp H48 noHp)) frn (fr_or f36 (fr_or f50 (fr_no _))) ⟨q90, by omega, rfl, ⟨(5 : Int), z32, out, (z92 - (4 : Int)), []⟩, rfl, ⟨_, rfl, _, _, _, rfl, (Sl.mono (OwnL.ints o35) (fun b o h => orL b o h) (fun _ _ h => h)), (Sl.mono (OwnL.ints o49) (fun b o h => orC c97 b o (orL b o h)) (fun _ _ h => h)), (Sl.mono Sl.nil (fun b o h => orC c97 b o (orC c96 b o h)) (fun _ _ h => h))⟩, by (constructor <;> dsimp only <;> first | omega | exact all_nil | assumption | (simp; done) | (simp; omega) | (simp only [List.length_cons, List.length_nil]; omega))⟩
  ·refine cS (cr (eq9 rfl rfl ?_))
   refine sg rfl (ln (qc (ci9 rfl (fun c98 => ?_) (fun c98 => ?_))))
   ·refine cS (cr (mv rfl (mv rfl (cT rfl rfl (someVars_ok q30 n (2 : Int) (by first | assumption | omega) (by first | assumption | omega) (by omega) hr) (fun v99 L1 Ln K103 h100 f101 f102 => ?_)))))
    obtain ⟨q104, h105, rfl, H108, z106, rfl, o109, h107⟩ := h100
    have f110 := f101 _ (.head _)
    refine nm ?_
    refine fV rfl (sB rfl rfl rfl (OwnL.oneCell ‹_›) (OwnL.cells ‹_›) ?_)
    refine cg [sing br (.cells [vbr, .int .i64 (q104 : Int)].toArray 84 (0, 0)), H108, sing b37 (.cells [.int .i64 (5 : Int), v99, .slice none 0 0, .int .i64 (0 : Int), .slice none 0 0].toArray 88 (0, 0)), H34, sing b1 (.cells [.int .i64 (0 : Int), .slice none 0 0, .slice none 0 0, .int .i64 (0 : Int), .slice none 0 0].toArray 88 (0, 0))] rfl ?_
    refine ln (qc (cr (mv rfl (cT rfl rfl (pick_ok q104 (5 : Int) (by omega) hr) (fun v111 L1 Ln K115 h112 f113 f114 => ?_)))))
    obtain ⟨q116, h117, rfl, rfl, z118, rfl, h119⟩ := h112
    refine nm ?_
    refine sb9 rfl rfl (by omega) ?_
    refine bs9 rfl rfl rfl (by decide) (ca rfl ca_nil) (fun v122 H123 f124 r125 s126 => ?_)
    have h127 : Ints H123 v122 [(z118 - (2 : Int))] := litInts (xs := [(z118 - (2 : Int))]) (by simpa using s126)
    refine fV rfl (sB rfl rfl rfl (Sl.oneCell ‹_›) (Sl.cells ‹_›) ?_)
    refine cg [sing br (.cells [vbr, .int .i64 (q116 : Int)].toArray 84 (0, 0)), H108, sing b37 (.cells [.int .i64 (5 : Int), v99, v122, .int .i64 (0 : Int), .slice none 0 0].toArray 88 (0, 0)), H34, sing b1 (.cells [.int .i64 (0 : Int), .slice none 0 0, .slice none 0 0, .int .i64 (0 : Int), .slice none 0 0].toArray 88 (0, 0))] rfl ?_
    refine ln (qc (cS (cr (kl_ldW rfl rfl (kl_stW (us := [.int .i64 (5 : Int), v99, v122, .int .i64 (0 : Int), .slice none 0 0]) rfl rfl rfl rfl (oc rfl (oc (OwnL.oneCell ‹_›) (oc (Sl.oneCell ‹_›) (oc rfl (oc rfl oc_nil))))) rfl ?_)))))
    refine cg [sing br (.cells [vbr, .int .i64 (q116 : Int)].toArray 84 (0, 0)), H108, sing b37 (.cells [.int .i64 (5 : Int), v99, v122, .int .i64 (0 : Int), .slice none 0 0].toArray 88 (0, 0)), H34, sing b1 (.cells [.int .i64 (5 : Int), v99, v122, .int .i64 (0 : Int), .slice none 0 0].toArray 88 (0, 0))] rfl ?_
    refine ln (qc (rt (kq_frz H108 ?_)))
    refine kq_cmp H123 noHp (fun c128 => ?_)
    refine kq_cmp H108 (orHp H123 noHp) (fun c129 => ?_)
    exact rC rfl rfl rfl [sing br (.cells [vbr, .int .i64 (q116 : Int)].toArray 84 (0, 0))] [] (orHp H108 (orHp H123 noHp)) frn (fr_or f110 (fr_or f124 (fr_no _))) ⟨q116, by omega, rfl, ⟨(5 : Int), z106, ([(z118 - (2 : Int))]), (0 : Int), []⟩, rfl, ⟨_, rfl, _, _, _, rfl, (Sl.mono (OwnL.ints o109) (fun b o h => orL b o h) (fun _ _ h => h)), (Sl.mono ‹_› (fun b o h => orC c129 b o (orL b o h)) (fun _ _ h => h)), (Sl.mono Sl.nil (fun b o h => orC c129 b o (orC c128 b o h)) (fun _ _ h => h))⟩, by (constructor <;> dsimp only <;> first | omega | exact all_nil | assumption | (simp; done) | (simp; omega) | (simp only [List.length_cons, List.length_nil]; omega))⟩
   ·refine cS (cr (eq9 rfl rfl ?_))
    refine sg rfl (ln (qc (ci9 rfl (fun c130 => ?_) (fun c130 => ?_))))
    ·refine cS (cr (mv rfl (mv rfl (cT rfl rfl (someVars_ok q30 n (2 : Int) (by first | assumption | omega) (by first | assumption | omega) (by omega) hr) (fun v131 L1 Ln K135 h132 f133 f134 => ?_)))))
     obtain ⟨q136, h137, rfl, H140, z138, rfl, o141, h139⟩ := h132
     have f142 := f133 _ (.head _)
     refine nm ?_
     refine fV rfl (sB rfl rfl rfl (OwnL.oneCell ‹_›) (OwnL.cells ‹_›) ?_)
     refine cg [sing br (.cells [vbr, .int .i64 (q136 : Int)].toArray 84 (0, 0)), H140, sing b37 (.cells [.int .i64 (5 : Int), v131, .slice none 0 0, .int .i64 (0 : Int), .slice none 0 0].toArray 88 (0, 0)), H34, sing b1 (.cells [.int .i64 (0 : Int), .slice none 0 0, .slice none 0 0, .int .i64 (0 : Int), .slice none 0 0].toArray 88 (0, 0))] rfl ?_
     refine ln (qc (cr (mv rfl (mv rfl (cT rfl rfl (pick_ok q136 (6 : Int) (by omega) hr) (fun v143 L1 Ln K147 h144 f145 f146 => ?_))))))
     obtain ⟨q148, h149, rfl, rfl, z150, rfl, h151⟩ := h144
     refine nm ?_
     refine ad9 rfl rfl (by omega) ?_
     refine cT rfl rfl (randomRow_ok q148 ((1 : Int) + z150) (by first | assumption | omega) (by omega) hr) (fun v154 L1 Ln K158 h155 f156 f157 => ?_)
     obtain ⟨q159, h160, rfl, H163, z161, rfl, o164, h162⟩ := h155
     have f165 := f156 _ (.head _)
     refine nm ?_
     refine fV rfl (sB rfl rfl rfl (OwnL.oneCell ‹_›) (OwnL.cells ‹_›) ?_)
     refine cg [sing br (.cells [vbr, .int .i64 (q159 : Int)].toArray 84 (0, 0)), H163, H140, sing b37 (.cells [.int .i64 (5 : Int), v131, v154, .int .i64 (0 : Int), .slice none 0 0].toArray 88 (0, 0)), H34, sing b1 (.cells [.int .i64 (0 : Int), .slice none 0 0, .slice none 0 0, .int .i64 (0 : Int), .slice none 0 0].toArray 88 (0, 0))] rfl ?_
     refine ln (qc (cS (cr (kl_ldW rfl rfl (kl_stW (us := [.int .i64 (5 : Int), v131, v154, .int .i64 (0 : Int), .slice none 0 0]) rfl rfl rfl rfl (oc rfl (oc (OwnL.oneCell ‹_›) (oc (OwnL.oneCell ‹_›) (oc rfl (oc rfl oc_nil))))) rfl ?_)))))
     refine cg [sing br (.cells [vbr, .int .i64 (q159 : Int)].toArray 84 (0, 0)), H163, H140, sing b37 (.cells [.int .i64 (5 : Int), v131, v154, .int .i64 (0 : Int), .slice none 0 0].toArray 88 (0, 0)), H34, sing b1 (.cells [.int .i64 (5 : Int), v131, v154, .int .i64 (0 : Int), .slice none 0 0].toArray 88 (0, 0))] rfl ?_
     refine ln (qc (rt (kq_frz H140 ?_)))
     refine kq_frz H163 ?_
     refine kq_cmp H163 noHp (fun c166 => ?_)
     refine kq_cmp H140 (orHp H163 noHp) (fun c167 => ?_)
     exact rC rfl rfl rfl [sing br (.cells [vbr, .int .i64 (q159 : Int)].toArray 84 (0, 0))] [] (orHp H140 (orHp H163 noHp)) frn (fr_or f142 (fr_or f165 (fr_no _))) ⟨q159, by omega, rfl, ⟨(5 : Int), z138, z161, (0 : Int), []⟩, rfl, ⟨_, rfl, _, _, _, rfl, (Sl.mono (OwnL.ints o141) (fun b o h => orL b o h) (fun _ _ h => h)), (Sl.mono (OwnL.ints o164) (fun b o h => orC c167 b o (orL b o h)) (fun _ _ h => h)), (Sl.mono Sl.nil (fun b o h => orC c167 b o (orC c166 b o h)) (fun _ _ h => h))⟩, by (constructor <;> dsimp only <;> first | omega | exact all_nil | assumption | (simp; done) | (simp; omega) | (simp only [List.length_cons, List.length_nil]; omega))⟩
    ·refine cS (cr (eq9 rfl rfl ?_))
     refine sg rfl (ln (qc (ci9 rfl (fun c168 => ?_) (fun c168 => ?_))))
     ·refine cS (cr (mv rfl (cT rfl rfl (pick_ok q30 (6 : Int) (by omega) hr) (fun v169 L1 Ln K173 h170 f171 f172 => ?_))))
      obtain ⟨q174, h175, rfl, rfl, z176, rfl, h177⟩ := h170
      refine nm ?_
      refine ad9 rfl rfl (by omega) ?_
      refine sg rfl (ln (qc (bl (kc_no ?_))))
      refine kc_loopK (A := Int × List (List Int) × Value × Hp × Hp × Nat) (fun zz => (0 ≤ zz.1 ∧ zz.1 ≤ 6 ∧ zz.2.1.length + zz.1.toNat ≤ 6 ∧ ∀ r ∈ zz.2.1, r.length ≤ 12) ∧ Fr B zz.2.2.2.2.1 ∧ OwnL 23 1 zz.2.2.2.1 zz.2.2.2.2.1 RowV zz.2.2.1 zz.2.1 ∧ Fr B zz.2.2.2.1 ∧ zz.2.2.2.2.2 ≤ q174 + 12 * (6 - zz.1).toNat) (fun zz => zz.1.toNat) (fun zz => zz.2.2.2.2.1) (fun zz => [zz.2.2.2.1, sing br (.cells [vbr, .int .i64 (zz.2.2.2.2.2 : Int)].toArray 84 (0, 0)), sing b37 (.cells [.int .i64 (5 : Int), v25, .slice none 0 0, .int .i64 (0 : Int), zz.2.2.1].toArray 88 (0, 0)), H34, sing b1 (.cells [.int .i64 (0 : Int), .slice none 0 0, .slice none 0 0, .int .i64 (0 : Int), .slice none 0 0].toArray 88 (0, 0))]) (fun zz => [(8, .int .i64 zz.1)]) (((1 : Int) + z176), [], .slice none 0 0, noHp, noHp, q174) (pk [0, 4, 5, 6] rfl) (pc 8 rfl pn) rfl ⟨⟨by dsimp only; omega, by dsimp only; omega, by dsimp only; simp; omega, all_nil⟩, (fr_no _), OwnL.nil, (fr_no _), (by first | omega | (dsimp only; omega))⟩ ?_
      rintro ⟨i, out, v185, H182, K186, q189⟩ hJ191
      obtain ⟨hi181, f187, o183, f184, hq190⟩ : (0 ≤ i ∧ i ≤ 6 ∧ out.length + i.toNat ≤ 6 ∧ ∀ r ∈ out, r.length ≤ 12) ∧ Fr B K186 ∧ OwnL 23 1 H182 K186 RowV v185 out ∧ Fr B H182 ∧ q189 ≤ q174 + 12 * (6 - i).toNat := hJ191
      change KC _ _ (K186 :: _) [H182, sing br (.cells [vbr, .int .i64 (q189 : Int)].toArray 84 (0, 0)), sing b37 (.cells [.int .i64 (5 : Int), v25, .slice none 0 0, .int .i64 (0 : Int), v185].toArray 88 (0, 0)), H34, sing b1 (.cells [.int .i64 (0 : Int), .slice none 0 0, .slice none 0 0, .int .i64 (0 : Int), .slice none 0 0].toArray 88 (0, 0))] _ ([(8, .int .i64 i)] ++ _)
      have hall := hi181.2.2.2
      refine cS (cS (cr (mv rfl (kl_gtr rfl rfl ?_))))
      refine ln (qc (ci9 rfl (fun c192 => ?_) (fun c192 => ?_)))
      ·refine sk (qc (cS (bl (kc_tree (fun i => ([6, 8] : List Nat).contains i) [sing b37 (.cells [.int .i64 (5 : Int), v25, .slice none 0 0, .int .i64 (0 : Int), v185].toArray 88 (0, 0))] (by kernel_rfl) ?_))))
       refine kt_q 0 (.cons _ (.cons _ (.cons_cons _ nsl))) rfl (by kernel_rfl) (fV rfl (ln (qq (kt_q 1 (.cons _ (.cons _ (.cons_cons _ nsl))) rfl (by kernel_rfl) (ld rfl (at_box (T := 88) (cs := [.int .i64 (5 : Int), v25, .slice none 0 0, .int .i64 (0 : Int), v185]) (off := 4) (fz := (0, 0))) (ln (qq (kt_q 2 (.cons _ (.cons _ (.cons_cons _ nsl))) rfl (by kernel_rfl) ?_))))))))
       refine mv rfl (ln (qq (kt_q 3 (.cons _ (.cons _ (.cons_cons _ nsl))) rfl (by kernel_rfl) (mv rfl (ln (qq (ta 4 rfl (cT rfl rfl (randomRow_ok q189 (z32.length : Int) (by first | assumption | omega) (by omega) hr) (fun v193 L1 Ln K197 h194 f195 f196 => ?_)))))))))
       obtain ⟨q198, h199, rfl, H202, z200, rfl, o203, h201⟩ := h194
       have f204 := f195 _ (.head _)
       refine nm ?_
       refine ln (qa (.cons _ (.cons _ (.cons _ (.cons_cons _ nsl)))) (ta 5 rfl (bs9 rfl rfl rfl (by decide) (ca (by first | exact Sl.cells ‹_› | exact OwnL.cells ‹_›) ca_nil) (fun v205 H206 f207 r208 s209 => ?_))))
       refine ln (qa (.cons _ (.cons _ (.cons _ (.cons_cons _ nsl)))) (kt_frz H202 ?_))
       have h210 := OwnL.ints o203
       refine ta 6 rfl (cm9 K186 H202 (fun c211 => ?_))
       have o212 := OwnL.mono (K' := orHp K186 H202) o183 orL
       refine aL9 z200 rfl rfl o212 ‹_› ⟨_, rfl, Sl.mono ‹_› (orC c211) (fun _ _ h => h)⟩ (oc (Sl.oneCell ‹_›) oc_nil) (by omega) (by decide) (fun v213 H214 o215 f216 => ?_)
       have f217 := f216 B f184 (Nat.le_refl _)
       refine ln (qx rfl (kt_q 7 (.cons _ (.cons _ (.cons_cons _ nsl))) rfl (by kernel_rfl) (fV rfl (ln (qq (ta 8 rfl (sB rfl rfl rfl (OwnL.oneCell ‹_›) (OwnL.cells ‹_›) ?_)))))))
       refine cg [sing br (.cells [vbr, .int .i64 (q198 : Int)].toArray 84 (0, 0)), H214, sing b37 (.cells [.int .i64 (5 : Int), v25, .slice none 0 0, .int .i64 (0 : Int), v213].toArray 88 (0, 0)), H34, sing b1 (.cells [.int .i64 (0 : Int), .slice none 0 0, .slice none 0 0, .int .i64 (0 : Int), .slice none 0 0].toArray 88 (0, 0))] rfl ?_
       refine ln (qx rfl (kt_end (by kernel_rfl) ?_))
       refine qc (cr (mv rfl (sb9 rfl rfl (by omega) ?_)))
       refine sg rfl (ln (tk [H214, sing br (.cells [vbr, .int .i64 (q198 : Int)].toArray 84 (0, 0)), sing b37 (.cells [.int .i64 (5 : Int), v25, .slice none 0 0, .int .i64 (0 : Int), v213].toArray 88 (0, 0)), H34, sing b1 (.cells [.int .i64 (0 : Int), .slice none 0 0, .slice none 0 0, .int .i64 (0 : Int), .slice none 0 0].toArray 88 (0, 0))] ?_))
       refine kq_roundK ((i - (1 : Int)), (out ++ [z200]), v213, H214, (orHp K186 H202), q198) (by (dsimp only; omega)) (⟨⟨by dsimp only; omega, by dsimp only; omega, by simp; omega, all_snoc hi181.2.2.2 (by omega)⟩, (fr_or f187 f204), o215, f217, (by first | omega | (dsimp only; omega))⟩) (pc 8 rfl pn) (pk [0, 4, 5, 6] rfl) rfl slr9
      ·refine ex9 (qc (cS (cr (kl_ldW rfl rfl (kl_stW (us := [.int .i64 (5 : Int), v25, .slice none 0 0, .int .i64 (0 : Int), v185]) rfl rfl rfl rfl (oc rfl (oc (OwnL.oneCell ‹_›) (oc rfl (oc rfl (oc (OwnL.oneCell ‹_›) oc_nil))))) rfl ?_)))))
       refine cg [H182, sing br (.cells [vbr, .int .i64 (q189 : Int)].toArray 84 (0, 0)), sing b37 (.cells [.int .i64 (5 : Int), v25, .slice none 0 0, .int .i64 (0 : Int), v185].toArray 88 (0, 0)), H34, sing b1 (.cells [.int .i64 (5 : Int), v25, .slice none 0 0, .int .i64 (0 : Int), v185].toArray 88 (0, 0))] rfl ?_
       refine ln (qc (rt (kq_frz H34 ?_)))
       refine kq_frz H182 ?_
       refine kq_cmp H182 K186 (fun c218 => ?_)
       refine kq_cmp noHp (orHp H182 K186) (fun c219 => ?_)
       refine kq_cmp H34 (orHp noHp (orHp H182 K186)) (fun c220 => ?_)
       exact rC rfl rfl rfl [sing br (.cells [vbr, .int .i64 (q189 : Int)].toArray 84 (0, 0))] [] (orHp H34 (orHp noHp (orHp H182 K186))) frn (fr_or f36 (fr_or (fr_no _) (fr_or f184 f187))) ⟨q189, by omega, rfl, ⟨(5 : Int), z32, [], (0 : Int), out⟩, rfl, ⟨_, rfl, _, _, _, rfl, (Sl.mono (OwnL.ints o35) (fun b o h => orL b o h) (fun _ _ h => h)), (Sl.mono Sl.nil (fun b o h => orC c220 b o (orL b o h)) (fun _ _ h => h)), (Rows.mono' (OwnL.rowsK o183 c218) (fun b o h => orC c220 b o (orC c219 b o h)))⟩, by (constructor <;> dsimp only <;> first | omega | exact all_nil | assumption | (simp; done) | (simp; omega) | (simp only [List.length_cons, List.length_nil]; omega))⟩
     ·refine cS (cr (eq9 rfl rfl ?_))
      refine sg rfl (ln (qc (ci9 rfl (fun c221 => ?_) (fun c221 => ?_))))
      ·refine cS (cr (mv rfl (cT rfl rfl (pick_ok q30 (6 : Int) (by omega) hr) (fun v222 L1 Ln K226 h223 f224 f225 => ?_))))
       obtain ⟨q227, h228, rfl, rfl, z229, rfl, h230⟩ := h223
       refine nm ?_
       refine bs9 rfl rfl rfl (by decide) (ca rfl ca_nil) (fun v233 H234 f235 r236 s237 => ?_)
       have h238 : Ints H234 v233 [z229] := litInts (xs := [z229]) (by simpa using s237)
       refine fV rfl (sB rfl rfl rfl (Sl.oneCell ‹_›) (Sl.cells ‹_›) ?_)
       refine cg [sing br (.cells [vbr, .int .i64 (q227 : Int)].toArray 84 (0, 0)), sing b37 (.cells [.int .i64 (5 : Int), v25, v233, .int .i64 (0 : Int), .slice none 0 0].toArray 88 (0, 0)), H34, sing b1 (.cells [.int .i64 (0 : Int), .slice none 0 0, .slice none 0 0, .int .i64 (0 : Int), .slice none 0 0].toArray 88 (0, 0))] rfl ?_
       refine ln (qc (cr (mv rfl (cT rfl rfl (pick_ok q227 (4 : Int) (by omega) hr) (fun v239 L1 Ln K243 h240 f241 f242 => ?_)))))
       obtain ⟨q244, h245, rfl, rfl, z246, rfl, h247⟩ := h240
       refine nm ?_
       refine fV rfl (sB rfl rfl rfl rfl rfl ?_)
       refine cg [sing br (.cells [vbr, .int .i64 (q244 : Int)].toArray 84 (0, 0)), sing b37 (.cells [.int .i64 (5 : Int), v25, v233, .int .i64 z246, .slice none 0 0].toArray 88 (0, 0)), H34, sing b1 (.cells [.int .i64 (0 : Int), .slice none 0 0, .slice none 0 0, .int .i64 (0 : Int), .slice none 0 0].toArray 88 (0, 0))] rfl ?_
       refine ln (qc (cS (cr (kl_ldW rfl rfl (kl_stW (us := [.int .i64 (5 : Int), v25, v233, .int .i64 z246, .slice none 0 0]) rfl rfl rfl rfl (oc rfl (oc (OwnL.oneCell ‹_›) (oc (Sl.oneCell ‹_›) (oc rfl (oc rfl oc_nil))))) rfl ?_)))))
       refine cg [sing br (.cells [vbr, .int .i64 (q244 : Int)].toArray 84 (0, 0)), sing b37 (.cells [.int .i64 (5 : Int), v25, v233, .int .i64 z246, .slice none 0 0].toArray 88 (0, 0)), H34, sing b1 (.cells [.int .i64 (5 : Int), v25, v233, .int .i64 z246, .slice none 0 0].toArray 88 (0, 0))] rfl ?_
       refine ln (qc (rt (kq_frz H34 ?_)))
       refine kq_cmp H234 noHp (fun c250 => ?_)
       refine kq_cmp H34 (orHp H234 noHp) (fun c251 => ?_)
       exact rC rfl rfl rfl [sing br (.cells [vbr, .int .i64 (q244 : Int)].toArray 84 (0, 0))] [] (orHp H34 (orHp H234 noHp)) frn (fr_or f36 (fr_or f235 (fr_no _))) ⟨q244, by omega, rfl, ⟨(5 : Int), z32, ([z229]), z246, []⟩, rfl, ⟨_, rfl, _, _, _, rfl, (Sl.mono (OwnL.ints o35) (fun b o h => orL b o h) (fun _ _ h => h)), (Sl.mono ‹_› (fun b o h => orC c251 b o (orL b o h)) (fun _ _ h => h)), (Sl.mono Sl.nil (fun b o h => orC c251 b o (orC c250 b o h)) (fun _ _ h => h))⟩, by (constructor <;> dsimp only <;> first | omega | exact all_nil | assumption | (simp; done) | (simp; omega) | (simp only [List.length_cons, List.length_nil]; omega))⟩
      ·refine cS (cr (eq9 rfl rfl ?_))
       refine sg rfl (ln (qc (ci9 rfl (fun c252 => ?_) (fun c252 => ?_))))
       ·refine cS (cS (cr (sg rfl (ln (qc (bl (kc_no ?_)))))))
        refine kc_loopL (A := Nat × List Int × Value × Hp × Nat) (fun zz => (zz.1 ≤ 8) ∧ (zz.2.1.length = zz.1) ∧ OwnL 3 1 zz.2.2.2.1 noHp IntV zz.2.2.1 zz.2.1 ∧ Fr B zz.2.2.2.1 ∧ zz.2.2.2.2 ≤ q30 + zz.1) (fun zz => 8 - zz.1) (fun zz => [zz.2.2.2.1, sing b37 (.cells [.int .i64 (5 : Int), v25, zz.2.2.1, .int .i64 (0 : Int), .slice none 0 0].toArray 88 (0, 0)), sing br (.cells [vbr, .int .i64 (zz.2.2.2.2 : Int)].toArray 84 (0, 0)), H34, sing b1 (.cells [.int .i64 (0 : Int), .slice none 0 0, .slice none 0 0, .int .i64 (0 : Int), .slice none 0 0].toArray 88 (0, 0))]) (fun zz => [(9, .int .i64 (zz.1 : Int))]) (0, [], .slice none 0 0, noHp, q30) (pk [0, 4, 5, 6] rfl) (pc 9 rfl pn) rfl ⟨Nat.zero_le _, rfl, OwnL.nil, (fr_no _), (by first | omega | (dsimp only; omega))⟩ ?_
        rintro ⟨i, out, v258, H255, q260⟩ hJ262
        obtain ⟨hk253, hi254, o256, f257, hq261⟩ : (i ≤ 8) ∧ (out.length = i) ∧ OwnL 3 1 H255 noHp IntV v258 out ∧ Fr B H255 ∧ q260 ≤ q30 + i := hJ262
        change KC _ _ (_) [H255, sing b37 (.cells [.int .i64 (5 : Int), v25, v258, .int .i64 (0 : Int), .slice none 0 0].toArray 88 (0, 0)), sing br (.cells [vbr, .int .i64 (q260 : Int)].toArray 84 (0, 0)), H34, sing b1 (.cells [.int .i64 (0 : Int), .slice none 0 0, .slice none 0 0, .int .i64 (0 : Int), .slice none 0 0].toArray 88 (0, 0))] _ ([(9, .int .i64 (i : Int))] ++ _)
        refine cS (cS (cr (mv rfl (mv rfl (kl_mul rfl rfl (by omega) ?_)))))
        refine ls9 rfl rfl ?_
        refine ln (qc (ci9 rfl (fun c263 => ?_) (fun c263 => ?_)))
        ·refine sk (qc (cS (bl (kc_tree (fun i => ([5, 7] : List Nat).contains i) [sing b37 (.cells [.int .i64 (5 : Int), v25, v258, .int .i64 (0 : Int), .slice none 0 0].toArray 88 (0, 0))] (by kernel_rfl) ?_))))
         refine kt_q 0 (.cons _ (.cons_cons _ nsl)) rfl (by kernel_rfl) (fV rfl (ln (qq (kt_q 1 (.cons _ (.cons_cons _ nsl)) rfl (by kernel_rfl) (ld rfl (at_box (T := 88) (cs := [.int .i64 (5 : Int), v25, v258, .int .i64 (0 : Int), .slice none 0 0]) (off := 2) (fz := (0, 0))) (ln (qq (kt_q 2 (.cons _ (.cons_cons _ nsl)) rfl (by kernel_rfl) ?_))))))))
         refine mv rfl (ln (qq (ta 3 rfl (cT rfl rfl (pick_ok q260 (4 : Int) (by omega) hr) (fun v264 L1 Ln K268 h265 f266 f267 => ?_)))))
         obtain ⟨q269, h270, rfl, rfl, z271, rfl, h272⟩ := h265
         refine nm ?_
         refine ln (qa (.cons _ (.cons _ (.cons_cons _ nsl))) (ta 4 rfl (bs9 rfl rfl rfl (by decide) (ca rfl ca_nil) (fun v275 H276 f277 r278 s279 => ?_))))
         have h280 : Ints H276 v275 [z271] := litInts (xs := [z271]) (by simpa using s279)
         refine ln (qa (.cons _ (.cons _ (.cons_cons _ nsl))) (ta 5 rfl (aL9 z271 rfl rfl o256 ‹_› rfl (oc rfl oc_nil) (by omega) (by decide) (fun v281 H282 o283 f284 => ?_))))
         have f285 := f284 B f257 (Nat.le_refl _)
         refine ln (qx rfl (kt_q 6 (.cons _ (.cons _ (.cons_cons _ nsl))) rfl (by kernel_rfl) (fV rfl (ln (qq (ta 7 rfl (sB rfl rfl rfl (OwnL.oneCell ‹_›) (OwnL.cells ‹_›) ?_)))))))
         refine cg [sing br (.cells [vbr, .int .i64 (q269 : Int)].toArray 84 (0, 0)), H282, sing b37 (.cells [.int .i64 (5 : Int), v25, v281, .int .i64 (0 : Int), .slice none 0 0].toArray 88 (0, 0)), H34, sing b1 (.cells [.int .i64 (0 : Int), .slice none 0 0, .slice none 0 0, .int .i64 (0 : Int), .slice none 0 0].toArray 88 (0, 0))] rfl ?_
         refine ln (qx rfl (kt_end (by kernel_rfl) ?_))
         refine qc (cr (mv rfl (ic9 rfl rfl (by omega) ?_)))
         refine sg rfl (ln (tk [H282, sing b37 (.cells [.int .i64 (5 : Int), v25, v281, .int .i64 (0 : Int), .slice none 0 0].toArray 88 (0, 0)), sing br (.cells [vbr, .int .i64 (q269 : Int)].toArray 84 (0, 0)), H34, sing b1 (.cells [.int .i64 (0 : Int), .slice none 0 0, .slice none 0 0, .int .i64 (0 : Int), .slice none 0 0].toArray 88 (0, 0))] ?_))
         refine rL ((i + 1), (out ++ [z271]), v281, H282, q269) (by omega) (⟨by omega, (by simp; omega), o283, f285, (by first | omega | (dsimp only; omega))⟩) (pc 9 rfl pn) (pk [0, 4, 5, 6] rfl) rfl slr9
        ·refine ex9 (qc (cr (mv rfl (cT rfl rfl (pick_ok q260 (4 : Int) (by omega) hr) (fun v286 L1 Ln K290 h287 f288 f289 => ?_)))))
         obtain ⟨q291, h292, rfl, rfl, z293, rfl, h294⟩ := h287
         refine nm ?_
         refine ad9 rfl rfl (by omega) ?_
         refine fV rfl (sB rfl rfl rfl rfl rfl ?_)
         refine cg [sing br (.cells [vbr, .int .i64 (q291 : Int)].toArray 84 (0, 0)), H255, sing b37 (.cells [.int .i64 (5 : Int), v25, v258, .int .i64 ((1 : Int) + z293), .slice none 0 0].toArray 88 (0, 0)), H34, sing b1 (.cells [.int .i64 (0 : Int), .slice none 0 0, .slice none 0 0, .int .i64 (0 : Int), .slice none 0 0].toArray 88 (0, 0))] rfl ?_
         refine ln (qc (cS (cr (kl_ldW rfl rfl (kl_stW (us := [.int .i64 (5 : Int), v25, v258, .int .i64 ((1 : Int) + z293), .slice none 0 0]) rfl rfl rfl rfl (oc rfl (oc (OwnL.oneCell ‹_›) (oc (OwnL.oneCell ‹_›) (oc rfl (oc rfl oc_nil))))) rfl ?_)))))
         refine cg [sing br (.cells [vbr, .int .i64 (q291 : Int)].toArray 84 (0, 0)), H255, sing b37 (.cells [.int .i64 (5 : Int), v25, v258, .int .i64 ((1 : Int) + z293), .slice none 0 0].toArray 88 (0, 0)), H34, sing b1 (.cells [.int .i64 (5 : Int), v25, v258, .int .i64 ((1 : Int) + z293), .slice none 0 0].toArray 88 (0, 0))] rfl ?_
         refine ln (qc (rt (kq_frz H34 ?_)))
         refine kq_frz H255 ?_
         refine kq_cmp H255 noHp (fun c297 => ?_)
         refine kq_cmp H34 (orHp H255 noHp) (fun c298 => ?_)
         exact rC rfl rfl rfl [sing br (.cells [vbr, .int .i64 (q291 : Int)].toArray 84 (0, 0))] [] (orHp H34 (orHp H255 noHp)) frn (fr_or f36 (fr_or f257 (fr_no _))) ⟨q291, by omega, rfl, ⟨(5 : Int), z32, out, ((1 : Int) + z293), []⟩, rfl, ⟨_, rfl, _, _, _, rfl, (Sl.mono (OwnL.ints o35) (fun b o h => orL b o h) (fun _ _ h => h)), (Sl.mono (OwnL.ints o256) (fun b o h => orC c298 b o (orL b o h)) (fun _ _ h => h)), (Sl.mono Sl.nil (fun b o h => orC c298 b o (orC c297 b o h)) (fun _ _ h => h))⟩, by (constructor <;> dsimp only <;> first | omega | exact all_nil | assumption | (simp; done) | (simp; omega) | (simp only [List.length_cons, List.length_nil]; omega))⟩
       ·refine cS (cr (eq9 rfl rfl ?_))
        refine sg rfl (ln (qc (ci9 rfl (fun c299 => ?_) (fun c299 => ?_))))
        ·refine cS (cr (mv rfl (mv rfl (cT rfl rfl (pick_ok q30 (3 : Int) (by omega) hr) (fun v300 L1 Ln K304 h301 f302 f303 => ?_)))))
         obtain ⟨q305, h306, rfl, rfl, z307, rfl, h308⟩ := h301
         refine nm ?_
         refine ad9 rfl rfl (by omega) ?_
         refine cT rfl rfl (randomAutomaton_ok q305 ((1 : Int) + z307) (by first | assumption | omega) (by omega) hr) (fun v311 L1 Ln K315 h312 f313 f314 => ?_)
         obtain ⟨q316, h317, rfl, H320, z318, rfl, o321, h319⟩ := h312
         have f322 := f313 _ (.head _)
         have h319a := h319.1
         have h319b := h319.2
         refine nm ?_
         refine fV rfl (sB rfl rfl rfl (OwnL.oneCell ‹_›) (OwnL.cells ‹_›) ?_)
         refine cg [sing br (.cells [vbr, .int .i64 (q316 : Int)].toArray 84 (0, 0)), H320, sing b37 (.cells [.int .i64 (5 : Int), v25, .slice none 0 0, .int .i64 (0 : Int), v311].toArray 88 (0, 0)), H34, sing b1 (.cells [.int .i64 (0 : Int), .slice none 0 0, .slice none 0 0, .int .i64 (0 : Int), .slice none 0 0].toArray 88 (0, 0))] rfl ?_
         refine ln (qc (cr (fV rfl (lB rfl rfl (lL rfl o321 (fun l323 => ?_))))))
         refine sb9 rfl rfl (by omega) ?_
         refine bs9 rfl rfl rfl (by decide) (ca rfl ca_nil) (fun v324 H325 f326 r327 s328 => ?_)
         have h329 : Ints H325 v324 [((z318.length : Int) - (1 : Int))] := litInts (xs := [((z318.length : Int) - (1 : Int))]) (by simpa using s328)
         refine fV rfl (sB rfl rfl rfl (Sl.oneCell ‹_›) (Sl.cells ‹_›) ?_)
         refine cg [sing br (.cells [vbr, .int .i64 (q316 : Int)].toArray 84 (0, 0)), H320, sing b37 (.cells [.int .i64 (5 : Int), v25, v324, .int .i64 (0 : Int), v311].toArray 88 (0, 0)), H34, sing b1 (.cells [.int .i64 (0 : Int), .slice none 0 0, .slice none 0 0, .int .i64 (0 : Int), .slice none 0 0].toArray 88 (0, 0))] rfl ?_
         refine ln (qc (cS (cr (kl_ldW rfl rfl (kl_stW (us := [.int .i64 (5 : Int), v25, v324, .int .i64 (0 : Int), v311]) rfl rfl rfl rfl (oc rfl (oc (OwnL.oneCell ‹_›) (oc (Sl.oneCell ‹_›) (oc rfl (oc (OwnL.oneCell ‹_›) oc_nil))))) rfl ?_)))))
         refine cg [sing br (.cells [vbr, .int .i64 (q316 : Int)].toArray 84 (0, 0)), H320, sing b37 (.cells [.int .i64 (5 : Int), v25, v324, .int .i64 (0 : Int), v311].toArray 88 (0, 0)), H34, sing b1 (.cells [.int .i64 (5 : Int), v25, v324, .int .i64 (0 : Int), v311].toArray 88 (0, 0))] rfl ?_
         refine ln (qc (rt (kq_frz H34 ?_)))
         refine kq_frz H320 ?_
         refine kq_cmp H320 K315 (fun c330 => ?_)
         refine kq_cmp H325 (orHp H320 K315) (fun c331 => ?_)
         refine kq_cmp H34 (orHp H325 (orHp H320 K315)) (fun c332 => ?_)
         exact rC rfl rfl rfl [sing br (.cells [vbr, .int .i64 (q316 : Int)].toArray 84 (0, 0))] [] (orHp H34 (orHp H325 (orHp H320 K315))) frn (fr_or f36 (fr_or f326 (fr_or f322 f314))) ⟨q316, by omega, rfl, ⟨(5 : Int), z32, ([((z318.length : Int) - (1 : Int))]), (0 : Int), z318⟩, rfl, ⟨_, rfl, _, _, _, rfl, (Sl.mono (OwnL.ints o35) (fun b o h => orL b o h) (fun _ _ h => h)), (Sl.mono ‹_› (fun b o h => orC c332 b o (orL b o h)) (fun _ _ h => h)), (Rows.mono' (OwnL.rowsK o321 c330) (fun b o h => orC c332 b o (orC c331 b o h)))⟩, by (constructor <;> dsimp only <;> first | omega | exact all_nil | assumption | (simp; done) | (simp; omega) | (simp only [List.length_cons, List.length_nil]; omega))⟩
        ·refine sk (qc (cS (cr (kl_ldW rfl rfl (kl_stW (us := [.int .i64 (5 : Int), v25, .slice none 0 0, .int .i64 (0 : Int), .slice none 0 0]) rfl rfl rfl rfl (oc rfl (oc (OwnL.oneCell ‹_›) (oc rfl (oc rfl (oc rfl oc_nil))))) rfl ?_)))))
         refine cg [sing b37 (.cells [.int .i64 (5 : Int), v25, .slice none 0 0, .int .i64 (0 : Int), .slice none 0 0].toArray 88 (0, 0)), sing br (.cells [vbr, .int .i64 (q30 : Int)].toArray 84 (0, 0)), H34, sing b1 (.cells [.int .i64 (5 : Int), v25, .slice none 0 0, .int .i64 (0 : Int), .slice none 0 0].toArray 88 (0, 0))] rfl ?_
         refine ln (qc (rt (kq_frz H34 ?_)))
         refine kq_cmp noHp noHp (fun c333 => ?_)
         refine kq_cmp H34 (orHp noHp noHp) (fun c334 => ?_)
         exact rC rfl rfl rfl [sing br (.cells [vbr, .int .i64 (q30 : Int)].toArray 84 (0, 0))] [] (orHp H34 (orHp noHp noHp)) frn (fr_or f36 (fr_or (fr_no _) (fr_no _))) ⟨q30, by omega, rfl, ⟨(5 : Int), z32, [], (0 : Int), []⟩, rfl, ⟨_, rfl, _, _, _, rfl, (Sl.mono (OwnL.ints o35) (fun b o h => orL b o h) (fun _ _ h => h)), (Sl.mono Sl.nil (fun b o h => orC c334 b o (orL b o h)) (fun _ _ h => h)), (Sl.mono Sl.nil (fun b o h => orC c334 b o (orC c333 b o h)) (fun _ _ h => h))⟩, by (constructor <;> dsimp only <;> first | omega | exact all_nil | assumption | (simp; done) | (simp; omega) | (simp only [List.length_cons, List.length_nil]; omega))⟩
 ·have c43r := c43
  try simp only [smpE] at c43
  refine sk (qc (cS (cr (fV rfl (lB rfl rfl (lL rfl o35 (fun l335 => ?_)))))))
  refine sg rfl (ln (qc (cS (cS (cr (fV rfl (lB rfl rfl (ln (qc (bl (cS (cr ?_))))))))))))
  refine eq9 rfl rfl ?_
  refine sg rfl (ln (qc (ci9 rfl (fun c336 => ?_) (fun c336 => ?_))))
  ·refine cS (cS (cr (sg rfl (ln (qc (bl (kc_no ?_)))))))
   refine kc_loopL (A := Nat × List Int × Value × Hp × Nat) (fun zz => (zz.1 ≤ z32.length) ∧ (zz.2.1.length = zz.1) ∧ OwnL 3 1 zz.2.2.2.1 noHp IntV zz.2.2.1 zz.2.1 ∧ Fr B zz.2.2.2.1 ∧ zz.2.2.2.2 ≤ q30 + zz.1) (fun zz => z32.length - zz.1) (fun zz => [zz.2.2.2.1, sing b37 (.cells [.int .i64 ((1 : Int) + z21), v25, zz.2.2.1, .int .i64 (0 : Int), .slice none 0 0].toArray 88 (0, 0)), sing br (.cells [vbr, .int .i64 (zz.2.2.2.2 : Int)].toArray 84 (0, 0)), H34, sing b1 (.cells [.int .i64 (0 : Int), .slice none 0 0, .slice none 0 0, .int .i64 (0 : Int), .slice none 0 0].toArray 88 (0, 0))]) (fun zz => [(7, .int .i64 (zz.1 : Int))]) (0, [], .slice none 0 0, noHp, q30) (pk [0, 4, 5, 6] rfl) (pc 7 rfl pn) rfl ⟨Nat.zero_le _, rfl, OwnL.nil, (fr_no _), (by first | omega | (dsimp only; omega))⟩ ?_
   rintro ⟨i, out, v342, H339, q344⟩ hJ346
   obtain ⟨hk337, hi338, o340, f341, hq345⟩ : (i ≤ z32.length) ∧ (out.length = i) ∧ OwnL 3 1 H339 noHp IntV v342 out ∧ Fr B H339 ∧ q344 ≤ q30 + i := hJ346
   change KC _ _ (_) [H339, sing b37 (.cells [.int .i64 ((1 : Int) + z21), v25, v342, .int .i64 (0 : Int), .slice none 0 0].toArray 88 (0, 0)), sing br (.cells [vbr, .int .i64 (q344 : Int)].toArray 84 (0, 0)), H34, sing b1 (.cells [.int .i64 (0 : Int), .slice none 0 0, .slice none 0 0, .int .i64 (0 : Int), .slice none 0 0].toArray 88 (0, 0))] _ ([(7, .int .i64 (i : Int))] ++ _)
   refine cS (cS (cr (mv rfl (mv rfl (ls9 rfl rfl ?_)))))
   refine ln (qc (ci9 rfl (fun c347 => ?_) (fun c347 => ?_)))
   ·refine sk (qc (cS (bl (kc_tree (fun i => ([6, 8] : List Nat).contains i) [sing b37 (.cells [.int .i64 ((1 : Int) + z21), v25, v342, .int .i64 (0 : Int), .slice none 0 0].toArray 88 (0, 0))] (by kernel_rfl) ?_))))
    refine kt_q 0 (.cons _ (.cons_cons _ nsl)) rfl (by kernel_rfl) (fV rfl (ln (qq (kt_q 1 (.cons _ (.cons_cons _ nsl)) rfl (by kernel_rfl) (ld rfl (at_box (T := 88) (cs := [.int .i64 ((1 : Int) + z21), v25, v342, .int .i64 (0 : Int), .slice none 0 0]) (off := 2) (fz := (0, 0))) (ln (qq (kt_q 2 (.cons _ (.cons_cons _ nsl)) rfl (by kernel_rfl) ?_))))))))
    refine mv rfl (ln (qq (ta 3 rfl (bs9 rfl rfl rfl (by decide) (ca rfl (ca rfl (ca rfl (ca rfl (ca rfl (ca rfl ca_nil)))))) (fun v348 H349 f350 r351 s352 => ?_)))))
    have h353 : Ints H349 v348 [(1 : Int), (1 : Int), (-1 : Int), (2 : Int), (-3 : Int), (0 : Int)] := litInts (xs := [(1 : Int), (1 : Int), (-1 : Int), (2 : Int), (-3 : Int), (0 : Int)]) (by simpa using s352)
    refine ln (qa (.cons _ (.cons_cons _ nsl)) (ta 4 rfl (cT rfl rfl (one_ok q344 ([(1 : Int), (1 : Int), (-1 : Int), (2 : Int), (-3 : Int), (0 : Int)]) (by first | (simp; done) | omega) (by omega) hr ‹_›) (fun v354 L1 Ln K358 h355 f356 f357 => ?_))))
    obtain ⟨q359, h360, rfl, rfl, z361, rfl, h362⟩ := h355
    refine nm ?_
    refine ln (qa (.cons _ (.cons _ (.cons_cons _ nsl))) (ta 5 rfl (bs9 rfl rfl rfl (by decide) (ca rfl ca_nil) (fun v365 H366 f367 r368 s369 => ?_))))
    have h370 : Ints H366 v365 [z361] := litInts (xs := [z361]) (by simpa using s369)
    refine ln (qa (.cons _ (.cons _ (.cons_cons _ nsl))) (ta 6 rfl (aL9 z361 rfl rfl o340 ‹_› rfl (oc rfl oc_nil) (by omega) (by decide) (fun v371 H372 o373 f374 => ?_))))
    have f375 := f374 B f341 (Nat.le_refl _)
    refine ln (qx rfl (kt_q 7 (.cons _ (.cons _ (.cons_cons _ nsl))) rfl (by kernel_rfl) (fV rfl (ln (qq (ta 8 rfl (sB rfl rfl rfl (OwnL.oneCell ‹_›) (OwnL.cells ‹_›) ?_)))))))
    refine cg [sing br (.cells [vbr, .int .i64 (q359 : Int)].toArray 84 (0, 0)), H372, sing b37 (.cells [.int .i64 ((1 : Int) + z21), v25, v371, .int .i64 (0 : Int), .slice none 0 0].toArray 88 (0, 0)), H34, sing b1 (.cells [.int .i64 (0 : Int), .slice none 0 0, .slice none 0 0, .int .i64 (0 : Int), .slice none 0 0].toArray 88 (0, 0))] rfl ?_
    refine ln (qx rfl (kt_end (by kernel_rfl) ?_))
    refine qc (cr (mv rfl (ic9 rfl rfl (by omega) ?_)))
    refine sg rfl (ln (tk [H372, sing b37 (.cells [.int .i64 ((1 : Int) + z21), v25, v371, .int .i64 (0 : Int), .slice none 0 0].toArray 88 (0, 0)), sing br (.cells [vbr, .int .i64 (q359 : Int)].toArray 84 (0, 0)), H34, sing b1 (.cells [.int .i64 (0 : Int), .slice none 0 0, .slice none 0 0, .int .i64 (0 : Int), .slice none 0 0].toArray 88 (0, 0))] ?_))
    refine rL ((i + 1), (out ++ [z361]), v371, H372, q359) (by omega) (⟨by omega, (by simp; omega), o373, f375, (by first | omega | (dsimp only; omega))⟩) (pc 7 rfl pn) (pk [0, 4, 5, 6] rfl) rfl slr9
   ·refine ex9 (qc (cr (mv rfl (cT rfl rfl (pick_ok q344 (14 : Int) (by omega) hr) (fun v376 L1 Ln K380 h377 f378 f379 => ?_)))))
    obtain ⟨q381, h382, rfl, rfl, z383, rfl, h384⟩ := h377
    refine nm ?_
    refine sb9 rfl rfl (by omega) ?_
    refine fV rfl (sB rfl rfl rfl rfl rfl ?_)
    refine cg [sing br (.cells [vbr, .int .i64 (q381 : Int)].toArray 84 (0, 0)), H339, sing b37 (.cells [.int .i64 ((1 : Int) + z21), v25, v342, .int .i64 (z383 - (4 : Int)), .slice none 0 0].toArray 88 (0, 0)), H34, sing b1 (.cells [.int .i64 (0 : Int), .slice none 0 0, .slice none 0 0, .int .i64 (0 : Int), .slice none 0 0].toArray 88 (0, 0))] rfl ?_
    refine ln (qc (cS (cr (kl_ldW rfl rfl (kl_stW (us := [.int .i64 ((1 : Int) + z21), v25, v342, .int .i64 (z383 - (4 : Int)), .slice none 0 0]) rfl rfl rfl rfl (oc rfl (oc (OwnL.oneCell ‹_›) (oc (OwnL.oneCell ‹_›) (oc rfl (oc rfl oc_nil))))) rfl ?_)))))
    refine cg [sing br (.cells [vbr, .int .i64 (q381 : Int)].toArray 84 (0, 0)), H339, sing b37 (.cells [.int .i64 ((1 : Int) + z21), v25, v342, .int .i64 (z383 - (4 : Int)), .slice none 0 0].toArray 88 (0, 0)), H34, sing b1 (.cells [.int .i64 ((1 : Int) + z21), v25, v342, .int .i64 (z383 - (4 : Int)), .slice none 0 0].toArray 88 (0, 0))] rfl ?_
    refine ln (qc (rt (kq_frz H34 ?_)))
    refine kq_frz H339 ?_
    refine kq_cmp H339 noHp (fun c387 => ?_)
    refine kq_cmp H34 (orHp H339 noHp) (fun c388 => ?_)
    exact rC rfl rfl rfl [sing br (.cells [vbr, .int .i64 (q381 : Int)].toArray 84 (0, 0))] [] (orHp H34 (orHp H339 noHp)) frn (fr_or f36 (fr_or f341 (fr_no _))) ⟨q381, by omega, rfl, ⟨((1 : Int) + z21), z32, out, (z383 - (4 : Int)), []⟩, rfl, ⟨_, rfl, _, _, _, rfl, (Sl.mono (OwnL.ints o35) (fun b o h => orL b o h) (fun _ _ h => h)), (Sl.mono (OwnL.ints o340) (fun b o h => orC c388 b o (orL b o h)) (fun _ _ h => h)), (Sl.mono Sl.nil (fun b o h => orC c388 b o (orC c387 b o h)) (fun _ _ h => h))⟩, by (constructor <;> dsimp only <;> first | omega | exact all_nil | assumption | (simp; done) | (simp; omega) | (simp only [List.length_cons, List.length_nil]; omega))⟩
  ·refine cS (cr (eq9 rfl rfl ?_))
   refine sg rfl (ln (qc (ci9 rfl (fun c389 => ?_) (fun c389 => ?_))))
   ·refine cS (cr (mv rfl (mv rfl (cT rfl rfl (someVars_ok q30 n (2 : Int) (by first | assumption | omega) (by first | assumption | omega) (by omega) hr) (fun v390 L1 Ln K394 h391 f392 f393 => ?_)))))
    obtain ⟨q395, h396, rfl, H399, z397, rfl, o400, h398⟩ := h391
    have f401 := f392 _ (.head _)
    refine nm ?_
    refine fV rfl (sB rfl rfl rfl (OwnL.oneCell ‹_›) (OwnL.cells ‹_›) ?_)
    refine cg [sing br (.cells [vbr, .int .i64 (q395 : Int)].toArray 84 (0, 0)), H399, sing b37 (.cells [.int .i64 ((1 : Int) + z21), v390, .slice none 0 0, .int .i64 (0 : Int), .slice none 0 0].toArray 88 (0, 0)), H34, sing b1 (.cells [.int .i64 (0 : Int), .slice none 0 0, .slice none 0 0, .int .i64 (0 : Int), .slice none 0 0].toArray 88 (0, 0))] rfl ?_
    refine ln (qc (cr (mv rfl (cT rfl rfl (pick_ok q395 (5 : Int) (by omega) hr) (fun v402 L1 Ln K406 h403 f404 f405 => ?_)))))
    obtain ⟨q407, h408, rfl, rfl, z409, rfl, h410⟩ := h403
    refine nm ?_
    refine sb9 rfl rfl (by omega) ?_
    refine bs9 rfl rfl rfl (by decide) (ca rfl ca_nil) (fun v413 H414 f415 r416 s417 => ?_)
    have h418 : Ints H414 v413 [(z409 - (2 : Int))] := litInts (xs := [(z409 - (2 : Int))]) (by simpa using s417)
    refine fV rfl (sB rfl rfl rfl (Sl.oneCell ‹_›) (Sl.cells ‹_›) ?_)
    refine cg [sing br (.cells [vbr, .int .i64 (q407 : Int)].toArray 84 (0, 0)), H399, sing b37 (.cells [.int .i64 ((1 : Int) + z21), v390, v413, .int .i64 (0 : Int), .slice none 0 0].toArray 88 (0, 0)), H34, sing b1 (.cells [.int .i64 (0 : Int), .slice none 0 0, .slice none 0 0, .int .i64 (0 : Int), .slice none 0 0].toArray 88 (0, 0))] rfl ?_
    refine ln (qc (cS (cr (kl_ldW rfl rfl (kl_stW (us := [.int .i64 ((1 : Int) + z21), v390, v413, .int .i64 (0 : Int), .slice none 0 0]) rfl rfl rfl rfl (oc rfl (oc (OwnL.oneCell ‹_›) (oc (Sl.oneCell ‹_›) (oc rfl (oc rfl oc_nil))))) rfl ?_)))))
    refine cg [sing br (.cells [vbr, .int .i64 (q407 : Int)].toArray 84 (0, 0)), H399, sing b37 (.cells [.int .i64 ((1 : Int) + z21), v390, v413, .int .i64 (0 : Int), .slice none 0 0].toArray 88 (0, 0)), H34, sing b1 (.cells [.int .i64 ((1 : Int) + z21), v390, v413, .int .i64 (0 : Int), .slice none 0 0].toArray 88 (0, 0))] rfl ?_
    refine ln (qc (rt (kq_frz H399 ?_)))
    refine kq_cmp H414 noHp (fun c419 => ?_)
    refine kq_cmp H399 (orHp H414 noHp) (fun c420 => ?_)
    exact rC rfl rfl rfl [sing br (.cells [vbr, .int .i64 (q407 : Int)].toArray 84 (0, 0))] [] (orHp H399 (orHp H414 noHp)) frn (fr_or f401 (fr_or f415 (fr_no _))) ⟨q407, by omega, rfl, ⟨((1 : Int) + z21), z397, ([(z409 - (2 : Int))]), (0 : Int), []⟩, rfl, ⟨_, rfl, _, _, _, rfl, (Sl.mono (OwnL.ints o400) (fun b o h => orL b o h) (fun _ _ h => h)), (Sl.mono ‹_› (fun b o h => orC c420 b o (orL b o h)) (fun _ _ h => h)), (Sl.mono Sl.nil (fun b o h => orC c420 b o (orC c419 b o h)) (fun _ _ h => h))⟩, by (constructor <;> dsimp only <;> first | omega | exact all_nil | assumption | (simp; done) | (simp; omega) | (simp only [List.length_cons, List.length_nil]; omega))⟩
   ·refine cS (cr (eq9 rfl rfl ?_))
    refine sg rfl (ln (qc (ci9 rfl (fun c421 => ?_) (fun c421 => ?_))))
    ·refine cS (cr (mv rfl (mv rfl (cT rfl rfl (someVars_ok q30 n (2 : Int) (by first | assumption | omega) (by first | assumption | omega) (by omega) hr) (fun v422 L1 Ln K426 h423 f424 f425 => ?_)))))
     obtain ⟨q427, h428, rfl, H431, z429, rfl, o432, h430⟩ := h423
     have f433 := f424 _ (.head _)
     refine nm ?_
     refine fV rfl (sB rfl rfl rfl (OwnL.oneCell ‹_›) (OwnL.cells ‹_›) ?_)
     refine cg [sing br (.cells [vbr, .int .i64 (q427 : Int)].toArray 84 (0, 0)), H431, sing b37 (.cells [.int .i64 ((1 : Int) + z21), v422, .slice none 0 0, .int .i64 (0 : Int), .slice none 0 0].toArray 88 (0, 0)), H34, sing b1 (.cells [.int .i64 (0 : Int), .slice none 0 0, .slice none 0 0, .int .i64 (0 : Int), .slice none 0 0].toArray 88 (0, 0))] rfl ?_
     refine ln (qc (cr (mv rfl (mv rfl (cT rfl rfl (pick_ok q427 (6 : Int) (by omega) hr) (fun v434 L1 Ln K438 h435 f436 f437 => ?_))))))
     obtain ⟨q439, h440, rfl, rfl, z441, rfl, h442⟩ := h435
     refine nm ?_
     refine ad9 rfl rfl (by omega) ?_
     refine cT rfl rfl (randomRow_ok q439 ((1 : Int) + z441) (by first | assumption | omega) (by omega) hr) (fun v445 L1 Ln K449 h446 f447 f448 => ?_)
     obtain ⟨q450, h451, rfl, H454, z452, rfl, o455, h453⟩ := h446
     have f456 := f447 _ (.head _)
     refine nm ?_
     refine fV rfl (sB rfl rfl rfl (OwnL.oneCell ‹_›) (OwnL.cells ‹_›) ?_)
     refine cg [sing br (.cells [vbr, .int .i64 (q450 : Int)].toArray 84 (0, 0)), H454, H431, sing b37 (.cells [.int .i64 ((1 : Int) + z21), v422, v445, .int .i64 (0 : Int), .slice none 0 0].toArray 88 (0, 0)), H34, sing b1 (.cells [.int .i64 (0 : Int), .slice none 0 0, .slice none 0 0, .int .i64 (0 : Int), .slice none 0 0].toArray 88 (0, 0))] rfl ?_
     refine ln (qc (cS (cr (kl_ldW rfl rfl (kl_stW (us := [.int .i64 ((1 : Int) + z21), v422, v445, .int .i64 (0 : Int), .slice none 0 0]) rfl rfl rfl rfl (oc rfl (oc (OwnL.oneCell ‹_›) (oc (OwnL.oneCell ‹_›) (oc rfl (oc rfl oc_nil))))) rfl ?_)))))
     refine cg [sing br (.cells [vbr, .int .i64 (q450 : Int)].toArray 84 (0, 0)), H454, H431, sing b37 (.cells [.int .i64 ((1 : Int) + z21), v422, v445, .int .i64 (0 : Int), .slice none 0 0].toArray 88 (0, 0)), H34, sing b1 (.cells [.int .i64 ((1 : Int) + z21), v422, v445, .int .i64 (0 : Int), .slice none 0 0].toArray 88 (0, 0))] rfl ?_
     refine ln (qc (rt (kq_frz H431 ?_)))
     refine kq_frz H454 ?_
     refine kq_cmp H454 noHp (fun c457 => ?_)
     refine kq_cmp H431 (orHp H454 noHp) (fun c458 => ?_)
     exact rC rfl rfl rfl [sing br (.cells [vbr, .int .i64 (q450 : Int)].toArray 84 (0, 0))] [] (orHp H431 (orHp H454 noHp)) frn (fr_or f433 (fr_or f456 (fr_no _))) ⟨q450, by omega, rfl, ⟨((1 : Int) + z21), z429, z452, (0 : Int), []⟩, rfl, ⟨_, rfl, _, _, _, rfl, (Sl.mono (OwnL.ints o432) (fun b o h => orL b o h) (fun _ _ h => h)), (Sl.mono (OwnL.ints o455) (fun b o h => orC c458 b o (orL b o h)) (fun _ _ h => h)), (Sl.mono Sl.nil (fun b o h => orC c458 b o (orC c457 b o h)) (fun _ _ h => h))⟩, by (constructor <;> dsimp only <;> first | omega | exact all_nil | assumption | (simp; done) | (simp; omega) | (simp only [List.length_cons, List.length_nil]; omega))⟩
    ·refine cS (cr (eq9 rfl rfl ?_))
     refine sg rfl (ln (qc (ci9 rfl (fun c459 => ?_) (fun c459 => ?_))))
     ·refine cS (cr (mv rfl (cT rfl rfl (pick_ok q30 (6 : Int) (by omega) hr) (fun v460 L1 Ln K464 h461 f462 f463 => ?_))))
      obtain ⟨q465, h466, rfl, rfl, z467, rfl, h468⟩ := h461
      refine nm ?_
      refine ad9 rfl rfl (by omega) ?_
      refine sg rfl (ln (qc (bl (kc_no ?_))))
      refine kc_loopK (A := Int × List (List Int) × Value × Hp × Hp × Nat) (fun zz => (0 ≤ zz.1 ∧ zz.1 ≤ 6 ∧ zz.2.1.length + zz.1.toNat ≤ 6 ∧ ∀ r ∈ zz.2.1, r.length ≤ 12) ∧ Fr B zz.2.2.2.2.1 ∧ OwnL 23 1 zz.2.2.2.1 zz.2.2.2.2.1 RowV zz.2.2.1 zz.2.1 ∧ Fr B zz.2.2.2.1 ∧ zz.2.2.2.2.2 ≤ q465 + 12 * (6 - zz.1).toNat) (fun zz => zz.1.toNat) (fun zz => zz.2.2.2.2.1) (fun zz => [zz.2.2.2.1, sing br (.cells [vbr, .int .i64 (zz.2.2.2.2.2 : Int)].toArray 84 (0, 0)), sing b37 (.cells [.int .i64 ((1 : Int) + z21), v25, .slice none 0 0, .int .i64 (0 : Int), zz.2.2.1].toArray 88 (0, 0)), H34, sing b1 (.cells [.int .i64 (0 : Int), .slice none 0 0, .slice none 0 0, .int .i64 (0 : Int), .slice none 0 0].toArray 88 (0, 0))]) (fun zz => [(8, .int .i64 zz.1)]) (((1 : Int) + z467), [], .slice none 0 0, noHp, noHp, q465) (pk [0, 4, 5, 6] rfl) (pc 8 rfl pn) rfl ⟨⟨by dsimp only; omega, by dsimp only; omega, by dsimp only; simp; omega, all_nil⟩, (fr_no _), OwnL.nil, (fr_no _), (by first | omega | (dsimp only; omega))⟩ ?_
      rintro ⟨i, out, v476, H473, K477, q480⟩ hJ482
      obtain ⟨hi472, f478, o474, f475, hq481⟩ : (0 ≤ i ∧ i ≤ 6 ∧ out.length + i.toNat ≤ 6 ∧ ∀ r ∈ out, r.length ≤ 12) ∧ Fr B K477 ∧ OwnL 23 1 H473 K477 RowV v476 out ∧ Fr B H473 ∧ q480 ≤ q465 + 12 * (6 - i).toNat := hJ482
      change KC _ _ (K477 :: _) [H473, sing br (.cells [vbr, .int .i64 (q480 : Int)].toArray 84 (0, 0)), sing b37 (.cells [.int .i64 ((1 : Int) + z21), v25, .slice none 0 0, .int .i64 (0 : Int), v476].toArray 88 (0, 0)), H34, sing b1 (.cells [.int .i64 (0 : Int), .slice none 0 0, .slice none 0 0, .int .i64 (0 : Int), .slice none 0 0].toArray 88 (0, 0))] _ ([(8, .int .i64 i)] ++ _)
      have hall := hi472.2.2.2
      refine cS (cS (cr (mv rfl (kl_gtr rfl rfl ?_))))
      refine ln (qc (ci9 rfl (fun c483 => ?_) (fun c483 => ?_)))
      ·refine sk (qc (cS (bl (kc_tree (fun i => ([6, 8] : List Nat).contains i) [sing b37 (.cells [.int .i64 ((1 : Int) + z21), v25, .slice none 0 0, .int .i64 (0 : Int), v476].toArray 88 (0, 0))] (by kernel_rfl) ?_))))
       refine kt_q 0 (.cons _ (.cons _ (.cons_cons _ nsl))) rfl (by kernel_rfl) (fV rfl (ln (qq (kt_q 1 (.cons _ (.cons _ (.cons_cons _ nsl))) rfl (by kernel_rfl) (ld rfl (at_box (T := 88) (cs := [.int .i64 ((1 : Int) + z21), v25, .slice none 0 0, .int .i64 (0 : Int), v476]) (off := 4) (fz := (0, 0))) (ln (qq (kt_q 2 (.cons _ (.cons _ (.cons_cons _ nsl))) rfl (by kernel_rfl) ?_))))))))
       refine mv rfl (ln (qq (kt_q 3 (.cons _ (.cons _ (.cons_cons _ nsl))) rfl (by kernel_rfl) (mv rfl (ln (qq (ta 4 rfl (cT rfl rfl (randomRow_ok q480 (z32.length : Int) (by first | assumption | omega) (by omega) hr) (fun v484 L1 Ln K488 h485 f486 f487 => ?_)))))))))
       obtain ⟨q489, h490, rfl, H493, z491, rfl, o494, h492⟩ := h485
       have f495 := f486 _ (.head _)
       refine nm ?_
       refine ln (qa (.cons _ (.cons _ (.cons _ (.cons_cons _ nsl)))) (ta 5 rfl (bs9 rfl rfl rfl (by decide) (ca (by first | exact Sl.cells ‹_› | exact OwnL.cells ‹_›) ca_nil) (fun v496 H497 f498 r499 s500 => ?_))))
       refine ln (qa (.cons _ (.cons _ (.cons _ (.cons_cons _ nsl)))) (kt_frz H493 ?_))
       have h501 := OwnL.ints o494
       refine ta 6 rfl (cm9 K477 H493 (fun c502 => ?_))
       have o503 := OwnL.mono (K' := orHp K477 H493) o474 orL
       refine aL9 z491 rfl rfl o503 ‹_› ⟨_, rfl, Sl.mono ‹_› (orC c502) (fun _ _ h => h)⟩ (oc (Sl.oneCell ‹_›) oc_nil) (by omega) (by decide) (fun v504 H505 o506 f507 => ?_)
       have f508 := f507 B f475 (Nat.le_refl _)
       refine ln (qx rfl (kt_q 7 (.cons _ (.cons _ (.cons_cons _ nsl))) rfl (by kernel_rfl) (fV rfl (ln (qq (ta 8 rfl (sB rfl rfl rfl (OwnL.oneCell ‹_›) (OwnL.cells ‹_›) ?_)))))))
       refine cg [sing br (.cells [vbr, .int .i64 (q489 : Int)].toArray 84 (0, 0)), H505, sing b37 (.cells [.int .i64 ((1 : Int) + z21), v25, .slice none 0 0, .int .i64 (0 : Int), v504].toArray 88 (0, 0)), H34, sing b1 (.cells [.int .i64 (0 : Int), .slice none 0 0, .slice none 0 0, .int .i64 (0 : Int), .slice none 0 0].toArray 88 (0, 0))] rfl ?_
       refine ln (qx rfl (kt_end (by kernel_rfl) ?_))
       refine qc (cr (mv rfl (sb9 rfl rfl (by omega) ?_)))
       refine sg rfl (ln (tk [H505, sing br (.cells [vbr, .int .i64 (q489 : Int)].toArray 84 (0, 0)), sing b37 (.cells [.int .i64 ((1 : Int) + z21), v25, .slice none 0 0, .int .i64 (0 : Int), v504].toArray 88 (0, 0)), H34, sing b1 (.cells [.int .i64 (0 : Int), .slice none 0 0, .slice none 0 0, .int .i64 (0 : Int), .slice none 0 0].toArray 88 (0, 0))] ?_))
       refine kq_roundK ((i - (1 : Int)), (out ++ [z491]), v504, H505, (orHp K477 H493), q489) (by (dsimp only; omega)) (⟨⟨by dsimp only; omega, by dsimp only; omega, by simp; omega, all_snoc hi472.2.2.2 (by omega)⟩, (fr_or f478 f495), o506, f508, (by first | omega | (dsimp only; omega))⟩) (pc 8 rfl pn) (pk [0, 4, 5, 6] rfl) rfl slr9
      ·refine ex9 (qc (cS (cr (kl_ldW rfl rfl (kl_stW (us := [.int .i64 ((1 : Int) + z21), v25, .slice none 0 0, .int .i64 (0 : Int), v476]) rfl rfl rfl rfl (oc rfl (oc (OwnL.oneCell ‹_›) (oc rfl (oc rfl (oc (OwnL.oneCell ‹_›) oc_nil))))) rfl ?_)))))
       refine cg [H473, sing br (.cells [vbr, .int .i64 (q480 : Int)].toArray 84 (0, 0)), sing b37 (.cells [.int .i64 ((1 : Int) + z21), v25, .slice none 0 0, .int .i64 (0 : Int), v476].toArray 88 (0, 0)), H34, sing b1 (.cells [.int .i64 ((1 : Int) + z21), v25, .slice none 0 0, .int .i64 (0 : Int), v476].toArray 88 (0, 0))] rfl ?_
       refine ln (qc (rt (kq_frz H34 ?_)))
       refine kq_frz H473 ?_
       refine kq_cmp H473 K477 (fun c509 => ?_)
       refine kq_cmp noHp (orHp H473 K477) (fun c510 => ?_)
       refine kq_cmp H34 (orHp noHp (orHp H473 K477)) (fun c511 => ?_)
       exact rC rfl rfl rfl [sing br (.cells [vbr, .int .i64 (q480 : Int)].toArray 84 (0, 0))] [] (orHp H34 (orHp noHp (orHp H473 K477))) frn (fr_or f36 (fr_or (fr_no _) (fr_or f475 f478))) ⟨q480, by omega, rfl, ⟨((1 : Int) + z21), z32, [], (0 : Int), out⟩, rfl, ⟨_, rfl, _, _, _, rfl, (Sl.mono (OwnL.ints o35) (fun b o h => orL b o h) (fun _ _ h => h)), (Sl.mono Sl.nil (fun b o h => orC c511 b o (orL b o h)) (fun _ _ h => h)), (Rows.mono' (OwnL.rowsK o474 c509) (fun b o h => orC c511 b o (orC c510 b o h)))⟩, by (constructor <;> dsimp only <;> first | omega | exact all_nil | assumption | (simp; done) | (simp; omega) | (simp only [List.length_cons, List.length_nil]; omega))⟩
     ·refine cS (cr (eq9 rfl rfl ?_))
      refine sg rfl (ln (qc (ci9 rfl (fun c512 => ?_) (fun c512 => ?_))))
      ·refine cS (cr (mv rfl (cT rfl rfl (pick_ok q30 (6 : Int) (by omega) hr) (fun v513 L1 Ln K517 h514 f515 f516 => ?_))))
       obtain ⟨q518, h519, rfl, rfl, z520, rfl, h521⟩ := h514
       refine nm ?_
       refine bs9 rfl rfl rfl (by decide) (ca rfl ca_nil) (fun v524 H525 f526 r527 s528 => ?_)
       have h529 : Ints H525 v524 [z520] := litInts (xs := [z520]) (by simpa using s528)
       refine fV rfl (sB rfl rfl rfl (Sl.oneCell ‹_›) (Sl.cells ‹_›) ?_)
       refine cg [sing br (.cells [vbr, .int .i64 (q518 : Int)].toArray 84 (0, 0)), sing b37 (.cells [.int .i64 ((1 : Int) + z21), v25, v524, .int .i64 (0 : Int), .slice none 0 0].toArray 88 (0, 0)), H34, sing b1 (.cells [.int .i64 (0 : Int), .slice none 0 0, .slice none 0 0, .int .i64 (0 : Int), .slice none 0 0].toArray 88 (0, 0))] rfl ?_
       refine ln (qc (cr (mv rfl (cT rfl rfl (pick_ok q518 (4 : Int) (by omega) hr) (fun v530 L1 Ln K534 h531 f532 f533 => ?_)))))
       obtain ⟨q535, h536, rfl, rfl, z537, rfl, h538⟩ := h531
       refine nm ?_
       refine fV rfl (sB rfl rfl rfl rfl rfl ?_)
       refine cg [sing br (.cells [vbr, .int .i64 (q535 : Int)].toArray 84 (0, 0)), sing b37 (.cells [.int .i64 ((1 : Int) + z21), v25, v524, .int .i64 z537, .slice none 0 0].toArray 88 (0, 0)), H34, sing b1 (.cells [.int .i64 (0 : Int), .slice none 0 0, .slice none 0 0, .int .i64 (0 : Int), .slice none 0 0].toArray 88 (0, 0))] rfl ?_
       refine ln (qc (cS (cr (kl_ldW rfl rfl (kl_stW (us := [.int .i64 ((1 : Int) + z21), v25, v524, .int .i64 z537, .slice none 0 0]) rfl rfl rfl rfl (oc rfl (oc (OwnL.oneCell ‹_›) (oc (Sl.oneCell ‹_›) (oc rfl (oc rfl oc_nil))))) rfl ?_)))))
       refine cg [sing br (.cells [vbr, .int .i64 (q535 : Int)].toArray 84 (0, 0)), sing b37 (.cells [.int .i64 ((1 : Int) + z21), v25, v524, .int .i64 z537, .slice none 0 0].toArray 88 (0, 0)), H34, sing b1 (.cells [.int .i64 ((1 : Int) + z21), v25, v524, .int .i64 z537, .slice none 0 0].toArray 88 (0, 0))] rfl ?_
       refine ln (qc (rt (kq_frz H34 ?_)))
       refine kq_cmp H525 noHp (fun c541 => ?_)
       refine kq_cmp H34 (orHp H525 noHp) (fun c542 => ?_)
       exact rC rfl rfl rfl [sing br (.cells [vbr, .int .i64 (q535 : Int)].toArray 84 (0, 0))] [] (orHp H34 (orHp H525 noHp)) frn (fr_or f36 (fr_or f526 (fr_no _))) ⟨q535, by omega, rfl, ⟨((1 : Int) + z21), z32, ([z520]), z537, []⟩, rfl, ⟨_, rfl, _, _, _, rfl, (Sl.mono (OwnL.ints o35) (fun b o h => orL b o h) (fun _ _ h => h)), (Sl.mono ‹_› (fun b o h => orC c542 b o (orL b o h)) (fun _ _ h => h)), (Sl.mono Sl.nil (fun b o h => orC c542 b o (orC c541 b o h)) (fun _ _ h => h))⟩, by (constructor <;> dsimp only <;> first | omega | exact all_nil | assumption | (simp; done) | (simp; omega) | (simp only [List.length_cons, List.length_nil]; omega))⟩
      ·refine cS (cr (eq9 rfl rfl ?_))
       refine sg rfl (ln (qc (ci9 rfl (fun c543 => ?_) (fun c543 => ?_))))
       ·refine cS (cS (cr (sg rfl (ln (qc (bl (kc_no ?_)))))))
        refine kc_loopL (A := Nat × List Int × Value × Hp × Nat) (fun zz => (zz.1 ≤ 8) ∧ (zz.2.1.length = zz.1) ∧ OwnL 3 1 zz.2.2.2.1 noHp IntV zz.2.2.1 zz.2.1 ∧ Fr B zz.2.2.2.1 ∧ zz.2.2.2.2 ≤ q30 + zz.1) (fun zz => 8 - zz.1) (fun zz => [zz.2.2.2.1, sing b37 (.cells [.int .i64 ((1 : Int) + z21), v25, zz.2.2.1, .int .i64 (0 : Int), .slice none 0 0].toArray 88 (0, 0)), sing br (.cells [vbr, .int .i64 (zz.2.2.2.2 : Int)].toArray 84 (0, 0)), H34, sing b1 (.cells [.int .i64 (0 : Int), .slice none 0 0, .slice none 0 0, .int .i64 (0 : Int), .slice none 0 0].toArray 88 (0, 0))]) (fun zz => [(9, .int .i64 (zz.1 : Int))]) (0, [], .slice none 0 0, noHp, q30) (pk [0, 4, 5, 6] rfl) (pc 9 rfl pn) rfl ⟨Nat.zero_le _, rfl, OwnL.nil, (fr_no _), (by first | omega | (dsimp only; omega))⟩ ?_
        rintro ⟨i, out, v549, H546, q551⟩ hJ553
        obtain ⟨hk544, hi545, o547, f548, hq552⟩ : (i ≤ 8) ∧ (out.length = i) ∧ OwnL 3 1 H546 noHp IntV v549 out ∧ Fr B H546 ∧ q551 ≤ q30 + i := hJ553
        change KC _ _ (_) [H546, sing b37 (.cells [.int .i64 ((1 : Int) + z21), v25, v549, .int .i64 (0 : Int), .slice none 0 0].toArray 88 (0, 0)), sing br (.cells [vbr, .int .i64 (q551 : Int)].toArray 84 (0, 0)), H34, sing b1 (.cells [.int .i64 (0 : Int), .slice none 0 0, .slice none 0 0, .int .i64 (0 : Int), .slice none 0 0].toArray 88 (0, 0))] _ ([(9, .int .i64 (i : Int))] ++ _)
        refine cS (cS (cr (mv rfl (mv rfl (kl_mul rfl rfl (by omega) ?_)))))
        refine ls9 rfl rfl ?_
        refine ln (qc (ci9 rfl (fun c554 => ?_) (fun c554 => ?_)))
        ·refine sk (qc (cS (bl (kc_tree (fun i => ([5, 7] : List Nat).contains i) [sing b37 (.cells [.int .i64 ((1 : Int) + z21), v25, v549, .int .i64 (0 : Int), .slice none 0 0].toArray 88 (0, 0))] (by kernel_rfl) ?_))))
         refine kt_q 0 (.cons _ (.cons_cons _ nsl)) rfl (by kernel_rfl) (fV rfl (ln (qq (kt_q 1 (.cons _ (.cons_cons _ nsl)) rfl (by kernel_rfl) (ld rfl (at_box (T := 88) (cs := [.int .i64 ((1 : Int) + z21), v25, v549, .int .i64 (0 : Int), .slice none 0 0]) (off := 2) (fz := (0, 0))) (ln (qq (kt_q 2 (.cons _ (.cons_cons _ nsl)) rfl (by kernel_rfl) ?_))))))))
         refine mv rfl (ln (qq (ta 3 rfl (cT rfl rfl (pick_ok q551 (4 : Int) (by omega) hr) (fun v555 L1 Ln K559 h556 f557 f558 => ?_)))))
         obtain ⟨q560, h561, rfl, rfl, z562, rfl, h563⟩ := h556
         refine nm ?_
         refine ln (qa (.cons _ (.cons _ (.cons_cons _ nsl))) (ta 4 rfl (bs9 rfl rfl rfl (by decide) (ca rfl ca_nil) (fun v566 H567 f568 r569 s570 => ?_))))
         have h571 : Ints H567 v566 [z562] := litInts (xs := [z562]) (by simpa using s570)
         refine ln (qa (.cons _ (.cons _ (.cons_cons _ nsl))) (ta 5 rfl (aL9 z562 rfl rfl o547 ‹_› rfl (oc rfl oc_nil) (by omega) (by decide) (fun v572 H573 o574 f575 => ?_))))
         have f576 := f575 B f548 (Nat.le_refl _)
         refine ln (qx rfl (kt_q 6 (.cons _ (.cons _ (.cons_cons _ nsl))) rfl (by kernel_rfl) (fV rfl (ln (qq (ta 7 rfl (sB rfl rfl rfl (OwnL.oneCell ‹_›) (OwnL.cells ‹_›) ?_)))))))
         refine cg [sing br (.cells [vbr, .int .i64 (q560 : Int)].toArray 84 (0, 0)), H573, sing b37 (.cells [.int .i64 ((1 : Int) + z21), v25, v572, .int .i64 (0 : Int), .slice none 0 0].toArray 88 (0, 0)), H34, sing b1 (.cells [.int .i64 (0 : Int), .slice none 0 0, .slice none 0 0, .int .i64 (0 : Int), .slice none 0 0].toArray 88 (0, 0))] rfl ?_
         refine ln (qx rfl (kt_end (by kernel_rfl) ?_))
         refine qc (cr (mv rfl (ic9 rfl rfl (by omega) ?_)))
         refine sg rfl (ln (tk [H573, sing b37 (.cells [.int .i64 ((1 : Int) + z21), v25, v572, .int .i64 (0 : Int), .slice none 0 0].toArray 88 (0, 0)), sing br (.cells [vbr, .int .i64 (q560 : Int)].toArray 84 (0, 0)), H34, sing b1 (.cells [.int .i64 (0 : Int), .slice none 0 0, .slice none 0 0, .int .i64 (0 : Int), .slice none 0 0].toArray 88 (0, 0))] ?_))
         refine rL ((i + 1), (out ++ [z562]), v572, H573, q560) (by omega) (⟨by omega, (by simp; omega), o574, f576, (by first | omega | (dsimp only; omega))⟩) (pc 9 rfl pn) (pk [0, 4, 5, 6] rfl) rfl slr9
        ·refine ex9 (qc (cr (mv rfl (cT rfl rfl (pick_ok q551 (4 : Int) (by omega) hr) (fun v577 L1 Ln K581 h578 f579 f580 => ?_)))))
         obtain ⟨q582, h583, rfl, rfl, z584, rfl, h585⟩ := h578
         refine nm ?_
         refine ad9 rfl rfl (by omega) ?_
         refine fV rfl (sB rfl rfl rfl rfl rfl ?_)
         refine cg [sing br (.cells [vbr, .int .i64 (q582 : Int)].toArray 84 (0, 0)), H546, sing b37 (.cells [.int .i64 ((1 : Int) + z21), v25, v549, .int .i64 ((1 : Int) + z584), .slice none 0 0].toArray 88 (0, 0)), H34, sing b1 (.cells [.int .i64 (0 : Int), .slice none 0 0, .slice none 0 0, .int .i64 (0 : Int), .slice none 0 0].toArray 88 (0, 0))] rfl ?_
         refine ln (qc (cS (cr (kl_ldW rfl rfl (kl_stW (us := [.int .i64 ((1 : Int) + z21), v25, v549, .int .i64 ((1 : Int) + z584), .slice none 0 0]) rfl rfl rfl rfl (oc rfl (oc (OwnL.oneCell ‹_›) (oc (OwnL.oneCell ‹_›) (oc rfl (oc rfl oc_nil))))) rfl ?_)))))
         refine cg [sing br (.cells [vbr, .int .i64 (q582 : Int)].toArray 84 (0, 0)), H546, sing b37 (.cells [.int .i64 ((1 : Int) + z21), v25, v549, .int .i64 ((1 : Int) + z584), .slice none 0 0].toArray 88 (0, 0)), H34, sing b1 (.cells [.int .i64 ((1 : Int) + z21), v25, v549, .int .i64 ((1 : Int) + z584), .slice none 0 0].toArray 88 (0, 0))] rfl ?_
         refine ln (qc (rt (kq_frz H34 ?_)))
         refine kq_frz H546 ?_
         refine kq_cmp H546 noHp (fun c588 => ?_)
         refine kq_cmp H34 (orHp H546 noHp) (fun c589 => ?_)
         exact rC rfl rfl rfl [sing br (.cells [vbr, .int .i64 (q582 : Int)].toArray 84 (0, 0))] [] (orHp H34 (orHp H546 noHp)) frn (fr_or f36 (fr_or f548 (fr_no _))) ⟨q582, by omega, rfl, ⟨((1 : Int) + z21), z32, out, ((1 : Int) + z584), []⟩, rfl, ⟨_, rfl, _, _, _, rfl, (Sl.mono (OwnL.ints o35) (fun b o h => orL b o h) (fun _ _ h => h)), (Sl.mono (OwnL.ints o547) (fun b o h => orC c589 b o (orL b o h)) (fun _ _ h => h)), (Sl.mono Sl.nil (fun b o h => orC c589 b o (orC c588 b o h)) (fun _ _ h => h))⟩, by (constructor <;> dsimp only <;> first | omega | exact all_nil | assumption | (simp; done) | (simp; omega) | (simp only [List.length_cons, List.length_nil]; omega))⟩
       ·refine cS (cr (eq9 rfl rfl ?_))
        refine sg rfl (ln (qc (ci9 rfl (fun c590 => ?_) (fun c590 => ?_))))
        ·refine cS (cr (mv rfl (mv rfl (cT rfl rfl (pick_ok q30 (3 : Int) (by omega) hr) (fun v591 L1 Ln K595 h592 f593 f594 => ?_)))))
         obtain ⟨q596, h597, rfl, rfl, z598, rfl, h599⟩ := h592
         refine nm ?_
         refine ad9 rfl rfl (by omega) ?_
         refine cT rfl rfl (randomAutomaton_ok q596 ((1 : Int) + z598) (by first | assumption | omega) (by omega) hr) (fun v602 L1 Ln K606 h603 f604 f605 => ?_)
         obtain ⟨q607, h608, rfl, H611, z609, rfl, o612, h610⟩ := h603
         have f613 := f604 _ (.head _)
         have h610a := h610.1
         have h610b := h610.2
         refine nm ?_
         refine fV rfl (sB rfl rfl rfl (OwnL.oneCell ‹_›) (OwnL.cells ‹_›) ?_)
         refine cg [sing br (.cells [vbr, .int .i64 (q607 : Int)].toArray 84 (0, 0)), H611, sing b37 (.cells [.int .i64 ((1 : Int) + z21), v25, .slice none 0 0, .int .i64 (0 : Int), v602].toArray 88 (0, 0)), H34, sing b1 (.cells [.int .i64 (0 : Int), .slice none 0 0, .slice none 0 0, .int .i64 (0 : Int), .slice none 0 0].toArray 88 (0, 0))] rfl ?_
         refine ln (qc (cr (fV rfl (lB rfl rfl (lL rfl o612 (fun l614 => ?_))))))
         refine sb9 rfl rfl (by omega) ?_
         refine bs9 rfl rfl rfl (by decide) (ca rfl ca_nil) (fun v615 H616 f617 r618 s619 => ?_)
         have h620 : Ints H616 v615 [((z609.length : Int) - (1 : Int))] := litInts (xs := [((z609.length : Int) - (1 : Int))]) (by simpa using s619)
         refine fV rfl (sB rfl rfl rfl (Sl.oneCell ‹_›) (Sl.cells ‹_›) ?_)
         refine cg [sing br (.cells [vbr, .int .i64 (q607 : Int)].toArray 84 (0, 0)), H611, sing b37 (.cells [.int .i64 ((1 : Int) + z21), v25, v615, .int .i64 (0 : Int), v602].toArray 88 (0, 0)), H34, sing b1 (.cells [.int .i64 (0 : Int), .slice none 0 0, .slice none 0 0, .int .i64 (0 : Int), .slice none 0 0].toArray 88 (0, 0))] rfl ?_
         refine ln (qc (cS (cr (kl_ldW rfl rfl (kl_stW (us := [.int .i64 ((1 : Int) + z21), v25, v615, .int .i64 (0 : Int), v602]) rfl rfl rfl rfl (oc rfl (oc (OwnL.oneCell ‹_›) (oc (Sl.oneCell ‹_›) (oc rfl (oc (OwnL.oneCell ‹_›) oc_nil))))) rfl ?_)))))
         refine cg [sing br (.cells [vbr, .int .i64 (q607 : Int)].toArray 84 (0, 0)), H611, sing b37 (.cells [.int .i64 ((1 : Int) + z21), v25, v615, .int .i64 (0 : Int), v602].toArray 88 (0, 0)), H34, sing b1 (.cells [.int .i64 ((1 : Int) + z21), v25, v615, .int .i64 (0 : Int), v602].toArray 88 (0, 0))] rfl ?_
         refine ln (qc (rt (kq_frz H34 ?_)))
         refine kq_frz H611 ?_
         refine kq_cmp H611 K606 (fun c621 => ?_)
         refine kq_cmp H616 (orHp H611 K606) (fun c622 => ?_)
         refine kq_cmp H34 (orHp H616 (orHp H611 K606)) (fun c623 => ?_)
         exact rC rfl rfl rfl [sing br (.cells [vbr, .int .i64 (q607 : Int)].toArray 84 (0, 0))] [] (orHp H34 (orHp H616 (orHp H611 K606))) frn (fr_or f36 (fr_or f617 (fr_or f613 f605))) ⟨q607, by omega, rfl, ⟨((1 : Int) + z21), z32, ([((z609.length : Int) - (1 : Int))]), (0 : Int), z609⟩, rfl, ⟨_, rfl, _, _, _, rfl, (Sl.mono (OwnL.ints o35) (fun b o h => orL b o h) (fun _ _ h => h)), (Sl.mono ‹_› (fun b o h => orC c623 b o (orL b o h)) (fun _ _ h => h)), (Rows.mono' (OwnL.rowsK o612 c621) (fun b o h => orC c623 b o (orC c622 b o h)))⟩, by (constructor <;> dsimp only <;> first | omega | exact all_nil | assumption | (simp; done) | (simp; omega) | (simp only [List.length_cons, List.length_nil]; omega))⟩
        ·refine sk (qc (cS (cr (kl_ldW rfl rfl (kl_stW (us := [.int .i64 ((1 : Int) + z21), v25, .slice none 0 0, .int .i64 (0 : Int), .slice none 0 0]) rfl rfl rfl rfl (oc rfl (oc (OwnL.oneCell ‹_›) (oc rfl (oc rfl (oc rfl oc_nil))))) rfl ?_)))))
         refine cg [sing b37 (.cells [.int .i64 ((1 : Int) + z21), v25, .slice none 0 0, .int .i64 (0 : Int), .slice none 0 0].toArray 88 (0, 0)), sing br (.cells [vbr, .int .i64 (q30 : Int)].toArray 84 (0, 0)), H34, sing b1 (.cells [.int .i64 ((1 : Int) + z21), v25, .slice none 0 0, .int .i64 (0 : Int), .slice none 0 0].toArray 88 (0, 0))] rfl ?_
         refine ln (qc (rt (kq_frz H34 ?_)))
         refine kq_cmp noHp noHp (fun c624 => ?_)
         refine kq_cmp H34 (orHp noHp noHp) (fun c625 => ?_)
         exact rC rfl rfl rfl [sing br (.cells [vbr, .int .i64 (q30 : Int)].toArray 84 (0, 0))] [] (orHp H34 (orHp noHp noHp)) frn (fr_or f36 (fr_or (fr_no _) (fr_no _))) ⟨q30, by omega, rfl, ⟨((1 : Int) + z21), z32, [], (0 : Int), []⟩, rfl, ⟨_, rfl, _, _, _, rfl, (Sl.mono (OwnL.ints o35) (fun b o h => orL b o h) (fun _ _ h => h)), (Sl.mono Sl.nil (fun b o h => orC c625 b o (orL b o h)) (fun _ _ h => h)), (Sl.mono Sl.nil (fun b o h => orC c625 b o (orC c624 b o h)) (fun _ _ h => h))⟩, by (constructor <;> dsimp only <;> first | omega | exact all_nil | assumption | (simp; done) | (simp; omega) | (simp only [List.length_cons, List.length_nil]; omega))⟩
end
section
theorem damage_ok {br : Nat} {vbr : Value} {Hr : Hp} {bsr : List Int} {Hcv : Hp} {vcv : Value} {Hca : Hp} {vca : Value} {Hcr : Hp} {vcr : Value} (pr : Nat) (c : Con) (hc : ConSm 50 c) (hp : pr + (3) ≤ 1000000) (hr : Bytes Hr vbr bsr) (hcv : Ints Hcv vcv c.vars) (hca : Ints Hca vca c.args) (hcr : Rows Hcr vcr c.rows) : SpecT Tryz.prog 102 [.pointer (some ⟨br, 0, none⟩), .agg #[.int .i64 c.kind, vcv, vca, .int .i64 c.bound, vcr]] [sing br (.cells [vbr, .int .i64 (pr : Int)].toArray 84 (0, 0))] [Hr, Hcv, Hca, Hcr] (fun vq L1 Ln Kq => ∃ q : Nat, q ≤ pr + (3) ∧ L1 = [sing br (.cells [vbr, .int .i64 (q : Int)].toArray 84 (0, 0))] ∧ ∃ cq : Con, Ln = [] ∧ ConR (orHp Kq (orHp Hcv (orHp Hca Hcr))) vq cq ∧ ConSm 100 cq) := by
 refine specT_of Tryz.func102 rfl rfl rfl (fun B => ?_)
 refine cS (cr (kl_boxL (cs := [.int .i64 c.kind, vcv, vca, .int .i64 c.bound, vcr]) rfl rfl (fun b1 hb2 => ?_)))
 refine kl_alloc (cs := [.int .i64 (0 : Int), .slice none 0 0, .slice none 0 0, .int .i64 (0 : Int), .slice none 0 0]) rfl (fun b3 hb4 => ?_)
 refine ln (qc (cS (cS (cr (mv rfl (cT rfl rfl (pick_ok pr (5 : Int) (by omega) hr) (fun v5 L1 Ln K9 h6 f7 f8 => ?_)))))))
 obtain ⟨q10, h11, rfl, rfl, z12, rfl, h13⟩ := h6
 refine nm ?_
 refine ln (qc (bl (cS (cr (eq9 rfl rfl ?_)))))
 refine sg rfl (ln (qc (ci9 rfl (fun c16 => ?_) (fun c16 => ?_))))
 ·refine cr (mv rfl (bs9 rfl rfl rfl (by decide) (ca rfl (ca rfl (ca rfl (ca rfl ca_nil)))) (fun v17 H18 f19 r20 s21 => ?_)))
  have h22 : Ints H18 v17 [(0 : Int), (10 : Int), (1 : Int), (5 : Int)] := litInts (xs := [(0 : Int), (10 : Int), (1 : Int), (5 : Int)]) (by simpa using s21)
  refine cT rfl rfl (one_ok q10 ([(0 : Int), (10 : Int), (1 : Int), (5 : Int)]) (by first | (simp; done) | omega) (by omega) hr ‹_›) (fun v23 L1 Ln K27 h24 f25 f26 => ?_)
  obtain ⟨q28, h29, rfl, rfl, z30, rfl, h31⟩ := h24
  refine nm ?_
  refine fV rfl (sB rfl rfl rfl rfl rfl ?_)
  refine cg [sing br (.cells [vbr, .int .i64 (q28 : Int)].toArray 84 (0, 0)), sing b3 (.cells [.int .i64 (0 : Int), .slice none 0 0, .slice none 0 0, .int .i64 (0 : Int), .slice none 0 0].toArray 88 (0, 0)), sing b1 (.cells [.int .i64 z30, vcv, vca, .int .i64 c.bound, vcr].toArray 88 (0, 0))] rfl ?_
  refine ln (qc (cS (cr (kl_ldW rfl rfl (kl_stW (us := [.int .i64 z30, vcv, vca, .int .i64 c.bound, vcr]) rfl rfl rfl rfl (oc rfl (oc (Sl.oneCell ‹_›) (oc (Sl.oneCell ‹_›) (oc rfl (oc (Sl.oneCell ‹_›) oc_nil))))) rfl ?_)))))
  refine cg [sing br (.cells [vbr, .int .i64 (q28 : Int)].toArray 84 (0, 0)), sing b3 (.cells [.int .i64 z30, vcv, vca, .int .i64 c.bound, vcr].toArray 88 (0, 0)), sing b1 (.cells [.int .i64 z30, vcv, vca, .int .i64 c.bound, vcr].toArray 88 (0, 0))] rfl ?_
  refine ln (qc (rt (kq_cmp Hca Hcr (fun c34 => ?_))))
  refine kq_cmp Hcv (orHp Hca Hcr) (fun c35 => ?_)
  refine kq_cmp noHp (orHp Hcv (orHp Hca Hcr)) (fun c36 => ?_)
  exact rC rfl rfl rfl [sing br (.cells [vbr, .int .i64 (q28 : Int)].toArray 84 (0, 0))] [] noHp frn (fr_no _) ⟨q28, by omega, rfl, ⟨z30, c.vars, c.args, c.bound, c.rows⟩, rfl, ⟨_, rfl, _, _, _, rfl, (Sl.mono ‹_› (fun b o h => orC c36 b o (orL b o h)) (fun _ _ h => h)), (Sl.mono ‹_› (fun b o h => orC c36 b o (orC c35 b o (orL b o h))) (fun _ _ h => h)), (Rows.mono' ‹_› (fun b o h => orC c36 b o (orC c35 b o (orC c34 b o h))))⟩, by (have h1 := hc.v1; have h2 := hc.v; have h3 := hc.a; have h4 := hc.r; have h5 := hc.rr; constructor <;> dsimp only <;> first | omega | assumption | (simp; done) | (simp; omega))⟩
 ·refine cS (cr (eq9 rfl rfl ?_))
  refine sg rfl (ln (qc (ci9 rfl (fun c37 => ?_) (fun c37 => ?_))))
  ·refine kc_tree (fun i => ([8, 10] : List Nat).contains i) [sing b1 (.cells [.int .i64 c.kind, vcv, vca, .int .i64 c.bound, vcr].toArray 88 (0, 0))] (by kernel_rfl) ?_
   refine kt_q 0 (.cons _ (.cons _ (.cons_cons _ nsl))) rfl (by kernel_rfl) (fV rfl (ln (qq (kt_q 1 (.cons _ (.cons _ (.cons_cons _ nsl))) rfl (by kernel_rfl) (ld rfl (at_box (T := 88) (cs := [.int .i64 c.kind, vcv, vca, .int .i64 c.bound, vcr]) (off := 1) (fz := (0, 0))) (ln (qq (kt_q 3 (.cons _ (.cons _ (.cons_cons _ nsl))) rfl (by kernel_rfl) ?_))))))))
   refine fV rfl (ln (qq (kt_q 4 (.cons _ (.cons _ (.cons_cons _ nsl))) rfl (by kernel_rfl) (ld rfl (at_box (T := 88) (cs := [.int .i64 c.kind, vcv, vca, .int .i64 c.bound, vcr]) (off := 1) (fz := (0, 0))) (ln (qq (kt_q 5 (.cons _ (.cons _ (.cons_cons _ nsl))) rfl (by kernel_rfl) (kl_inI (i := 0) rfl rfl ‹_› (by (have h1 := hc.v1; omega)) (fun p38 a39 => ?_)))))))))
   refine ln (qq (kt_q 6 (.cons _ (.cons _ (.cons_cons _ nsl))) rfl (by kernel_rfl) (ld rfl ‹_› (ln (qq (kt_b 2 7 rfl rfl (by kernel_rfl) ?_ ?_))))))
   ·refine kl_callL rfl rfl (copyInts_ok c.vars (by have h1 := hc.v; have h2 := hc.a; omega) ‹_›) (fun v40 H41 f42 o43 => ?_)
    refine ln (qa (.cons _ (.cons _ (.cons _ (.cons_cons _ nsl)))) (ta 7 rfl (bs9 rfl rfl rfl (by decide) (ca rfl ca_nil) (fun v44 H45 f46 r47 s48 => ?_))))
    have h49 : Ints H45 v44 [(c.vars.getD 0 0)] := litInts (xs := [(c.vars.getD 0 0)]) (by simpa using s48)
    refine ln (qa (.cons _ (.cons _ (.cons _ (.cons_cons _ nsl)))) (ta 8 rfl (aL9 (c.vars.getD 0 0) rfl rfl o43 ‹_› rfl (oc rfl oc_nil) (by (have h1 := hc.v; have h2 := hc.a; omega)) (by decide) (fun v50 H51 o52 f53 => ?_))))
    have f54 := f53 B f42 (Nat.le_refl _)
    refine ln (qx rfl (kt_q 9 (.cons _ (.cons _ (.cons _ (.cons_cons _ nsl)))) rfl (by kernel_rfl) (fV rfl (ln (qq (ta 10 rfl (sB rfl rfl rfl (OwnL.oneCell ‹_›) (OwnL.cells ‹_›) ?_)))))))
    refine cg [H51, sing br (.cells [vbr, .int .i64 (q10 : Int)].toArray 84 (0, 0)), sing b3 (.cells [.int .i64 (0 : Int), .slice none 0 0, .slice none 0 0, .int .i64 (0 : Int), .slice none 0 0].toArray 88 (0, 0)), sing b1 (.cells [.int .i64 c.kind, v50, vca, .int .i64 c.bound, vcr].toArray 88 (0, 0))] rfl ?_
    refine ln (qx rfl (kt_end (by kernel_rfl) ?_))
    refine qc (cS (cr (kl_ldW rfl rfl (kl_stW (us := [.int .i64 c.kind, v50, vca, .int .i64 c.bound, vcr]) rfl rfl rfl rfl (oc rfl (oc (OwnL.oneCell ‹_›) (oc (Sl.oneCell ‹_›) (oc rfl (oc (Sl.oneCell ‹_›) oc_nil))))) rfl ?_))))
    refine cg [H51, sing br (.cells [vbr, .int .i64 (q10 : Int)].toArray 84 (0, 0)), sing b3 (.cells [.int .i64 c.kind, v50, vca, .int .i64 c.bound, vcr].toArray 88 (0, 0)), sing b1 (.cells [.int .i64 c.kind, v50, vca, .int .i64 c.bound, vcr].toArray 88 (0, 0))] rfl ?_
    refine ln (qc (rt (kq_frz H51 ?_)))
    refine kq_cmp Hca Hcr (fun c55 => ?_)
    refine kq_cmp Hcv (orHp Hca Hcr) (fun c56 => ?_)
    refine kq_cmp H51 (orHp Hcv (orHp Hca Hcr)) (fun c57 => ?_)
    exact rC rfl rfl rfl [sing br (.cells [vbr, .int .i64 (q10 : Int)].toArray 84 (0, 0))] [] H51 frn f54 ⟨q10, by omega, rfl, ⟨c.kind, (c.vars ++ [(c.vars.getD 0 0)]), c.args, c.bound, c.rows⟩, rfl, ⟨_, rfl, _, _, _, rfl, (Sl.mono (OwnL.ints o52) (fun b o h => orL b o h) (fun _ _ h => h)), (Sl.mono ‹_› (fun b o h => orC c57 b o (orC c56 b o (orL b o h))) (fun _ _ h => h)), (Rows.mono' ‹_› (fun b o h => orC c57 b o (orC c56 b o (orC c55 b o h))))⟩, by (have h1 := hc.v1; have h2 := hc.v; have h3 := hc.a; have h4 := hc.r; have h5 := hc.rr; constructor <;> dsimp only <;> first | omega | assumption | (simp; done) | (simp; omega))⟩
   ·refine bs9 rfl rfl rfl (by decide) (ca rfl ca_nil) (fun v58 H59 f60 r61 s62 => ?_)
    have h63 : Ints H59 v58 [(c.vars.getD 0 0)] := litInts (xs := [(c.vars.getD 0 0)]) (by simpa using s62)
    refine ln (qa (.cons _ (.cons _ (.cons_cons _ nsl))) (ta 2 rfl (kl_callL rfl rfl (copyInts_ok c.vars (by have h1 := hc.v; have h2 := hc.a; omega) ‹_›) (fun v64 H65 f66 o67 => ?_))))
    refine ln (qa (.cons _ (.cons _ (.cons _ (.cons_cons _ nsl)))) (ta 8 rfl (aL9 (c.vars.getD 0 0) rfl rfl o67 ‹_› rfl (oc rfl oc_nil) (by (have h1 := hc.v; have h2 := hc.a; omega)) (by decide) (fun v68 H69 o70 f71 => ?_))))
    have f72 := f71 B f66 (Nat.le_refl _)
    refine ln (qx rfl (kt_q 9 (.cons _ (.cons _ (.cons _ (.cons_cons _ nsl)))) rfl (by kernel_rfl) (fV rfl (ln (qq (ta 10 rfl (sB rfl rfl rfl (OwnL.oneCell ‹_›) (OwnL.cells ‹_›) ?_)))))))
    refine cg [H69, sing br (.cells [vbr, .int .i64 (q10 : Int)].toArray 84 (0, 0)), sing b3 (.cells [.int .i64 (0 : Int), .slice none 0 0, .slice none 0 0, .int .i64 (0 : Int), .slice none 0 0].toArray 88 (0, 0)), sing b1 (.cells [.int .i64 c.kind, v68, vca, .int .i64 c.bound, vcr].toArray 88 (0, 0))] rfl ?_
    refine ln (qx rfl (kt_end (by kernel_rfl) ?_))
    refine qc (cS (cr (kl_ldW rfl rfl (kl_stW (us := [.int .i64 c.kind, v68, vca, .int .i64 c.bound, vcr]) rfl rfl rfl rfl (oc rfl (oc (OwnL.oneCell ‹_›) (oc (Sl.oneCell ‹_›) (oc rfl (oc (Sl.oneCell ‹_›) oc_nil))))) rfl ?_))))
    refine cg [H69, sing br (.cells [vbr, .int .i64 (q10 : Int)].toArray 84 (0, 0)), sing b3 (.cells [.int .i64 c.kind, v68, vca, .int .i64 c.bound, vcr].toArray 88 (0, 0)), sing b1 (.cells [.int .i64 c.kind, v68, vca, .int .i64 c.bound, vcr].toArray 88 (0, 0))] rfl ?_
    refine ln (qc (rt (kq_frz H69 ?_)))
    refine kq_cmp Hca Hcr (fun c73 => ?_)
    refine kq_cmp Hcv (orHp Hca Hcr) (fun c74 => ?_)
    refine kq_cmp H69 (orHp Hcv (orHp Hca Hcr)) (fun c75 => ?_)
    exact rC rfl rfl rfl [sing br (.cells [vbr, .int .i64 (q10 : Int)].toArray 84 (0, 0))] [] H69 frn f72 ⟨q10, by omega, rfl, ⟨c.kind, (c.vars ++ [(c.vars.getD 0 0)]), c.args, c.bound, c.rows⟩, rfl, ⟨_, rfl, _, _, _, rfl, (Sl.mono (OwnL.ints o70) (fun b o h => orL b o h) (fun _ _ h => h)), (Sl.mono ‹_› (fun b o h => orC c75 b o (orC c74 b o (orL b o h))) (fun _ _ h => h)), (Rows.mono' ‹_› (fun b o h => orC c75 b o (orC c74 b o (orC c73 b o h))))⟩, by (have h1 := hc.v1; have h2 := hc.v; have h3 := hc.a; have h4 := hc.r; have h5 := hc.rr; constructor <;> dsimp only <;> first | omega | assumption | (simp; done) | (simp; omega))⟩
  ·refine cS (cr (eq9 rfl rfl ?_))
   refine sg rfl (ln (qc (ci9 rfl (fun c76 => ?_) (fun c76 => ?_))))
   ·refine cr (fV rfl (lB rfl rfl (kl_callL rfl rfl (copyInts_ok c.args (by have h1 := hc.v; have h2 := hc.a; omega) ‹_›) (fun v77 H78 f79 o80 => ?_))))
    refine bs9 rfl rfl rfl (by decide) (ca rfl ca_nil) (fun v81 H82 f83 r84 s85 => ?_)
    have h86 : Ints H82 v81 [(1 : Int)] := litInts (xs := [(1 : Int)]) (by simpa using s85)
    refine aL9 (1 : Int) rfl rfl o80 ‹_› rfl (oc rfl oc_nil) (by (have h1 := hc.v; have h2 := hc.a; omega)) (by decide) (fun v87 H88 o89 f90 => ?_)
    have f91 := f90 B f79 (Nat.le_refl _)
    refine fV rfl (sB rfl rfl rfl (OwnL.oneCell ‹_›) (OwnL.cells ‹_›) ?_)
    refine cg [H88, sing br (.cells [vbr, .int .i64 (q10 : Int)].toArray 84 (0, 0)), sing b3 (.cells [.int .i64 (0 : Int), .slice none 0 0, .slice none 0 0, .int .i64 (0 : Int), .slice none 0 0].toArray 88 (0, 0)), sing b1 (.cells [.int .i64 c.kind, vcv, v87, .int .i64 c.bound, vcr].toArray 88 (0, 0))] rfl ?_
    refine ln (qc (cS (cr (kl_ldW rfl rfl (kl_stW (us := [.int .i64 c.kind, vcv, v87, .int .i64 c.bound, vcr]) rfl rfl rfl rfl (oc rfl (oc (Sl.oneCell ‹_›) (oc (OwnL.oneCell ‹_›) (oc rfl (oc (Sl.oneCell ‹_›) oc_nil))))) rfl ?_)))))
    refine cg [H88, sing br (.cells [vbr, .int .i64 (q10 : Int)].toArray 84 (0, 0)), sing b3 (.cells [.int .i64 c.kind, vcv, v87, .int .i64 c.bound, vcr].toArray 88 (0, 0)), sing b1 (.cells [.int .i64 c.kind, vcv, v87, .int .i64 c.bound, vcr].toArray 88 (0, 0))] rfl ?_
    refine ln (qc (rt (kq_frz H88 ?_)))
    refine kq_cmp Hca Hcr (fun c92 => ?_)
    refine kq_cmp Hcv (orHp Hca Hcr) (fun c93 => ?_)
    refine kq_cmp H88 (orHp Hcv (orHp Hca Hcr)) (fun c94 => ?_)
    exact rC rfl rfl rfl [sing br (.cells [vbr, .int .i64 (q10 : Int)].toArray 84 (0, 0))] [] H88 frn f91 ⟨q10, by omega, rfl, ⟨c.kind, c.vars, (c.args ++ [(1 : Int)]), c.bound, c.rows⟩, rfl, ⟨_, rfl, _, _, _, rfl, (Sl.mono ‹_› (fun b o h => orC c94 b o (orL b o h)) (fun _ _ h => h)), (Sl.mono (OwnL.ints o89) (fun b o h => orL b o h) (fun _ _ h => h)), (Rows.mono' ‹_› (fun b o h => orC c94 b o (orC c93 b o (orC c92 b o h))))⟩, by (have h1 := hc.v1; have h2 := hc.v; have h3 := hc.a; have h4 := hc.r; have h5 := hc.rr; constructor <;> dsimp only <;> first | omega | assumption | (simp; done) | (simp; omega))⟩
   ·refine cS (cr (eq9 rfl rfl ?_))
    refine sg rfl (ln (qc (ci9 rfl (fun c95 => ?_) (fun c95 => ?_))))
    ·refine cr (mv rfl (bs9 rfl rfl rfl (by decide) (ca rfl (ca rfl (ca rfl ca_nil))) (fun v96 H97 f98 r99 s100 => ?_)))
     have h101 : Ints H97 v96 [(-1000 : Int), (1000 : Int), (5 : Int)] := litInts (xs := [(-1000 : Int), (1000 : Int), (5 : Int)]) (by simpa using s100)
     refine cT rfl rfl (one_ok q10 ([(-1000 : Int), (1000 : Int), (5 : Int)]) (by first | (simp; done) | omega) (by omega) hr ‹_›) (fun v102 L1 Ln K106 h103 f104 f105 => ?_)
     obtain ⟨q107, h108, rfl, rfl, z109, rfl, h110⟩ := h103
     refine nm ?_
     refine fV rfl (sB rfl rfl rfl rfl rfl ?_)
     refine cg [sing br (.cells [vbr, .int .i64 (q107 : Int)].toArray 84 (0, 0)), sing b3 (.cells [.int .i64 (0 : Int), .slice none 0 0, .slice none 0 0, .int .i64 (0 : Int), .slice none 0 0].toArray 88 (0, 0)), sing b1 (.cells [.int .i64 c.kind, vcv, vca, .int .i64 z109, vcr].toArray 88 (0, 0))] rfl ?_
     refine ln (qc (cS (cr (kl_ldW rfl rfl (kl_stW (us := [.int .i64 c.kind, vcv, vca, .int .i64 z109, vcr]) rfl rfl rfl rfl (oc rfl (oc (Sl.oneCell ‹_›) (oc (Sl.oneCell ‹_›) (oc rfl (oc (Sl.oneCell ‹_›) oc_nil))))) rfl ?_)))))
     refine cg [sing br (.cells [vbr, .int .i64 (q107 : Int)].toArray 84 (0, 0)), sing b3 (.cells [.int .i64 c.kind, vcv, vca, .int .i64 z109, vcr].toArray 88 (0, 0)), sing b1 (.cells [.int .i64 c.kind, vcv, vca, .int .i64 z109, vcr].toArray 88 (0, 0))] rfl ?_
     refine ln (qc (rt (kq_cmp Hca Hcr (fun c113 => ?_))))
     refine kq_cmp Hcv (orHp Hca Hcr) (fun c114 => ?_)
     refine kq_cmp noHp (orHp Hcv (orHp Hca Hcr)) (fun c115 => ?_)
     exact rC rfl rfl rfl [sing br (.cells [vbr, .int .i64 (q107 : Int)].toArray 84 (0, 0))] [] noHp frn (fr_no _) ⟨q107, by omega, rfl, ⟨c.kind, c.vars, c.args, z109, c.rows⟩, rfl, ⟨_, rfl, _, _, _, rfl, (Sl.mono ‹_› (fun b o h => orC c115 b o (orL b o h)) (fun _ _ h => h)), (Sl.mono ‹_› (fun b o h => orC c115 b o (orC c114 b o (orL b o h))) (fun _ _ h => h)), (Rows.mono' ‹_› (fun b o h => orC c115 b o (orC c114 b o (orC c113 b o h))))⟩, by (have h1 := hc.v1; have h2 := hc.v; have h3 := hc.a; have h4 := hc.r; have h5 := hc.rr; constructor <;> dsimp only <;> first | omega | assumption | (simp; done) | (simp; omega))⟩
    ·refine cr (mv rfl (bs9 rfl rfl rfl (by decide) (ca rfl (ca rfl ca_nil)) (fun v116 H117 f118 r119 s120 => ?_)))
     have h121 : Ints H117 v116 [(-1 : Int), (4 : Int)] := litInts (xs := [(-1 : Int), (4 : Int)]) (by simpa using s120)
     refine cT rfl rfl (one_ok q10 ([(-1 : Int), (4 : Int)]) (by first | (simp; done) | omega) (by omega) hr ‹_›) (fun v122 L1 Ln K126 h123 f124 f125 => ?_)
     obtain ⟨q127, h128, rfl, rfl, z129, rfl, h130⟩ := h123
     refine nm ?_
     refine bs9 rfl rfl rfl (by decide) (ca rfl ca_nil) (fun v133 H134 f135 r136 s137 => ?_)
     have h138 : Ints H134 v133 [z129] := litInts (xs := [z129]) (by simpa using s137)
     refine fV rfl (sB rfl rfl rfl (Sl.oneCell ‹_›) (Sl.cells ‹_›) ?_)
     refine cg [sing br (.cells [vbr, .int .i64 (q127 : Int)].toArray 84 (0, 0)), sing b3 (.cells [.int .i64 (0 : Int), .slice none 0 0, .slice none 0 0, .int .i64 (0 : Int), .slice none 0 0].toArray 88 (0, 0)), sing b1 (.cells [.int .i64 c.kind, v133, vca, .int .i64 c.bound, vcr].toArray 88 (0, 0))] rfl ?_
     refine ln (qc (cS (cr (kl_ldW rfl rfl (kl_stW (us := [.int .i64 c.kind, v133, vca, .int .i64 c.bound, vcr]) rfl rfl rfl rfl (oc rfl (oc (Sl.oneCell ‹_›) (oc (Sl.oneCell ‹_›) (oc rfl (oc (Sl.oneCell ‹_›) oc_nil))))) rfl ?_)))))
     refine cg [sing br (.cells [vbr, .int .i64 (q127 : Int)].toArray 84 (0, 0)), sing b3 (.cells [.int .i64 c.kind, v133, vca, .int .i64 c.bound, vcr].toArray 88 (0, 0)), sing b1 (.cells [.int .i64 c.kind, v133, vca, .int .i64 c.bound, vcr].toArray 88 (0, 0))] rfl ?_
     refine ln (qc (rt (kq_cmp Hca Hcr (fun c139 => ?_))))
     refine kq_cmp Hcv (orHp Hca Hcr) (fun c140 => ?_)
     refine kq_cmp H134 (orHp Hcv (orHp Hca Hcr)) (fun c141 => ?_)
     exact rC rfl rfl rfl [sing br (.cells [vbr, .int .i64 (q127 : Int)].toArray 84 (0, 0))] [] H134 frn f135 ⟨q127, by omega, rfl, ⟨c.kind, ([z129]), c.args, c.bound, c.rows⟩, rfl, ⟨_, rfl, _, _, _, rfl, (Sl.mono ‹_› (fun b o h => orL b o h) (fun _ _ h => h)), (Sl.mono ‹_› (fun b o h => orC c141 b o (orC c140 b o (orL b o h))) (fun _ _ h => h)), (Rows.mono' ‹_› (fun b o h => orC c141 b o (orC c140 b o (orC c139 b o h))))⟩, by (have h1 := hc.v1; have h2 := hc.v; have h3 := hc.a; have h4 := hc.r; have h5 := hc.rr; constructor <;> dsimp only <;> first | omega | assumption | (simp; done) | (simp; omega))⟩
theorem randomModel_ok {br : Nat} {vbr : Value} {Hr : Hp} {bsr : List Int} (pr : Nat) (hp : pr + (500) ≤ 1000000) (hr : Bytes Hr vbr bsr) : SpecT Tryz.prog 101 [.pointer (some ⟨br, 0, none⟩)] [sing br (.cells [vbr, .int .i64 (pr : Int)].toArray 84 (0, 0))] [Hr] (fun vq L1 Ln Kq => ∃ q : Nat, q ≤ pr + (500) ∧ L1 = [sing br (.cells [vbr, .int .i64 (q : Int)].toArray 84 (0, 0))] ∧ ∃ (Hq Mq : Hp) (va vc : Value) (mq : Mod), vq = .agg #[va, vc] ∧ Ln = [Hq, Mq] ∧ OwnL 3 1 Hq noHp IntV va mq.doms ∧ OwnL 88 5 Mq Kq ConV vc mq.cons ∧ ModSm 50 mq) := by
 refine specT_of Tryz.func101 rfl rfl rfl (fun B => ?_)
 refine cS (cr (kl_alloc (cs := [.slice none 0 0, .slice none 0 0]) rfl (fun b1 hb2 => ?_)))
 refine ln (qc (cS (cr (kl_bd rfl cp_nil rfl ?_))))
 refine kl_alloc (cs := [.slice none 0 0, .slice none 0 0]) rfl (fun b3 hb4 => ?_)
 refine kl_stW (us := [.slice none 0 0, .slice none 0 0]) rfl rfl rfl rfl (oc rfl (oc rfl oc_nil)) rfl ?_
 refine cg [sing b3 (.cells [.slice none 0 0, .slice none 0 0].toArray 26 (0, 0)), sing b1 (.cells [.slice none 0 0, .slice none 0 0].toArray 26 (0, 0)), sing br (.cells [vbr, .int .i64 (pr : Int)].toArray 84 (0, 0))] rfl ?_
 refine ln (qc (cS (cS (cr (mv rfl (cT rfl rfl (pick_ok pr (4 : Int) (by omega) hr) (fun v5 L1 Ln K9 h6 f7 f8 => ?_)))))))
 obtain ⟨q10, h11, rfl, rfl, z12, rfl, h13⟩ := h6
 refine nm ?_
 refine ad9 rfl rfl (by omega) ?_
 refine sg rfl (ln (qc (bl (kc_no ?_))))
 refine kc_loopL (A := Int × List Int × Value × Hp × Nat) (fun zz => (0 ≤ zz.1 ∧ zz.1 ≤ 4 ∧ zz.2.1.length + zz.1.toNat ≤ 4 ∧ 1 ≤ zz.2.1.length + zz.1.toNat) ∧ OwnL 3 1 zz.2.2.2.1 noHp IntV zz.2.2.1 zz.2.1 ∧ Fr B zz.2.2.2.1 ∧ zz.2.2.2.2 ≤ q10 + 3 * (4 - zz.1).toNat) (fun zz => zz.1.toNat) (fun zz => [zz.2.2.2.1, sing br (.cells [vbr, .int .i64 (zz.2.2.2.2 : Int)].toArray 84 (0, 0)), sing b3 (.cells [zz.2.2.1, .slice none 0 0].toArray 26 (0, 0)), sing b1 (.cells [.slice none 0 0, .slice none 0 0].toArray 26 (0, 0))]) (fun zz => [(4, .int .i64 zz.1)]) (((1 : Int) + z12), [], .slice none 0 0, noHp, q10) (pk [0, 2, 3] rfl) (pc 4 rfl pn) rfl ⟨⟨by dsimp only; omega, by dsimp only; omega, by dsimp only; simp; omega, by dsimp only; simp; omega⟩, OwnL.nil, (fr_no _), (by first | omega | (dsimp only; omega))⟩ ?_
 rintro ⟨k, ds, v21, H18, q23⟩ hJ25
 obtain ⟨hi17, o19, f20, hq24⟩ : (0 ≤ k ∧ k ≤ 4 ∧ ds.length + k.toNat ≤ 4 ∧ 1 ≤ ds.length + k.toNat) ∧ OwnL 3 1 H18 noHp IntV v21 ds ∧ Fr B H18 ∧ q23 ≤ q10 + 3 * (4 - k).toNat := hJ25
 change KC _ _ (_) [H18, sing br (.cells [vbr, .int .i64 (q23 : Int)].toArray 84 (0, 0)), sing b3 (.cells [v21, .slice none 0 0].toArray 26 (0, 0)), sing b1 (.cells [.slice none 0 0, .slice none 0 0].toArray 26 (0, 0))] _ ([(4, .int .i64 k)] ++ _)
 refine cS (cS (cr (mv rfl (kl_gtr rfl rfl ?_))))
 refine ln (qc (ci9 rfl (fun c26 => ?_) (fun c26 => ?_)))
 ·refine sk (qc (cS (bl (kc_tree (fun i => ([5, 7] : List Nat).contains i) [sing b3 (.cells [v21, .slice none 0 0].toArray 26 (0, 0))] (by kernel_rfl) ?_))))
  refine kt_q 0 (.cons _ (.cons _ (.cons_cons _ nsl))) rfl (by kernel_rfl) (fV rfl (ln (qq (kt_q 1 (.cons _ (.cons _ (.cons_cons _ nsl))) rfl (by kernel_rfl) (ld rfl (at_box (T := 26) (cs := [v21, .slice none 0 0]) (off := 0) (fz := (0, 0))) (ln (qq (kt_q 2 (.cons _ (.cons _ (.cons_cons _ nsl))) rfl (by kernel_rfl) (mv rfl ?_)))))))))
  refine ln (qq (ta 3 rfl (cT rfl rfl (randomDomain_ok q23 (by omega) hr) (fun v27 L1 Ln K31 h28 f29 f30 => ?_))))
  obtain ⟨q32, h33, rfl, rfl, z34, rfl, h35⟩ := h28
  refine nm ?_
  refine ln (qa (.cons _ (.cons _ (.cons_cons _ nsl))) (ta 4 rfl (bs9 rfl rfl rfl (by decide) (ca rfl ca_nil) (fun v38 H39 f40 r41 s42 => ?_))))
  have h43 : Ints H39 v38 [z34] := litInts (xs := [z34]) (by simpa using s42)
  refine ln (qa (.cons _ (.cons _ (.cons_cons _ nsl))) (ta 5 rfl (aL9 z34 rfl rfl o19 ‹_› rfl (oc rfl oc_nil) (by omega) (by decide) (fun v44 H45 o46 f47 => ?_))))
  have f48 := f47 B f20 (Nat.le_refl _)
  refine ln (qx rfl (kt_q 6 (.cons _ (.cons _ (.cons_cons _ nsl))) rfl (by kernel_rfl) (fV rfl (ln (qq (ta 7 rfl (sB rfl rfl rfl (OwnL.oneCell ‹_›) (OwnL.cells ‹_›) ?_)))))))
  refine cg [sing br (.cells [vbr, .int .i64 (q32 : Int)].toArray 84 (0, 0)), H45, sing b3 (.cells [v44, .slice none 0 0].toArray 26 (0, 0)), sing b1 (.cells [.slice none 0 0, .slice none 0 0].toArray 26 (0, 0))] rfl ?_
  refine ln (qx rfl (kt_end (by kernel_rfl) ?_))
  refine qc (cr (mv rfl (sb9 rfl rfl (by omega) ?_)))
  refine sg rfl (ln (tk [H45, sing br (.cells [vbr, .int .i64 (q32 : Int)].toArray 84 (0, 0)), sing b3 (.cells [v44, .slice none 0 0].toArray 26 (0, 0)), sing b1 (.cells [.slice none 0 0, .slice none 0 0].toArray 26 (0, 0))] ?_))
  refine rL ((k - (1 : Int)), (ds ++ [z34]), v44, H45, q32) (by (dsimp only; omega)) (⟨⟨by dsimp only; omega, by dsimp only; omega, by simp; omega, by simp; omega⟩, o46, f48, (by first | omega | (dsimp only; omega))⟩) (pc 4 rfl pn) (pk [0, 2, 3] rfl) rfl slr9
 ·refine ex9 (qc (cS (cS (cr (mv rfl (cT rfl rfl (pick_ok q23 (5 : Int) (by omega) hr) (fun v49 L1 Ln K53 h50 f51 f52 => ?_)))))))
  obtain ⟨q54, h55, rfl, rfl, z56, rfl, h57⟩ := h50
  refine nm ?_
  refine sg rfl (ln (qc (bl (kc_no ?_))))
  refine kc_loopK (A := Int × List Con × Value × Hp × Hp × Nat) (fun zz => (0 ≤ zz.1 ∧ zz.1 ≤ 4 ∧ zz.2.1.length + zz.1.toNat ≤ 4 ∧ ∀ c ∈ zz.2.1, ConSm 50 c) ∧ Fr B zz.2.2.2.2.1 ∧ OwnL 88 5 zz.2.2.2.1 zz.2.2.2.2.1 ConV zz.2.2.1 zz.2.1 ∧ Fr B zz.2.2.2.1 ∧ zz.2.2.2.2.2 ≤ q54 + 100 * (4 - zz.1).toNat) (fun zz => zz.1.toNat) (fun zz => zz.2.2.2.2.1) (fun zz => [zz.2.2.2.1, sing br (.cells [vbr, .int .i64 (zz.2.2.2.2.2 : Int)].toArray 84 (0, 0)), H18, sing b3 (.cells [v21, zz.2.2.1].toArray 26 (0, 0)), sing b1 (.cells [.slice none 0 0, .slice none 0 0].toArray 26 (0, 0))]) (fun zz => [(5, .int .i64 zz.1)]) (z56, [], .slice none 0 0, noHp, noHp, q54) (pk [0, 2, 3] rfl) (pc 5 rfl pn) rfl ⟨⟨by dsimp only; omega, by dsimp only; omega, by dsimp only; simp; omega, all_nil⟩, (fr_no _), OwnL.nil, (fr_no _), (by first | omega | (dsimp only; omega))⟩ ?_
  rintro ⟨k, cs, v65, H62, K66, q69⟩ hJ71
  obtain ⟨hi61, f67, o63, f64, hq70⟩ : (0 ≤ k ∧ k ≤ 4 ∧ cs.length + k.toNat ≤ 4 ∧ ∀ c ∈ cs, ConSm 50 c) ∧ Fr B K66 ∧ OwnL 88 5 H62 K66 ConV v65 cs ∧ Fr B H62 ∧ q69 ≤ q54 + 100 * (4 - k).toNat := hJ71
  change KC _ _ (K66 :: _) [H62, sing br (.cells [vbr, .int .i64 (q69 : Int)].toArray 84 (0, 0)), H18, sing b3 (.cells [v21, v65].toArray 26 (0, 0)), sing b1 (.cells [.slice none 0 0, .slice none 0 0].toArray 26 (0, 0))] _ ([(5, .int .i64 k)] ++ _)
  have hall := hi61.2.2.2
  refine cS (cS (cr (mv rfl (kl_gtr rfl rfl ?_))))
  refine ln (qc (ci9 rfl (fun c72 => ?_) (fun c72 => ?_)))
  ·refine sk (qc (cS (bl (kc_tree (fun i => ([8, 10] : List Nat).contains i) [sing b3 (.cells [v21, v65].toArray 26 (0, 0))] (by kernel_rfl) ?_))))
   refine kt_q 0 (.cons _ (.cons _ (.cons _ (.cons_cons _ nsl)))) rfl (by kernel_rfl) (fV rfl (ln (qq (kt_q 1 (.cons _ (.cons _ (.cons _ (.cons_cons _ nsl)))) rfl (by kernel_rfl) (ld rfl (at_box (T := 26) (cs := [v21, v65]) (off := 1) (fz := (0, 0))) (ln (qq (kt_q 2 (.cons _ (.cons _ (.cons _ (.cons_cons _ nsl)))) rfl (by kernel_rfl) ?_))))))))
   refine mv rfl (ln (qq (kt_q 3 (.cons _ (.cons _ (.cons _ (.cons_cons _ nsl)))) rfl (by kernel_rfl) (fV rfl (ln (qq (kt_q 4 (.cons _ (.cons _ (.cons _ (.cons_cons _ nsl)))) rfl (by kernel_rfl) (ld rfl (at_box (T := 26) (cs := [v21, v65]) (off := 0) (fz := (0, 0))) (ln (qq (kt_q 5 (.cons _ (.cons _ (.cons _ (.cons_cons _ nsl)))) rfl (by kernel_rfl) ?_)))))))))))
   refine lL rfl o19 (fun l73 => ?_)
   refine ln (qq (ta 6 rfl (cT rfl rfl (randomConstraint_ok q69 (ds.length : Int) (by first | assumption | omega) (by omega) hr) (fun v74 L1 Ln K78 h75 f76 f77 => ?_))))
   obtain ⟨q79, h80, rfl, z81, rfl, h85, h82⟩ := h75
   obtain ⟨_, rfl, h89⟩ := h85
   have h89' := h89
   obtain ⟨u86, u87, u88, rfl, h90, h91, h92⟩ := h89
   refine nm ?_
   refine ln (qa (.cons _ (.cons _ (.cons _ (.cons_cons _ nsl)))) (ta 7 rfl (kl_bsK rfl (fun v93 H94 f95 r96 => ?_))))
   refine ln (qa (.cons _ (.cons _ (.cons _ (.cons_cons _ nsl)))) (ta 8 rfl (cm9 K66 K78 (fun c97 => ?_))))
   have o98 := OwnL.mono (K' := orHp K66 K78) o63 orL
   refine aL9 z81 rfl rfl o98 r96 (RMono.mono (orC c97) ‹_›) (oc rfl (oc (Sl.oneCell ‹_›) (oc (Sl.oneCell ‹_›) (oc rfl (oc (Sl.oneCell ‹_›) oc_nil))))) (by omega) (by decide) (fun v99 H100 o101 f102 => ?_)
   have f103 := f102 B f64 (Nat.le_refl _)
   refine ln (qx rfl (kt_q 9 (.cons _ (.cons _ (.cons _ (.cons_cons _ nsl)))) rfl (by kernel_rfl) (fV rfl (ln (qq (ta 10 rfl (sB rfl rfl rfl (OwnL.oneCell ‹_›) (OwnL.cells ‹_›) ?_)))))))
   refine cg [sing br (.cells [vbr, .int .i64 (q79 : Int)].toArray 84 (0, 0)), H100, H18, sing b3 (.cells [v21, v99].toArray 26 (0, 0)), sing b1 (.cells [.slice none 0 0, .slice none 0 0].toArray 26 (0, 0))] rfl ?_
   refine ln (qx rfl (kt_end (by kernel_rfl) ?_))
   refine qc (cr (mv rfl (sb9 rfl rfl (by omega) ?_)))
   refine sg rfl (ln (tk [H100, sing br (.cells [vbr, .int .i64 (q79 : Int)].toArray 84 (0, 0)), H18, sing b3 (.cells [v21, v99].toArray 26 (0, 0)), sing b1 (.cells [.slice none 0 0, .slice none 0 0].toArray 26 (0, 0))] ?_))
   refine kq_roundK ((k - (1 : Int)), (cs ++ [z81]), v99, H100, (orHp K66 K78), q79) (by (dsimp only; omega)) (⟨⟨by dsimp only; omega, by dsimp only; omega, by simp; omega, all_snoc hi61.2.2.2 ‹_›⟩, (fr_or f67 f77), o101, f103, (by first | omega | (dsimp only; omega))⟩) (pc 5 rfl pn) (pk [0, 2, 3] rfl) rfl slr9
  ·refine ex9 (qc (cS (cr (kl_ldW rfl rfl (kl_stW (us := [v21, v65]) rfl rfl rfl rfl (oc (OwnL.oneCell ‹_›) (oc (OwnL.oneCell ‹_›) oc_nil)) rfl ?_)))))
   refine cg [H62, sing br (.cells [vbr, .int .i64 (q69 : Int)].toArray 84 (0, 0)), H18, sing b3 (.cells [v21, v65].toArray 26 (0, 0)), sing b1 (.cells [v21, v65].toArray 26 (0, 0))] rfl ?_
   refine ln (qc (rt ?_))
   exact rC rfl rfl rfl [sing br (.cells [vbr, .int .i64 (q69 : Int)].toArray 84 (0, 0))] [H18, H62] K66 (frc f20 (fr1 f64)) f67 ⟨q69, by omega, rfl, H18, H62, _, _, (⟨ds, cs⟩ : Mod), rfl, rfl, o19, o63, by (constructor <;> dsimp only <;> first | omega | assumption | (simp; done) | (simp; omega))⟩
theorem anyModel_ok {br : Nat} {vbr : Value} {Hr : Hp} {bsr : List Int} (pr : Nat) (hp : pr + (600) ≤ 1000000) (hr : Bytes Hr vbr bsr) : SpecT Tryz.prog 64 [.pointer (some ⟨br, 0, none⟩)] [sing br (.cells [vbr, .int .i64 (pr : Int)].toArray 84 (0, 0))] [Hr] (fun vq L1 Ln Kq => ∃ q : Nat, q ≤ pr + (600) ∧ L1 = [sing br (.cells [vbr, .int .i64 (q : Int)].toArray 84 (0, 0))] ∧ ∃ (Hq Mq : Hp) (va vc : Value) (mq : Mod), vq = .agg #[va, vc] ∧ Ln = [Hq, Mq] ∧ OwnL 3 1 Hq noHp IntV va mq.doms ∧ OwnL 88 5 Mq Kq ConV vc mq.cons ∧ ModSm 100 mq) := by
 refine specT_of Tryz.func64 rfl rfl rfl (fun B => ?_)
 refine cS (cr (kl_alloc (cs := [.slice none 0 0, .slice none 0 0]) rfl (fun b1 hb2 => ?_)))
 refine ln (qc (cS (cr (mv rfl (cT rfl rfl (randomModel_ok pr (by omega) hr) (fun v3 L1 Ln K7 h4 f5 f6 => ?_))))))
 obtain ⟨q8, h9, rfl, H12, M14, v15, v16, z10, rfl, rfl, o13, o17, h11⟩ := h4
 have f18 := f5 _ (.head _)
 have f19 := f5 _ (.tail _ (.head _))
 have hd1 := h11.d1
 have hd4 := h11.d
 have hc1 := h11.c
 have hcc := h11.cc
 refine nm ?_
 refine kl_alloc (cs := [.slice none 0 0, .slice none 0 0]) rfl (fun b20 hb21 => ?_)
 refine kl_stW (us := [v15, v16]) rfl rfl rfl rfl (oc (OwnL.oneCell ‹_›) (oc (OwnL.oneCell ‹_›) oc_nil)) rfl ?_
 refine cg [sing b20 (.cells [v15, v16].toArray 26 (0, 0)), sing br (.cells [vbr, .int .i64 (q8 : Int)].toArray 84 (0, 0)), H12, M14, sing b1 (.cells [.slice none 0 0, .slice none 0 0].toArray 26 (0, 0))] rfl ?_
 refine ln (qc (cS (cS (cr (mv rfl (cT rfl rfl (pick_ok q8 (16 : Int) (by omega) hr) (fun v22 L1 Ln K26 h23 f24 f25 => ?_)))))))
 obtain ⟨q27, h28, rfl, rfl, z29, rfl, h30⟩ := h23
 refine nm ?_
 refine ln (qc (bl (cS (cr (eq9 rfl rfl ?_)))))
 refine sg rfl (ln (qc (ci9 rfl (fun c33 => ?_) (fun c33 => ?_))))
 ·refine kc_tree (fun i => ([11] : List Nat).contains i) [sing b20 (.cells [v15, v16].toArray 26 (0, 0))] (by kernel_rfl) ?_
  refine kt_q 0 (.cons _ (.cons_cons _ nsl)) rfl (by kernel_rfl) (fV rfl (ln (qq (kt_q 1 (.cons _ (.cons_cons _ nsl)) rfl (by kernel_rfl) (ld rfl (at_box (T := 26) (cs := [v15, v16]) (off := 0) (fz := (0, 0))) (ln (qq (kt_q 2 (.cons _ (.cons_cons _ nsl)) rfl (by kernel_rfl) (mv rfl (ln (qq ?_)))))))))))
  refine kt_q 3 (.cons _ (.cons_cons _ nsl)) rfl (by kernel_rfl) (fV rfl (ln (qq (kt_q 4 (.cons _ (.cons_cons _ nsl)) rfl (by kernel_rfl) (ld rfl (at_box (T := 26) (cs := [v15, v16]) (off := 0) (fz := (0, 0))) (ln (qq (kt_q 5 (.cons _ (.cons_cons _ nsl)) rfl (by kernel_rfl) (lL rfl o13 (fun l34 => ?_))))))))))
  refine ln (qq (kt_q 7 (.cons _ (.cons_cons _ nsl)) rfl (by kernel_rfl) (mv rfl (ln (qq (kt_b 6 8 rfl rfl (by kernel_rfl) ?_ ?_))))))
  ·refine cT rfl rfl (pick_ok q27 (z10.doms.length : Int) (by omega) hr) (fun v35 L1 Ln K39 h36 f37 f38 => ?_)
   obtain ⟨q40, h41, rfl, rfl, z42, rfl, h43⟩ := h36
   refine nm ?_
   refine ln (qa (.cons _ (.cons_cons _ nsl)) (ta 8 rfl (bs9 rfl rfl rfl (by decide) (ca rfl (ca rfl (ca rfl ca_nil))) (fun v46 H47 f48 r49 s50 => ?_))))
   have h51 : Ints H47 v46 [(-1 : Int), (64 : Int), (0 : Int)] := litInts (xs := [(-1 : Int), (64 : Int), (0 : Int)]) (by simpa using s50)
   refine ln (qa (.cons _ (.cons_cons _ nsl)) (ta 9 rfl (cT rfl rfl (one_ok q40 ([(-1 : Int), (64 : Int), (0 : Int)]) (by simp) (by omega) hr ‹_›) (fun v52 L1 Ln K56 h53 f54 f55 => ?_))))
   obtain ⟨q57, h58, rfl, rfl, z59, rfl, h60⟩ := h53
   refine nm ?_
   refine ln (qa (.cons _ (.cons_cons _ nsl)) (kt_q 10 (.cons _ (.cons_cons _ nsl)) rfl (by kernel_rfl) (kl_ixL rfl rfl ‹_› (by omega) (by omega) (fun p63 q64 => ?_))))
   refine ln (qq (ta 11 rfl (kl_stL z59 rfl rfl ‹_› o13 (by omega) rfl rfl rfl (fun H65 o66 f67 => ?_))))
   have f68 := f67 _ f18
   refine cg [sing br (.cells [vbr, .int .i64 (q57 : Int)].toArray 84 (0, 0)), sing b20 (.cells [v15, v16].toArray 26 (0, 0)), H65, M14, sing b1 (.cells [.slice none 0 0, .slice none 0 0].toArray 26 (0, 0))] rfl ?_
   refine ln (qx rfl (kt_end (by kernel_rfl) ?_))
   refine qc (cS (cr (kl_ldW rfl rfl (kl_stW (us := [v15, v16]) rfl rfl rfl rfl (oc (OwnL.oneCell ‹_›) (oc (OwnL.oneCell ‹_›) oc_nil)) rfl ?_))))
   refine cg [sing br (.cells [vbr, .int .i64 (q57 : Int)].toArray 84 (0, 0)), sing b20 (.cells [v15, v16].toArray 26 (0, 0)), H65, M14, sing b1 (.cells [v15, v16].toArray 26 (0, 0))] rfl ?_
   refine ln (qc (rt ?_))
   exact rC rfl rfl rfl [sing br (.cells [vbr, .int .i64 (q57 : Int)].toArray 84 (0, 0))] [H65, M14] K7 (frc f68 (fr1 f19)) f6 ⟨q57, by omega, rfl, H65, M14, _, _, (⟨(z10.doms.set z42.toNat z59), z10.cons⟩ : Mod), rfl, rfl, o66, o17, by (constructor <;> dsimp only <;> first | omega | assumption | exact all_mono ‹_› | exact all_set (all_mono ‹_›) ‹_› | (simp; done) | (simp only [List.length_set]; omega) | (simp; omega))⟩
  ·refine bs9 rfl rfl rfl (by decide) (ca rfl (ca rfl (ca rfl ca_nil))) (fun v69 H70 f71 r72 s73 => ?_)
   have h74 : Ints H70 v69 [(-1 : Int), (64 : Int), (0 : Int)] := litInts (xs := [(-1 : Int), (64 : Int), (0 : Int)]) (by simpa using s73)
   refine ln (qa (.cons _ (.cons_cons _ nsl)) (ta 6 rfl (cT rfl rfl (pick_ok q27 (z10.doms.length : Int) (by omega) hr) (fun v75 L1 Ln K79 h76 f77 f78 => ?_))))
   obtain ⟨q80, h81, rfl, rfl, z82, rfl, h83⟩ := h76
   refine nm ?_
   refine ln (qa (.cons _ (.cons_cons _ nsl)) (ta 9 rfl (cT rfl rfl (one_ok q80 ([(-1 : Int), (64 : Int), (0 : Int)]) (by simp) (by omega) hr ‹_›) (fun v86 L1 Ln K90 h87 f88 f89 => ?_))))
   obtain ⟨q91, h92, rfl, rfl, z93, rfl, h94⟩ := h87
   refine nm ?_
   refine ln (qa (.cons _ (.cons_cons _ nsl)) (kt_q 10 (.cons _ (.cons_cons _ nsl)) rfl (by kernel_rfl) (kl_ixL rfl rfl ‹_› (by omega) (by omega) (fun p97 q98 => ?_))))
   refine ln (qq (ta 11 rfl (kl_stL z93 rfl rfl ‹_› o13 (by omega) rfl rfl rfl (fun H99 o100 f101 => ?_))))
   have f102 := f101 _ f18
   refine cg [sing br (.cells [vbr, .int .i64 (q91 : Int)].toArray 84 (0, 0)), sing b20 (.cells [v15, v16].toArray 26 (0, 0)), H99, M14, sing b1 (.cells [.slice none 0 0, .slice none 0 0].toArray 26 (0, 0))] rfl ?_
   refine ln (qx rfl (kt_end (by kernel_rfl) ?_))
   refine qc (cS (cr (kl_ldW rfl rfl (kl_stW (us := [v15, v16]) rfl rfl rfl rfl (oc (OwnL.oneCell ‹_›) (oc (OwnL.oneCell ‹_›) oc_nil)) rfl ?_))))
   refine cg [sing br (.cells [vbr, .int .i64 (q91 : Int)].toArray 84 (0, 0)), sing b20 (.cells [v15, v16].toArray 26 (0, 0)), H99, M14, sing b1 (.cells [v15, v16].toArray 26 (0, 0))] rfl ?_
   refine ln (qc (rt ?_))
   exact rC rfl rfl rfl [sing br (.cells [vbr, .int .i64 (q91 : Int)].toArray 84 (0, 0))] [H99, M14] K7 (frc f102 (fr1 f19)) f6 ⟨q91, by omega, rfl, H99, M14, _, _, (⟨(z10.doms.set z82.toNat z93), z10.cons⟩ : Mod), rfl, rfl, o100, o17, by (constructor <;> dsimp only <;> first | omega | assumption | exact all_mono ‹_› | exact all_set (all_mono ‹_›) ‹_› | (simp; done) | (simp only [List.length_set]; omega) | (simp; omega))⟩
 ·refine cS (cr (eq9 rfl rfl ?_))
  refine sg rfl (ln (qc (ci9 rfl (fun c103 => ?_) (fun c103 => ?_))))
  ·refine cS (cr (fV rfl (lB rfl rfl (lL rfl o17 (fun l104 => ?_)))))
   refine kl_gtr rfl rfl ?_
   refine ln (qc (ci9 rfl (fun c105 => ?_) (fun c105 => ?_)))
   ·refine cS (cr (mv rfl (fV rfl (lB rfl rfl (lL rfl o17 (fun l106 => ?_))))))
    refine cT rfl rfl (pick_ok q27 (z10.cons.length : Int) (by omega) hr) (fun v107 L1 Ln K111 h108 f109 f110 => ?_)
    obtain ⟨q112, h113, rfl, rfl, z114, rfl, h115⟩ := h108
    refine nm ?_
    refine sg rfl (ln (qc (kc_tree (fun i => ([11] : List Nat).contains i) [sing b20 (.cells [v15, v16].toArray 26 (0, 0)), M14] (by kernel_rfl) ?_)))
    refine kt_q 0 (.cons _ (.cons_cons _ (.cons _ (.cons_cons _ nsl)))) rfl (by kernel_rfl) (fV rfl (ln (qq (kt_q 1 (.cons _ (.cons_cons _ (.cons _ (.cons_cons _ nsl)))) rfl (by kernel_rfl) (ld rfl (at_box (T := 26) (cs := [v15, v16]) (off := 1) (fz := (0, 0))) (ln (qq (kt_q 2 (.cons _ (.cons_cons _ (.cons _ (.cons_cons _ nsl)))) rfl (by kernel_rfl) ?_))))))))
    refine mv rfl (ln (qq (kt_q 3 (.cons _ (.cons_cons _ (.cons _ (.cons_cons _ nsl)))) rfl (by kernel_rfl) (mv rfl (ln (qq (kt_q 4 (.cons _ (.cons_cons _ (.cons _ (.cons_cons _ nsl)))) rfl (by kernel_rfl) (fV rfl (ln (qq (kt_q 5 (.cons _ (.cons_cons _ (.cons _ (.cons_cons _ nsl)))) rfl (by kernel_rfl) ?_)))))))))))
    refine ld rfl (at_box (T := 26) (cs := [v15, v16]) (off := 1) (fz := (0, 0))) (ln (qq (kt_q 6 (.cons _ (.cons_cons _ (.cons _ (.cons_cons _ nsl)))) rfl (by kernel_rfl) (mv rfl (ln (qq (kt_q 7 (.cons _ (.cons_cons _ (.cons _ (.cons_cons _ nsl)))) rfl (by kernel_rfl) (kl_ixL rfl rfl ‹_› (by omega) (by omega) (fun p118 q119 => ?_)))))))))
    refine ln (qq (kt_q 8 (.cons _ (.cons_cons _ (.cons _ (.cons_cons _ nsl)))) rfl (by kernel_rfl) ?_))
    obtain ⟨u120, u121, u122, h123, h124, h125, h126⟩ := OwnL.at5 o17 ‹_› (by omega : z114.toNat < z10.cons.length)
    refine kl_ldS rfl h123 rfl ?_
    refine ln (qq (ta 9 rfl (cT rfl rfl (damage_ok q112 (z10.cons.getD z114.toNat nilCon) (hcc _ (getD_mem (by omega))) (by omega) hr ‹_› ‹_› ‹_›) (fun v127 L1 Ln K131 h128 f129 f130 => ?_))))
    obtain ⟨q132, h133, rfl, z134, rfl, h138, h135⟩ := h128
    obtain ⟨_, rfl, h142⟩ := h138
    have h142' := h142
    obtain ⟨u139, u140, u141, rfl, h143, h144, h145⟩ := h142
    refine nm ?_
    refine ln (qa (.cons _ (.cons_cons _ (.cons _ (.cons_cons _ nsl)))) (kt_q 10 (.cons _ (.cons_cons _ (.cons _ (.cons_cons _ nsl)))) rfl (by kernel_rfl) (kl_ixL rfl rfl ‹_› (by omega) (by omega) (fun p146 q147 => ?_))))
    refine ln (qq (ta 11 rfl (cm9 K7 (orHp K131 (orHp K7 (orHp K7 K7))) (fun c152 => ?_))))
    have o153 := OwnL.mono (K' := orHp K7 (orHp K131 (orHp K7 (orHp K7 K7)))) o17 orL
    refine kl_stLk (us := [.int .i64 z134.kind, u139, u140, .int .i64 z134.bound, u141]) z134 rfl rfl ‹_› o153 (by omega) (RMono.mono (orC c152) ‹_›) rfl (oc rfl (oc (Sl.oneCell ‹_›) (oc (Sl.oneCell ‹_›) (oc rfl (oc (Sl.oneCell ‹_›) oc_nil))))) rfl (fun H148 o149 f150 => ?_)
    have f151 := f150 _ f19
    refine cg [sing br (.cells [vbr, .int .i64 (q132 : Int)].toArray 84 (0, 0)), sing b20 (.cells [v15, v16].toArray 26 (0, 0)), H12, H148, sing b1 (.cells [.slice none 0 0, .slice none 0 0].toArray 26 (0, 0))] rfl ?_
    refine ln (qx rfl (kt_end (by kernel_rfl) ?_))
    refine qc (cS (cr (kl_ldW rfl rfl (kl_stW (us := [v15, v16]) rfl rfl rfl rfl (oc (OwnL.oneCell ‹_›) (oc (OwnL.oneCell ‹_›) oc_nil)) rfl ?_))))
    refine cg [sing br (.cells [vbr, .int .i64 (q132 : Int)].toArray 84 (0, 0)), sing b20 (.cells [v15, v16].toArray 26 (0, 0)), H12, H148, sing b1 (.cells [v15, v16].toArray 26 (0, 0))] rfl ?_
    refine ln (qc (rt ?_))
    exact rC rfl rfl rfl [sing br (.cells [vbr, .int .i64 (q132 : Int)].toArray 84 (0, 0))] [H12, H148] (orHp K7 (orHp K131 (orHp K7 (orHp K7 K7)))) (frc f18 (fr1 f151)) (fr_or f6 (fr_or f130 (fr_or f6 (fr_or f6 f6)))) ⟨q132, by omega, rfl, H12, H148, _, _, (⟨z10.doms, (z10.cons.set z114.toNat z134)⟩ : Mod), rfl, rfl, o13, o149, by (constructor <;> dsimp only <;> first | omega | assumption | exact all_mono ‹_› | exact all_set (all_mono ‹_›) ‹_› | (simp; done) | (simp only [List.length_set]; omega) | (simp; omega))⟩
   ·refine sk (qc (cS (cr (kl_ldW rfl rfl (kl_stW (us := [v15, v16]) rfl rfl rfl rfl (oc (OwnL.oneCell ‹_›) (oc (OwnL.oneCell ‹_›) oc_nil)) rfl ?_)))))
    refine cg [sing br (.cells [vbr, .int .i64 (q27 : Int)].toArray 84 (0, 0)), sing b20 (.cells [v15, v16].toArray 26 (0, 0)), H12, M14, sing b1 (.cells [v15, v16].toArray 26 (0, 0))] rfl ?_
    refine ln (qc (rt ?_))
    exact rC rfl rfl rfl [sing br (.cells [vbr, .int .i64 (q27 : Int)].toArray 84 (0, 0))] [H12, M14] K7 (frc f18 (fr1 f19)) f6 ⟨q27, by omega, rfl, H12, M14, _, _, (⟨z10.doms, z10.cons⟩ : Mod), rfl, rfl, o13, o17, by (constructor <;> dsimp only <;> first | omega | assumption | exact all_mono ‹_› | exact all_set (all_mono ‹_›) ‹_› | (simp; done) | (simp only [List.length_set]; omega) | (simp; omega))⟩
  ·refine sk (qc (cS (cr (kl_ldW rfl rfl (kl_stW (us := [v15, v16]) rfl rfl rfl rfl (oc (OwnL.oneCell ‹_›) (oc (OwnL.oneCell ‹_›) oc_nil)) rfl ?_)))))
   refine cg [sing br (.cells [vbr, .int .i64 (q27 : Int)].toArray 84 (0, 0)), sing b20 (.cells [v15, v16].toArray 26 (0, 0)), H12, M14, sing b1 (.cells [v15, v16].toArray 26 (0, 0))] rfl ?_
   refine ln (qc (rt ?_))
   exact rC rfl rfl rfl [sing br (.cells [vbr, .int .i64 (q27 : Int)].toArray 84 (0, 0))] [H12, M14] K7 (frc f18 (fr1 f19)) f6 ⟨q27, by omega, rfl, H12, M14, _, _, (⟨z10.doms, z10.cons⟩ : Mod), rfl, rfl, o13, o17, by (constructor <;> dsimp only <;> first | omega | assumption | exact all_mono ‹_› | exact all_set (all_mono ‹_›) ‹_› | (simp; done) | (simp only [List.length_set]; omega) | (simp; omega))⟩
end
section
theorem within_ok (n : Int) (lo : Int) (hi : Int) : SpecP Tryz.prog 52 [.int .i64 n, .int .i64 lo, .int .i64 hi] [] (.bool (withinB n lo hi)) := by
 refine spec_of Tryz.func52 rfl rfl rfl (fun B => ?_)
 refine cS (cr (sg rfl (ln (qc (cS (cr (mv rfl (mv rfl (kl_geq rfl rfl ?_)))))))))
 refine mv rfl (jn 4 14 (.bool (decide (lo ≤ n) && decide (n ≤ hi))) (pk [6, 10] rfl) (fun J2 => ?_) ?_)
 ·rcases Bool.eq_false_or_eq_true (decide (lo ≤ n)) with g1 | g1
  ·have g1p := of_decide_eq_true g1
   refine gT rfl rfl g1 (mv rfl (gT rfl rfl g1 (mv rfl (gT rfl rfl g1 (kl_leq rfl rfl ?_)))))
   refine aT rfl rfl g1 ?_
   exact J2 _ (pk [14, 6, 10] rfl)
  ·refine gF rfl rfl g1 (gF rfl rfl g1 (gF rfl rfl g1 (aF (decide (n ≤ hi)) rfl rfl g1 ?_)))
   exact J2 _ (pk [14, 6, 10] rfl)
 refine sg rfl (ln (qc (rt (kq_retP rfl rfl (congrArg Value.bool ?_)))))
 rfl
theorem indexInts_ok {Hxs : Hp} {vxs : Value} (xs : List Int) (x : Int) (hxs : Ints Hxs vxs xs) : SpecP Tryz.prog 186 [vxs, .int .i64 x] [Hxs] (.int .i64 (indexBy (fun y => decide (x = y)) xs)) := by
 refine spec_of Tryz.func186 rfl rfl rfl (fun B => ?_)
 refine cS (cr (sg rfl (ln (qc (cS (cS (cr (mv rfl (le9 rfl ‹_› (fun l1 => ?_))))))))))
 refine mv rfl (ln (qc (bl (kc_loop0 (A := Nat) (fun zz => (zz ≤ xs.length) ∧ ((xs.take zz).any (fun y => decide (x = y)) = false)) (fun zz => xs.length - zz) (fun zz => [(8, .int .i64 (zz : Int))]) (0) (pk [0, 1, 7] rfl) (pc 8 rfl pn) ⟨Nat.zero_le _, by simp⟩ ?_))))
 rintro k hJ4
 obtain ⟨hk2, hi3⟩ : (k ≤ xs.length) ∧ ((xs.take k).any (fun y => decide (x = y)) = false) := hJ4
 change KC _ _ (_) _ _ ([(8, .int .i64 (k : Int))] ++ _)
 refine cS (cr (ls9 rfl rfl ?_))
 refine ln (qc (cS (ci9 rfl (fun c5 => ?_) (fun c5 => ?_))))
 ·refine sk (qc (cS (bl (cS (cr (mv rfl (sg rfl (ln (qc (cS (cr (mv rfl ?_))))))))))))
  refine mv rfl (mv rfl (kl_inI rfl rfl ‹_› (by omega) (fun p6 a7 => ?_)))
  refine ld rfl ‹_› (eq9 rfl rfl ?_)
  refine ln (qc (ci9 rfl (fun c8 => ?_) (fun c8 => ?_)))
  ·refine cS (cr (mv rfl (sg rfl (ln (qc (rt (kq_retP rfl rfl (congrArg (Value.int .i64) ?_))))))))
   exact indexBy_hit (d := 0) (by omega) ‹_› (by simpa using by assumption)
  ·refine sk (qc (cr (ic9 rfl rfl (by omega) ?_)))
   refine mv rfl (ln (kq_round0 ((k + 1)) (by omega) (⟨by omega, any_take_step (d := 0) (by omega) hi3 (by simpa using by assumption)⟩) (pc 8 rfl pn) (pk [0, 1, 7] rfl) slr9))
 ·refine ex9 (qc (cS (cr (sg rfl (ln (qc (rt (kq_retP rfl rfl (congrArg (Value.int .i64) ?_)))))))))
  exact indexBy_none (by omega) ‹_›
theorem containsInts_ok {Hxs : Hp} {vxs : Value} (xs : List Int) (x : Int) (hxs : Ints Hxs vxs xs) : SpecP Tryz.prog 170 [vxs, .int .i64 x] [Hxs] (.bool (xs.contains x)) := by
 refine spec_of Tryz.func170 rfl rfl rfl (fun B => ?_)
 refine cS (cr (sg rfl (ln (qc (cS (cr (mv rfl (mv rfl (cP rfl rfl (indexInts_ok xs x ‹_›) ?_)))))))))
 refine kl_geq rfl rfl ?_
 refine sg rfl (ln (qc (rt (kq_retP rfl rfl (congrArg Value.bool ?_)))))
 rw [indexBy_any]; rw [List.contains_eq_any_beq]; rfl
theorem distinct_ok {Hxs : Hp} {vxs : Value} (xs : List Int) (hxs : Ints Hxs vxs xs) : SpecP Tryz.prog 131 [vxs] [Hxs] (.bool (distinctB xs)) := by
 refine spec_of Tryz.func131 rfl rfl rfl (fun B => ?_)
 refine cS (cr (sg rfl (ln (qc (cS (cS (cr (mv rfl (le9 rfl ‹_› (fun l1 => ?_))))))))))
 refine mv rfl (ln (qc (bl (kc_loop0 (A := Nat) (fun zz => (zz ≤ xs.length) ∧ ((xs.take zz).Nodup)) (fun zz => xs.length - zz) (fun zz => [(7, .int .i64 (zz : Int))]) (0) (pk [0, 5, 6] rfl) (pc 7 rfl pn) ⟨Nat.zero_le _, by simp⟩ ?_))))
 rintro k hJ4
 obtain ⟨hk2, hi3⟩ : (k ≤ xs.length) ∧ ((xs.take k).Nodup) := hJ4
 change KC _ _ (_) _ _ ([(7, .int .i64 (k : Int))] ++ _)
 refine cS (cr (ls9 rfl rfl ?_))
 refine ln (qc (cS (ci9 rfl (fun c5 => ?_) (fun c5 => ?_))))
 ·refine sk (qc (cS (bl (cS (cr (mv rfl (kl_inI rfl rfl ‹_› (by omega) (fun p6 a7 => ?_))))))))
  refine ld rfl ‹_› (sg rfl (sg rfl (ln (qc (cS (cr (mv rfl (mv rfl (kl_slTake rfl rfl ‹_› (by omega) (fun u8 h9 => ?_))))))))))
  refine mv rfl (cP rfl rfl (containsInts_ok (xs.take k) (xs.getD k 0) ‹_›) ?_)
  refine ln (qc (cd9 rfl (fun c10 => ?_) (fun c10 => ?_)))
  ·have c10r := c10
   try simp only [smpE] at c10
   refine cS (cr (sg rfl (ln (qc (rt (kq_retP rfl rfl (congrArg Value.bool ?_)))))))
   simp only [distinctB]; exact (decide_eq_false (nodup_not (k := k) (by omega) (by simp at *; assumption))).symm
  ·have c10r := c10
   try simp only [smpE] at c10
   refine sk (qc (cr (ic9 rfl rfl (by omega) ?_)))
   refine mv rfl (ln (kq_round0 ((k + 1)) (by omega) (⟨by omega, (nodup_take_succ (by omega)).2 ⟨hi3, by simp at *; assumption⟩⟩) (pc 7 rfl pn) (pk [0, 5, 6] rfl) slr9))
 ·refine ex9 (qc (cS (cr (sg rfl (ln (qc (rt (kq_retP rfl rfl (congrArg Value.bool ?_)))))))))
  simp only [distinctB]; rw [List.take_of_length_le (by omega)] at hi3; exact (decide_eq_true hi3).symm
theorem ixf_int_ok {Hxs : Hp} {vxs : Value} {gp : Nat} {capsp : Array Value} {imp : List Hp} [FnC Tryz.prog gp] (xs : List Int) (p : Int → Bool) (hxs : Ints Hxs vxs xs) (hp : ∀ n : Int, n ∈ xs → SpecP Tryz.prog gp (.int .i64 n :: capsp.toList) imp (.bool (p n))) : SpecP Tryz.prog 126 [vxs, .func (.func gp) #[] capsp] (Hxs :: imp) (.int .i64 (indexBy p xs)) := by
 refine spec_of Tryz.func126 rfl rfl rfl (fun B => ?_)
 refine cS (cr (sg rfl (ln (qc (cS (cS (cr (mv rfl (le9 rfl ‹_› (fun l1 => ?_))))))))))
 refine mv rfl (ln (qc (bl (kc_loop0 (A := Nat) (fun zz => (zz ≤ xs.length) ∧ ((xs.take zz).any p = false)) (fun zz => xs.length - zz) (fun zz => [(8, .int .i64 (zz : Int))]) (0) (pk [0, 1, 7] rfl) (pc 8 rfl pn) ⟨Nat.zero_le _, by simp⟩ ?_))))
 rintro k hJ4
 obtain ⟨hk2, hi3⟩ : (k ≤ xs.length) ∧ ((xs.take k).any p = false) := hJ4
 change KC _ _ (_) _ _ ([(8, .int .i64 (k : Int))] ++ _)
 refine cS (cr (ls9 rfl rfl ?_))
 refine ln (qc (cS (ci9 rfl (fun c5 => ?_) (fun c5 => ?_))))
 ·refine sk (qc (cS (bl (cS (cr (mv rfl (sg rfl (ln (qc (cS (cr (mv rfl ?_))))))))))))
  refine mv rfl (mv rfl (kl_inI rfl rfl ‹_› (by omega) (fun p6 a7 => ?_)))
  refine ld rfl ‹_› (cP rfl rfl (hp (xs.getD k 0) (getD_mem (by omega))) ?_)
  refine ln (qc (cd9 rfl (fun c8 => ?_) (fun c8 => ?_)))
  ·have c8r := c8
   try simp only [smpE] at c8
   refine cS (cr (mv rfl (sg rfl (ln (qc (rt (kq_retP rfl rfl (congrArg (Value.int .i64) ?_))))))))
   exact indexBy_hit (d := 0) (by omega) ‹_› ‹_›
  ·have c8r := c8
   try simp only [smpE] at c8
   refine sk (qc (cr (ic9 rfl rfl (by omega) ?_)))
   refine mv rfl (ln (kq_round0 ((k + 1)) (by omega) (⟨by omega, any_take_step (d := 0) (by omega) hi3 ‹_›⟩) (pc 8 rfl pn) (pk [0, 1, 7] rfl) slr9))
 ·refine ex9 (qc (cS (cr (sg rfl (ln (qc (rt (kq_retP rfl rfl (congrArg (Value.int .i64) ?_)))))))))
  exact indexBy_none (by omega) ‹_›
theorem cf_int_ok {Hxs : Hp} {vxs : Value} {gp : Nat} {capsp : Array Value} {imp : List Hp} [FnC Tryz.prog gp] (xs : List Int) (p : Int → Bool) (hxs : Ints Hxs vxs xs) (hp : ∀ n : Int, n ∈ xs → SpecP Tryz.prog gp (.int .i64 n :: capsp.toList) imp (.bool (p n))) : SpecP Tryz.prog 81 [vxs, .func (.func gp) #[] capsp] (Hxs :: imp) (.bool (xs.any p)) := by
 refine spec_of Tryz.func81 rfl rfl rfl (fun B => ?_)
 refine cS (cr (sg rfl (ln (qc (cS (cr (mv rfl (mv rfl (cP rfl rfl (ixf_int_ok xs p ‹_› hp) ?_)))))))))
 refine kl_geq rfl rfl ?_
 refine sg rfl (ln (qc (rt (kq_retP rfl rfl (congrArg Value.bool ?_)))))
 exact indexBy_any p xs
theorem allIn1_ok {Hlo : Hp} {ptrlo : Value} {Hhi : Hp} {ptrhi : Value} (n : Int) (lo : Int) (hi : Int) (alo : At Hlo ptrlo [.int .i64 lo]) (ahi : At Hhi ptrhi [.int .i64 hi]) : SpecP Tryz.prog 82 [.int .i64 n, ptrlo, ptrhi] [Hlo, Hhi] (.bool (!withinB n lo hi)) := by
 refine spec_of Tryz.func82 rfl rfl rfl (fun B => ?_)
 refine cS (cr (sg rfl (ln (qc (cS (cr (mv rfl (ld rfl ‹_› (ld rfl ‹_› (cP rfl rfl (within_ok n lo hi) ?_))))))))))
 refine nt9 rfl (sg rfl (ln (qc (rt (kq_retP rfl rfl (congrArg Value.bool ?_))))))
 rfl
theorem allIn_ok {Hxs : Hp} {vxs : Value} (xs : List Int) (lo : Int) (hi : Int) (hxs : Ints Hxs vxs xs) : SpecP Tryz.prog 46 [vxs, .int .i64 lo, .int .i64 hi] [Hxs] (.bool (allInB xs lo hi)) := by
 refine spec_of Tryz.func46 rfl rfl rfl (fun B => ?_)
 refine cS (cr (kl_box rfl rfl (fun p1 H2 f3 a4 => ?_)))
 refine kl_box rfl rfl (fun p5 H6 f7 a8 => ?_)
 refine sg rfl (ln (qc (cS (cr (mv rfl (kl_mkf rfl ?_))))))
 refine cP rfl rfl (cf_int_ok xs (fun x8 => !withinB x8 lo hi) ‹_› (fun x8 _ => allIn1_ok x8 lo hi ‹_› ‹_›)) ?_
 refine nt9 rfl (sg rfl (ln (qc (rt (kq_retP rfl rfl (congrArg Value.bool ?_))))))
 simp [allInB, List.all_eq_not_any_not]
theorem domainsOk_ok {Hds : Hp} {vds : Value} (ds : List Int) (hds : Ints Hds vds ds) : SpecP Tryz.prog 87 [vds] [Hds] (.bool (domainsOkB ds)) := by
 refine spec_of Tryz.func87 rfl rfl rfl (fun B => ?_)
 refine cS (cr (sg rfl (ln (qc (cS (cr (mv rfl (le9 rfl ‹_› (fun l1 => ?_)))))))))
 refine cP rfl rfl (within_ok (ds.length : Int) (1 : Int) (4 : Int)) ?_
 refine mv rfl (jn 3 9 (.bool ((withinB (ds.length : Int) (1 : Int) (4 : Int)) && (allInB ds (0 : Int) (63 : Int)))) (pk [2, 6] rfl) (fun J3 => ?_) ?_)
 ·rcases Bool.eq_false_or_eq_true (withinB (ds.length : Int) (1 : Int) (4 : Int)) with g2 | g2
  ·have g2p := g2
   try simp only [smpD] at g2p
   refine gT rfl rfl g2 (mv rfl (gT rfl rfl g2 (cP rfl rfl (allIn_ok ds (0 : Int) (63 : Int) ‹_›) ?_)))
   refine aT rfl rfl g2 ?_
   exact J3 _ (pk [9, 2, 6] rfl)
  ·refine gF rfl rfl g2 (gF rfl rfl g2 (aF (allInB ds (0 : Int) (63 : Int)) rfl rfl g2 ?_))
   exact J3 _ (pk [9, 2, 6] rfl)
 refine sg rfl (ln (qc (rt (kq_retP rfl rfl (congrArg Value.bool ?_)))))
 rfl
theorem ixf_row_ok {Hxs : Hp} {vxs : Value} {gp : Nat} {capsp : Array Value} {imp : List Hp} [FnC Tryz.prog gp] (xs : List (List Int)) (p : List Int → Bool) (hxs : Rows Hxs vxs xs) (hp : ∀ (H : Hp) (u : Value) (r : List Int), r ∈ xs → Ints H u r → SpecP Tryz.prog gp (u :: capsp.toList) (H :: imp) (.bool (p r))) : SpecP Tryz.prog 197 [vxs, .func (.func gp) #[] capsp] (Hxs :: imp) (.int .i64 (indexBy p xs)) := by
 refine spec_of Tryz.func197 rfl rfl rfl (fun B => ?_)
 refine cS (cr (sg rfl (ln (qc (cS (cS (cr (mv rfl (le9 rfl ‹_› (fun l1 => ?_))))))))))
 refine mv rfl (ln (qc (bl (kc_loop0 (A := Nat) (fun zz => (zz ≤ xs.length) ∧ ((xs.take zz).any p = false)) (fun zz => xs.length - zz) (fun zz => [(8, .int .i64 (zz : Int))]) (0) (pk [0, 1, 7] rfl) (pc 8 rfl pn) ⟨Nat.zero_le _, by simp⟩ ?_))))
 rintro k hJ4
 obtain ⟨hk2, hi3⟩ : (k ≤ xs.length) ∧ ((xs.take k).any p = false) := hJ4
 change KC _ _ (_) _ _ ([(8, .int .i64 (k : Int))] ++ _)
 refine cS (cr (ls9 rfl rfl ?_))
 refine ln (qc (cS (ci9 rfl (fun c5 => ?_) (fun c5 => ?_))))
 ·refine sk (qc (cS (bl (cS (cr (mv rfl (sg rfl (ln (qc (cS (cr (mv rfl ?_))))))))))))
  refine mv rfl (mv rfl (kl_inS rfl rfl ‹_› (by omega) (fun p6 u8 h9 a7 => ?_)))
  refine ld rfl ‹_› (cP rfl rfl (hp _ _ (xs.getD k []) (getD_mem (by omega)) ‹_›) ?_)
  refine ln (qc (cd9 rfl (fun c10 => ?_) (fun c10 => ?_)))
  ·have c10r := c10
   try simp only [smpE] at c10
   refine cS (cr (mv rfl (sg rfl (ln (qc (rt (kq_retP rfl rfl (congrArg (Value.int .i64) ?_))))))))
   exact indexBy_hit (d := []) (by omega) ‹_› ‹_›
  ·have c10r := c10
   try simp only [smpE] at c10
   refine sk (qc (cr (ic9 rfl rfl (by omega) ?_)))
   refine mv rfl (ln (kq_round0 ((k + 1)) (by omega) (⟨by omega, any_take_step (d := []) (by omega) hi3 ‹_›⟩) (pc 8 rfl pn) (pk [0, 1, 7] rfl) slr9))
 ·refine ex9 (qc (cS (cr (sg rfl (ln (qc (rt (kq_retP rfl rfl (congrArg (Value.int .i64) ?_)))))))))
  exact indexBy_none (by omega) ‹_›
theorem cf_row_ok {Hxs : Hp} {vxs : Value} {gp : Nat} {capsp : Array Value} {imp : List Hp} [FnC Tryz.prog gp] (xs : List (List Int)) (p : List Int → Bool) (hxs : Rows Hxs vxs xs) (hp : ∀ (H : Hp) (u : Value) (r : List Int), r ∈ xs → Ints H u r → SpecP Tryz.prog gp (u :: capsp.toList) (H :: imp) (.bool (p r))) : SpecP Tryz.prog 187 [vxs, .func (.func gp) #[] capsp] (Hxs :: imp) (.bool (xs.any p)) := by
 refine spec_of Tryz.func187 rfl rfl rfl (fun B => ?_)
 refine cS (cr (sg rfl (ln (qc (cS (cr (mv rfl (mv rfl (cP rfl rfl (ixf_row_ok xs p ‹_› hp) ?_)))))))))
 refine kl_geq rfl rfl ?_
 refine sg rfl (ln (qc (rt (kq_retP rfl rfl (congrArg Value.bool ?_)))))
 exact indexBy_any p xs
theorem rowsIn1_ok {Hrow : Hp} {vrow : Value} {Hmany : Hp} {ptrmany : Value} {Hlo : Hp} {ptrlo : Value} {Hhi : Hp} {ptrhi : Value} (row : List Int) (many : Int) (lo : Int) (hi : Int) (hrow : Ints Hrow vrow row) (amany : At Hmany ptrmany [.int .i64 many]) (alo : At Hlo ptrlo [.int .i64 lo]) (ahi : At Hhi ptrhi [.int .i64 hi]) : SpecP Tryz.prog 188 [vrow, ptrmany, ptrlo, ptrhi] [Hrow, Hmany, Hlo, Hhi] (.bool (!(decide ((row.length : Int) = many) && allInB row lo hi))) := by
 refine spec_of Tryz.func188 rfl rfl rfl (fun B => ?_)
 refine cS (cr (sg rfl (ln (qc (cS (cr (mv rfl (le9 rfl ‹_› (fun l1 => ?_)))))))))
 refine ld rfl ‹_› (kl_neq rfl rfl ?_)
 refine mv rfl (jn 6 16 (.bool (decide ((row.length : Int) ≠ many) || !(allInB row lo hi))) (pk [5, 10] rfl) (fun J3 => ?_) ?_)
 ·rcases Bool.eq_false_or_eq_true (decide ((row.length : Int) ≠ many)) with g2 | g2
  ·refine gF rfl rfl g2 (gF rfl rfl g2 (gF rfl rfl g2 (gF rfl rfl g2 (gF rfl rfl g2 (oT (!(allInB row lo hi)) rfl rfl g2 ?_)))))
   exact J3 _ (pk [16, 5, 10] rfl)
  ·have g2p := of_decide_eq_false g2
   refine gT rfl rfl g2 (mv rfl (gT rfl rfl g2 (ld rfl ‹_› (gT rfl rfl g2 (ld rfl ‹_› (gT rfl rfl g2 (cP rfl rfl (allIn_ok row lo hi ‹_›) ?_)))))))
   refine gT rfl rfl g2 (nt9 rfl (oF rfl rfl g2 ?_))
   exact J3 _ (pk [16, 5, 10] rfl)
 refine sg rfl (ln (qc (rt (kq_retP rfl rfl (congrArg Value.bool ?_)))))
 simp only [Bool.not_and, decide_not]
theorem rowsIn_ok {Hrows : Hp} {vrows : Value} (rows : List (List Int)) (many : Int) (lo : Int) (hi : Int) (hrows : Rows Hrows vrows rows) : SpecP Tryz.prog 172 [vrows, .int .i64 many, .int .i64 lo, .int .i64 hi] [Hrows] (.bool (withinB rows.length 1 8 && rows.all fun r => decide ((r.length : Int) = many) && allInB r lo hi)) := by
 refine spec_of Tryz.func172 rfl rfl rfl (fun B => ?_)
 refine cS (cr (kl_box rfl rfl (fun p1 H2 f3 a4 => ?_)))
 refine kl_box rfl rfl (fun p5 H6 f7 a8 => ?_)
 refine kl_box rfl rfl (fun p9 H10 f11 a12 => ?_)
 refine sg rfl (ln (qc (cS (cr (mv rfl (le9 rfl ‹_› (fun l13 => ?_)))))))
 refine cP rfl rfl (within_ok (rows.length : Int) (1 : Int) (8 : Int)) ?_
 refine mv rfl (jn 5 17 (.bool ((withinB (rows.length : Int) (1 : Int) (8 : Int)) && !(rows.any (fun x14 => !(decide ((x14.length : Int) = many) && allInB x14 lo hi))))) (pk [8, 12] rfl) (fun J16 => ?_) ?_)
 ·rcases Bool.eq_false_or_eq_true (withinB (rows.length : Int) (1 : Int) (8 : Int)) with g14 | g14
  ·have g14p := g14
   try simp only [smpD] at g14p
   refine gT rfl rfl g14 (mv rfl (gT rfl rfl g14 (kl_mkf rfl ?_)))
   refine gT rfl rfl g14 (cP rfl rfl (cf_row_ok rows (fun x14 => !(decide ((x14.length : Int) = many) && allInB x14 lo hi)) ‹_› (fun _ ux14 x14 _ hux14 => rowsIn1_ok x14 many lo hi hux14 ‹_› ‹_› ‹_›)) ?_)
   refine gT rfl rfl g14 (nt9 rfl (aT rfl rfl g14 ?_))
   exact J16 _ (pk [17, 8, 12] rfl)
  ·refine gF rfl rfl g14 (gF rfl rfl g14 (gF rfl rfl g14 (gF rfl rfl g14 (aF (!(rows.any (fun x14 => !(decide ((x14.length : Int) = many) && allInB x14 lo hi)))) rfl rfl g14 ?_))))
   exact J16 _ (pk [17, 8, 12] rfl)
 refine sg rfl (ln (qc (rt (kq_retP rfl rfl (congrArg Value.bool ?_)))))
 simp only [List.all_eq_not_any_not]
theorem fits1_ok {Hcv : Hp} {vcv : Value} {Hca : Hp} {vca : Value} {Hcr : Hp} {vcr : Value} {Hc : Hp} {ptrc : Value} (many : Int) (lo : Int) (hi : Int) (c : Con) (hcv : Ints Hcv vcv c.vars) (hca : Ints Hca vca c.args) (hcr : Rows Hcr vcr c.rows) (ac : At Hc ptrc [.int .i64 c.kind, vcv, vca, .int .i64 c.bound, vcr]) : SpecP Tryz.prog 171 [.int .i64 many, .int .i64 lo, .int .i64 hi, ptrc] [Hcv, Hca, Hcr, Hc] (.bool (decide ((c.args.length : Int) = many) && allInB c.args lo hi)) := by
 refine spec_of Tryz.func171 rfl rfl rfl (fun B => ?_)
 refine cS (cr (sg rfl (ln (qc (cS (cr (fd9 rfl ‹_› (fun p1 a2 => ?_))))))))
 refine ld rfl ‹_› (le9 rfl ‹_› (fun l3 => ?_))
 refine mv rfl (eq9 rfl rfl ?_)
 refine mv rfl (jn 6 19 (.bool (decide ((c.args.length : Int) = many) && (allInB c.args lo hi))) (pk [7, 13] rfl) (fun J7 => ?_) ?_)
 ·rcases Bool.eq_false_or_eq_true (decide ((c.args.length : Int) = many)) with g4 | g4
  ·have g4p := of_decide_eq_true g4
   refine gT rfl rfl g4 (fd9 rfl ‹_› (fun p5 a6 => ?_))
   refine gT rfl rfl g4 (ld rfl ‹_› (gT rfl rfl g4 (mv rfl (gT rfl rfl g4 (mv rfl (gT rfl rfl g4 (cP rfl rfl (allIn_ok c.args lo hi ‹_›) ?_)))))))
   refine aT rfl rfl g4 ?_
   exact J7 _ (pk [19, 7, 13] rfl)
  ·refine gF rfl rfl g4 (gF rfl rfl g4 (gF rfl rfl g4 (gF rfl rfl g4 (gF rfl rfl g4 (aF (allInB c.args lo hi) rfl rfl g4 ?_)))))
   exact J7 _ (pk [19, 7, 13] rfl)
 refine sg rfl (ln (qc (rt (kq_retP rfl rfl (congrArg Value.bool ?_)))))
 rfl
theorem fits_ok {Hcv : Hp} {vcv : Value} {Hca : Hp} {vca : Value} {Hcr : Hp} {vcr : Value} (c : Con) (hcv : Ints Hcv vcv c.vars) (hca : Ints Hca vca c.args) (hcr : Rows Hcr vcr c.rows) : SpecP Tryz.prog 132 [.agg #[.int .i64 c.kind, vcv, vca, .int .i64 c.bound, vcr]] [Hcv, Hca, Hcr] (.bool (fitsB c)) := by
 refine spec_of Tryz.func132 rfl rfl rfl (fun B => ?_)
 refine cS (cr (kl_box rfl rfl (fun p1 H2 f3 a4 => ?_)))
 refine sg rfl (ln (qc (cS (cr (fd9 rfl ‹_› (fun p5 a6 => ?_))))))
 refine ld rfl ‹_› (le9 rfl ‹_› (fun l7 => ?_))
 refine sg rfl (ln (qc (cS (cr (kl_mkf rfl ?_)))))
 refine sg rfl (ln (qc (cS (kc_draw 9 [true, true, true, true, true, true, true, true, true] (by kernel_rfl) (by kernel_rfl) ?_))))
 refine fd9 rfl ‹_› (fun p8 a9 => ?_)
 refine ld rfl ‹_› (le9 rfl ‹_› (fun l10 => ?_))
 refine eq9 rfl rfl ?_
 refine fd9 rfl ‹_› (fun p11 a12 => ?_)
 refine ld rfl ‹_› (eq9 rfl rfl ?_)
 refine sg rfl (sg rfl (ln (qc (cS (cS (cr (fd9 rfl ‹_› (fun p13 a14 => ?_))))))))
 refine ld rfl ‹_› (ln (qc (bl (cS (cr (eq9 rfl rfl ?_))))))
 refine sg rfl (ln (qc (ci9 rfl (fun c15 => ?_) (fun c15 => ?_))))
 ·refine cS (cr (mv rfl (mv rfl (cP rfl rfl (fits1_ok (c.vars.length : Int) (-9 : Int) (9 : Int) c ‹_› ‹_› ‹_› ‹_›) ?_))))
  refine mv rfl (jn 4 30 (.bool ((decide ((c.args.length : Int) = (c.vars.length : Int)) && allInB c.args (-9 : Int) (9 : Int)) && (withinB c.bound (-999 : Int) (999 : Int)))) (pk [2, 5, 26] rfl) (fun J19 => ?_) ?_)
  ·rcases Bool.eq_false_or_eq_true (decide ((c.args.length : Int) = (c.vars.length : Int)) && allInB c.args (-9 : Int) (9 : Int)) with g16 | g16
   ·have g16p := g16
    try simp only [smpD] at g16p
    refine gT rfl rfl g16 (fd9 rfl ‹_› (fun p17 a18 => ?_))
    refine gT rfl rfl g16 (ld rfl ‹_› (gT rfl rfl g16 (cP rfl rfl (within_ok c.bound (-999 : Int) (999 : Int)) ?_)))
    refine aT rfl rfl g16 ?_
    exact J19 _ (pk [30, 2, 5, 26] rfl)
   ·refine gF rfl rfl g16 (gF rfl rfl g16 (gF rfl rfl g16 (aF (withinB c.bound (-999 : Int) (999 : Int)) rfl rfl g16 ?_)))
    exact J19 _ (pk [30, 2, 5, 26] rfl)
  refine mv rfl (jn 2 33 (.bool (((decide ((c.args.length : Int) = (c.vars.length : Int)) && allInB c.args (-9 : Int) (9 : Int)) && (withinB c.bound (-999 : Int) (999 : Int))) && decide ((c.rows.length : Int) = (0 : Int)))) (pk [2, 31] rfl) (fun J21 => ?_) ?_)
  ·rcases Bool.eq_false_or_eq_true ((decide ((c.args.length : Int) = (c.vars.length : Int)) && allInB c.args (-9 : Int) (9 : Int)) && (withinB c.bound (-999 : Int) (999 : Int))) with g20 | g20
   ·have g20p := g20
    try simp only [smpD] at g20p
    refine gT rfl rfl g20 (mv rfl (aT rfl rfl g20 ?_))
    exact J21 _ (pk [33, 2, 31] rfl)
   ·refine gF rfl rfl g20 (aF (decide ((c.rows.length : Int) = (0 : Int))) rfl rfl g20 ?_)
    exact J21 _ (pk [33, 2, 31] rfl)
  refine sg rfl (ln (qc (rt (kq_retP rfl rfl (congrArg Value.bool ?_)))))
  first | (exfalso; omega) | (simp [fitsB, rowsInB, *])
 ·refine cS (cr (eq9 rfl rfl ?_))
  refine sg rfl (ln (qc (ci9 rfl (fun c22 => ?_) (fun c22 => ?_))))
  ·refine cS (cr (mv rfl (eq9 rfl rfl ?_)))
   refine mv rfl (jn 3 41 (.bool (decide ((c.vars.length : Int) = (2 : Int)) && (decide ((c.args.length : Int) = (1 : Int)) && allInB c.args (-9 : Int) (9 : Int)))) (pk [2, 5, 6, 38] rfl) (fun J24 => ?_) ?_)
   ·rcases Bool.eq_false_or_eq_true (decide ((c.vars.length : Int) = (2 : Int))) with g23 | g23
    ·have g23p := of_decide_eq_true g23
     refine gT rfl rfl g23 (mv rfl (gT rfl rfl g23 (cP rfl rfl (fits1_ok (1 : Int) (-9 : Int) (9 : Int) c ‹_› ‹_› ‹_› ‹_›) ?_)))
     refine aT rfl rfl g23 ?_
     exact J24 _ (pk [41, 2, 5, 6, 38] rfl)
    ·refine gF rfl rfl g23 (gF rfl rfl g23 (aF (decide ((c.args.length : Int) = (1 : Int)) && allInB c.args (-9 : Int) (9 : Int)) rfl rfl g23 ?_))
     exact J24 _ (pk [41, 2, 5, 6, 38] rfl)
   refine mv rfl (jn 2 44 (.bool ((decide ((c.vars.length : Int) = (2 : Int)) && (decide ((c.args.length : Int) = (1 : Int)) && allInB c.args (-9 : Int) (9 : Int))) && decide (c.bound = (0 : Int)))) (pk [2, 5, 42] rfl) (fun J26 => ?_) ?_)
   ·rcases Bool.eq_false_or_eq_true (decide ((c.vars.length : Int) = (2 : Int)) && (decide ((c.args.length : Int) = (1 : Int)) && allInB c.args (-9 : Int) (9 : Int))) with g25 | g25
    ·have g25p := g25
     try simp only [smpD] at g25p
     refine gT rfl rfl g25 (mv rfl (aT rfl rfl g25 ?_))
     exact J26 _ (pk [44, 2, 5, 42] rfl)
    ·refine gF rfl rfl g25 (aF (decide (c.bound = (0 : Int))) rfl rfl g25 ?_)
     exact J26 _ (pk [44, 2, 5, 42] rfl)
   refine mv rfl (jn 2 47 (.bool (((decide ((c.vars.length : Int) = (2 : Int)) && (decide ((c.args.length : Int) = (1 : Int)) && allInB c.args (-9 : Int) (9 : Int))) && decide (c.bound = (0 : Int))) && decide ((c.rows.length : Int) = (0 : Int)))) (pk [2, 45] rfl) (fun J28 => ?_) ?_)
   ·rcases Bool.eq_false_or_eq_true ((decide ((c.vars.length : Int) = (2 : Int)) && (decide ((c.args.length : Int) = (1 : Int)) && allInB c.args (-9 : Int) (9 : Int))) && decide (c.bound = (0 : Int))) with g27 | g27
    ·have g27p := g27
     try simp only [smpD] at g27p
     refine gT rfl rfl g27 (mv rfl (aT rfl rfl g27 ?_))
     exact J28 _ (pk [47, 2, 45] rfl)
    ·refine gF rfl rfl g27 (aF (decide ((c.rows.length : Int) = (0 : Int))) rfl rfl g27 ?_)
     exact J28 _ (pk [47, 2, 45] rfl)
   refine sg rfl (ln (qc (rt (kq_retP rfl rfl (congrArg Value.bool ?_)))))
   first | (exfalso; omega) | (simp [fitsB, rowsInB, *])
  ·refine cS (cS (cr (eq9 rfl rfl ?_)))
   refine sg rfl (ln (qc (ci9 rfl (fun c29 => ?_) (fun c29 => ?_))))
   ·refine sk (qc (ci9 rfl (fun c30 => ?_) (fun c30 => ?_)))
    ·refine cS (cr (fd9 rfl ‹_› (fun p31 a32 => ?_)))
     refine ld rfl ‹_› (le9 rfl ‹_› (fun l33 => ?_))
     refine eq9 rfl rfl ?_
     refine mv rfl (jn 2 57 (.bool (decide ((c.args.length : Int) = (0 : Int)) && decide (c.bound = (0 : Int)))) (pk [2, 5, 55] rfl) (fun J35 => ?_) ?_)
     ·rcases Bool.eq_false_or_eq_true (decide ((c.args.length : Int) = (0 : Int))) with g34 | g34
      ·have g34p := of_decide_eq_true g34
       refine gT rfl rfl g34 (mv rfl (aT rfl rfl g34 ?_))
       exact J35 _ (pk [57, 2, 5, 55] rfl)
      ·refine gF rfl rfl g34 (aF (decide (c.bound = (0 : Int))) rfl rfl g34 ?_)
       exact J35 _ (pk [57, 2, 5, 55] rfl)
     refine mv rfl (jn 2 60 (.bool ((decide ((c.args.length : Int) = (0 : Int)) && decide (c.bound = (0 : Int))) && decide ((c.rows.length : Int) = (0 : Int)))) (pk [2, 58] rfl) (fun J37 => ?_) ?_)
     ·rcases Bool.eq_false_or_eq_true (decide ((c.args.length : Int) = (0 : Int)) && decide (c.bound = (0 : Int))) with g36 | g36
      ·have g36p := g36
       try simp only [smpD] at g36p
       refine gT rfl rfl g36 (mv rfl (aT rfl rfl g36 ?_))
       exact J37 _ (pk [60, 2, 58] rfl)
      ·refine gF rfl rfl g36 (aF (decide ((c.rows.length : Int) = (0 : Int))) rfl rfl g36 ?_)
       exact J37 _ (pk [60, 2, 58] rfl)
     refine sg rfl (ln (qc (rt (kq_retP rfl rfl (congrArg Value.bool ?_)))))
     first | (exfalso; omega) | (simp [fitsB, rowsInB, *])
    ·refine cS (cr (eq9 rfl rfl ?_))
     refine sg rfl (ln (qc (ci9 rfl (fun c38 => ?_) (fun c38 => ?_))))
     ·refine cS (cr (mv rfl (eq9 rfl rfl ?_)))
      refine mv rfl (jn 5 70 (.bool (decide ((c.vars.length : Int) = (2 : Int)) && (withinB (c.args.length : Int) (1 : Int) (6 : Int)))) (pk [1, 2, 5, 6, 65] rfl) (fun J43 => ?_) ?_)
      ·rcases Bool.eq_false_or_eq_true (decide ((c.vars.length : Int) = (2 : Int))) with g39 | g39
       ·have g39p := of_decide_eq_true g39
        refine gT rfl rfl g39 (fd9 rfl ‹_› (fun p40 a41 => ?_))
        refine gT rfl rfl g39 (ld rfl ‹_› (gT rfl rfl g39 (le9 rfl ‹_› (fun l42 => ?_))))
        refine gT rfl rfl g39 (cP rfl rfl (within_ok (c.args.length : Int) (1 : Int) (6 : Int)) ?_)
        refine aT rfl rfl g39 ?_
        exact J43 _ (pk [70, 1, 2, 5, 6, 65] rfl)
       ·refine gF rfl rfl g39 (gF rfl rfl g39 (gF rfl rfl g39 (gF rfl rfl g39 (aF (withinB (c.args.length : Int) (1 : Int) (6 : Int)) rfl rfl g39 ?_))))
        exact J43 _ (pk [70, 1, 2, 5, 6, 65] rfl)
      refine mv rfl (jn 4 75 (.bool ((decide ((c.vars.length : Int) = (2 : Int)) && (withinB (c.args.length : Int) (1 : Int) (6 : Int))) && (allInB c.args (0 : Int) (5 : Int)))) (pk [2, 5, 6, 71] rfl) (fun J47 => ?_) ?_)
      ·rcases Bool.eq_false_or_eq_true (decide ((c.vars.length : Int) = (2 : Int)) && (withinB (c.args.length : Int) (1 : Int) (6 : Int))) with g44 | g44
       ·have g44p := g44
        try simp only [smpD] at g44p
        refine gT rfl rfl g44 (fd9 rfl ‹_› (fun p45 a46 => ?_))
        refine gT rfl rfl g44 (ld rfl ‹_› (gT rfl rfl g44 (cP rfl rfl (allIn_ok c.args (0 : Int) (5 : Int) ‹_›) ?_)))
        refine aT rfl rfl g44 ?_
        exact J47 _ (pk [75, 2, 5, 6, 71] rfl)
       ·refine gF rfl rfl g44 (gF rfl rfl g44 (gF rfl rfl g44 (aF (allInB c.args (0 : Int) (5 : Int)) rfl rfl g44 ?_)))
        exact J47 _ (pk [75, 2, 5, 6, 71] rfl)
      refine mv rfl (jn 2 78 (.bool (((decide ((c.vars.length : Int) = (2 : Int)) && (withinB (c.args.length : Int) (1 : Int) (6 : Int))) && (allInB c.args (0 : Int) (5 : Int))) && decide (c.bound = (0 : Int)))) (pk [2, 5, 76] rfl) (fun J49 => ?_) ?_)
      ·rcases Bool.eq_false_or_eq_true ((decide ((c.vars.length : Int) = (2 : Int)) && (withinB (c.args.length : Int) (1 : Int) (6 : Int))) && (allInB c.args (0 : Int) (5 : Int))) with g48 | g48
       ·have g48p := g48
        try simp only [smpD] at g48p
        refine gT rfl rfl g48 (mv rfl (aT rfl rfl g48 ?_))
        exact J49 _ (pk [78, 2, 5, 76] rfl)
       ·refine gF rfl rfl g48 (aF (decide (c.bound = (0 : Int))) rfl rfl g48 ?_)
        exact J49 _ (pk [78, 2, 5, 76] rfl)
      refine mv rfl (jn 2 81 (.bool ((((decide ((c.vars.length : Int) = (2 : Int)) && (withinB (c.args.length : Int) (1 : Int) (6 : Int))) && (allInB c.args (0 : Int) (5 : Int))) && decide (c.bound = (0 : Int))) && decide ((c.rows.length : Int) = (0 : Int)))) (pk [2, 79] rfl) (fun J51 => ?_) ?_)
      ·rcases Bool.eq_false_or_eq_true (((decide ((c.vars.length : Int) = (2 : Int)) && (withinB (c.args.length : Int) (1 : Int) (6 : Int))) && (allInB c.args (0 : Int) (5 : Int))) && decide (c.bound = (0 : Int))) with g50 | g50
       ·have g50p := g50
        try simp only [smpD] at g50p
        refine gT rfl rfl g50 (mv rfl (aT rfl rfl g50 ?_))
        exact J51 _ (pk [81, 2, 79] rfl)
       ·refine gF rfl rfl g50 (aF (decide ((c.rows.length : Int) = (0 : Int))) rfl rfl g50 ?_)
        exact J51 _ (pk [81, 2, 79] rfl)
      refine sg rfl (ln (qc (rt (kq_retP rfl rfl (congrArg Value.bool ?_)))))
      first | (exfalso; omega) | (simp [fitsB, rowsInB, *])
     ·refine cS (cr (eq9 rfl rfl ?_))
      refine sg rfl (ln (qc (ci9 rfl (fun c52 => ?_) (fun c52 => ?_))))
      ·refine cS (cr (fd9 rfl ‹_› (fun p53 a54 => ?_)))
       refine ld rfl ‹_› (le9 rfl ‹_› (fun l55 => ?_))
       refine eq9 rfl rfl ?_
       refine mv rfl (jn 2 90 (.bool (decide ((c.args.length : Int) = (0 : Int)) && decide (c.bound = (0 : Int)))) (pk [1, 2, 3, 88] rfl) (fun J57 => ?_) ?_)
       ·rcases Bool.eq_false_or_eq_true (decide ((c.args.length : Int) = (0 : Int))) with g56 | g56
        ·have g56p := of_decide_eq_true g56
         refine gT rfl rfl g56 (mv rfl (aT rfl rfl g56 ?_))
         exact J57 _ (pk [90, 1, 2, 3, 88] rfl)
        ·refine gF rfl rfl g56 (aF (decide (c.bound = (0 : Int))) rfl rfl g56 ?_)
         exact J57 _ (pk [90, 1, 2, 3, 88] rfl)
       refine mv rfl (jn 5 96 (.bool ((decide ((c.args.length : Int) = (0 : Int)) && decide (c.bound = (0 : Int))) && (withinB c.rows.length 1 8 && c.rows.all fun r => decide ((r.length : Int) = (c.vars.length : Int)) && allInB r (0 : Int) (5 : Int)))) (pk [2, 91] rfl) (fun J61 => ?_) ?_)
       ·rcases Bool.eq_false_or_eq_true (decide ((c.args.length : Int) = (0 : Int)) && decide (c.bound = (0 : Int))) with g58 | g58
        ·have g58p := g58
         try simp only [smpD] at g58p
         refine gT rfl rfl g58 (fd9 rfl ‹_› (fun p59 a60 => ?_))
         refine gT rfl rfl g58 (ld rfl ‹_› (gT rfl rfl g58 (mv rfl (gT rfl rfl g58 (cP rfl rfl (rowsIn_ok c.rows (c.vars.length : Int) (0 : Int) (5 : Int) ‹_›) ?_)))))
         refine aT rfl rfl g58 ?_
         exact J61 _ (pk [96, 2, 91] rfl)
        ·refine gF rfl rfl g58 (gF rfl rfl g58 (gF rfl rfl g58 (gF rfl rfl g58 (aF (withinB c.rows.length 1 8 && c.rows.all fun r => decide ((r.length : Int) = (c.vars.length : Int)) && allInB r (0 : Int) (5 : Int)) rfl rfl g58 ?_))))
         exact J61 _ (pk [96, 2, 91] rfl)
       refine sg rfl (ln (qc (rt (kq_retP rfl rfl (congrArg Value.bool ?_)))))
       first | (exfalso; omega) | (simp [fitsB, rowsInB, *])
      ·refine cS (cr (eq9 rfl rfl ?_))
       refine sg rfl (ln (qc (ci9 rfl (fun c62 => ?_) (fun c62 => ?_))))
       ·refine cS (cr (mv rfl (cP rfl rfl (fits1_ok (1 : Int) (0 : Int) (5 : Int) c ‹_› ‹_› ‹_› ‹_›) ?_)))
        refine mv rfl (jn 4 105 (.bool ((decide ((c.args.length : Int) = (1 : Int)) && allInB c.args (0 : Int) (5 : Int)) && (withinB c.bound (0 : Int) (4 : Int)))) (pk [2, 5, 101] rfl) (fun J66 => ?_) ?_)
        ·rcases Bool.eq_false_or_eq_true (decide ((c.args.length : Int) = (1 : Int)) && allInB c.args (0 : Int) (5 : Int)) with g63 | g63
         ·have g63p := g63
          try simp only [smpD] at g63p
          refine gT rfl rfl g63 (fd9 rfl ‹_› (fun p64 a65 => ?_))
          refine gT rfl rfl g63 (ld rfl ‹_› (gT rfl rfl g63 (cP rfl rfl (within_ok c.bound (0 : Int) (4 : Int)) ?_)))
          refine aT rfl rfl g63 ?_
          exact J66 _ (pk [105, 2, 5, 101] rfl)
         ·refine gF rfl rfl g63 (gF rfl rfl g63 (gF rfl rfl g63 (aF (withinB c.bound (0 : Int) (4 : Int)) rfl rfl g63 ?_)))
          exact J66 _ (pk [105, 2, 5, 101] rfl)
        refine mv rfl (jn 2 108 (.bool (((decide ((c.args.length : Int) = (1 : Int)) && allInB c.args (0 : Int) (5 : Int)) && (withinB c.bound (0 : Int) (4 : Int))) && decide ((c.rows.length : Int) = (0 : Int)))) (pk [2, 106] rfl) (fun J68 => ?_) ?_)
        ·rcases Bool.eq_false_or_eq_true ((decide ((c.args.length : Int) = (1 : Int)) && allInB c.args (0 : Int) (5 : Int)) && (withinB c.bound (0 : Int) (4 : Int))) with g67 | g67
         ·have g67p := g67
          try simp only [smpD] at g67p
          refine gT rfl rfl g67 (mv rfl (aT rfl rfl g67 ?_))
          exact J68 _ (pk [108, 2, 106] rfl)
         ·refine gF rfl rfl g67 (aF (decide ((c.rows.length : Int) = (0 : Int))) rfl rfl g67 ?_)
          exact J68 _ (pk [108, 2, 106] rfl)
        refine sg rfl (ln (qc (rt (kq_retP rfl rfl (congrArg Value.bool ?_)))))
        first | (exfalso; omega) | (simp [fitsB, rowsInB, *])
       ·refine cS (cr (eq9 rfl rfl ?_))
        refine sg rfl (ln (qc (ci9 rfl (fun c69 => ?_) (fun c69 => ?_))))
        ·refine cS (cr (mv rfl (mv rfl (kl_mul rfl rfl (by omega) ?_))))
         refine cP rfl rfl (fits1_ok ((2 : Int) * (c.vars.length : Int)) (0 : Int) (9 : Int) c ‹_› ‹_› ‹_› ‹_›) ?_
         refine mv rfl (jn 4 119 (.bool ((decide ((c.args.length : Int) = ((2 : Int) * (c.vars.length : Int))) && allInB c.args (0 : Int) (9 : Int)) && (withinB c.bound (0 : Int) (9 : Int)))) (pk [2, 5, 115] rfl) (fun J73 => ?_) ?_)
         ·rcases Bool.eq_false_or_eq_true (decide ((c.args.length : Int) = ((2 : Int) * (c.vars.length : Int))) && allInB c.args (0 : Int) (9 : Int)) with g70 | g70
          ·have g70p := g70
           try simp only [smpD] at g70p
           refine gT rfl rfl g70 (fd9 rfl ‹_› (fun p71 a72 => ?_))
           refine gT rfl rfl g70 (ld rfl ‹_› (gT rfl rfl g70 (cP rfl rfl (within_ok c.bound (0 : Int) (9 : Int)) ?_)))
           refine aT rfl rfl g70 ?_
           exact J73 _ (pk [119, 2, 5, 115] rfl)
          ·refine gF rfl rfl g70 (gF rfl rfl g70 (gF rfl rfl g70 (aF (withinB c.bound (0 : Int) (9 : Int)) rfl rfl g70 ?_)))
           exact J73 _ (pk [119, 2, 5, 115] rfl)
         refine mv rfl (jn 2 122 (.bool (((decide ((c.args.length : Int) = ((2 : Int) * (c.vars.length : Int))) && allInB c.args (0 : Int) (9 : Int)) && (withinB c.bound (0 : Int) (9 : Int))) && decide ((c.rows.length : Int) = (0 : Int)))) (pk [2, 120] rfl) (fun J75 => ?_) ?_)
         ·rcases Bool.eq_false_or_eq_true ((decide ((c.args.length : Int) = ((2 : Int) * (c.vars.length : Int))) && allInB c.args (0 : Int) (9 : Int)) && (withinB c.bound (0 : Int) (9 : Int))) with g74 | g74
          ·have g74p := g74
           try simp only [smpD] at g74p
           refine gT rfl rfl g74 (mv rfl (aT rfl rfl g74 ?_))
           exact J75 _ (pk [122, 2, 120] rfl)
          ·refine gF rfl rfl g74 (aF (decide ((c.rows.length : Int) = (0 : Int))) rfl rfl g74 ?_)
           exact J75 _ (pk [122, 2, 120] rfl)
         refine sg rfl (ln (qc (rt (kq_retP rfl rfl (congrArg Value.bool ?_)))))
         first | (exfalso; omega) | (simp [fitsB, rowsInB, *])
        ·refine cS (cr (eq9 rfl rfl ?_))
         refine sg rfl (ln (qc (ci9 rfl (fun c76 => ?_) (fun c76 => ?_))))
         ·refine cS (cr (fd9 rfl ‹_› (fun p77 a78 => ?_)))
          refine ld rfl ‹_› (le9 rfl ‹_› (fun l79 => ?_))
          refine sb9 rfl rfl (by omega) ?_
          refine sg rfl (ln (qc (cS (cr (fd9 rfl ‹_› (fun p80 a81 => ?_))))))
          refine ld rfl ‹_› (mv rfl (cP rfl rfl (rowsIn_ok c.rows (6 : Int) (-1 : Int) ((c.rows.length : Int) - (1 : Int)) ‹_›) ?_))
          refine mv rfl (jn 4 137 (.bool ((withinB c.rows.length 1 8 && c.rows.all fun r => decide ((r.length : Int) = (6 : Int)) && allInB r (-1 : Int) ((c.rows.length : Int) - (1 : Int))) && (distinctB c.args))) (pk [1, 2, 6, 7, 133] rfl) (fun J85 => ?_) ?_)
          ·rcases Bool.eq_false_or_eq_true (withinB c.rows.length 1 8 && c.rows.all fun r => decide ((r.length : Int) = (6 : Int)) && allInB r (-1 : Int) ((c.rows.length : Int) - (1 : Int))) with g82 | g82
           ·have g82p := g82
            try simp only [smpD] at g82p
            refine gT rfl rfl g82 (fd9 rfl ‹_› (fun p83 a84 => ?_))
            refine gT rfl rfl g82 (ld rfl ‹_› (gT rfl rfl g82 (cP rfl rfl (distinct_ok c.args ‹_›) ?_)))
            refine aT rfl rfl g82 ?_
            exact J85 _ (pk [137, 1, 2, 6, 7, 133] rfl)
           ·refine gF rfl rfl g82 (gF rfl rfl g82 (gF rfl rfl g82 (aF (distinctB c.args) rfl rfl g82 ?_)))
            exact J85 _ (pk [137, 1, 2, 6, 7, 133] rfl)
          refine mv rfl (jn 5 143 (.bool (((withinB c.rows.length 1 8 && c.rows.all fun r => decide ((r.length : Int) = (6 : Int)) && allInB r (-1 : Int) ((c.rows.length : Int) - (1 : Int))) && (distinctB c.args)) && (allInB c.args (0 : Int) ((c.rows.length : Int) - (1 : Int))))) (pk [2, 6, 138] rfl) (fun J89 => ?_) ?_)
          ·rcases Bool.eq_false_or_eq_true ((withinB c.rows.length 1 8 && c.rows.all fun r => decide ((r.length : Int) = (6 : Int)) && allInB r (-1 : Int) ((c.rows.length : Int) - (1 : Int))) && (distinctB c.args)) with g86 | g86
           ·have g86p := g86
            try simp only [smpD] at g86p
            refine gT rfl rfl g86 (fd9 rfl ‹_› (fun p87 a88 => ?_))
            refine gT rfl rfl g86 (ld rfl ‹_› (gT rfl rfl g86 (mv rfl (gT rfl rfl g86 (cP rfl rfl (allIn_ok c.args (0 : Int) ((c.rows.length : Int) - (1 : Int)) ‹_›) ?_)))))
            refine aT rfl rfl g86 ?_
            exact J89 _ (pk [143, 2, 6, 138] rfl)
           ·refine gF rfl rfl g86 (gF rfl rfl g86 (gF rfl rfl g86 (gF rfl rfl g86 (aF (allInB c.args (0 : Int) ((c.rows.length : Int) - (1 : Int))) rfl rfl g86 ?_))))
            exact J89 _ (pk [143, 2, 6, 138] rfl)
          refine mv rfl (jn 2 146 (.bool ((((withinB c.rows.length 1 8 && c.rows.all fun r => decide ((r.length : Int) = (6 : Int)) && allInB r (-1 : Int) ((c.rows.length : Int) - (1 : Int))) && (distinctB c.args)) && (allInB c.args (0 : Int) ((c.rows.length : Int) - (1 : Int)))) && decide (c.bound = (0 : Int)))) (pk [2, 144] rfl) (fun J91 => ?_) ?_)
          ·rcases Bool.eq_false_or_eq_true (((withinB c.rows.length 1 8 && c.rows.all fun r => decide ((r.length : Int) = (6 : Int)) && allInB r (-1 : Int) ((c.rows.length : Int) - (1 : Int))) && (distinctB c.args)) && (allInB c.args (0 : Int) ((c.rows.length : Int) - (1 : Int)))) with g90 | g90
           ·have g90p := g90
            try simp only [smpD] at g90p
            refine gT rfl rfl g90 (mv rfl (aT rfl rfl g90 ?_))
            exact J91 _ (pk [146, 2, 144] rfl)
           ·refine gF rfl rfl g90 (aF (decide (c.bound = (0 : Int))) rfl rfl g90 ?_)
            exact J91 _ (pk [146, 2, 144] rfl)
          refine sg rfl (ln (qc (rt (kq_retP rfl rfl (congrArg Value.bool ?_)))))
          first | (exfalso; omega) | (simp [fitsB, rowsInB, *])
         ·refine sk (qc (cS (cr (sg rfl (ln (qc (rt (kq_retP rfl rfl (congrArg Value.bool ?_)))))))))
          first | (exfalso; omega) | (simp [fitsB, rowsInB, *])
   ·refine cr (eq9 rfl rfl ?_)
    refine sg rfl (ln (qc (ci9 rfl (fun c92 => ?_) (fun c92 => ?_))))
    ·refine cS (cr (fd9 rfl ‹_› (fun p93 a94 => ?_)))
     refine ld rfl ‹_› (le9 rfl ‹_› (fun l95 => ?_))
     refine eq9 rfl rfl ?_
     refine mv rfl (jn 2 57 (.bool (decide ((c.args.length : Int) = (0 : Int)) && decide (c.bound = (0 : Int)))) (pk [2, 5, 55] rfl) (fun J97 => ?_) ?_)
     ·rcases Bool.eq_false_or_eq_true (decide ((c.args.length : Int) = (0 : Int))) with g96 | g96
      ·have g96p := of_decide_eq_true g96
       refine gT rfl rfl g96 (mv rfl (aT rfl rfl g96 ?_))
       exact J97 _ (pk [57, 2, 5, 55] rfl)
      ·refine gF rfl rfl g96 (aF (decide (c.bound = (0 : Int))) rfl rfl g96 ?_)
       exact J97 _ (pk [57, 2, 5, 55] rfl)
     refine mv rfl (jn 2 60 (.bool ((decide ((c.args.length : Int) = (0 : Int)) && decide (c.bound = (0 : Int))) && decide ((c.rows.length : Int) = (0 : Int)))) (pk [2, 58] rfl) (fun J99 => ?_) ?_)
     ·rcases Bool.eq_false_or_eq_true (decide ((c.args.length : Int) = (0 : Int)) && decide (c.bound = (0 : Int))) with g98 | g98
      ·have g98p := g98
       try simp only [smpD] at g98p
       refine gT rfl rfl g98 (mv rfl (aT rfl rfl g98 ?_))
       exact J99 _ (pk [60, 2, 58] rfl)
      ·refine gF rfl rfl g98 (aF (decide ((c.rows.length : Int) = (0 : Int))) rfl rfl g98 ?_)
       exact J99 _ (pk [60, 2, 58] rfl)
     refine sg rfl (ln (qc (rt (kq_retP rfl rfl (congrArg Value.bool ?_)))))
     first | (exfalso; omega) | (simp [fitsB, rowsInB, *])
    ·refine cS (cr (eq9 rfl rfl ?_))
     refine sg rfl (ln (qc (ci9 rfl (fun c100 => ?_) (fun c100 => ?_))))
     ·refine cS (cr (mv rfl (eq9 rfl rfl ?_)))
      refine mv rfl (jn 5 70 (.bool (decide ((c.vars.length : Int) = (2 : Int)) && (withinB (c.args.length : Int) (1 : Int) (6 : Int)))) (pk [1, 2, 5, 6, 65] rfl) (fun J105 => ?_) ?_)
      ·rcases Bool.eq_false_or_eq_true (decide ((c.vars.length : Int) = (2 : Int))) with g101 | g101
       ·have g101p := of_decide_eq_true g101
        refine gT rfl rfl g101 (fd9 rfl ‹_› (fun p102 a103 => ?_))
        refine gT rfl rfl g101 (ld rfl ‹_› (gT rfl rfl g101 (le9 rfl ‹_› (fun l104 => ?_))))
        refine gT rfl rfl g101 (cP rfl rfl (within_ok (c.args.length : Int) (1 : Int) (6 : Int)) ?_)
        refine aT rfl rfl g101 ?_
        exact J105 _ (pk [70, 1, 2, 5, 6, 65] rfl)
       ·refine gF rfl rfl g101 (gF rfl rfl g101 (gF rfl rfl g101 (gF rfl rfl g101 (aF (withinB (c.args.length : Int) (1 : Int) (6 : Int)) rfl rfl g101 ?_))))
        exact J105 _ (pk [70, 1, 2, 5, 6, 65] rfl)
      refine mv rfl (jn 4 75 (.bool ((decide ((c.vars.length : Int) = (2 : Int)) && (withinB (c.args.length : Int) (1 : Int) (6 : Int))) && (allInB c.args (0 : Int) (5 : Int)))) (pk [2, 5, 6, 71] rfl) (fun J109 => ?_) ?_)
      ·rcases Bool.eq_false_or_eq_true (decide ((c.vars.length : Int) = (2 : Int)) && (withinB (c.args.length : Int) (1 : Int) (6 : Int))) with g106 | g106
       ·have g106p := g106
        try simp only [smpD] at g106p
        refine gT rfl rfl g106 (fd9 rfl ‹_› (fun p107 a108 => ?_))
        refine gT rfl rfl g106 (ld rfl ‹_› (gT rfl rfl g106 (cP rfl rfl (allIn_ok c.args (0 : Int) (5 : Int) ‹_›) ?_)))
        refine aT rfl rfl g106 ?_
        exact J109 _ (pk [75, 2, 5, 6, 71] rfl)
       ·refine gF rfl rfl g106 (gF rfl rfl g106 (gF rfl rfl g106 (aF (allInB c.args (0 : Int) (5 : Int)) rfl rfl g106 ?_)))
        exact J109 _ (pk [75, 2, 5, 6, 71] rfl)
      refine mv rfl (jn 2 78 (.bool (((decide ((c.vars.length : Int) = (2 : Int)) && (withinB (c.args.length : Int) (1 : Int) (6 : Int))) && (allInB c.args (0 : Int) (5 : Int))) && decide (c.bound = (0 : Int)))) (pk [2, 5, 76] rfl) (fun J111 => ?_) ?_)
      ·rcases Bool.eq_false_or_eq_true ((decide ((c.vars.length : Int) = (2 : Int)) && (withinB (c.args.length : Int) (1 : Int) (6 : Int))) && (allInB c.args (0 : Int) (5 : Int))) with g110 | g110
       ·have g110p := g110
        try simp only [smpD] at g110p
        refine gT rfl rfl g110 (mv rfl (aT rfl rfl g110 ?_))
        exact J111 _ (pk [78, 2, 5, 76] rfl)
       ·refine gF rfl rfl g110 (aF (decide (c.bound = (0 : Int))) rfl rfl g110 ?_)
        exact J111 _ (pk [78, 2, 5, 76] rfl)
      refine mv rfl (jn 2 81 (.bool ((((decide ((c.vars.length : Int) = (2 : Int)) && (withinB (c.args.length : Int) (1 : Int) (6 : Int))) && (allInB c.args (0 : Int) (5 : Int))) && decide (c.bound = (0 : Int))) && decide ((c.rows.length : Int) = (0 : Int)))) (pk [2, 79] rfl) (fun J113 => ?_) ?_)
      ·rcases Bool.eq_false_or_eq_true (((decide ((c.vars.length : Int) = (2 : Int)) && (withinB (c.args.length : Int) (1 : Int) (6 : Int))) && (allInB c.args (0 : Int) (5 : Int))) && decide (c.bound = (0 : Int))) with g112 | g112
       ·have g112p := g112
        try simp only [smpD] at g112p
        refine gT rfl rfl g112 (mv rfl (aT rfl rfl g112 ?_))
        exact J113 _ (pk [81, 2, 79] rfl)
       ·refine gF rfl rfl g112 (aF (decide ((c.rows.length : Int) = (0 : Int))) rfl rfl g112 ?_)
        exact J113 _ (pk [81, 2, 79] rfl)
      refine sg rfl (ln (qc (rt (kq_retP rfl rfl (congrArg Value.bool ?_)))))
      first | (exfalso; omega) | (simp [fitsB, rowsInB, *])
     ·refine cS (cr (eq9 rfl rfl ?_))
      refine sg rfl (ln (qc (ci9 rfl (fun c114 => ?_) (fun c114 => ?_))))
      ·refine cS (cr (fd9 rfl ‹_› (fun p115 a116 => ?_)))
       refine ld rfl ‹_› (le9 rfl ‹_› (fun l117 => ?_))
       refine eq9 rfl rfl ?_
       refine mv rfl (jn 2 90 (.bool (decide ((c.args.length : Int) = (0 : Int)) && decide (c.bound = (0 : Int)))) (pk [1, 2, 3, 88] rfl) (fun J119 => ?_) ?_)
       ·rcases Bool.eq_false_or_eq_true (decide ((c.args.length : Int) = (0 : Int))) with g118 | g118
        ·have g118p := of_decide_eq_true g118
         refine gT rfl rfl g118 (mv rfl (aT rfl rfl g118 ?_))
         exact J119 _ (pk [90, 1, 2, 3, 88] rfl)
        ·refine gF rfl rfl g118 (aF (decide (c.bound = (0 : Int))) rfl rfl g118 ?_)
         exact J119 _ (pk [90, 1, 2, 3, 88] rfl)
       refine mv rfl (jn 5 96 (.bool ((decide ((c.args.length : Int) = (0 : Int)) && decide (c.bound = (0 : Int))) && (withinB c.rows.length 1 8 && c.rows.all fun r => decide ((r.length : Int) = (c.vars.length : Int)) && allInB r (0 : Int) (5 : Int)))) (pk [2, 91] rfl) (fun J123 => ?_) ?_)
       ·rcases Bool.eq_false_or_eq_true (decide ((c.args.length : Int) = (0 : Int)) && decide (c.bound = (0 : Int))) with g120 | g120
        ·have g120p := g120
         try simp only [smpD] at g120p
         refine gT rfl rfl g120 (fd9 rfl ‹_› (fun p121 a122 => ?_))
         refine gT rfl rfl g120 (ld rfl ‹_› (gT rfl rfl g120 (mv rfl (gT rfl rfl g120 (cP rfl rfl (rowsIn_ok c.rows (c.vars.length : Int) (0 : Int) (5 : Int) ‹_›) ?_)))))
         refine aT rfl rfl g120 ?_
         exact J123 _ (pk [96, 2, 91] rfl)
        ·refine gF rfl rfl g120 (gF rfl rfl g120 (gF rfl rfl g120 (gF rfl rfl g120 (aF (withinB c.rows.length 1 8 && c.rows.all fun r => decide ((r.length : Int) = (c.vars.length : Int)) && allInB r (0 : Int) (5 : Int)) rfl rfl g120 ?_))))
         exact J123 _ (pk [96, 2, 91] rfl)
       refine sg rfl (ln (qc (rt (kq_retP rfl rfl (congrArg Value.bool ?_)))))
       first | (exfalso; omega) | (simp [fitsB, rowsInB, *])
      ·refine cS (cr (eq9 rfl rfl ?_))
       refine sg rfl (ln (qc (ci9 rfl (fun c124 => ?_) (fun c124 => ?_))))
       ·refine cS (cr (mv rfl (cP rfl rfl (fits1_ok (1 : Int) (0 : Int) (5 : Int) c ‹_› ‹_› ‹_› ‹_›) ?_)))
        refine mv rfl (jn 4 105 (.bool ((decide ((c.args.length : Int) = (1 : Int)) && allInB c.args (0 : Int) (5 : Int)) && (withinB c.bound (0 : Int) (4 : Int)))) (pk [2, 5, 101] rfl) (fun J128 => ?_) ?_)
        ·rcases Bool.eq_false_or_eq_true (decide ((c.args.length : Int) = (1 : Int)) && allInB c.args (0 : Int) (5 : Int)) with g125 | g125
         ·have g125p := g125
          try simp only [smpD] at g125p
          refine gT rfl rfl g125 (fd9 rfl ‹_› (fun p126 a127 => ?_))
          refine gT rfl rfl g125 (ld rfl ‹_› (gT rfl rfl g125 (cP rfl rfl (within_ok c.bound (0 : Int) (4 : Int)) ?_)))
          refine aT rfl rfl g125 ?_
          exact J128 _ (pk [105, 2, 5, 101] rfl)
         ·refine gF rfl rfl g125 (gF rfl rfl g125 (gF rfl rfl g125 (aF (withinB c.bound (0 : Int) (4 : Int)) rfl rfl g125 ?_)))
          exact J128 _ (pk [105, 2, 5, 101] rfl)
        refine mv rfl (jn 2 108 (.bool (((decide ((c.args.length : Int) = (1 : Int)) && allInB c.args (0 : Int) (5 : Int)) && (withinB c.bound (0 : Int) (4 : Int))) && decide ((c.rows.length : Int) = (0 : Int)))) (pk [2, 106] rfl) (fun J130 => ?_) ?_)
        ·rcases Bool.eq_false_or_eq_true ((decide ((c.args.length : Int) = (1 : Int)) && allInB c.args (0 : Int) (5 : Int)) && (withinB c.bound (0 : Int) (4 : Int))) with g129 | g129
         ·have g129p := g129
          try simp only [smpD] at g129p
          refine gT rfl rfl g129 (mv rfl (aT rfl rfl g129 ?_))
          exact J130 _ (pk [108, 2, 106] rfl)
         ·refine gF rfl rfl g129 (aF (decide ((c.rows.length : Int) = (0 : Int))) rfl rfl g129 ?_)
          exact J130 _ (pk [108, 2, 106] rfl)
        refine sg rfl (ln (qc (rt (kq_retP rfl rfl (congrArg Value.bool ?_)))))
        first | (exfalso; omega) | (simp [fitsB, rowsInB, *])
       ·refine cS (cr (eq9 rfl rfl ?_))
        refine sg rfl (ln (qc (ci9 rfl (fun c131 => ?_) (fun c131 => ?_))))
        ·refine cS (cr (mv rfl (mv rfl (kl_mul rfl rfl (by omega) ?_))))
         refine cP rfl rfl (fits1_ok ((2 : Int) * (c.vars.length : Int)) (0 : Int) (9 : Int) c ‹_› ‹_› ‹_› ‹_›) ?_
         refine mv rfl (jn 4 119 (.bool ((decide ((c.args.length : Int) = ((2 : Int) * (c.vars.length : Int))) && allInB c.args (0 : Int) (9 : Int)) && (withinB c.bound (0 : Int) (9 : Int)))) (pk [2, 5, 115] rfl) (fun J135 => ?_) ?_)
         ·rcases Bool.eq_false_or_eq_true (decide ((c.args.length : Int) = ((2 : Int) * (c.vars.length : Int))) && allInB c.args (0 : Int) (9 : Int)) with g132 | g132
          ·have g132p := g132
           try simp only [smpD] at g132p
           refine gT rfl rfl g132 (fd9 rfl ‹_› (fun p133 a134 => ?_))
           refine gT rfl rfl g132 (ld rfl ‹_› (gT rfl rfl g132 (cP rfl rfl (within_ok c.bound (0 : Int) (9 : Int)) ?_)))
           refine aT rfl rfl g132 ?_
           exact J135 _ (pk [119, 2, 5, 115] rfl)
          ·refine gF rfl rfl g132 (gF rfl rfl g132 (gF rfl rfl g132 (aF (withinB c.bound (0 : Int) (9 : Int)) rfl rfl g132 ?_)))
           exact J135 _ (pk [119, 2, 5, 115] rfl)
         refine mv rfl (jn 2 122 (.bool (((decide ((c.args.length : Int) = ((2 : Int) * (c.vars.length : Int))) && allInB c.args (0 : Int) (9 : Int)) && (withinB c.bound (0 : Int) (9 : Int))) && decide ((c.rows.length : Int) = (0 : Int)))) (pk [2, 120] rfl) (fun J137 => ?_) ?_)
         ·rcases Bool.eq_false_or_eq_true ((decide ((c.args.length : Int) = ((2 : Int) * (c.vars.length : Int))) && allInB c.args (0 : Int) (9 : Int)) && (withinB c.bound (0 : Int) (9 : Int))) with g136 | g136
          ·have g136p := g136
           try simp only [smpD] at g136p
           refine gT rfl rfl g136 (mv rfl (aT rfl rfl g136 ?_))
           exact J137 _ (pk [122, 2, 120] rfl)
          ·refine gF rfl rfl g136 (aF (decide ((c.rows.length : Int) = (0 : Int))) rfl rfl g136 ?_)
           exact J137 _ (pk [122, 2, 120] rfl)
         refine sg rfl (ln (qc (rt (kq_retP rfl rfl (congrArg Value.bool ?_)))))
         first | (exfalso; omega) | (simp [fitsB, rowsInB, *])
        ·refine cS (cr (eq9 rfl rfl ?_))
         refine sg rfl (ln (qc (ci9 rfl (fun c138 => ?_) (fun c138 => ?_))))
         ·refine cS (cr (fd9 rfl ‹_› (fun p139 a140 => ?_)))
          refine ld rfl ‹_› (le9 rfl ‹_› (fun l141 => ?_))
          refine sb9 rfl rfl (by omega) ?_
          refine sg rfl (ln (qc (cS (cr (fd9 rfl ‹_› (fun p142 a143 => ?_))))))
          refine ld rfl ‹_› (mv rfl (cP rfl rfl (rowsIn_ok c.rows (6 : Int) (-1 : Int) ((c.rows.length : Int) - (1 : Int)) ‹_›) ?_))
          refine mv rfl (jn 4 137 (.bool ((withinB c.rows.length 1 8 && c.rows.all fun r => decide ((r.length : Int) = (6 : Int)) && allInB r (-1 : Int) ((c.rows.length : Int) - (1 : Int))) && (distinctB c.args))) (pk [1, 2, 6, 7, 133] rfl) (fun J147 => ?_) ?_)
          ·rcases Bool.eq_false_or_eq_true (withinB c.rows.length 1 8 && c.rows.all fun r => decide ((r.length : Int) = (6 : Int)) && allInB r (-1 : Int) ((c.rows.length : Int) - (1 : Int))) with g144 | g144
           ·have g144p := g144
            try simp only [smpD] at g144p
            refine gT rfl rfl g144 (fd9 rfl ‹_› (fun p145 a146 => ?_))
            refine gT rfl rfl g144 (ld rfl ‹_› (gT rfl rfl g144 (cP rfl rfl (distinct_ok c.args ‹_›) ?_)))
            refine aT rfl rfl g144 ?_
            exact J147 _ (pk [137, 1, 2, 6, 7, 133] rfl)
           ·refine gF rfl rfl g144 (gF rfl rfl g144 (gF rfl rfl g144 (aF (distinctB c.args) rfl rfl g144 ?_)))
            exact J147 _ (pk [137, 1, 2, 6, 7, 133] rfl)
          refine mv rfl (jn 5 143 (.bool (((withinB c.rows.length 1 8 && c.rows.all fun r => decide ((r.length : Int) = (6 : Int)) && allInB r (-1 : Int) ((c.rows.length : Int) - (1 : Int))) && (distinctB c.args)) && (allInB c.args (0 : Int) ((c.rows.length : Int) - (1 : Int))))) (pk [2, 6, 138] rfl) (fun J151 => ?_) ?_)
          ·rcases Bool.eq_false_or_eq_true ((withinB c.rows.length 1 8 && c.rows.all fun r => decide ((r.length : Int) = (6 : Int)) && allInB r (-1 : Int) ((c.rows.length : Int) - (1 : Int))) && (distinctB c.args)) with g148 | g148
           ·have g148p := g148
            try simp only [smpD] at g148p
            refine gT rfl rfl g148 (fd9 rfl ‹_› (fun p149 a150 => ?_))
            refine gT rfl rfl g148 (ld rfl ‹_› (gT rfl rfl g148 (mv rfl (gT rfl rfl g148 (cP rfl rfl (allIn_ok c.args (0 : Int) ((c.rows.length : Int) - (1 : Int)) ‹_›) ?_)))))
            refine aT rfl rfl g148 ?_
            exact J151 _ (pk [143, 2, 6, 138] rfl)
           ·refine gF rfl rfl g148 (gF rfl rfl g148 (gF rfl rfl g148 (gF rfl rfl g148 (aF (allInB c.args (0 : Int) ((c.rows.length : Int) - (1 : Int))) rfl rfl g148 ?_))))
            exact J151 _ (pk [143, 2, 6, 138] rfl)
          refine mv rfl (jn 2 146 (.bool ((((withinB c.rows.length 1 8 && c.rows.all fun r => decide ((r.length : Int) = (6 : Int)) && allInB r (-1 : Int) ((c.rows.length : Int) - (1 : Int))) && (distinctB c.args)) && (allInB c.args (0 : Int) ((c.rows.length : Int) - (1 : Int)))) && decide (c.bound = (0 : Int)))) (pk [2, 144] rfl) (fun J153 => ?_) ?_)
          ·rcases Bool.eq_false_or_eq_true (((withinB c.rows.length 1 8 && c.rows.all fun r => decide ((r.length : Int) = (6 : Int)) && allInB r (-1 : Int) ((c.rows.length : Int) - (1 : Int))) && (distinctB c.args)) && (allInB c.args (0 : Int) ((c.rows.length : Int) - (1 : Int)))) with g152 | g152
           ·have g152p := g152
            try simp only [smpD] at g152p
            refine gT rfl rfl g152 (mv rfl (aT rfl rfl g152 ?_))
            exact J153 _ (pk [146, 2, 144] rfl)
           ·refine gF rfl rfl g152 (aF (decide (c.bound = (0 : Int))) rfl rfl g152 ?_)
            exact J153 _ (pk [146, 2, 144] rfl)
          refine sg rfl (ln (qc (rt (kq_retP rfl rfl (congrArg Value.bool ?_)))))
          first | (exfalso; omega) | (simp [fitsB, rowsInB, *])
         ·refine sk (qc (cS (cr (sg rfl (ln (qc (rt (kq_retP rfl rfl (congrArg Value.bool ?_)))))))))
          first | (exfalso; omega) | (simp [fitsB, rowsInB, *])
theorem validCon_ok {Hcv : Hp} {vcv : Value} {Hca : Hp} {vca : Value} {Hcr : Hp} {vcr : Value} (c : Con) (n : Int) (hn : -9223372036854775807 ≤ n ∧ n ≤ 9223372036854775807) (hcv : Ints Hcv vcv c.vars) (hca : Ints Hca vca c.args) (hcr : Rows Hcr vcr c.rows) : SpecP Tryz.prog 90 [.agg #[.int .i64 c.kind, vcv, vca, .int .i64 c.bound, vcr], .int .i64 n] [Hcv, Hca, Hcr] (.bool (validConB c n)) := by
 refine spec_of Tryz.func90 rfl rfl rfl (fun B => ?_)
 refine cS (cr (kl_box rfl rfl (fun p1 H2 f3 a4 => ?_)))
 refine sg rfl (ln (qc (cS (cr (mv rfl (cP rfl rfl (within_ok n (1 : Int) (4 : Int)) ?_))))))
 refine mv rfl (jn 6 13 (.bool ((withinB n (1 : Int) (4 : Int)) && (withinB (c.vars.length : Int) (1 : Int) n))) (pk [1, 2, 4, 7] rfl) (fun J9 => ?_) ?_)
 ·rcases Bool.eq_false_or_eq_true (withinB n (1 : Int) (4 : Int)) with g5 | g5
  ·have g5p := g5
   try simp only [smpD] at g5p
   refine gT rfl rfl g5 (fd9 rfl ‹_› (fun p6 a7 => ?_))
   refine gT rfl rfl g5 (ld rfl ‹_› (gT rfl rfl g5 (le9 rfl ‹_› (fun l8 => ?_))))
   refine gT rfl rfl g5 (mv rfl (gT rfl rfl g5 (cP rfl rfl (within_ok (c.vars.length : Int) (1 : Int) n) ?_)))
   refine aT rfl rfl g5 ?_
   exact J9 _ (pk [13, 1, 2, 4, 7] rfl)
  ·refine gF rfl rfl g5 (gF rfl rfl g5 (gF rfl rfl g5 (gF rfl rfl g5 (gF rfl rfl g5 (aF (withinB (c.vars.length : Int) (1 : Int) n) rfl rfl g5 ?_)))))
   exact J9 _ (pk [13, 1, 2, 4, 7] rfl)
 refine mv rfl (jn 6 20 (.bool (((withinB n (1 : Int) (4 : Int)) && (withinB (c.vars.length : Int) (1 : Int) n)) && (allInB c.vars (0 : Int) (n - (1 : Int))))) (pk [2, 4, 14] rfl) (fun J13 => ?_) ?_)
 ·rcases Bool.eq_false_or_eq_true ((withinB n (1 : Int) (4 : Int)) && (withinB (c.vars.length : Int) (1 : Int) n)) with g10 | g10
  ·have g10p := g10
   try simp only [smpD] at g10p
   refine gT rfl rfl g10 (fd9 rfl ‹_› (fun p11 a12 => ?_))
   refine gT rfl rfl g10 (ld rfl ‹_› (gT rfl rfl g10 (mv rfl (gT rfl rfl g10 (sb9 rfl rfl (by omega) ?_)))))
   refine gT rfl rfl g10 (cP rfl rfl (allIn_ok c.vars (0 : Int) (n - (1 : Int)) ‹_›) ?_)
   refine aT rfl rfl g10 ?_
   exact J13 _ (pk [20, 2, 4, 14] rfl)
  ·refine gF rfl rfl g10 (gF rfl rfl g10 (gF rfl rfl g10 (gF rfl rfl g10 (gF rfl rfl g10 (aF (allInB c.vars (0 : Int) (n - (1 : Int))) rfl rfl g10 ?_)))))
   exact J13 _ (pk [20, 2, 4, 14] rfl)
 refine mv rfl (jn 4 25 (.bool ((((withinB n (1 : Int) (4 : Int)) && (withinB (c.vars.length : Int) (1 : Int) n)) && (allInB c.vars (0 : Int) (n - (1 : Int)))) && (distinctB c.vars))) (pk [2, 4, 21] rfl) (fun J17 => ?_) ?_)
 ·rcases Bool.eq_false_or_eq_true (((withinB n (1 : Int) (4 : Int)) && (withinB (c.vars.length : Int) (1 : Int) n)) && (allInB c.vars (0 : Int) (n - (1 : Int)))) with g14 | g14
  ·have g14p := g14
   try simp only [smpD] at g14p
   refine gT rfl rfl g14 (fd9 rfl ‹_› (fun p15 a16 => ?_))
   refine gT rfl rfl g14 (ld rfl ‹_› (gT rfl rfl g14 (cP rfl rfl (distinct_ok c.vars ‹_›) ?_)))
   refine aT rfl rfl g14 ?_
   exact J17 _ (pk [25, 2, 4, 21] rfl)
  ·refine gF rfl rfl g14 (gF rfl rfl g14 (gF rfl rfl g14 (aF (distinctB c.vars) rfl rfl g14 ?_)))
   exact J17 _ (pk [25, 2, 4, 21] rfl)
 refine mv rfl (jn 3 29 (.bool (((((withinB n (1 : Int) (4 : Int)) && (withinB (c.vars.length : Int) (1 : Int) n)) && (allInB c.vars (0 : Int) (n - (1 : Int)))) && (distinctB c.vars)) && (fitsB c))) (pk [4, 26] rfl) (fun J19 => ?_) ?_)
 ·rcases Bool.eq_false_or_eq_true ((((withinB n (1 : Int) (4 : Int)) && (withinB (c.vars.length : Int) (1 : Int) n)) && (allInB c.vars (0 : Int) (n - (1 : Int)))) && (distinctB c.vars)) with g18 | g18
  ·have g18p := g18
   try simp only [smpD] at g18p
   refine gT rfl rfl g18 (kl_ldS rfl ‹_› rfl ?_)
   refine gT rfl rfl g18 (cP rfl rfl (fits_ok c ‹_› ‹_› ‹_›) ?_)
   refine aT rfl rfl g18 ?_
   exact J19 _ (pk [29, 4, 26] rfl)
  ·refine gF rfl rfl g18 (gF rfl rfl g18 (aF (fitsB c) rfl rfl g18 ?_))
   exact J19 _ (pk [29, 4, 26] rfl)
 refine sg rfl (ln (qc (rt (kq_retP rfl rfl (congrArg Value.bool ?_)))))
 rfl
theorem validMod1_ok {Hcv : Hp} {vcv : Value} {Hca : Hp} {vca : Value} {Hcr : Hp} {vcr : Value} {Hmd : Hp} {vmd : Value} {Hmc : Hp} {vmc : Value} {Hm : Hp} {ptrm : Value} (c : Con) (m : Mod) (hcv : Ints Hcv vcv c.vars) (hca : Ints Hca vca c.args) (hcr : Rows Hcr vcr c.rows) (hmd : Ints Hmd vmd m.doms) (hmc : Cons Hmc vmc m.cons) (am : At Hm ptrm [vmd, vmc]) : SpecP Tryz.prog 89 [.agg #[.int .i64 c.kind, vcv, vca, .int .i64 c.bound, vcr], ptrm] [Hcv, Hca, Hcr, Hmd, Hmc, Hm] (.bool (!validConB c m.doms.length)) := by
 refine spec_of Tryz.func89 rfl rfl rfl (fun B => ?_)
 refine cS (cr (kl_box rfl rfl (fun p1 H2 f3 a4 => ?_)))
 refine sg rfl (ln (qc (cS (cr (kl_ldS rfl ‹_› rfl ?_)))))
 refine fd9 rfl ‹_› (fun p5 a6 => ?_)
 refine ld rfl ‹_› (le9 rfl ‹_› (fun l7 => ?_))
 refine cP rfl rfl (validCon_ok c (m.doms.length : Int) (by first | assumption | omega) ‹_› ‹_› ‹_›) ?_
 refine nt9 rfl (sg rfl (ln (qc (rt (kq_retP rfl rfl (congrArg Value.bool ?_))))))
 rfl
theorem ixf_con_ok {Hxs : Hp} {vxs : Value} {gp : Nat} {capsp : Array Value} {imp : List Hp} [FnC Tryz.prog gp] (xs : List Con) (p : Con → Bool) (hxs : Cons Hxs vxs xs) (hp : ∀ (Ha Hb Hr : Hp) (a b r : Value) (c : Con), c ∈ xs → Ints Ha a c.vars → Ints Hb b c.args → Rows Hr r c.rows → SpecP Tryz.prog gp (.agg #[.int .i64 c.kind, a, b, .int .i64 c.bound, r] :: capsp.toList) (Ha :: Hb :: Hr :: imp) (.bool (p c))) : SpecP Tryz.prog 130 [vxs, .func (.func gp) #[] capsp] (Hxs :: imp) (.int .i64 (indexBy p xs)) := by
 refine spec_of Tryz.func130 rfl rfl rfl (fun B => ?_)
 refine cS (cr (sg rfl (ln (qc (cS (cS (cr (mv rfl (le9 rfl ‹_› (fun l1 => ?_))))))))))
 refine mv rfl (ln (qc (bl (kc_loop0 (A := Nat) (fun zz => (zz ≤ xs.length) ∧ ((xs.take zz).any p = false)) (fun zz => xs.length - zz) (fun zz => [(8, .int .i64 (zz : Int))]) (0) (pk [0, 1, 7] rfl) (pc 8 rfl pn) ⟨Nat.zero_le _, by simp⟩ ?_))))
 rintro k hJ4
 obtain ⟨hk2, hi3⟩ : (k ≤ xs.length) ∧ ((xs.take k).any p = false) := hJ4
 change KC _ _ (_) _ _ ([(8, .int .i64 (k : Int))] ++ _)
 refine cS (cr (ls9 rfl rfl ?_))
 refine ln (qc (cS (ci9 rfl (fun c5 => ?_) (fun c5 => ?_))))
 ·refine sk (qc (cS (bl (cS (cr (mv rfl (sg rfl (ln (qc (cS (cr (mv rfl ?_))))))))))))
  refine mv rfl (mv rfl (kl_inC rfl rfl ‹_› (by omega) (fun p6 u8 u9 u10 h11 h12 h13 a7 => ?_)))
  refine kl_ldS rfl ‹_› rfl ?_
  refine cP rfl rfl (hp _ _ _ _ _ _ (xs.getD k nilCon) (getD_mem (by omega)) ‹_› ‹_› ‹_›) ?_
  refine ln (qc (cd9 rfl (fun c14 => ?_) (fun c14 => ?_)))
  ·have c14r := c14
   try simp only [smpE] at c14
   refine cS (cr (mv rfl (sg rfl (ln (qc (rt (kq_retP rfl rfl (congrArg (Value.int .i64) ?_))))))))
   exact indexBy_hit (d := nilCon) (by omega) ‹_› ‹_›
  ·have c14r := c14
   try simp only [smpE] at c14
   refine sk (qc (cr (ic9 rfl rfl (by omega) ?_)))
   refine mv rfl (ln (kq_round0 ((k + 1)) (by omega) (⟨by omega, any_take_step (d := nilCon) (by omega) hi3 ‹_›⟩) (pc 8 rfl pn) (pk [0, 1, 7] rfl) slr9))
 ·refine ex9 (qc (cS (cr (sg rfl (ln (qc (rt (kq_retP rfl rfl (congrArg (Value.int .i64) ?_)))))))))
  exact indexBy_none (by omega) ‹_›
theorem cf_con_ok {Hxs : Hp} {vxs : Value} {gp : Nat} {capsp : Array Value} {imp : List Hp} [FnC Tryz.prog gp] (xs : List Con) (p : Con → Bool) (hxs : Cons Hxs vxs xs) (hp : ∀ (Ha Hb Hr : Hp) (a b r : Value) (c : Con), c ∈ xs → Ints Ha a c.vars → Ints Hb b c.args → Rows Hr r c.rows → SpecP Tryz.prog gp (.agg #[.int .i64 c.kind, a, b, .int .i64 c.bound, r] :: capsp.toList) (Ha :: Hb :: Hr :: imp) (.bool (p c))) : SpecP Tryz.prog 88 [vxs, .func (.func gp) #[] capsp] (Hxs :: imp) (.bool (xs.any p)) := by
 refine spec_of Tryz.func88 rfl rfl rfl (fun B => ?_)
 refine cS (cr (sg rfl (ln (qc (cS (cr (mv rfl (mv rfl (cP rfl rfl (ixf_con_ok xs p ‹_› hp) ?_)))))))))
 refine kl_geq rfl rfl ?_
 refine sg rfl (ln (qc (rt (kq_retP rfl rfl (congrArg Value.bool ?_)))))
 exact indexBy_any p xs
theorem validMod_ok {Hmd : Hp} {vmd : Value} {Hmc : Hp} {vmc : Value} (m : Mod) (hmd : Ints Hmd vmd m.doms) (hmc : Cons Hmc vmc m.cons) : SpecP Tryz.prog 51 [.agg #[vmd, vmc]] [Hmd, Hmc] (.bool (validModB m)) := by
 refine spec_of Tryz.func51 rfl rfl rfl (fun B => ?_)
 refine cS (cr (kl_box rfl rfl (fun p1 H2 f3 a4 => ?_)))
 refine sg rfl (ln (qc (cS (cr (fd9 rfl ‹_› (fun p5 a6 => ?_))))))
 refine ld rfl ‹_› (cP rfl rfl (domainsOk_ok m.doms ‹_›) ?_)
 refine mv rfl (jn 5 11 (.bool ((domainsOkB m.doms) && decide ((m.cons.length : Int) ≤ (6 : Int)))) (pk [1, 2, 6] rfl) (fun J11 => ?_) ?_)
 ·rcases Bool.eq_false_or_eq_true (domainsOkB m.doms) with g7 | g7
  ·have g7p := g7
   try simp only [smpD] at g7p
   refine gT rfl rfl g7 (fd9 rfl ‹_› (fun p8 a9 => ?_))
   refine gT rfl rfl g7 (ld rfl ‹_› (gT rfl rfl g7 (le9 rfl ‹_› (fun l10 => ?_))))
   refine gT rfl rfl g7 (kl_leq rfl rfl ?_)
   refine aT rfl rfl g7 ?_
   exact J11 _ (pk [11, 1, 2, 6] rfl)
  ·refine gF rfl rfl g7 (gF rfl rfl g7 (gF rfl rfl g7 (gF rfl rfl g7 (aF (decide ((m.cons.length : Int) ≤ (6 : Int))) rfl rfl g7 ?_))))
   exact J11 _ (pk [11, 1, 2, 6] rfl)
 refine mv rfl (jn 6 18 (.bool (((domainsOkB m.doms) && decide ((m.cons.length : Int) ≤ (6 : Int))) && !(m.cons.any (fun x14 => !validConB x14 m.doms.length)))) (pk [2, 12] rfl) (fun J16 => ?_) ?_)
 ·rcases Bool.eq_false_or_eq_true ((domainsOkB m.doms) && decide ((m.cons.length : Int) ≤ (6 : Int))) with g12 | g12
  ·have g12p := g12
   try simp only [smpD] at g12p
   refine gT rfl rfl g12 (fd9 rfl ‹_› (fun p13 a14 => ?_))
   refine gT rfl rfl g12 (ld rfl ‹_› (gT rfl rfl g12 (kl_mkf rfl ?_)))
   refine gT rfl rfl g12 (cP rfl rfl (cf_con_ok m.cons (fun x14 => !validConB x14 m.doms.length) ‹_› (fun _ _ _ ax14 bx14 rx14 x14 _ hax14 hbx14 hrx14 => validMod1_ok x14 m hax14 hbx14 hrx14 ‹_› ‹_› ‹_›)) ?_)
   refine gT rfl rfl g12 (nt9 rfl (aT rfl rfl g12 ?_))
   exact J16 _ (pk [18, 2, 12] rfl)
  ·refine gF rfl rfl g12 (gF rfl rfl g12 (gF rfl rfl g12 (gF rfl rfl g12 (gF rfl rfl g12 (aF (!(m.cons.any (fun x14 => !validConB x14 m.doms.length))) rfl rfl g12 ?_)))))
   exact J16 _ (pk [18, 2, 12] rfl)
 refine sg rfl (ln (qc (rt (kq_retP rfl rfl (congrArg Value.bool ?_)))))
 simp only [validModB, List.all_eq_not_any_not, Bool.and_assoc]; try rfl
end
section
theorem has_ok (m : Int) (i : Int) (h0 : 0 ≤ i) : SpecP Tryz.prog 137 [.int .i64 m, .int .i64 i] [] (.bool (hasB m i)) := by
 refine spec_of Tryz.func137 rfl rfl rfl (fun B => ?_)
 refine cS (cr (sg rfl (ln (qc (cS (cr (mv rfl (mv rfl (kl_shr rfl rfl (by omega) ?_)))))))))
 refine kl_and rfl rfl ?_
 refine eq9 rfl rfl ?_
 refine sg rfl (ln (qc (rt (kq_retP rfl rfl (congrArg Value.bool ?_)))))
 rfl
end
section
theorem clip_ok {Hxs : Hp} {vxs : Value} (xs : List Int) (hxs : Ints Hxs vxs xs) : Spec Tryz.prog 140 [vxs] [Hxs] (fun _ vq => Ints Hxs vq xs ∧ ClipV vxs vq xs.length) := by
 refine spec_of Tryz.func140 rfl rfl rfl (fun B => ?_)
 refine cS (cr (sg rfl (ln (qc (cS (cr (mv rfl (mv rfl (le9 rfl ‹_› (fun l1 => ?_))))))))))
 refine mv rfl (le9 rfl ‹_› (fun l2 => ?_))
 refine kl_clipV rfl rfl rfl ‹_› (by omega) (fun u3 h4 h4v => ?_)
 refine sg rfl (ln (qc (rt ?_)))
 exact kq_ret rfl rfl noHp (fr_no _) ⟨by assumption, by assumption⟩
end
end Go.Proofs.YtolndgeihijlbaaGreat
