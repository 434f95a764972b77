/- Walks of functions of the program: each returns what the plain function gives. Conditions: those that each statement names. -/
import Derived.Test.YtiilanckbocifaaWrd
import Derived.Test.YtiilanckbocifaaWssat
namespace Go.Proofs.Ytiilanckbocifaa
open Go
set_option linter.unusedSimpArgs false
set_option linter.unusedVariables false
theorem randomAutomaton_ok {br : Nat} {vbr : Value} {Hr : Hp} {bsr : List Int} (pr : Nat) (n : Int) (hn : 1 ≤ n ∧ n ≤ 4) (hp : pr + (12 * n.toNat) ≤ 1000000) (hr : Bytes Hr vbr bsr) : SpecT Try.prog 89 [.pointer (some ⟨br, 0, none⟩), .int .i64 n] [sing br (.cells [vbr, .int .i64 (pr : Int)].toArray 73 (0, 0))] [Hr] (fun vq L1 Ln Kq => ∃ q : Nat, q ≤ pr + (12 * n.toNat) ∧ L1 = [sing br (.cells [vbr, .int .i64 (q : Int)].toArray 73 (0, 0))] ∧ ∃ (Hq : Hp) (xq : List (List Int)), Ln = [Hq] ∧ OwnL 23 1 Hq Kq RowV vq xq ∧ ((xq.length : Int) = n ∧ ∀ r ∈ xq, r.length ≤ 12)) := by
 refine specT_of Try.func89 rfl rfl rfl (fun B => ?_)
 refine kc_seq (kc_region (kl_as rfl (kl_nil (kq_code (kc_seq (kc_region (kl_bs0 RowV rfl (fun v1 H2 f3 o4 => ?_))))))))
 refine kl_as rfl (kl_nil (kq_code (kc_seq (kc_seq (kc_region (kl_as rfl (kl_nil (kq_code (kc_block (kc_loopK (A := Nat × List (List Int) × Value × Hp × Hp × Nat) (fun zz => (zz.1 ≤ n.toNat) ∧ (zz.2.1.length = zz.1 ∧ ∀ r ∈ zz.2.1, r.length ≤ 12) ∧ Fr B zz.2.2.2.2.1 ∧ OwnL 23 1 zz.2.2.2.1 zz.2.2.2.2.1 RowV zz.2.2.1 zz.2.1 ∧ Fr B zz.2.2.2.1 ∧ zz.2.2.2.2.2 ≤ pr + 12 * zz.1) (fun zz => n.toNat - zz.1) (fun zz => zz.2.2.2.2.1) (fun zz => [zz.2.2.2.1, sing br (.cells [vbr, .int .i64 (zz.2.2.2.2.2 : Int)].toArray 73 (0, 0))]) (fun zz => [(6, .int .i64 (zz.1 : Int)), (5, zz.2.2.1)]) (0, ([]), v1, H2, noHp, pr) (pc 0 rfl (pc 1 rfl (pc 4 rfl pn))) (pc 6 rfl (pc 5 rfl pn)) rfl ⟨Nat.zero_le _, ⟨rfl, all_nil⟩, (fr_no _), o4, f3, (by first | omega | (dsimp only; omega))⟩ ?_))))))))))
 rintro ⟨i, out, v10, H7, K11, q13⟩ hJ15
 obtain ⟨hk5, hi6, f12, o8, f9, hq14⟩ : (i ≤ n.toNat) ∧ (out.length = i ∧ ∀ r ∈ out, r.length ≤ 12) ∧ Fr B K11 ∧ OwnL 23 1 H7 K11 RowV v10 out ∧ Fr B H7 ∧ q13 ≤ pr + 12 * i := hJ15
 change KC _ _ (K11 :: _) [H7, sing br (.cells [vbr, .int .i64 (q13 : Int)].toArray 73 (0, 0))] _ ([(6, .int .i64 (i : Int)), (5, v10)] ++ _)
 refine kc_seq (kc_seq (kc_region (kl_mv rfl (kl_mv rfl (kl_lss rfl rfl ?_)))))
 refine kl_nil (kq_code (kc_if rfl (fun c16 => ?_) (fun c16 => ?_)))
 ·skip
  refine kc_skipQ (kq_code (kc_seq (kc_block (kc_seq (kc_region (kl_bsI [] rfl rfl rfl (by decide) (fun v17 H18 f19 o20 => ?_)))))))
  refine kl_as rfl (kl_nil (kq_code (kc_seq (kc_seq (kc_region (kl_as rfl (kl_nil (kq_code (kc_block (kc_loopL (A := Nat × List Int × Value × Hp × Nat) (fun zz => (zz.1 ≤ 6) ∧ (zz.2.1.length = zz.1) ∧ OwnL 3 1 zz.2.2.2.1 noHp IntV zz.2.2.1 zz.2.1 ∧ Fr B zz.2.2.2.1 ∧ zz.2.2.2.2 ≤ q13 + 2 * zz.1) (fun zz => 6 - zz.1) (fun zz => [zz.2.2.2.1, H7, sing br (.cells [vbr, .int .i64 (zz.2.2.2.2 : Int)].toArray 73 (0, 0))]) (fun zz => [(8, .int .i64 (zz.1 : Int)), (7, zz.2.2.1)]) (0, ([]), v17, H18, q13) (pc 0 rfl (pc 1 rfl (pc 4 rfl (pc 5 rfl (pc 6 rfl (pc 11 rfl (pc 12 rfl (pc 13 rfl (pc 16 rfl pn))))))))) (pc 8 rfl (pc 7 rfl pn)) rfl ⟨Nat.zero_le _, rfl, o20, f19, (by first | omega | (dsimp only; omega))⟩ ?_))))))))))
  rintro ⟨j, row, v26, H23, q27⟩ hJ29
  obtain ⟨hk21, hi22, o24, f25, hq28⟩ : (j ≤ 6) ∧ (row.length = j) ∧ OwnL 3 1 H23 noHp IntV v26 row ∧ Fr B H23 ∧ q27 ≤ q13 + 2 * j := hJ29
  change KC _ _ (_) [H23, H7, sing br (.cells [vbr, .int .i64 (q27 : Int)].toArray 73 (0, 0))] _ ([(8, .int .i64 (j : Int)), (7, v26)] ++ _)
  refine kc_seq (kc_seq (kc_region (kl_mv rfl (kl_leq rfl rfl ?_))))
  refine kl_nil (kq_code (kc_if rfl (fun c30 => ?_) (fun c30 => ?_)))
  ·skip
   refine kc_skipQ (kq_code (kc_seq (kc_block (kc_region (kl_mv rfl (kl_mv rfl (kl_mv rfl (kl_add rfl rfl (by omega) ?_))))))))
   refine kl_callT rfl rfl (pick_ok q27 (n + (1 : Int)) (by omega) hr) (fun v31 L1 Ln K35 h32 f33 f34 => ?_)
   obtain ⟨q36, h37, rfl, rfl, z38, rfl, h39⟩ := h32
   refine kl_norm ?_
   refine kl_mv rfl (kl_callT rfl rfl (pick_ok q36 (2 : Int) (by omega) hr) (fun v42 L1 Ln K46 h43 f44 f45 => ?_))
   obtain ⟨q47, h48, rfl, rfl, z49, rfl, h50⟩ := h43
   refine kl_norm ?_
   refine kl_sub rfl rfl (by omega) ?_
   refine kl_bs rfl rfl rfl (by decide) (ca rfl ca_nil) (fun v53 H54 f55 r56 s57 => ?_)
   have h58 : Ints H54 v53 [(z38 - z49)] := litInts (xs := [(z38 - z49)]) (by simpa using s57)
   refine kl_apL (z38 - z49) rfl rfl o24 (by assumption) rfl (oc rfl oc_nil) (by omega) (by decide) (fun v59 H60 o61 f62 => ?_)
   have f63 := f62 B f25 (Nat.le_refl _)
   refine kl_as rfl (kl_nil (kq_code (kc_region (kl_mv rfl (kl_inc rfl rfl (by omega) ?_)))))
   refine kl_as rfl (kl_nil (kq_take [H60, H7, sing br (.cells [vbr, .int .i64 (q47 : Int)].toArray 73 (0, 0))] ?_))
   refine kq_roundL ((j + 1), (row ++ [(z38 - z49)]), v59, H60, q47) (by omega) (⟨by omega, (by simp; omega), o61, f63, (by first | omega | (dsimp only; omega))⟩) (pc 8 rfl (pc 7 rfl pn)) (pc 0 rfl (pc 1 rfl (pc 4 rfl (pc 5 rfl (pc 6 rfl (pc 11 rfl (pc 12 rfl (pc 13 rfl (pc 16 rfl pn))))))))) rfl (List.Sublist.refl _)
  ·skip
   refine kc_exit (kq_code (kc_seq (kc_seq (kc_region (kl_as rfl (kl_nil (kq_code (kc_block (kc_loopL (A := Nat × List Int × Hp) (fun zz => (zz.1 ≤ 6) ∧ (zz.2.1.length = 6) ∧ OwnL 3 1 zz.2.2 noHp IntV v26 zz.2.1 ∧ Fr B zz.2.2) (fun zz => 6 - zz.1) (fun zz => [zz.2.2, H7, sing br (.cells [vbr, .int .i64 (q27 : Int)].toArray 73 (0, 0))]) (fun zz => [(9, .int .i64 (zz.1 : Int))]) (0, row, H23) (pc 0 rfl (pc 1 rfl (pc 4 rfl (pc 5 rfl (pc 6 rfl (pc 7 rfl (pc 8 rfl (pc 11 rfl (pc 12 rfl (pc 13 rfl (pc 16 rfl (pc 17 rfl (pc 18 rfl pn))))))))))))) (pc 9 rfl pn) rfl ⟨Nat.zero_le _, (by dsimp only; omega), o24, f25⟩ ?_)))))))))
   rintro ⟨k, row2, H66⟩ hJ69
   obtain ⟨hk64, hi65, o67, f68⟩ : (k ≤ 6) ∧ (row2.length = 6) ∧ OwnL 3 1 H66 noHp IntV v26 row2 ∧ Fr B H66 := hJ69
   change KC _ _ (_) [H66, H7, sing br (.cells [vbr, .int .i64 (q27 : Int)].toArray 73 (0, 0))] _ ([(9, .int .i64 (k : Int))] ++ _)
   refine kc_seq (kc_seq (kc_region (kl_mv rfl (kl_leq rfl rfl ?_))))
   refine kl_nil (kq_code (kc_if rfl (fun c70 => ?_) (fun c70 => ?_)))
   ·skip
    refine kc_skipQ (kq_code (kc_seq (kc_block (kc_seq (kc_region (kl_mv rfl (kl_mv rfl (kl_ixLn rfl rfl (by assumption) (by omega) (fun p71 q72 => ?_)))))))))
    refine kl_ldLI rfl (by assumption) (by assumption) (by omega) ?_
    refine kl_mv rfl (kl_geq rfl rfl ?_)
    refine kl_nil (kq_code (kc_if rfl (fun c73 => ?_) (fun c73 => ?_)))
    ·skip
     refine kc_region (kl_mv rfl (kl_mv rfl (kl_mv rfl (kl_sub rfl rfl (by omega) ?_))))
     refine kl_ixLn rfl rfl (by assumption) (by omega) (fun p74 q75 => ?_)
     refine kl_stL (n - (1 : Int)) rfl rfl (by assumption) o67 (by omega) rfl rfl rfl (fun H76 o77 f78 => ?_)
     have f79 := f78 _ f68
     refine kl_chg [H76, H7, sing br (.cells [vbr, .int .i64 (q27 : Int)].toArray 73 (0, 0))] rfl ?_
     refine kl_nil (kq_code (kc_region (kl_mv rfl (kl_inc rfl rfl (by omega) ?_))))
     refine kl_as rfl (kl_nil (kq_take [H76, H7, sing br (.cells [vbr, .int .i64 (q27 : Int)].toArray 73 (0, 0))] ?_))
     refine kq_roundL ((k + 1), (row2.set k (n - (1 : Int))), H76) (by omega) (⟨by omega, (by first | omega | (simp; omega)), o77, f79⟩) (pc 9 rfl pn) (pc 0 rfl (pc 1 rfl (pc 4 rfl (pc 5 rfl (pc 6 rfl (pc 7 rfl (pc 8 rfl (pc 11 rfl (pc 12 rfl (pc 13 rfl (pc 16 rfl (pc 17 rfl (pc 18 rfl pn))))))))))))) rfl (List.Sublist.refl _)
    ·skip
     refine kc_skipQ (kq_code (kc_region (kl_mv rfl (kl_inc rfl rfl (by omega) ?_))))
     refine kl_as rfl (kl_nil (kq_take [H66, H7, sing br (.cells [vbr, .int .i64 (q27 : Int)].toArray 73 (0, 0))] ?_))
     refine kq_roundL ((k + 1), row2, H66) (by omega) (⟨by omega, (by first | omega | (simp; omega)), o67, f68⟩) (pc 9 rfl pn) (pc 0 rfl (pc 1 rfl (pc 4 rfl (pc 5 rfl (pc 6 rfl (pc 7 rfl (pc 8 rfl (pc 11 rfl (pc 12 rfl (pc 13 rfl (pc 16 rfl (pc 17 rfl (pc 18 rfl pn))))))))))))) rfl (List.Sublist.refl _)
   ·skip
    refine kc_exit (kq_code (kc_region (kl_mv rfl (kl_mv rfl (kl_bs rfl rfl rfl (by decide) (ca (by first | exact Sl.cells (by assumption) | exact OwnL.cells (by assumption)) ca_nil) (fun v80 H81 f82 r83 s84 => ?_))))))
    refine kl_frz H66 ?_
    have h85 := OwnL.ints o67
    refine kl_cmp K11 H66 (fun c86 => ?_)
    have o87 := OwnL.mono (K' := orHp K11 H66) o8 orL
    refine kl_apL row2 rfl rfl o87 (by assumption) ⟨_, rfl, Sl.mono (by assumption) (orC c86) (fun _ _ h => h)⟩ (oc (OwnL.oneCell (by assumption)) oc_nil) (by omega) (by decide) (fun v88 H89 o90 f91 => ?_)
    have f92 := f91 B f9 (Nat.le_refl _)
    refine kl_as rfl (kl_nil (kq_code (kc_region (kl_mv rfl (kl_inc rfl rfl (by omega) ?_)))))
    refine kl_as rfl (kl_nil (kq_take [H89, sing br (.cells [vbr, .int .i64 (q27 : Int)].toArray 73 (0, 0))] ?_))
    refine kq_roundK ((i + 1), (out ++ [row2]), v88, H89, (orHp K11 H66), q27) (by omega) (⟨by omega, ⟨by simp; omega, all_snoc hi6.2 (by first | omega | (simp; omega))⟩, (fr_or f12 f68), o90, f92, (by first | omega | (dsimp only; omega))⟩) (pc 6 rfl (pc 5 rfl pn)) (pc 0 rfl (pc 1 rfl (pc 4 rfl pn))) rfl (List.Sublist.refl _)
 ·skip
  refine kc_exit (kq_code (kc_seq (kc_region (kl_mv rfl (kl_as rfl (kl_nil (kq_code (kc_ret ?_))))))))
  exact kq_retT rfl rfl [sing br (.cells [vbr, .int .i64 (q13 : Int)].toArray 73 (0, 0))] [H7] K11 (fr1 f9) f12 ⟨q13, by omega, rfl, H7, out, rfl, o8, by exact ⟨by omega, hi6.2⟩⟩
theorem randomConstraint_ok {br : Nat} {vbr : Value} {Hr : Hp} {bsr : List Int} (pr : Nat) (n : Int) (hn : 1 ≤ n ∧ n ≤ 4) (hp : pr + (100) ≤ 1000000) (hr : Bytes Hr vbr bsr) : SpecT Try.prog 55 [.pointer (some ⟨br, 0, none⟩), .int .i64 n] [sing br (.cells [vbr, .int .i64 (pr : Int)].toArray 73 (0, 0))] [Hr] (fun vq L1 Ln Kq => ∃ q : Nat, q ≤ pr + (100) ∧ L1 = [sing br (.cells [vbr, .int .i64 (q : Int)].toArray 73 (0, 0))] ∧ ∃ cq : Con, Ln = [] ∧ ConR Kq vq cq ∧ ConSm 50 cq) := by
 refine specT_of Try.func55 rfl rfl rfl (fun B => ?_)
 refine kc_seq (kc_region (kl_alloc (cs := [.int .i64 (0 : Int), .slice none 0 0, .slice none 0 0, .int .i64 (0 : Int), .slice none 0 0]) rfl (fun b1 hb2 => ?_)))
 refine kl_nil (kq_code (kc_seq (kc_region (kl_mv rfl (kl_mv rfl (kl_callT rfl rfl (pick_ok pr n (by omega) hr) (fun v3 L1 Ln K7 h4 f5 f6 => ?_)))))))
 obtain ⟨q8, h9, rfl, rfl, z10, rfl, h11⟩ := h4
 refine kl_norm ?_
 refine kl_add rfl rfl (by omega) ?_
 refine kl_as rfl (kl_nil (kq_code (kc_seq (kc_region (kl_mv rfl (kl_callT rfl rfl (pick_ok q8 (9 : Int) (by omega) hr) (fun v14 L1 Ln K18 h15 f16 f17 => ?_)))))))
 obtain ⟨q19, h20, rfl, rfl, z21, rfl, h22⟩ := h15
 refine kl_norm ?_
 refine kl_add rfl rfl (by omega) ?_
 refine kl_mv rfl (kl_mv rfl (kl_mv rfl (kl_callT rfl rfl (someVars_ok q19 n ((1 : Int) + z10) (by first | assumption | omega) (by first | assumption | omega) (by omega) hr) (fun v25 L1 Ln K29 h26 f27 f28 => ?_))))
 obtain ⟨q30, h31, rfl, H34, z32, rfl, o35, h33⟩ := h26
 have f36 := f27 _ (.head _)
 refine kl_norm ?_
 refine kl_bd rfl (cp rfl (cp (OwnL.cells (by assumption)) cp_nil)) rfl ?_
 refine kl_alloc (cs := [.int .i64 (0 : Int), .slice none 0 0, .slice none 0 0, .int .i64 (0 : Int), .slice none 0 0]) rfl (fun b37 hb38 => ?_)
 refine kl_stW (us := [.int .i64 ((1 : Int) + z21), v25, .slice none 0 0, .int .i64 (0 : Int), .slice none 0 0]) rfl rfl rfl rfl (oc rfl (oc (OwnL.oneCell (by assumption)) (oc rfl (oc rfl (oc rfl oc_nil))))) rfl ?_
 refine kl_chg [sing b37 (.cells [.int .i64 ((1 : Int) + z21), v25, .slice none 0 0, .int .i64 (0 : Int), .slice none 0 0].toArray 53 (0, 0)), sing br (.cells [vbr, .int .i64 (q30 : Int)].toArray 73 (0, 0)), H34, sing b1 (.cells [.int .i64 (0 : Int), .slice none 0 0, .slice none 0 0, .int .i64 (0 : Int), .slice none 0 0].toArray 53 (0, 0))] rfl ?_
 refine kl_nil (kq_code (kc_seq (kc_seq (kc_region (kl_mv rfl (kl_lss rfl rfl ?_))))))
 refine kl_mv rfl (kl_join 9 33 (.bool (decide (n < (2 : Int)) && (decide (((1 : Int) + z21) = (2 : Int)) || decide (((1 : Int) + z21) = (4 : Int))))) (pc 0 rfl (pc 1 rfl (pc 4 rfl (pc 5 rfl (pc 6 rfl (pc 24 rfl pn)))))) (fun J42 => ?_) ?_)
 ·rcases Bool.eq_false_or_eq_true (decide (n < (2 : Int))) with g39 | g39
  ·skip
   have g39p := of_decide_eq_true g39
   refine kl_gT rfl rfl g39 (kl_fdV rfl (kl_gT rfl rfl g39 (kl_ldB rfl rfl (kl_gT rfl rfl g39 (kl_eql rfl rfl ?_)))))
   refine kl_gT rfl rfl g39 (kl_mv rfl (kl_join 4 32 (.bool (decide (((1 : Int) + z21) = (2 : Int)) || decide (((1 : Int) + z21) = (4 : Int)))) (pc 0 rfl (pc 1 rfl (pc 4 rfl (pc 5 rfl (pc 6 rfl (pc 24 rfl (pc 28 rfl pn))))))) (fun J41 => ?_) ?_))
   ·rcases Bool.eq_false_or_eq_true (decide (((1 : Int) + z21) = (2 : Int))) with g40 | g40
    ·skip
     refine kl_gF rfl rfl g40 (kl_gF rfl rfl g40 (kl_gF rfl rfl g40 (kl_gT rfl rfl g39 (kl_orT (decide (((1 : Int) + z21) = (4 : Int))) rfl rfl g40 ?_))))
     exact J41 _ (pc 32 rfl (pc 0 rfl (pc 1 rfl (pc 4 rfl (pc 5 rfl (pc 6 rfl (pc 24 rfl (pc 28 rfl pn))))))))
    ·skip
     have g40p := of_decide_eq_false g40
     refine kl_gT rfl rfl g40 (kl_fdV rfl (kl_gT rfl rfl g40 (kl_ldB rfl rfl (kl_gT rfl rfl g40 (kl_eql rfl rfl ?_)))))
     refine kl_gT rfl rfl g39 (kl_orF rfl rfl g40 ?_)
     exact J41 _ (pc 32 rfl (pc 0 rfl (pc 1 rfl (pc 4 rfl (pc 5 rfl (pc 6 rfl (pc 24 rfl (pc 28 rfl pn))))))))
   refine kl_andT rfl rfl g39 ?_
   exact J42 _ (pc 33 rfl (pc 0 rfl (pc 1 rfl (pc 4 rfl (pc 5 rfl (pc 6 rfl (pc 24 rfl pn)))))))
  ·skip
   refine kl_gF rfl rfl g39 (kl_gF rfl rfl g39 (kl_gF rfl rfl g39 (kl_gF rfl rfl g39 (kl_gU rfl rfl (kl_gU rfl rfl (kl_gU rfl rfl (kl_gF rfl rfl g39 (kl_andF (decide (((1 : Int) + z21) = (2 : Int)) || decide (((1 : Int) + z21) = (4 : Int))) rfl rfl g39 ?_))))))))
   exact J42 _ (pc 33 rfl (pc 0 rfl (pc 1 rfl (pc 4 rfl (pc 5 rfl (pc 6 rfl (pc 24 rfl pn)))))))
 refine kl_nil (kq_code (kc_cond rfl (fun c43 => ?_) (fun c43 => ?_)))
 ·skip
  have c43r := c43
  try simp only [smpC, decide_eq_true_eq, decide_eq_false_iff_not] at c43
  refine kc_region (kl_fdV rfl (kl_stB rfl rfl rfl rfl rfl ?_))
  refine kl_chg [sing b37 (.cells [.int .i64 (5 : Int), v25, .slice none 0 0, .int .i64 (0 : Int), .slice none 0 0].toArray 53 (0, 0)), sing br (.cells [vbr, .int .i64 (q30 : Int)].toArray 73 (0, 0)), H34, sing b1 (.cells [.int .i64 (0 : Int), .slice none 0 0, .slice none 0 0, .int .i64 (0 : Int), .slice none 0 0].toArray 53 (0, 0))] rfl ?_
  refine kl_nil (kq_code (kc_seq (kc_region (kl_fdV rfl (kl_ldB rfl rfl (kl_lenL rfl o35 (fun l44 => ?_)))))))
  refine kl_as rfl (kl_nil (kq_code (kc_seq (kc_seq (kc_region (kl_fdV rfl (kl_ldB rfl rfl (kl_nil (kq_code (kc_block (kc_seq (kc_region ?_))))))))))))
  refine kl_eql rfl rfl ?_
  refine kl_as rfl (kl_nil (kq_code (kc_if rfl (fun c45 => ?_) (fun c45 => ?_))))
  ·skip
   refine kc_seq (kc_seq (kc_region (kl_as rfl (kl_nil (kq_code (kc_block (kc_no ?_)))))))
   refine kc_loopL (A := Nat × List Int × Value × Hp × Nat) (fun zz => (zz.1 ≤ z32.length) ∧ (zz.2.1.length = zz.1) ∧ OwnL 3 1 zz.2.2.2.1 noHp IntV zz.2.2.1 zz.2.1 ∧ Fr B zz.2.2.2.1 ∧ zz.2.2.2.2 ≤ q30 + zz.1) (fun zz => z32.length - zz.1) (fun zz => [zz.2.2.2.1, sing b37 (.cells [.int .i64 (5 : Int), v25, zz.2.2.1, .int .i64 (0 : Int), .slice none 0 0].toArray 53 (0, 0)), sing br (.cells [vbr, .int .i64 (zz.2.2.2.2 : Int)].toArray 73 (0, 0)), H34, sing b1 (.cells [.int .i64 (0 : Int), .slice none 0 0, .slice none 0 0, .int .i64 (0 : Int), .slice none 0 0].toArray 53 (0, 0))]) (fun zz => [(7, .int .i64 (zz.1 : Int))]) (0, [], .slice none 0 0, noHp, q30) (pc 0 rfl (pc 4 rfl (pc 5 rfl (pc 6 rfl pn)))) (pc 7 rfl pn) rfl ⟨Nat.zero_le _, rfl, OwnL.nil, (fr_no _), (by first | omega | (dsimp only; omega))⟩ ?_
   rintro ⟨i, out, v51, H48, q53⟩ hJ55
   obtain ⟨hk46, hi47, o49, f50, hq54⟩ : (i ≤ z32.length) ∧ (out.length = i) ∧ OwnL 3 1 H48 noHp IntV v51 out ∧ Fr B H48 ∧ q53 ≤ q30 + i := hJ55
   change KC _ _ (_) [H48, sing b37 (.cells [.int .i64 (5 : Int), v25, v51, .int .i64 (0 : Int), .slice none 0 0].toArray 53 (0, 0)), sing br (.cells [vbr, .int .i64 (q53 : Int)].toArray 73 (0, 0)), H34, sing b1 (.cells [.int .i64 (0 : Int), .slice none 0 0, .slice none 0 0, .int .i64 (0 : Int), .slice none 0 0].toArray 53 (0, 0))] _ ([(7, .int .i64 (i : Int))] ++ _)
   refine kc_seq (kc_seq (kc_region (kl_mv rfl (kl_mv rfl (kl_lss rfl rfl ?_)))))
   refine kl_nil (kq_code (kc_if rfl (fun c56 => ?_) (fun c56 => ?_)))
   ·skip
    refine kc_skipQ (kq_code (kc_seq (kc_block (kc_tree (fun i => ([6, 8] : List Nat).contains i) [sing b37 (.cells [.int .i64 (5 : Int), v25, v51, .int .i64 (0 : Int), .slice none 0 0].toArray 53 (0, 0))] (by kernel_rfl) ?_))))
    refine kt_q 0 (.cons _ (.cons_cons _ (List.nil_sublist _))) rfl (by kernel_rfl) (kl_fdV rfl (kl_nil (kq_q (kt_q 1 (.cons _ (.cons_cons _ (List.nil_sublist _))) rfl (by kernel_rfl) (kl_ld rfl (at_box (T := 53) (cs := [.int .i64 (5 : Int), v25, v51, .int .i64 (0 : Int), .slice none 0 0]) (off := 2) (fz := (0, 0))) (kl_nil (kq_q (kt_q 2 (.cons _ (.cons_cons _ (List.nil_sublist _))) rfl (by kernel_rfl) ?_))))))))
    refine kl_mv rfl (kl_nil (kq_q (kt_a 3 rfl (by kernel_rfl) (kl_bs rfl rfl rfl (by decide) (ca rfl (ca rfl (ca rfl (ca rfl (ca rfl (ca rfl ca_nil)))))) (fun v57 H58 f59 r60 s61 => ?_)))))
    have h62 : Ints H58 v57 [(1 : Int), (1 : Int), (-1 : Int), (2 : Int), (-3 : Int), (0 : Int)] := litInts (xs := [(1 : Int), (1 : Int), (-1 : Int), (2 : Int), (-3 : Int), (0 : Int)]) (by simpa using s61)
    refine kl_nil (kq_a (.cons _ (.cons_cons _ (List.nil_sublist _))) (kt_a 4 rfl (by kernel_rfl) (kl_callT rfl rfl (one_ok q53 ([(1 : Int), (1 : Int), (-1 : Int), (2 : Int), (-3 : Int), (0 : Int)]) (by first | (simp; done) | omega) (by omega) hr (by assumption)) (fun v63 L1 Ln K67 h64 f65 f66 => ?_))))
    obtain ⟨q68, h69, rfl, rfl, z70, rfl, h71⟩ := h64
    refine kl_norm ?_
    refine kl_nil (kq_a (.cons _ (.cons _ (.cons_cons _ (List.nil_sublist _)))) (kt_a 5 rfl (by kernel_rfl) (kl_bs rfl rfl rfl (by decide) (ca rfl ca_nil) (fun v74 H75 f76 r77 s78 => ?_))))
    have h79 : Ints H75 v74 [z70] := litInts (xs := [z70]) (by simpa using s78)
    refine kl_nil (kq_a (.cons _ (.cons _ (.cons_cons _ (List.nil_sublist _)))) (kt_a 6 rfl (by kernel_rfl) (kl_apL z70 rfl rfl o49 (by assumption) rfl (oc rfl oc_nil) (by omega) (by decide) (fun v80 H81 o82 f83 => ?_))))
    have f84 := f83 B f50 (Nat.le_refl _)
    refine kl_nil (kq_x rfl (kt_q 7 (.cons _ (.cons _ (.cons_cons _ (List.nil_sublist _)))) rfl (by kernel_rfl) (kl_fdV rfl (kl_nil (kq_q (kt_a 8 rfl (by kernel_rfl) (kl_stB rfl rfl rfl (OwnL.oneCell (by assumption)) (OwnL.cells (by assumption)) ?_)))))))
    refine kl_chg [sing br (.cells [vbr, .int .i64 (q68 : Int)].toArray 73 (0, 0)), H81, sing b37 (.cells [.int .i64 (5 : Int), v25, v80, .int .i64 (0 : Int), .slice none 0 0].toArray 53 (0, 0)), H34, sing b1 (.cells [.int .i64 (0 : Int), .slice none 0 0, .slice none 0 0, .int .i64 (0 : Int), .slice none 0 0].toArray 53 (0, 0))] rfl ?_
    refine kl_nil (kq_x rfl (kt_end (by kernel_rfl) ?_))
    refine kq_code (kc_region (kl_mv rfl (kl_inc rfl rfl (by omega) ?_)))
    refine kl_as rfl (kl_nil (kq_take [H81, sing b37 (.cells [.int .i64 (5 : Int), v25, v80, .int .i64 (0 : Int), .slice none 0 0].toArray 53 (0, 0)), sing br (.cells [vbr, .int .i64 (q68 : Int)].toArray 73 (0, 0)), H34, sing b1 (.cells [.int .i64 (0 : Int), .slice none 0 0, .slice none 0 0, .int .i64 (0 : Int), .slice none 0 0].toArray 53 (0, 0))] ?_))
    refine kq_roundL ((i + 1), (out ++ [z70]), v80, H81, q68) (by omega) (⟨by omega, (by simp; omega), o82, f84, (by first | omega | (dsimp only; omega))⟩) (pc 7 rfl pn) (pc 0 rfl (pc 4 rfl (pc 5 rfl (pc 6 rfl pn)))) rfl (List.Sublist.refl _)
   ·skip
    refine kc_exit (kq_code (kc_region (kl_mv rfl (kl_callT rfl rfl (pick_ok q53 (14 : Int) (by omega) hr) (fun v85 L1 Ln K89 h86 f87 f88 => ?_)))))
    obtain ⟨q90, h91, rfl, rfl, z92, rfl, h93⟩ := h86
    refine kl_norm ?_
    refine kl_sub rfl rfl (by omega) ?_
    refine kl_fdV rfl (kl_stB rfl rfl rfl rfl rfl ?_)
    refine kl_chg [sing br (.cells [vbr, .int .i64 (q90 : Int)].toArray 73 (0, 0)), H48, sing b37 (.cells [.int .i64 (5 : Int), v25, v51, .int .i64 (z92 - (4 : Int)), .slice none 0 0].toArray 53 (0, 0)), H34, sing b1 (.cells [.int .i64 (0 : Int), .slice none 0 0, .slice none 0 0, .int .i64 (0 : Int), .slice none 0 0].toArray 53 (0, 0))] rfl ?_
    refine kl_nil (kq_code (kc_seq (kc_region (kl_ldW rfl rfl (kl_stW (us := [.int .i64 (5 : Int), v25, v51, .int .i64 (z92 - (4 : Int)), .slice none 0 0]) rfl rfl rfl rfl (oc rfl (oc (OwnL.oneCell (by assumption)) (oc (OwnL.oneCell (by assumption)) (oc rfl (oc rfl oc_nil))))) rfl ?_)))))
    refine kl_chg [sing br (.cells [vbr, .int .i64 (q90 : Int)].toArray 73 (0, 0)), H48, sing b37 (.cells [.int .i64 (5 : Int), v25, v51, .int .i64 (z92 - (4 : Int)), .slice none 0 0].toArray 53 (0, 0)), H34, sing b1 (.cells [.int .i64 (5 : Int), v25, v51, .int .i64 (z92 - (4 : Int)), .slice none 0 0].toArray 53 (0, 0))] rfl ?_
    refine kl_nil (kq_code (kc_ret (kq_frz H34 ?_)))
    refine kq_frz H48 ?_
    refine kq_cmp H48 noHp (fun c96 => ?_)
    refine kq_cmp H34 (orHp H48 noHp) (fun c97 => ?_)
    exact kq_retTC rfl rfl rfl [sing br (.cells [vbr, .int .i64 (q90 : Int)].toArray 73 (0, 0))] [] (orHp H34 (orHp H48 noHp)) frn (fr_or f36 (fr_or f50 (fr_no _))) ⟨q90, by omega, rfl, ⟨(5 : Int), z32, out, (z92 - (4 : Int)), []⟩, rfl, ⟨_, rfl, _, _, _, rfl, (Sl.mono (OwnL.ints o35) (fun b o h => orL b o h) (fun _ _ h => h)), (Sl.mono (OwnL.ints o49) (fun b o h => orC c97 b o (orL b o h)) (fun _ _ h => h)), (Sl.mono Sl.nil (fun b o h => orC c97 b o (orC c96 b o h)) (fun _ _ h => h))⟩, by (constructor <;> dsimp only <;> first | omega | exact all_nil | assumption | (simp; done) | (simp; omega) | (simp only [List.length_cons, List.length_nil]; omega))⟩
  ·skip
   refine kc_seq (kc_region (kl_eql rfl rfl ?_))
   refine kl_as rfl (kl_nil (kq_code (kc_if rfl (fun c98 => ?_) (fun c98 => ?_))))
   ·skip
    refine kc_seq (kc_region (kl_mv rfl (kl_mv rfl (kl_callT rfl rfl (someVars_ok q30 n (2 : Int) (by first | assumption | omega) (by first | assumption | omega) (by omega) hr) (fun v99 L1 Ln K103 h100 f101 f102 => ?_)))))
    obtain ⟨q104, h105, rfl, H108, z106, rfl, o109, h107⟩ := h100
    have f110 := f101 _ (.head _)
    refine kl_norm ?_
    refine kl_fdV rfl (kl_stB rfl rfl rfl (OwnL.oneCell (by assumption)) (OwnL.cells (by assumption)) ?_)
    refine kl_chg [sing br (.cells [vbr, .int .i64 (q104 : Int)].toArray 73 (0, 0)), H108, sing b37 (.cells [.int .i64 (5 : Int), v99, .slice none 0 0, .int .i64 (0 : Int), .slice none 0 0].toArray 53 (0, 0)), H34, sing b1 (.cells [.int .i64 (0 : Int), .slice none 0 0, .slice none 0 0, .int .i64 (0 : Int), .slice none 0 0].toArray 53 (0, 0))] rfl ?_
    refine kl_nil (kq_code (kc_region (kl_mv rfl (kl_callT rfl rfl (pick_ok q104 (5 : Int) (by omega) hr) (fun v111 L1 Ln K115 h112 f113 f114 => ?_)))))
    obtain ⟨q116, h117, rfl, rfl, z118, rfl, h119⟩ := h112
    refine kl_norm ?_
    refine kl_sub rfl rfl (by omega) ?_
    refine kl_bs rfl rfl rfl (by decide) (ca rfl ca_nil) (fun v122 H123 f124 r125 s126 => ?_)
    have h127 : Ints H123 v122 [(z118 - (2 : Int))] := litInts (xs := [(z118 - (2 : Int))]) (by simpa using s126)
    refine kl_fdV rfl (kl_stB rfl rfl rfl (Sl.oneCell (by assumption)) (Sl.cells (by assumption)) ?_)
    refine kl_chg [sing br (.cells [vbr, .int .i64 (q116 : Int)].toArray 73 (0, 0)), H108, sing b37 (.cells [.int .i64 (5 : Int), v99, v122, .int .i64 (0 : Int), .slice none 0 0].toArray 53 (0, 0)), H34, sing b1 (.cells [.int .i64 (0 : Int), .slice none 0 0, .slice none 0 0, .int .i64 (0 : Int), .slice none 0 0].toArray 53 (0, 0))] rfl ?_
    refine kl_nil (kq_code (kc_seq (kc_region (kl_ldW rfl rfl (kl_stW (us := [.int .i64 (5 : Int), v99, v122, .int .i64 (0 : Int), .slice none 0 0]) rfl rfl rfl rfl (oc rfl (oc (OwnL.oneCell (by assumption)) (oc (Sl.oneCell (by assumption)) (oc rfl (oc rfl oc_nil))))) rfl ?_)))))
    refine kl_chg [sing br (.cells [vbr, .int .i64 (q116 : Int)].toArray 73 (0, 0)), H108, sing b37 (.cells [.int .i64 (5 : Int), v99, v122, .int .i64 (0 : Int), .slice none 0 0].toArray 53 (0, 0)), H34, sing b1 (.cells [.int .i64 (5 : Int), v99, v122, .int .i64 (0 : Int), .slice none 0 0].toArray 53 (0, 0))] rfl ?_
    refine kl_nil (kq_code (kc_ret (kq_frz H108 ?_)))
    refine kq_cmp H123 noHp (fun c128 => ?_)
    refine kq_cmp H108 (orHp H123 noHp) (fun c129 => ?_)
    exact kq_retTC rfl rfl rfl [sing br (.cells [vbr, .int .i64 (q116 : Int)].toArray 73 (0, 0))] [] (orHp H108 (orHp H123 noHp)) frn (fr_or f110 (fr_or f124 (fr_no _))) ⟨q116, by omega, rfl, ⟨(5 : Int), z106, ([(z118 - (2 : Int))]), (0 : Int), []⟩, rfl, ⟨_, rfl, _, _, _, rfl, (Sl.mono (OwnL.ints o109) (fun b o h => orL b o h) (fun _ _ h => h)), (Sl.mono (by assumption) (fun b o h => orC c129 b o (orL b o h)) (fun _ _ h => h)), (Sl.mono Sl.nil (fun b o h => orC c129 b o (orC c128 b o h)) (fun _ _ h => h))⟩, by (constructor <;> dsimp only <;> first | omega | exact all_nil | assumption | (simp; done) | (simp; omega) | (simp only [List.length_cons, List.length_nil]; omega))⟩
   ·skip
    refine kc_seq (kc_region (kl_eql rfl rfl ?_))
    refine kl_as rfl (kl_nil (kq_code (kc_if rfl (fun c130 => ?_) (fun c130 => ?_))))
    ·skip
     refine kc_seq (kc_region (kl_mv rfl (kl_mv rfl (kl_callT rfl rfl (someVars_ok q30 n (2 : Int) (by first | assumption | omega) (by first | assumption | omega) (by omega) hr) (fun v131 L1 Ln K135 h132 f133 f134 => ?_)))))
     obtain ⟨q136, h137, rfl, H140, z138, rfl, o141, h139⟩ := h132
     have f142 := f133 _ (.head _)
     refine kl_norm ?_
     refine kl_fdV rfl (kl_stB rfl rfl rfl (OwnL.oneCell (by assumption)) (OwnL.cells (by assumption)) ?_)
     refine kl_chg [sing br (.cells [vbr, .int .i64 (q136 : Int)].toArray 73 (0, 0)), H140, sing b37 (.cells [.int .i64 (5 : Int), v131, .slice none 0 0, .int .i64 (0 : Int), .slice none 0 0].toArray 53 (0, 0)), H34, sing b1 (.cells [.int .i64 (0 : Int), .slice none 0 0, .slice none 0 0, .int .i64 (0 : Int), .slice none 0 0].toArray 53 (0, 0))] rfl ?_
     refine kl_nil (kq_code (kc_region (kl_mv rfl (kl_mv rfl (kl_callT rfl rfl (pick_ok q136 (6 : Int) (by omega) hr) (fun v143 L1 Ln K147 h144 f145 f146 => ?_))))))
     obtain ⟨q148, h149, rfl, rfl, z150, rfl, h151⟩ := h144
     refine kl_norm ?_
     refine kl_add rfl rfl (by omega) ?_
     refine kl_callT rfl rfl (randomRow_ok q148 ((1 : Int) + z150) (by first | assumption | omega) (by omega) hr) (fun v154 L1 Ln K158 h155 f156 f157 => ?_)
     obtain ⟨q159, h160, rfl, H163, z161, rfl, o164, h162⟩ := h155
     have f165 := f156 _ (.head _)
     refine kl_norm ?_
     refine kl_fdV rfl (kl_stB rfl rfl rfl (OwnL.oneCell (by assumption)) (OwnL.cells (by assumption)) ?_)
     refine kl_chg [sing br (.cells [vbr, .int .i64 (q159 : Int)].toArray 73 (0, 0)), H163, H140, sing b37 (.cells [.int .i64 (5 : Int), v131, v154, .int .i64 (0 : Int), .slice none 0 0].toArray 53 (0, 0)), H34, sing b1 (.cells [.int .i64 (0 : Int), .slice none 0 0, .slice none 0 0, .int .i64 (0 : Int), .slice none 0 0].toArray 53 (0, 0))] rfl ?_
     refine kl_nil (kq_code (kc_seq (kc_region (kl_ldW rfl rfl (kl_stW (us := [.int .i64 (5 : Int), v131, v154, .int .i64 (0 : Int), .slice none 0 0]) rfl rfl rfl rfl (oc rfl (oc (OwnL.oneCell (by assumption)) (oc (OwnL.oneCell (by assumption)) (oc rfl (oc rfl oc_nil))))) rfl ?_)))))
     refine kl_chg [sing br (.cells [vbr, .int .i64 (q159 : Int)].toArray 73 (0, 0)), H163, H140, sing b37 (.cells [.int .i64 (5 : Int), v131, v154, .int .i64 (0 : Int), .slice none 0 0].toArray 53 (0, 0)), H34, sing b1 (.cells [.int .i64 (5 : Int), v131, v154, .int .i64 (0 : Int), .slice none 0 0].toArray 53 (0, 0))] rfl ?_
     refine kl_nil (kq_code (kc_ret (kq_frz H140 ?_)))
     refine kq_frz H163 ?_
     refine kq_cmp H163 noHp (fun c166 => ?_)
     refine kq_cmp H140 (orHp H163 noHp) (fun c167 => ?_)
     exact kq_retTC rfl rfl rfl [sing br (.cells [vbr, .int .i64 (q159 : Int)].toArray 73 (0, 0))] [] (orHp H140 (orHp H163 noHp)) frn (fr_or f142 (fr_or f165 (fr_no _))) ⟨q159, by omega, rfl, ⟨(5 : Int), z138, z161, (0 : Int), []⟩, rfl, ⟨_, rfl, _, _, _, rfl, (Sl.mono (OwnL.ints o141) (fun b o h => orL b o h) (fun _ _ h => h)), (Sl.mono (OwnL.ints o164) (fun b o h => orC c167 b o (orL b o h)) (fun _ _ h => h)), (Sl.mono Sl.nil (fun b o h => orC c167 b o (orC c166 b o h)) (fun _ _ h => h))⟩, by (constructor <;> dsimp only <;> first | omega | exact all_nil | assumption | (simp; done) | (simp; omega) | (simp only [List.length_cons, List.length_nil]; omega))⟩
    ·skip
     refine kc_seq (kc_region (kl_eql rfl rfl ?_))
     refine kl_as rfl (kl_nil (kq_code (kc_if rfl (fun c168 => ?_) (fun c168 => ?_))))
     ·skip
      refine kc_seq (kc_region (kl_mv rfl (kl_callT rfl rfl (pick_ok q30 (6 : Int) (by omega) hr) (fun v169 L1 Ln K173 h170 f171 f172 => ?_))))
      obtain ⟨q174, h175, rfl, rfl, z176, rfl, h177⟩ := h170
      refine kl_norm ?_
      refine kl_add rfl rfl (by omega) ?_
      refine kl_as rfl (kl_nil (kq_code (kc_block (kc_no ?_))))
      refine kc_loopK (A := Int × List (List Int) × Value × Hp × Hp × Nat) (fun zz => (0 ≤ zz.1 ∧ zz.1 ≤ 6 ∧ zz.2.1.length + zz.1.toNat ≤ 6 ∧ ∀ r ∈ zz.2.1, r.length ≤ 12) ∧ Fr B zz.2.2.2.2.1 ∧ OwnL 23 1 zz.2.2.2.1 zz.2.2.2.2.1 RowV zz.2.2.1 zz.2.1 ∧ Fr B zz.2.2.2.1 ∧ zz.2.2.2.2.2 ≤ q174 + 12 * (6 - zz.1).toNat) (fun zz => zz.1.toNat) (fun zz => zz.2.2.2.2.1) (fun zz => [zz.2.2.2.1, sing br (.cells [vbr, .int .i64 (zz.2.2.2.2.2 : Int)].toArray 73 (0, 0)), sing b37 (.cells [.int .i64 (5 : Int), v25, .slice none 0 0, .int .i64 (0 : Int), zz.2.2.1].toArray 53 (0, 0)), H34, sing b1 (.cells [.int .i64 (0 : Int), .slice none 0 0, .slice none 0 0, .int .i64 (0 : Int), .slice none 0 0].toArray 53 (0, 0))]) (fun zz => [(8, .int .i64 zz.1)]) (((1 : Int) + z176), [], .slice none 0 0, noHp, noHp, q174) (pc 0 rfl (pc 4 rfl (pc 5 rfl (pc 6 rfl pn)))) (pc 8 rfl pn) rfl ⟨⟨by dsimp only; omega, by dsimp only; omega, by dsimp only; simp; omega, all_nil⟩, (fr_no _), OwnL.nil, (fr_no _), (by first | omega | (dsimp only; omega))⟩ ?_
      rintro ⟨i, out, v185, H182, K186, q189⟩ hJ191
      obtain ⟨hi181, f187, o183, f184, hq190⟩ : (0 ≤ i ∧ i ≤ 6 ∧ out.length + i.toNat ≤ 6 ∧ ∀ r ∈ out, r.length ≤ 12) ∧ Fr B K186 ∧ OwnL 23 1 H182 K186 RowV v185 out ∧ Fr B H182 ∧ q189 ≤ q174 + 12 * (6 - i).toNat := hJ191
      change KC _ _ (K186 :: _) [H182, sing br (.cells [vbr, .int .i64 (q189 : Int)].toArray 73 (0, 0)), sing b37 (.cells [.int .i64 (5 : Int), v25, .slice none 0 0, .int .i64 (0 : Int), v185].toArray 53 (0, 0)), H34, sing b1 (.cells [.int .i64 (0 : Int), .slice none 0 0, .slice none 0 0, .int .i64 (0 : Int), .slice none 0 0].toArray 53 (0, 0))] _ ([(8, .int .i64 i)] ++ _)
      have hall := hi181.2.2.2
      refine kc_seq (kc_seq (kc_region (kl_mv rfl (kl_gtr rfl rfl ?_))))
      refine kl_nil (kq_code (kc_if rfl (fun c192 => ?_) (fun c192 => ?_)))
      ·skip
       refine kc_skipQ (kq_code (kc_seq (kc_block (kc_tree (fun i => ([6, 8] : List Nat).contains i) [sing b37 (.cells [.int .i64 (5 : Int), v25, .slice none 0 0, .int .i64 (0 : Int), v185].toArray 53 (0, 0))] (by kernel_rfl) ?_))))
       refine kt_q 0 (.cons _ (.cons _ (.cons_cons _ (List.nil_sublist _)))) rfl (by kernel_rfl) (kl_fdV rfl (kl_nil (kq_q (kt_q 1 (.cons _ (.cons _ (.cons_cons _ (List.nil_sublist _)))) rfl (by kernel_rfl) (kl_ld rfl (at_box (T := 53) (cs := [.int .i64 (5 : Int), v25, .slice none 0 0, .int .i64 (0 : Int), v185]) (off := 4) (fz := (0, 0))) (kl_nil (kq_q (kt_q 2 (.cons _ (.cons _ (.cons_cons _ (List.nil_sublist _)))) rfl (by kernel_rfl) ?_))))))))
       refine kl_mv rfl (kl_nil (kq_q (kt_q 3 (.cons _ (.cons _ (.cons_cons _ (List.nil_sublist _)))) rfl (by kernel_rfl) (kl_mv rfl (kl_nil (kq_q (kt_a 4 rfl (by kernel_rfl) (kl_callT rfl rfl (randomRow_ok q189 (z32.length : Int) (by first | assumption | omega) (by omega) hr) (fun v193 L1 Ln K197 h194 f195 f196 => ?_)))))))))
       obtain ⟨q198, h199, rfl, H202, z200, rfl, o203, h201⟩ := h194
       have f204 := f195 _ (.head _)
       refine kl_norm ?_
       refine kl_nil (kq_a (.cons _ (.cons _ (.cons _ (.cons_cons _ (List.nil_sublist _))))) (kt_a 5 rfl (by kernel_rfl) (kl_bs rfl rfl rfl (by decide) (ca (by first | exact Sl.cells (by assumption) | exact OwnL.cells (by assumption)) ca_nil) (fun v205 H206 f207 r208 s209 => ?_))))
       refine kl_nil (kq_a (.cons _ (.cons _ (.cons _ (.cons_cons _ (List.nil_sublist _))))) (kt_frz H202 ?_))
       have h210 := OwnL.ints o203
       refine kt_a 6 rfl (by kernel_rfl) (kl_cmp K186 H202 (fun c211 => ?_))
       have o212 := OwnL.mono (K' := orHp K186 H202) o183 orL
       refine kl_apL z200 rfl rfl o212 (by assumption) ⟨_, rfl, Sl.mono (by assumption) (orC c211) (fun _ _ h => h)⟩ (oc (Sl.oneCell (by assumption)) oc_nil) (by omega) (by decide) (fun v213 H214 o215 f216 => ?_)
       have f217 := f216 B f184 (Nat.le_refl _)
       refine kl_nil (kq_x rfl (kt_q 7 (.cons _ (.cons _ (.cons_cons _ (List.nil_sublist _)))) rfl (by kernel_rfl) (kl_fdV rfl (kl_nil (kq_q (kt_a 8 rfl (by kernel_rfl) (kl_stB rfl rfl rfl (OwnL.oneCell (by assumption)) (OwnL.cells (by assumption)) ?_)))))))
       refine kl_chg [sing br (.cells [vbr, .int .i64 (q198 : Int)].toArray 73 (0, 0)), H214, sing b37 (.cells [.int .i64 (5 : Int), v25, .slice none 0 0, .int .i64 (0 : Int), v213].toArray 53 (0, 0)), H34, sing b1 (.cells [.int .i64 (0 : Int), .slice none 0 0, .slice none 0 0, .int .i64 (0 : Int), .slice none 0 0].toArray 53 (0, 0))] rfl ?_
       refine kl_nil (kq_x rfl (kt_end (by kernel_rfl) ?_))
       refine kq_code (kc_region (kl_mv rfl (kl_sub rfl rfl (by omega) ?_)))
       refine kl_as rfl (kl_nil (kq_take [H214, sing br (.cells [vbr, .int .i64 (q198 : Int)].toArray 73 (0, 0)), sing b37 (.cells [.int .i64 (5 : Int), v25, .slice none 0 0, .int .i64 (0 : Int), v213].toArray 53 (0, 0)), H34, sing b1 (.cells [.int .i64 (0 : Int), .slice none 0 0, .slice none 0 0, .int .i64 (0 : Int), .slice none 0 0].toArray 53 (0, 0))] ?_))
       refine kq_roundK ((i - (1 : Int)), (out ++ [z200]), v213, H214, (orHp K186 H202), q198) (by (dsimp only; omega)) (⟨⟨by dsimp only; omega, by dsimp only; omega, by simp; omega, all_snoc hi181.2.2.2 (by omega)⟩, (fr_or f187 f204), o215, f217, (by first | omega | (dsimp only; omega))⟩) (pc 8 rfl pn) (pc 0 rfl (pc 4 rfl (pc 5 rfl (pc 6 rfl pn)))) rfl (List.Sublist.refl _)
      ·skip
       refine kc_exit (kq_code (kc_seq (kc_region (kl_ldW rfl rfl (kl_stW (us := [.int .i64 (5 : Int), v25, .slice none 0 0, .int .i64 (0 : Int), v185]) rfl rfl rfl rfl (oc rfl (oc (OwnL.oneCell (by assumption)) (oc rfl (oc rfl (oc (OwnL.oneCell (by assumption)) oc_nil))))) rfl ?_)))))
       refine kl_chg [H182, sing br (.cells [vbr, .int .i64 (q189 : Int)].toArray 73 (0, 0)), sing b37 (.cells [.int .i64 (5 : Int), v25, .slice none 0 0, .int .i64 (0 : Int), v185].toArray 53 (0, 0)), H34, sing b1 (.cells [.int .i64 (5 : Int), v25, .slice none 0 0, .int .i64 (0 : Int), v185].toArray 53 (0, 0))] rfl ?_
       refine kl_nil (kq_code (kc_ret (kq_frz H34 ?_)))
       refine kq_frz H182 ?_
       refine kq_cmp H182 K186 (fun c218 => ?_)
       refine kq_cmp noHp (orHp H182 K186) (fun c219 => ?_)
       refine kq_cmp H34 (orHp noHp (orHp H182 K186)) (fun c220 => ?_)
       exact kq_retTC rfl rfl rfl [sing br (.cells [vbr, .int .i64 (q189 : Int)].toArray 73 (0, 0))] [] (orHp H34 (orHp noHp (orHp H182 K186))) frn (fr_or f36 (fr_or (fr_no _) (fr_or f184 f187))) ⟨q189, by omega, rfl, ⟨(5 : Int), z32, [], (0 : Int), out⟩, rfl, ⟨_, rfl, _, _, _, rfl, (Sl.mono (OwnL.ints o35) (fun b o h => orL b o h) (fun _ _ h => h)), (Sl.mono Sl.nil (fun b o h => orC c220 b o (orL b o h)) (fun _ _ h => h)), (Rows.mono' (OwnL.rowsK o183 c218) (fun b o h => orC c220 b o (orC c219 b o h)))⟩, by (constructor <;> dsimp only <;> first | omega | exact all_nil | assumption | (simp; done) | (simp; omega) | (simp only [List.length_cons, List.length_nil]; omega))⟩
     ·skip
      refine kc_seq (kc_region (kl_eql rfl rfl ?_))
      refine kl_as rfl (kl_nil (kq_code (kc_if rfl (fun c221 => ?_) (fun c221 => ?_))))
      ·skip
       refine kc_seq (kc_region (kl_mv rfl (kl_callT rfl rfl (pick_ok q30 (6 : Int) (by omega) hr) (fun v222 L1 Ln K226 h223 f224 f225 => ?_))))
       obtain ⟨q227, h228, rfl, rfl, z229, rfl, h230⟩ := h223
       refine kl_norm ?_
       refine kl_bs rfl rfl rfl (by decide) (ca rfl ca_nil) (fun v233 H234 f235 r236 s237 => ?_)
       have h238 : Ints H234 v233 [z229] := litInts (xs := [z229]) (by simpa using s237)
       refine kl_fdV rfl (kl_stB rfl rfl rfl (Sl.oneCell (by assumption)) (Sl.cells (by assumption)) ?_)
       refine kl_chg [sing br (.cells [vbr, .int .i64 (q227 : Int)].toArray 73 (0, 0)), sing b37 (.cells [.int .i64 (5 : Int), v25, v233, .int .i64 (0 : Int), .slice none 0 0].toArray 53 (0, 0)), H34, sing b1 (.cells [.int .i64 (0 : Int), .slice none 0 0, .slice none 0 0, .int .i64 (0 : Int), .slice none 0 0].toArray 53 (0, 0))] rfl ?_
       refine kl_nil (kq_code (kc_region (kl_mv rfl (kl_callT rfl rfl (pick_ok q227 (4 : Int) (by omega) hr) (fun v239 L1 Ln K243 h240 f241 f242 => ?_)))))
       obtain ⟨q244, h245, rfl, rfl, z246, rfl, h247⟩ := h240
       refine kl_norm ?_
       refine kl_fdV rfl (kl_stB rfl rfl rfl rfl rfl ?_)
       refine kl_chg [sing br (.cells [vbr, .int .i64 (q244 : Int)].toArray 73 (0, 0)), sing b37 (.cells [.int .i64 (5 : Int), v25, v233, .int .i64 z246, .slice none 0 0].toArray 53 (0, 0)), H34, sing b1 (.cells [.int .i64 (0 : Int), .slice none 0 0, .slice none 0 0, .int .i64 (0 : Int), .slice none 0 0].toArray 53 (0, 0))] rfl ?_
       refine kl_nil (kq_code (kc_seq (kc_region (kl_ldW rfl rfl (kl_stW (us := [.int .i64 (5 : Int), v25, v233, .int .i64 z246, .slice none 0 0]) rfl rfl rfl rfl (oc rfl (oc (OwnL.oneCell (by assumption)) (oc (Sl.oneCell (by assumption)) (oc rfl (oc rfl oc_nil))))) rfl ?_)))))
       refine kl_chg [sing br (.cells [vbr, .int .i64 (q244 : Int)].toArray 73 (0, 0)), sing b37 (.cells [.int .i64 (5 : Int), v25, v233, .int .i64 z246, .slice none 0 0].toArray 53 (0, 0)), H34, sing b1 (.cells [.int .i64 (5 : Int), v25, v233, .int .i64 z246, .slice none 0 0].toArray 53 (0, 0))] rfl ?_
       refine kl_nil (kq_code (kc_ret (kq_frz H34 ?_)))
       refine kq_cmp H234 noHp (fun c250 => ?_)
       refine kq_cmp H34 (orHp H234 noHp) (fun c251 => ?_)
       exact kq_retTC rfl rfl rfl [sing br (.cells [vbr, .int .i64 (q244 : Int)].toArray 73 (0, 0))] [] (orHp H34 (orHp H234 noHp)) frn (fr_or f36 (fr_or f235 (fr_no _))) ⟨q244, by omega, rfl, ⟨(5 : Int), z32, ([z229]), z246, []⟩, rfl, ⟨_, rfl, _, _, _, rfl, (Sl.mono (OwnL.ints o35) (fun b o h => orL b o h) (fun _ _ h => h)), (Sl.mono (by assumption) (fun b o h => orC c251 b o (orL b o h)) (fun _ _ h => h)), (Sl.mono Sl.nil (fun b o h => orC c251 b o (orC c250 b o h)) (fun _ _ h => h))⟩, by (constructor <;> dsimp only <;> first | omega | exact all_nil | assumption | (simp; done) | (simp; omega) | (simp only [List.length_cons, List.length_nil]; omega))⟩
      ·skip
       refine kc_seq (kc_region (kl_eql rfl rfl ?_))
       refine kl_as rfl (kl_nil (kq_code (kc_if rfl (fun c252 => ?_) (fun c252 => ?_))))
       ·skip
        refine kc_seq (kc_seq (kc_region (kl_as rfl (kl_nil (kq_code (kc_block (kc_no ?_)))))))
        refine kc_loopL (A := Nat × List Int × Value × Hp × Nat) (fun zz => (zz.1 ≤ 8) ∧ (zz.2.1.length = zz.1) ∧ OwnL 3 1 zz.2.2.2.1 noHp IntV zz.2.2.1 zz.2.1 ∧ Fr B zz.2.2.2.1 ∧ zz.2.2.2.2 ≤ q30 + zz.1) (fun zz => 8 - zz.1) (fun zz => [zz.2.2.2.1, sing b37 (.cells [.int .i64 (5 : Int), v25, zz.2.2.1, .int .i64 (0 : Int), .slice none 0 0].toArray 53 (0, 0)), sing br (.cells [vbr, .int .i64 (zz.2.2.2.2 : Int)].toArray 73 (0, 0)), H34, sing b1 (.cells [.int .i64 (0 : Int), .slice none 0 0, .slice none 0 0, .int .i64 (0 : Int), .slice none 0 0].toArray 53 (0, 0))]) (fun zz => [(9, .int .i64 (zz.1 : Int))]) (0, [], .slice none 0 0, noHp, q30) (pc 0 rfl (pc 4 rfl (pc 5 rfl (pc 6 rfl pn)))) (pc 9 rfl pn) rfl ⟨Nat.zero_le _, rfl, OwnL.nil, (fr_no _), (by first | omega | (dsimp only; omega))⟩ ?_
        rintro ⟨i, out, v258, H255, q260⟩ hJ262
        obtain ⟨hk253, hi254, o256, f257, hq261⟩ : (i ≤ 8) ∧ (out.length = i) ∧ OwnL 3 1 H255 noHp IntV v258 out ∧ Fr B H255 ∧ q260 ≤ q30 + i := hJ262
        change KC _ _ (_) [H255, sing b37 (.cells [.int .i64 (5 : Int), v25, v258, .int .i64 (0 : Int), .slice none 0 0].toArray 53 (0, 0)), sing br (.cells [vbr, .int .i64 (q260 : Int)].toArray 73 (0, 0)), H34, sing b1 (.cells [.int .i64 (0 : Int), .slice none 0 0, .slice none 0 0, .int .i64 (0 : Int), .slice none 0 0].toArray 53 (0, 0))] _ ([(9, .int .i64 (i : Int))] ++ _)
        refine kc_seq (kc_seq (kc_region (kl_mv rfl (kl_mv rfl (kl_mul rfl rfl (by omega) ?_)))))
        refine kl_lss rfl rfl ?_
        refine kl_nil (kq_code (kc_if rfl (fun c263 => ?_) (fun c263 => ?_)))
        ·skip
         refine kc_skipQ (kq_code (kc_seq (kc_block (kc_tree (fun i => ([5, 7] : List Nat).contains i) [sing b37 (.cells [.int .i64 (5 : Int), v25, v258, .int .i64 (0 : Int), .slice none 0 0].toArray 53 (0, 0))] (by kernel_rfl) ?_))))
         refine kt_q 0 (.cons _ (.cons_cons _ (List.nil_sublist _))) rfl (by kernel_rfl) (kl_fdV rfl (kl_nil (kq_q (kt_q 1 (.cons _ (.cons_cons _ (List.nil_sublist _))) rfl (by kernel_rfl) (kl_ld rfl (at_box (T := 53) (cs := [.int .i64 (5 : Int), v25, v258, .int .i64 (0 : Int), .slice none 0 0]) (off := 2) (fz := (0, 0))) (kl_nil (kq_q (kt_q 2 (.cons _ (.cons_cons _ (List.nil_sublist _))) rfl (by kernel_rfl) ?_))))))))
         refine kl_mv rfl (kl_nil (kq_q (kt_a 3 rfl (by kernel_rfl) (kl_callT rfl rfl (pick_ok q260 (4 : Int) (by omega) hr) (fun v264 L1 Ln K268 h265 f266 f267 => ?_)))))
         obtain ⟨q269, h270, rfl, rfl, z271, rfl, h272⟩ := h265
         refine kl_norm ?_
         refine kl_nil (kq_a (.cons _ (.cons _ (.cons_cons _ (List.nil_sublist _)))) (kt_a 4 rfl (by kernel_rfl) (kl_bs rfl rfl rfl (by decide) (ca rfl ca_nil) (fun v275 H276 f277 r278 s279 => ?_))))
         have h280 : Ints H276 v275 [z271] := litInts (xs := [z271]) (by simpa using s279)
         refine kl_nil (kq_a (.cons _ (.cons _ (.cons_cons _ (List.nil_sublist _)))) (kt_a 5 rfl (by kernel_rfl) (kl_apL z271 rfl rfl o256 (by assumption) rfl (oc rfl oc_nil) (by omega) (by decide) (fun v281 H282 o283 f284 => ?_))))
         have f285 := f284 B f257 (Nat.le_refl _)
         refine kl_nil (kq_x rfl (kt_q 6 (.cons _ (.cons _ (.cons_cons _ (List.nil_sublist _)))) rfl (by kernel_rfl) (kl_fdV rfl (kl_nil (kq_q (kt_a 7 rfl (by kernel_rfl) (kl_stB rfl rfl rfl (OwnL.oneCell (by assumption)) (OwnL.cells (by assumption)) ?_)))))))
         refine kl_chg [sing br (.cells [vbr, .int .i64 (q269 : Int)].toArray 73 (0, 0)), H282, sing b37 (.cells [.int .i64 (5 : Int), v25, v281, .int .i64 (0 : Int), .slice none 0 0].toArray 53 (0, 0)), H34, sing b1 (.cells [.int .i64 (0 : Int), .slice none 0 0, .slice none 0 0, .int .i64 (0 : Int), .slice none 0 0].toArray 53 (0, 0))] rfl ?_
         refine kl_nil (kq_x rfl (kt_end (by kernel_rfl) ?_))
         refine kq_code (kc_region (kl_mv rfl (kl_inc rfl rfl (by omega) ?_)))
         refine kl_as rfl (kl_nil (kq_take [H282, sing b37 (.cells [.int .i64 (5 : Int), v25, v281, .int .i64 (0 : Int), .slice none 0 0].toArray 53 (0, 0)), sing br (.cells [vbr, .int .i64 (q269 : Int)].toArray 73 (0, 0)), H34, sing b1 (.cells [.int .i64 (0 : Int), .slice none 0 0, .slice none 0 0, .int .i64 (0 : Int), .slice none 0 0].toArray 53 (0, 0))] ?_))
         refine kq_roundL ((i + 1), (out ++ [z271]), v281, H282, q269) (by omega) (⟨by omega, (by simp; omega), o283, f285, (by first | omega | (dsimp only; omega))⟩) (pc 9 rfl pn) (pc 0 rfl (pc 4 rfl (pc 5 rfl (pc 6 rfl pn)))) rfl (List.Sublist.refl _)
        ·skip
         refine kc_exit (kq_code (kc_region (kl_mv rfl (kl_callT rfl rfl (pick_ok q260 (4 : Int) (by omega) hr) (fun v286 L1 Ln K290 h287 f288 f289 => ?_)))))
         obtain ⟨q291, h292, rfl, rfl, z293, rfl, h294⟩ := h287
         refine kl_norm ?_
         refine kl_add rfl rfl (by omega) ?_
         refine kl_fdV rfl (kl_stB rfl rfl rfl rfl rfl ?_)
         refine kl_chg [sing br (.cells [vbr, .int .i64 (q291 : Int)].toArray 73 (0, 0)), H255, sing b37 (.cells [.int .i64 (5 : Int), v25, v258, .int .i64 ((1 : Int) + z293), .slice none 0 0].toArray 53 (0, 0)), H34, sing b1 (.cells [.int .i64 (0 : Int), .slice none 0 0, .slice none 0 0, .int .i64 (0 : Int), .slice none 0 0].toArray 53 (0, 0))] rfl ?_
         refine kl_nil (kq_code (kc_seq (kc_region (kl_ldW rfl rfl (kl_stW (us := [.int .i64 (5 : Int), v25, v258, .int .i64 ((1 : Int) + z293), .slice none 0 0]) rfl rfl rfl rfl (oc rfl (oc (OwnL.oneCell (by assumption)) (oc (OwnL.oneCell (by assumption)) (oc rfl (oc rfl oc_nil))))) rfl ?_)))))
         refine kl_chg [sing br (.cells [vbr, .int .i64 (q291 : Int)].toArray 73 (0, 0)), H255, sing b37 (.cells [.int .i64 (5 : Int), v25, v258, .int .i64 ((1 : Int) + z293), .slice none 0 0].toArray 53 (0, 0)), H34, sing b1 (.cells [.int .i64 (5 : Int), v25, v258, .int .i64 ((1 : Int) + z293), .slice none 0 0].toArray 53 (0, 0))] rfl ?_
         refine kl_nil (kq_code (kc_ret (kq_frz H34 ?_)))
         refine kq_frz H255 ?_
         refine kq_cmp H255 noHp (fun c297 => ?_)
         refine kq_cmp H34 (orHp H255 noHp) (fun c298 => ?_)
         exact kq_retTC rfl rfl rfl [sing br (.cells [vbr, .int .i64 (q291 : Int)].toArray 73 (0, 0))] [] (orHp H34 (orHp H255 noHp)) frn (fr_or f36 (fr_or f257 (fr_no _))) ⟨q291, by omega, rfl, ⟨(5 : Int), z32, out, ((1 : Int) + z293), []⟩, rfl, ⟨_, rfl, _, _, _, rfl, (Sl.mono (OwnL.ints o35) (fun b o h => orL b o h) (fun _ _ h => h)), (Sl.mono (OwnL.ints o256) (fun b o h => orC c298 b o (orL b o h)) (fun _ _ h => h)), (Sl.mono Sl.nil (fun b o h => orC c298 b o (orC c297 b o h)) (fun _ _ h => h))⟩, by (constructor <;> dsimp only <;> first | omega | exact all_nil | assumption | (simp; done) | (simp; omega) | (simp only [List.length_cons, List.length_nil]; omega))⟩
       ·skip
        refine kc_seq (kc_region (kl_eql rfl rfl ?_))
        refine kl_as rfl (kl_nil (kq_code (kc_if rfl (fun c299 => ?_) (fun c299 => ?_))))
        ·skip
         refine kc_seq (kc_region (kl_mv rfl (kl_mv rfl (kl_callT rfl rfl (pick_ok q30 (3 : Int) (by omega) hr) (fun v300 L1 Ln K304 h301 f302 f303 => ?_)))))
         obtain ⟨q305, h306, rfl, rfl, z307, rfl, h308⟩ := h301
         refine kl_norm ?_
         refine kl_add rfl rfl (by omega) ?_
         refine kl_callT rfl rfl (randomAutomaton_ok q305 ((1 : Int) + z307) (by first | assumption | omega) (by omega) hr) (fun v311 L1 Ln K315 h312 f313 f314 => ?_)
         obtain ⟨q316, h317, rfl, H320, z318, rfl, o321, h319⟩ := h312
         have f322 := f313 _ (.head _)
         have h319a := h319.1
         have h319b := h319.2
         refine kl_norm ?_
         refine kl_fdV rfl (kl_stB rfl rfl rfl (OwnL.oneCell (by assumption)) (OwnL.cells (by assumption)) ?_)
         refine kl_chg [sing br (.cells [vbr, .int .i64 (q316 : Int)].toArray 73 (0, 0)), H320, sing b37 (.cells [.int .i64 (5 : Int), v25, .slice none 0 0, .int .i64 (0 : Int), v311].toArray 53 (0, 0)), H34, sing b1 (.cells [.int .i64 (0 : Int), .slice none 0 0, .slice none 0 0, .int .i64 (0 : Int), .slice none 0 0].toArray 53 (0, 0))] rfl ?_
         refine kl_nil (kq_code (kc_region (kl_fdV rfl (kl_ldB rfl rfl (kl_lenL rfl o321 (fun l323 => ?_))))))
         refine kl_sub rfl rfl (by omega) ?_
         refine kl_bs rfl rfl rfl (by decide) (ca rfl ca_nil) (fun v324 H325 f326 r327 s328 => ?_)
         have h329 : Ints H325 v324 [((z318.length : Int) - (1 : Int))] := litInts (xs := [((z318.length : Int) - (1 : Int))]) (by simpa using s328)
         refine kl_fdV rfl (kl_stB rfl rfl rfl (Sl.oneCell (by assumption)) (Sl.cells (by assumption)) ?_)
         refine kl_chg [sing br (.cells [vbr, .int .i64 (q316 : Int)].toArray 73 (0, 0)), H320, sing b37 (.cells [.int .i64 (5 : Int), v25, v324, .int .i64 (0 : Int), v311].toArray 53 (0, 0)), H34, sing b1 (.cells [.int .i64 (0 : Int), .slice none 0 0, .slice none 0 0, .int .i64 (0 : Int), .slice none 0 0].toArray 53 (0, 0))] rfl ?_
         refine kl_nil (kq_code (kc_seq (kc_region (kl_ldW rfl rfl (kl_stW (us := [.int .i64 (5 : Int), v25, v324, .int .i64 (0 : Int), v311]) rfl rfl rfl rfl (oc rfl (oc (OwnL.oneCell (by assumption)) (oc (Sl.oneCell (by assumption)) (oc rfl (oc (OwnL.oneCell (by assumption)) oc_nil))))) rfl ?_)))))
         refine kl_chg [sing br (.cells [vbr, .int .i64 (q316 : Int)].toArray 73 (0, 0)), H320, sing b37 (.cells [.int .i64 (5 : Int), v25, v324, .int .i64 (0 : Int), v311].toArray 53 (0, 0)), H34, sing b1 (.cells [.int .i64 (5 : Int), v25, v324, .int .i64 (0 : Int), v311].toArray 53 (0, 0))] rfl ?_
         refine kl_nil (kq_code (kc_ret (kq_frz H34 ?_)))
         refine kq_frz H320 ?_
         refine kq_cmp H320 K315 (fun c330 => ?_)
         refine kq_cmp H325 (orHp H320 K315) (fun c331 => ?_)
         refine kq_cmp H34 (orHp H325 (orHp H320 K315)) (fun c332 => ?_)
         exact kq_retTC rfl rfl rfl [sing br (.cells [vbr, .int .i64 (q316 : Int)].toArray 73 (0, 0))] [] (orHp H34 (orHp H325 (orHp H320 K315))) frn (fr_or f36 (fr_or f326 (fr_or f322 f314))) ⟨q316, by omega, rfl, ⟨(5 : Int), z32, ([((z318.length : Int) - (1 : Int))]), (0 : Int), z318⟩, rfl, ⟨_, rfl, _, _, _, rfl, (Sl.mono (OwnL.ints o35) (fun b o h => orL b o h) (fun _ _ h => h)), (Sl.mono (by assumption) (fun b o h => orC c332 b o (orL b o h)) (fun _ _ h => h)), (Rows.mono' (OwnL.rowsK o321 c330) (fun b o h => orC c332 b o (orC c331 b o h)))⟩, by (constructor <;> dsimp only <;> first | omega | exact all_nil | assumption | (simp; done) | (simp; omega) | (simp only [List.length_cons, List.length_nil]; omega))⟩
        ·skip
         refine kc_skipQ (kq_code (kc_seq (kc_region (kl_ldW rfl rfl (kl_stW (us := [.int .i64 (5 : Int), v25, .slice none 0 0, .int .i64 (0 : Int), .slice none 0 0]) rfl rfl rfl rfl (oc rfl (oc (OwnL.oneCell (by assumption)) (oc rfl (oc rfl (oc rfl oc_nil))))) rfl ?_)))))
         refine kl_chg [sing b37 (.cells [.int .i64 (5 : Int), v25, .slice none 0 0, .int .i64 (0 : Int), .slice none 0 0].toArray 53 (0, 0)), sing br (.cells [vbr, .int .i64 (q30 : Int)].toArray 73 (0, 0)), H34, sing b1 (.cells [.int .i64 (5 : Int), v25, .slice none 0 0, .int .i64 (0 : Int), .slice none 0 0].toArray 53 (0, 0))] rfl ?_
         refine kl_nil (kq_code (kc_ret (kq_frz H34 ?_)))
         refine kq_cmp noHp noHp (fun c333 => ?_)
         refine kq_cmp H34 (orHp noHp noHp) (fun c334 => ?_)
         exact kq_retTC rfl rfl rfl [sing br (.cells [vbr, .int .i64 (q30 : Int)].toArray 73 (0, 0))] [] (orHp H34 (orHp noHp noHp)) frn (fr_or f36 (fr_or (fr_no _) (fr_no _))) ⟨q30, by omega, rfl, ⟨(5 : Int), z32, [], (0 : Int), []⟩, rfl, ⟨_, rfl, _, _, _, rfl, (Sl.mono (OwnL.ints o35) (fun b o h => orL b o h) (fun _ _ h => h)), (Sl.mono Sl.nil (fun b o h => orC c334 b o (orL b o h)) (fun _ _ h => h)), (Sl.mono Sl.nil (fun b o h => orC c334 b o (orC c333 b o h)) (fun _ _ h => h))⟩, by (constructor <;> dsimp only <;> first | omega | exact all_nil | assumption | (simp; done) | (simp; omega) | (simp only [List.length_cons, List.length_nil]; omega))⟩
 ·skip
  have c43r := c43
  try simp only [smpC, decide_eq_true_eq, decide_eq_false_iff_not] at c43
  refine kc_skipQ (kq_code (kc_seq (kc_region (kl_fdV rfl (kl_ldB rfl rfl (kl_lenL rfl o35 (fun l335 => ?_)))))))
  refine kl_as rfl (kl_nil (kq_code (kc_seq (kc_seq (kc_region (kl_fdV rfl (kl_ldB rfl rfl (kl_nil (kq_code (kc_block (kc_seq (kc_region ?_))))))))))))
  refine kl_eql rfl rfl ?_
  refine kl_as rfl (kl_nil (kq_code (kc_if rfl (fun c336 => ?_) (fun c336 => ?_))))
  ·skip
   refine kc_seq (kc_seq (kc_region (kl_as rfl (kl_nil (kq_code (kc_block (kc_no ?_)))))))
   refine kc_loopL (A := Nat × List Int × Value × Hp × Nat) (fun zz => (zz.1 ≤ z32.length) ∧ (zz.2.1.length = zz.1) ∧ OwnL 3 1 zz.2.2.2.1 noHp IntV zz.2.2.1 zz.2.1 ∧ Fr B zz.2.2.2.1 ∧ zz.2.2.2.2 ≤ q30 + zz.1) (fun zz => z32.length - zz.1) (fun zz => [zz.2.2.2.1, sing b37 (.cells [.int .i64 ((1 : Int) + z21), v25, zz.2.2.1, .int .i64 (0 : Int), .slice none 0 0].toArray 53 (0, 0)), sing br (.cells [vbr, .int .i64 (zz.2.2.2.2 : Int)].toArray 73 (0, 0)), H34, sing b1 (.cells [.int .i64 (0 : Int), .slice none 0 0, .slice none 0 0, .int .i64 (0 : Int), .slice none 0 0].toArray 53 (0, 0))]) (fun zz => [(7, .int .i64 (zz.1 : Int))]) (0, [], .slice none 0 0, noHp, q30) (pc 0 rfl (pc 4 rfl (pc 5 rfl (pc 6 rfl pn)))) (pc 7 rfl pn) rfl ⟨Nat.zero_le _, rfl, OwnL.nil, (fr_no _), (by first | omega | (dsimp only; omega))⟩ ?_
   rintro ⟨i, out, v342, H339, q344⟩ hJ346
   obtain ⟨hk337, hi338, o340, f341, hq345⟩ : (i ≤ z32.length) ∧ (out.length = i) ∧ OwnL 3 1 H339 noHp IntV v342 out ∧ Fr B H339 ∧ q344 ≤ q30 + i := hJ346
   change KC _ _ (_) [H339, sing b37 (.cells [.int .i64 ((1 : Int) + z21), v25, v342, .int .i64 (0 : Int), .slice none 0 0].toArray 53 (0, 0)), sing br (.cells [vbr, .int .i64 (q344 : Int)].toArray 73 (0, 0)), H34, sing b1 (.cells [.int .i64 (0 : Int), .slice none 0 0, .slice none 0 0, .int .i64 (0 : Int), .slice none 0 0].toArray 53 (0, 0))] _ ([(7, .int .i64 (i : Int))] ++ _)
   refine kc_seq (kc_seq (kc_region (kl_mv rfl (kl_mv rfl (kl_lss rfl rfl ?_)))))
   refine kl_nil (kq_code (kc_if rfl (fun c347 => ?_) (fun c347 => ?_)))
   ·skip
    refine kc_skipQ (kq_code (kc_seq (kc_block (kc_tree (fun i => ([6, 8] : List Nat).contains i) [sing b37 (.cells [.int .i64 ((1 : Int) + z21), v25, v342, .int .i64 (0 : Int), .slice none 0 0].toArray 53 (0, 0))] (by kernel_rfl) ?_))))
    refine kt_q 0 (.cons _ (.cons_cons _ (List.nil_sublist _))) rfl (by kernel_rfl) (kl_fdV rfl (kl_nil (kq_q (kt_q 1 (.cons _ (.cons_cons _ (List.nil_sublist _))) rfl (by kernel_rfl) (kl_ld rfl (at_box (T := 53) (cs := [.int .i64 ((1 : Int) + z21), v25, v342, .int .i64 (0 : Int), .slice none 0 0]) (off := 2) (fz := (0, 0))) (kl_nil (kq_q (kt_q 2 (.cons _ (.cons_cons _ (List.nil_sublist _))) rfl (by kernel_rfl) ?_))))))))
    refine kl_mv rfl (kl_nil (kq_q (kt_a 3 rfl (by kernel_rfl) (kl_bs rfl rfl rfl (by decide) (ca rfl (ca rfl (ca rfl (ca rfl (ca rfl (ca rfl ca_nil)))))) (fun v348 H349 f350 r351 s352 => ?_)))))
    have h353 : Ints H349 v348 [(1 : Int), (1 : Int), (-1 : Int), (2 : Int), (-3 : Int), (0 : Int)] := litInts (xs := [(1 : Int), (1 : Int), (-1 : Int), (2 : Int), (-3 : Int), (0 : Int)]) (by simpa using s352)
    refine kl_nil (kq_a (.cons _ (.cons_cons _ (List.nil_sublist _))) (kt_a 4 rfl (by kernel_rfl) (kl_callT rfl rfl (one_ok q344 ([(1 : Int), (1 : Int), (-1 : Int), (2 : Int), (-3 : Int), (0 : Int)]) (by first | (simp; done) | omega) (by omega) hr (by assumption)) (fun v354 L1 Ln K358 h355 f356 f357 => ?_))))
    obtain ⟨q359, h360, rfl, rfl, z361, rfl, h362⟩ := h355
    refine kl_norm ?_
    refine kl_nil (kq_a (.cons _ (.cons _ (.cons_cons _ (List.nil_sublist _)))) (kt_a 5 rfl (by kernel_rfl) (kl_bs rfl rfl rfl (by decide) (ca rfl ca_nil) (fun v365 H366 f367 r368 s369 => ?_))))
    have h370 : Ints H366 v365 [z361] := litInts (xs := [z361]) (by simpa using s369)
    refine kl_nil (kq_a (.cons _ (.cons _ (.cons_cons _ (List.nil_sublist _)))) (kt_a 6 rfl (by kernel_rfl) (kl_apL z361 rfl rfl o340 (by assumption) rfl (oc rfl oc_nil) (by omega) (by decide) (fun v371 H372 o373 f374 => ?_))))
    have f375 := f374 B f341 (Nat.le_refl _)
    refine kl_nil (kq_x rfl (kt_q 7 (.cons _ (.cons _ (.cons_cons _ (List.nil_sublist _)))) rfl (by kernel_rfl) (kl_fdV rfl (kl_nil (kq_q (kt_a 8 rfl (by kernel_rfl) (kl_stB rfl rfl rfl (OwnL.oneCell (by assumption)) (OwnL.cells (by assumption)) ?_)))))))
    refine kl_chg [sing br (.cells [vbr, .int .i64 (q359 : Int)].toArray 73 (0, 0)), H372, sing b37 (.cells [.int .i64 ((1 : Int) + z21), v25, v371, .int .i64 (0 : Int), .slice none 0 0].toArray 53 (0, 0)), H34, sing b1 (.cells [.int .i64 (0 : Int), .slice none 0 0, .slice none 0 0, .int .i64 (0 : Int), .slice none 0 0].toArray 53 (0, 0))] rfl ?_
    refine kl_nil (kq_x rfl (kt_end (by kernel_rfl) ?_))
    refine kq_code (kc_region (kl_mv rfl (kl_inc rfl rfl (by omega) ?_)))
    refine kl_as rfl (kl_nil (kq_take [H372, sing b37 (.cells [.int .i64 ((1 : Int) + z21), v25, v371, .int .i64 (0 : Int), .slice none 0 0].toArray 53 (0, 0)), sing br (.cells [vbr, .int .i64 (q359 : Int)].toArray 73 (0, 0)), H34, sing b1 (.cells [.int .i64 (0 : Int), .slice none 0 0, .slice none 0 0, .int .i64 (0 : Int), .slice none 0 0].toArray 53 (0, 0))] ?_))
    refine kq_roundL ((i + 1), (out ++ [z361]), v371, H372, q359) (by omega) (⟨by omega, (by simp; omega), o373, f375, (by first | omega | (dsimp only; omega))⟩) (pc 7 rfl pn) (pc 0 rfl (pc 4 rfl (pc 5 rfl (pc 6 rfl pn)))) rfl (List.Sublist.refl _)
   ·skip
    refine kc_exit (kq_code (kc_region (kl_mv rfl (kl_callT rfl rfl (pick_ok q344 (14 : Int) (by omega) hr) (fun v376 L1 Ln K380 h377 f378 f379 => ?_)))))
    obtain ⟨q381, h382, rfl, rfl, z383, rfl, h384⟩ := h377
    refine kl_norm ?_
    refine kl_sub rfl rfl (by omega) ?_
    refine kl_fdV rfl (kl_stB rfl rfl rfl rfl rfl ?_)
    refine kl_chg [sing br (.cells [vbr, .int .i64 (q381 : Int)].toArray 73 (0, 0)), H339, sing b37 (.cells [.int .i64 ((1 : Int) + z21), v25, v342, .int .i64 (z383 - (4 : Int)), .slice none 0 0].toArray 53 (0, 0)), H34, sing b1 (.cells [.int .i64 (0 : Int), .slice none 0 0, .slice none 0 0, .int .i64 (0 : Int), .slice none 0 0].toArray 53 (0, 0))] rfl ?_
    refine kl_nil (kq_code (kc_seq (kc_region (kl_ldW rfl rfl (kl_stW (us := [.int .i64 ((1 : Int) + z21), v25, v342, .int .i64 (z383 - (4 : Int)), .slice none 0 0]) rfl rfl rfl rfl (oc rfl (oc (OwnL.oneCell (by assumption)) (oc (OwnL.oneCell (by assumption)) (oc rfl (oc rfl oc_nil))))) rfl ?_)))))
    refine kl_chg [sing br (.cells [vbr, .int .i64 (q381 : Int)].toArray 73 (0, 0)), H339, sing b37 (.cells [.int .i64 ((1 : Int) + z21), v25, v342, .int .i64 (z383 - (4 : Int)), .slice none 0 0].toArray 53 (0, 0)), H34, sing b1 (.cells [.int .i64 ((1 : Int) + z21), v25, v342, .int .i64 (z383 - (4 : Int)), .slice none 0 0].toArray 53 (0, 0))] rfl ?_
    refine kl_nil (kq_code (kc_ret (kq_frz H34 ?_)))
    refine kq_frz H339 ?_
    refine kq_cmp H339 noHp (fun c387 => ?_)
    refine kq_cmp H34 (orHp H339 noHp) (fun c388 => ?_)
    exact kq_retTC rfl rfl rfl [sing br (.cells [vbr, .int .i64 (q381 : Int)].toArray 73 (0, 0))] [] (orHp H34 (orHp H339 noHp)) frn (fr_or f36 (fr_or f341 (fr_no _))) ⟨q381, by omega, rfl, ⟨((1 : Int) + z21), z32, out, (z383 - (4 : Int)), []⟩, rfl, ⟨_, rfl, _, _, _, rfl, (Sl.mono (OwnL.ints o35) (fun b o h => orL b o h) (fun _ _ h => h)), (Sl.mono (OwnL.ints o340) (fun b o h => orC c388 b o (orL b o h)) (fun _ _ h => h)), (Sl.mono Sl.nil (fun b o h => orC c388 b o (orC c387 b o h)) (fun _ _ h => h))⟩, by (constructor <;> dsimp only <;> first | omega | exact all_nil | assumption | (simp; done) | (simp; omega) | (simp only [List.length_cons, List.length_nil]; omega))⟩
  ·skip
   refine kc_seq (kc_region (kl_eql rfl rfl ?_))
   refine kl_as rfl (kl_nil (kq_code (kc_if rfl (fun c389 => ?_) (fun c389 => ?_))))
   ·skip
    refine kc_seq (kc_region (kl_mv rfl (kl_mv rfl (kl_callT rfl rfl (someVars_ok q30 n (2 : Int) (by first | assumption | omega) (by first | assumption | omega) (by omega) hr) (fun v390 L1 Ln K394 h391 f392 f393 => ?_)))))
    obtain ⟨q395, h396, rfl, H399, z397, rfl, o400, h398⟩ := h391
    have f401 := f392 _ (.head _)
    refine kl_norm ?_
    refine kl_fdV rfl (kl_stB rfl rfl rfl (OwnL.oneCell (by assumption)) (OwnL.cells (by assumption)) ?_)
    refine kl_chg [sing br (.cells [vbr, .int .i64 (q395 : Int)].toArray 73 (0, 0)), H399, sing b37 (.cells [.int .i64 ((1 : Int) + z21), v390, .slice none 0 0, .int .i64 (0 : Int), .slice none 0 0].toArray 53 (0, 0)), H34, sing b1 (.cells [.int .i64 (0 : Int), .slice none 0 0, .slice none 0 0, .int .i64 (0 : Int), .slice none 0 0].toArray 53 (0, 0))] rfl ?_
    refine kl_nil (kq_code (kc_region (kl_mv rfl (kl_callT rfl rfl (pick_ok q395 (5 : Int) (by omega) hr) (fun v402 L1 Ln K406 h403 f404 f405 => ?_)))))
    obtain ⟨q407, h408, rfl, rfl, z409, rfl, h410⟩ := h403
    refine kl_norm ?_
    refine kl_sub rfl rfl (by omega) ?_
    refine kl_bs rfl rfl rfl (by decide) (ca rfl ca_nil) (fun v413 H414 f415 r416 s417 => ?_)
    have h418 : Ints H414 v413 [(z409 - (2 : Int))] := litInts (xs := [(z409 - (2 : Int))]) (by simpa using s417)
    refine kl_fdV rfl (kl_stB rfl rfl rfl (Sl.oneCell (by assumption)) (Sl.cells (by assumption)) ?_)
    refine kl_chg [sing br (.cells [vbr, .int .i64 (q407 : Int)].toArray 73 (0, 0)), H399, sing b37 (.cells [.int .i64 ((1 : Int) + z21), v390, v413, .int .i64 (0 : Int), .slice none 0 0].toArray 53 (0, 0)), H34, sing b1 (.cells [.int .i64 (0 : Int), .slice none 0 0, .slice none 0 0, .int .i64 (0 : Int), .slice none 0 0].toArray 53 (0, 0))] rfl ?_
    refine kl_nil (kq_code (kc_seq (kc_region (kl_ldW rfl rfl (kl_stW (us := [.int .i64 ((1 : Int) + z21), v390, v413, .int .i64 (0 : Int), .slice none 0 0]) rfl rfl rfl rfl (oc rfl (oc (OwnL.oneCell (by assumption)) (oc (Sl.oneCell (by assumption)) (oc rfl (oc rfl oc_nil))))) rfl ?_)))))
    refine kl_chg [sing br (.cells [vbr, .int .i64 (q407 : Int)].toArray 73 (0, 0)), H399, sing b37 (.cells [.int .i64 ((1 : Int) + z21), v390, v413, .int .i64 (0 : Int), .slice none 0 0].toArray 53 (0, 0)), H34, sing b1 (.cells [.int .i64 ((1 : Int) + z21), v390, v413, .int .i64 (0 : Int), .slice none 0 0].toArray 53 (0, 0))] rfl ?_
    refine kl_nil (kq_code (kc_ret (kq_frz H399 ?_)))
    refine kq_cmp H414 noHp (fun c419 => ?_)
    refine kq_cmp H399 (orHp H414 noHp) (fun c420 => ?_)
    exact kq_retTC rfl rfl rfl [sing br (.cells [vbr, .int .i64 (q407 : Int)].toArray 73 (0, 0))] [] (orHp H399 (orHp H414 noHp)) frn (fr_or f401 (fr_or f415 (fr_no _))) ⟨q407, by omega, rfl, ⟨((1 : Int) + z21), z397, ([(z409 - (2 : Int))]), (0 : Int), []⟩, rfl, ⟨_, rfl, _, _, _, rfl, (Sl.mono (OwnL.ints o400) (fun b o h => orL b o h) (fun _ _ h => h)), (Sl.mono (by assumption) (fun b o h => orC c420 b o (orL b o h)) (fun _ _ h => h)), (Sl.mono Sl.nil (fun b o h => orC c420 b o (orC c419 b o h)) (fun _ _ h => h))⟩, by (constructor <;> dsimp only <;> first | omega | exact all_nil | assumption | (simp; done) | (simp; omega) | (simp only [List.length_cons, List.length_nil]; omega))⟩
   ·skip
    refine kc_seq (kc_region (kl_eql rfl rfl ?_))
    refine kl_as rfl (kl_nil (kq_code (kc_if rfl (fun c421 => ?_) (fun c421 => ?_))))
    ·skip
     refine kc_seq (kc_region (kl_mv rfl (kl_mv rfl (kl_callT rfl rfl (someVars_ok q30 n (2 : Int) (by first | assumption | omega) (by first | assumption | omega) (by omega) hr) (fun v422 L1 Ln K426 h423 f424 f425 => ?_)))))
     obtain ⟨q427, h428, rfl, H431, z429, rfl, o432, h430⟩ := h423
     have f433 := f424 _ (.head _)
     refine kl_norm ?_
     refine kl_fdV rfl (kl_stB rfl rfl rfl (OwnL.oneCell (by assumption)) (OwnL.cells (by assumption)) ?_)
     refine kl_chg [sing br (.cells [vbr, .int .i64 (q427 : Int)].toArray 73 (0, 0)), H431, sing b37 (.cells [.int .i64 ((1 : Int) + z21), v422, .slice none 0 0, .int .i64 (0 : Int), .slice none 0 0].toArray 53 (0, 0)), H34, sing b1 (.cells [.int .i64 (0 : Int), .slice none 0 0, .slice none 0 0, .int .i64 (0 : Int), .slice none 0 0].toArray 53 (0, 0))] rfl ?_
     refine kl_nil (kq_code (kc_region (kl_mv rfl (kl_mv rfl (kl_callT rfl rfl (pick_ok q427 (6 : Int) (by omega) hr) (fun v434 L1 Ln K438 h435 f436 f437 => ?_))))))
     obtain ⟨q439, h440, rfl, rfl, z441, rfl, h442⟩ := h435
     refine kl_norm ?_
     refine kl_add rfl rfl (by omega) ?_
     refine kl_callT rfl rfl (randomRow_ok q439 ((1 : Int) + z441) (by first | assumption | omega) (by omega) hr) (fun v445 L1 Ln K449 h446 f447 f448 => ?_)
     obtain ⟨q450, h451, rfl, H454, z452, rfl, o455, h453⟩ := h446
     have f456 := f447 _ (.head _)
     refine kl_norm ?_
     refine kl_fdV rfl (kl_stB rfl rfl rfl (OwnL.oneCell (by assumption)) (OwnL.cells (by assumption)) ?_)
     refine kl_chg [sing br (.cells [vbr, .int .i64 (q450 : Int)].toArray 73 (0, 0)), H454, H431, sing b37 (.cells [.int .i64 ((1 : Int) + z21), v422, v445, .int .i64 (0 : Int), .slice none 0 0].toArray 53 (0, 0)), H34, sing b1 (.cells [.int .i64 (0 : Int), .slice none 0 0, .slice none 0 0, .int .i64 (0 : Int), .slice none 0 0].toArray 53 (0, 0))] rfl ?_
     refine kl_nil (kq_code (kc_seq (kc_region (kl_ldW rfl rfl (kl_stW (us := [.int .i64 ((1 : Int) + z21), v422, v445, .int .i64 (0 : Int), .slice none 0 0]) rfl rfl rfl rfl (oc rfl (oc (OwnL.oneCell (by assumption)) (oc (OwnL.oneCell (by assumption)) (oc rfl (oc rfl oc_nil))))) rfl ?_)))))
     refine kl_chg [sing br (.cells [vbr, .int .i64 (q450 : Int)].toArray 73 (0, 0)), H454, H431, sing b37 (.cells [.int .i64 ((1 : Int) + z21), v422, v445, .int .i64 (0 : Int), .slice none 0 0].toArray 53 (0, 0)), H34, sing b1 (.cells [.int .i64 ((1 : Int) + z21), v422, v445, .int .i64 (0 : Int), .slice none 0 0].toArray 53 (0, 0))] rfl ?_
     refine kl_nil (kq_code (kc_ret (kq_frz H431 ?_)))
     refine kq_frz H454 ?_
     refine kq_cmp H454 noHp (fun c457 => ?_)
     refine kq_cmp H431 (orHp H454 noHp) (fun c458 => ?_)
     exact kq_retTC rfl rfl rfl [sing br (.cells [vbr, .int .i64 (q450 : Int)].toArray 73 (0, 0))] [] (orHp H431 (orHp H454 noHp)) frn (fr_or f433 (fr_or f456 (fr_no _))) ⟨q450, by omega, rfl, ⟨((1 : Int) + z21), z429, z452, (0 : Int), []⟩, rfl, ⟨_, rfl, _, _, _, rfl, (Sl.mono (OwnL.ints o432) (fun b o h => orL b o h) (fun _ _ h => h)), (Sl.mono (OwnL.ints o455) (fun b o h => orC c458 b o (orL b o h)) (fun _ _ h => h)), (Sl.mono Sl.nil (fun b o h => orC c458 b o (orC c457 b o h)) (fun _ _ h => h))⟩, by (constructor <;> dsimp only <;> first | omega | exact all_nil | assumption | (simp; done) | (simp; omega) | (simp only [List.length_cons, List.length_nil]; omega))⟩
    ·skip
     refine kc_seq (kc_region (kl_eql rfl rfl ?_))
     refine kl_as rfl (kl_nil (kq_code (kc_if rfl (fun c459 => ?_) (fun c459 => ?_))))
     ·skip
      refine kc_seq (kc_region (kl_mv rfl (kl_callT rfl rfl (pick_ok q30 (6 : Int) (by omega) hr) (fun v460 L1 Ln K464 h461 f462 f463 => ?_))))
      obtain ⟨q465, h466, rfl, rfl, z467, rfl, h468⟩ := h461
      refine kl_norm ?_
      refine kl_add rfl rfl (by omega) ?_
      refine kl_as rfl (kl_nil (kq_code (kc_block (kc_no ?_))))
      refine kc_loopK (A := Int × List (List Int) × Value × Hp × Hp × Nat) (fun zz => (0 ≤ zz.1 ∧ zz.1 ≤ 6 ∧ zz.2.1.length + zz.1.toNat ≤ 6 ∧ ∀ r ∈ zz.2.1, r.length ≤ 12) ∧ Fr B zz.2.2.2.2.1 ∧ OwnL 23 1 zz.2.2.2.1 zz.2.2.2.2.1 RowV zz.2.2.1 zz.2.1 ∧ Fr B zz.2.2.2.1 ∧ zz.2.2.2.2.2 ≤ q465 + 12 * (6 - zz.1).toNat) (fun zz => zz.1.toNat) (fun zz => zz.2.2.2.2.1) (fun zz => [zz.2.2.2.1, sing br (.cells [vbr, .int .i64 (zz.2.2.2.2.2 : Int)].toArray 73 (0, 0)), sing b37 (.cells [.int .i64 ((1 : Int) + z21), v25, .slice none 0 0, .int .i64 (0 : Int), zz.2.2.1].toArray 53 (0, 0)), H34, sing b1 (.cells [.int .i64 (0 : Int), .slice none 0 0, .slice none 0 0, .int .i64 (0 : Int), .slice none 0 0].toArray 53 (0, 0))]) (fun zz => [(8, .int .i64 zz.1)]) (((1 : Int) + z467), [], .slice none 0 0, noHp, noHp, q465) (pc 0 rfl (pc 4 rfl (pc 5 rfl (pc 6 rfl pn)))) (pc 8 rfl pn) rfl ⟨⟨by dsimp only; omega, by dsimp only; omega, by dsimp only; simp; omega, all_nil⟩, (fr_no _), OwnL.nil, (fr_no _), (by first | omega | (dsimp only; omega))⟩ ?_
      rintro ⟨i, out, v476, H473, K477, q480⟩ hJ482
      obtain ⟨hi472, f478, o474, f475, hq481⟩ : (0 ≤ i ∧ i ≤ 6 ∧ out.length + i.toNat ≤ 6 ∧ ∀ r ∈ out, r.length ≤ 12) ∧ Fr B K477 ∧ OwnL 23 1 H473 K477 RowV v476 out ∧ Fr B H473 ∧ q480 ≤ q465 + 12 * (6 - i).toNat := hJ482
      change KC _ _ (K477 :: _) [H473, sing br (.cells [vbr, .int .i64 (q480 : Int)].toArray 73 (0, 0)), sing b37 (.cells [.int .i64 ((1 : Int) + z21), v25, .slice none 0 0, .int .i64 (0 : Int), v476].toArray 53 (0, 0)), H34, sing b1 (.cells [.int .i64 (0 : Int), .slice none 0 0, .slice none 0 0, .int .i64 (0 : Int), .slice none 0 0].toArray 53 (0, 0))] _ ([(8, .int .i64 i)] ++ _)
      have hall := hi472.2.2.2
      refine kc_seq (kc_seq (kc_region (kl_mv rfl (kl_gtr rfl rfl ?_))))
      refine kl_nil (kq_code (kc_if rfl (fun c483 => ?_) (fun c483 => ?_)))
      ·skip
       refine kc_skipQ (kq_code (kc_seq (kc_block (kc_tree (fun i => ([6, 8] : List Nat).contains i) [sing b37 (.cells [.int .i64 ((1 : Int) + z21), v25, .slice none 0 0, .int .i64 (0 : Int), v476].toArray 53 (0, 0))] (by kernel_rfl) ?_))))
       refine kt_q 0 (.cons _ (.cons _ (.cons_cons _ (List.nil_sublist _)))) rfl (by kernel_rfl) (kl_fdV rfl (kl_nil (kq_q (kt_q 1 (.cons _ (.cons _ (.cons_cons _ (List.nil_sublist _)))) rfl (by kernel_rfl) (kl_ld rfl (at_box (T := 53) (cs := [.int .i64 ((1 : Int) + z21), v25, .slice none 0 0, .int .i64 (0 : Int), v476]) (off := 4) (fz := (0, 0))) (kl_nil (kq_q (kt_q 2 (.cons _ (.cons _ (.cons_cons _ (List.nil_sublist _)))) rfl (by kernel_rfl) ?_))))))))
       refine kl_mv rfl (kl_nil (kq_q (kt_q 3 (.cons _ (.cons _ (.cons_cons _ (List.nil_sublist _)))) rfl (by kernel_rfl) (kl_mv rfl (kl_nil (kq_q (kt_a 4 rfl (by kernel_rfl) (kl_callT rfl rfl (randomRow_ok q480 (z32.length : Int) (by first | assumption | omega) (by omega) hr) (fun v484 L1 Ln K488 h485 f486 f487 => ?_)))))))))
       obtain ⟨q489, h490, rfl, H493, z491, rfl, o494, h492⟩ := h485
       have f495 := f486 _ (.head _)
       refine kl_norm ?_
       refine kl_nil (kq_a (.cons _ (.cons _ (.cons _ (.cons_cons _ (List.nil_sublist _))))) (kt_a 5 rfl (by kernel_rfl) (kl_bs rfl rfl rfl (by decide) (ca (by first | exact Sl.cells (by assumption) | exact OwnL.cells (by assumption)) ca_nil) (fun v496 H497 f498 r499 s500 => ?_))))
       refine kl_nil (kq_a (.cons _ (.cons _ (.cons _ (.cons_cons _ (List.nil_sublist _))))) (kt_frz H493 ?_))
       have h501 := OwnL.ints o494
       refine kt_a 6 rfl (by kernel_rfl) (kl_cmp K477 H493 (fun c502 => ?_))
       have o503 := OwnL.mono (K' := orHp K477 H493) o474 orL
       refine kl_apL z491 rfl rfl o503 (by assumption) ⟨_, rfl, Sl.mono (by assumption) (orC c502) (fun _ _ h => h)⟩ (oc (Sl.oneCell (by assumption)) oc_nil) (by omega) (by decide) (fun v504 H505 o506 f507 => ?_)
       have f508 := f507 B f475 (Nat.le_refl _)
       refine kl_nil (kq_x rfl (kt_q 7 (.cons _ (.cons _ (.cons_cons _ (List.nil_sublist _)))) rfl (by kernel_rfl) (kl_fdV rfl (kl_nil (kq_q (kt_a 8 rfl (by kernel_rfl) (kl_stB rfl rfl rfl (OwnL.oneCell (by assumption)) (OwnL.cells (by assumption)) ?_)))))))
       refine kl_chg [sing br (.cells [vbr, .int .i64 (q489 : Int)].toArray 73 (0, 0)), H505, sing b37 (.cells [.int .i64 ((1 : Int) + z21), v25, .slice none 0 0, .int .i64 (0 : Int), v504].toArray 53 (0, 0)), H34, sing b1 (.cells [.int .i64 (0 : Int), .slice none 0 0, .slice none 0 0, .int .i64 (0 : Int), .slice none 0 0].toArray 53 (0, 0))] rfl ?_
       refine kl_nil (kq_x rfl (kt_end (by kernel_rfl) ?_))
       refine kq_code (kc_region (kl_mv rfl (kl_sub rfl rfl (by omega) ?_)))
       refine kl_as rfl (kl_nil (kq_take [H505, sing br (.cells [vbr, .int .i64 (q489 : Int)].toArray 73 (0, 0)), sing b37 (.cells [.int .i64 ((1 : Int) + z21), v25, .slice none 0 0, .int .i64 (0 : Int), v504].toArray 53 (0, 0)), H34, sing b1 (.cells [.int .i64 (0 : Int), .slice none 0 0, .slice none 0 0, .int .i64 (0 : Int), .slice none 0 0].toArray 53 (0, 0))] ?_))
       refine kq_roundK ((i - (1 : Int)), (out ++ [z491]), v504, H505, (orHp K477 H493), q489) (by (dsimp only; omega)) (⟨⟨by dsimp only; omega, by dsimp only; omega, by simp; omega, all_snoc hi472.2.2.2 (by omega)⟩, (fr_or f478 f495), o506, f508, (by first | omega | (dsimp only; omega))⟩) (pc 8 rfl pn) (pc 0 rfl (pc 4 rfl (pc 5 rfl (pc 6 rfl pn)))) rfl (List.Sublist.refl _)
      ·skip
       refine kc_exit (kq_code (kc_seq (kc_region (kl_ldW rfl rfl (kl_stW (us := [.int .i64 ((1 : Int) + z21), v25, .slice none 0 0, .int .i64 (0 : Int), v476]) rfl rfl rfl rfl (oc rfl (oc (OwnL.oneCell (by assumption)) (oc rfl (oc rfl (oc (OwnL.oneCell (by assumption)) oc_nil))))) rfl ?_)))))
       refine kl_chg [H473, sing br (.cells [vbr, .int .i64 (q480 : Int)].toArray 73 (0, 0)), sing b37 (.cells [.int .i64 ((1 : Int) + z21), v25, .slice none 0 0, .int .i64 (0 : Int), v476].toArray 53 (0, 0)), H34, sing b1 (.cells [.int .i64 ((1 : Int) + z21), v25, .slice none 0 0, .int .i64 (0 : Int), v476].toArray 53 (0, 0))] rfl ?_
       refine kl_nil (kq_code (kc_ret (kq_frz H34 ?_)))
       refine kq_frz H473 ?_
       refine kq_cmp H473 K477 (fun c509 => ?_)
       refine kq_cmp noHp (orHp H473 K477) (fun c510 => ?_)
       refine kq_cmp H34 (orHp noHp (orHp H473 K477)) (fun c511 => ?_)
       exact kq_retTC rfl rfl rfl [sing br (.cells [vbr, .int .i64 (q480 : Int)].toArray 73 (0, 0))] [] (orHp H34 (orHp noHp (orHp H473 K477))) frn (fr_or f36 (fr_or (fr_no _) (fr_or f475 f478))) ⟨q480, by omega, rfl, ⟨((1 : Int) + z21), z32, [], (0 : Int), out⟩, rfl, ⟨_, rfl, _, _, _, rfl, (Sl.mono (OwnL.ints o35) (fun b o h => orL b o h) (fun _ _ h => h)), (Sl.mono Sl.nil (fun b o h => orC c511 b o (orL b o h)) (fun _ _ h => h)), (Rows.mono' (OwnL.rowsK o474 c509) (fun b o h => orC c511 b o (orC c510 b o h)))⟩, by (constructor <;> dsimp only <;> first | omega | exact all_nil | assumption | (simp; done) | (simp; omega) | (simp only [List.length_cons, List.length_nil]; omega))⟩
     ·skip
      refine kc_seq (kc_region (kl_eql rfl rfl ?_))
      refine kl_as rfl (kl_nil (kq_code (kc_if rfl (fun c512 => ?_) (fun c512 => ?_))))
      ·skip
       refine kc_seq (kc_region (kl_mv rfl (kl_callT rfl rfl (pick_ok q30 (6 : Int) (by omega) hr) (fun v513 L1 Ln K517 h514 f515 f516 => ?_))))
       obtain ⟨q518, h519, rfl, rfl, z520, rfl, h521⟩ := h514
       refine kl_norm ?_
       refine kl_bs rfl rfl rfl (by decide) (ca rfl ca_nil) (fun v524 H525 f526 r527 s528 => ?_)
       have h529 : Ints H525 v524 [z520] := litInts (xs := [z520]) (by simpa using s528)
       refine kl_fdV rfl (kl_stB rfl rfl rfl (Sl.oneCell (by assumption)) (Sl.cells (by assumption)) ?_)
       refine kl_chg [sing br (.cells [vbr, .int .i64 (q518 : Int)].toArray 73 (0, 0)), sing b37 (.cells [.int .i64 ((1 : Int) + z21), v25, v524, .int .i64 (0 : Int), .slice none 0 0].toArray 53 (0, 0)), H34, sing b1 (.cells [.int .i64 (0 : Int), .slice none 0 0, .slice none 0 0, .int .i64 (0 : Int), .slice none 0 0].toArray 53 (0, 0))] rfl ?_
       refine kl_nil (kq_code (kc_region (kl_mv rfl (kl_callT rfl rfl (pick_ok q518 (4 : Int) (by omega) hr) (fun v530 L1 Ln K534 h531 f532 f533 => ?_)))))
       obtain ⟨q535, h536, rfl, rfl, z537, rfl, h538⟩ := h531
       refine kl_norm ?_
       refine kl_fdV rfl (kl_stB rfl rfl rfl rfl rfl ?_)
       refine kl_chg [sing br (.cells [vbr, .int .i64 (q535 : Int)].toArray 73 (0, 0)), sing b37 (.cells [.int .i64 ((1 : Int) + z21), v25, v524, .int .i64 z537, .slice none 0 0].toArray 53 (0, 0)), H34, sing b1 (.cells [.int .i64 (0 : Int), .slice none 0 0, .slice none 0 0, .int .i64 (0 : Int), .slice none 0 0].toArray 53 (0, 0))] rfl ?_
       refine kl_nil (kq_code (kc_seq (kc_region (kl_ldW rfl rfl (kl_stW (us := [.int .i64 ((1 : Int) + z21), v25, v524, .int .i64 z537, .slice none 0 0]) rfl rfl rfl rfl (oc rfl (oc (OwnL.oneCell (by assumption)) (oc (Sl.oneCell (by assumption)) (oc rfl (oc rfl oc_nil))))) rfl ?_)))))
       refine kl_chg [sing br (.cells [vbr, .int .i64 (q535 : Int)].toArray 73 (0, 0)), sing b37 (.cells [.int .i64 ((1 : Int) + z21), v25, v524, .int .i64 z537, .slice none 0 0].toArray 53 (0, 0)), H34, sing b1 (.cells [.int .i64 ((1 : Int) + z21), v25, v524, .int .i64 z537, .slice none 0 0].toArray 53 (0, 0))] rfl ?_
       refine kl_nil (kq_code (kc_ret (kq_frz H34 ?_)))
       refine kq_cmp H525 noHp (fun c541 => ?_)
       refine kq_cmp H34 (orHp H525 noHp) (fun c542 => ?_)
       exact kq_retTC rfl rfl rfl [sing br (.cells [vbr, .int .i64 (q535 : Int)].toArray 73 (0, 0))] [] (orHp H34 (orHp H525 noHp)) frn (fr_or f36 (fr_or f526 (fr_no _))) ⟨q535, by omega, rfl, ⟨((1 : Int) + z21), z32, ([z520]), z537, []⟩, rfl, ⟨_, rfl, _, _, _, rfl, (Sl.mono (OwnL.ints o35) (fun b o h => orL b o h) (fun _ _ h => h)), (Sl.mono (by assumption) (fun b o h => orC c542 b o (orL b o h)) (fun _ _ h => h)), (Sl.mono Sl.nil (fun b o h => orC c542 b o (orC c541 b o h)) (fun _ _ h => h))⟩, by (constructor <;> dsimp only <;> first | omega | exact all_nil | assumption | (simp; done) | (simp; omega) | (simp only [List.length_cons, List.length_nil]; omega))⟩
      ·skip
       refine kc_seq (kc_region (kl_eql rfl rfl ?_))
       refine kl_as rfl (kl_nil (kq_code (kc_if rfl (fun c543 => ?_) (fun c543 => ?_))))
       ·skip
        refine kc_seq (kc_seq (kc_region (kl_as rfl (kl_nil (kq_code (kc_block (kc_no ?_)))))))
        refine kc_loopL (A := Nat × List Int × Value × Hp × Nat) (fun zz => (zz.1 ≤ 8) ∧ (zz.2.1.length = zz.1) ∧ OwnL 3 1 zz.2.2.2.1 noHp IntV zz.2.2.1 zz.2.1 ∧ Fr B zz.2.2.2.1 ∧ zz.2.2.2.2 ≤ q30 + zz.1) (fun zz => 8 - zz.1) (fun zz => [zz.2.2.2.1, sing b37 (.cells [.int .i64 ((1 : Int) + z21), v25, zz.2.2.1, .int .i64 (0 : Int), .slice none 0 0].toArray 53 (0, 0)), sing br (.cells [vbr, .int .i64 (zz.2.2.2.2 : Int)].toArray 73 (0, 0)), H34, sing b1 (.cells [.int .i64 (0 : Int), .slice none 0 0, .slice none 0 0, .int .i64 (0 : Int), .slice none 0 0].toArray 53 (0, 0))]) (fun zz => [(9, .int .i64 (zz.1 : Int))]) (0, [], .slice none 0 0, noHp, q30) (pc 0 rfl (pc 4 rfl (pc 5 rfl (pc 6 rfl pn)))) (pc 9 rfl pn) rfl ⟨Nat.zero_le _, rfl, OwnL.nil, (fr_no _), (by first | omega | (dsimp only; omega))⟩ ?_
        rintro ⟨i, out, v549, H546, q551⟩ hJ553
        obtain ⟨hk544, hi545, o547, f548, hq552⟩ : (i ≤ 8) ∧ (out.length = i) ∧ OwnL 3 1 H546 noHp IntV v549 out ∧ Fr B H546 ∧ q551 ≤ q30 + i := hJ553
        change KC _ _ (_) [H546, sing b37 (.cells [.int .i64 ((1 : Int) + z21), v25, v549, .int .i64 (0 : Int), .slice none 0 0].toArray 53 (0, 0)), sing br (.cells [vbr, .int .i64 (q551 : Int)].toArray 73 (0, 0)), H34, sing b1 (.cells [.int .i64 (0 : Int), .slice none 0 0, .slice none 0 0, .int .i64 (0 : Int), .slice none 0 0].toArray 53 (0, 0))] _ ([(9, .int .i64 (i : Int))] ++ _)
        refine kc_seq (kc_seq (kc_region (kl_mv rfl (kl_mv rfl (kl_mul rfl rfl (by omega) ?_)))))
        refine kl_lss rfl rfl ?_
        refine kl_nil (kq_code (kc_if rfl (fun c554 => ?_) (fun c554 => ?_)))
        ·skip
         refine kc_skipQ (kq_code (kc_seq (kc_block (kc_tree (fun i => ([5, 7] : List Nat).contains i) [sing b37 (.cells [.int .i64 ((1 : Int) + z21), v25, v549, .int .i64 (0 : Int), .slice none 0 0].toArray 53 (0, 0))] (by kernel_rfl) ?_))))
         refine kt_q 0 (.cons _ (.cons_cons _ (List.nil_sublist _))) rfl (by kernel_rfl) (kl_fdV rfl (kl_nil (kq_q (kt_q 1 (.cons _ (.cons_cons _ (List.nil_sublist _))) rfl (by kernel_rfl) (kl_ld rfl (at_box (T := 53) (cs := [.int .i64 ((1 : Int) + z21), v25, v549, .int .i64 (0 : Int), .slice none 0 0]) (off := 2) (fz := (0, 0))) (kl_nil (kq_q (kt_q 2 (.cons _ (.cons_cons _ (List.nil_sublist _))) rfl (by kernel_rfl) ?_))))))))
         refine kl_mv rfl (kl_nil (kq_q (kt_a 3 rfl (by kernel_rfl) (kl_callT rfl rfl (pick_ok q551 (4 : Int) (by omega) hr) (fun v555 L1 Ln K559 h556 f557 f558 => ?_)))))
         obtain ⟨q560, h561, rfl, rfl, z562, rfl, h563⟩ := h556
         refine kl_norm ?_
         refine kl_nil (kq_a (.cons _ (.cons _ (.cons_cons _ (List.nil_sublist _)))) (kt_a 4 rfl (by kernel_rfl) (kl_bs rfl rfl rfl (by decide) (ca rfl ca_nil) (fun v566 H567 f568 r569 s570 => ?_))))
         have h571 : Ints H567 v566 [z562] := litInts (xs := [z562]) (by simpa using s570)
         refine kl_nil (kq_a (.cons _ (.cons _ (.cons_cons _ (List.nil_sublist _)))) (kt_a 5 rfl (by kernel_rfl) (kl_apL z562 rfl rfl o547 (by assumption) rfl (oc rfl oc_nil) (by omega) (by decide) (fun v572 H573 o574 f575 => ?_))))
         have f576 := f575 B f548 (Nat.le_refl _)
         refine kl_nil (kq_x rfl (kt_q 6 (.cons _ (.cons _ (.cons_cons _ (List.nil_sublist _)))) rfl (by kernel_rfl) (kl_fdV rfl (kl_nil (kq_q (kt_a 7 rfl (by kernel_rfl) (kl_stB rfl rfl rfl (OwnL.oneCell (by assumption)) (OwnL.cells (by assumption)) ?_)))))))
         refine kl_chg [sing br (.cells [vbr, .int .i64 (q560 : Int)].toArray 73 (0, 0)), H573, sing b37 (.cells [.int .i64 ((1 : Int) + z21), v25, v572, .int .i64 (0 : Int), .slice none 0 0].toArray 53 (0, 0)), H34, sing b1 (.cells [.int .i64 (0 : Int), .slice none 0 0, .slice none 0 0, .int .i64 (0 : Int), .slice none 0 0].toArray 53 (0, 0))] rfl ?_
         refine kl_nil (kq_x rfl (kt_end (by kernel_rfl) ?_))
         refine kq_code (kc_region (kl_mv rfl (kl_inc rfl rfl (by omega) ?_)))
         refine kl_as rfl (kl_nil (kq_take [H573, sing b37 (.cells [.int .i64 ((1 : Int) + z21), v25, v572, .int .i64 (0 : Int), .slice none 0 0].toArray 53 (0, 0)), sing br (.cells [vbr, .int .i64 (q560 : Int)].toArray 73 (0, 0)), H34, sing b1 (.cells [.int .i64 (0 : Int), .slice none 0 0, .slice none 0 0, .int .i64 (0 : Int), .slice none 0 0].toArray 53 (0, 0))] ?_))
         refine kq_roundL ((i + 1), (out ++ [z562]), v572, H573, q560) (by omega) (⟨by omega, (by simp; omega), o574, f576, (by first | omega | (dsimp only; omega))⟩) (pc 9 rfl pn) (pc 0 rfl (pc 4 rfl (pc 5 rfl (pc 6 rfl pn)))) rfl (List.Sublist.refl _)
        ·skip
         refine kc_exit (kq_code (kc_region (kl_mv rfl (kl_callT rfl rfl (pick_ok q551 (4 : Int) (by omega) hr) (fun v577 L1 Ln K581 h578 f579 f580 => ?_)))))
         obtain ⟨q582, h583, rfl, rfl, z584, rfl, h585⟩ := h578
         refine kl_norm ?_
         refine kl_add rfl rfl (by omega) ?_
         refine kl_fdV rfl (kl_stB rfl rfl rfl rfl rfl ?_)
         refine kl_chg [sing br (.cells [vbr, .int .i64 (q582 : Int)].toArray 73 (0, 0)), H546, sing b37 (.cells [.int .i64 ((1 : Int) + z21), v25, v549, .int .i64 ((1 : Int) + z584), .slice none 0 0].toArray 53 (0, 0)), H34, sing b1 (.cells [.int .i64 (0 : Int), .slice none 0 0, .slice none 0 0, .int .i64 (0 : Int), .slice none 0 0].toArray 53 (0, 0))] rfl ?_
         refine kl_nil (kq_code (kc_seq (kc_region (kl_ldW rfl rfl (kl_stW (us := [.int .i64 ((1 : Int) + z21), v25, v549, .int .i64 ((1 : Int) + z584), .slice none 0 0]) rfl rfl rfl rfl (oc rfl (oc (OwnL.oneCell (by assumption)) (oc (OwnL.oneCell (by assumption)) (oc rfl (oc rfl oc_nil))))) rfl ?_)))))
         refine kl_chg [sing br (.cells [vbr, .int .i64 (q582 : Int)].toArray 73 (0, 0)), H546, sing b37 (.cells [.int .i64 ((1 : Int) + z21), v25, v549, .int .i64 ((1 : Int) + z584), .slice none 0 0].toArray 53 (0, 0)), H34, sing b1 (.cells [.int .i64 ((1 : Int) + z21), v25, v549, .int .i64 ((1 : Int) + z584), .slice none 0 0].toArray 53 (0, 0))] rfl ?_
         refine kl_nil (kq_code (kc_ret (kq_frz H34 ?_)))
         refine kq_frz H546 ?_
         refine kq_cmp H546 noHp (fun c588 => ?_)
         refine kq_cmp H34 (orHp H546 noHp) (fun c589 => ?_)
         exact kq_retTC rfl rfl rfl [sing br (.cells [vbr, .int .i64 (q582 : Int)].toArray 73 (0, 0))] [] (orHp H34 (orHp H546 noHp)) frn (fr_or f36 (fr_or f548 (fr_no _))) ⟨q582, by omega, rfl, ⟨((1 : Int) + z21), z32, out, ((1 : Int) + z584), []⟩, rfl, ⟨_, rfl, _, _, _, rfl, (Sl.mono (OwnL.ints o35) (fun b o h => orL b o h) (fun _ _ h => h)), (Sl.mono (OwnL.ints o547) (fun b o h => orC c589 b o (orL b o h)) (fun _ _ h => h)), (Sl.mono Sl.nil (fun b o h => orC c589 b o (orC c588 b o h)) (fun _ _ h => h))⟩, by (constructor <;> dsimp only <;> first | omega | exact all_nil | assumption | (simp; done) | (simp; omega) | (simp only [List.length_cons, List.length_nil]; omega))⟩
       ·skip
        refine kc_seq (kc_region (kl_eql rfl rfl ?_))
        refine kl_as rfl (kl_nil (kq_code (kc_if rfl (fun c590 => ?_) (fun c590 => ?_))))
        ·skip
         refine kc_seq (kc_region (kl_mv rfl (kl_mv rfl (kl_callT rfl rfl (pick_ok q30 (3 : Int) (by omega) hr) (fun v591 L1 Ln K595 h592 f593 f594 => ?_)))))
         obtain ⟨q596, h597, rfl, rfl, z598, rfl, h599⟩ := h592
         refine kl_norm ?_
         refine kl_add rfl rfl (by omega) ?_
         refine kl_callT rfl rfl (randomAutomaton_ok q596 ((1 : Int) + z598) (by first | assumption | omega) (by omega) hr) (fun v602 L1 Ln K606 h603 f604 f605 => ?_)
         obtain ⟨q607, h608, rfl, H611, z609, rfl, o612, h610⟩ := h603
         have f613 := f604 _ (.head _)
         have h610a := h610.1
         have h610b := h610.2
         refine kl_norm ?_
         refine kl_fdV rfl (kl_stB rfl rfl rfl (OwnL.oneCell (by assumption)) (OwnL.cells (by assumption)) ?_)
         refine kl_chg [sing br (.cells [vbr, .int .i64 (q607 : Int)].toArray 73 (0, 0)), H611, sing b37 (.cells [.int .i64 ((1 : Int) + z21), v25, .slice none 0 0, .int .i64 (0 : Int), v602].toArray 53 (0, 0)), H34, sing b1 (.cells [.int .i64 (0 : Int), .slice none 0 0, .slice none 0 0, .int .i64 (0 : Int), .slice none 0 0].toArray 53 (0, 0))] rfl ?_
         refine kl_nil (kq_code (kc_region (kl_fdV rfl (kl_ldB rfl rfl (kl_lenL rfl o612 (fun l614 => ?_))))))
         refine kl_sub rfl rfl (by omega) ?_
         refine kl_bs rfl rfl rfl (by decide) (ca rfl ca_nil) (fun v615 H616 f617 r618 s619 => ?_)
         have h620 : Ints H616 v615 [((z609.length : Int) - (1 : Int))] := litInts (xs := [((z609.length : Int) - (1 : Int))]) (by simpa using s619)
         refine kl_fdV rfl (kl_stB rfl rfl rfl (Sl.oneCell (by assumption)) (Sl.cells (by assumption)) ?_)
         refine kl_chg [sing br (.cells [vbr, .int .i64 (q607 : Int)].toArray 73 (0, 0)), H611, sing b37 (.cells [.int .i64 ((1 : Int) + z21), v25, v615, .int .i64 (0 : Int), v602].toArray 53 (0, 0)), H34, sing b1 (.cells [.int .i64 (0 : Int), .slice none 0 0, .slice none 0 0, .int .i64 (0 : Int), .slice none 0 0].toArray 53 (0, 0))] rfl ?_
         refine kl_nil (kq_code (kc_seq (kc_region (kl_ldW rfl rfl (kl_stW (us := [.int .i64 ((1 : Int) + z21), v25, v615, .int .i64 (0 : Int), v602]) rfl rfl rfl rfl (oc rfl (oc (OwnL.oneCell (by assumption)) (oc (Sl.oneCell (by assumption)) (oc rfl (oc (OwnL.oneCell (by assumption)) oc_nil))))) rfl ?_)))))
         refine kl_chg [sing br (.cells [vbr, .int .i64 (q607 : Int)].toArray 73 (0, 0)), H611, sing b37 (.cells [.int .i64 ((1 : Int) + z21), v25, v615, .int .i64 (0 : Int), v602].toArray 53 (0, 0)), H34, sing b1 (.cells [.int .i64 ((1 : Int) + z21), v25, v615, .int .i64 (0 : Int), v602].toArray 53 (0, 0))] rfl ?_
         refine kl_nil (kq_code (kc_ret (kq_frz H34 ?_)))
         refine kq_frz H611 ?_
         refine kq_cmp H611 K606 (fun c621 => ?_)
         refine kq_cmp H616 (orHp H611 K606) (fun c622 => ?_)
         refine kq_cmp H34 (orHp H616 (orHp H611 K606)) (fun c623 => ?_)
         exact kq_retTC rfl rfl rfl [sing br (.cells [vbr, .int .i64 (q607 : Int)].toArray 73 (0, 0))] [] (orHp H34 (orHp H616 (orHp H611 K606))) frn (fr_or f36 (fr_or f617 (fr_or f613 f605))) ⟨q607, by omega, rfl, ⟨((1 : Int) + z21), z32, ([((z609.length : Int) - (1 : Int))]), (0 : Int), z609⟩, rfl, ⟨_, rfl, _, _, _, rfl, (Sl.mono (OwnL.ints o35) (fun b o h => orL b o h) (fun _ _ h => h)), (Sl.mono (by assumption) (fun b o h => orC c623 b o (orL b o h)) (fun _ _ h => h)), (Rows.mono' (OwnL.rowsK o612 c621) (fun b o h => orC c623 b o (orC c622 b o h)))⟩, by (constructor <;> dsimp only <;> first | omega | exact all_nil | assumption | (simp; done) | (simp; omega) | (simp only [List.length_cons, List.length_nil]; omega))⟩
        ·skip
         refine kc_skipQ (kq_code (kc_seq (kc_region (kl_ldW rfl rfl (kl_stW (us := [.int .i64 ((1 : Int) + z21), v25, .slice none 0 0, .int .i64 (0 : Int), .slice none 0 0]) rfl rfl rfl rfl (oc rfl (oc (OwnL.oneCell (by assumption)) (oc rfl (oc rfl (oc rfl oc_nil))))) rfl ?_)))))
         refine kl_chg [sing b37 (.cells [.int .i64 ((1 : Int) + z21), v25, .slice none 0 0, .int .i64 (0 : Int), .slice none 0 0].toArray 53 (0, 0)), sing br (.cells [vbr, .int .i64 (q30 : Int)].toArray 73 (0, 0)), H34, sing b1 (.cells [.int .i64 ((1 : Int) + z21), v25, .slice none 0 0, .int .i64 (0 : Int), .slice none 0 0].toArray 53 (0, 0))] rfl ?_
         refine kl_nil (kq_code (kc_ret (kq_frz H34 ?_)))
         refine kq_cmp noHp noHp (fun c624 => ?_)
         refine kq_cmp H34 (orHp noHp noHp) (fun c625 => ?_)
         exact kq_retTC rfl rfl rfl [sing br (.cells [vbr, .int .i64 (q30 : Int)].toArray 73 (0, 0))] [] (orHp H34 (orHp noHp noHp)) frn (fr_or f36 (fr_or (fr_no _) (fr_no _))) ⟨q30, by omega, rfl, ⟨((1 : Int) + z21), z32, [], (0 : Int), []⟩, rfl, ⟨_, rfl, _, _, _, rfl, (Sl.mono (OwnL.ints o35) (fun b o h => orL b o h) (fun _ _ h => h)), (Sl.mono Sl.nil (fun b o h => orC c625 b o (orL b o h)) (fun _ _ h => h)), (Sl.mono Sl.nil (fun b o h => orC c625 b o (orC c624 b o h)) (fun _ _ h => h))⟩, by (constructor <;> dsimp only <;> first | omega | exact all_nil | assumption | (simp; done) | (simp; omega) | (simp only [List.length_cons, List.length_nil]; omega))⟩
end Go.Proofs.Ytiilanckbocifaa
