/- Walks of functions of the program: each returns what the plain function gives. Conditions: those that each statement names. -/
import Derived.Test.YtiilanckbocifaaGreatWslit
import Derived.Test.YtiilanckbocifaaGreatSub
namespace Go.Proofs.YtiilanckbocifaaGreat
open Go
set_option linter.unusedSimpArgs false
set_option linter.unusedVariables false
theorem mergeCl_ok {Ha : Hp} {va : Value} {Hb : Hp} {vb : Value} (a : List Lit) (b : List Lit) (hb : a.length + b.length ≤ 1000) (ha : Lits Ha va a) (hb : Lits Hb vb b) : Spec Tryz.prog 165 [va, vb] [Ha, Hb] (fun Hq vq => ∃ xq : List Lit, OwnL 74 3 Hq noHp LitV vq xq ∧ xq.length ≤ a.length + b.length) := by
 refine spec_of Tryz.func165 rfl rfl rfl (fun B => ?_)
 refine kc_seq (kc_region (kl_as rfl (kl_nil (kq_code (kc_seq (kc_region (kl_bs0k (K := noHp) LitV rfl (fun v1 H2 f3 o4 => ?_))))))))
 refine kl_mv rfl (kl_apS rfl rfl o4 (by assumption) (fun _ _ h => h) (by (simp; omega)) (by decide) (fun v5 H6 o7 f8 => ?_))
 have f9 := f8 B f3 (Nat.le_refl _)
 refine kl_as rfl (kl_nil (kq_code (kc_seq (kc_seq (kc_region (kl_as rfl (kl_nil (kq_code (kc_block (kc_loopL (A := Nat × List Lit × Value × Hp) (fun zz => (zz.1 ≤ b.length) ∧ (zz.2.1.length ≤ a.length + zz.1) ∧ OwnL 74 3 zz.2.2.2 noHp LitV zz.2.2.1 zz.2.1 ∧ Fr B zz.2.2.2) (fun zz => b.length - zz.1) (fun zz => [zz.2.2.2]) (fun zz => [(6, .int .i64 (zz.1 : Int)), (5, zz.2.2.1)]) (0, ([] ++ a), v5, H6) (pc 1 rfl (pc 4 rfl pn)) (pc 6 rfl (pc 5 rfl pn)) rfl ⟨Nat.zero_le _, (by simp), o7, f9⟩ ?_))))))))))
 rintro ⟨k, out, v15, H12⟩ hJ16
 obtain ⟨hk10, hi11, o13, f14⟩ : (k ≤ b.length) ∧ (out.length ≤ a.length + k) ∧ OwnL 74 3 H12 noHp LitV v15 out ∧ Fr B H12 := hJ16
 change KC _ _ (_) [H12] _ ([(6, .int .i64 (k : Int)), (5, v15)] ++ _)
 have hol := hi11
 refine kc_seq (kc_seq (kc_region (kl_mv rfl (kl_mv rfl (kl_len rfl (by assumption) (fun l17 => ?_))))))
 refine kl_lss rfl rfl ?_
 refine kl_nil (kq_code (kc_if rfl (fun c18 => ?_) (fun c18 => ?_)))
 ·skip
  refine kc_skipQ (kq_code (kc_seq (kc_block (kc_seq (kc_region (kl_as rfl (kl_nil (kq_code (kc_seq (kc_block ?_))))))))))
  refine kc_loop0 (A := Nat) (fun zz => (zz ≤ out.length)) (fun zz => out.length - zz) (fun zz => [(7, .int .i64 (zz : Int))]) (0) (pc 1 rfl (pc 4 rfl (pc 5 rfl (pc 6 rfl (pc 12 rfl (pc 13 rfl (pc 14 rfl (pc 15 rfl pn)))))))) (pc 7 rfl pn) (Nat.zero_le _) ?_
  rintro j hJ21
  have hk19 : (j ≤ out.length) := hJ21
  change KC _ _ (_) _ _ ([(7, .int .i64 (j : Int))] ++ _)
  refine kc_seq (kc_seq (kc_draw 15 [true, true, true, true, true, true, true, true, true, true, true, true, true, false, true] (by kernel_rfl) (by kernel_rfl) ?_))
  refine kl_mv rfl (kl_mv rfl (kl_lenL rfl o13 (fun l22 => ?_)))
  refine kl_lss rfl rfl ?_
  refine kl_mv rfl (kl_join 10 32 (.bool (decide ((j : Int) < (out.length : Int)) && (litLt (out.getD j nilLit) (b.getD k nilLit)))) (pc 1 rfl (pc 4 rfl (pc 5 rfl (pc 6 rfl (pc 7 rfl (pc 12 rfl (pc 13 rfl (pc 14 rfl (pc 15 rfl (pc 18 rfl (pc 19 rfl (pc 20 rfl (pc 21 rfl (pc 22 rfl pn)))))))))))))) (fun J28 => ?_) ?_)
  ·rcases Bool.eq_false_or_eq_true (decide ((j : Int) < (out.length : Int))) with g23 | g23
   ·skip
    have g23p := of_decide_eq_true g23
    refine kl_gT rfl rfl g23 (kl_mv rfl (kl_gT rfl rfl g23 (kl_mv rfl (kl_gT rfl rfl g23 (kl_ixLn rfl rfl (by assumption) (by omega) (fun p24 q25 => ?_))))))
    refine kl_gT rfl rfl g23 (kl_ldSL rfl (OwnL.atQ o13 (by assumption) (by omega : j < out.length)) rfl ?_)
    refine kl_gT rfl rfl g23 (kl_mv rfl (kl_gT rfl rfl g23 (kl_mv rfl (kl_gT rfl rfl g23 (kl_inQ rfl rfl (by assumption) (by omega) (fun p26 a27 => ?_))))))
    refine kl_gT rfl rfl g23 (kl_ldS rfl (by assumption) rfl ?_)
    refine kl_gT rfl rfl g23 (kl_callP rfl rfl (litLess_ok (out.getD j nilLit) (b.getD k nilLit)) ?_)
    refine kl_andT rfl rfl g23 ?_
    exact J28 _ (pc 32 rfl (pc 1 rfl (pc 4 rfl (pc 5 rfl (pc 6 rfl (pc 7 rfl (pc 12 rfl (pc 13 rfl (pc 14 rfl (pc 15 rfl (pc 18 rfl (pc 19 rfl (pc 20 rfl (pc 21 rfl (pc 22 rfl pn)))))))))))))))
   ·skip
    refine kl_gF rfl rfl g23 (kl_gF rfl rfl g23 (kl_gF rfl rfl g23 (kl_gF rfl rfl g23 (kl_gF rfl rfl g23 (kl_gF rfl rfl g23 (kl_gF rfl rfl g23 (kl_gF rfl rfl g23 (kl_gF rfl rfl g23 ?_))))))))
    refine kl_andF (litLt (out.getD j nilLit) (b.getD k nilLit)) rfl rfl g23 ?_
    exact J28 _ (pc 32 rfl (pc 1 rfl (pc 4 rfl (pc 5 rfl (pc 6 rfl (pc 7 rfl (pc 12 rfl (pc 13 rfl (pc 14 rfl (pc 15 rfl (pc 18 rfl (pc 19 rfl (pc 20 rfl (pc 21 rfl (pc 22 rfl pn)))))))))))))))
  refine kl_nil (kq_code (kc_cond rfl (fun c29 => ?_) (fun c29 => ?_)))
  ·skip
   have c29r := c29
   try simp only [smpC, decide_eq_true_eq, decide_eq_false_iff_not] at c29
   refine kc_skipQ (kq_code (kc_block (kc_region (kl_mv rfl (kl_inc rfl rfl (by omega) ?_)))))
   refine kl_as rfl (kl_nil (kq_round0 ((j + 1)) (by omega) (by omega) (pc 7 rfl pn) (pc 1 rfl (pc 4 rfl (pc 5 rfl (pc 6 rfl (pc 12 rfl (pc 13 rfl (pc 14 rfl (pc 15 rfl pn)))))))) (List.Sublist.refl _)))
  ·skip
   have c29r := c29
   try simp only [smpC, decide_eq_true_eq, decide_eq_false_iff_not] at c29
   refine kc_exit (kq_code (kc_seq (kc_seq (kc_draw 15 [true, true, true, true, true, true, true, true, true, true, true, true, true, true, true] (by kernel_rfl) (by kernel_rfl) ?_))))
   refine kl_mv rfl (kl_mv rfl (kl_lenL rfl o13 (fun l30 => ?_)))
   refine kl_lss rfl rfl ?_
   refine kl_mv rfl (kl_join 10 49 (.bool (decide ((j : Int) < (out.length : Int)) && decide ((out.getD j nilLit) = (b.getD k nilLit)))) (pc 1 rfl (pc 4 rfl (pc 5 rfl (pc 6 rfl (pc 7 rfl (pc 12 rfl (pc 13 rfl (pc 14 rfl (pc 15 rfl (pc 18 rfl (pc 19 rfl (pc 20 rfl (pc 21 rfl (pc 22 rfl (pc 32 rfl (pc 35 rfl (pc 36 rfl (pc 37 rfl (pc 38 rfl (pc 39 rfl pn)))))))))))))))))))) (fun J36 => ?_) ?_)
   ·rcases Bool.eq_false_or_eq_true (decide ((j : Int) < (out.length : Int))) with g31 | g31
    ·skip
     have g31p := of_decide_eq_true g31
     refine kl_gT rfl rfl g31 (kl_mv rfl (kl_gT rfl rfl g31 (kl_mv rfl (kl_gT rfl rfl g31 (kl_ixLn rfl rfl (by assumption) (by omega) (fun p32 q33 => ?_))))))
     refine kl_gT rfl rfl g31 (kl_ldSL rfl (OwnL.atQ o13 (by assumption) (by omega : j < out.length)) rfl ?_)
     refine kl_gT rfl rfl g31 (kl_mv rfl (kl_gT rfl rfl g31 (kl_mv rfl (kl_gT rfl rfl g31 (kl_inQ rfl rfl (by assumption) (by omega) (fun p34 a35 => ?_))))))
     refine kl_gT rfl rfl g31 (kl_ldS rfl (by assumption) rfl ?_)
     refine kl_gT rfl rfl g31 (kl_eqlQ rfl rfl ?_)
     refine kl_andT rfl rfl g31 ?_
     exact J36 _ (pc 49 rfl (pc 1 rfl (pc 4 rfl (pc 5 rfl (pc 6 rfl (pc 7 rfl (pc 12 rfl (pc 13 rfl (pc 14 rfl (pc 15 rfl (pc 18 rfl (pc 19 rfl (pc 20 rfl (pc 21 rfl (pc 22 rfl (pc 32 rfl (pc 35 rfl (pc 36 rfl (pc 37 rfl (pc 38 rfl (pc 39 rfl pn)))))))))))))))))))))
    ·skip
     refine kl_gF rfl rfl g31 (kl_gF rfl rfl g31 (kl_gF rfl rfl g31 (kl_gF rfl rfl g31 (kl_gF rfl rfl g31 (kl_gF rfl rfl g31 (kl_gF rfl rfl g31 (kl_gF rfl rfl g31 (kl_gF rfl rfl g31 ?_))))))))
     refine kl_andF (decide ((out.getD j nilLit) = (b.getD k nilLit))) rfl rfl g31 ?_
     exact J36 _ (pc 49 rfl (pc 1 rfl (pc 4 rfl (pc 5 rfl (pc 6 rfl (pc 7 rfl (pc 12 rfl (pc 13 rfl (pc 14 rfl (pc 15 rfl (pc 18 rfl (pc 19 rfl (pc 20 rfl (pc 21 rfl (pc 22 rfl (pc 32 rfl (pc 35 rfl (pc 36 rfl (pc 37 rfl (pc 38 rfl (pc 39 rfl pn)))))))))))))))))))))
   refine kl_nil (kq_code (kc_cond rfl (fun c37 => ?_) (fun c37 => ?_)))
   ·skip
    have c37r := c37
    try simp only [smpC, decide_eq_true_eq, decide_eq_false_iff_not] at c37
    refine kc_exit (kq_code (kc_region (kl_mv rfl (kl_inc rfl rfl (by omega) ?_))))
    refine kl_as rfl (kl_nil (kq_take [H12] ?_))
    refine kq_roundL ((k + 1), out, v15, H12) (by omega) (⟨by omega, (by first | (simp; omega) | omega), o13, f14⟩) (pc 6 rfl (pc 5 rfl pn)) (pc 1 rfl (pc 4 rfl pn)) rfl (List.Sublist.refl _)
   ·skip
    have c37r := c37
    try simp only [smpC, decide_eq_true_eq, decide_eq_false_iff_not] at c37
    refine kc_skipQ (kq_code (kc_seq (kc_frz H12 ?_)))
    have h38 := OwnL.lits o13
    refine kc_tree (fun i => ([8] : List Nat).contains i) [] (by kernel_rfl) ?_
    refine kt_q 0 (List.nil_sublist _) rfl (by kernel_rfl) (kl_mv rfl (kl_nil (kq_q (kt_q 1 (List.nil_sublist _) rfl (by kernel_rfl) (kl_mv rfl (kl_nil (kq_q (kt_q 2 (List.nil_sublist _) rfl (by kernel_rfl) (kl_inQ rfl rfl (by assumption) (by omega) (fun p39 a40 => ?_))))))))))
    refine kl_nil (kq_q (kt_q 3 (List.nil_sublist _) rfl (by kernel_rfl) (kl_ldS rfl (by assumption) rfl ?_)))
    refine kl_nil (kq_q (kt_q 5 (List.nil_sublist _) rfl (by kernel_rfl) (kl_mv rfl (kl_nil (kq_q (kt_q 6 (List.nil_sublist _) rfl (by kernel_rfl) (kl_mv rfl (kl_nil (kq_q (kt_q 7 (List.nil_sublist _) rfl (by kernel_rfl) (kl_slDrop rfl rfl (by assumption) (by omega) (fun u41 h42 => ?_))))))))))))
    refine kl_nil (kq_q (kt_a 4 rfl (by kernel_rfl) (kl_bsQo rfl (fun v43 H44 f45 o46 => ?_))))
    refine kl_nil (kq_a (List.nil_sublist _) (kt_a 8 rfl (by kernel_rfl) (kl_apS rfl rfl o46 (by assumption) (fun _ _ h => h) (by (simp; omega)) (by decide) (fun v47 H48 o49 f50 => ?_))))
    have f51 := f50 B f45 (Nat.le_refl _)
    refine kl_nil (kq_x rfl (kt_q 9 (List.nil_sublist _) rfl (by kernel_rfl) (kl_as rfl (kl_nil (kq_q (kt_end (by kernel_rfl) ?_))))))
    refine kq_code (kc_region (kl_bs0k (K := noHp) LitV rfl (fun v52 H53 f54 o55 => ?_)))
    refine kl_mv rfl (kl_mv rfl (kl_slTake rfl rfl (by assumption) (by omega) (fun u56 h57 => ?_)))
    refine kl_apS rfl rfl o55 (by assumption) (fun _ _ h => h) (by (simp; omega)) (by decide) (fun v58 H59 o60 f61 => ?_)
    have f62 := f61 B f54 (Nat.le_refl _)
    refine kl_mv rfl (kl_frz H48 ?_)
    have h63 := OwnL.lits o49
    refine kl_apS rfl rfl o60 (by assumption) (fun _ _ h => h) (by (simp; omega)) (by decide) (fun v64 H65 o66 f67 => ?_)
    have f68 := f67 B f62 (Nat.le_refl _)
    refine kl_as rfl (kl_nil (kq_code (kc_region (kl_mv rfl (kl_inc rfl rfl (by omega) ?_)))))
    refine kl_as rfl (kl_nil (kq_take [H65] ?_))
    refine kq_roundL ((k + 1), (([] ++ (out.take j)) ++ ([(b.getD k nilLit)] ++ (out.drop j))), v64, H65) (by omega) (⟨by omega, (by first | (simp; omega) | omega), o66, f68⟩) (pc 6 rfl (pc 5 rfl pn)) (pc 1 rfl (pc 4 rfl pn)) rfl (List.Sublist.refl _)
 ·skip
  refine kc_exit (kq_code (kc_seq (kc_region (kl_mv rfl (kl_as rfl (kl_nil (kq_code (kc_ret ?_))))))))
  exact kq_ret rfl rfl H12 f14 ⟨out, o13, by omega⟩
end Go.Proofs.YtiilanckbocifaaGreat
