/- Walks of functions of the program: each returns what the plain function gives. Conditions: those that each statement names. -/
import Derived.Test.YtkfioalfofoikaaGreatWssat
import Derived.Test.YtkfioalfofoikaaGreatSol
import Derived.Test.YtkfioalfofoikaaGreatPureS
import Derived.Test.YtkfioalfofoikaaGreatWfilt
import Derived.Test.YtkfioalfofoikaaGreatPureR
import Derived.Test.YtkfioalfofoikaaGreatWsat
import Derived.Test.YtkfioalfofoikaaGreatPureY
namespace Go.Proofs.YtkfioalfofoikaaGreat
open Go
set_option linter.unusedSimpArgs false
set_option linter.unusedVariables false
theorem sequal_ok {Ha : Hp} {va : Value} {Hb : Hp} {vb : Value} (a : List Int) (b : List Int) (ha : Ints Ha va a) (hb : Ints Hb vb b) : SpecP Tryz.prog 165 [va, vb] [Ha, Hb] (.bool (decide (a = b))) := by
 refine spec_of Tryz.func165 rfl rfl rfl (fun B => ?_)
 refine kc_seq (kc_region (kl_as rfl (kl_nil (kq_code (kc_seq (kc_seq (kc_region (kl_mv rfl (kl_len rfl (by assumption) (fun l1 => ?_))))))))))
 refine kl_mv rfl (kl_len rfl (by assumption) (fun l2 => ?_))
 refine kl_neq rfl rfl ?_
 refine kl_nil (kq_code (kc_if rfl (fun c3 => ?_) (fun c3 => ?_)))
 ·skip
  refine kc_seq (kc_region (kl_as rfl (kl_nil (kq_code (kc_ret (kq_retP rfl rfl (congrArg Value.bool ?_)))))))
  exact eq_len (by assumption)
 ·skip
  refine kc_skipQ (kq_code (kc_seq (kc_seq (kc_region (kl_as rfl (kl_nil (kq_code (kc_block (kc_loop0 (A := Nat) (fun zz => (zz ≤ a.length) ∧ (a.take zz = b.take zz)) (fun zz => a.length - zz) (fun zz => [(5, .int .i64 (zz : Int))]) (0) (pc 0 rfl (pc 1 rfl pn)) (pc 5 rfl pn) ⟨Nat.zero_le _, by simp⟩ ?_)))))))))
  rintro k hJ6
  obtain ⟨hk4, hi5⟩ : (k ≤ a.length) ∧ (a.take k = b.take k) := hJ6
  change KC _ _ (_) _ _ ([(5, .int .i64 (k : Int))] ++ _)
  refine kc_seq (kc_seq (kc_region (kl_mv rfl (kl_mv rfl (kl_len rfl (by assumption) (fun l7 => ?_))))))
  refine kl_lss rfl rfl ?_
  refine kl_nil (kq_code (kc_if rfl (fun c8 => ?_) (fun c8 => ?_)))
  ·skip
   refine kc_skipQ (kq_code (kc_seq (kc_block (kc_seq (kc_draw 9 [true, true, true, true, true, true, true, true, true] (by kernel_rfl) (by kernel_rfl) ?_)))))
   refine kl_mv rfl (kl_mv rfl (kl_inI rfl rfl (by assumption) (by omega) (fun p9 a10 => ?_)))
   refine kl_ld rfl (by assumption) (kl_mv rfl (kl_mv rfl (kl_inI rfl rfl (by assumption) (by omega) (fun p11 a12 => ?_))))
   refine kl_ld rfl (by assumption) (kl_neq rfl rfl ?_)
   refine kl_nil (kq_code (kc_if rfl (fun c13 => ?_) (fun c13 => ?_)))
   ·skip
    refine kc_seq (kc_region (kl_as rfl (kl_nil (kq_code (kc_ret (kq_retP rfl rfl (congrArg Value.bool ?_)))))))
    exact eq_at (k := k) 0 (by simpa using by assumption)
   ·skip
    refine kc_skipQ (kq_code (kc_region (kl_mv rfl (kl_inc rfl rfl (by omega) ?_))))
    refine kl_as rfl (kl_nil (kq_round0 ((k + 1)) (by omega) (⟨by omega, eq_step 0 (by omega) (by omega) hi5 (by first | exact Decidable.not_not.1 (by assumption) | (simpa using by assumption))⟩) (pc 5 rfl pn) (pc 0 rfl (pc 1 rfl pn)) (List.Sublist.refl _)))
  ·skip
   refine kc_exit (kq_code (kc_seq (kc_region (kl_as rfl (kl_nil (kq_code (kc_ret (kq_retP rfl rfl (congrArg Value.bool ?_)))))))))
   exact eq_end (k := k) (by omega) (by omega) (by assumption)
abbrev walkSt (k : Nat) : Prop := ∀ {He Hcv Hca Hcr Hd Hx Hs : Hp} {pe vcv vca vcr vd vx vs : Value} (c : Con) (ds x p s : List Int) (T : List (List Int)) (i : Nat) (hC : ConOk c ds.length) (hd : DomV ds) (hk : i + k = c.vars.length) (hx : x.length = c.vars.length) (hp : x.take i = p) (hv : Vals p) (hs : s = suppV c T)
  (hcv : Ints Hcv vcv c.vars) (hca : Ints Hca vca c.args) (hcr : Rows Hcr vcr c.rows) (hds : Ints Hd vd ds) (ae : At He pe [.int .i64 c.kind, vcv, vca, .int .i64 c.bound, vcr, vd, vx, vs]) (ox : OwnL 3 1 Hx noHp IntV vx x) (os : OwnL 3 1 Hs noHp IntV vs s),
  SpecT Tryz.prog 166 [pe, .int .i64 (i : Int)] [Hx, Hs] [He, Hcv, Hca, Hcr, Hd] (fun vq L1 Ln _ => vq = .tuple #[] ∧ Ln = [] ∧ ∃ (Hx2 Hs2 : Hp) (x2 : List Int), L1 = [Hx2, Hs2] ∧ OwnL 3 1 Hx2 noHp IntV vx x2 ∧ x2.length = c.vars.length ∧ x2.take i = p ∧ OwnL 3 1 Hs2 noHp IntV vs (suppV c (T ++ extP (wordL c.vars ds) i p)))
theorem walk_step (k : Nat) (ih : ∀ j, j < k → walkSt j) : walkSt k := by
 intro He Hcv Hca Hcr Hd Hx Hs pe vcv vca vcr vd vx vs c ds x p s T i hC hd hk hx hp hv hs hcv hca hcr hds ae ox os
 have ho := hC.one
 have hpl : p.length = i := (by rw [← hp, List.length_take]; omega)
 refine specT_of Tryz.func166 rfl rfl rfl (fun B => ?_)
 refine kc_seq (kc_seq (kc_region (kl_mv rfl (kl_mv rfl (kl_nilchkA rfl (by assumption) ?_)))))
 refine kl_fd rfl (by assumption) (fun p1 a2 => ?_)
 refine kl_ld rfl (by assumption) (kl_lenL rfl ox (fun l3 => ?_))
 refine kl_eql rfl rfl ?_
 refine kl_nil (kq_code (kc_if rfl (fun c4 => ?_) (fun c4 => ?_)))
 ·skip
  have hxp : x = p := (by rw [← hp, List.take_of_length_le (by omega)])
  have hS : SatOk c x := sat_of hC hx (hxp ▸ hv)
  refine kc_seq (kc_seq (kc_tree (fun i => ([8] : List Nat).contains i) [] (by kernel_rfl) ?_))
  refine kt_q 0 (List.nil_sublist _) rfl (by kernel_rfl) (kl_mv rfl (kl_nil (kq_q (kt_q 1 (List.nil_sublist _) rfl (by kernel_rfl) (kl_nilchkA rfl (by assumption) ?_)))))
  refine kl_nil (kq_q (kt_q 2 (List.nil_sublist _) rfl (by kernel_rfl) (kl_fd rfl (by assumption) (fun p5 a6 => ?_))))
  refine kl_nil (kq_q (kt_q 3 (List.nil_sublist _) rfl (by kernel_rfl) (kl_ldS rfl (At.take 5 (by assumption)) rfl ?_)))
  refine kl_nil (kq_q (kt_q 4 (List.nil_sublist _) rfl (by kernel_rfl) (kl_mv rfl (kl_nil (kq_q (kt_q 5 (List.nil_sublist _) rfl (by kernel_rfl) (kl_nilchkA rfl (by assumption) ?_)))))))
  refine kl_nil (kq_q (kt_q 6 (List.nil_sublist _) rfl (by kernel_rfl) (kl_fd rfl (by assumption) (fun p7 a8 => ?_))))
  refine kl_nil (kq_q (kt_q 7 (List.nil_sublist _) rfl (by kernel_rfl) (kl_ld rfl (by assumption) (kl_nil (kq_q (kt_a 8 rfl (by kernel_rfl) (kl_callP rfl rfl (satisfies_ok c x hS (by assumption) (by assumption) (by assumption) (OwnL.ints ox)) ?_)))))))
  refine kl_nil (kq_x rfl (kt_end (by kernel_rfl) ?_))
  refine kq_code (kc_cond rfl (fun c9 => ?_) (fun c9 => ?_))
  ·skip
   have c9r := c9
   try simp only [smpC, decide_eq_true_eq, decide_eq_false_iff_not] at c9
   refine kc_seq (kc_region (kl_as rfl (kl_nil (kq_code (kc_block (kc_loopL (A := Nat × List Int × Hp) (fun zz => (zz.1 ≤ x.length) ∧ (zz.2.1 = suppM c T x zz.1) ∧ OwnL 3 1 zz.2.2 noHp IntV vs zz.2.1) (fun zz => x.length - zz.1) (fun zz => [Hx, zz.2.2]) (fun zz => [(4, .int .i64 (zz.1 : Int))]) (0, s, Hs) (pc 0 rfl (pc 1 rfl pn)) (pc 4 rfl pn) rfl ⟨Nat.zero_le _, (by rw [hs, suppM_0]), os⟩ ?_))))))
   rintro ⟨k1, s1, H12⟩ hJ15
   obtain ⟨hk10, hi11, o13⟩ : (k1 ≤ x.length) ∧ (s1 = suppM c T x k1) ∧ OwnL 3 1 H12 noHp IntV vs s1 := hJ15
   change KC _ _ (_) [Hx, H12] _ ([(4, .int .i64 (k1 : Int))] ++ _)
   have hln : s1.length = c.vars.length := (by rw [hi11]; exact suppM_len c T x k1)
   refine kc_seq (kc_seq (kc_region (kl_mv rfl (kl_mv rfl (kl_nilchkA rfl (by assumption) ?_)))))
   refine kl_fd rfl (by assumption) (fun p16 a17 => ?_)
   refine kl_ld rfl (by assumption) (kl_lenL rfl ox (fun l18 => ?_))
   refine kl_lss rfl rfl ?_
   refine kl_nil (kq_code (kc_if rfl (fun c19 => ?_) (fun c19 => ?_)))
   ·skip
    have hv1 := hS.val.at (k := k1) (by omega)
    have hsl := shl_le hv1
    have hsb := supp_addle (c := c) (T := T) hS (by omega : k1 < x.length)
    rw [← hi11] at hsb
    refine kc_skipQ (kq_code (kc_seq (kc_block (kc_seq (kc_draw 16 [true, true, true, true, true, true, true, true, true, true, true, true, true, true, false, true] (by kernel_rfl) (by kernel_rfl) ?_)))))
    refine kl_mv rfl (kl_nilchkA rfl (by assumption) ?_)
    refine kl_fd rfl (by assumption) (fun p20 a21 => ?_)
    refine kl_ld rfl (by assumption) (kl_mv rfl (kl_ixLn rfl rfl (by assumption) (by omega) (fun p22 q23 => ?_)))
    refine kl_ldLI rfl (by assumption) (by assumption) (by omega) ?_
    refine kl_mv rfl (kl_nilchkA rfl (by assumption) ?_)
    refine kl_fd rfl (by assumption) (fun p24 a25 => ?_)
    refine kl_ld rfl (by assumption) (kl_mv rfl (kl_ixLn rfl rfl (by assumption) (by omega) (fun p26 q27 => ?_)))
    refine kl_ldLI rfl (by assumption) (by assumption) (by omega) ?_
    refine kl_callP rfl rfl (domainHas_ok (s1.getD k1 0) (x.getD k1 0)) ?_
    refine kl_not rfl (kl_nil (kq_code (kc_cond rfl (fun c28 => ?_) (fun c28 => ?_))))
    ·skip
     have c28r := c28
     try simp only [smpC, decide_eq_true_eq, decide_eq_false_iff_not] at c28
     refine kc_draw 22 [true, true, true, true, true, true, true, true, true, true, true, true, true, true, true, true, true, true, true, true, true, true, false] (by kernel_rfl) (by kernel_rfl) ?_
     refine kl_mv rfl (kl_nilchkA rfl (by assumption) ?_)
     refine kl_fd rfl (by assumption) (fun p29 a30 => ?_)
     refine kl_ld rfl (by assumption) (kl_mv rfl (kl_mv rfl (kl_nilchkA rfl (by assumption) ?_)))
     refine kl_fd rfl (by assumption) (fun p31 a32 => ?_)
     refine kl_ld rfl (by assumption) (kl_mv rfl (kl_ixLn rfl rfl (by assumption) (by omega) (fun p33 q34 => ?_)))
     refine kl_ldLI rfl (by assumption) (by assumption) (by omega) ?_
     refine kl_mv rfl (kl_nilchkA rfl (by assumption) ?_)
     refine kl_fd rfl (by assumption) (fun p35 a36 => ?_)
     refine kl_ld rfl (by assumption) (kl_mv rfl (kl_ixLn rfl rfl (by assumption) (by omega) (fun p37 q38 => ?_)))
     refine kl_ldLI rfl (by assumption) (by assumption) (by omega) ?_
     refine kl_shl rfl rfl (by omega) ?_
     refine kl_add rfl rfl (by omega) ?_
     refine kl_ixLn rfl rfl (by assumption) (by omega) (fun p39 q40 => ?_)
     refine kl_stL ((s1.getD k1 0) + (ishl (1 : Int) (x.getD k1 0))) rfl rfl (by assumption) o13 (by omega) rfl rfl rfl (fun H41 o42 f43 => ?_)
     refine kl_nil (kq_code (kc_region (kl_mv rfl (kl_inc rfl rfl (by omega) ?_))))
     refine kl_as rfl (kl_nil (kq_roundL ((k1 + 1), (s1.set k1 ((s1.getD k1 0) + (ishl (1 : Int) (x.getD k1 0)))), H41) (by omega) (⟨by omega, (by rw [hi11] at *; first | exact supp_stepS (by assumption) hS (by omega) (by assumption) | exact supp_stepN (by assumption) hS (by omega) (by assumption)), o42⟩) (pc 4 rfl pn) (pc 0 rfl (pc 1 rfl pn)) rfl (List.Sublist.refl _)))
    ·skip
     have c28r := c28
     try simp only [smpC, decide_eq_true_eq, decide_eq_false_iff_not] at c28
     refine kc_skipQ (kq_code (kc_region (kl_mv rfl (kl_inc rfl rfl (by omega) ?_))))
     refine kl_as rfl (kl_nil (kq_roundL ((k1 + 1), s1, H12) (by omega) (⟨by omega, (by rw [hi11] at *; first | exact supp_stepS (by assumption) hS (by omega) (by assumption) | exact supp_stepN (by assumption) hS (by omega) (by assumption)), o13⟩) (pc 4 rfl pn) (pc 0 rfl (pc 1 rfl pn)) rfl (List.Sublist.refl _)))
   ·skip
    refine kc_exit (kq_code (kc_ret ?_))
    exact kq_retT0 rfl [Hx, H12] [] noHp frn (fr_no _) ⟨rfl, rfl, Hx, H12, x, rfl, ox, hx, hp, OwnL.cast (by rw [extP_base (by simp [wordL]; omega), ← hxp]; exact supp_stepT hi11 hS (by omega)) o13⟩
  ·skip
   have c9r := c9
   try simp only [smpC, decide_eq_true_eq, decide_eq_false_iff_not] at c9
   refine kc_skipQ (kq_code (kc_ret ?_))
   exact kq_retT0 rfl [Hx, Hs] [] noHp frn (fr_no _) ⟨rfl, rfl, Hx, Hs, x, rfl, ox, hx, hp, OwnL.cast (by rw [extP_base (by simp [wordL]; omega), ← hxp, suppV_no (by assumption)]; exact hs) os⟩
 ·skip
  refine kc_skipQ (kq_code (kc_seq (kc_region (kl_as rfl (kl_nil (kq_code (kc_block (kc_loopL (A := Nat × List Int × Hp × List Int × Hp) (fun zz => (zz.1 ≤ 6) ∧ (zz.2.1.length = c.vars.length ∧ zz.2.1.take i = p ∧ zz.2.2.2.1 = suppV c (T ++ extTo (wordL c.vars ds) i p zz.1)) ∧ OwnL 3 1 zz.2.2.1 noHp IntV vx zz.2.1 ∧ OwnL 3 1 zz.2.2.2.2 noHp IntV vs zz.2.2.2.1) (fun zz => 6 - zz.1) (fun zz => [zz.2.2.1, zz.2.2.2.2]) (fun zz => [(5, .int .i64 (zz.1 : Int))]) (0, x, Hx, s, Hs) (pc 0 rfl (pc 1 rfl pn)) (pc 5 rfl pn) rfl ⟨Nat.zero_le _, ⟨hx, hp, by rw [extTo_0, List.append_nil]; exact hs⟩, ox, os⟩ ?_))))))))
  rintro ⟨v, x1, H47, s1, H50⟩ hJ53
  obtain ⟨hk45, hi46, o48, o51⟩ : (v ≤ 6) ∧ (x1.length = c.vars.length ∧ x1.take i = p ∧ s1 = suppV c (T ++ extTo (wordL c.vars ds) i p v)) ∧ OwnL 3 1 H47 noHp IntV vx x1 ∧ OwnL 3 1 H50 noHp IntV vs s1 := hJ53
  change KC _ _ (_) [H47, H50] _ ([(5, .int .i64 (v : Int))] ++ _)
  refine kc_seq (kc_seq (kc_region (kl_mv rfl (kl_leq rfl rfl ?_))))
  refine kl_nil (kq_code (kc_if rfl (fun c54 => ?_) (fun c54 => ?_)))
  ·skip
   have hv2 := hC.at (k := i) (by omega)
   refine kc_skipQ (kq_code (kc_seq (kc_block (kc_seq (kc_tree (fun i => ([15] : List Nat).contains i) [] (by kernel_rfl) ?_)))))
   refine kt_q 0 (List.nil_sublist _) rfl (by kernel_rfl) (kl_mv rfl (kl_nil (kq_q (kt_q 1 (List.nil_sublist _) rfl (by kernel_rfl) (kl_nilchkA rfl (by assumption) ?_)))))
   refine kl_nil (kq_q (kt_q 2 (List.nil_sublist _) rfl (by kernel_rfl) (kl_fd rfl (by assumption) (fun p55 a56 => ?_))))
   refine kl_nil (kq_q (kt_q 3 (List.nil_sublist _) rfl (by kernel_rfl) (kl_ld rfl (by assumption) (kl_nil (kq_q (kt_q 4 (List.nil_sublist _) rfl (by kernel_rfl) (kl_mv rfl (kl_nil (kq_q (kt_q 5 (List.nil_sublist _) rfl (by kernel_rfl) (kl_nilchkA rfl (by assumption) ?_)))))))))))
   refine kl_nil (kq_q (kt_q 6 (List.nil_sublist _) rfl (by kernel_rfl) (kl_fd rfl (by assumption) (fun p57 a58 => ?_))))
   refine kl_nil (kq_q (kt_q 7 (List.nil_sublist _) rfl (by kernel_rfl) (kl_fd rfl (by assumption) (fun p59 a60 => ?_))))
   refine kl_nil (kq_q (kt_q 8 (List.nil_sublist _) rfl (by kernel_rfl) (kl_ld rfl (by assumption) (kl_nil (kq_q (kt_q 9 (List.nil_sublist _) rfl (by kernel_rfl) (kl_mv rfl (kl_nil (kq_q (kt_q 10 (List.nil_sublist _) rfl (by kernel_rfl) (kl_inI rfl rfl (by assumption) (by omega) (fun p61 a62 => ?_))))))))))))
   refine kl_nil (kq_q (kt_q 11 (List.nil_sublist _) rfl (by kernel_rfl) (kl_ld rfl (by assumption) (kl_nil (kq_q (kt_q 12 (List.nil_sublist _) rfl (by kernel_rfl) (kl_ixI rfl rfl (by assumption) (by omega) (by omega) (fun p63 a64 => ?_))))))))
   refine kl_nil (kq_q (kt_q 13 (List.nil_sublist _) rfl (by kernel_rfl) (kl_ld rfl (by assumption) (kl_nil (kq_q (kt_q 14 (List.nil_sublist _) rfl (by kernel_rfl) (kl_mv rfl (kl_nil (kq_q (kt_a 15 rfl (by kernel_rfl) (kl_callP rfl rfl (domainHas_ok (ds.getD (c.vars.getD i 0).toNat 0) (v : Int)) ?_)))))))))))
   refine kl_nil (kq_x rfl (kt_end (by kernel_rfl) ?_))
   refine kq_code (kc_cond rfl (fun c65 => ?_) (fun c65 => ?_))
   ·skip
    have c65r := c65
    try simp only [smpC, decide_eq_true_eq, decide_eq_false_iff_not] at c65
    have hb1 : hasB ((wordL c.vars ds).getD i 0) (v : Int) = true := (by rw [word_at (by omega), ← dh_iff (by omega : v < 6)]; exact c65r)
    refine kc_seq (kc_region (kl_mv rfl (kl_nilchkA rfl (by assumption) ?_)))
    refine kl_fd rfl (by assumption) (fun p66 a67 => ?_)
    refine kl_ld rfl (by assumption) (kl_mv rfl (kl_mv rfl (kl_ixLn rfl rfl (by assumption) (by omega) (fun p68 q69 => ?_))))
    refine kl_stL (v : Int) rfl rfl (by assumption) o48 (by omega) rfl rfl rfl (fun H70 o71 f72 => ?_)
    refine kl_nil (kq_code (kc_region (kl_mv rfl (kl_mv rfl (kl_inc rfl rfl (by omega) ?_)))))
    refine kl_callT (vs := [_, .int .i64 (((i + 1) : Nat) : Int)]) rfl rfl (ih (k - 1) (by omega) c ds (x1.set i (v : Int)) (p ++ [(v : Int)]) s1 (T ++ extTo (wordL c.vars ds) i p v) (i + 1) hC hd (by omega) (by rw [List.length_set]; exact hi46.1) (take_set_succ hi46.2.1 (by omega)) (hv.snoc (by omega)) hi46.2.2 hcv hca hcr hds ae o71 o51) (fun v74 L1 Ln K75 h76 g77 g78 => ?_)
    obtain ⟨rfl, rfl, H79, H80, x81, rfl, o82, h83, h84, o85⟩ := h76
    refine kl_norm ?_
    refine kl_nil (kq_code (kc_region (kl_mv rfl (kl_inc rfl rfl (by omega) ?_))))
    refine kl_as rfl (kl_nil (kq_roundL ((v + 1), x81, H79, (suppV c ((T ++ extTo (wordL c.vars ds) i p v) ++ extP (wordL c.vars ds) (i + 1) (p ++ [(v : Int)]))), H80) (by omega) (⟨by omega, ⟨h83, take_of_succ h84 hpl, (by rw [← extTo_T hb1, List.append_assoc])⟩, o82, o85⟩) (pc 5 rfl pn) (pc 0 rfl (pc 1 rfl pn)) rfl (List.Sublist.refl _)))
   ·skip
    have c65r := c65
    try simp only [smpC, decide_eq_true_eq, decide_eq_false_iff_not] at c65
    have hb1 : hasB ((wordL c.vars ds).getD i 0) (v : Int) = false := (by rw [word_at (by omega), ← dh_iff (by omega : v < 6)]; exact c65r)
    refine kc_skipQ (kq_code (kc_region (kl_mv rfl (kl_inc rfl rfl (by omega) ?_))))
    refine kl_as rfl (kl_nil (kq_roundL ((v + 1), x1, H47, s1, H50) (by omega) (⟨by omega, ⟨hi46.1, hi46.2.1, (by rw [hi46.2.2, extTo_F hb1])⟩, o48, o51⟩) (pc 5 rfl pn) (pc 0 rfl (pc 1 rfl pn)) rfl (List.Sublist.refl _)))
  ·skip
   refine kc_exit ?_
   exact kq_retT0 rfl [H47, H50] [] noHp frn (fr_no _) ⟨rfl, rfl, H47, H50, x1, rfl, o48, hi46.1, hi46.2.1, OwnL.cast (by rw [hi46.2.2, extTo_6 (by simp [wordL]; omega) (by omega)]) o51⟩
theorem walk_ok (k : Nat) : walkSt k := by
 induction k using Nat.strongRecOn with
 | _ k ih => exact @walk_step k ih
theorem supported_ok {Hcv : Hp} {vcv : Value} {Hca : Hp} {vca : Value} {Hcr : Hp} {vcr : Value} {Hds : Hp} {vds : Value} (c : Con) (ds : List Int) (hC : ConOk c ds.length) (hd : DomV ds) (hcv : Ints Hcv vcv c.vars) (hca : Ints Hca vca c.args) (hcr : Rows Hcr vcr c.rows) (hds : Ints Hds vds ds) : Spec Tryz.prog 155 [.agg #[.int .i64 c.kind, vcv, vca, .int .i64 c.bound, vcr], vds] [Hcv, Hca, Hcr, Hds] (fun Hq vq => Ints Hq vq (filtL c ds)) := by
 have ho := hC.one
 refine spec_of Tryz.func155 rfl rfl rfl (fun B => ?_)
 refine kc_seq (kc_region (kl_box rfl rfl (fun p1 H2 f3 a4 => ?_)))
 refine kl_as rfl (kl_nil (kq_code (kc_seq (kc_tree (fun i => ([10, 11] : List Nat).contains i) [] (by kernel_rfl) ?_))))
 refine kt_q 0 (List.nil_sublist _) rfl (by kernel_rfl) (kl_ldS rfl (by assumption) rfl ?_)
 refine kl_nil (kq_q (kt_q 1 (List.nil_sublist _) rfl (by kernel_rfl) (kl_mv rfl (kl_nil (kq_q (kt_q 2 (List.nil_sublist _) rfl (by kernel_rfl) (kl_fd rfl (by assumption) (fun p5 a6 => ?_))))))))
 refine kl_nil (kq_q (kt_q 3 (List.nil_sublist _) rfl (by kernel_rfl) (kl_ld rfl (by assumption) (kl_nil (kq_q (kt_q 4 (List.nil_sublist _) rfl (by kernel_rfl) (kl_len rfl (by assumption) (fun l7 => ?_))))))))
 refine kl_nil (kq_q (kt_q 6 (List.nil_sublist _) rfl (by kernel_rfl) (kl_fd rfl (by assumption) (fun p8 a9 => ?_))))
 refine kl_nil (kq_q (kt_q 7 (List.nil_sublist _) rfl (by kernel_rfl) (kl_ld rfl (by assumption) (kl_nil (kq_q (kt_q 8 (List.nil_sublist _) rfl (by kernel_rfl) (kl_len rfl (by assumption) (fun l10 => ?_))))))))
 refine kl_nil (kq_q (kt_b 5 9 rfl rfl (by kernel_rfl) ?_ ?_))
 ·skip
  refine kl_mkL (R := IntV) (0 : Int) rfl rfl (by omega) (by decide) (by exact rfl) (fun v11 H12 f13 o14 => ?_)
  refine kl_nil (kq_a (List.nil_sublist _) (kt_a 9 rfl (by kernel_rfl) (kl_mkL (R := IntV) (0 : Int) rfl rfl (by omega) (by decide) (by exact rfl) (fun v15 H16 f17 o18 => ?_))))
  refine kl_nil (kq_a (List.nil_sublist _) (kt_a 10 rfl (by kernel_rfl) (kl_bdA [(0, [.int .i64 c.kind, vcv, vca, .int .i64 c.bound, vcr]), (1, [vds]), (2, [v11]), (3, [v15])] [.int .i64 c.kind, vcv, vca, .int .i64 c.bound, vcr, vds, v11, v15] rfl (cpa rfl (cpa (Sl.cells (by assumption)) (cpa (OwnL.cells (by assumption)) (cpa (OwnL.cells (by assumption)) cpa_nil)))) rfl ?_)))
  refine kl_nil (kq_x rfl (kt_a 11 rfl (by kernel_rfl) (kl_box rfl rfl (fun p19 H20 f21 a22 => ?_))))
  refine kl_nil (kq_x rfl (kt_q 12 (List.nil_sublist _) rfl (by kernel_rfl) (kl_as rfl (kl_nil (kq_q (kt_end (by kernel_rfl) ?_))))))
  refine kq_code (kc_seq (kc_region (kl_mv rfl (kl_callT (vs := [_, .int .i64 ((0 : Nat) : Int)]) rfl rfl (walk_ok c.vars.length c ds (List.replicate c.vars.length (0 : Int)) [] (List.replicate c.vars.length (0 : Int)) [] 0 hC hd (by omega) (by simp) rfl vals_nil (suppV_0 c).symm hcv hca hcr hds a22 o14 o18) (fun v23 L1 Ln K24 h25 g26 g27 => ?_)))))
  obtain ⟨rfl, rfl, H28, H29, x30, rfl, o31, h32, h33, o34⟩ := h25
  refine kl_norm ?_
  refine kl_nil (kq_code (kc_seq (kc_region (kl_mv rfl (kl_callL rfl rfl (copyInts_ok ds (by omega) (by assumption)) (fun v35 H36 f37 o38 => ?_))))))
  refine kl_as rfl (kl_nil (kq_code (kc_seq (kc_seq (kc_region (kl_as rfl (kl_nil (kq_code (kc_block (kc_loopL (A := Nat × List Int × Hp) (fun zz => (zz.1 ≤ c.vars.length) ∧ (zz.2.1 = filtTo c ds (suppV c ([] ++ extP (wordL c.vars ds) 0 [])) zz.1) ∧ OwnL 3 1 zz.2.2 noHp IntV v35 zz.2.1 ∧ Fr B zz.2.2) (fun zz => c.vars.length - zz.1) (fun zz => [zz.2.2, H28, H29]) (fun zz => [(7, .int .i64 (zz.1 : Int))]) (0, ds, H36) (pc 2 rfl (pc 4 rfl (pc 5 rfl (pc 6 rfl pn)))) (pc 7 rfl pn) rfl ⟨Nat.zero_le _, rfl, o38, f37⟩ ?_))))))))))
  rintro ⟨k, out, H41⟩ hJ44
  obtain ⟨hk39, hi40, o42, f43⟩ : (k ≤ c.vars.length) ∧ (out = filtTo c ds (suppV c ([] ++ extP (wordL c.vars ds) 0 [])) k) ∧ OwnL 3 1 H41 noHp IntV v35 out ∧ Fr B H41 := hJ44
  change KC _ _ (_) [H41, H28, H29] _ ([(7, .int .i64 (k : Int))] ++ _)
  have hln : out.length = ds.length := (by rw [hi40]; exact filtTo_len c ds _ k)
  refine kc_seq (kc_seq (kc_region (kl_mv rfl (kl_fd rfl (by assumption) (fun p45 a46 => ?_)))))
  refine kl_ld rfl (by assumption) (kl_len rfl (by assumption) (fun l47 => ?_))
  refine kl_lss rfl rfl ?_
  refine kl_nil (kq_code (kc_if rfl (fun c48 => ?_) (fun c48 => ?_)))
  ·skip
   have hv2 := hC.at (k := k) (by omega)
   have hll := suppV_len c ([] ++ extP (wordL c.vars ds) 0 [])
   refine kc_skipQ (kq_code (kc_seq (kc_block (kc_tree (fun i => ([14] : List Nat).contains i) [H29] (by kernel_rfl) ?_))))
   refine kt_q 0 (.cons _ (.cons _ (.cons_cons _ (List.nil_sublist _)))) rfl (by kernel_rfl) (kl_mv rfl (kl_nil (kq_q (kt_q 1 (.cons _ (.cons _ (.cons_cons _ (List.nil_sublist _)))) rfl (by kernel_rfl) (kl_fd rfl (by assumption) (fun p49 a50 => ?_))))))
   refine kl_nil (kq_q (kt_q 2 (.cons _ (.cons _ (.cons_cons _ (List.nil_sublist _)))) rfl (by kernel_rfl) (kl_ld rfl (by assumption) (kl_nil (kq_q (kt_q 3 (.cons _ (.cons _ (.cons_cons _ (List.nil_sublist _)))) rfl (by kernel_rfl) (kl_mv rfl (kl_nil (kq_q (kt_q 4 (.cons _ (.cons _ (.cons_cons _ (List.nil_sublist _)))) rfl (by kernel_rfl) (kl_inI rfl rfl (by assumption) (by omega) (fun p51 a52 => ?_))))))))))))
   refine kl_nil (kq_q (kt_q 5 (.cons _ (.cons _ (.cons_cons _ (List.nil_sublist _)))) rfl (by kernel_rfl) (kl_ld rfl (by assumption) (kl_nil (kq_q (kt_q 6 (.cons _ (.cons _ (.cons_cons _ (List.nil_sublist _)))) rfl (by kernel_rfl) (kl_mv rfl (kl_nil (kq_q (kt_q 7 (.cons _ (.cons _ (.cons_cons _ (List.nil_sublist _)))) rfl (by kernel_rfl) (kl_nilchkA rfl (by assumption) ?_)))))))))))
   refine kl_nil (kq_q (kt_q 8 (.cons _ (.cons _ (.cons_cons _ (List.nil_sublist _)))) rfl (by kernel_rfl) (kl_fd rfl (by assumption) (fun p53 a54 => ?_))))
   refine kl_nil (kq_q (kt_q 9 (.cons _ (.cons _ (.cons_cons _ (List.nil_sublist _)))) rfl (by kernel_rfl) (kl_ld rfl (by assumption) (kl_nil (kq_q (kt_q 10 (.cons _ (.cons _ (.cons_cons _ (List.nil_sublist _)))) rfl (by kernel_rfl) (kl_mv rfl (kl_nil (kq_q (kt_q 11 (.cons _ (.cons _ (.cons_cons _ (List.nil_sublist _)))) rfl (by kernel_rfl) (kl_ixLn rfl rfl (by assumption) (by omega) (fun p55 q56 => ?_))))))))))))
   refine kl_nil (kq_q (kt_q 12 (.cons _ (.cons _ (.cons_cons _ (List.nil_sublist _)))) rfl (by kernel_rfl) (kl_ldLIe rfl (by assumption) (by assumption) (by omega) ?_)))
   refine kl_nil (kq_q (kt_q 13 (.cons _ (.cons _ (.cons_cons _ (List.nil_sublist _)))) rfl (by kernel_rfl) (kl_ixL rfl rfl (by assumption) (by omega) (by omega) (fun p57 q58 => ?_))))
   refine kl_nil (kq_q (kt_a 14 rfl (by kernel_rfl) (kl_stL ((suppV c ([] ++ extP (wordL c.vars ds) 0 [])).getD k 0) rfl rfl (by assumption) o42 (by omega) rfl rfl rfl (fun H59 o60 f61 => ?_))))
   have f62 := f61 _ f43
   refine kl_chg [H59, H28, H29] rfl ?_
   refine kl_nil (kq_x rfl (kt_end (by kernel_rfl) ?_))
   refine kq_code (kc_region (kl_mv rfl (kl_inc rfl rfl (by omega) ?_)))
   refine kl_as rfl (kl_nil (kq_take [H59, H28, H29] ?_))
   refine kq_roundL ((k + 1), (out.set ((c.vars.getD k 0).toNat) ((suppV c ([] ++ extP (wordL c.vars ds) 0 [])).getD k 0)), H59) (by omega) (⟨by omega, (by rw [hi40, filtTo_succ]), o60, f62⟩) (pc 7 rfl pn) (pc 2 rfl (pc 4 rfl (pc 5 rfl (pc 6 rfl pn)))) rfl (List.Sublist.refl _)
  ·skip
   refine kc_exit (kq_code (kc_seq (kc_region (kl_mv rfl (kl_as rfl (kl_nil (kq_code (kc_ret ?_))))))))
   have e9 : out = filtL c ds := by (rw [hi40, show k = c.vars.length from by omega, List.nil_append, extP_all]; rfl)
   exact kq_ret rfl rfl H41 f43 (e9 ▸ OwnL.ints o42)
 ·skip
  refine kl_mkL (R := IntV) (0 : Int) rfl rfl (by omega) (by decide) (by exact rfl) (fun v63 H64 f65 o66 => ?_)
  refine kl_nil (kq_a (List.nil_sublist _) (kt_a 5 rfl (by kernel_rfl) (kl_mkL (R := IntV) (0 : Int) rfl rfl (by omega) (by decide) (by exact rfl) (fun v67 H68 f69 o70 => ?_))))
  refine kl_nil (kq_a (List.nil_sublist _) (kt_a 10 rfl (by kernel_rfl) (kl_bdA [(0, [.int .i64 c.kind, vcv, vca, .int .i64 c.bound, vcr]), (1, [vds]), (2, [v67]), (3, [v63])] [.int .i64 c.kind, vcv, vca, .int .i64 c.bound, vcr, vds, v67, v63] rfl (cpa rfl (cpa (Sl.cells (by assumption)) (cpa (OwnL.cells (by assumption)) (cpa (OwnL.cells (by assumption)) cpa_nil)))) rfl ?_)))
  refine kl_nil (kq_x rfl (kt_a 11 rfl (by kernel_rfl) (kl_box rfl rfl (fun p71 H72 f73 a74 => ?_))))
  refine kl_nil (kq_x rfl (kt_q 12 (List.nil_sublist _) rfl (by kernel_rfl) (kl_as rfl (kl_nil (kq_q (kt_end (by kernel_rfl) ?_))))))
  refine kq_code (kc_seq (kc_region (kl_mv rfl (kl_callT (vs := [_, .int .i64 ((0 : Nat) : Int)]) rfl rfl (walk_ok c.vars.length c ds (List.replicate c.vars.length (0 : Int)) [] (List.replicate c.vars.length (0 : Int)) [] 0 hC hd (by omega) (by simp) rfl vals_nil (suppV_0 c).symm hcv hca hcr hds a74 o70 o66) (fun v75 L1 Ln K76 h77 g78 g79 => ?_)))))
  obtain ⟨rfl, rfl, H80, H81, x82, rfl, o83, h84, h85, o86⟩ := h77
  refine kl_norm ?_
  refine kl_nil (kq_code (kc_seq (kc_region (kl_mv rfl (kl_callL rfl rfl (copyInts_ok ds (by omega) (by assumption)) (fun v87 H88 f89 o90 => ?_))))))
  refine kl_as rfl (kl_nil (kq_code (kc_seq (kc_seq (kc_region (kl_as rfl (kl_nil (kq_code (kc_block (kc_loopL (A := Nat × List Int × Hp) (fun zz => (zz.1 ≤ c.vars.length) ∧ (zz.2.1 = filtTo c ds (suppV c ([] ++ extP (wordL c.vars ds) 0 [])) zz.1) ∧ OwnL 3 1 zz.2.2 noHp IntV v87 zz.2.1 ∧ Fr B zz.2.2) (fun zz => c.vars.length - zz.1) (fun zz => [zz.2.2, H80, H81]) (fun zz => [(7, .int .i64 (zz.1 : Int))]) (0, ds, H88) (pc 2 rfl (pc 4 rfl (pc 5 rfl (pc 6 rfl pn)))) (pc 7 rfl pn) rfl ⟨Nat.zero_le _, rfl, o90, f89⟩ ?_))))))))))
  rintro ⟨k, out, H93⟩ hJ96
  obtain ⟨hk91, hi92, o94, f95⟩ : (k ≤ c.vars.length) ∧ (out = filtTo c ds (suppV c ([] ++ extP (wordL c.vars ds) 0 [])) k) ∧ OwnL 3 1 H93 noHp IntV v87 out ∧ Fr B H93 := hJ96
  change KC _ _ (_) [H93, H80, H81] _ ([(7, .int .i64 (k : Int))] ++ _)
  have hln : out.length = ds.length := (by rw [hi92]; exact filtTo_len c ds _ k)
  refine kc_seq (kc_seq (kc_region (kl_mv rfl (kl_fd rfl (by assumption) (fun p97 a98 => ?_)))))
  refine kl_ld rfl (by assumption) (kl_len rfl (by assumption) (fun l99 => ?_))
  refine kl_lss rfl rfl ?_
  refine kl_nil (kq_code (kc_if rfl (fun c100 => ?_) (fun c100 => ?_)))
  ·skip
   have hv2 := hC.at (k := k) (by omega)
   have hll := suppV_len c ([] ++ extP (wordL c.vars ds) 0 [])
   refine kc_skipQ (kq_code (kc_seq (kc_block (kc_tree (fun i => ([14] : List Nat).contains i) [H81] (by kernel_rfl) ?_))))
   refine kt_q 0 (.cons _ (.cons _ (.cons_cons _ (List.nil_sublist _)))) rfl (by kernel_rfl) (kl_mv rfl (kl_nil (kq_q (kt_q 1 (.cons _ (.cons _ (.cons_cons _ (List.nil_sublist _)))) rfl (by kernel_rfl) (kl_fd rfl (by assumption) (fun p101 a102 => ?_))))))
   refine kl_nil (kq_q (kt_q 2 (.cons _ (.cons _ (.cons_cons _ (List.nil_sublist _)))) rfl (by kernel_rfl) (kl_ld rfl (by assumption) (kl_nil (kq_q (kt_q 3 (.cons _ (.cons _ (.cons_cons _ (List.nil_sublist _)))) rfl (by kernel_rfl) (kl_mv rfl (kl_nil (kq_q (kt_q 4 (.cons _ (.cons _ (.cons_cons _ (List.nil_sublist _)))) rfl (by kernel_rfl) (kl_inI rfl rfl (by assumption) (by omega) (fun p103 a104 => ?_))))))))))))
   refine kl_nil (kq_q (kt_q 5 (.cons _ (.cons _ (.cons_cons _ (List.nil_sublist _)))) rfl (by kernel_rfl) (kl_ld rfl (by assumption) (kl_nil (kq_q (kt_q 6 (.cons _ (.cons _ (.cons_cons _ (List.nil_sublist _)))) rfl (by kernel_rfl) (kl_mv rfl (kl_nil (kq_q (kt_q 7 (.cons _ (.cons _ (.cons_cons _ (List.nil_sublist _)))) rfl (by kernel_rfl) (kl_nilchkA rfl (by assumption) ?_)))))))))))
   refine kl_nil (kq_q (kt_q 8 (.cons _ (.cons _ (.cons_cons _ (List.nil_sublist _)))) rfl (by kernel_rfl) (kl_fd rfl (by assumption) (fun p105 a106 => ?_))))
   refine kl_nil (kq_q (kt_q 9 (.cons _ (.cons _ (.cons_cons _ (List.nil_sublist _)))) rfl (by kernel_rfl) (kl_ld rfl (by assumption) (kl_nil (kq_q (kt_q 10 (.cons _ (.cons _ (.cons_cons _ (List.nil_sublist _)))) rfl (by kernel_rfl) (kl_mv rfl (kl_nil (kq_q (kt_q 11 (.cons _ (.cons _ (.cons_cons _ (List.nil_sublist _)))) rfl (by kernel_rfl) (kl_ixLn rfl rfl (by assumption) (by omega) (fun p107 q108 => ?_))))))))))))
   refine kl_nil (kq_q (kt_q 12 (.cons _ (.cons _ (.cons_cons _ (List.nil_sublist _)))) rfl (by kernel_rfl) (kl_ldLIe rfl (by assumption) (by assumption) (by omega) ?_)))
   refine kl_nil (kq_q (kt_q 13 (.cons _ (.cons _ (.cons_cons _ (List.nil_sublist _)))) rfl (by kernel_rfl) (kl_ixL rfl rfl (by assumption) (by omega) (by omega) (fun p109 q110 => ?_))))
   refine kl_nil (kq_q (kt_a 14 rfl (by kernel_rfl) (kl_stL ((suppV c ([] ++ extP (wordL c.vars ds) 0 [])).getD k 0) rfl rfl (by assumption) o94 (by omega) rfl rfl rfl (fun H111 o112 f113 => ?_))))
   have f114 := f113 _ f95
   refine kl_chg [H111, H80, H81] rfl ?_
   refine kl_nil (kq_x rfl (kt_end (by kernel_rfl) ?_))
   refine kq_code (kc_region (kl_mv rfl (kl_inc rfl rfl (by omega) ?_)))
   refine kl_as rfl (kl_nil (kq_take [H111, H80, H81] ?_))
   refine kq_roundL ((k + 1), (out.set ((c.vars.getD k 0).toNat) ((suppV c ([] ++ extP (wordL c.vars ds) 0 [])).getD k 0)), H111) (by omega) (⟨by omega, (by rw [hi92, filtTo_succ]), o112, f114⟩) (pc 7 rfl pn) (pc 2 rfl (pc 4 rfl (pc 5 rfl (pc 6 rfl pn)))) rfl (List.Sublist.refl _)
  ·skip
   refine kc_exit (kq_code (kc_seq (kc_region (kl_mv rfl (kl_as rfl (kl_nil (kq_code (kc_ret ?_))))))))
   have e9 : out = filtL c ds := by (rw [hi92, show k = c.vars.length from by omega, List.nil_append, extP_all]; rfl)
   exact kq_ret rfl rfl H93 f95 (e9 ▸ OwnL.ints o94)
theorem isCons_ok {Hmd : Hp} {vmd : Value} {Hmc : Hp} {vmc : Value} {Hds : Hp} {vds : Value} (m : Mod) (ds : List Int) (hM : MOk m) (hd : DOk m.doms.length ds) (hmd : Ints Hmd vmd m.doms) (hmc : Cons Hmc vmc m.cons) (hds : Ints Hds vds ds) : SpecP Tryz.prog 154 [.agg #[vmd, vmc], vds] [Hmd, Hmc, Hds] (.bool (consB m.cons ds)) := by
 refine spec_of Tryz.func154 rfl rfl rfl (fun B => ?_)
 refine kc_seq (kc_region (kl_box rfl rfl (fun p1 H2 f3 a4 => ?_)))
 refine kl_as rfl (kl_nil (kq_code (kc_seq (kc_seq (kc_region (kl_as rfl (kl_nil (kq_code (kc_block (kc_loop0 (A := Nat) (fun zz => (zz ≤ m.cons.length) ∧ ((m.cons.take zz).all (fun c => decide (filtL c ds = ds)) = true)) (fun zz => m.cons.length - zz) (fun zz => [(5, .int .i64 (zz : Int))]) (0) (pc 1 rfl (pc 2 rfl pn)) (pc 5 rfl pn) ⟨Nat.zero_le _, rfl⟩ ?_))))))))))
 rintro k hJ7
 obtain ⟨hk5, hi6⟩ : (k ≤ m.cons.length) ∧ ((m.cons.take k).all (fun c => decide (filtL c ds = ds)) = true) := hJ7
 change KC _ _ (_) _ _ ([(5, .int .i64 (k : Int))] ++ _)
 refine kc_seq (kc_seq (kc_region (kl_mv rfl (kl_fd rfl (by assumption) (fun p8 a9 => ?_)))))
 refine kl_ld rfl (by assumption) (kl_len rfl (by assumption) (fun l10 => ?_))
 refine kl_lss rfl rfl ?_
 refine kl_nil (kq_code (kc_if rfl (fun c11 => ?_) (fun c11 => ?_)))
 ·skip
  have hC : ConOk (m.cons.getD k nilCon) ds.length := (by rw [hd.l]; exact ⟨hM.c (by omega)⟩)
  refine kc_skipQ (kq_code (kc_seq (kc_block (kc_seq (kc_region (kl_fd rfl (by assumption) (fun p12 a13 => ?_)))))))
  refine kl_ld rfl (by assumption) (kl_mv rfl (kl_inC rfl rfl (by assumption) (by omega) (fun p14 u16 u17 u18 h19 h20 h21 a15 => ?_)))
  refine kl_ldS rfl (by assumption) rfl ?_
  refine kl_mv rfl (kl_call rfl rfl (supported_ok (m.cons.getD k nilCon) ds hC hd.d (by assumption) (by assumption) (by assumption) (by assumption)) (fun v22 H23 f24 h25 => ?_))
  refine kl_mv rfl (kl_callP rfl rfl (sequal_ok (filtL (m.cons.getD k nilCon) ds) ds (by assumption) (by assumption)) ?_)
  refine kl_not rfl (kl_nil (kq_code (kc_cond rfl (fun c26 => ?_) (fun c26 => ?_))))
  ·skip
   have c26r := c26
   try simp only [smpC, decide_eq_true_eq, decide_eq_false_iff_not] at c26
   refine kc_seq (kc_region (kl_as rfl (kl_nil (kq_code (kc_ret (kq_retP rfl rfl (congrArg Value.bool ?_)))))))
   exact cons_no (k := k) (by omega) (by assumption)
  ·skip
   have c26r := c26
   try simp only [smpC, decide_eq_true_eq, decide_eq_false_iff_not] at c26
   refine kc_skipQ (kq_code (kc_region (kl_mv rfl (kl_inc rfl rfl (by omega) ?_))))
   refine kl_as rfl (kl_nil (kq_round0 ((k + 1)) (by omega) (⟨by omega, cons_step (by omega) hi6 (by assumption)⟩) (pc 5 rfl pn) (pc 1 rfl (pc 2 rfl pn)) (List.Sublist.refl _)))
 ·skip
  refine kc_exit (kq_code (kc_seq (kc_region (kl_as rfl (kl_nil (kq_code (kc_ret (kq_retP rfl rfl (congrArg Value.bool ?_)))))))))
  exact (by rw [List.take_of_length_le (by omega)] at hi6; exact hi6.symm)
theorem fixS_ok {Hmd : Hp} {vmd : Value} {Hmc : Hp} {vmc : Value} {Hds : Hp} {vds : Value} (m : Mod) (ds : List Int) (hM : MOk m) (hd : DOk m.doms.length ds) (hmd : Ints Hmd vmd m.doms) (hmc : Cons Hmc vmc m.cons) (hds : Ints Hds vds ds) : Spec Tryz.prog 125 [.agg #[vmd, vmc], vds] [Hmd, Hmc, Hds] (fun Hq vq => Ints Hq vq (prop m ds)) := by
 refine spec_of Tryz.func125 rfl rfl rfl (fun B => ?_)
 refine kc_seq (kc_region (kl_box rfl rfl (fun p1 H2 f3 a4 => ?_)))
 refine kl_as rfl (kl_nil (kq_code (kc_seq (kc_region (kl_mv rfl (kl_call rfl rfl (copyInts_ok ds (by have := hd.l; have := hM.n; omega) (by assumption)) (fun v5 H6 f7 o8 => ?_)))))))
 have h9 := OwnL.ints o8
 refine kl_as rfl (kl_nil (kq_code (kc_seq (kc_block (kc_loopK (A := List Int × Value × Hp) (fun zz => (DOk m.doms.length zz.1 ∧ prop m zz.1 = prop m ds) ∧ Fr B zz.2.2 ∧ Ints zz.2.2 zz.2.1 zz.1) (fun zz => sumN zz.1) (fun zz => zz.2.2) (fun zz => []) (fun zz => [(5, zz.2.1)]) (ds, v5, H6) (pc 2 rfl (pc 4 rfl pn)) (pc 5 rfl pn) rfl ⟨⟨hd, rfl⟩, f7, (by assumption)⟩ ?_)))))
 rintro ⟨xs, v12, K13⟩ hJ16
 obtain ⟨hi11, f14, h15⟩ : (DOk m.doms.length xs ∧ prop m xs = prop m ds) ∧ Fr B K13 ∧ Ints K13 v12 xs := hJ16
 change KC _ _ (K13 :: _) [] _ ([(5, v12)] ++ _)
 have hD := hi11.1
 refine kc_seq (kc_seq (kc_region (kl_ldS rfl (by assumption) rfl ?_)))
 refine kl_mv rfl (kl_callP rfl rfl (isCons_ok m xs hM hD (by assumption) (by assumption) (by assumption)) ?_)
 refine kl_not rfl (kl_mv rfl (kl_join 4 17 (.bool (!(consB m.cons xs) && !(xs.contains 0))) (pc 2 rfl (pc 4 rfl (pc 5 rfl (pc 9 rfl (pc 10 rfl (pc 11 rfl (pc 12 rfl (pc 13 rfl pn)))))))) (fun J18 => ?_) ?_))
 ·rcases Bool.eq_false_or_eq_true (!(consB m.cons xs)) with g17 | g17
  ·skip
   have g17p := g17
   try simp only [Bool.not_eq_true', Bool.not_eq_false', decide_eq_true_eq, decide_eq_false_iff_not, Bool.and_eq_true, Bool.or_eq_false_iff, withinB_iff] at g17p
   refine kl_gT rfl rfl g17 (kl_mv rfl (kl_gT rfl rfl g17 (kl_callP rfl rfl (hasEmpty_ok xs (by assumption)) ?_)))
   refine kl_gT rfl rfl g17 (kl_not rfl (kl_andT rfl rfl g17 ?_))
   exact J18 _ (pc 17 rfl (pc 2 rfl (pc 4 rfl (pc 5 rfl (pc 9 rfl (pc 10 rfl (pc 11 rfl (pc 12 rfl (pc 13 rfl pn)))))))))
  ·skip
   refine kl_gF rfl rfl g17 (kl_gF rfl rfl g17 (kl_gF rfl rfl g17 (kl_andF (!(xs.contains 0)) rfl rfl g17 ?_)))
   exact J18 _ (pc 17 rfl (pc 2 rfl (pc 4 rfl (pc 5 rfl (pc 9 rfl (pc 10 rfl (pc 11 rfl (pc 12 rfl (pc 13 rfl pn)))))))))
 refine kl_nil (kq_code (kc_cond rfl (fun c19 => ?_) (fun c19 => ?_)))
 ·skip
  have c19r := c19
  try simp only [smpC, decide_eq_true_eq, decide_eq_false_iff_not] at c19
  have hgo := fix_go hM hD c19r
  refine kc_skipQ (kq_code (kc_block (kc_seq (kc_region (kl_as rfl (kl_nil (kq_code (kc_block (kc_loopK (A := Nat × List Int × Value × Hp) (fun zz => (zz.1 ≤ m.cons.length) ∧ (zz.2.1 = filtC (m.cons.take zz.1) xs) ∧ Fr B zz.2.2.2 ∧ Ints zz.2.2.2 zz.2.2.1 zz.2.1) (fun zz => m.cons.length - zz.1) (fun zz => zz.2.2.2) (fun zz => []) (fun zz => [(6, .int .i64 (zz.1 : Int)), (5, zz.2.2.1)]) (0, xs, v12, K13) (pc 2 rfl (pc 4 rfl (pc 9 rfl (pc 10 rfl (pc 11 rfl (pc 12 rfl (pc 13 rfl (pc 17 rfl pn)))))))) (pc 6 rfl (pc 5 rfl pn)) rfl ⟨Nat.zero_le _, rfl, f14, (by assumption)⟩ ?_)))))))))
  rintro ⟨k2, ys, v22, K23⟩ hJ26
  obtain ⟨hk20, hi21, f24, h25⟩ : (k2 ≤ m.cons.length) ∧ (ys = filtC (m.cons.take k2) xs) ∧ Fr B K23 ∧ Ints K23 v22 ys := hJ26
  change KC _ _ (K23 :: _) [] _ ([(6, .int .i64 (k2 : Int)), (5, v22)] ++ _)
  refine kc_seq (kc_seq (kc_region (kl_mv rfl (kl_fd rfl (by assumption) (fun p27 a28 => ?_)))))
  refine kl_ld rfl (by assumption) (kl_len rfl (by assumption) (fun l29 => ?_))
  refine kl_lss rfl rfl ?_
  refine kl_nil (kq_code (kc_if rfl (fun c30 => ?_) (fun c30 => ?_)))
  ·skip
   have hE := filtC_at hM hD hi21
   have hC : ConOk (m.cons.getD k2 nilCon) ys.length := (by rw [hE.l]; exact ⟨hM.c (by omega)⟩)
   refine kc_skipQ (kq_code (kc_seq (kc_block (kc_region (kl_fd rfl (by assumption) (fun p31 a32 => ?_))))))
   refine kl_ld rfl (by assumption) (kl_mv rfl (kl_inC rfl rfl (by assumption) (by omega) (fun p33 u35 u36 u37 h38 h39 h40 a34 => ?_)))
   refine kl_ldS rfl (by assumption) rfl ?_
   refine kl_mv rfl (kl_call rfl rfl (supported_ok (m.cons.getD k2 nilCon) ys hC hE.d (by assumption) (by assumption) (by assumption) (by assumption)) (fun v41 H42 f43 h44 => ?_))
   refine kl_as rfl (kl_nil (kq_code (kc_region (kl_mv rfl (kl_inc rfl rfl (by omega) ?_)))))
   refine kl_as rfl (kl_nil (kq_roundK ((k2 + 1), (filtL (m.cons.getD k2 nilCon) ys), v41, H42) (by omega) (⟨by omega, (by rw [filtC_step (by omega), ← hi21]), f43, (by assumption)⟩) (pc 6 rfl (pc 5 rfl pn)) (pc 2 rfl (pc 4 rfl (pc 9 rfl (pc 10 rfl (pc 11 rfl (pc 12 rfl (pc 13 rfl (pc 17 rfl pn)))))))) rfl (List.Sublist.refl _)))
  ·skip
   refine kc_exit (kq_roundK (ys, v22, K23) (by (dsimp only; rw [hi21, List.take_of_length_le (by omega)]; exact filtA_lt hM hD hgo.1)) (⟨(by rw [hi21, List.take_of_length_le (by omega)]; exact ⟨(filtA_ok hM hD).1, (prop_step hM hD hgo.2 hgo.1).trans hi11.2⟩), f24, (by assumption)⟩) (pc 5 rfl pn) (pc 2 rfl (pc 4 rfl pn)) rfl (List.Sublist.refl _))
 ·skip
  have c19r := c19
  try simp only [smpC, decide_eq_true_eq, decide_eq_false_iff_not] at c19
  have hend := fix_end hM hD c19r
  refine kc_exit (kq_code (kc_seq (kc_seq (kc_region (kl_mv rfl (kl_callP rfl rfl (hasEmpty_ok xs (by assumption)) ?_))))))
  refine kl_nil (kq_code (kc_cond rfl (fun c45 => ?_) (fun c45 => ?_)))
  ·skip
   have c45r := c45
   try simp only [smpC, decide_eq_true_eq, decide_eq_false_iff_not] at c45
   refine kc_seq (kc_region (kl_mv rfl (kl_len rfl (by assumption) (fun l46 => ?_))))
   refine kl_mkL (R := IntV) (0 : Int) rfl rfl (by (have := hD.l; have := hM.n; omega)) (by decide) (by exact rfl) (fun v47 H48 f49 o50 => ?_)
   refine kl_as rfl (kl_nil (kq_code (kc_ret ?_)))
   have e9 : (List.replicate xs.length (0 : Int)) = prop m ds := by (rw [← hi11.2]; exact (prop_0 (by assumption)).symm)
   exact kq_ret rfl rfl H48 f49 (e9 ▸ OwnL.ints o50)
  ·skip
   have c45r := c45
   try simp only [smpC, decide_eq_true_eq, decide_eq_false_iff_not] at c45
   refine kc_skipQ (kq_code (kc_seq (kc_region (kl_mv rfl (kl_as rfl (kl_nil (kq_code (kc_ret ?_))))))))
   have e9 : xs = prop m ds := by (rw [← hi11.2]; exact (hend (by assumption)).symm)
   exact kq_ret rfl rfl K13 f14 (e9 ▸ (by assumption : Ints _ _ xs))
abbrev branchSt (k : Nat) : Prop := ∀ {b : Nat} {Hmd Hmc Hds Hf Kf : Hp} {vmd vmc vds vf : Value} (m : Mod) (ds : List Int) (found : List (List Int)) (nd : Int) (hM : MOk m) (hd : DOk m.doms.length ds) (hk : sumN ds = k) (hroom : found.length + (solT m ds).length < 4096) (lq : Liq Kf)
  (hmd : Ints Hmd vmd m.doms) (hmc : Cons Hmc vmc m.cons) (hds : Ints Hds vds ds) (of : OwnL 22 1 Hf Kf RowV vf found),
  SpecT Tryz.prog 105 [.pointer (some ⟨b, 0, none⟩), vds] [sing b (.cells [vmd, vmc, .int .i64 4096, .int .i64 nd, vf].toArray 105 (0, 0)), Hf, Kf] [Hmd, Hmc, Hds] (fun vq L1 Ln _ => vq = .tuple #[] ∧ Ln = [] ∧ ∃ (nd2 : Int) (vf2 : Value) (Hf2 Kf2 : Hp), L1 = [sing b (.cells [vmd, vmc, .int .i64 4096, .int .i64 nd2, vf2].toArray 105 (0, 0)), Hf2, Kf2] ∧ OwnL 22 1 Hf2 Kf2 RowV vf2 (found ++ solT m ds) ∧ Liq Kf2)
theorem branch_step (k : Nat) (ih : ∀ j, j < k → branchSt j) : branchSt k := by
 intro b Hmd Hmc Hds Hf Kf vmd vmc vds vf m ds found nd hM hd hk hroom lq hmd hmc hds of
 have hn := hM.n
 have hp := propOk hM hd
 have hpl := hp.ok.l
 refine specT_of Tryz.func105 rfl rfl rfl (fun B => ?_)
 refine kc_seq (kc_region (kl_mv rfl (kl_mv rfl (kl_nilchk rfl ?_))))
 refine kl_fdV rfl (kl_ldB rfl rfl (kl_addK (κ := .i64) rfl rfl ?_))
 refine kl_nilchk rfl ?_
 refine kl_fdV rfl (kl_stB rfl rfl rfl rfl rfl ?_)
 refine kl_chg [sing b (.cells [vmd, vmc, .int .i64 (4096 : Int), .int .i64 (IntKind.wrap .i64 (nd + (1 : Int))), vf].toArray 105 (0, 0)), Hf, Kf] rfl ?_
 refine kl_nil (kq_code (kc_seq (kc_region (kl_mv rfl (kl_nilchk rfl ?_)))))
 refine kl_fdV rfl (kl_ldSL rfl (At.take 2 (at_box (T := 105) (cs := [vmd, vmc, .int .i64 (4096 : Int), .int .i64 (IntKind.wrap .i64 (nd + (1 : Int))), vf]) (off := 0) (fz := (0, 0)))) rfl ?_)
 refine kl_mv rfl (kl_call rfl rfl (fixS_ok m ds hM hd (by assumption) (by assumption) (by assumption)) (fun v1 H2 f3 h4 => ?_))
 refine kl_as rfl (kl_nil (kq_code (kc_seq (kc_seq (kc_region (kl_mv rfl (kl_callP rfl rfl (hasEmpty_ok (prop m ds) (by assumption)) ?_)))))))
 refine kl_nil (kq_code (kc_cond rfl (fun c5 => ?_) (fun c5 => ?_)))
 ·skip
  have c5r := c5
  try simp only [smpC, decide_eq_true_eq, decide_eq_false_iff_not] at c5
  refine kc_ret ?_
  exact kq_retT0 rfl [sing b (.cells [vmd, vmc, .int .i64 (4096 : Int), .int .i64 (IntKind.wrap .i64 (nd + (1 : Int))), vf].toArray 105 (0, 0)), Hf, Kf] [] noHp frn (fr_no _) ⟨rfl, rfl, (IntKind.wrap .i64 (nd + (1 : Int))), vf, Hf, Kf, rfl, OwnL.cast (by rw [solT_empty hM hd (by assumption), List.append_nil]) of, lq⟩
 ·skip
  have c5r := c5
  try simp only [smpC, decide_eq_true_eq, decide_eq_false_iff_not] at c5
  have hne : (prop m ds).contains 0 = false := (by simpa using c5r)
  refine kc_skipQ (kq_code (kc_seq (kc_region (kl_as rfl (kl_nil (kq_code (kc_seq (kc_block (kc_loop0 (A := Nat) (fun zz => (zz ≤ (prop m ds).length) ∧ (∀ j, j < zz → (valsI ((prop m ds).getD j 0)).length = 1)) (fun zz => (prop m ds).length - zz) (fun zz => [(5, .int .i64 (zz : Int))]) (0) (pc 0 rfl (pc 4 rfl pn)) (pc 5 rfl pn) ⟨Nat.zero_le _, (fun _ h => absurd h (Nat.not_lt_zero _))⟩ ?_)))))))))
  rintro i hJ8
  obtain ⟨hk6, hi7⟩ : (i ≤ (prop m ds).length) ∧ (∀ j, j < i → (valsI ((prop m ds).getD j 0)).length = 1) := hJ8
  change KC _ _ (_) _ _ ([(5, .int .i64 (i : Int))] ++ _)
  refine kc_seq (kc_seq (kc_region (kl_mv rfl (kl_mv rfl (kl_len rfl (by assumption) (fun l9 => ?_))))))
  refine kl_lss rfl rfl ?_
  refine kl_mv rfl (kl_join 8 39 (.bool (decide ((i : Int) < ((prop m ds).length : Int)) && decide (((valsI ((prop m ds).getD i 0)).length : Int) = (1 : Int)))) (pc 0 rfl (pc 4 rfl (pc 5 rfl (pc 27 rfl (pc 28 rfl (pc 29 rfl (pc 30 rfl (pc 31 rfl pn)))))))) (fun J18 => ?_) ?_)
  ·rcases Bool.eq_false_or_eq_true (decide ((i : Int) < ((prop m ds).length : Int))) with g10 | g10
   ·skip
    have g10p := of_decide_eq_true g10
    refine kl_gT rfl rfl g10 (kl_mv rfl (kl_gT rfl rfl g10 (kl_mv rfl (kl_gT rfl rfl g10 (kl_inI rfl rfl (by assumption) (by first | omega | (simp; omega)) (fun p11 a12 => ?_))))))
    refine kl_gT rfl rfl g10 (kl_ld rfl (by assumption) (kl_gT rfl rfl g10 (kl_call rfl rfl (domainValues_ok ((prop m ds).getD i 0)) (fun v13 H14 f15 h16 => ?_))))
    refine kl_gT rfl rfl g10 (kl_len rfl (by assumption) (fun l17 => ?_))
    refine kl_gT rfl rfl g10 (kl_eql rfl rfl ?_)
    refine kl_andT rfl rfl g10 ?_
    exact kl_fg (List.Sublist.refl _) (J18 _ (pc 39 rfl (pc 0 rfl (pc 4 rfl (pc 5 rfl (pc 27 rfl (pc 28 rfl (pc 29 rfl (pc 30 rfl (pc 31 rfl pn))))))))))
   ·skip
    refine kl_gF rfl rfl g10 (kl_gF rfl rfl g10 (kl_gF rfl rfl g10 (kl_gF rfl rfl g10 (kl_gF rfl rfl g10 (kl_gF rfl rfl g10 (kl_gF rfl rfl g10 (kl_andF (decide (((valsI ((prop m ds).getD i 0)).length : Int) = (1 : Int))) rfl rfl g10 ?_)))))))
    exact J18 _ (pc 39 rfl (pc 0 rfl (pc 4 rfl (pc 5 rfl (pc 27 rfl (pc 28 rfl (pc 29 rfl (pc 30 rfl (pc 31 rfl pn)))))))))
  refine kl_nil (kq_code (kc_cond rfl (fun c19 => ?_) (fun c19 => ?_)))
  ·skip
   have c19r := c19
   try simp only [smpC, decide_eq_true_eq, decide_eq_false_iff_not] at c19
   have hgo := br_go c19r
   refine kc_skipQ (kq_code (kc_block (kc_region (kl_mv rfl (kl_inc rfl rfl (by omega) ?_)))))
   refine kl_as rfl (kl_nil (kq_round0 ((i + 1)) (by (have := hgo.1; omega)) (⟨(by have := hgo.1; omega), (by intro j hj; rcases Nat.lt_succ_iff_lt_or_eq.1 hj with h9 | h9; (exact hi7 j h9); (subst h9; have := hgo.2; omega))⟩) (pc 5 rfl pn) (pc 0 rfl (pc 4 rfl pn)) (List.Sublist.refl _)))
  ·skip
   have c19r := c19
   try simp only [smpC, decide_eq_true_eq, decide_eq_false_iff_not] at c19
   have hex := br_exit c19r
   refine kc_exit (kq_code (kc_seq (kc_seq (kc_region (kl_mv rfl (kl_mv rfl (kl_len rfl (by assumption) (fun l20 => ?_))))))))
   refine kl_eql rfl rfl ?_
   refine kl_nil (kq_code (kc_if rfl (fun c21 => ?_) (fun c21 => ?_)))
   ·skip
    refine kc_seq (kc_region (kl_bsI [] rfl rfl rfl (by decide) (fun v22 H23 f24 o25 => ?_)))
    refine kl_as rfl (kl_nil (kq_code (kc_seq (kc_seq (kc_region (kl_as rfl (kl_nil (kq_code (kc_block (kc_loopL (A := Nat × List Int × Value × Hp) (fun zz => (zz.1 ≤ (prop m ds).length) ∧ (zz.2.1 = firstL ((prop m ds).take zz.1)) ∧ OwnL 3 1 zz.2.2.2 noHp IntV zz.2.2.1 zz.2.1 ∧ Fr B zz.2.2.2) (fun zz => (prop m ds).length - zz.1) (fun zz => [zz.2.2.2, sing b (.cells [vmd, vmc, .int .i64 (4096 : Int), .int .i64 (IntKind.wrap .i64 (nd + (1 : Int))), vf].toArray 105 (0, 0)), Hf, Kf]) (fun zz => [(7, .int .i64 (zz.1 : Int)), (6, zz.2.2.1)]) (0, ([]), v22, H23) (pc 0 rfl (pc 4 rfl (pc 5 rfl pn))) (pc 7 rfl (pc 6 rfl pn)) rfl ⟨Nat.zero_le _, rfl, o25, f24⟩ ?_))))))))))
    rintro ⟨j, x, v31, H28⟩ hJ32
    obtain ⟨hk26, hi27, o29, f30⟩ : (j ≤ (prop m ds).length) ∧ (x = firstL ((prop m ds).take j)) ∧ OwnL 3 1 H28 noHp IntV v31 x ∧ Fr B H28 := hJ32
    change KC _ _ (_) [H28, sing b (.cells [vmd, vmc, .int .i64 (4096 : Int), .int .i64 (IntKind.wrap .i64 (nd + (1 : Int))), vf].toArray 105 (0, 0)), Hf, Kf] _ ([(7, .int .i64 (j : Int)), (6, v31)] ++ _)
    refine kc_seq (kc_seq (kc_region (kl_mv rfl (kl_mv rfl (kl_len rfl (by assumption) (fun l33 => ?_))))))
    refine kl_lss rfl rfl ?_
    refine kl_nil (kq_code (kc_if rfl (fun c34 => ?_) (fun c34 => ?_)))
    ·skip
     have hj1 := hi7 j (by omega)
     refine kc_skipQ (kq_code (kc_seq (kc_block (kc_region (kl_mv rfl (kl_mv rfl (kl_mv rfl (kl_inI rfl rfl (by assumption) (by first | omega | (simp; omega)) (fun p35 a36 => ?_)))))))))
     refine kl_ld rfl (by assumption) (kl_call rfl rfl (domainValues_ok ((prop m ds).getD j 0)) (fun v37 H38 f39 h40 => ?_))
     refine kl_inI (i := 0) rfl rfl (by assumption) (by first | omega | (simp; omega)) (fun p41 a42 => ?_)
     refine kl_ld rfl (by assumption) (kl_bs rfl rfl rfl (by decide) (ca rfl ca_nil) (fun v43 H44 f45 r46 s47 => ?_))
     have h48 : Ints H44 v43 [((valsI ((prop m ds).getD j 0)).getD 0 0)] := litInts (xs := [((valsI ((prop m ds).getD j 0)).getD 0 0)]) (by simpa using s47)
     refine kl_apL ((valsI ((prop m ds).getD j 0)).getD 0 0) rfl rfl o29 (by assumption) rfl (oc rfl oc_nil) (by (first | omega | (have h5 := congrArg List.length hi27; simp [firstL] at h5; omega))) (by decide) (fun v49 H50 o51 f52 => ?_)
     have f53 := f52 B f30 (Nat.le_refl _)
     refine kl_as rfl (kl_nil (kq_code (kc_region (kl_mv rfl (kl_inc rfl rfl (by omega) ?_)))))
     refine kl_as rfl (kl_nil (kq_take [H50, sing b (.cells [vmd, vmc, .int .i64 (4096 : Int), .int .i64 (IntKind.wrap .i64 (nd + (1 : Int))), vf].toArray 105 (0, 0)), Hf, Kf] ?_))
     refine kq_roundL ((j + 1), (x ++ [((valsI ((prop m ds).getD j 0)).getD 0 0)]), v49, H50) (by omega) (⟨by omega, (by rw [hi27]; exact firstL_take (by omega)), o51, f53⟩) (pc 7 rfl (pc 6 rfl pn)) (pc 0 rfl (pc 4 rfl (pc 5 rfl pn))) rfl (List.Sublist.refl _)
    ·skip
     refine kc_exit (kq_code (kc_seq (kc_region (kl_mv rfl (kl_mv rfl (kl_nilchk rfl ?_))))))
     refine kl_fdV rfl (kl_ldB rfl rfl (kl_mv rfl (kl_bs rfl rfl rfl (by decide) (ca (by first | exact Sl.cells (by assumption) | exact OwnL.cells (by assumption)) ca_nil) (fun v54 H55 f56 r57 s58 => ?_))))
     have h59 := OwnL.ints o29
     refine kl_cmp Kf H28 (fun c60 => ?_)
     have o61 := OwnL.mono (K' := orHp Kf H28) of orL
     refine kl_apL x rfl rfl o61 (by assumption) ⟨_, rfl, Sl.mono (by assumption) (orC c60) (fun _ _ h => h)⟩ (oc (OwnL.oneCell (by assumption)) oc_nil) (by (first | omega | (have h5 := congrArg List.length hi27; simp [firstL] at h5; omega))) (by decide) (fun v62 H63 o64 f65 => ?_)
     refine kl_nilchk rfl ?_
     refine kl_fdV rfl (kl_stB rfl rfl rfl (OwnL.oneCell (by assumption)) (OwnL.cells (by assumption)) ?_)
     refine kl_chg [H28, sing b (.cells [vmd, vmc, .int .i64 (4096 : Int), .int .i64 (IntKind.wrap .i64 (nd + (1 : Int))), v62].toArray 105 (0, 0)), H63, Kf] rfl ?_
     refine kl_nil (kq_code (kc_ret (kq_mrg Kf H28 ?_)))
     exact kq_retT0 rfl [sing b (.cells [vmd, vmc, .int .i64 (4096 : Int), .int .i64 (IntKind.wrap .i64 (nd + (1 : Int))), v62].toArray 105 (0, 0)), H63, (orHp Kf H28)] [] noHp frn (fr_no _) ⟨rfl, rfl, (IntKind.wrap .i64 (nd + (1 : Int))), v62, H63, (orHp Kf H28), rfl, OwnL.cast (by rw [solT_leaf hM hd hne (by intro j hj; exact hi7 j (by omega)), hi27, List.take_of_length_le (by omega)]) o64, (liq_or lq f30.2)⟩
   ·skip
    have hi0 : i < (prop m ds).length := (by omega)
    have hne1 : (valsI ((prop m ds).getD i 0)).length ≠ 1 := (by rcases hex with h9 | h9 <;> omega)
    refine kc_skipQ (kq_code (kc_seq (kc_region (kl_mv rfl (kl_mv rfl (kl_inI rfl rfl (by assumption) (by first | omega | (simp; omega)) (fun p67 a68 => ?_)))))))
    refine kl_ld rfl (by assumption) (kl_call rfl rfl (domainValues_ok ((prop m ds).getD i 0)) (fun v69 H70 f71 h72 => ?_))
    refine kl_as rfl (kl_nil (kq_code (kc_seq (kc_region (kl_as rfl (kl_nil (kq_code (kc_block (kc_loopL (A := Nat × Int × List (List Int) × Value × Hp × Hp) (fun zz => (zz.1 ≤ (valsI ((prop m ds).getD i 0)).length) ∧ (zz.2.2.1 = found ++ brTo m (prop m ds) i zz.1 ∧ True) ∧ Liq zz.2.2.2.2.2 ∧ OwnL 22 1 zz.2.2.2.2.1 zz.2.2.2.2.2 RowV zz.2.2.2.1 zz.2.2.1) (fun zz => (valsI ((prop m ds).getD i 0)).length - zz.1) (fun zz => [sing b (.cells [vmd, vmc, .int .i64 (4096 : Int), .int .i64 zz.2.1, zz.2.2.2.1].toArray 105 (0, 0)), zz.2.2.2.2.1, zz.2.2.2.2.2]) (fun zz => [(9, .int .i64 (zz.1 : Int))]) (0, (IntKind.wrap .i64 (nd + (1 : Int))), found, vf, Hf, Kf) (pc 0 rfl (pc 4 rfl (pc 5 rfl (pc 8 rfl pn)))) (pc 9 rfl pn) rfl ⟨Nat.zero_le _, ⟨by rw [brTo_0, List.append_nil], trivial⟩, lq, of⟩ ?_)))))))))
    rintro ⟨k, nd1, fnd, v78, H75, K79⟩ hJ81
    obtain ⟨hk73, hi74, l80, o76⟩ : (k ≤ (valsI ((prop m ds).getD i 0)).length) ∧ (fnd = found ++ brTo m (prop m ds) i k ∧ True) ∧ Liq K79 ∧ OwnL 22 1 H75 K79 RowV v78 fnd := hJ81
    change KC _ _ (_) [sing b (.cells [vmd, vmc, .int .i64 (4096 : Int), .int .i64 nd1, v78].toArray 105 (0, 0)), H75, K79] _ ([(9, .int .i64 (k : Int))] ++ _)
    refine kc_seq (kc_seq (kc_draw 16 [true, true, true, true, true, true, true, true, true, true, true, true, true, true, true, true] (by kernel_rfl) (by kernel_rfl) ?_))
    refine kl_mv rfl (kl_mv rfl (kl_len rfl (by assumption) (fun l82 => ?_)))
    refine kl_lss rfl rfl ?_
    refine kl_mv rfl (kl_join 11 93 (.bool (decide ((k : Int) < ((valsI ((prop m ds).getD i 0)).length : Int)) && decide ((fnd.length : Int) < (4096 : Int)))) (pc 0 rfl (pc 4 rfl (pc 5 rfl (pc 8 rfl (pc 9 rfl (pc 78 rfl (pc 79 rfl (pc 80 rfl (pc 81 rfl (pc 82 rfl pn)))))))))) (fun J85 => ?_) ?_)
    ·rcases Bool.eq_false_or_eq_true (decide ((k : Int) < ((valsI ((prop m ds).getD i 0)).length : Int))) with g83 | g83
     ·skip
      have g83p := of_decide_eq_true g83
      refine kl_gT rfl rfl g83 (kl_mv rfl (kl_gT rfl rfl g83 (kl_nilchk rfl ?_)))
      refine kl_gT rfl rfl g83 (kl_fdV rfl (kl_gT rfl rfl g83 (kl_ldB rfl rfl (kl_gT rfl rfl g83 (kl_lenL rfl o76 (fun l84 => ?_))))))
      refine kl_gT rfl rfl g83 (kl_mv rfl (kl_gT rfl rfl g83 (kl_nilchk rfl ?_)))
      refine kl_gT rfl rfl g83 (kl_fdV rfl (kl_gT rfl rfl g83 (kl_ldB rfl rfl (kl_gT rfl rfl g83 (kl_lss rfl rfl ?_)))))
      refine kl_andT rfl rfl g83 ?_
      exact J85 _ (pc 93 rfl (pc 0 rfl (pc 4 rfl (pc 5 rfl (pc 8 rfl (pc 9 rfl (pc 78 rfl (pc 79 rfl (pc 80 rfl (pc 81 rfl (pc 82 rfl pn)))))))))))
     ·skip
      refine kl_gF rfl rfl g83 (kl_gF rfl rfl g83 (kl_gF rfl rfl g83 (kl_gF rfl rfl g83 (kl_gF rfl rfl g83 (kl_gF rfl rfl g83 (kl_gF rfl rfl g83 (kl_gF rfl rfl g83 (kl_gF rfl rfl g83 ?_))))))))
      refine kl_gF rfl rfl g83 (kl_andF (decide ((fnd.length : Int) < (4096 : Int))) rfl rfl g83 ?_)
      exact J85 _ (pc 93 rfl (pc 0 rfl (pc 4 rfl (pc 5 rfl (pc 8 rfl (pc 9 rfl (pc 78 rfl (pc 79 rfl (pc 80 rfl (pc 81 rfl (pc 82 rfl pn)))))))))))
    refine kl_nil (kq_code (kc_cond rfl (fun c86 => ?_) (fun c86 => ?_)))
    ·skip
     have c86r := c86
     try simp only [smpC, decide_eq_true_eq, decide_eq_false_iff_not] at c86
     have hlt := br_lt c86r
     have hv := getD_mem (d := (0 : Int)) hlt.1
     have hvv := valsI_mem hv
     refine kc_skipQ (kq_code (kc_seq (kc_block (kc_seq (kc_region (kl_mv rfl (kl_callL rfl rfl (copyInts_ok (prop m ds) (by omega) (by assumption)) (fun v87 H88 f89 o90 => ?_))))))))
     refine kl_as rfl (kl_nil (kq_code (kc_seq (kc_region (kl_mv rfl (kl_mv rfl (kl_mv rfl (kl_mv rfl (kl_inI rfl rfl (by assumption) (by first | omega | (simp; omega)) (fun p91 a92 => ?_))))))))))
     refine kl_ld rfl (by assumption) (kl_shl rfl rfl (by omega) ?_)
     refine kl_ixLn rfl rfl (by assumption) (by first | omega | (simp; omega)) (fun p93 q94 => ?_)
     refine kl_stL (ishl (1 : Int) ((valsI ((prop m ds).getD i 0)).getD k 0)) rfl rfl (by assumption) o90 (by first | omega | (simp; omega)) rfl rfl rfl (fun H95 o96 f97 => ?_)
     have f98 := f97 _ f89
     refine kl_chg [H95, sing b (.cells [vmd, vmc, .int .i64 (4096 : Int), .int .i64 nd1, v78].toArray 105 (0, 0)), H75, K79] rfl ?_
     refine kl_nil (kq_code (kc_region (kl_mv rfl (kl_mv rfl (kl_callT rfl rfl (ih _ (by rw [← hk]; exact Nat.lt_of_lt_of_le (set_lt hp.ok hi0 hv hne1) (hp.sub.sum hp.ok.d hd.d)) m ((prop m ds).set i (ishl (1 : Int) ((valsI ((prop m ds).getD i 0)).getD k 0))) fnd nd1 hM (set_ok hp.ok (valsI_mem hv)) rfl (by have := brTo_le' (m := m) hi0 hi7 (k + 1); rw [brTo_succ (by omega), List.length_append, hp.sol] at this; rw [hi74.1, List.length_append]; omega) l80 hmd hmc (OwnL.ints o96) o76) (fun v99 L1 Ln K100 h101 g102 g103 => ?_))))))
     obtain ⟨rfl, rfl, n104, v105, H106, K107, rfl, o108, l109⟩ := h101
     refine kl_norm ?_
     refine kl_nil (kq_code (kc_region (kl_mv rfl (kl_inc rfl rfl (by omega) ?_))))
     refine kl_as rfl (kl_nil (kq_take [sing b (.cells [vmd, vmc, .int .i64 (4096 : Int), .int .i64 n104, v105].toArray 105 (0, 0)), H106, K107] ?_))
     refine kq_roundL ((k + 1), n104, (fnd ++ solT m ((prop m ds).set i (ishl (1 : Int) ((valsI ((prop m ds).getD i 0)).getD k 0)))), v105, H106, K107) (by (have := hlt.1; omega)) (⟨(by have := hlt.1; omega), ⟨(by rw [brTo_succ (by omega), hi74.1, List.append_assoc]), trivial⟩, l109, o108⟩) (pc 9 rfl pn) (pc 0 rfl (pc 4 rfl (pc 5 rfl (pc 8 rfl pn)))) rfl (List.Sublist.refl _)
    ·skip
     have c86r := c86
     try simp only [smpC, decide_eq_true_eq, decide_eq_false_iff_not] at c86
     have hbx := brTo_le' (m := m) hi0 hi7 k
     rw [hp.sol] at hbx
     have hfl := congrArg List.length hi74.1
     rw [List.length_append] at hfl
     have hke := br_out (y := 4096) c86r (by omega)
     refine kc_exit ?_
     exact kq_retT0 rfl [sing b (.cells [vmd, vmc, .int .i64 (4096 : Int), .int .i64 nd1, v78].toArray 105 (0, 0)), H75, K79] [] noHp frn (fr_no _) ⟨rfl, rfl, nd1, v78, H75, K79, rfl, OwnL.cast (by rw [hi74.1, brTo_all hi0 hi7 (by omega), hp.sol]) o76, l80⟩
theorem branch_ok (k : Nat) : branchSt k := by
 induction k using Nat.strongRecOn with
 | _ k ih => exact @branch_step k ih
theorem solve_ok {Hmd : Hp} {vmd : Value} {Hmc : Hp} {vmc : Value} (m : Mod) (hM : MOk m) (hmd : Ints Hmd vmd m.doms) (hmc : Cons Hmc vmc m.cons) : Spec Tryz.prog 65 [.agg #[vmd, vmc], .int .i64 (4096 : Int)] [Hmd, Hmc] (fun Hq vq => ∃ (rq : List (List Int)) (z : Int) (uq0 : Value), vq = .tuple #[uq0, .int .i64 z] ∧ Rows Hq uq0 rq ∧ rq = sols m) := by
 refine spec_of Tryz.func65 rfl rfl rfl (fun B => ?_)
 refine kc_seq (kc_region (kl_box rfl rfl (fun p1 H2 f3 a4 => ?_)))
 refine kl_as rfl (kl_as rfl (kl_nil (kq_code (kc_seq (kc_region (kl_ldS rfl (by assumption) rfl ?_))))))
 refine kl_mv rfl (kl_bdA [(0, [vmd, vmc]), (1, [.int .i64 (4096 : Int)])] [vmd, vmc, .int .i64 (4096 : Int), .int .i64 (0 : Int), .slice none 0 0] rfl (cpa rfl (cpa rfl cpa_nil)) rfl ?_)
 refine kl_boxL (cs := [vmd, vmc, .int .i64 (4096 : Int), .int .i64 (0 : Int), .slice none 0 0]) rfl rfl (fun b5 hb6 => ?_)
 refine kl_as rfl (kl_nil (kq_code (kc_seq (kc_region (kl_mv rfl (kl_fd rfl (by assumption) (fun p7 a8 => ?_)))))))
 refine kl_ld rfl (by assumption) (kl_no ?_)
 refine kl_no ?_
 refine kl_callT rfl rfl (branch_ok _ m m.doms [] 0 hM hM.dok rfl (by have := solT_few (m := m) (ds := m.doms) hM.n.2; simp; omega) liq_no (by assumption) (by assumption) (by assumption) (OwnL.nil (K := noHp) (R := RowV))) (fun v9 L1 Ln K10 h11 g12 g13 => ?_)
 obtain ⟨rfl, rfl, n14, v15, H16, K17, rfl, o18, l19⟩ := h11
 refine kl_norm ?_
 refine kl_fr H16 (OwnL.liq o18) (fun f20 => ?_)
 refine kl_fr K17 l19 (fun f21 => ?_)
 refine kl_nil (kq_code (kc_seq (kc_draw 10 [true, true, true, true, true, true, true, true, true, true] (by kernel_rfl) (by kernel_rfl) ?_)))
 refine kl_mv rfl (kl_nilchk rfl ?_)
 refine kl_fdV rfl (kl_ldB rfl rfl (kl_mv rfl (kl_nilchk rfl ?_)))
 refine kl_fdV rfl (kl_ldB rfl rfl (kl_as rfl (kl_as rfl (kl_nil (kq_code (kc_ret (kq_frz H16 ?_)))))))
 refine kq_cmp H16 K17 (fun c22 => ?_)
 exact kq_ret2 rfl rfl rfl (orHp H16 K17) (fr_or f20 f21) ⟨([] ++ solT m m.doms), n14, _, rfl, (OwnL.rowsK o18 c22), by simp [sols]⟩
theorem isSolI_ok {Hmd : Hp} {vmd : Value} {Hmc : Hp} {vmc : Value} {Hx : Hp} {vx : Value} (m : Mod) (x : List Int) (hmd : Ints Hmd vmd m.doms) (hmc : Cons Hmc vmc m.cons) (hx : Ints Hx vx x) : SpecP Tryz.prog 20 [.agg #[vmd, vmc], vx] [Hmd, Hmc, Hx] (.bool (isSolT m x)) := by
 refine spec_of Tryz.func20 rfl rfl rfl (fun B => ?_)
 refine kc_seq (kc_region (kl_box rfl rfl (fun p1 H2 f3 a4 => ?_)))
 refine kl_as rfl (kl_nil (kq_code (kc_seq (kc_region (kl_ldS rfl (by assumption) rfl ?_)))))
 refine kl_callP rfl rfl (validMod_ok m (by assumption) (by assumption)) ?_
 refine kl_mv rfl (kl_join 6 13 (.bool ((validModB m) && (decide ((x.length : Int) = (m.doms.length : Int)) && allInB x 0 5))) (pc 1 rfl (pc 2 rfl (pc 4 rfl (pc 7 rfl pn)))) (fun J9 => ?_) ?_)
 ·rcases Bool.eq_false_or_eq_true (validModB m) with g5 | g5
  ·skip
   have g5p := g5
   try simp only [Bool.not_eq_true', Bool.not_eq_false', decide_eq_true_eq, decide_eq_false_iff_not, Bool.and_eq_true, Bool.or_eq_false_iff, withinB_iff] at g5p
   refine kl_gT rfl rfl g5 (kl_mv rfl (kl_gT rfl rfl g5 (kl_fd rfl (by assumption) (fun p6 a7 => ?_))))
   refine kl_gT rfl rfl g5 (kl_ld rfl (by assumption) (kl_gT rfl rfl g5 (kl_len rfl (by assumption) (fun l8 => ?_))))
   refine kl_gT rfl rfl g5 (kl_callP rfl rfl (assigned_ok x (m.doms.length : Int) (by assumption)) ?_)
   refine kl_andT rfl rfl g5 ?_
   exact J9 _ (pc 13 rfl (pc 1 rfl (pc 2 rfl (pc 4 rfl (pc 7 rfl pn)))))
  ·skip
   refine kl_gF rfl rfl g5 (kl_gF rfl rfl g5 (kl_gF rfl rfl g5 (kl_gF rfl rfl g5 (kl_gF rfl rfl g5 (kl_andF (decide ((x.length : Int) = (m.doms.length : Int)) && allInB x 0 5) rfl rfl g5 ?_)))))
   exact J9 _ (pc 13 rfl (pc 1 rfl (pc 2 rfl (pc 4 rfl (pc 7 rfl pn)))))
 refine kl_mv rfl (kl_join 4 18 (.bool (((validModB m) && (decide ((x.length : Int) = (m.doms.length : Int)) && allInB x 0 5)) && (isSolB m x))) (pc 4 rfl (pc 14 rfl pn)) (fun J11 => ?_) ?_)
 ·rcases Bool.eq_false_or_eq_true ((validModB m) && (decide ((x.length : Int) = (m.doms.length : Int)) && allInB x 0 5)) with g10 | g10
  ·skip
   have g10p := g10
   try simp only [Bool.not_eq_true', Bool.not_eq_false', decide_eq_true_eq, decide_eq_false_iff_not, Bool.and_eq_true, Bool.or_eq_false_iff, withinB_iff] at g10p
   have hM : MOk m := ⟨g10p.1⟩
   have hl : x.length = m.doms.length := (by have := g10p.2.1; omega)
   have hX : Vals x := vals_of g10p.2.2
   refine kl_gT rfl rfl g10 (kl_ldS rfl (by assumption) rfl ?_)
   refine kl_gT rfl rfl g10 (kl_mv rfl (kl_gT rfl rfl g10 (kl_callP rfl rfl (isSol_ok m x hM hl hX (by assumption) (by assumption) (by assumption)) ?_)))
   refine kl_andT rfl rfl g10 ?_
   exact J11 _ (pc 18 rfl (pc 4 rfl (pc 14 rfl pn)))
  ·skip
   refine kl_gF rfl rfl g10 (kl_gF rfl rfl g10 (kl_gF rfl rfl g10 (kl_andF (isSolB m x) rfl rfl g10 ?_)))
   exact J11 _ (pc 18 rfl (pc 4 rfl (pc 14 rfl pn)))
 refine kl_as rfl (kl_nil (kq_code (kc_ret (kq_retP rfl rfl (congrArg Value.bool ?_)))))
 rfl
theorem sisSol_ok {Hmd : Hp} {vmd : Value} {Hmc : Hp} {vmc : Value} {Hx : Hp} {vx : Value} (m : Mod) (x : List Int) (hM : MOk m) (hl : x.length = m.doms.length) (hmd : Ints Hmd vmd m.doms) (hmc : Cons Hmc vmc m.cons) (hx : Ints Hx vx x) : SpecP Tryz.prog 27 [.agg #[vmd, vmc], vx] [Hmd, Hmc, Hx] (.bool (isSolS m x)) := by
 refine spec_of Tryz.func27 rfl rfl rfl (fun B => ?_)
 refine kc_seq (kc_region (kl_box rfl rfl (fun p1 H2 f3 a4 => ?_)))
 refine kl_as rfl (kl_nil (kq_code (kc_seq (kc_seq (kc_region (kl_as rfl (kl_nil (kq_code (kc_block (kc_loop0 (A := Nat) (fun zz => (zz ≤ x.length) ∧ (inSTo m x zz = true)) (fun zz => x.length - zz) (fun zz => [(5, .int .i64 (zz : Int))]) (0) (pc 1 rfl (pc 2 rfl pn)) (pc 5 rfl pn) ⟨Nat.zero_le _, rfl⟩ ?_))))))))))
 rintro k hJ7
 obtain ⟨hk5, hi6⟩ : (k ≤ x.length) ∧ (inSTo m x k = true) := hJ7
 change KC _ _ (_) _ _ ([(5, .int .i64 (k : Int))] ++ _)
 refine kc_seq (kc_seq (kc_region (kl_mv rfl (kl_mv rfl (kl_len rfl (by assumption) (fun l8 => ?_))))))
 refine kl_lss rfl rfl ?_
 refine kl_nil (kq_code (kc_if rfl (fun c9 => ?_) (fun c9 => ?_)))
 ·skip
  refine kc_skipQ (kq_code (kc_seq (kc_block (kc_seq (kc_draw 11 [true, true, true, true, true, true, true, true, true, false, true] (by kernel_rfl) (by kernel_rfl) ?_)))))
  refine kl_fd rfl (by assumption) (fun p10 a11 => ?_)
  refine kl_ld rfl (by assumption) (kl_mv rfl (kl_inI rfl rfl (by assumption) (by omega) (fun p12 a13 => ?_)))
  refine kl_ld rfl (by assumption) (kl_mv rfl (kl_mv rfl (kl_inI rfl rfl (by assumption) (by omega) (fun p14 a15 => ?_))))
  refine kl_ld rfl (by assumption) (kl_callP rfl rfl (domainHas_ok (m.doms.getD k 0) (x.getD k 0)) ?_)
  refine kl_not rfl (kl_nil (kq_code (kc_cond rfl (fun c16 => ?_) (fun c16 => ?_))))
  ·skip
   have c16r := c16
   try simp only [smpC, decide_eq_true_eq, decide_eq_false_iff_not] at c16
   refine kc_seq (kc_region (kl_as rfl (kl_nil (kq_code (kc_ret (kq_retP rfl rfl (congrArg Value.bool ?_)))))))
   exact inS_no (k := k) (by omega) (by assumption)
  ·skip
   have c16r := c16
   try simp only [smpC, decide_eq_true_eq, decide_eq_false_iff_not] at c16
   refine kc_skipQ (kq_code (kc_region (kl_mv rfl (kl_inc rfl rfl (by omega) ?_))))
   refine kl_as rfl (kl_nil (kq_round0 ((k + 1)) (by omega) (⟨by omega, inS_step hi6 (by assumption)⟩) (pc 5 rfl pn) (pc 1 rfl (pc 2 rfl pn)) (List.Sublist.refl _)))
 ·skip
  refine kc_exit (kq_code (kc_seq (kc_seq (kc_region (kl_as rfl (kl_nil (kq_code (kc_block (kc_loop0 (A := Nat) (fun zz => (zz ≤ m.cons.length) ∧ ((m.cons.take zz).all (conAt x) = true)) (fun zz => m.cons.length - zz) (fun zz => [(6, .int .i64 (zz : Int))]) (0) (pc 1 rfl (pc 2 rfl pn)) (pc 6 rfl pn) ⟨Nat.zero_le _, rfl⟩ ?_)))))))))
  rintro k2 hJ19
  obtain ⟨hk17, hi18⟩ : (k2 ≤ m.cons.length) ∧ ((m.cons.take k2).all (conAt x) = true) := hJ19
  change KC _ _ (_) _ _ ([(6, .int .i64 (k2 : Int))] ++ _)
  refine kc_seq (kc_seq (kc_region (kl_mv rfl (kl_fd rfl (by assumption) (fun p20 a21 => ?_)))))
  refine kl_ld rfl (by assumption) (kl_len rfl (by assumption) (fun l22 => ?_))
  refine kl_lss rfl rfl ?_
  refine kl_nil (kq_code (kc_if rfl (fun c23 => ?_) (fun c23 => ?_)))
  ·skip
   have hX := inS_vals hi6 (by omega)
   have hc : ConOk (m.cons.getD k2 nilCon) x.length := (by rw [hl]; exact ⟨hM.c (by omega)⟩)
   have hf := hM.few
   refine kc_skipQ (kq_code (kc_seq (kc_block (kc_seq (kc_draw 14 [true, true, true, true, true, true, true, true, true, true, true, false, false, true] (by kernel_rfl) (by kernel_rfl) ?_)))))
   refine kl_fd rfl (by assumption) (fun p24 a25 => ?_)
   refine kl_ld rfl (by assumption) (kl_mv rfl (kl_inC rfl rfl (by assumption) (by omega) (fun p26 u28 u29 u30 h31 h32 h33 a27 => ?_)))
   refine kl_ldS rfl (by assumption) rfl ?_
   refine kl_fd rfl (by assumption) (fun p34 a35 => ?_)
   refine kl_ld rfl (by assumption) (kl_mv rfl (kl_inC rfl rfl (by assumption) (by omega) (fun p36 u38 u39 u40 h41 h42 h43 a37 => ?_)))
   refine kl_ldS rfl (by assumption) rfl ?_
   refine kl_mv rfl (kl_call rfl rfl (project_ok (m.cons.getD k2 nilCon) x hc.vars (by have := hc.one; omega) (by assumption) (by assumption) (by assumption) (by assumption)) (fun v44 H45 f46 h47 => ?_))
   refine kl_callP rfl rfl (satisfies_ok (m.cons.getD k2 nilCon) (wordL (m.cons.getD k2 nilCon).vars x) (hc.sat rfl hX) (by assumption) (by assumption) (by assumption) (by assumption)) ?_
   refine kl_not rfl (kl_nil (kq_code (kc_cond rfl (fun c48 => ?_) (fun c48 => ?_))))
   ·skip
    have c48r := c48
    try simp only [smpC, decide_eq_true_eq, decide_eq_false_iff_not] at c48
    refine kc_seq (kc_region (kl_as rfl (kl_nil (kq_code (kc_ret (kq_retP rfl rfl (congrArg Value.bool ?_)))))))
    exact met_no (k := k2) (by omega) (by assumption)
   ·skip
    have c48r := c48
    try simp only [smpC, decide_eq_true_eq, decide_eq_false_iff_not] at c48
    refine kc_skipQ (kq_code (kc_region (kl_mv rfl (kl_inc rfl rfl (by omega) ?_))))
    refine kl_as rfl (kl_nil (kq_round0 ((k2 + 1)) (by omega) (⟨by omega, all_take_step (d := nilCon) (by omega) hi18 (by simpa using (by assumption : (!(conAt x (m.cons.getD k2 nilCon))) = false))⟩) (pc 6 rfl pn) (pc 1 rfl (pc 2 rfl pn)) (List.Sublist.refl _)))
  ·skip
   refine kc_exit (kq_code (kc_seq (kc_region (kl_as rfl (kl_nil (kq_code (kc_ret (kq_retP rfl rfl (congrArg Value.bool ?_)))))))))
   exact met_yes hi6 (by omega) hi18 (by omega)
theorem min1_ok {Hx : Hp} {vx : Value} {Hobj : Hp} {vobj : Value} {Hpo : Hp} {ptrpo : Value} (x : List Int) (obj : List Int) (hO : Coef obj) (hX : Vals x) (hl : obj.length = x.length) (h4 : x.length ≤ 4) (hx : Ints Hx vx x) (hobj : Ints Hobj vobj obj) (apo : At Hpo ptrpo [vobj]) : SpecP Tryz.prog 79 [vx, ptrpo] [Hx, Hobj, Hpo] (.int .i64 (dotTo obj x x.length)) := by
 refine spec_of Tryz.func79 rfl rfl rfl (fun B => ?_)
 refine kc_seq (kc_region (kl_as rfl (kl_nil (kq_code (kc_seq (kc_region (kl_ld rfl (by assumption) (kl_mv rfl (kl_callP rfl rfl (weighted_ok obj x hO hX hl h4 (by assumption) (by assumption)) ?_)))))))))
 refine kl_as rfl (kl_nil (kq_code (kc_ret (kq_retP rfl rfl (congrArg (Value.int .i64) ?_)))))
 rfl
theorem minM_ok {Hmd : Hp} {vmd : Value} {Hmc : Hp} {vmc : Value} {Hobj : Hp} {vobj : Value} (m : Mod) (obj : List Int) (hM : MOk m) (ho : obj.length = m.doms.length) (hO : Coef obj) (hmd : Ints Hmd vmd m.doms) (hmc : Cons Hmc vmc m.cons) (hobj : Ints Hobj vobj obj) : Spec Tryz.prog 41 [.agg #[vmd, vmc], vobj] [Hmd, Hmc, Hobj] (fun Hq vq => ∃ uq0 : Value, vq = .tuple #[uq0, .bool ((bestI (fun x => dotTo obj x x.length) (sols m)).2)] ∧ Ints Hq uq0 ((bestI (fun x => dotTo obj x x.length) (sols m)).1)) := by
 have hn := hM.n
 refine spec_of Tryz.func41 rfl rfl rfl (fun B => ?_)
 refine kc_seq (kc_region (kl_box rfl rfl (fun p1 H2 f3 a4 => ?_)))
 refine kl_box rfl (Sl.cells (by assumption)) (fun p5 H6 f7 a8 => ?_)
 refine kl_as rfl (kl_as rfl (kl_nil (kq_code (kc_seq (kc_region (kl_ldS rfl (by assumption) rfl ?_))))))
 refine kl_call rfl rfl (solutions_ok m hM (by assumption) (by assumption)) (fun v9 H10 f11 h12 => ?_)
 refine kl_mkf rfl ?_
 refine kl_call rfl rfl (best_ok (sols m) (fun x12 => dotTo obj x12 x12.length) (sols_ne hM) (fun y hy => by have h5 := sols_len hy; omega) (by assumption) (fun _ ux12 x12 hmx12 hux12 => min1_ok x12 obj hO (sols_vals hmx12) (by rw [sols_len hmx12]; exact ho) (by rw [sols_len hmx12]; omega) hux12 (by assumption) (by assumption))) (fun v14 H15 f16 h17 => ?_)
 obtain ⟨u18, rfl, h19⟩ := h17
 refine kl_xt rfl rfl (kl_xt rfl rfl (kl_as rfl (kl_as rfl (kl_nil (kq_code (kc_ret (kq_ret2 rfl rfl rfl H15 f16 ⟨_, tup2 rfl (congrArg Value.bool (by rfl)), ?_⟩)))))))
 exact (by have e9 : (bestI (fun x => dotTo obj x x.length) (sols m)).1 = ((bestI (fun x12 => dotTo obj x12 x12.length) (sols m)).1) := (by rfl); rw [e9]; assumption)
theorem minI_ok {Hmd : Hp} {vmd : Value} {Hmc : Hp} {vmc : Value} {Hobj : Hp} {vobj : Value} (m : Mod) (obj : List Int) (hmd : Ints Hmd vmd m.doms) (hmc : Cons Hmc vmc m.cons) (hobj : Ints Hobj vobj obj) : Spec Tryz.prog 18 [.agg #[vmd, vmc], vobj] [Hmd, Hmc, Hobj] (fun Hq vq => ∃ uq0 : Value, vq = .tuple #[uq0, .bool ((minI m obj).2)] ∧ Ints Hq uq0 ((minI m obj).1)) := by
 refine spec_of Tryz.func18 rfl rfl rfl (fun B => ?_)
 refine kc_seq (kc_region (kl_box rfl rfl (fun p1 H2 f3 a4 => ?_)))
 refine kl_as rfl (kl_as rfl (kl_nil (kq_code (kc_seq (kc_seq (kc_region (kl_ldS rfl (by assumption) rfl ?_)))))))
 refine kl_mv rfl (kl_callP rfl rfl (objectiveOk_ok m obj (by assumption) (by assumption) (by assumption)) ?_)
 refine kl_not rfl (kl_nil (kq_code (kc_cond rfl (fun c5 => ?_) (fun c5 => ?_))))
 ·skip
  have c5r := c5
  try simp only [smpC, decide_eq_true_eq, decide_eq_false_iff_not] at c5
  refine kc_seq (kc_region (kl_as rfl (kl_as rfl (kl_nil (kq_code (kc_ret (kq_ret2 rfl rfl rfl noHp (fr_no _) ⟨_, tup2 rfl (congrArg Value.bool (by rw [min_no (by assumption)])), ?_⟩)))))))
  exact (by have e9 : (minI m obj).1 = [] := (by rw [min_no (by assumption)]); rw [e9]; exact Sl.nil)
 ·skip
  have c5r := c5
  try simp only [smpC, decide_eq_true_eq, decide_eq_false_iff_not] at c5
  have hob : objOkB m obj = true := (by simpa using c5r)
  have ho := objok hob
  refine kc_skipQ (kq_code (kc_seq (kc_region (kl_ldS rfl (by assumption) rfl ?_))))
  refine kl_mv rfl (kl_call rfl rfl (minM_ok m obj ho.1 ho.2.1 ho.2.2 (by assumption) (by assumption) (by assumption)) (fun v6 H7 f8 h9 => ?_))
  obtain ⟨u10, rfl, h11⟩ := h9
  refine kl_xt rfl rfl (kl_xt rfl rfl (kl_as rfl (kl_as rfl (kl_nil (kq_code (kc_ret (kq_ret2 rfl rfl rfl H7 f8 ⟨_, tup2 rfl (congrArg Value.bool (by rw [min_yes hob])), ?_⟩)))))))
  exact (by have e9 : (minI m obj).1 = ((bestI (fun x => dotTo obj x x.length) (sols m)).1) := (by rw [min_yes hob]); rw [e9]; assumption)
theorem objValI_ok {Hobj : Hp} {vobj : Value} {Hx : Hp} {vx : Value} (obj : List Int) (x : List Int) (hobj : Ints Hobj vobj obj) (hx : Ints Hx vx x) : SpecP Tryz.prog 19 [vobj, vx] [Hobj, Hx] (.int .i64 (objVal obj x)) := by
 refine spec_of Tryz.func19 rfl rfl rfl (fun B => ?_)
 refine kc_seq (kc_region (kl_as rfl (kl_nil (kq_code (kc_seq (kc_seq (kc_region (kl_mv rfl (kl_len rfl (by assumption) (fun l1 => ?_))))))))))
 refine kl_mv rfl (kl_len rfl (by assumption) (fun l2 => ?_))
 refine kl_neq rfl rfl ?_
 refine kl_mv rfl (kl_join 4 14 (.bool (decide ((obj.length : Int) ≠ (x.length : Int)) || decide ((4 : Int) < (obj.length : Int)))) (pc 0 rfl (pc 1 rfl (pc 4 rfl (pc 10 rfl pn)))) (fun J5 => ?_) ?_)
 ·rcases Bool.eq_false_or_eq_true (decide ((obj.length : Int) ≠ (x.length : Int))) with g3 | g3
  ·skip
   refine kl_gF rfl rfl g3 (kl_gF rfl rfl g3 (kl_gF rfl rfl g3 (kl_orT (decide ((4 : Int) < (obj.length : Int))) rfl rfl g3 ?_)))
   exact J5 _ (pc 14 rfl (pc 0 rfl (pc 1 rfl (pc 4 rfl (pc 10 rfl pn)))))
  ·skip
   have g3p := of_decide_eq_false g3
   refine kl_gT rfl rfl g3 (kl_mv rfl (kl_gT rfl rfl g3 (kl_len rfl (by assumption) (fun l4 => ?_))))
   refine kl_gT rfl rfl g3 (kl_gtr rfl rfl ?_)
   refine kl_orF rfl rfl g3 ?_
   exact J5 _ (pc 14 rfl (pc 0 rfl (pc 1 rfl (pc 4 rfl (pc 10 rfl pn)))))
 refine kl_mv rfl (kl_join 4 19 (.bool ((decide ((obj.length : Int) ≠ (x.length : Int)) || decide ((4 : Int) < (obj.length : Int))) || !(allInB obj (-9 : Int) (9 : Int)))) (pc 0 rfl (pc 1 rfl (pc 4 rfl (pc 15 rfl pn)))) (fun J7 => ?_) ?_)
 ·rcases Bool.eq_false_or_eq_true (decide ((obj.length : Int) ≠ (x.length : Int)) || decide ((4 : Int) < (obj.length : Int))) with g6 | g6
  ·skip
   refine kl_gF rfl rfl g6 (kl_gF rfl rfl g6 (kl_gF rfl rfl g6 (kl_orT (!(allInB obj (-9 : Int) (9 : Int))) rfl rfl g6 ?_)))
   exact J7 _ (pc 19 rfl (pc 0 rfl (pc 1 rfl (pc 4 rfl (pc 15 rfl pn)))))
  ·skip
   have g6p := g6
   try simp only [Bool.not_eq_true', Bool.not_eq_false', decide_eq_true_eq, decide_eq_false_iff_not, Bool.and_eq_true, Bool.or_eq_false_iff, withinB_iff] at g6p
   refine kl_gT rfl rfl g6 (kl_mv rfl (kl_gT rfl rfl g6 (kl_callP rfl rfl (allIn_ok obj (-9 : Int) (9 : Int) (by assumption)) ?_)))
   refine kl_gT rfl rfl g6 (kl_not rfl (kl_orF rfl rfl g6 ?_))
   exact J7 _ (pc 19 rfl (pc 0 rfl (pc 1 rfl (pc 4 rfl (pc 15 rfl pn)))))
 refine kl_mv rfl (kl_join 4 24 (.bool (((decide ((obj.length : Int) ≠ (x.length : Int)) || decide ((4 : Int) < (obj.length : Int))) || !(allInB obj (-9 : Int) (9 : Int))) || !(allInB x (0 : Int) (5 : Int)))) (pc 0 rfl (pc 1 rfl (pc 4 rfl (pc 20 rfl pn)))) (fun J9 => ?_) ?_)
 ·rcases Bool.eq_false_or_eq_true ((decide ((obj.length : Int) ≠ (x.length : Int)) || decide ((4 : Int) < (obj.length : Int))) || !(allInB obj (-9 : Int) (9 : Int))) with g8 | g8
  ·skip
   refine kl_gF rfl rfl g8 (kl_gF rfl rfl g8 (kl_gF rfl rfl g8 (kl_orT (!(allInB x (0 : Int) (5 : Int))) rfl rfl g8 ?_)))
   exact J9 _ (pc 24 rfl (pc 0 rfl (pc 1 rfl (pc 4 rfl (pc 20 rfl pn)))))
  ·skip
   have g8p := g8
   try simp only [Bool.not_eq_true', Bool.not_eq_false', decide_eq_true_eq, decide_eq_false_iff_not, Bool.and_eq_true, Bool.or_eq_false_iff, withinB_iff] at g8p
   refine kl_gT rfl rfl g8 (kl_mv rfl (kl_gT rfl rfl g8 (kl_callP rfl rfl (allIn_ok x (0 : Int) (5 : Int) (by assumption)) ?_)))
   refine kl_gT rfl rfl g8 (kl_not rfl (kl_orF rfl rfl g8 ?_))
   exact J9 _ (pc 24 rfl (pc 0 rfl (pc 1 rfl (pc 4 rfl (pc 20 rfl pn)))))
 refine kl_nil (kq_code (kc_cond rfl (fun c10 => ?_) (fun c10 => ?_)))
 ·skip
  have c10r := c10
  try simp only [smpC, decide_eq_true_eq, decide_eq_false_iff_not] at c10
  refine kc_seq (kc_region (kl_as rfl (kl_nil (kq_code (kc_ret (kq_retP rfl rfl (congrArg (Value.int .i64) ?_)))))))
  exact objVal_0 (by assumption)
 ·skip
  have c10r := c10
  try simp only [smpC, decide_eq_true_eq, decide_eq_false_iff_not] at c10
  have hov := objVal_ok c10r
  refine kc_skipQ (kq_code (kc_seq (kc_region (kl_mv rfl (kl_mv rfl (kl_callP rfl rfl (weighted_ok obj x hov.1 hov.2.1 hov.2.2.1.symm hov.2.2.2 (by assumption) (by assumption)) ?_))))))
  refine kl_as rfl (kl_nil (kq_code (kc_ret (kq_retP rfl rfl (congrArg (Value.int .i64) ?_)))))
  exact objVal_1 (by assumption)
abbrev branchWSt (k : Nat) : Prop := ∀ {b : Nat} {Hmd Hmc Hds Hf Kf : Hp} {vmd vmc vds vf : Value} (m : Mod) (ds : List Int) (found : List (List Int)) (nd : Int) (hM : MOk m) (hd : DOk m.doms.length ds) (hk : sumN ds = k) (hroom : found.length < 8) (hrows : ∀ x ∈ found, x.length = m.doms.length) (lq : Liq Kf)
  (hmd : Ints Hmd vmd m.doms) (hmc : Cons Hmc vmc m.cons) (hds : Ints Hds vds ds) (of : OwnL 22 1 Hf Kf RowV vf found),
  SpecT Tryz.prog 105 [.pointer (some ⟨b, 0, none⟩), vds] [sing b (.cells [vmd, vmc, .int .i64 8, .int .i64 nd, vf].toArray 105 (0, 0)), Hf, Kf] [Hmd, Hmc, Hds] (fun vq L1 Ln _ => vq = .tuple #[] ∧ Ln = [] ∧ ∃ (nd2 : Int) (vf2 : Value) (Hf2 Kf2 : Hp) (fq : List (List Int)), L1 = [sing b (.cells [vmd, vmc, .int .i64 8, .int .i64 nd2, vf2].toArray 105 (0, 0)), Hf2, Kf2] ∧ OwnL 22 1 Hf2 Kf2 RowV vf2 fq ∧ Liq Kf2 ∧ fq.length ≤ 8 ∧ ∀ x ∈ fq, x.length = m.doms.length)
theorem branchW_step (k : Nat) (ih : ∀ j, j < k → branchWSt j) : branchWSt k := by
 intro b Hmd Hmc Hds Hf Kf vmd vmc vds vf m ds found nd hM hd hk hroom hrows lq hmd hmc hds of
 have hn := hM.n
 have hp := propOk hM hd
 have hpl := hp.ok.l
 refine specT_of Tryz.func105 rfl rfl rfl (fun B => ?_)
 refine kc_seq (kc_region (kl_mv rfl (kl_mv rfl (kl_nilchk rfl ?_))))
 refine kl_fdV rfl (kl_ldB rfl rfl (kl_addK (κ := .i64) rfl rfl ?_))
 refine kl_nilchk rfl ?_
 refine kl_fdV rfl (kl_stB rfl rfl rfl rfl rfl ?_)
 refine kl_chg [sing b (.cells [vmd, vmc, .int .i64 (8 : Int), .int .i64 (IntKind.wrap .i64 (nd + (1 : Int))), vf].toArray 105 (0, 0)), Hf, Kf] rfl ?_
 refine kl_nil (kq_code (kc_seq (kc_region (kl_mv rfl (kl_nilchk rfl ?_)))))
 refine kl_fdV rfl (kl_ldSL rfl (At.take 2 (at_box (T := 105) (cs := [vmd, vmc, .int .i64 (8 : Int), .int .i64 (IntKind.wrap .i64 (nd + (1 : Int))), vf]) (off := 0) (fz := (0, 0)))) rfl ?_)
 refine kl_mv rfl (kl_call rfl rfl (fixS_ok m ds hM hd (by assumption) (by assumption) (by assumption)) (fun v1 H2 f3 h4 => ?_))
 refine kl_as rfl (kl_nil (kq_code (kc_seq (kc_seq (kc_region (kl_mv rfl (kl_callP rfl rfl (hasEmpty_ok (prop m ds) (by assumption)) ?_)))))))
 refine kl_nil (kq_code (kc_cond rfl (fun c5 => ?_) (fun c5 => ?_)))
 ·skip
  have c5r := c5
  try simp only [smpC, decide_eq_true_eq, decide_eq_false_iff_not] at c5
  refine kc_ret ?_
  exact kq_retT0 rfl [sing b (.cells [vmd, vmc, .int .i64 (8 : Int), .int .i64 (IntKind.wrap .i64 (nd + (1 : Int))), vf].toArray 105 (0, 0)), Hf, Kf] [] noHp frn (fr_no _) ⟨rfl, rfl, (IntKind.wrap .i64 (nd + (1 : Int))), vf, Hf, Kf, _, rfl, of, lq, ⟨by omega, hrows⟩⟩
 ·skip
  have c5r := c5
  try simp only [smpC, decide_eq_true_eq, decide_eq_false_iff_not] at c5
  have hne : (prop m ds).contains 0 = false := (by simpa using c5r)
  refine kc_skipQ (kq_code (kc_seq (kc_region (kl_as rfl (kl_nil (kq_code (kc_seq (kc_block (kc_loop0 (A := Nat) (fun zz => (zz ≤ (prop m ds).length) ∧ (∀ j, j < zz → (valsI ((prop m ds).getD j 0)).length = 1)) (fun zz => (prop m ds).length - zz) (fun zz => [(5, .int .i64 (zz : Int))]) (0) (pc 0 rfl (pc 4 rfl pn)) (pc 5 rfl pn) ⟨Nat.zero_le _, (fun _ h => absurd h (Nat.not_lt_zero _))⟩ ?_)))))))))
  rintro i hJ8
  obtain ⟨hk6, hi7⟩ : (i ≤ (prop m ds).length) ∧ (∀ j, j < i → (valsI ((prop m ds).getD j 0)).length = 1) := hJ8
  change KC _ _ (_) _ _ ([(5, .int .i64 (i : Int))] ++ _)
  refine kc_seq (kc_seq (kc_region (kl_mv rfl (kl_mv rfl (kl_len rfl (by assumption) (fun l9 => ?_))))))
  refine kl_lss rfl rfl ?_
  refine kl_mv rfl (kl_join 8 39 (.bool (decide ((i : Int) < ((prop m ds).length : Int)) && decide (((valsI ((prop m ds).getD i 0)).length : Int) = (1 : Int)))) (pc 0 rfl (pc 4 rfl (pc 5 rfl (pc 27 rfl (pc 28 rfl (pc 29 rfl (pc 30 rfl (pc 31 rfl pn)))))))) (fun J18 => ?_) ?_)
  ·rcases Bool.eq_false_or_eq_true (decide ((i : Int) < ((prop m ds).length : Int))) with g10 | g10
   ·skip
    have g10p := of_decide_eq_true g10
    refine kl_gT rfl rfl g10 (kl_mv rfl (kl_gT rfl rfl g10 (kl_mv rfl (kl_gT rfl rfl g10 (kl_inI rfl rfl (by assumption) (by first | omega | (simp; omega)) (fun p11 a12 => ?_))))))
    refine kl_gT rfl rfl g10 (kl_ld rfl (by assumption) (kl_gT rfl rfl g10 (kl_call rfl rfl (domainValues_ok ((prop m ds).getD i 0)) (fun v13 H14 f15 h16 => ?_))))
    refine kl_gT rfl rfl g10 (kl_len rfl (by assumption) (fun l17 => ?_))
    refine kl_gT rfl rfl g10 (kl_eql rfl rfl ?_)
    refine kl_andT rfl rfl g10 ?_
    exact kl_fg (List.Sublist.refl _) (J18 _ (pc 39 rfl (pc 0 rfl (pc 4 rfl (pc 5 rfl (pc 27 rfl (pc 28 rfl (pc 29 rfl (pc 30 rfl (pc 31 rfl pn))))))))))
   ·skip
    refine kl_gF rfl rfl g10 (kl_gF rfl rfl g10 (kl_gF rfl rfl g10 (kl_gF rfl rfl g10 (kl_gF rfl rfl g10 (kl_gF rfl rfl g10 (kl_gF rfl rfl g10 (kl_andF (decide (((valsI ((prop m ds).getD i 0)).length : Int) = (1 : Int))) rfl rfl g10 ?_)))))))
    exact J18 _ (pc 39 rfl (pc 0 rfl (pc 4 rfl (pc 5 rfl (pc 27 rfl (pc 28 rfl (pc 29 rfl (pc 30 rfl (pc 31 rfl pn)))))))))
  refine kl_nil (kq_code (kc_cond rfl (fun c19 => ?_) (fun c19 => ?_)))
  ·skip
   have c19r := c19
   try simp only [smpC, decide_eq_true_eq, decide_eq_false_iff_not] at c19
   have hgo := br_go c19r
   refine kc_skipQ (kq_code (kc_block (kc_region (kl_mv rfl (kl_inc rfl rfl (by omega) ?_)))))
   refine kl_as rfl (kl_nil (kq_round0 ((i + 1)) (by (have := hgo.1; omega)) (⟨(by have := hgo.1; omega), (by intro j hj; rcases Nat.lt_succ_iff_lt_or_eq.1 hj with h9 | h9; (exact hi7 j h9); (subst h9; have := hgo.2; omega))⟩) (pc 5 rfl pn) (pc 0 rfl (pc 4 rfl pn)) (List.Sublist.refl _)))
  ·skip
   have c19r := c19
   try simp only [smpC, decide_eq_true_eq, decide_eq_false_iff_not] at c19
   have hex := br_exit c19r
   refine kc_exit (kq_code (kc_seq (kc_seq (kc_region (kl_mv rfl (kl_mv rfl (kl_len rfl (by assumption) (fun l20 => ?_))))))))
   refine kl_eql rfl rfl ?_
   refine kl_nil (kq_code (kc_if rfl (fun c21 => ?_) (fun c21 => ?_)))
   ·skip
    refine kc_seq (kc_region (kl_bsI [] rfl rfl rfl (by decide) (fun v22 H23 f24 o25 => ?_)))
    refine kl_as rfl (kl_nil (kq_code (kc_seq (kc_seq (kc_region (kl_as rfl (kl_nil (kq_code (kc_block (kc_loopL (A := Nat × List Int × Value × Hp) (fun zz => (zz.1 ≤ (prop m ds).length) ∧ (zz.2.1 = firstL ((prop m ds).take zz.1)) ∧ OwnL 3 1 zz.2.2.2 noHp IntV zz.2.2.1 zz.2.1 ∧ Fr B zz.2.2.2) (fun zz => (prop m ds).length - zz.1) (fun zz => [zz.2.2.2, sing b (.cells [vmd, vmc, .int .i64 (8 : Int), .int .i64 (IntKind.wrap .i64 (nd + (1 : Int))), vf].toArray 105 (0, 0)), Hf, Kf]) (fun zz => [(7, .int .i64 (zz.1 : Int)), (6, zz.2.2.1)]) (0, ([]), v22, H23) (pc 0 rfl (pc 4 rfl (pc 5 rfl pn))) (pc 7 rfl (pc 6 rfl pn)) rfl ⟨Nat.zero_le _, rfl, o25, f24⟩ ?_))))))))))
    rintro ⟨j, x, v31, H28⟩ hJ32
    obtain ⟨hk26, hi27, o29, f30⟩ : (j ≤ (prop m ds).length) ∧ (x = firstL ((prop m ds).take j)) ∧ OwnL 3 1 H28 noHp IntV v31 x ∧ Fr B H28 := hJ32
    change KC _ _ (_) [H28, sing b (.cells [vmd, vmc, .int .i64 (8 : Int), .int .i64 (IntKind.wrap .i64 (nd + (1 : Int))), vf].toArray 105 (0, 0)), Hf, Kf] _ ([(7, .int .i64 (j : Int)), (6, v31)] ++ _)
    refine kc_seq (kc_seq (kc_region (kl_mv rfl (kl_mv rfl (kl_len rfl (by assumption) (fun l33 => ?_))))))
    refine kl_lss rfl rfl ?_
    refine kl_nil (kq_code (kc_if rfl (fun c34 => ?_) (fun c34 => ?_)))
    ·skip
     have hj1 := hi7 j (by omega)
     refine kc_skipQ (kq_code (kc_seq (kc_block (kc_region (kl_mv rfl (kl_mv rfl (kl_mv rfl (kl_inI rfl rfl (by assumption) (by first | omega | (simp; omega)) (fun p35 a36 => ?_)))))))))
     refine kl_ld rfl (by assumption) (kl_call rfl rfl (domainValues_ok ((prop m ds).getD j 0)) (fun v37 H38 f39 h40 => ?_))
     refine kl_inI (i := 0) rfl rfl (by assumption) (by first | omega | (simp; omega)) (fun p41 a42 => ?_)
     refine kl_ld rfl (by assumption) (kl_bs rfl rfl rfl (by decide) (ca rfl ca_nil) (fun v43 H44 f45 r46 s47 => ?_))
     have h48 : Ints H44 v43 [((valsI ((prop m ds).getD j 0)).getD 0 0)] := litInts (xs := [((valsI ((prop m ds).getD j 0)).getD 0 0)]) (by simpa using s47)
     refine kl_apL ((valsI ((prop m ds).getD j 0)).getD 0 0) rfl rfl o29 (by assumption) rfl (oc rfl oc_nil) (by (first | omega | (have h5 := congrArg List.length hi27; simp [firstL] at h5; omega))) (by decide) (fun v49 H50 o51 f52 => ?_)
     have f53 := f52 B f30 (Nat.le_refl _)
     refine kl_as rfl (kl_nil (kq_code (kc_region (kl_mv rfl (kl_inc rfl rfl (by omega) ?_)))))
     refine kl_as rfl (kl_nil (kq_take [H50, sing b (.cells [vmd, vmc, .int .i64 (8 : Int), .int .i64 (IntKind.wrap .i64 (nd + (1 : Int))), vf].toArray 105 (0, 0)), Hf, Kf] ?_))
     refine kq_roundL ((j + 1), (x ++ [((valsI ((prop m ds).getD j 0)).getD 0 0)]), v49, H50) (by omega) (⟨by omega, (by rw [hi27]; exact firstL_take (by omega)), o51, f53⟩) (pc 7 rfl (pc 6 rfl pn)) (pc 0 rfl (pc 4 rfl (pc 5 rfl pn))) rfl (List.Sublist.refl _)
    ·skip
     refine kc_exit (kq_code (kc_seq (kc_region (kl_mv rfl (kl_mv rfl (kl_nilchk rfl ?_))))))
     refine kl_fdV rfl (kl_ldB rfl rfl (kl_mv rfl (kl_bs rfl rfl rfl (by decide) (ca (by first | exact Sl.cells (by assumption) | exact OwnL.cells (by assumption)) ca_nil) (fun v54 H55 f56 r57 s58 => ?_))))
     have h59 := OwnL.ints o29
     refine kl_cmp Kf H28 (fun c60 => ?_)
     have o61 := OwnL.mono (K' := orHp Kf H28) of orL
     refine kl_apL x rfl rfl o61 (by assumption) ⟨_, rfl, Sl.mono (by assumption) (orC c60) (fun _ _ h => h)⟩ (oc (OwnL.oneCell (by assumption)) oc_nil) (by (first | omega | (have h5 := congrArg List.length hi27; simp [firstL] at h5; omega))) (by decide) (fun v62 H63 o64 f65 => ?_)
     refine kl_nilchk rfl ?_
     refine kl_fdV rfl (kl_stB rfl rfl rfl (OwnL.oneCell (by assumption)) (OwnL.cells (by assumption)) ?_)
     refine kl_chg [H28, sing b (.cells [vmd, vmc, .int .i64 (8 : Int), .int .i64 (IntKind.wrap .i64 (nd + (1 : Int))), v62].toArray 105 (0, 0)), H63, Kf] rfl ?_
     refine kl_nil (kq_code (kc_ret (kq_mrg Kf H28 ?_)))
     exact kq_retT0 rfl [sing b (.cells [vmd, vmc, .int .i64 (8 : Int), .int .i64 (IntKind.wrap .i64 (nd + (1 : Int))), v62].toArray 105 (0, 0)), H63, (orHp Kf H28)] [] noHp frn (fr_no _) ⟨rfl, rfl, (IntKind.wrap .i64 (nd + (1 : Int))), v62, H63, (orHp Kf H28), _, rfl, o64, (liq_or lq f30.2), ⟨by simp; omega, all_snoc hrows (by have h5 := congrArg List.length hi27; simp [firstL] at h5; omega)⟩⟩
   ·skip
    have hi0 : i < (prop m ds).length := (by omega)
    have hne1 : (valsI ((prop m ds).getD i 0)).length ≠ 1 := (by rcases hex with h9 | h9 <;> omega)
    refine kc_skipQ (kq_code (kc_seq (kc_region (kl_mv rfl (kl_mv rfl (kl_inI rfl rfl (by assumption) (by first | omega | (simp; omega)) (fun p67 a68 => ?_)))))))
    refine kl_ld rfl (by assumption) (kl_call rfl rfl (domainValues_ok ((prop m ds).getD i 0)) (fun v69 H70 f71 h72 => ?_))
    refine kl_as rfl (kl_nil (kq_code (kc_seq (kc_region (kl_as rfl (kl_nil (kq_code (kc_block (kc_loopL (A := Nat × Int × List (List Int) × Value × Hp × Hp) (fun zz => (zz.1 ≤ (valsI ((prop m ds).getD i 0)).length) ∧ (zz.2.2.1.length ≤ 8 ∧ ∀ x ∈ zz.2.2.1, x.length = m.doms.length) ∧ Liq zz.2.2.2.2.2 ∧ OwnL 22 1 zz.2.2.2.2.1 zz.2.2.2.2.2 RowV zz.2.2.2.1 zz.2.2.1) (fun zz => (valsI ((prop m ds).getD i 0)).length - zz.1) (fun zz => [sing b (.cells [vmd, vmc, .int .i64 (8 : Int), .int .i64 zz.2.1, zz.2.2.2.1].toArray 105 (0, 0)), zz.2.2.2.2.1, zz.2.2.2.2.2]) (fun zz => [(9, .int .i64 (zz.1 : Int))]) (0, (IntKind.wrap .i64 (nd + (1 : Int))), found, vf, Hf, Kf) (pc 0 rfl (pc 4 rfl (pc 5 rfl (pc 8 rfl pn)))) (pc 9 rfl pn) rfl ⟨Nat.zero_le _, ⟨Nat.le_of_lt hroom, hrows⟩, lq, of⟩ ?_)))))))))
    rintro ⟨k, nd1, fnd, v78, H75, K79⟩ hJ81
    obtain ⟨hk73, hi74, l80, o76⟩ : (k ≤ (valsI ((prop m ds).getD i 0)).length) ∧ (fnd.length ≤ 8 ∧ ∀ x ∈ fnd, x.length = m.doms.length) ∧ Liq K79 ∧ OwnL 22 1 H75 K79 RowV v78 fnd := hJ81
    change KC _ _ (_) [sing b (.cells [vmd, vmc, .int .i64 (8 : Int), .int .i64 nd1, v78].toArray 105 (0, 0)), H75, K79] _ ([(9, .int .i64 (k : Int))] ++ _)
    refine kc_seq (kc_seq (kc_draw 16 [true, true, true, true, true, true, true, true, true, true, true, true, true, true, true, true] (by kernel_rfl) (by kernel_rfl) ?_))
    refine kl_mv rfl (kl_mv rfl (kl_len rfl (by assumption) (fun l82 => ?_)))
    refine kl_lss rfl rfl ?_
    refine kl_mv rfl (kl_join 11 93 (.bool (decide ((k : Int) < ((valsI ((prop m ds).getD i 0)).length : Int)) && decide ((fnd.length : Int) < (8 : Int)))) (pc 0 rfl (pc 4 rfl (pc 5 rfl (pc 8 rfl (pc 9 rfl (pc 78 rfl (pc 79 rfl (pc 80 rfl (pc 81 rfl (pc 82 rfl pn)))))))))) (fun J85 => ?_) ?_)
    ·rcases Bool.eq_false_or_eq_true (decide ((k : Int) < ((valsI ((prop m ds).getD i 0)).length : Int))) with g83 | g83
     ·skip
      have g83p := of_decide_eq_true g83
      refine kl_gT rfl rfl g83 (kl_mv rfl (kl_gT rfl rfl g83 (kl_nilchk rfl ?_)))
      refine kl_gT rfl rfl g83 (kl_fdV rfl (kl_gT rfl rfl g83 (kl_ldB rfl rfl (kl_gT rfl rfl g83 (kl_lenL rfl o76 (fun l84 => ?_))))))
      refine kl_gT rfl rfl g83 (kl_mv rfl (kl_gT rfl rfl g83 (kl_nilchk rfl ?_)))
      refine kl_gT rfl rfl g83 (kl_fdV rfl (kl_gT rfl rfl g83 (kl_ldB rfl rfl (kl_gT rfl rfl g83 (kl_lss rfl rfl ?_)))))
      refine kl_andT rfl rfl g83 ?_
      exact J85 _ (pc 93 rfl (pc 0 rfl (pc 4 rfl (pc 5 rfl (pc 8 rfl (pc 9 rfl (pc 78 rfl (pc 79 rfl (pc 80 rfl (pc 81 rfl (pc 82 rfl pn)))))))))))
     ·skip
      refine kl_gF rfl rfl g83 (kl_gF rfl rfl g83 (kl_gF rfl rfl g83 (kl_gF rfl rfl g83 (kl_gF rfl rfl g83 (kl_gF rfl rfl g83 (kl_gF rfl rfl g83 (kl_gF rfl rfl g83 (kl_gF rfl rfl g83 ?_))))))))
      refine kl_gF rfl rfl g83 (kl_andF (decide ((fnd.length : Int) < (8 : Int))) rfl rfl g83 ?_)
      exact J85 _ (pc 93 rfl (pc 0 rfl (pc 4 rfl (pc 5 rfl (pc 8 rfl (pc 9 rfl (pc 78 rfl (pc 79 rfl (pc 80 rfl (pc 81 rfl (pc 82 rfl pn)))))))))))
    refine kl_nil (kq_code (kc_cond rfl (fun c86 => ?_) (fun c86 => ?_)))
    ·skip
     have c86r := c86
     try simp only [smpC, decide_eq_true_eq, decide_eq_false_iff_not] at c86
     have hlt := br_lt (y := 8) c86r
     have hv := getD_mem (d := (0 : Int)) hlt.1
     have hvv := valsI_mem hv
     refine kc_skipQ (kq_code (kc_seq (kc_block (kc_seq (kc_region (kl_mv rfl (kl_callL rfl rfl (copyInts_ok (prop m ds) (by omega) (by assumption)) (fun v87 H88 f89 o90 => ?_))))))))
     refine kl_as rfl (kl_nil (kq_code (kc_seq (kc_region (kl_mv rfl (kl_mv rfl (kl_mv rfl (kl_mv rfl (kl_inI rfl rfl (by assumption) (by first | omega | (simp; omega)) (fun p91 a92 => ?_))))))))))
     refine kl_ld rfl (by assumption) (kl_shl rfl rfl (by omega) ?_)
     refine kl_ixLn rfl rfl (by assumption) (by first | omega | (simp; omega)) (fun p93 q94 => ?_)
     refine kl_stL (ishl (1 : Int) ((valsI ((prop m ds).getD i 0)).getD k 0)) rfl rfl (by assumption) o90 (by first | omega | (simp; omega)) rfl rfl rfl (fun H95 o96 f97 => ?_)
     have f98 := f97 _ f89
     refine kl_chg [H95, sing b (.cells [vmd, vmc, .int .i64 (8 : Int), .int .i64 nd1, v78].toArray 105 (0, 0)), H75, K79] rfl ?_
     refine kl_nil (kq_code (kc_region (kl_mv rfl (kl_mv rfl (kl_callT rfl rfl (ih _ (by rw [← hk]; exact Nat.lt_of_lt_of_le (set_lt hp.ok hi0 hv hne1) (hp.sub.sum hp.ok.d hd.d)) m ((prop m ds).set i (ishl (1 : Int) ((valsI ((prop m ds).getD i 0)).getD k 0))) fnd nd1 hM (set_ok hp.ok (valsI_mem hv)) rfl (by have h7 := hlt.2; omega) hi74.2 l80 hmd hmc (OwnL.ints o96) o76) (fun v99 L1 Ln K100 h101 g102 g103 => ?_))))))
     obtain ⟨rfl, rfl, n104, v105, H106, K107, z110, rfl, o108, l109, h111, h112⟩ := h101
     refine kl_norm ?_
     refine kl_nil (kq_code (kc_region (kl_mv rfl (kl_inc rfl rfl (by omega) ?_))))
     refine kl_as rfl (kl_nil (kq_take [sing b (.cells [vmd, vmc, .int .i64 (8 : Int), .int .i64 n104, v105].toArray 105 (0, 0)), H106, K107] ?_))
     refine kq_roundL ((k + 1), n104, z110, v105, H106, K107) (by (have := hlt.1; omega)) (⟨(by have := hlt.1; omega), ⟨by assumption, by assumption⟩, l109, o108⟩) (pc 9 rfl pn) (pc 0 rfl (pc 4 rfl (pc 5 rfl (pc 8 rfl pn)))) rfl (List.Sublist.refl _)
    ·skip
     have c86r := c86
     try simp only [smpC, decide_eq_true_eq, decide_eq_false_iff_not] at c86
     refine kc_exit ?_
     exact kq_retT0 rfl [sing b (.cells [vmd, vmc, .int .i64 (8 : Int), .int .i64 nd1, v78].toArray 105 (0, 0)), H75, K79] [] noHp frn (fr_no _) ⟨rfl, rfl, nd1, v78, H75, K79, _, rfl, o76, l80, hi74⟩
theorem branchW_ok (k : Nat) : branchWSt k := by
 induction k using Nat.strongRecOn with
 | _ k ih => exact @branchW_step k ih
theorem solveW_ok {Hmd : Hp} {vmd : Value} {Hmc : Hp} {vmc : Value} (m : Mod) (hM : MOk m) (hmd : Ints Hmd vmd m.doms) (hmc : Cons Hmc vmc m.cons) : Spec Tryz.prog 65 [.agg #[vmd, vmc], .int .i64 (8 : Int)] [Hmd, Hmc] (fun Hq vq => ∃ (rq : List (List Int)) (z : Int) (uq0 : Value), vq = .tuple #[uq0, .int .i64 z] ∧ Rows Hq uq0 rq ∧ rq.length ≤ 8 ∧ ∀ x ∈ rq, x.length = m.doms.length) := by
 refine spec_of Tryz.func65 rfl rfl rfl (fun B => ?_)
 refine kc_seq (kc_region (kl_box rfl rfl (fun p1 H2 f3 a4 => ?_)))
 refine kl_as rfl (kl_as rfl (kl_nil (kq_code (kc_seq (kc_region (kl_ldS rfl (by assumption) rfl ?_))))))
 refine kl_mv rfl (kl_bdA [(0, [vmd, vmc]), (1, [.int .i64 (8 : Int)])] [vmd, vmc, .int .i64 (8 : Int), .int .i64 (0 : Int), .slice none 0 0] rfl (cpa rfl (cpa rfl cpa_nil)) rfl ?_)
 refine kl_boxL (cs := [vmd, vmc, .int .i64 (8 : Int), .int .i64 (0 : Int), .slice none 0 0]) rfl rfl (fun b5 hb6 => ?_)
 refine kl_as rfl (kl_nil (kq_code (kc_seq (kc_region (kl_mv rfl (kl_fd rfl (by assumption) (fun p7 a8 => ?_)))))))
 refine kl_ld rfl (by assumption) (kl_no ?_)
 refine kl_no ?_
 refine kl_callT rfl rfl (branchW_ok _ m m.doms [] 0 hM hM.dok rfl (by simp) (by simp) liq_no (by assumption) (by assumption) (by assumption) (OwnL.nil (K := noHp) (R := RowV))) (fun v9 L1 Ln K10 h11 g12 g13 => ?_)
 obtain ⟨rfl, rfl, n14, v15, H16, K17, z20, rfl, o18, l19, h21, h22⟩ := h11
 refine kl_norm ?_
 refine kl_fr H16 (OwnL.liq o18) (fun f23 => ?_)
 refine kl_fr K17 l19 (fun f24 => ?_)
 refine kl_nil (kq_code (kc_seq (kc_draw 10 [true, true, true, true, true, true, true, true, true, true] (by kernel_rfl) (by kernel_rfl) ?_)))
 refine kl_mv rfl (kl_nilchk rfl ?_)
 refine kl_fdV rfl (kl_ldB rfl rfl (kl_mv rfl (kl_nilchk rfl ?_)))
 refine kl_fdV rfl (kl_ldB rfl rfl (kl_as rfl (kl_as rfl (kl_nil (kq_code (kc_ret (kq_frz H16 ?_)))))))
 refine kq_cmp H16 K17 (fun c25 => ?_)
 exact kq_ret2 rfl rfl rfl (orHp H16 K17) (fr_or f23 f24) ⟨z20, n14, _, rfl, (OwnL.rowsK o18 c25), by exact ⟨by assumption, by assumption⟩⟩
end Go.Proofs.YtkfioalfofoikaaGreat
