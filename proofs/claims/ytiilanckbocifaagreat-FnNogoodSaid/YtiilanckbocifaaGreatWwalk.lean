/- Walks of functions of the program: each returns what the plain function gives. Conditions: those that each statement names. -/
import Derived.Test.YtiilanckbocifaaGreatWssat
import Derived.Test.YtiilanckbocifaaGreatSol
import Derived.Test.YtiilanckbocifaaGreatPureS
namespace Go.Proofs.YtiilanckbocifaaGreat
open Go
set_option linter.unusedSimpArgs false
set_option linter.unusedVariables false
theorem sequal_ok {Ha : Hp} {va : Value} {Hb : Hp} {vb : Value} (a : List Int) (b : List Int) (ha : Ints Ha va a) (hb : Ints Hb vb b) : SpecP Tryz.prog 83 [va, vb] [Ha, Hb] (.bool (decide (a = b))) := by
 refine spec_of Tryz.func83 rfl rfl rfl (fun B => ?_)
 refine kc_seq (kc_region (kl_as rfl (kl_nil (kq_code (kc_seq (kc_seq (kc_region (kl_mv rfl (kl_len rfl (by assumption) (fun l1 => ?_))))))))))
 refine kl_mv rfl (kl_len rfl (by assumption) (fun l2 => ?_))
 refine kl_neq rfl rfl ?_
 refine kl_nil (kq_code (kc_if rfl (fun c3 => ?_) (fun c3 => ?_)))
 ·skip
  refine kc_seq (kc_region (kl_as rfl (kl_nil (kq_code (kc_ret (kq_retP rfl rfl (congrArg Value.bool ?_)))))))
  exact eq_len (by assumption)
 ·skip
  refine kc_skipQ (kq_code (kc_seq (kc_seq (kc_region (kl_as rfl (kl_nil (kq_code (kc_block (kc_loop0 (A := Nat) (fun zz => (zz ≤ a.length) ∧ (a.take zz = b.take zz)) (fun zz => a.length - zz) (fun zz => [(5, .int .i64 (zz : Int))]) (0) (pc 0 rfl (pc 1 rfl pn)) (pc 5 rfl pn) ⟨Nat.zero_le _, by simp⟩ ?_)))))))))
  rintro k hJ6
  obtain ⟨hk4, hi5⟩ : (k ≤ a.length) ∧ (a.take k = b.take k) := hJ6
  change KC _ _ (_) _ _ ([(5, .int .i64 (k : Int))] ++ _)
  refine kc_seq (kc_seq (kc_region (kl_mv rfl (kl_mv rfl (kl_len rfl (by assumption) (fun l7 => ?_))))))
  refine kl_lss rfl rfl ?_
  refine kl_nil (kq_code (kc_if rfl (fun c8 => ?_) (fun c8 => ?_)))
  ·skip
   refine kc_skipQ (kq_code (kc_seq (kc_block (kc_seq (kc_draw 9 [true, true, true, true, true, true, true, true, true] (by kernel_rfl) (by kernel_rfl) ?_)))))
   refine kl_mv rfl (kl_mv rfl (kl_inI rfl rfl (by assumption) (by omega) (fun p9 a10 => ?_)))
   refine kl_ld rfl (by assumption) (kl_mv rfl (kl_mv rfl (kl_inI rfl rfl (by assumption) (by omega) (fun p11 a12 => ?_))))
   refine kl_ld rfl (by assumption) (kl_neq rfl rfl ?_)
   refine kl_nil (kq_code (kc_if rfl (fun c13 => ?_) (fun c13 => ?_)))
   ·skip
    refine kc_seq (kc_region (kl_as rfl (kl_nil (kq_code (kc_ret (kq_retP rfl rfl (congrArg Value.bool ?_)))))))
    exact eq_at (k := k) 0 (by simpa using by assumption)
   ·skip
    refine kc_skipQ (kq_code (kc_region (kl_mv rfl (kl_inc rfl rfl (by omega) ?_))))
    refine kl_as rfl (kl_nil (kq_round0 ((k + 1)) (by omega) (⟨by omega, eq_step 0 (by omega) (by omega) hi5 (by first | exact Decidable.not_not.1 (by assumption) | (simpa using by assumption))⟩) (pc 5 rfl pn) (pc 0 rfl (pc 1 rfl pn)) (List.Sublist.refl _)))
  ·skip
   refine kc_exit (kq_code (kc_seq (kc_region (kl_as rfl (kl_nil (kq_code (kc_ret (kq_retP rfl rfl (congrArg Value.bool ?_)))))))))
   exact eq_end (k := k) (by omega) (by omega) (by assumption)
abbrev walkSt (k : Nat) : Prop := ∀ {He Hcv Hca Hcr Hd Hx Hs : Hp} {pe vcv vca vcr vd vx vs : Value} (c : Con) (ds x p s : List Int) (T : List (List Int)) (i : Nat) (hC : ConOk c ds.length) (hd : DomV ds) (hk : i + k = c.vars.length) (hx : x.length = c.vars.length) (hp : x.take i = p) (hv : Vals p) (hs : s = suppV c T)
  (hcv : Ints Hcv vcv c.vars) (hca : Ints Hca vca c.args) (hcr : Rows Hcr vcr c.rows) (hds : Ints Hd vd ds) (ae : At He pe [.int .i64 c.kind, vcv, vca, .int .i64 c.bound, vcr, vd, vx, vs]) (ox : OwnL 3 1 Hx noHp IntV vx x) (os : OwnL 3 1 Hs noHp IntV vs s),
  SpecT Tryz.prog 166 [pe, .int .i64 (i : Int)] [Hx, Hs] [He, Hcv, Hca, Hcr, Hd] (fun vq L1 Ln _ => vq = .tuple #[] ∧ Ln = [] ∧ ∃ (Hx2 Hs2 : Hp) (x2 : List Int), L1 = [Hx2, Hs2] ∧ OwnL 3 1 Hx2 noHp IntV vx x2 ∧ x2.length = c.vars.length ∧ x2.take i = p ∧ OwnL 3 1 Hs2 noHp IntV vs (suppV c (T ++ extP (wordL c.vars ds) i p)))
theorem walk_step (k : Nat) (ih : ∀ j, j < k → walkSt j) : walkSt k := by
 intro He Hcv Hca Hcr Hd Hx Hs pe vcv vca vcr vd vx vs c ds x p s T i hC hd hk hx hp hv hs hcv hca hcr hds ae ox os
 have ho := hC.one
 have hpl : p.length = i := (by rw [← hp, List.length_take]; omega)
 refine specT_of Tryz.func166 rfl rfl rfl (fun B => ?_)
 refine kc_seq (kc_seq (kc_region (kl_mv rfl (kl_mv rfl (kl_nilchkA rfl (by assumption) ?_)))))
 refine kl_fd rfl (by assumption) (fun p1 a2 => ?_)
 refine kl_ld rfl (by assumption) (kl_lenL rfl ox (fun l3 => ?_))
 refine kl_eql rfl rfl ?_
 refine kl_nil (kq_code (kc_if rfl (fun c4 => ?_) (fun c4 => ?_)))
 ·skip
  have hxp : x = p := (by rw [← hp, List.take_of_length_le (by omega)])
  have hS : SatOk c x := sat_of hC hx (hxp ▸ hv)
  refine kc_seq (kc_seq (kc_tree (fun i => ([8] : List Nat).contains i) [] (by kernel_rfl) ?_))
  refine kt_q 0 (List.nil_sublist _) rfl (by kernel_rfl) (kl_mv rfl (kl_nil (kq_q (kt_q 1 (List.nil_sublist _) rfl (by kernel_rfl) (kl_nilchkA rfl (by assumption) ?_)))))
  refine kl_nil (kq_q (kt_q 2 (List.nil_sublist _) rfl (by kernel_rfl) (kl_fd rfl (by assumption) (fun p5 a6 => ?_))))
  refine kl_nil (kq_q (kt_q 3 (List.nil_sublist _) rfl (by kernel_rfl) (kl_ldS rfl (At.take 5 (by assumption)) rfl ?_)))
  refine kl_nil (kq_q (kt_q 4 (List.nil_sublist _) rfl (by kernel_rfl) (kl_mv rfl (kl_nil (kq_q (kt_q 5 (List.nil_sublist _) rfl (by kernel_rfl) (kl_nilchkA rfl (by assumption) ?_)))))))
  refine kl_nil (kq_q (kt_q 6 (List.nil_sublist _) rfl (by kernel_rfl) (kl_fd rfl (by assumption) (fun p7 a8 => ?_))))
  refine kl_nil (kq_q (kt_q 7 (List.nil_sublist _) rfl (by kernel_rfl) (kl_ld rfl (by assumption) (kl_nil (kq_q (kt_a 8 rfl (by kernel_rfl) (kl_callP rfl rfl (satisfies_ok c x hS (by assumption) (by assumption) (by assumption) (OwnL.ints ox)) ?_)))))))
  refine kl_nil (kq_x rfl (kt_end (by kernel_rfl) ?_))
  refine kq_code (kc_cond rfl (fun c9 => ?_) (fun c9 => ?_))
  ·skip
   have c9r := c9
   try simp only [smpC, decide_eq_true_eq, decide_eq_false_iff_not] at c9
   refine kc_seq (kc_region (kl_as rfl (kl_nil (kq_code (kc_block (kc_loopL (A := Nat × List Int × Hp) (fun zz => (zz.1 ≤ x.length) ∧ (zz.2.1 = suppM c T x zz.1) ∧ OwnL 3 1 zz.2.2 noHp IntV vs zz.2.1) (fun zz => x.length - zz.1) (fun zz => [Hx, zz.2.2]) (fun zz => [(4, .int .i64 (zz.1 : Int))]) (0, s, Hs) (pc 0 rfl (pc 1 rfl pn)) (pc 4 rfl pn) rfl ⟨Nat.zero_le _, (by rw [hs, suppM_0]), os⟩ ?_))))))
   rintro ⟨k1, s1, H12⟩ hJ15
   obtain ⟨hk10, hi11, o13⟩ : (k1 ≤ x.length) ∧ (s1 = suppM c T x k1) ∧ OwnL 3 1 H12 noHp IntV vs s1 := hJ15
   change KC _ _ (_) [Hx, H12] _ ([(4, .int .i64 (k1 : Int))] ++ _)
   have hln : s1.length = c.vars.length := (by rw [hi11]; exact suppM_len c T x k1)
   refine kc_seq (kc_seq (kc_region (kl_mv rfl (kl_mv rfl (kl_nilchkA rfl (by assumption) ?_)))))
   refine kl_fd rfl (by assumption) (fun p16 a17 => ?_)
   refine kl_ld rfl (by assumption) (kl_lenL rfl ox (fun l18 => ?_))
   refine kl_lss rfl rfl ?_
   refine kl_nil (kq_code (kc_if rfl (fun c19 => ?_) (fun c19 => ?_)))
   ·skip
    have hv1 := hS.val.at (k := k1) (by omega)
    have hsl := shl_le hv1
    have hsb := supp_addle (c := c) (T := T) hS (by omega : k1 < x.length)
    rw [← hi11] at hsb
    refine kc_skipQ (kq_code (kc_seq (kc_block (kc_seq (kc_draw 16 [true, true, true, true, true, true, true, true, true, true, true, true, true, true, false, true] (by kernel_rfl) (by kernel_rfl) ?_)))))
    refine kl_mv rfl (kl_nilchkA rfl (by assumption) ?_)
    refine kl_fd rfl (by assumption) (fun p20 a21 => ?_)
    refine kl_ld rfl (by assumption) (kl_mv rfl (kl_ixLn rfl rfl (by assumption) (by omega) (fun p22 q23 => ?_)))
    refine kl_ldLI rfl (by assumption) (by assumption) (by omega) ?_
    refine kl_mv rfl (kl_nilchkA rfl (by assumption) ?_)
    refine kl_fd rfl (by assumption) (fun p24 a25 => ?_)
    refine kl_ld rfl (by assumption) (kl_mv rfl (kl_ixLn rfl rfl (by assumption) (by omega) (fun p26 q27 => ?_)))
    refine kl_ldLI rfl (by assumption) (by assumption) (by omega) ?_
    refine kl_callP rfl rfl (domainHas_ok (s1.getD k1 0) (x.getD k1 0)) ?_
    refine kl_not rfl (kl_nil (kq_code (kc_cond rfl (fun c28 => ?_) (fun c28 => ?_))))
    ·skip
     have c28r := c28
     try simp only [smpC, decide_eq_true_eq, decide_eq_false_iff_not] at c28
     refine kc_draw 22 [true, true, true, true, true, true, true, true, true, true, true, true, true, true, true, true, true, true, true, true, true, true, false] (by kernel_rfl) (by kernel_rfl) ?_
     refine kl_mv rfl (kl_nilchkA rfl (by assumption) ?_)
     refine kl_fd rfl (by assumption) (fun p29 a30 => ?_)
     refine kl_ld rfl (by assumption) (kl_mv rfl (kl_mv rfl (kl_nilchkA rfl (by assumption) ?_)))
     refine kl_fd rfl (by assumption) (fun p31 a32 => ?_)
     refine kl_ld rfl (by assumption) (kl_mv rfl (kl_ixLn rfl rfl (by assumption) (by omega) (fun p33 q34 => ?_)))
     refine kl_ldLI rfl (by assumption) (by assumption) (by omega) ?_
     refine kl_mv rfl (kl_nilchkA rfl (by assumption) ?_)
     refine kl_fd rfl (by assumption) (fun p35 a36 => ?_)
     refine kl_ld rfl (by assumption) (kl_mv rfl (kl_ixLn rfl rfl (by assumption) (by omega) (fun p37 q38 => ?_)))
     refine kl_ldLI rfl (by assumption) (by assumption) (by omega) ?_
     refine kl_shl rfl rfl (by omega) ?_
     refine kl_add rfl rfl (by omega) ?_
     refine kl_ixLn rfl rfl (by assumption) (by omega) (fun p39 q40 => ?_)
     refine kl_stL ((s1.getD k1 0) + (ishl (1 : Int) (x.getD k1 0))) rfl rfl (by assumption) o13 (by omega) rfl rfl rfl (fun H41 o42 f43 => ?_)
     refine kl_nil (kq_code (kc_region (kl_mv rfl (kl_inc rfl rfl (by omega) ?_))))
     refine kl_as rfl (kl_nil (kq_roundL ((k1 + 1), (s1.set k1 ((s1.getD k1 0) + (ishl (1 : Int) (x.getD k1 0)))), H41) (by omega) (⟨by omega, (by rw [hi11] at *; first | exact supp_stepS (by assumption) hS (by omega) (by assumption) | exact supp_stepN (by assumption) hS (by omega) (by assumption)), o42⟩) (pc 4 rfl pn) (pc 0 rfl (pc 1 rfl pn)) rfl (List.Sublist.refl _)))
    ·skip
     have c28r := c28
     try simp only [smpC, decide_eq_true_eq, decide_eq_false_iff_not] at c28
     refine kc_skipQ (kq_code (kc_region (kl_mv rfl (kl_inc rfl rfl (by omega) ?_))))
     refine kl_as rfl (kl_nil (kq_roundL ((k1 + 1), s1, H12) (by omega) (⟨by omega, (by rw [hi11] at *; first | exact supp_stepS (by assumption) hS (by omega) (by assumption) | exact supp_stepN (by assumption) hS (by omega) (by assumption)), o13⟩) (pc 4 rfl pn) (pc 0 rfl (pc 1 rfl pn)) rfl (List.Sublist.refl _)))
   ·skip
    refine kc_exit (kq_code (kc_ret ?_))
    exact kq_retT0 rfl [Hx, H12] [] noHp frn (fr_no _) ⟨rfl, rfl, Hx, H12, x, rfl, ox, hx, hp, OwnL.cast (by rw [extP_base (by simp [wordL]; omega), ← hxp]; exact supp_stepT hi11 hS (by omega)) o13⟩
  ·skip
   have c9r := c9
   try simp only [smpC, decide_eq_true_eq, decide_eq_false_iff_not] at c9
   refine kc_skipQ (kq_code (kc_ret ?_))
   exact kq_retT0 rfl [Hx, Hs] [] noHp frn (fr_no _) ⟨rfl, rfl, Hx, Hs, x, rfl, ox, hx, hp, OwnL.cast (by rw [extP_base (by simp [wordL]; omega), ← hxp, suppV_no (by assumption)]; exact hs) os⟩
 ·skip
  refine kc_skipQ (kq_code (kc_seq (kc_region (kl_as rfl (kl_nil (kq_code (kc_block (kc_loopL (A := Nat × List Int × Hp × List Int × Hp) (fun zz => (zz.1 ≤ 6) ∧ (zz.2.1.length = c.vars.length ∧ zz.2.1.take i = p ∧ zz.2.2.2.1 = suppV c (T ++ extTo (wordL c.vars ds) i p zz.1)) ∧ OwnL 3 1 zz.2.2.1 noHp IntV vx zz.2.1 ∧ OwnL 3 1 zz.2.2.2.2 noHp IntV vs zz.2.2.2.1) (fun zz => 6 - zz.1) (fun zz => [zz.2.2.1, zz.2.2.2.2]) (fun zz => [(5, .int .i64 (zz.1 : Int))]) (0, x, Hx, s, Hs) (pc 0 rfl (pc 1 rfl pn)) (pc 5 rfl pn) rfl ⟨Nat.zero_le _, ⟨hx, hp, by rw [extTo_0, List.append_nil]; exact hs⟩, ox, os⟩ ?_))))))))
  rintro ⟨v, x1, H47, s1, H50⟩ hJ53
  obtain ⟨hk45, hi46, o48, o51⟩ : (v ≤ 6) ∧ (x1.length = c.vars.length ∧ x1.take i = p ∧ s1 = suppV c (T ++ extTo (wordL c.vars ds) i p v)) ∧ OwnL 3 1 H47 noHp IntV vx x1 ∧ OwnL 3 1 H50 noHp IntV vs s1 := hJ53
  change KC _ _ (_) [H47, H50] _ ([(5, .int .i64 (v : Int))] ++ _)
  refine kc_seq (kc_seq (kc_region (kl_mv rfl (kl_leq rfl rfl ?_))))
  refine kl_nil (kq_code (kc_if rfl (fun c54 => ?_) (fun c54 => ?_)))
  ·skip
   have hv2 := hC.at (k := i) (by omega)
   refine kc_skipQ (kq_code (kc_seq (kc_block (kc_seq (kc_tree (fun i => ([15] : List Nat).contains i) [] (by kernel_rfl) ?_)))))
   refine kt_q 0 (List.nil_sublist _) rfl (by kernel_rfl) (kl_mv rfl (kl_nil (kq_q (kt_q 1 (List.nil_sublist _) rfl (by kernel_rfl) (kl_nilchkA rfl (by assumption) ?_)))))
   refine kl_nil (kq_q (kt_q 2 (List.nil_sublist _) rfl (by kernel_rfl) (kl_fd rfl (by assumption) (fun p55 a56 => ?_))))
   refine kl_nil (kq_q (kt_q 3 (List.nil_sublist _) rfl (by kernel_rfl) (kl_ld rfl (by assumption) (kl_nil (kq_q (kt_q 4 (List.nil_sublist _) rfl (by kernel_rfl) (kl_mv rfl (kl_nil (kq_q (kt_q 5 (List.nil_sublist _) rfl (by kernel_rfl) (kl_nilchkA rfl (by assumption) ?_)))))))))))
   refine kl_nil (kq_q (kt_q 6 (List.nil_sublist _) rfl (by kernel_rfl) (kl_fd rfl (by assumption) (fun p57 a58 => ?_))))
   refine kl_nil (kq_q (kt_q 7 (List.nil_sublist _) rfl (by kernel_rfl) (kl_fd rfl (by assumption) (fun p59 a60 => ?_))))
   refine kl_nil (kq_q (kt_q 8 (List.nil_sublist _) rfl (by kernel_rfl) (kl_ld rfl (by assumption) (kl_nil (kq_q (kt_q 9 (List.nil_sublist _) rfl (by kernel_rfl) (kl_mv rfl (kl_nil (kq_q (kt_q 10 (List.nil_sublist _) rfl (by kernel_rfl) (kl_inI rfl rfl (by assumption) (by omega) (fun p61 a62 => ?_))))))))))))
   refine kl_nil (kq_q (kt_q 11 (List.nil_sublist _) rfl (by kernel_rfl) (kl_ld rfl (by assumption) (kl_nil (kq_q (kt_q 12 (List.nil_sublist _) rfl (by kernel_rfl) (kl_ixI rfl rfl (by assumption) (by omega) (by omega) (fun p63 a64 => ?_))))))))
   refine kl_nil (kq_q (kt_q 13 (List.nil_sublist _) rfl (by kernel_rfl) (kl_ld rfl (by assumption) (kl_nil (kq_q (kt_q 14 (List.nil_sublist _) rfl (by kernel_rfl) (kl_mv rfl (kl_nil (kq_q (kt_a 15 rfl (by kernel_rfl) (kl_callP rfl rfl (domainHas_ok (ds.getD (c.vars.getD i 0).toNat 0) (v : Int)) ?_)))))))))))
   refine kl_nil (kq_x rfl (kt_end (by kernel_rfl) ?_))
   refine kq_code (kc_cond rfl (fun c65 => ?_) (fun c65 => ?_))
   ·skip
    have c65r := c65
    try simp only [smpC, decide_eq_true_eq, decide_eq_false_iff_not] at c65
    have hb1 : hasB ((wordL c.vars ds).getD i 0) (v : Int) = true := (by rw [word_at (by omega), ← dh_iff (by omega : v < 6)]; exact c65r)
    refine kc_seq (kc_region (kl_mv rfl (kl_nilchkA rfl (by assumption) ?_)))
    refine kl_fd rfl (by assumption) (fun p66 a67 => ?_)
    refine kl_ld rfl (by assumption) (kl_mv rfl (kl_mv rfl (kl_ixLn rfl rfl (by assumption) (by omega) (fun p68 q69 => ?_))))
    refine kl_stL (v : Int) rfl rfl (by assumption) o48 (by omega) rfl rfl rfl (fun H70 o71 f72 => ?_)
    refine kl_nil (kq_code (kc_region (kl_mv rfl (kl_mv rfl (kl_inc rfl rfl (by omega) ?_)))))
    refine kl_callT (vs := [_, .int .i64 (((i + 1) : Nat) : Int)]) rfl rfl (ih (k - 1) (by omega) c ds (x1.set i (v : Int)) (p ++ [(v : Int)]) s1 (T ++ extTo (wordL c.vars ds) i p v) (i + 1) hC hd (by omega) (by rw [List.length_set]; exact hi46.1) (take_set_succ hi46.2.1 (by omega)) (hv.snoc (by omega)) hi46.2.2 hcv hca hcr hds ae o71 o51) (fun v74 L1 Ln K75 h76 g77 g78 => ?_)
    obtain ⟨rfl, rfl, H79, H80, x81, rfl, o82, h83, h84, o85⟩ := h76
    refine kl_norm ?_
    refine kl_nil (kq_code (kc_region (kl_mv rfl (kl_inc rfl rfl (by omega) ?_))))
    refine kl_as rfl (kl_nil (kq_roundL ((v + 1), x81, H79, (suppV c ((T ++ extTo (wordL c.vars ds) i p v) ++ extP (wordL c.vars ds) (i + 1) (p ++ [(v : Int)]))), H80) (by omega) (⟨by omega, ⟨h83, take_of_succ h84 hpl, (by rw [← extTo_T hb1, List.append_assoc])⟩, o82, o85⟩) (pc 5 rfl pn) (pc 0 rfl (pc 1 rfl pn)) rfl (List.Sublist.refl _)))
   ·skip
    have c65r := c65
    try simp only [smpC, decide_eq_true_eq, decide_eq_false_iff_not] at c65
    have hb1 : hasB ((wordL c.vars ds).getD i 0) (v : Int) = false := (by rw [word_at (by omega), ← dh_iff (by omega : v < 6)]; exact c65r)
    refine kc_skipQ (kq_code (kc_region (kl_mv rfl (kl_inc rfl rfl (by omega) ?_))))
    refine kl_as rfl (kl_nil (kq_roundL ((v + 1), x1, H47, s1, H50) (by omega) (⟨by omega, ⟨hi46.1, hi46.2.1, (by rw [hi46.2.2, extTo_F hb1])⟩, o48, o51⟩) (pc 5 rfl pn) (pc 0 rfl (pc 1 rfl pn)) rfl (List.Sublist.refl _)))
  ·skip
   refine kc_exit ?_
   exact kq_retT0 rfl [H47, H50] [] noHp frn (fr_no _) ⟨rfl, rfl, H47, H50, x1, rfl, o48, hi46.1, hi46.2.1, OwnL.cast (by rw [hi46.2.2, extTo_6 (by simp [wordL]; omega) (by omega)]) o51⟩
theorem walk_ok (k : Nat) : walkSt k := by
 induction k using Nat.strongRecOn with
 | _ k ih => exact @walk_step k ih
end Go.Proofs.YtiilanckbocifaaGreat
