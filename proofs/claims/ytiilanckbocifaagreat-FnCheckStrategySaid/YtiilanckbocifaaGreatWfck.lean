/- Walks of functions of the program: each returns what the plain function gives. Conditions: those that each statement names. -/
import Derived.Test.YtiilanckbocifaaGreatWssat
import Derived.Test.YtiilanckbocifaaGreatSol
import Derived.Test.YtiilanckbocifaaGreatPureS
import Derived.Test.YtiilanckbocifaaGreatWswin
import Derived.Test.YtiilanckbocifaaGreatWwin
import Derived.Test.YtiilanckbocifaaGreatWgame
import Derived.Test.YtiilanckbocifaaGreatTys
import Derived.Test.YtiilanckbocifaaGreatMut
import Derived.Test.YtiilanckbocifaaGreatWfilt
import Derived.Test.YtiilanckbocifaaGreatWnx
import Derived.Test.YtiilanckbocifaaGreatWgm
import Derived.Test.YtiilanckbocifaaGreatClr
import Derived.Test.YtiilanckbocifaaGreatMap2
import Derived.Test.YtiilanckbocifaaGreatPureSt
namespace Go.Proofs.YtiilanckbocifaaGreat
open Go
set_option linter.unusedSimpArgs false
set_option linter.unusedVariables false
theorem sequal_ok {Ha : Hp} {va : Value} {Hb : Hp} {vb : Value} (a : List Int) (b : List Int) (ha : Ints Ha va a) (hb : Ints Hb vb b) : SpecP Tryz.prog 83 [va, vb] [Ha, Hb] (.bool (decide (a = b))) := by
 refine spec_of Tryz.func83 rfl rfl rfl (fun B => ?_)
 refine kc_seq (kc_region (kl_as rfl (kl_nil (kq_code (kc_seq (kc_seq (kc_region (kl_mv rfl (kl_len rfl (by assumption) (fun l1 => ?_))))))))))
 refine kl_mv rfl (kl_len rfl (by assumption) (fun l2 => ?_))
 refine kl_neq rfl rfl ?_
 refine kl_nil (kq_code (kc_if rfl (fun c3 => ?_) (fun c3 => ?_)))
 ·skip
  refine kc_seq (kc_region (kl_as rfl (kl_nil (kq_code (kc_ret (kq_retP rfl rfl (congrArg Value.bool ?_)))))))
  exact eq_len (by assumption)
 ·skip
  refine kc_skipQ (kq_code (kc_seq (kc_seq (kc_region (kl_as rfl (kl_nil (kq_code (kc_block (kc_loop0 (A := Nat) (fun zz => (zz ≤ a.length) ∧ (a.take zz = b.take zz)) (fun zz => a.length - zz) (fun zz => [(5, .int .i64 (zz : Int))]) (0) (pc 0 rfl (pc 1 rfl pn)) (pc 5 rfl pn) ⟨Nat.zero_le _, by simp⟩ ?_)))))))))
  rintro k hJ6
  obtain ⟨hk4, hi5⟩ : (k ≤ a.length) ∧ (a.take k = b.take k) := hJ6
  change KC _ _ (_) _ _ ([(5, .int .i64 (k : Int))] ++ _)
  refine kc_seq (kc_seq (kc_region (kl_mv rfl (kl_mv rfl (kl_len rfl (by assumption) (fun l7 => ?_))))))
  refine kl_lss rfl rfl ?_
  refine kl_nil (kq_code (kc_if rfl (fun c8 => ?_) (fun c8 => ?_)))
  ·skip
   refine kc_skipQ (kq_code (kc_seq (kc_block (kc_seq (kc_draw 9 [true, true, true, true, true, true, true, true, true] (by kernel_rfl) (by kernel_rfl) ?_)))))
   refine kl_mv rfl (kl_mv rfl (kl_inI rfl rfl (by assumption) (by omega) (fun p9 a10 => ?_)))
   refine kl_ld rfl (by assumption) (kl_mv rfl (kl_mv rfl (kl_inI rfl rfl (by assumption) (by omega) (fun p11 a12 => ?_))))
   refine kl_ld rfl (by assumption) (kl_neq rfl rfl ?_)
   refine kl_nil (kq_code (kc_if rfl (fun c13 => ?_) (fun c13 => ?_)))
   ·skip
    refine kc_seq (kc_region (kl_as rfl (kl_nil (kq_code (kc_ret (kq_retP rfl rfl (congrArg Value.bool ?_)))))))
    exact eq_at (k := k) 0 (by simpa using by assumption)
   ·skip
    refine kc_skipQ (kq_code (kc_region (kl_mv rfl (kl_inc rfl rfl (by omega) ?_))))
    refine kl_as rfl (kl_nil (kq_round0 ((k + 1)) (by omega) (⟨by omega, eq_step 0 (by omega) (by omega) hi5 (by first | exact Decidable.not_not.1 (by assumption) | (simpa using by assumption))⟩) (pc 5 rfl pn) (pc 0 rfl (pc 1 rfl pn)) (List.Sublist.refl _)))
  ·skip
   refine kc_exit (kq_code (kc_seq (kc_region (kl_as rfl (kl_nil (kq_code (kc_ret (kq_retP rfl rfl (congrArg Value.bool ?_)))))))))
   exact eq_end (k := k) (by omega) (by omega) (by assumption)
abbrev walkSt (k : Nat) : Prop := ∀ {He Hcv Hca Hcr Hd Hx Hs : Hp} {pe vcv vca vcr vd vx vs : Value} (c : Con) (ds x p s : List Int) (T : List (List Int)) (i : Nat) (hC : ConOk c ds.length) (hd : DomV ds) (hk : i + k = c.vars.length) (hx : x.length = c.vars.length) (hp : x.take i = p) (hv : Vals p) (hs : s = suppV c T)
  (hcv : Ints Hcv vcv c.vars) (hca : Ints Hca vca c.args) (hcr : Rows Hcr vcr c.rows) (hds : Ints Hd vd ds) (ae : At He pe [.int .i64 c.kind, vcv, vca, .int .i64 c.bound, vcr, vd, vx, vs]) (ox : OwnL 3 1 Hx noHp IntV vx x) (os : OwnL 3 1 Hs noHp IntV vs s),
  SpecT Tryz.prog 166 [pe, .int .i64 (i : Int)] [Hx, Hs] [He, Hcv, Hca, Hcr, Hd] (fun vq L1 Ln _ => vq = .tuple #[] ∧ Ln = [] ∧ ∃ (Hx2 Hs2 : Hp) (x2 : List Int), L1 = [Hx2, Hs2] ∧ OwnL 3 1 Hx2 noHp IntV vx x2 ∧ x2.length = c.vars.length ∧ x2.take i = p ∧ OwnL 3 1 Hs2 noHp IntV vs (suppV c (T ++ extP (wordL c.vars ds) i p)))
theorem walk_step (k : Nat) (ih : ∀ j, j < k → walkSt j) : walkSt k := by
 intro He Hcv Hca Hcr Hd Hx Hs pe vcv vca vcr vd vx vs c ds x p s T i hC hd hk hx hp hv hs hcv hca hcr hds ae ox os
 have ho := hC.one
 have hpl : p.length = i := (by rw [← hp, List.length_take]; omega)
 refine specT_of Tryz.func166 rfl rfl rfl (fun B => ?_)
 refine kc_seq (kc_seq (kc_region (kl_mv rfl (kl_mv rfl (kl_nilchkA rfl (by assumption) ?_)))))
 refine kl_fd rfl (by assumption) (fun p1 a2 => ?_)
 refine kl_ld rfl (by assumption) (kl_lenL rfl ox (fun l3 => ?_))
 refine kl_eql rfl rfl ?_
 refine kl_nil (kq_code (kc_if rfl (fun c4 => ?_) (fun c4 => ?_)))
 ·skip
  have hxp : x = p := (by rw [← hp, List.take_of_length_le (by omega)])
  have hS : SatOk c x := sat_of hC hx (hxp ▸ hv)
  refine kc_seq (kc_seq (kc_tree (fun i => ([8] : List Nat).contains i) [] (by kernel_rfl) ?_))
  refine kt_q 0 (List.nil_sublist _) rfl (by kernel_rfl) (kl_mv rfl (kl_nil (kq_q (kt_q 1 (List.nil_sublist _) rfl (by kernel_rfl) (kl_nilchkA rfl (by assumption) ?_)))))
  refine kl_nil (kq_q (kt_q 2 (List.nil_sublist _) rfl (by kernel_rfl) (kl_fd rfl (by assumption) (fun p5 a6 => ?_))))
  refine kl_nil (kq_q (kt_q 3 (List.nil_sublist _) rfl (by kernel_rfl) (kl_ldS rfl (At.take 5 (by assumption)) rfl ?_)))
  refine kl_nil (kq_q (kt_q 4 (List.nil_sublist _) rfl (by kernel_rfl) (kl_mv rfl (kl_nil (kq_q (kt_q 5 (List.nil_sublist _) rfl (by kernel_rfl) (kl_nilchkA rfl (by assumption) ?_)))))))
  refine kl_nil (kq_q (kt_q 6 (List.nil_sublist _) rfl (by kernel_rfl) (kl_fd rfl (by assumption) (fun p7 a8 => ?_))))
  refine kl_nil (kq_q (kt_q 7 (List.nil_sublist _) rfl (by kernel_rfl) (kl_ld rfl (by assumption) (kl_nil (kq_q (kt_a 8 rfl (by kernel_rfl) (kl_callP rfl rfl (satisfies_ok c x hS (by assumption) (by assumption) (by assumption) (OwnL.ints ox)) ?_)))))))
  refine kl_nil (kq_x rfl (kt_end (by kernel_rfl) ?_))
  refine kq_code (kc_cond rfl (fun c9 => ?_) (fun c9 => ?_))
  ·skip
   have c9r := c9
   try simp only [smpC, decide_eq_true_eq, decide_eq_false_iff_not] at c9
   refine kc_seq (kc_region (kl_as rfl (kl_nil (kq_code (kc_block (kc_loopL (A := Nat × List Int × Hp) (fun zz => (zz.1 ≤ x.length) ∧ (zz.2.1 = suppM c T x zz.1) ∧ OwnL 3 1 zz.2.2 noHp IntV vs zz.2.1) (fun zz => x.length - zz.1) (fun zz => [Hx, zz.2.2]) (fun zz => [(4, .int .i64 (zz.1 : Int))]) (0, s, Hs) (pc 0 rfl (pc 1 rfl pn)) (pc 4 rfl pn) rfl ⟨Nat.zero_le _, (by rw [hs, suppM_0]), os⟩ ?_))))))
   rintro ⟨k1, s1, H12⟩ hJ15
   obtain ⟨hk10, hi11, o13⟩ : (k1 ≤ x.length) ∧ (s1 = suppM c T x k1) ∧ OwnL 3 1 H12 noHp IntV vs s1 := hJ15
   change KC _ _ (_) [Hx, H12] _ ([(4, .int .i64 (k1 : Int))] ++ _)
   have hln : s1.length = c.vars.length := (by rw [hi11]; exact suppM_len c T x k1)
   refine kc_seq (kc_seq (kc_region (kl_mv rfl (kl_mv rfl (kl_nilchkA rfl (by assumption) ?_)))))
   refine kl_fd rfl (by assumption) (fun p16 a17 => ?_)
   refine kl_ld rfl (by assumption) (kl_lenL rfl ox (fun l18 => ?_))
   refine kl_lss rfl rfl ?_
   refine kl_nil (kq_code (kc_if rfl (fun c19 => ?_) (fun c19 => ?_)))
   ·skip
    have hv1 := hS.val.at (k := k1) (by omega)
    have hsl := shl_le hv1
    have hsb := supp_addle (c := c) (T := T) hS (by omega : k1 < x.length)
    rw [← hi11] at hsb
    refine kc_skipQ (kq_code (kc_seq (kc_block (kc_seq (kc_draw 16 [true, true, true, true, true, true, true, true, true, true, true, true, true, true, false, true] (by kernel_rfl) (by kernel_rfl) ?_)))))
    refine kl_mv rfl (kl_nilchkA rfl (by assumption) ?_)
    refine kl_fd rfl (by assumption) (fun p20 a21 => ?_)
    refine kl_ld rfl (by assumption) (kl_mv rfl (kl_ixLn rfl rfl (by assumption) (by omega) (fun p22 q23 => ?_)))
    refine kl_ldLI rfl (by assumption) (by assumption) (by omega) ?_
    refine kl_mv rfl (kl_nilchkA rfl (by assumption) ?_)
    refine kl_fd rfl (by assumption) (fun p24 a25 => ?_)
    refine kl_ld rfl (by assumption) (kl_mv rfl (kl_ixLn rfl rfl (by assumption) (by omega) (fun p26 q27 => ?_)))
    refine kl_ldLI rfl (by assumption) (by assumption) (by omega) ?_
    refine kl_callP rfl rfl (domainHas_ok (s1.getD k1 0) (x.getD k1 0)) ?_
    refine kl_not rfl (kl_nil (kq_code (kc_cond rfl (fun c28 => ?_) (fun c28 => ?_))))
    ·skip
     have c28r := c28
     try simp only [smpC, decide_eq_true_eq, decide_eq_false_iff_not] at c28
     refine kc_draw 22 [true, true, true, true, true, true, true, true, true, true, true, true, true, true, true, true, true, true, true, true, true, true, false] (by kernel_rfl) (by kernel_rfl) ?_
     refine kl_mv rfl (kl_nilchkA rfl (by assumption) ?_)
     refine kl_fd rfl (by assumption) (fun p29 a30 => ?_)
     refine kl_ld rfl (by assumption) (kl_mv rfl (kl_mv rfl (kl_nilchkA rfl (by assumption) ?_)))
     refine kl_fd rfl (by assumption) (fun p31 a32 => ?_)
     refine kl_ld rfl (by assumption) (kl_mv rfl (kl_ixLn rfl rfl (by assumption) (by omega) (fun p33 q34 => ?_)))
     refine kl_ldLI rfl (by assumption) (by assumption) (by omega) ?_
     refine kl_mv rfl (kl_nilchkA rfl (by assumption) ?_)
     refine kl_fd rfl (by assumption) (fun p35 a36 => ?_)
     refine kl_ld rfl (by assumption) (kl_mv rfl (kl_ixLn rfl rfl (by assumption) (by omega) (fun p37 q38 => ?_)))
     refine kl_ldLI rfl (by assumption) (by assumption) (by omega) ?_
     refine kl_shl rfl rfl (by omega) ?_
     refine kl_add rfl rfl (by omega) ?_
     refine kl_ixLn rfl rfl (by assumption) (by omega) (fun p39 q40 => ?_)
     refine kl_stL ((s1.getD k1 0) + (ishl (1 : Int) (x.getD k1 0))) rfl rfl (by assumption) o13 (by omega) rfl rfl rfl (fun H41 o42 f43 => ?_)
     refine kl_nil (kq_code (kc_region (kl_mv rfl (kl_inc rfl rfl (by omega) ?_))))
     refine kl_as rfl (kl_nil (kq_roundL ((k1 + 1), (s1.set k1 ((s1.getD k1 0) + (ishl (1 : Int) (x.getD k1 0)))), H41) (by omega) (⟨by omega, (by rw [hi11] at *; first | exact supp_stepS (by assumption) hS (by omega) (by assumption) | exact supp_stepN (by assumption) hS (by omega) (by assumption)), o42⟩) (pc 4 rfl pn) (pc 0 rfl (pc 1 rfl pn)) rfl (List.Sublist.refl _)))
    ·skip
     have c28r := c28
     try simp only [smpC, decide_eq_true_eq, decide_eq_false_iff_not] at c28
     refine kc_skipQ (kq_code (kc_region (kl_mv rfl (kl_inc rfl rfl (by omega) ?_))))
     refine kl_as rfl (kl_nil (kq_roundL ((k1 + 1), s1, H12) (by omega) (⟨by omega, (by rw [hi11] at *; first | exact supp_stepS (by assumption) hS (by omega) (by assumption) | exact supp_stepN (by assumption) hS (by omega) (by assumption)), o13⟩) (pc 4 rfl pn) (pc 0 rfl (pc 1 rfl pn)) rfl (List.Sublist.refl _)))
   ·skip
    refine kc_exit (kq_code (kc_ret ?_))
    exact kq_retT0 rfl [Hx, H12] [] noHp frn (fr_no _) ⟨rfl, rfl, Hx, H12, x, rfl, ox, hx, hp, OwnL.cast (by rw [extP_base (by simp [wordL]; omega), ← hxp]; exact supp_stepT hi11 hS (by omega)) o13⟩
  ·skip
   have c9r := c9
   try simp only [smpC, decide_eq_true_eq, decide_eq_false_iff_not] at c9
   refine kc_skipQ (kq_code (kc_ret ?_))
   exact kq_retT0 rfl [Hx, Hs] [] noHp frn (fr_no _) ⟨rfl, rfl, Hx, Hs, x, rfl, ox, hx, hp, OwnL.cast (by rw [extP_base (by simp [wordL]; omega), ← hxp, suppV_no (by assumption)]; exact hs) os⟩
 ·skip
  refine kc_skipQ (kq_code (kc_seq (kc_region (kl_as rfl (kl_nil (kq_code (kc_block (kc_loopL (A := Nat × List Int × Hp × List Int × Hp) (fun zz => (zz.1 ≤ 6) ∧ (zz.2.1.length = c.vars.length ∧ zz.2.1.take i = p ∧ zz.2.2.2.1 = suppV c (T ++ extTo (wordL c.vars ds) i p zz.1)) ∧ OwnL 3 1 zz.2.2.1 noHp IntV vx zz.2.1 ∧ OwnL 3 1 zz.2.2.2.2 noHp IntV vs zz.2.2.2.1) (fun zz => 6 - zz.1) (fun zz => [zz.2.2.1, zz.2.2.2.2]) (fun zz => [(5, .int .i64 (zz.1 : Int))]) (0, x, Hx, s, Hs) (pc 0 rfl (pc 1 rfl pn)) (pc 5 rfl pn) rfl ⟨Nat.zero_le _, ⟨hx, hp, by rw [extTo_0, List.append_nil]; exact hs⟩, ox, os⟩ ?_))))))))
  rintro ⟨v, x1, H47, s1, H50⟩ hJ53
  obtain ⟨hk45, hi46, o48, o51⟩ : (v ≤ 6) ∧ (x1.length = c.vars.length ∧ x1.take i = p ∧ s1 = suppV c (T ++ extTo (wordL c.vars ds) i p v)) ∧ OwnL 3 1 H47 noHp IntV vx x1 ∧ OwnL 3 1 H50 noHp IntV vs s1 := hJ53
  change KC _ _ (_) [H47, H50] _ ([(5, .int .i64 (v : Int))] ++ _)
  refine kc_seq (kc_seq (kc_region (kl_mv rfl (kl_leq rfl rfl ?_))))
  refine kl_nil (kq_code (kc_if rfl (fun c54 => ?_) (fun c54 => ?_)))
  ·skip
   have hv2 := hC.at (k := i) (by omega)
   refine kc_skipQ (kq_code (kc_seq (kc_block (kc_seq (kc_tree (fun i => ([15] : List Nat).contains i) [] (by kernel_rfl) ?_)))))
   refine kt_q 0 (List.nil_sublist _) rfl (by kernel_rfl) (kl_mv rfl (kl_nil (kq_q (kt_q 1 (List.nil_sublist _) rfl (by kernel_rfl) (kl_nilchkA rfl (by assumption) ?_)))))
   refine kl_nil (kq_q (kt_q 2 (List.nil_sublist _) rfl (by kernel_rfl) (kl_fd rfl (by assumption) (fun p55 a56 => ?_))))
   refine kl_nil (kq_q (kt_q 3 (List.nil_sublist _) rfl (by kernel_rfl) (kl_ld rfl (by assumption) (kl_nil (kq_q (kt_q 4 (List.nil_sublist _) rfl (by kernel_rfl) (kl_mv rfl (kl_nil (kq_q (kt_q 5 (List.nil_sublist _) rfl (by kernel_rfl) (kl_nilchkA rfl (by assumption) ?_)))))))))))
   refine kl_nil (kq_q (kt_q 6 (List.nil_sublist _) rfl (by kernel_rfl) (kl_fd rfl (by assumption) (fun p57 a58 => ?_))))
   refine kl_nil (kq_q (kt_q 7 (List.nil_sublist _) rfl (by kernel_rfl) (kl_fd rfl (by assumption) (fun p59 a60 => ?_))))
   refine kl_nil (kq_q (kt_q 8 (List.nil_sublist _) rfl (by kernel_rfl) (kl_ld rfl (by assumption) (kl_nil (kq_q (kt_q 9 (List.nil_sublist _) rfl (by kernel_rfl) (kl_mv rfl (kl_nil (kq_q (kt_q 10 (List.nil_sublist _) rfl (by kernel_rfl) (kl_inI rfl rfl (by assumption) (by omega) (fun p61 a62 => ?_))))))))))))
   refine kl_nil (kq_q (kt_q 11 (List.nil_sublist _) rfl (by kernel_rfl) (kl_ld rfl (by assumption) (kl_nil (kq_q (kt_q 12 (List.nil_sublist _) rfl (by kernel_rfl) (kl_ixI rfl rfl (by assumption) (by omega) (by omega) (fun p63 a64 => ?_))))))))
   refine kl_nil (kq_q (kt_q 13 (List.nil_sublist _) rfl (by kernel_rfl) (kl_ld rfl (by assumption) (kl_nil (kq_q (kt_q 14 (List.nil_sublist _) rfl (by kernel_rfl) (kl_mv rfl (kl_nil (kq_q (kt_a 15 rfl (by kernel_rfl) (kl_callP rfl rfl (domainHas_ok (ds.getD (c.vars.getD i 0).toNat 0) (v : Int)) ?_)))))))))))
   refine kl_nil (kq_x rfl (kt_end (by kernel_rfl) ?_))
   refine kq_code (kc_cond rfl (fun c65 => ?_) (fun c65 => ?_))
   ·skip
    have c65r := c65
    try simp only [smpC, decide_eq_true_eq, decide_eq_false_iff_not] at c65
    have hb1 : hasB ((wordL c.vars ds).getD i 0) (v : Int) = true := (by rw [word_at (by omega), ← dh_iff (by omega : v < 6)]; exact c65r)
    refine kc_seq (kc_region (kl_mv rfl (kl_nilchkA rfl (by assumption) ?_)))
    refine kl_fd rfl (by assumption) (fun p66 a67 => ?_)
    refine kl_ld rfl (by assumption) (kl_mv rfl (kl_mv rfl (kl_ixLn rfl rfl (by assumption) (by omega) (fun p68 q69 => ?_))))
    refine kl_stL (v : Int) rfl rfl (by assumption) o48 (by omega) rfl rfl rfl (fun H70 o71 f72 => ?_)
    refine kl_nil (kq_code (kc_region (kl_mv rfl (kl_mv rfl (kl_inc rfl rfl (by omega) ?_)))))
    refine kl_callT (vs := [_, .int .i64 (((i + 1) : Nat) : Int)]) rfl rfl (ih (k - 1) (by omega) c ds (x1.set i (v : Int)) (p ++ [(v : Int)]) s1 (T ++ extTo (wordL c.vars ds) i p v) (i + 1) hC hd (by omega) (by rw [List.length_set]; exact hi46.1) (take_set_succ hi46.2.1 (by omega)) (hv.snoc (by omega)) hi46.2.2 hcv hca hcr hds ae o71 o51) (fun v74 L1 Ln K75 h76 g77 g78 => ?_)
    obtain ⟨rfl, rfl, H79, H80, x81, rfl, o82, h83, h84, o85⟩ := h76
    refine kl_norm ?_
    refine kl_nil (kq_code (kc_region (kl_mv rfl (kl_inc rfl rfl (by omega) ?_))))
    refine kl_as rfl (kl_nil (kq_roundL ((v + 1), x81, H79, (suppV c ((T ++ extTo (wordL c.vars ds) i p v) ++ extP (wordL c.vars ds) (i + 1) (p ++ [(v : Int)]))), H80) (by omega) (⟨by omega, ⟨h83, take_of_succ h84 hpl, (by rw [← extTo_T hb1, List.append_assoc])⟩, o82, o85⟩) (pc 5 rfl pn) (pc 0 rfl (pc 1 rfl pn)) rfl (List.Sublist.refl _)))
   ·skip
    have c65r := c65
    try simp only [smpC, decide_eq_true_eq, decide_eq_false_iff_not] at c65
    have hb1 : hasB ((wordL c.vars ds).getD i 0) (v : Int) = false := (by rw [word_at (by omega), ← dh_iff (by omega : v < 6)]; exact c65r)
    refine kc_skipQ (kq_code (kc_region (kl_mv rfl (kl_inc rfl rfl (by omega) ?_))))
    refine kl_as rfl (kl_nil (kq_roundL ((v + 1), x1, H47, s1, H50) (by omega) (⟨by omega, ⟨hi46.1, hi46.2.1, (by rw [hi46.2.2, extTo_F hb1])⟩, o48, o51⟩) (pc 5 rfl pn) (pc 0 rfl (pc 1 rfl pn)) rfl (List.Sublist.refl _)))
  ·skip
   refine kc_exit ?_
   exact kq_retT0 rfl [H47, H50] [] noHp frn (fr_no _) ⟨rfl, rfl, H47, H50, x1, rfl, o48, hi46.1, hi46.2.1, OwnL.cast (by rw [hi46.2.2, extTo_6 (by simp [wordL]; omega) (by omega)]) o51⟩
theorem walk_ok (k : Nat) : walkSt k := by
 induction k using Nat.strongRecOn with
 | _ k ih => exact @walk_step k ih
theorem supported_ok {Hcv : Hp} {vcv : Value} {Hca : Hp} {vca : Value} {Hcr : Hp} {vcr : Value} {Hds : Hp} {vds : Value} (c : Con) (ds : List Int) (hC : ConOk c ds.length) (hd : DomV ds) (hcv : Ints Hcv vcv c.vars) (hca : Ints Hca vca c.args) (hcr : Rows Hcr vcr c.rows) (hds : Ints Hds vds ds) : Spec Tryz.prog 154 [.agg #[.int .i64 c.kind, vcv, vca, .int .i64 c.bound, vcr], vds] [Hcv, Hca, Hcr, Hds] (fun Hq vq => Ints Hq vq (filtL c ds)) := by
 have ho := hC.one
 refine spec_of Tryz.func154 rfl rfl rfl (fun B => ?_)
 refine kc_seq (kc_region (kl_box rfl rfl (fun p1 H2 f3 a4 => ?_)))
 refine kl_as rfl (kl_nil (kq_code (kc_seq (kc_tree (fun i => ([10, 11] : List Nat).contains i) [] (by kernel_rfl) ?_))))
 refine kt_q 0 (List.nil_sublist _) rfl (by kernel_rfl) (kl_ldS rfl (by assumption) rfl ?_)
 refine kl_nil (kq_q (kt_q 1 (List.nil_sublist _) rfl (by kernel_rfl) (kl_mv rfl (kl_nil (kq_q (kt_q 2 (List.nil_sublist _) rfl (by kernel_rfl) (kl_fd rfl (by assumption) (fun p5 a6 => ?_))))))))
 refine kl_nil (kq_q (kt_q 3 (List.nil_sublist _) rfl (by kernel_rfl) (kl_ld rfl (by assumption) (kl_nil (kq_q (kt_q 4 (List.nil_sublist _) rfl (by kernel_rfl) (kl_len rfl (by assumption) (fun l7 => ?_))))))))
 refine kl_nil (kq_q (kt_q 6 (List.nil_sublist _) rfl (by kernel_rfl) (kl_fd rfl (by assumption) (fun p8 a9 => ?_))))
 refine kl_nil (kq_q (kt_q 7 (List.nil_sublist _) rfl (by kernel_rfl) (kl_ld rfl (by assumption) (kl_nil (kq_q (kt_q 8 (List.nil_sublist _) rfl (by kernel_rfl) (kl_len rfl (by assumption) (fun l10 => ?_))))))))
 refine kl_nil (kq_q (kt_b 5 9 rfl rfl (by kernel_rfl) ?_ ?_))
 ·skip
  refine kl_mkL (R := IntV) (0 : Int) rfl rfl (by omega) (by decide) (by exact rfl) (fun v11 H12 f13 o14 => ?_)
  refine kl_nil (kq_a (List.nil_sublist _) (kt_a 9 rfl (by kernel_rfl) (kl_mkL (R := IntV) (0 : Int) rfl rfl (by omega) (by decide) (by exact rfl) (fun v15 H16 f17 o18 => ?_))))
  refine kl_nil (kq_a (List.nil_sublist _) (kt_a 10 rfl (by kernel_rfl) (kl_bdA [(0, [.int .i64 c.kind, vcv, vca, .int .i64 c.bound, vcr]), (1, [vds]), (2, [v11]), (3, [v15])] [.int .i64 c.kind, vcv, vca, .int .i64 c.bound, vcr, vds, v11, v15] rfl (cpa rfl (cpa (Sl.cells (by assumption)) (cpa (OwnL.cells (by assumption)) (cpa (OwnL.cells (by assumption)) cpa_nil)))) rfl ?_)))
  refine kl_nil (kq_x rfl (kt_a 11 rfl (by kernel_rfl) (kl_box rfl rfl (fun p19 H20 f21 a22 => ?_))))
  refine kl_nil (kq_x rfl (kt_q 12 (List.nil_sublist _) rfl (by kernel_rfl) (kl_as rfl (kl_nil (kq_q (kt_end (by kernel_rfl) ?_))))))
  refine kq_code (kc_seq (kc_region (kl_mv rfl (kl_callT (vs := [_, .int .i64 ((0 : Nat) : Int)]) rfl rfl (walk_ok c.vars.length c ds (List.replicate c.vars.length (0 : Int)) [] (List.replicate c.vars.length (0 : Int)) [] 0 hC hd (by omega) (by simp) rfl vals_nil (suppV_0 c).symm hcv hca hcr hds a22 o14 o18) (fun v23 L1 Ln K24 h25 g26 g27 => ?_)))))
  obtain ⟨rfl, rfl, H28, H29, x30, rfl, o31, h32, h33, o34⟩ := h25
  refine kl_norm ?_
  refine kl_nil (kq_code (kc_seq (kc_region (kl_mv rfl (kl_callL rfl rfl (copyInts_ok ds (by omega) (by assumption)) (fun v35 H36 f37 o38 => ?_))))))
  refine kl_as rfl (kl_nil (kq_code (kc_seq (kc_seq (kc_region (kl_as rfl (kl_nil (kq_code (kc_block (kc_loopL (A := Nat × List Int × Hp) (fun zz => (zz.1 ≤ c.vars.length) ∧ (zz.2.1 = filtTo c ds (suppV c ([] ++ extP (wordL c.vars ds) 0 [])) zz.1) ∧ OwnL 3 1 zz.2.2 noHp IntV v35 zz.2.1 ∧ Fr B zz.2.2) (fun zz => c.vars.length - zz.1) (fun zz => [zz.2.2, H28, H29]) (fun zz => [(7, .int .i64 (zz.1 : Int))]) (0, ds, H36) (pc 2 rfl (pc 4 rfl (pc 5 rfl (pc 6 rfl pn)))) (pc 7 rfl pn) rfl ⟨Nat.zero_le _, rfl, o38, f37⟩ ?_))))))))))
  rintro ⟨k, out, H41⟩ hJ44
  obtain ⟨hk39, hi40, o42, f43⟩ : (k ≤ c.vars.length) ∧ (out = filtTo c ds (suppV c ([] ++ extP (wordL c.vars ds) 0 [])) k) ∧ OwnL 3 1 H41 noHp IntV v35 out ∧ Fr B H41 := hJ44
  change KC _ _ (_) [H41, H28, H29] _ ([(7, .int .i64 (k : Int))] ++ _)
  have hln : out.length = ds.length := (by rw [hi40]; exact filtTo_len c ds _ k)
  refine kc_seq (kc_seq (kc_region (kl_mv rfl (kl_fd rfl (by assumption) (fun p45 a46 => ?_)))))
  refine kl_ld rfl (by assumption) (kl_len rfl (by assumption) (fun l47 => ?_))
  refine kl_lss rfl rfl ?_
  refine kl_nil (kq_code (kc_if rfl (fun c48 => ?_) (fun c48 => ?_)))
  ·skip
   have hv2 := hC.at (k := k) (by omega)
   have hll := suppV_len c ([] ++ extP (wordL c.vars ds) 0 [])
   refine kc_skipQ (kq_code (kc_seq (kc_block (kc_tree (fun i => ([14] : List Nat).contains i) [H29] (by kernel_rfl) ?_))))
   refine kt_q 0 (.cons _ (.cons _ (.cons_cons _ (List.nil_sublist _)))) rfl (by kernel_rfl) (kl_mv rfl (kl_nil (kq_q (kt_q 1 (.cons _ (.cons _ (.cons_cons _ (List.nil_sublist _)))) rfl (by kernel_rfl) (kl_fd rfl (by assumption) (fun p49 a50 => ?_))))))
   refine kl_nil (kq_q (kt_q 2 (.cons _ (.cons _ (.cons_cons _ (List.nil_sublist _)))) rfl (by kernel_rfl) (kl_ld rfl (by assumption) (kl_nil (kq_q (kt_q 3 (.cons _ (.cons _ (.cons_cons _ (List.nil_sublist _)))) rfl (by kernel_rfl) (kl_mv rfl (kl_nil (kq_q (kt_q 4 (.cons _ (.cons _ (.cons_cons _ (List.nil_sublist _)))) rfl (by kernel_rfl) (kl_inI rfl rfl (by assumption) (by omega) (fun p51 a52 => ?_))))))))))))
   refine kl_nil (kq_q (kt_q 5 (.cons _ (.cons _ (.cons_cons _ (List.nil_sublist _)))) rfl (by kernel_rfl) (kl_ld rfl (by assumption) (kl_nil (kq_q (kt_q 6 (.cons _ (.cons _ (.cons_cons _ (List.nil_sublist _)))) rfl (by kernel_rfl) (kl_mv rfl (kl_nil (kq_q (kt_q 7 (.cons _ (.cons _ (.cons_cons _ (List.nil_sublist _)))) rfl (by kernel_rfl) (kl_nilchkA rfl (by assumption) ?_)))))))))))
   refine kl_nil (kq_q (kt_q 8 (.cons _ (.cons _ (.cons_cons _ (List.nil_sublist _)))) rfl (by kernel_rfl) (kl_fd rfl (by assumption) (fun p53 a54 => ?_))))
   refine kl_nil (kq_q (kt_q 9 (.cons _ (.cons _ (.cons_cons _ (List.nil_sublist _)))) rfl (by kernel_rfl) (kl_ld rfl (by assumption) (kl_nil (kq_q (kt_q 10 (.cons _ (.cons _ (.cons_cons _ (List.nil_sublist _)))) rfl (by kernel_rfl) (kl_mv rfl (kl_nil (kq_q (kt_q 11 (.cons _ (.cons _ (.cons_cons _ (List.nil_sublist _)))) rfl (by kernel_rfl) (kl_ixLn rfl rfl (by assumption) (by omega) (fun p55 q56 => ?_))))))))))))
   refine kl_nil (kq_q (kt_q 12 (.cons _ (.cons _ (.cons_cons _ (List.nil_sublist _)))) rfl (by kernel_rfl) (kl_ldLIe rfl (by assumption) (by assumption) (by omega) ?_)))
   refine kl_nil (kq_q (kt_q 13 (.cons _ (.cons _ (.cons_cons _ (List.nil_sublist _)))) rfl (by kernel_rfl) (kl_ixL rfl rfl (by assumption) (by omega) (by omega) (fun p57 q58 => ?_))))
   refine kl_nil (kq_q (kt_a 14 rfl (by kernel_rfl) (kl_stL ((suppV c ([] ++ extP (wordL c.vars ds) 0 [])).getD k 0) rfl rfl (by assumption) o42 (by omega) rfl rfl rfl (fun H59 o60 f61 => ?_))))
   have f62 := f61 _ f43
   refine kl_chg [H59, H28, H29] rfl ?_
   refine kl_nil (kq_x rfl (kt_end (by kernel_rfl) ?_))
   refine kq_code (kc_region (kl_mv rfl (kl_inc rfl rfl (by omega) ?_)))
   refine kl_as rfl (kl_nil (kq_take [H59, H28, H29] ?_))
   refine kq_roundL ((k + 1), (out.set ((c.vars.getD k 0).toNat) ((suppV c ([] ++ extP (wordL c.vars ds) 0 [])).getD k 0)), H59) (by omega) (⟨by omega, (by rw [hi40, filtTo_succ]), o60, f62⟩) (pc 7 rfl pn) (pc 2 rfl (pc 4 rfl (pc 5 rfl (pc 6 rfl pn)))) rfl (List.Sublist.refl _)
  ·skip
   refine kc_exit (kq_code (kc_seq (kc_region (kl_mv rfl (kl_as rfl (kl_nil (kq_code (kc_ret ?_))))))))
   have e9 : out = filtL c ds := by (rw [hi40, show k = c.vars.length from by omega, List.nil_append, extP_all]; rfl)
   exact kq_ret rfl rfl H41 f43 (e9 ▸ OwnL.ints o42)
 ·skip
  refine kl_mkL (R := IntV) (0 : Int) rfl rfl (by omega) (by decide) (by exact rfl) (fun v63 H64 f65 o66 => ?_)
  refine kl_nil (kq_a (List.nil_sublist _) (kt_a 5 rfl (by kernel_rfl) (kl_mkL (R := IntV) (0 : Int) rfl rfl (by omega) (by decide) (by exact rfl) (fun v67 H68 f69 o70 => ?_))))
  refine kl_nil (kq_a (List.nil_sublist _) (kt_a 10 rfl (by kernel_rfl) (kl_bdA [(0, [.int .i64 c.kind, vcv, vca, .int .i64 c.bound, vcr]), (1, [vds]), (2, [v67]), (3, [v63])] [.int .i64 c.kind, vcv, vca, .int .i64 c.bound, vcr, vds, v67, v63] rfl (cpa rfl (cpa (Sl.cells (by assumption)) (cpa (OwnL.cells (by assumption)) (cpa (OwnL.cells (by assumption)) cpa_nil)))) rfl ?_)))
  refine kl_nil (kq_x rfl (kt_a 11 rfl (by kernel_rfl) (kl_box rfl rfl (fun p71 H72 f73 a74 => ?_))))
  refine kl_nil (kq_x rfl (kt_q 12 (List.nil_sublist _) rfl (by kernel_rfl) (kl_as rfl (kl_nil (kq_q (kt_end (by kernel_rfl) ?_))))))
  refine kq_code (kc_seq (kc_region (kl_mv rfl (kl_callT (vs := [_, .int .i64 ((0 : Nat) : Int)]) rfl rfl (walk_ok c.vars.length c ds (List.replicate c.vars.length (0 : Int)) [] (List.replicate c.vars.length (0 : Int)) [] 0 hC hd (by omega) (by simp) rfl vals_nil (suppV_0 c).symm hcv hca hcr hds a74 o70 o66) (fun v75 L1 Ln K76 h77 g78 g79 => ?_)))))
  obtain ⟨rfl, rfl, H80, H81, x82, rfl, o83, h84, h85, o86⟩ := h77
  refine kl_norm ?_
  refine kl_nil (kq_code (kc_seq (kc_region (kl_mv rfl (kl_callL rfl rfl (copyInts_ok ds (by omega) (by assumption)) (fun v87 H88 f89 o90 => ?_))))))
  refine kl_as rfl (kl_nil (kq_code (kc_seq (kc_seq (kc_region (kl_as rfl (kl_nil (kq_code (kc_block (kc_loopL (A := Nat × List Int × Hp) (fun zz => (zz.1 ≤ c.vars.length) ∧ (zz.2.1 = filtTo c ds (suppV c ([] ++ extP (wordL c.vars ds) 0 [])) zz.1) ∧ OwnL 3 1 zz.2.2 noHp IntV v87 zz.2.1 ∧ Fr B zz.2.2) (fun zz => c.vars.length - zz.1) (fun zz => [zz.2.2, H80, H81]) (fun zz => [(7, .int .i64 (zz.1 : Int))]) (0, ds, H88) (pc 2 rfl (pc 4 rfl (pc 5 rfl (pc 6 rfl pn)))) (pc 7 rfl pn) rfl ⟨Nat.zero_le _, rfl, o90, f89⟩ ?_))))))))))
  rintro ⟨k, out, H93⟩ hJ96
  obtain ⟨hk91, hi92, o94, f95⟩ : (k ≤ c.vars.length) ∧ (out = filtTo c ds (suppV c ([] ++ extP (wordL c.vars ds) 0 [])) k) ∧ OwnL 3 1 H93 noHp IntV v87 out ∧ Fr B H93 := hJ96
  change KC _ _ (_) [H93, H80, H81] _ ([(7, .int .i64 (k : Int))] ++ _)
  have hln : out.length = ds.length := (by rw [hi92]; exact filtTo_len c ds _ k)
  refine kc_seq (kc_seq (kc_region (kl_mv rfl (kl_fd rfl (by assumption) (fun p97 a98 => ?_)))))
  refine kl_ld rfl (by assumption) (kl_len rfl (by assumption) (fun l99 => ?_))
  refine kl_lss rfl rfl ?_
  refine kl_nil (kq_code (kc_if rfl (fun c100 => ?_) (fun c100 => ?_)))
  ·skip
   have hv2 := hC.at (k := k) (by omega)
   have hll := suppV_len c ([] ++ extP (wordL c.vars ds) 0 [])
   refine kc_skipQ (kq_code (kc_seq (kc_block (kc_tree (fun i => ([14] : List Nat).contains i) [H81] (by kernel_rfl) ?_))))
   refine kt_q 0 (.cons _ (.cons _ (.cons_cons _ (List.nil_sublist _)))) rfl (by kernel_rfl) (kl_mv rfl (kl_nil (kq_q (kt_q 1 (.cons _ (.cons _ (.cons_cons _ (List.nil_sublist _)))) rfl (by kernel_rfl) (kl_fd rfl (by assumption) (fun p101 a102 => ?_))))))
   refine kl_nil (kq_q (kt_q 2 (.cons _ (.cons _ (.cons_cons _ (List.nil_sublist _)))) rfl (by kernel_rfl) (kl_ld rfl (by assumption) (kl_nil (kq_q (kt_q 3 (.cons _ (.cons _ (.cons_cons _ (List.nil_sublist _)))) rfl (by kernel_rfl) (kl_mv rfl (kl_nil (kq_q (kt_q 4 (.cons _ (.cons _ (.cons_cons _ (List.nil_sublist _)))) rfl (by kernel_rfl) (kl_inI rfl rfl (by assumption) (by omega) (fun p103 a104 => ?_))))))))))))
   refine kl_nil (kq_q (kt_q 5 (.cons _ (.cons _ (.cons_cons _ (List.nil_sublist _)))) rfl (by kernel_rfl) (kl_ld rfl (by assumption) (kl_nil (kq_q (kt_q 6 (.cons _ (.cons _ (.cons_cons _ (List.nil_sublist _)))) rfl (by kernel_rfl) (kl_mv rfl (kl_nil (kq_q (kt_q 7 (.cons _ (.cons _ (.cons_cons _ (List.nil_sublist _)))) rfl (by kernel_rfl) (kl_nilchkA rfl (by assumption) ?_)))))))))))
   refine kl_nil (kq_q (kt_q 8 (.cons _ (.cons _ (.cons_cons _ (List.nil_sublist _)))) rfl (by kernel_rfl) (kl_fd rfl (by assumption) (fun p105 a106 => ?_))))
   refine kl_nil (kq_q (kt_q 9 (.cons _ (.cons _ (.cons_cons _ (List.nil_sublist _)))) rfl (by kernel_rfl) (kl_ld rfl (by assumption) (kl_nil (kq_q (kt_q 10 (.cons _ (.cons _ (.cons_cons _ (List.nil_sublist _)))) rfl (by kernel_rfl) (kl_mv rfl (kl_nil (kq_q (kt_q 11 (.cons _ (.cons _ (.cons_cons _ (List.nil_sublist _)))) rfl (by kernel_rfl) (kl_ixLn rfl rfl (by assumption) (by omega) (fun p107 q108 => ?_))))))))))))
   refine kl_nil (kq_q (kt_q 12 (.cons _ (.cons _ (.cons_cons _ (List.nil_sublist _)))) rfl (by kernel_rfl) (kl_ldLIe rfl (by assumption) (by assumption) (by omega) ?_)))
   refine kl_nil (kq_q (kt_q 13 (.cons _ (.cons _ (.cons_cons _ (List.nil_sublist _)))) rfl (by kernel_rfl) (kl_ixL rfl rfl (by assumption) (by omega) (by omega) (fun p109 q110 => ?_))))
   refine kl_nil (kq_q (kt_a 14 rfl (by kernel_rfl) (kl_stL ((suppV c ([] ++ extP (wordL c.vars ds) 0 [])).getD k 0) rfl rfl (by assumption) o94 (by omega) rfl rfl rfl (fun H111 o112 f113 => ?_))))
   have f114 := f113 _ f95
   refine kl_chg [H111, H80, H81] rfl ?_
   refine kl_nil (kq_x rfl (kt_end (by kernel_rfl) ?_))
   refine kq_code (kc_region (kl_mv rfl (kl_inc rfl rfl (by omega) ?_)))
   refine kl_as rfl (kl_nil (kq_take [H111, H80, H81] ?_))
   refine kq_roundL ((k + 1), (out.set ((c.vars.getD k 0).toNat) ((suppV c ([] ++ extP (wordL c.vars ds) 0 [])).getD k 0)), H111) (by omega) (⟨by omega, (by rw [hi92, filtTo_succ]), o112, f114⟩) (pc 7 rfl pn) (pc 2 rfl (pc 4 rfl (pc 5 rfl (pc 6 rfl pn)))) rfl (List.Sublist.refl _)
  ·skip
   refine kc_exit (kq_code (kc_seq (kc_region (kl_mv rfl (kl_as rfl (kl_nil (kq_code (kc_ret ?_))))))))
   have e9 : out = filtL c ds := by (rw [hi92, show k = c.vars.length from by omega, List.nil_append, extP_all]; rfl)
   exact kq_ret rfl rfl H93 f95 (e9 ▸ OwnL.ints o94)
theorem isCons_ok {Hmd : Hp} {vmd : Value} {Hmc : Hp} {vmc : Value} {Hds : Hp} {vds : Value} (m : Mod) (ds : List Int) (hM : MOk m) (hd : DOk m.doms.length ds) (hmd : Ints Hmd vmd m.doms) (hmc : Cons Hmc vmc m.cons) (hds : Ints Hds vds ds) : SpecP Tryz.prog 153 [.agg #[vmd, vmc], vds] [Hmd, Hmc, Hds] (.bool (consB m.cons ds)) := by
 refine spec_of Tryz.func153 rfl rfl rfl (fun B => ?_)
 refine kc_seq (kc_region (kl_box rfl rfl (fun p1 H2 f3 a4 => ?_)))
 refine kl_as rfl (kl_nil (kq_code (kc_seq (kc_seq (kc_region (kl_as rfl (kl_nil (kq_code (kc_block (kc_loop0 (A := Nat) (fun zz => (zz ≤ m.cons.length) ∧ ((m.cons.take zz).all (fun c => decide (filtL c ds = ds)) = true)) (fun zz => m.cons.length - zz) (fun zz => [(5, .int .i64 (zz : Int))]) (0) (pc 1 rfl (pc 2 rfl pn)) (pc 5 rfl pn) ⟨Nat.zero_le _, rfl⟩ ?_))))))))))
 rintro k hJ7
 obtain ⟨hk5, hi6⟩ : (k ≤ m.cons.length) ∧ ((m.cons.take k).all (fun c => decide (filtL c ds = ds)) = true) := hJ7
 change KC _ _ (_) _ _ ([(5, .int .i64 (k : Int))] ++ _)
 refine kc_seq (kc_seq (kc_region (kl_mv rfl (kl_fd rfl (by assumption) (fun p8 a9 => ?_)))))
 refine kl_ld rfl (by assumption) (kl_len rfl (by assumption) (fun l10 => ?_))
 refine kl_lss rfl rfl ?_
 refine kl_nil (kq_code (kc_if rfl (fun c11 => ?_) (fun c11 => ?_)))
 ·skip
  have hC : ConOk (m.cons.getD k nilCon) ds.length := (by rw [hd.l]; exact ⟨hM.c (by omega)⟩)
  refine kc_skipQ (kq_code (kc_seq (kc_block (kc_seq (kc_region (kl_fd rfl (by assumption) (fun p12 a13 => ?_)))))))
  refine kl_ld rfl (by assumption) (kl_mv rfl (kl_inC rfl rfl (by assumption) (by omega) (fun p14 u16 u17 u18 h19 h20 h21 a15 => ?_)))
  refine kl_ldS rfl (by assumption) rfl ?_
  refine kl_mv rfl (kl_call rfl rfl (supported_ok (m.cons.getD k nilCon) ds hC hd.d (by assumption) (by assumption) (by assumption) (by assumption)) (fun v22 H23 f24 h25 => ?_))
  refine kl_mv rfl (kl_callP rfl rfl (sequal_ok (filtL (m.cons.getD k nilCon) ds) ds (by assumption) (by assumption)) ?_)
  refine kl_not rfl (kl_nil (kq_code (kc_cond rfl (fun c26 => ?_) (fun c26 => ?_))))
  ·skip
   have c26r := c26
   try simp only [smpC, decide_eq_true_eq, decide_eq_false_iff_not] at c26
   refine kc_seq (kc_region (kl_as rfl (kl_nil (kq_code (kc_ret (kq_retP rfl rfl (congrArg Value.bool ?_)))))))
   exact cons_no (k := k) (by omega) (by assumption)
  ·skip
   have c26r := c26
   try simp only [smpC, decide_eq_true_eq, decide_eq_false_iff_not] at c26
   refine kc_skipQ (kq_code (kc_region (kl_mv rfl (kl_inc rfl rfl (by omega) ?_))))
   refine kl_as rfl (kl_nil (kq_round0 ((k + 1)) (by omega) (⟨by omega, cons_step (by omega) hi6 (by assumption)⟩) (pc 5 rfl pn) (pc 1 rfl (pc 2 rfl pn)) (List.Sublist.refl _)))
 ·skip
  refine kc_exit (kq_code (kc_seq (kc_region (kl_as rfl (kl_nil (kq_code (kc_ret (kq_retP rfl rfl (congrArg Value.bool ?_)))))))))
  exact (by rw [List.take_of_length_le (by omega)] at hi6; exact hi6.symm)
theorem fixS_ok {Hmd : Hp} {vmd : Value} {Hmc : Hp} {vmc : Value} {Hds : Hp} {vds : Value} (m : Mod) (ds : List Int) (hM : MOk m) (hd : DOk m.doms.length ds) (hmd : Ints Hmd vmd m.doms) (hmc : Cons Hmc vmc m.cons) (hds : Ints Hds vds ds) : Spec Tryz.prog 130 [.agg #[vmd, vmc], vds] [Hmd, Hmc, Hds] (fun Hq vq => Ints Hq vq (prop m ds)) := by
 refine spec_of Tryz.func130 rfl rfl rfl (fun B => ?_)
 refine kc_seq (kc_region (kl_box rfl rfl (fun p1 H2 f3 a4 => ?_)))
 refine kl_as rfl (kl_nil (kq_code (kc_seq (kc_region (kl_mv rfl (kl_call rfl rfl (copyInts_ok ds (by have := hd.l; have := hM.n; omega) (by assumption)) (fun v5 H6 f7 o8 => ?_)))))))
 have h9 := OwnL.ints o8
 refine kl_as rfl (kl_nil (kq_code (kc_seq (kc_block (kc_loopK (A := List Int × Value × Hp) (fun zz => (DOk m.doms.length zz.1 ∧ prop m zz.1 = prop m ds) ∧ Fr B zz.2.2 ∧ Ints zz.2.2 zz.2.1 zz.1) (fun zz => sumN zz.1) (fun zz => zz.2.2) (fun zz => []) (fun zz => [(5, zz.2.1)]) (ds, v5, H6) (pc 2 rfl (pc 4 rfl pn)) (pc 5 rfl pn) rfl ⟨⟨hd, rfl⟩, f7, (by assumption)⟩ ?_)))))
 rintro ⟨xs, v12, K13⟩ hJ16
 obtain ⟨hi11, f14, h15⟩ : (DOk m.doms.length xs ∧ prop m xs = prop m ds) ∧ Fr B K13 ∧ Ints K13 v12 xs := hJ16
 change KC _ _ (K13 :: _) [] _ ([(5, v12)] ++ _)
 have hD := hi11.1
 refine kc_seq (kc_seq (kc_region (kl_ldS rfl (by assumption) rfl ?_)))
 refine kl_mv rfl (kl_callP rfl rfl (isCons_ok m xs hM hD (by assumption) (by assumption) (by assumption)) ?_)
 refine kl_not rfl (kl_mv rfl (kl_join 4 17 (.bool (!(consB m.cons xs) && !(xs.contains 0))) (pc 2 rfl (pc 4 rfl (pc 5 rfl (pc 9 rfl (pc 10 rfl (pc 11 rfl (pc 12 rfl (pc 13 rfl pn)))))))) (fun J18 => ?_) ?_))
 ·rcases Bool.eq_false_or_eq_true (!(consB m.cons xs)) with g17 | g17
  ·skip
   have g17p := g17
   try simp only [Bool.not_eq_true', Bool.not_eq_false', decide_eq_true_eq, decide_eq_false_iff_not, Bool.and_eq_true, Bool.or_eq_false_iff, withinB_iff] at g17p
   refine kl_gT rfl rfl g17 (kl_mv rfl (kl_gT rfl rfl g17 (kl_callP rfl rfl (hasEmpty_ok xs (by assumption)) ?_)))
   refine kl_gT rfl rfl g17 (kl_not rfl (kl_andT rfl rfl g17 ?_))
   exact J18 _ (pc 17 rfl (pc 2 rfl (pc 4 rfl (pc 5 rfl (pc 9 rfl (pc 10 rfl (pc 11 rfl (pc 12 rfl (pc 13 rfl pn)))))))))
  ·skip
   refine kl_gF rfl rfl g17 (kl_gF rfl rfl g17 (kl_gF rfl rfl g17 (kl_andF (!(xs.contains 0)) rfl rfl g17 ?_)))
   exact J18 _ (pc 17 rfl (pc 2 rfl (pc 4 rfl (pc 5 rfl (pc 9 rfl (pc 10 rfl (pc 11 rfl (pc 12 rfl (pc 13 rfl pn)))))))))
 refine kl_nil (kq_code (kc_cond rfl (fun c19 => ?_) (fun c19 => ?_)))
 ·skip
  have c19r := c19
  try simp only [smpC, decide_eq_true_eq, decide_eq_false_iff_not] at c19
  have hgo := fix_go hM hD c19r
  refine kc_skipQ (kq_code (kc_block (kc_seq (kc_region (kl_as rfl (kl_nil (kq_code (kc_block (kc_loopK (A := Nat × List Int × Value × Hp) (fun zz => (zz.1 ≤ m.cons.length) ∧ (zz.2.1 = filtC (m.cons.take zz.1) xs) ∧ Fr B zz.2.2.2 ∧ Ints zz.2.2.2 zz.2.2.1 zz.2.1) (fun zz => m.cons.length - zz.1) (fun zz => zz.2.2.2) (fun zz => []) (fun zz => [(6, .int .i64 (zz.1 : Int)), (5, zz.2.2.1)]) (0, xs, v12, K13) (pc 2 rfl (pc 4 rfl (pc 9 rfl (pc 10 rfl (pc 11 rfl (pc 12 rfl (pc 13 rfl (pc 17 rfl pn)))))))) (pc 6 rfl (pc 5 rfl pn)) rfl ⟨Nat.zero_le _, rfl, f14, (by assumption)⟩ ?_)))))))))
  rintro ⟨k2, ys, v22, K23⟩ hJ26
  obtain ⟨hk20, hi21, f24, h25⟩ : (k2 ≤ m.cons.length) ∧ (ys = filtC (m.cons.take k2) xs) ∧ Fr B K23 ∧ Ints K23 v22 ys := hJ26
  change KC _ _ (K23 :: _) [] _ ([(6, .int .i64 (k2 : Int)), (5, v22)] ++ _)
  refine kc_seq (kc_seq (kc_region (kl_mv rfl (kl_fd rfl (by assumption) (fun p27 a28 => ?_)))))
  refine kl_ld rfl (by assumption) (kl_len rfl (by assumption) (fun l29 => ?_))
  refine kl_lss rfl rfl ?_
  refine kl_nil (kq_code (kc_if rfl (fun c30 => ?_) (fun c30 => ?_)))
  ·skip
   have hE := filtC_at hM hD hi21
   have hC : ConOk (m.cons.getD k2 nilCon) ys.length := (by rw [hE.l]; exact ⟨hM.c (by omega)⟩)
   refine kc_skipQ (kq_code (kc_seq (kc_block (kc_region (kl_fd rfl (by assumption) (fun p31 a32 => ?_))))))
   refine kl_ld rfl (by assumption) (kl_mv rfl (kl_inC rfl rfl (by assumption) (by omega) (fun p33 u35 u36 u37 h38 h39 h40 a34 => ?_)))
   refine kl_ldS rfl (by assumption) rfl ?_
   refine kl_mv rfl (kl_call rfl rfl (supported_ok (m.cons.getD k2 nilCon) ys hC hE.d (by assumption) (by assumption) (by assumption) (by assumption)) (fun v41 H42 f43 h44 => ?_))
   refine kl_as rfl (kl_nil (kq_code (kc_region (kl_mv rfl (kl_inc rfl rfl (by omega) ?_)))))
   refine kl_as rfl (kl_nil (kq_roundK ((k2 + 1), (filtL (m.cons.getD k2 nilCon) ys), v41, H42) (by omega) (⟨by omega, (by rw [filtC_step (by omega), ← hi21]), f43, (by assumption)⟩) (pc 6 rfl (pc 5 rfl pn)) (pc 2 rfl (pc 4 rfl (pc 9 rfl (pc 10 rfl (pc 11 rfl (pc 12 rfl (pc 13 rfl (pc 17 rfl pn)))))))) rfl (List.Sublist.refl _)))
  ·skip
   refine kc_exit (kq_roundK (ys, v22, K23) (by (dsimp only; rw [hi21, List.take_of_length_le (by omega)]; exact filtA_lt hM hD hgo.1)) (⟨(by rw [hi21, List.take_of_length_le (by omega)]; exact ⟨(filtA_ok hM hD).1, (prop_step hM hD hgo.2 hgo.1).trans hi11.2⟩), f24, (by assumption)⟩) (pc 5 rfl pn) (pc 2 rfl (pc 4 rfl pn)) rfl (List.Sublist.refl _))
 ·skip
  have c19r := c19
  try simp only [smpC, decide_eq_true_eq, decide_eq_false_iff_not] at c19
  have hend := fix_end hM hD c19r
  refine kc_exit (kq_code (kc_seq (kc_seq (kc_region (kl_mv rfl (kl_callP rfl rfl (hasEmpty_ok xs (by assumption)) ?_))))))
  refine kl_nil (kq_code (kc_cond rfl (fun c45 => ?_) (fun c45 => ?_)))
  ·skip
   have c45r := c45
   try simp only [smpC, decide_eq_true_eq, decide_eq_false_iff_not] at c45
   refine kc_seq (kc_region (kl_mv rfl (kl_len rfl (by assumption) (fun l46 => ?_))))
   refine kl_mkL (R := IntV) (0 : Int) rfl rfl (by (have := hD.l; have := hM.n; omega)) (by decide) (by exact rfl) (fun v47 H48 f49 o50 => ?_)
   refine kl_as rfl (kl_nil (kq_code (kc_ret ?_)))
   have e9 : (List.replicate xs.length (0 : Int)) = prop m ds := by (rw [← hi11.2]; exact (prop_0 (by assumption)).symm)
   exact kq_ret rfl rfl H48 f49 (e9 ▸ OwnL.ints o50)
  ·skip
   have c45r := c45
   try simp only [smpC, decide_eq_true_eq, decide_eq_false_iff_not] at c45
   refine kc_skipQ (kq_code (kc_seq (kc_region (kl_mv rfl (kl_as rfl (kl_nil (kq_code (kc_ret ?_))))))))
   have e9 : xs = prop m ds := by (rw [← hi11.2]; exact (hend (by assumption)).symm)
   exact kq_ret rfl rfl K13 f14 (e9 ▸ (by assumption : Ints _ _ xs))
abbrev branchWSt (k : Nat) : Prop := ∀ {b : Nat} {Hmd Hmc Hds Hf Kf : Hp} {vmd vmc vds vf : Value} (m : Mod) (ds : List Int) (found : List (List Int)) (nd : Int) (hM : MOk m) (hd : DOk m.doms.length ds) (hk : sumN ds = k) (hroom : found.length < 8) (hrows : ∀ x ∈ found, x.length = m.doms.length) (lq : Liq Kf)
  (hmd : Ints Hmd vmd m.doms) (hmc : Cons Hmc vmc m.cons) (hds : Ints Hds vds ds) (of : OwnL 23 1 Hf Kf RowV vf found),
  SpecT Tryz.prog 98 [.pointer (some ⟨b, 0, none⟩), vds] [sing b (.cells [vmd, vmc, .int .i64 8, .int .i64 nd, vf].toArray 102 (0, 0)), Hf, Kf] [Hmd, Hmc, Hds] (fun vq L1 Ln _ => vq = .tuple #[] ∧ Ln = [] ∧ ∃ (nd2 : Int) (vf2 : Value) (Hf2 Kf2 : Hp) (fq : List (List Int)), L1 = [sing b (.cells [vmd, vmc, .int .i64 8, .int .i64 nd2, vf2].toArray 102 (0, 0)), Hf2, Kf2] ∧ OwnL 23 1 Hf2 Kf2 RowV vf2 fq ∧ Liq Kf2 ∧ fq.length ≤ 8 ∧ ∀ x ∈ fq, x.length = m.doms.length)
theorem branchW_step (k : Nat) (ih : ∀ j, j < k → branchWSt j) : branchWSt k := by
 intro b Hmd Hmc Hds Hf Kf vmd vmc vds vf m ds found nd hM hd hk hroom hrows lq hmd hmc hds of
 have hn := hM.n
 have hp := propOk hM hd
 have hpl := hp.ok.l
 refine specT_of Tryz.func98 rfl rfl rfl (fun B => ?_)
 refine kc_seq (kc_region (kl_mv rfl (kl_mv rfl (kl_nilchk rfl ?_))))
 refine kl_fdV rfl (kl_ldB rfl rfl (kl_addK (κ := .i64) rfl rfl ?_))
 refine kl_nilchk rfl ?_
 refine kl_fdV rfl (kl_stB rfl rfl rfl rfl rfl ?_)
 refine kl_chg [sing b (.cells [vmd, vmc, .int .i64 (8 : Int), .int .i64 (IntKind.wrap .i64 (nd + (1 : Int))), vf].toArray 102 (0, 0)), Hf, Kf] rfl ?_
 refine kl_nil (kq_code (kc_seq (kc_region (kl_mv rfl (kl_nilchk rfl ?_)))))
 refine kl_fdV rfl (kl_ldSL rfl (At.take 2 (at_box (T := 102) (cs := [vmd, vmc, .int .i64 (8 : Int), .int .i64 (IntKind.wrap .i64 (nd + (1 : Int))), vf]) (off := 0) (fz := (0, 0)))) rfl ?_)
 refine kl_mv rfl (kl_call rfl rfl (fixS_ok m ds hM hd (by assumption) (by assumption) (by assumption)) (fun v1 H2 f3 h4 => ?_))
 refine kl_as rfl (kl_nil (kq_code (kc_seq (kc_seq (kc_region (kl_mv rfl (kl_callP rfl rfl (hasEmpty_ok (prop m ds) (by assumption)) ?_)))))))
 refine kl_nil (kq_code (kc_cond rfl (fun c5 => ?_) (fun c5 => ?_)))
 ·skip
  have c5r := c5
  try simp only [smpC, decide_eq_true_eq, decide_eq_false_iff_not] at c5
  refine kc_ret ?_
  exact kq_retT0 rfl [sing b (.cells [vmd, vmc, .int .i64 (8 : Int), .int .i64 (IntKind.wrap .i64 (nd + (1 : Int))), vf].toArray 102 (0, 0)), Hf, Kf] [] noHp frn (fr_no _) ⟨rfl, rfl, (IntKind.wrap .i64 (nd + (1 : Int))), vf, Hf, Kf, _, rfl, of, lq, ⟨by omega, hrows⟩⟩
 ·skip
  have c5r := c5
  try simp only [smpC, decide_eq_true_eq, decide_eq_false_iff_not] at c5
  have hne : (prop m ds).contains 0 = false := (by simpa using c5r)
  refine kc_skipQ (kq_code (kc_seq (kc_region (kl_as rfl (kl_nil (kq_code (kc_seq (kc_block (kc_loop0 (A := Nat) (fun zz => (zz ≤ (prop m ds).length) ∧ (∀ j, j < zz → (valsI ((prop m ds).getD j 0)).length = 1)) (fun zz => (prop m ds).length - zz) (fun zz => [(5, .int .i64 (zz : Int))]) (0) (pc 0 rfl (pc 4 rfl pn)) (pc 5 rfl pn) ⟨Nat.zero_le _, (fun _ h => absurd h (Nat.not_lt_zero _))⟩ ?_)))))))))
  rintro i hJ8
  obtain ⟨hk6, hi7⟩ : (i ≤ (prop m ds).length) ∧ (∀ j, j < i → (valsI ((prop m ds).getD j 0)).length = 1) := hJ8
  change KC _ _ (_) _ _ ([(5, .int .i64 (i : Int))] ++ _)
  refine kc_seq (kc_seq (kc_region (kl_mv rfl (kl_mv rfl (kl_len rfl (by assumption) (fun l9 => ?_))))))
  refine kl_lss rfl rfl ?_
  refine kl_mv rfl (kl_join 8 39 (.bool (decide ((i : Int) < ((prop m ds).length : Int)) && decide (((valsI ((prop m ds).getD i 0)).length : Int) = (1 : Int)))) (pc 0 rfl (pc 4 rfl (pc 5 rfl (pc 27 rfl (pc 28 rfl (pc 29 rfl (pc 30 rfl (pc 31 rfl pn)))))))) (fun J18 => ?_) ?_)
  ·rcases Bool.eq_false_or_eq_true (decide ((i : Int) < ((prop m ds).length : Int))) with g10 | g10
   ·skip
    have g10p := of_decide_eq_true g10
    refine kl_gT rfl rfl g10 (kl_mv rfl (kl_gT rfl rfl g10 (kl_mv rfl (kl_gT rfl rfl g10 (kl_inI rfl rfl (by assumption) (by first | omega | (simp; omega)) (fun p11 a12 => ?_))))))
    refine kl_gT rfl rfl g10 (kl_ld rfl (by assumption) (kl_gT rfl rfl g10 (kl_call rfl rfl (domainValues_ok ((prop m ds).getD i 0)) (fun v13 H14 f15 h16 => ?_))))
    refine kl_gT rfl rfl g10 (kl_len rfl (by assumption) (fun l17 => ?_))
    refine kl_gT rfl rfl g10 (kl_eql rfl rfl ?_)
    refine kl_andT rfl rfl g10 ?_
    exact kl_fg (List.Sublist.refl _) (J18 _ (pc 39 rfl (pc 0 rfl (pc 4 rfl (pc 5 rfl (pc 27 rfl (pc 28 rfl (pc 29 rfl (pc 30 rfl (pc 31 rfl pn))))))))))
   ·skip
    refine kl_gF rfl rfl g10 (kl_gF rfl rfl g10 (kl_gF rfl rfl g10 (kl_gF rfl rfl g10 (kl_gF rfl rfl g10 (kl_gF rfl rfl g10 (kl_gF rfl rfl g10 (kl_andF (decide (((valsI ((prop m ds).getD i 0)).length : Int) = (1 : Int))) rfl rfl g10 ?_)))))))
    exact J18 _ (pc 39 rfl (pc 0 rfl (pc 4 rfl (pc 5 rfl (pc 27 rfl (pc 28 rfl (pc 29 rfl (pc 30 rfl (pc 31 rfl pn)))))))))
  refine kl_nil (kq_code (kc_cond rfl (fun c19 => ?_) (fun c19 => ?_)))
  ·skip
   have c19r := c19
   try simp only [smpC, decide_eq_true_eq, decide_eq_false_iff_not] at c19
   have hgo := br_go c19r
   refine kc_skipQ (kq_code (kc_block (kc_region (kl_mv rfl (kl_inc rfl rfl (by omega) ?_)))))
   refine kl_as rfl (kl_nil (kq_round0 ((i + 1)) (by (have := hgo.1; omega)) (⟨(by have := hgo.1; omega), (by intro j hj; rcases Nat.lt_succ_iff_lt_or_eq.1 hj with h9 | h9; (exact hi7 j h9); (subst h9; have := hgo.2; omega))⟩) (pc 5 rfl pn) (pc 0 rfl (pc 4 rfl pn)) (List.Sublist.refl _)))
  ·skip
   have c19r := c19
   try simp only [smpC, decide_eq_true_eq, decide_eq_false_iff_not] at c19
   have hex := br_exit c19r
   refine kc_exit (kq_code (kc_seq (kc_seq (kc_region (kl_mv rfl (kl_mv rfl (kl_len rfl (by assumption) (fun l20 => ?_))))))))
   refine kl_eql rfl rfl ?_
   refine kl_nil (kq_code (kc_if rfl (fun c21 => ?_) (fun c21 => ?_)))
   ·skip
    refine kc_seq (kc_region (kl_bsI [] rfl rfl rfl (by decide) (fun v22 H23 f24 o25 => ?_)))
    refine kl_as rfl (kl_nil (kq_code (kc_seq (kc_seq (kc_region (kl_as rfl (kl_nil (kq_code (kc_block (kc_loopL (A := Nat × List Int × Value × Hp) (fun zz => (zz.1 ≤ (prop m ds).length) ∧ (zz.2.1 = firstL ((prop m ds).take zz.1)) ∧ OwnL 3 1 zz.2.2.2 noHp IntV zz.2.2.1 zz.2.1 ∧ Fr B zz.2.2.2) (fun zz => (prop m ds).length - zz.1) (fun zz => [zz.2.2.2, sing b (.cells [vmd, vmc, .int .i64 (8 : Int), .int .i64 (IntKind.wrap .i64 (nd + (1 : Int))), vf].toArray 102 (0, 0)), Hf, Kf]) (fun zz => [(7, .int .i64 (zz.1 : Int)), (6, zz.2.2.1)]) (0, ([]), v22, H23) (pc 0 rfl (pc 4 rfl (pc 5 rfl pn))) (pc 7 rfl (pc 6 rfl pn)) rfl ⟨Nat.zero_le _, rfl, o25, f24⟩ ?_))))))))))
    rintro ⟨j, x, v31, H28⟩ hJ32
    obtain ⟨hk26, hi27, o29, f30⟩ : (j ≤ (prop m ds).length) ∧ (x = firstL ((prop m ds).take j)) ∧ OwnL 3 1 H28 noHp IntV v31 x ∧ Fr B H28 := hJ32
    change KC _ _ (_) [H28, sing b (.cells [vmd, vmc, .int .i64 (8 : Int), .int .i64 (IntKind.wrap .i64 (nd + (1 : Int))), vf].toArray 102 (0, 0)), Hf, Kf] _ ([(7, .int .i64 (j : Int)), (6, v31)] ++ _)
    refine kc_seq (kc_seq (kc_region (kl_mv rfl (kl_mv rfl (kl_len rfl (by assumption) (fun l33 => ?_))))))
    refine kl_lss rfl rfl ?_
    refine kl_nil (kq_code (kc_if rfl (fun c34 => ?_) (fun c34 => ?_)))
    ·skip
     have hj1 := hi7 j (by omega)
     refine kc_skipQ (kq_code (kc_seq (kc_block (kc_region (kl_mv rfl (kl_mv rfl (kl_mv rfl (kl_inI rfl rfl (by assumption) (by first | omega | (simp; omega)) (fun p35 a36 => ?_)))))))))
     refine kl_ld rfl (by assumption) (kl_call rfl rfl (domainValues_ok ((prop m ds).getD j 0)) (fun v37 H38 f39 h40 => ?_))
     refine kl_inI (i := 0) rfl rfl (by assumption) (by first | omega | (simp; omega)) (fun p41 a42 => ?_)
     refine kl_ld rfl (by assumption) (kl_bs rfl rfl rfl (by decide) (ca rfl ca_nil) (fun v43 H44 f45 r46 s47 => ?_))
     have h48 : Ints H44 v43 [((valsI ((prop m ds).getD j 0)).getD 0 0)] := litInts (xs := [((valsI ((prop m ds).getD j 0)).getD 0 0)]) (by simpa using s47)
     refine kl_apL ((valsI ((prop m ds).getD j 0)).getD 0 0) rfl rfl o29 (by assumption) rfl (oc rfl oc_nil) (by (first | omega | (have h5 := congrArg List.length hi27; simp [firstL] at h5; omega))) (by decide) (fun v49 H50 o51 f52 => ?_)
     have f53 := f52 B f30 (Nat.le_refl _)
     refine kl_as rfl (kl_nil (kq_code (kc_region (kl_mv rfl (kl_inc rfl rfl (by omega) ?_)))))
     refine kl_as rfl (kl_nil (kq_take [H50, sing b (.cells [vmd, vmc, .int .i64 (8 : Int), .int .i64 (IntKind.wrap .i64 (nd + (1 : Int))), vf].toArray 102 (0, 0)), Hf, Kf] ?_))
     refine kq_roundL ((j + 1), (x ++ [((valsI ((prop m ds).getD j 0)).getD 0 0)]), v49, H50) (by omega) (⟨by omega, (by rw [hi27]; exact firstL_take (by omega)), o51, f53⟩) (pc 7 rfl (pc 6 rfl pn)) (pc 0 rfl (pc 4 rfl (pc 5 rfl pn))) rfl (List.Sublist.refl _)
    ·skip
     refine kc_exit (kq_code (kc_seq (kc_region (kl_mv rfl (kl_mv rfl (kl_nilchk rfl ?_))))))
     refine kl_fdV rfl (kl_ldB rfl rfl (kl_mv rfl (kl_bs rfl rfl rfl (by decide) (ca (by first | exact Sl.cells (by assumption) | exact OwnL.cells (by assumption)) ca_nil) (fun v54 H55 f56 r57 s58 => ?_))))
     have h59 := OwnL.ints o29
     refine kl_cmp Kf H28 (fun c60 => ?_)
     have o61 := OwnL.mono (K' := orHp Kf H28) of orL
     refine kl_apL x rfl rfl o61 (by assumption) ⟨_, rfl, Sl.mono (by assumption) (orC c60) (fun _ _ h => h)⟩ (oc (OwnL.oneCell (by assumption)) oc_nil) (by (first | omega | (have h5 := congrArg List.length hi27; simp [firstL] at h5; omega))) (by decide) (fun v62 H63 o64 f65 => ?_)
     refine kl_nilchk rfl ?_
     refine kl_fdV rfl (kl_stB rfl rfl rfl (OwnL.oneCell (by assumption)) (OwnL.cells (by assumption)) ?_)
     refine kl_chg [H28, sing b (.cells [vmd, vmc, .int .i64 (8 : Int), .int .i64 (IntKind.wrap .i64 (nd + (1 : Int))), v62].toArray 102 (0, 0)), H63, Kf] rfl ?_
     refine kl_nil (kq_code (kc_ret (kq_mrg Kf H28 ?_)))
     exact kq_retT0 rfl [sing b (.cells [vmd, vmc, .int .i64 (8 : Int), .int .i64 (IntKind.wrap .i64 (nd + (1 : Int))), v62].toArray 102 (0, 0)), H63, (orHp Kf H28)] [] noHp frn (fr_no _) ⟨rfl, rfl, (IntKind.wrap .i64 (nd + (1 : Int))), v62, H63, (orHp Kf H28), _, rfl, o64, (liq_or lq f30.2), ⟨by simp; omega, all_snoc hrows (by have h5 := congrArg List.length hi27; simp [firstL] at h5; omega)⟩⟩
   ·skip
    have hi0 : i < (prop m ds).length := (by omega)
    have hne1 : (valsI ((prop m ds).getD i 0)).length ≠ 1 := (by rcases hex with h9 | h9 <;> omega)
    refine kc_skipQ (kq_code (kc_seq (kc_region (kl_mv rfl (kl_mv rfl (kl_inI rfl rfl (by assumption) (by first | omega | (simp; omega)) (fun p67 a68 => ?_)))))))
    refine kl_ld rfl (by assumption) (kl_call rfl rfl (domainValues_ok ((prop m ds).getD i 0)) (fun v69 H70 f71 h72 => ?_))
    refine kl_as rfl (kl_nil (kq_code (kc_seq (kc_region (kl_as rfl (kl_nil (kq_code (kc_block (kc_loopL (A := Nat × Int × List (List Int) × Value × Hp × Hp) (fun zz => (zz.1 ≤ (valsI ((prop m ds).getD i 0)).length) ∧ (zz.2.2.1.length ≤ 8 ∧ ∀ x ∈ zz.2.2.1, x.length = m.doms.length) ∧ Liq zz.2.2.2.2.2 ∧ OwnL 23 1 zz.2.2.2.2.1 zz.2.2.2.2.2 RowV zz.2.2.2.1 zz.2.2.1) (fun zz => (valsI ((prop m ds).getD i 0)).length - zz.1) (fun zz => [sing b (.cells [vmd, vmc, .int .i64 (8 : Int), .int .i64 zz.2.1, zz.2.2.2.1].toArray 102 (0, 0)), zz.2.2.2.2.1, zz.2.2.2.2.2]) (fun zz => [(9, .int .i64 (zz.1 : Int))]) (0, (IntKind.wrap .i64 (nd + (1 : Int))), found, vf, Hf, Kf) (pc 0 rfl (pc 4 rfl (pc 5 rfl (pc 8 rfl pn)))) (pc 9 rfl pn) rfl ⟨Nat.zero_le _, ⟨Nat.le_of_lt hroom, hrows⟩, lq, of⟩ ?_)))))))))
    rintro ⟨k, nd1, fnd, v78, H75, K79⟩ hJ81
    obtain ⟨hk73, hi74, l80, o76⟩ : (k ≤ (valsI ((prop m ds).getD i 0)).length) ∧ (fnd.length ≤ 8 ∧ ∀ x ∈ fnd, x.length = m.doms.length) ∧ Liq K79 ∧ OwnL 23 1 H75 K79 RowV v78 fnd := hJ81
    change KC _ _ (_) [sing b (.cells [vmd, vmc, .int .i64 (8 : Int), .int .i64 nd1, v78].toArray 102 (0, 0)), H75, K79] _ ([(9, .int .i64 (k : Int))] ++ _)
    refine kc_seq (kc_seq (kc_draw 16 [true, true, true, true, true, true, true, true, true, true, true, true, true, true, true, true] (by kernel_rfl) (by kernel_rfl) ?_))
    refine kl_mv rfl (kl_mv rfl (kl_len rfl (by assumption) (fun l82 => ?_)))
    refine kl_lss rfl rfl ?_
    refine kl_mv rfl (kl_join 11 93 (.bool (decide ((k : Int) < ((valsI ((prop m ds).getD i 0)).length : Int)) && decide ((fnd.length : Int) < (8 : Int)))) (pc 0 rfl (pc 4 rfl (pc 5 rfl (pc 8 rfl (pc 9 rfl (pc 78 rfl (pc 79 rfl (pc 80 rfl (pc 81 rfl (pc 82 rfl pn)))))))))) (fun J85 => ?_) ?_)
    ·rcases Bool.eq_false_or_eq_true (decide ((k : Int) < ((valsI ((prop m ds).getD i 0)).length : Int))) with g83 | g83
     ·skip
      have g83p := of_decide_eq_true g83
      refine kl_gT rfl rfl g83 (kl_mv rfl (kl_gT rfl rfl g83 (kl_nilchk rfl ?_)))
      refine kl_gT rfl rfl g83 (kl_fdV rfl (kl_gT rfl rfl g83 (kl_ldB rfl rfl (kl_gT rfl rfl g83 (kl_lenL rfl o76 (fun l84 => ?_))))))
      refine kl_gT rfl rfl g83 (kl_mv rfl (kl_gT rfl rfl g83 (kl_nilchk rfl ?_)))
      refine kl_gT rfl rfl g83 (kl_fdV rfl (kl_gT rfl rfl g83 (kl_ldB rfl rfl (kl_gT rfl rfl g83 (kl_lss rfl rfl ?_)))))
      refine kl_andT rfl rfl g83 ?_
      exact J85 _ (pc 93 rfl (pc 0 rfl (pc 4 rfl (pc 5 rfl (pc 8 rfl (pc 9 rfl (pc 78 rfl (pc 79 rfl (pc 80 rfl (pc 81 rfl (pc 82 rfl pn)))))))))))
     ·skip
      refine kl_gF rfl rfl g83 (kl_gF rfl rfl g83 (kl_gF rfl rfl g83 (kl_gF rfl rfl g83 (kl_gF rfl rfl g83 (kl_gF rfl rfl g83 (kl_gF rfl rfl g83 (kl_gF rfl rfl g83 (kl_gF rfl rfl g83 ?_))))))))
      refine kl_gF rfl rfl g83 (kl_andF (decide ((fnd.length : Int) < (8 : Int))) rfl rfl g83 ?_)
      exact J85 _ (pc 93 rfl (pc 0 rfl (pc 4 rfl (pc 5 rfl (pc 8 rfl (pc 9 rfl (pc 78 rfl (pc 79 rfl (pc 80 rfl (pc 81 rfl (pc 82 rfl pn)))))))))))
    refine kl_nil (kq_code (kc_cond rfl (fun c86 => ?_) (fun c86 => ?_)))
    ·skip
     have c86r := c86
     try simp only [smpC, decide_eq_true_eq, decide_eq_false_iff_not] at c86
     have hlt := br_lt (y := 8) c86r
     have hv := getD_mem (d := (0 : Int)) hlt.1
     have hvv := valsI_mem hv
     refine kc_skipQ (kq_code (kc_seq (kc_block (kc_seq (kc_region (kl_mv rfl (kl_callL rfl rfl (copyInts_ok (prop m ds) (by omega) (by assumption)) (fun v87 H88 f89 o90 => ?_))))))))
     refine kl_as rfl (kl_nil (kq_code (kc_seq (kc_region (kl_mv rfl (kl_mv rfl (kl_mv rfl (kl_mv rfl (kl_inI rfl rfl (by assumption) (by first | omega | (simp; omega)) (fun p91 a92 => ?_))))))))))
     refine kl_ld rfl (by assumption) (kl_shl rfl rfl (by omega) ?_)
     refine kl_ixLn rfl rfl (by assumption) (by first | omega | (simp; omega)) (fun p93 q94 => ?_)
     refine kl_stL (ishl (1 : Int) ((valsI ((prop m ds).getD i 0)).getD k 0)) rfl rfl (by assumption) o90 (by first | omega | (simp; omega)) rfl rfl rfl (fun H95 o96 f97 => ?_)
     have f98 := f97 _ f89
     refine kl_chg [H95, sing b (.cells [vmd, vmc, .int .i64 (8 : Int), .int .i64 nd1, v78].toArray 102 (0, 0)), H75, K79] rfl ?_
     refine kl_nil (kq_code (kc_region (kl_mv rfl (kl_mv rfl (kl_callT rfl rfl (ih _ (by rw [← hk]; exact Nat.lt_of_lt_of_le (set_lt hp.ok hi0 hv hne1) (hp.sub.sum hp.ok.d hd.d)) m ((prop m ds).set i (ishl (1 : Int) ((valsI ((prop m ds).getD i 0)).getD k 0))) fnd nd1 hM (set_ok hp.ok (valsI_mem hv)) rfl (by have h7 := hlt.2; omega) hi74.2 l80 hmd hmc (OwnL.ints o96) o76) (fun v99 L1 Ln K100 h101 g102 g103 => ?_))))))
     obtain ⟨rfl, rfl, n104, v105, H106, K107, z110, rfl, o108, l109, h111, h112⟩ := h101
     refine kl_norm ?_
     refine kl_nil (kq_code (kc_region (kl_mv rfl (kl_inc rfl rfl (by omega) ?_))))
     refine kl_as rfl (kl_nil (kq_take [sing b (.cells [vmd, vmc, .int .i64 (8 : Int), .int .i64 n104, v105].toArray 102 (0, 0)), H106, K107] ?_))
     refine kq_roundL ((k + 1), n104, z110, v105, H106, K107) (by (have := hlt.1; omega)) (⟨(by have := hlt.1; omega), ⟨by assumption, by assumption⟩, l109, o108⟩) (pc 9 rfl pn) (pc 0 rfl (pc 4 rfl (pc 5 rfl (pc 8 rfl pn)))) rfl (List.Sublist.refl _)
    ·skip
     have c86r := c86
     try simp only [smpC, decide_eq_true_eq, decide_eq_false_iff_not] at c86
     refine kc_exit ?_
     exact kq_retT0 rfl [sing b (.cells [vmd, vmc, .int .i64 (8 : Int), .int .i64 nd1, v78].toArray 102 (0, 0)), H75, K79] [] noHp frn (fr_no _) ⟨rfl, rfl, nd1, v78, H75, K79, _, rfl, o76, l80, hi74⟩
theorem branchW_ok (k : Nat) : branchWSt k := by
 induction k using Nat.strongRecOn with
 | _ k ih => exact @branchW_step k ih
theorem solveW_ok {Hmd : Hp} {vmd : Value} {Hmc : Hp} {vmc : Value} (m : Mod) (hM : MOk m) (hmd : Ints Hmd vmd m.doms) (hmc : Cons Hmc vmc m.cons) : Spec Tryz.prog 47 [.agg #[vmd, vmc], .int .i64 (8 : Int)] [Hmd, Hmc] (fun Hq vq => ∃ (rq : List (List Int)) (z : Int) (uq0 : Value), vq = .tuple #[uq0, .int .i64 z] ∧ Rows Hq uq0 rq ∧ rq.length ≤ 8 ∧ ∀ x ∈ rq, x.length = m.doms.length) := by
 refine spec_of Tryz.func47 rfl rfl rfl (fun B => ?_)
 refine kc_seq (kc_region (kl_box rfl rfl (fun p1 H2 f3 a4 => ?_)))
 refine kl_as rfl (kl_as rfl (kl_nil (kq_code (kc_seq (kc_region (kl_ldS rfl (by assumption) rfl ?_))))))
 refine kl_mv rfl (kl_bdA [(0, [vmd, vmc]), (1, [.int .i64 (8 : Int)])] [vmd, vmc, .int .i64 (8 : Int), .int .i64 (0 : Int), .slice none 0 0] rfl (cpa rfl (cpa rfl cpa_nil)) rfl ?_)
 refine kl_boxL (cs := [vmd, vmc, .int .i64 (8 : Int), .int .i64 (0 : Int), .slice none 0 0]) rfl rfl (fun b5 hb6 => ?_)
 refine kl_as rfl (kl_nil (kq_code (kc_seq (kc_region (kl_mv rfl (kl_fd rfl (by assumption) (fun p7 a8 => ?_)))))))
 refine kl_ld rfl (by assumption) (kl_no ?_)
 refine kl_no ?_
 refine kl_callT rfl rfl (branchW_ok _ m m.doms [] 0 hM hM.dok rfl (by simp) (by simp) liq_no (by assumption) (by assumption) (by assumption) (OwnL.nil (K := noHp) (R := RowV))) (fun v9 L1 Ln K10 h11 g12 g13 => ?_)
 obtain ⟨rfl, rfl, n14, v15, H16, K17, z20, rfl, o18, l19, h21, h22⟩ := h11
 refine kl_norm ?_
 refine kl_fr H16 (OwnL.liq o18) (fun f23 => ?_)
 refine kl_fr K17 l19 (fun f24 => ?_)
 refine kl_nil (kq_code (kc_seq (kc_draw 10 [true, true, true, true, true, true, true, true, true, true] (by kernel_rfl) (by kernel_rfl) ?_)))
 refine kl_mv rfl (kl_nilchk rfl ?_)
 refine kl_fdV rfl (kl_ldB rfl rfl (kl_mv rfl (kl_nilchk rfl ?_)))
 refine kl_fdV rfl (kl_ldB rfl rfl (kl_as rfl (kl_as rfl (kl_nil (kq_code (kc_ret (kq_frz H16 ?_)))))))
 refine kq_cmp H16 K17 (fun c25 => ?_)
 exact kq_ret2 rfl rfl rfl (orHp H16 K17) (fr_or f23 f24) ⟨z20, n14, _, rfl, (OwnL.rowsK o18 c25), by exact ⟨by assumption, by assumption⟩⟩
theorem assignP_ok {br : Nat} {vbr : Value} {Hr : Hp} {bsr : List Int} {Hmd : Hp} {vmd : Value} {Hmc : Hp} {vmc : Value} (pr : Nat) (m : Mod) (hd1 : 1 ≤ m.doms.length) (hd4 : m.doms.length ≤ 4) (hp : pr + (30) ≤ 1000000) (hr : Bytes Hr vbr bsr) (hmd : Ints Hmd vmd m.doms) (hmc : Cons Hmc vmc m.cons) : SpecT Tryz.prog 24 [.pointer (some ⟨br, 0, none⟩), .agg #[vmd, vmc]] [sing br (.cells [vbr, .int .i64 (pr : Int)].toArray 85 (0, 0))] [Hr, Hmd, Hmc] (fun vq L1 Ln Kq => ∃ q : Nat, q ≤ pr + (30) ∧ L1 = [sing br (.cells [vbr, .int .i64 (q : Int)].toArray 85 (0, 0))] ∧ ∃ (Hq : Hp) (xq : List Int), Ln = [Hq] ∧ OwnL 3 1 Hq noHp IntV vq xq ∧ 1 ≤ xq.length ∧ xq.length ≤ 5) := by
 refine specT_of Tryz.func24 rfl rfl rfl (fun B => ?_)
 refine kc_seq (kc_region (kl_box rfl rfl (fun p1 H2 f3 a4 => ?_)))
 refine kl_as rfl (kl_nil (kq_code (kc_seq (kc_seq (kc_region (kl_ldS rfl (by assumption) rfl ?_))))))
 refine kl_callP rfl rfl (svalidMod_ok m (by assumption) (by assumption)) ?_
 refine kl_mv rfl ?_
 rcases Bool.eq_false_or_eq_true (validModB m) with g5 | g5
 ·skip
  have g5p := g5
  have hM : MOk m := ⟨g5p⟩
  refine kl_gT rfl rfl g5 (kl_mv rfl (kl_gT rfl rfl g5 (kl_callT rfl rfl (pick_ok pr (3 : Int) (by omega) hr) (fun v6 L1 Ln K10 h7 f8 f9 => ?_))))
  obtain ⟨q11, h12, rfl, rfl, z13, rfl, h14⟩ := h7
  try have hr9 := hrq _ (getD_mem (d := []) (show Int.toNat z13 < _ from by omega))
  refine kl_norm ?_
  refine kl_gT rfl rfl g5 (kl_gtr rfl rfl ?_)
  refine kl_pickT rfl g5 rfl ?_
  refine kl_nil (kq_code (kc_if rfl (fun c17 => ?_) (fun c17 => ?_)))
  ·skip
   refine kc_seq (kc_region (kl_ldS rfl (by assumption) rfl ?_))
   refine kl_call rfl rfl (solveW_ok m hM (by assumption) (by assumption)) (fun v18 H19 f20 h21 => ?_)
   obtain ⟨z24, z27, u25, rfl, h26, h23⟩ := h21
   have hrq := h23.2
   have hrl := h23.1
   refine kl_mv rfl (kl_xt rfl rfl (kl_xt rfl rfl (kl_as rfl (kl_as rfl (kl_nil (kq_code (kc_seq (kc_region (kl_mv rfl (kl_len rfl (by assumption) (fun l28 => ?_)))))))))))
   refine kl_gtr rfl rfl ?_
   refine kl_nil (kq_code (kc_if rfl (fun c29 => ?_) (fun c29 => ?_)))
   ·skip
    refine kc_seq (kc_region (kl_mv rfl (kl_mv rfl (kl_mv rfl (kl_len rfl (by assumption) (fun l30 => ?_))))))
    refine kl_callT rfl rfl (pick_ok q11 (z24.length : Int) (by omega) hr) (fun v31 L1 Ln K35 h32 f33 f34 => ?_)
    obtain ⟨q36, h37, rfl, rfl, z38, rfl, h39⟩ := h32
    try have hr9 := hrq _ (getD_mem (d := []) (show Int.toNat z38 < _ from by omega))
    refine kl_norm ?_
    refine kl_ixS rfl rfl (by assumption) (by first | omega | (simp; omega)) (by first | omega | (simp; omega)) (fun p42 u44 h45 a43 => ?_)
    refine kl_ld rfl (by assumption) (kl_callL rfl rfl (copyInts_ok (z24.getD z38.toNat []) (by omega) (by assumption)) (fun v46 H47 f48 o49 => ?_))
    refine kl_as rfl (kl_nil (kq_code (kc_seq (kc_seq (kc_region (kl_mv rfl (kl_callT rfl rfl (pick_ok q36 (3 : Int) (by omega) hr) (fun v50 L1 Ln K54 h51 f52 f53 => ?_))))))))
    obtain ⟨q55, h56, rfl, rfl, z57, rfl, h58⟩ := h51
    try have hr9 := hrq _ (getD_mem (d := []) (show Int.toNat z57 < _ from by omega))
    refine kl_norm ?_
    refine kl_eql rfl rfl ?_
    refine kl_nil (kq_code (kc_if rfl (fun c61 => ?_) (fun c61 => ?_)))
    ·skip
     refine kc_region (kl_mv rfl (kl_mv rfl (kl_mv rfl (kl_lenL rfl o49 (fun l62 => ?_)))))
     refine kl_callT rfl rfl (pick_ok q55 ((z24.getD z38.toNat []).length : Int) (by omega) hr) (fun v63 L1 Ln K67 h64 f65 f66 => ?_)
     obtain ⟨q68, h69, rfl, rfl, z70, rfl, h71⟩ := h64
     try have hr9 := hrq _ (getD_mem (d := []) (show Int.toNat z70 < _ from by omega))
     refine kl_norm ?_
     refine kl_mv rfl (kl_callT rfl rfl (pick_ok q68 (6 : Int) (by omega) hr) (fun v74 L1 Ln K78 h75 f76 f77 => ?_))
     obtain ⟨q79, h80, rfl, rfl, z81, rfl, h82⟩ := h75
     try have hr9 := hrq _ (getD_mem (d := []) (show Int.toNat z81 < _ from by omega))
     refine kl_norm ?_
     refine kl_ixL rfl rfl (by assumption) (by first | omega | (simp; omega)) (by first | omega | (simp; omega)) (fun p85 q86 => ?_)
     refine kl_stL z81 rfl rfl (by assumption) o49 (by first | omega | (simp; omega)) rfl rfl rfl (fun H87 o88 f89 => ?_)
     have f90 := f89 _ f48
     refine kl_chg [sing br (.cells [vbr, .int .i64 (q79 : Int)].toArray 85 (0, 0)), H87] rfl ?_
     refine kl_nil (kq_code (kc_seq (kc_region (kl_mv rfl (kl_as rfl (kl_nil (kq_code (kc_ret ?_))))))))
     exact kq_retT rfl rfl [sing br (.cells [vbr, .int .i64 (q79 : Int)].toArray 85 (0, 0))] [H87] noHp (fr1 f90) (fr_no _) ⟨q79, by omega, rfl, H87, ((z24.getD z38.toNat []).set z70.toNat z81), rfl, o88, by first | omega | (simp only [List.length_set, List.length_append, List.length_cons, List.length_nil]; omega) | (simp; omega)⟩
    ·skip
     refine kc_skipQ (kq_code (kc_seq (kc_region (kl_mv rfl (kl_as rfl (kl_nil (kq_code (kc_ret ?_))))))))
     exact kq_retT rfl rfl [sing br (.cells [vbr, .int .i64 (q55 : Int)].toArray 85 (0, 0))] [H47] noHp (fr1 f48) (fr_no _) ⟨q55, by omega, rfl, H47, (z24.getD z38.toNat []), rfl, o49, by first | omega | (simp only [List.length_set, List.length_append, List.length_cons, List.length_nil]; omega) | (simp; omega)⟩
   ·skip
    refine kc_skipQ (kq_code (kc_seq (kc_region (kl_mv rfl (kl_fd rfl (by assumption) (fun p91 a92 => ?_))))))
    refine kl_ld rfl (by assumption) (kl_len rfl (by assumption) (fun l93 => ?_))
    refine kl_callT rfl rfl (randomRow_ok q11 (m.doms.length : Int) (by omega) (by omega) hr) (fun v94 L1 Ln K98 h95 f96 f97 => ?_)
    obtain ⟨q99, h100, rfl, H103, z101, rfl, o104, h102⟩ := h95
    have f105 := f96 _ (.head _)
    refine kl_norm ?_
    refine kl_as rfl (kl_nil (kq_code (kc_seq (kc_seq (kc_region (kl_mv rfl (kl_callT rfl rfl (pick_ok q99 (14 : Int) (by omega) hr) (fun v106 L1 Ln K110 h107 f108 f109 => ?_))))))))
    obtain ⟨q111, h112, rfl, rfl, z113, rfl, h114⟩ := h107
    try have hr9 := hrq _ (getD_mem (d := []) (show Int.toNat z113 < _ from by omega))
    refine kl_norm ?_
    refine kl_eql rfl rfl ?_
    refine kl_nil (kq_code (kc_if rfl (fun c117 => ?_) (fun c117 => ?_)))
    ·skip
     refine kc_seq (kc_region (kl_mv rfl (kl_mv rfl (kl_bs rfl rfl rfl (by decide) (ca rfl (ca rfl ca_nil)) (fun v118 H119 f120 r121 s122 => ?_)))))
     have h123 : Ints H119 v118 [(0 : Int), (6 : Int)] := litInts (xs := [(0 : Int), (6 : Int)]) (by simpa using s122)
     refine kl_callT rfl rfl (one_ok q111 ([(0 : Int), (6 : Int)]) (by simp) (by omega) hr (by assumption)) (fun v124 L1 Ln K128 h125 f126 f127 => ?_)
     obtain ⟨q129, h130, rfl, rfl, z131, rfl, h132⟩ := h125
     refine kl_norm ?_
     refine kl_bs rfl rfl rfl (by decide) (ca rfl ca_nil) (fun v135 H136 f137 r138 s139 => ?_)
     have h140 : Ints H136 v135 [z131] := litInts (xs := [z131]) (by simpa using s139)
     refine kl_apL z131 rfl rfl o104 (by assumption) rfl (oc rfl oc_nil) (by (simp; omega)) (by decide) (fun v141 H142 o143 f144 => ?_)
     have f145 := f144 B f105 (Nat.le_refl _)
     refine kl_as rfl (kl_nil (kq_code (kc_ret ?_)))
     exact kq_retT rfl rfl [sing br (.cells [vbr, .int .i64 (q129 : Int)].toArray 85 (0, 0))] [H142] noHp (fr1 f145) (fr_no _) ⟨q129, by omega, rfl, H142, (z101 ++ [z131]), rfl, o143, by first | omega | (simp only [List.length_set, List.length_append, List.length_cons, List.length_nil]; omega) | (simp; omega)⟩
    ·skip
     refine kc_skipQ (kq_code (kc_seq (kc_region (kl_mv rfl (kl_as rfl (kl_nil (kq_code (kc_ret ?_))))))))
     exact kq_retT rfl rfl [sing br (.cells [vbr, .int .i64 (q111 : Int)].toArray 85 (0, 0))] [H103] noHp (fr1 f105) (fr_no _) ⟨q111, by omega, rfl, H103, z101, rfl, o104, by first | omega | (simp only [List.length_set, List.length_append, List.length_cons, List.length_nil]; omega) | (simp; omega)⟩
  ·skip
   refine kc_skipQ (kq_code (kc_seq (kc_region (kl_mv rfl (kl_fd rfl (by assumption) (fun p146 a147 => ?_))))))
   refine kl_ld rfl (by assumption) (kl_len rfl (by assumption) (fun l148 => ?_))
   refine kl_callT rfl rfl (randomRow_ok q11 (m.doms.length : Int) (by omega) (by omega) hr) (fun v149 L1 Ln K153 h150 f151 f152 => ?_)
   obtain ⟨q154, h155, rfl, H158, z156, rfl, o159, h157⟩ := h150
   have f160 := f151 _ (.head _)
   refine kl_norm ?_
   refine kl_as rfl (kl_nil (kq_code (kc_seq (kc_seq (kc_region (kl_mv rfl (kl_callT rfl rfl (pick_ok q154 (14 : Int) (by omega) hr) (fun v161 L1 Ln K165 h162 f163 f164 => ?_))))))))
   obtain ⟨q166, h167, rfl, rfl, z168, rfl, h169⟩ := h162
   try have hr9 := hrq _ (getD_mem (d := []) (show Int.toNat z168 < _ from by omega))
   refine kl_norm ?_
   refine kl_eql rfl rfl ?_
   refine kl_nil (kq_code (kc_if rfl (fun c172 => ?_) (fun c172 => ?_)))
   ·skip
    refine kc_seq (kc_region (kl_mv rfl (kl_mv rfl (kl_bs rfl rfl rfl (by decide) (ca rfl (ca rfl ca_nil)) (fun v173 H174 f175 r176 s177 => ?_)))))
    have h178 : Ints H174 v173 [(0 : Int), (6 : Int)] := litInts (xs := [(0 : Int), (6 : Int)]) (by simpa using s177)
    refine kl_callT rfl rfl (one_ok q166 ([(0 : Int), (6 : Int)]) (by simp) (by omega) hr (by assumption)) (fun v179 L1 Ln K183 h180 f181 f182 => ?_)
    obtain ⟨q184, h185, rfl, rfl, z186, rfl, h187⟩ := h180
    refine kl_norm ?_
    refine kl_bs rfl rfl rfl (by decide) (ca rfl ca_nil) (fun v190 H191 f192 r193 s194 => ?_)
    have h195 : Ints H191 v190 [z186] := litInts (xs := [z186]) (by simpa using s194)
    refine kl_apL z186 rfl rfl o159 (by assumption) rfl (oc rfl oc_nil) (by (simp; omega)) (by decide) (fun v196 H197 o198 f199 => ?_)
    have f200 := f199 B f160 (Nat.le_refl _)
    refine kl_as rfl (kl_nil (kq_code (kc_ret ?_)))
    exact kq_retT rfl rfl [sing br (.cells [vbr, .int .i64 (q184 : Int)].toArray 85 (0, 0))] [H197] noHp (fr1 f200) (fr_no _) ⟨q184, by omega, rfl, H197, (z156 ++ [z186]), rfl, o198, by first | omega | (simp only [List.length_set, List.length_append, List.length_cons, List.length_nil]; omega) | (simp; omega)⟩
   ·skip
    refine kc_skipQ (kq_code (kc_seq (kc_region (kl_mv rfl (kl_as rfl (kl_nil (kq_code (kc_ret ?_))))))))
    exact kq_retT rfl rfl [sing br (.cells [vbr, .int .i64 (q166 : Int)].toArray 85 (0, 0))] [H158] noHp (fr1 f160) (fr_no _) ⟨q166, by omega, rfl, H158, z156, rfl, o159, by first | omega | (simp only [List.length_set, List.length_append, List.length_cons, List.length_nil]; omega) | (simp; omega)⟩
 ·skip
  have g5p := g5
  refine kl_gF rfl rfl g5 (kl_gF rfl rfl g5 (kl_gF rfl rfl g5 (kl_pickF rfl g5 rfl ?_)))
  refine kl_nil (kq_code (kc_cond rfl (fun c201 => ?_) (fun c201 => ?_)))
  ·skip
   have c201r := c201
   try simp only [smpC, decide_eq_true_eq, decide_eq_false_iff_not] at c201
   exact absurd c201 (by decide)
  ·skip
   have c201r := c201
   try simp only [smpC, decide_eq_true_eq, decide_eq_false_iff_not] at c201
   refine kc_skipQ (kq_code (kc_seq (kc_region (kl_mv rfl (kl_fd rfl (by assumption) (fun p202 a203 => ?_))))))
   refine kl_ld rfl (by assumption) (kl_len rfl (by assumption) (fun l204 => ?_))
   refine kl_callT rfl rfl (randomRow_ok pr (m.doms.length : Int) (by omega) (by omega) hr) (fun v205 L1 Ln K209 h206 f207 f208 => ?_)
   obtain ⟨q210, h211, rfl, H214, z212, rfl, o215, h213⟩ := h206
   have f216 := f207 _ (.head _)
   refine kl_norm ?_
   refine kl_as rfl (kl_nil (kq_code (kc_seq (kc_seq (kc_region (kl_mv rfl (kl_callT rfl rfl (pick_ok q210 (14 : Int) (by omega) hr) (fun v217 L1 Ln K221 h218 f219 f220 => ?_))))))))
   obtain ⟨q222, h223, rfl, rfl, z224, rfl, h225⟩ := h218
   try have hr9 := hrq _ (getD_mem (d := []) (show Int.toNat z224 < _ from by omega))
   refine kl_norm ?_
   refine kl_eql rfl rfl ?_
   refine kl_nil (kq_code (kc_if rfl (fun c228 => ?_) (fun c228 => ?_)))
   ·skip
    refine kc_seq (kc_region (kl_mv rfl (kl_mv rfl (kl_bs rfl rfl rfl (by decide) (ca rfl (ca rfl ca_nil)) (fun v229 H230 f231 r232 s233 => ?_)))))
    have h234 : Ints H230 v229 [(0 : Int), (6 : Int)] := litInts (xs := [(0 : Int), (6 : Int)]) (by simpa using s233)
    refine kl_callT rfl rfl (one_ok q222 ([(0 : Int), (6 : Int)]) (by simp) (by omega) hr (by assumption)) (fun v235 L1 Ln K239 h236 f237 f238 => ?_)
    obtain ⟨q240, h241, rfl, rfl, z242, rfl, h243⟩ := h236
    refine kl_norm ?_
    refine kl_bs rfl rfl rfl (by decide) (ca rfl ca_nil) (fun v246 H247 f248 r249 s250 => ?_)
    have h251 : Ints H247 v246 [z242] := litInts (xs := [z242]) (by simpa using s250)
    refine kl_apL z242 rfl rfl o215 (by assumption) rfl (oc rfl oc_nil) (by (simp; omega)) (by decide) (fun v252 H253 o254 f255 => ?_)
    have f256 := f255 B f216 (Nat.le_refl _)
    refine kl_as rfl (kl_nil (kq_code (kc_ret ?_)))
    exact kq_retT rfl rfl [sing br (.cells [vbr, .int .i64 (q240 : Int)].toArray 85 (0, 0))] [H253] noHp (fr1 f256) (fr_no _) ⟨q240, by omega, rfl, H253, (z212 ++ [z242]), rfl, o254, by first | omega | (simp only [List.length_set, List.length_append, List.length_cons, List.length_nil]; omega) | (simp; omega)⟩
   ·skip
    refine kc_skipQ (kq_code (kc_seq (kc_region (kl_mv rfl (kl_as rfl (kl_nil (kq_code (kc_ret ?_))))))))
    exact kq_retT rfl rfl [sing br (.cells [vbr, .int .i64 (q222 : Int)].toArray 85 (0, 0))] [H214] noHp (fr1 f216) (fr_no _) ⟨q222, by omega, rfl, H214, z212, rfl, o215, by first | omega | (simp only [List.length_set, List.length_append, List.length_cons, List.length_nil]; omega) | (simp; omega)⟩
abbrev playsSSt (k : Nat) : Prop := ∀ {Hmd : Hp} {vmd : Value} {Hmc : Hp} {vmc : Value} {Hfa : Hp} {vfa : Value} {Hx : Hp} {vx : Value} (m : Mod) (fa : List Bool) (x : List Int) (hM : MOk m) (hf : fa.length = m.doms.length) (hl : x.length + k = m.doms.length) (hX : Vals x) (hmd : Ints Hmd vmd m.doms) (hmc : Cons Hmc vmc m.cons) (hfa : Bools Hfa vfa fa) (hx : Ints Hx vx x), Spec Tryz.prog 68 [.agg #[vmd, vmc], vfa, vx] [Hmd, Hmc, Hfa, Hx] (fun Hq vq => MatR 23 3 encI Hq vq (playS m fa k x))
theorem playsS_step (k : Nat) (ih : ∀ j, j < k → playsSSt j) : playsSSt k := by
 intro Hmd vmd Hmc vmc Hfa vfa Hx vx m fa x hM hf hl hX hmd hmc hfa hx
 have hn := hM.n
 refine spec_of Tryz.func68 rfl rfl rfl (fun B => ?_)
 refine kc_seq (kc_region (kl_box rfl rfl (fun p1 H2 f3 a4 => ?_)))
 refine kl_as rfl (kl_nil (kq_code (kc_seq (kc_region (kl_mv rfl (kl_len rfl (by assumption) (fun l5 => ?_)))))))
 refine kl_as rfl (kl_nil (kq_code (kc_seq (kc_seq (kc_region (kl_mv rfl (kl_fd rfl (by assumption) (fun p6 a7 => ?_))))))))
 refine kl_ld rfl (by assumption) (kl_len rfl (by assumption) (fun l8 => ?_))
 refine kl_eql rfl rfl ?_
 refine kl_nil (kq_code (kc_if rfl (fun c9 => ?_) (fun c9 => ?_)))
 ·skip
  have hk0 : k = 0 := by omega
  subst hk0
  refine kc_seq (kc_region (kl_mv rfl (kl_callL rfl rfl (copyInts_ok x (by omega) (by assumption)) (fun v10 H11 f12 o13 => ?_))))
  refine kl_bsO (us := [v10]) rfl rfl rfl (by decide) (fun _ h => by rw [List.mem_singleton.1 h]; exact OwnL.cells o13) (fun v14 H15 f16 o17 => ?_)
  have o18 : Mat 23 3 encI H15 H11 v14 [v10] [x] := Mat.one o17 (OwnL.imap o13) (by omega) (OwnL.liq o13)
  refine kl_as rfl (kl_nil (kq_code (kc_ret (kq_apart H15 H11 (fun c19 => ?_)))))
  have e9 : [x] = playS m fa 0 x := by rfl
  exact kq_ret rfl rfl (orHp H15 H11) (fr_or f16 f12) ⟨H15, H11, [v10], rfl, c19, (Mat.castX e9 o18)⟩
 ·skip
  obtain ⟨j, rfl⟩ : ∃ j, k = j + 1 := ⟨k - 1, by omega⟩
  have hn := hM.n
  refine kc_skipQ (kq_code (kc_seq (kc_region (kl_bsO (us := []) rfl rfl rfl (by decide) (fun _ h => by cases h) (fun v20 H21 f22 o23 => ?_)))))
  refine kl_no ?_
  have o24 : Mat 23 3 encI H21 noHp v20 [] [] := Mat.nil o23
  refine kl_as rfl (kl_nil (kq_code (kc_seq (kc_region (kl_fd rfl (by assumption) (fun p26 a27 => ?_))))))
  refine kl_ld rfl (by assumption) (kl_mv rfl (kl_inI rfl rfl (by assumption) (by omega) (fun p28 a29 => ?_)))
  refine kl_ld rfl (by assumption) (kl_call rfl rfl (domainValues_ok (m.doms.getD x.length 0)) (fun v30 H31 f32 h33 => ?_))
  refine kl_as rfl (kl_nil (kq_code (kc_seq (kc_seq (kc_region (kl_as rfl (kl_nil (kq_code (kc_block (kc_loopL (A := Nat × List (List Int) × Value × Hp × List Value × Hp) (fun zz => (zz.1 ≤ (valsI (m.doms.getD x.length 0)).length) ∧ (PlI m fa j x zz.1 zz.2.1) ∧ Mat 23 3 encI zz.2.2.2.1 zz.2.2.2.2.2 zz.2.2.1 zz.2.2.2.2.1 zz.2.1 ∧ Fr B zz.2.2.2.2.2 ∧ Fr B zz.2.2.2.1) (fun zz => (valsI (m.doms.getD x.length 0)).length - zz.1) (fun zz => [zz.2.2.2.2.2, zz.2.2.2.1]) (fun zz => [(10, .int .i64 (zz.1 : Int)), (8, zz.2.2.1)]) (0, ([]), v20, H21, ([]), noHp) (pc 1 rfl (pc 2 rfl (pc 3 rfl (pc 7 rfl (pc 9 rfl pn))))) (pc 10 rfl (pc 8 rfl pn)) rfl ⟨Nat.zero_le _, pl_0, o24, (fr_no _), f22⟩ ?_))))))))))
  rintro ⟨q, out, v38, H39, us40, K36⟩ hJ43
  obtain ⟨hk34, hi35, o37, f41, f42⟩ : (q ≤ (valsI (m.doms.getD x.length 0)).length) ∧ (PlI m fa j x q out) ∧ Mat 23 3 encI H39 K36 v38 us40 out ∧ Fr B K36 ∧ Fr B H39 := hJ43
  change KC _ _ (_) [K36, H39] _ ([(10, .int .i64 (q : Int)), (8, v38)] ++ _)
  refine kc_seq (kc_seq (kc_region (kl_mv rfl (kl_mv rfl (kl_len rfl (by assumption) (fun l44 => ?_))))))
  refine kl_lss rfl rfl ?_
  refine kl_nil (kq_code (kc_if rfl (fun c45 => ?_) (fun c45 => ?_)))
  ·skip
   have hv := valsI_mem (getD_mem (d := (0 : Int)) (by omega : q < (valsI (m.doms.getD x.length 0)).length))
   have hpb := pl_b hi35 (by omega)
   have hpl := playS_len m fa j (x ++ [(valsI (m.doms.getD x.length 0)).getD q 0])
   have hp4 : 6 ^ j ≤ 1296 := pow6 (by omega)
   refine kc_skipQ (kq_code (kc_seq (kc_block (kc_seq (kc_tree (fun i => ([7] : List Nat).contains i) [] (by kernel_rfl) ?_)))))
   refine kt_q 0 (List.nil_sublist _) rfl (by kernel_rfl) (kl_mv rfl (kl_nil (kq_q (kt_q 2 (List.nil_sublist _) rfl (by kernel_rfl) (kl_mv rfl (kl_nil (kq_q (kt_q 3 (List.nil_sublist _) rfl (by kernel_rfl) (kl_mv rfl (kl_nil (kq_q ?_)))))))))))
   refine kt_q 4 (List.nil_sublist _) rfl (by kernel_rfl) (kl_inI rfl rfl (by assumption) (by omega) (fun p46 a47 => ?_))
   refine kl_nil (kq_q (kt_q 5 (List.nil_sublist _) rfl (by kernel_rfl) (kl_ld rfl (by assumption) (kl_nil (kq_q (kt_b 1 6 rfl rfl (by kernel_rfl) ?_ ?_))))))
   ·skip
    refine kl_callL rfl rfl (copyInts_ok x (by omega) (by assumption)) (fun v48 H49 f50 o51 => ?_)
    refine kl_nil (kq_a (List.nil_sublist _) (kt_a 6 rfl (by kernel_rfl) (kl_bs rfl rfl rfl (by decide) (ca rfl ca_nil) (fun v52 H53 f54 r55 s56 => ?_))))
    have h57 : Ints H53 v52 [((valsI (m.doms.getD x.length 0)).getD q 0)] := litInts (xs := [((valsI (m.doms.getD x.length 0)).getD q 0)]) (by simpa using s56)
    refine kl_nil (kq_a (List.nil_sublist _) (kt_a 7 rfl (by kernel_rfl) (kl_apL ((valsI (m.doms.getD x.length 0)).getD q 0) rfl rfl o51 (by assumption) rfl (oc rfl oc_nil) (by omega) (by decide) (fun v58 H59 o60 f61 => ?_))))
    have f62 := f61 B f50 (Nat.le_refl _)
    refine kl_nil (kq_x rfl (kt_q 8 (List.nil_sublist _) rfl (by kernel_rfl) (kl_as rfl (kl_nil (kq_q (kt_end (by kernel_rfl) ?_))))))
    refine kq_code (kc_seq (kc_region (kl_mv rfl (kl_mv rfl (kl_inB rfl rfl (by assumption) (by omega) (fun p63 a64 => ?_))))))
    refine kl_ld rfl (by assumption) (kl_mv rfl (kl_join 5 52 (.bool ((fa.getD x.length false) || (winB m fa j (x ++ [((valsI (m.doms.getD x.length 0)).getD q 0)])))) (pc 1 rfl (pc 2 rfl (pc 3 rfl (pc 7 rfl (pc 8 rfl (pc 9 rfl (pc 10 rfl (pc 11 rfl (pc 29 rfl (pc 30 rfl (pc 31 rfl (pc 32 rfl (pc 35 rfl (pc 36 rfl (pc 37 rfl (pc 38 rfl (pc 39 rfl (pc 40 rfl (pc 41 rfl (pc 42 rfl (pc 43 rfl (pc 44 rfl (pc 45 rfl (pc 46 rfl (pc 47 rfl pn))))))))))))))))))))))))) (fun J66 => ?_) ?_))
    ·rcases Bool.eq_false_or_eq_true (fa.getD x.length false) with g65 | g65
     ·skip
      refine kl_gF rfl rfl g65 (kl_gF rfl rfl g65 (kl_gF rfl rfl g65 (kl_gF rfl rfl g65 (kl_orT (winB m fa j (x ++ [((valsI (m.doms.getD x.length 0)).getD q 0)])) rfl rfl g65 ?_))))
      exact J66 _ (pc 52 rfl (pc 1 rfl (pc 2 rfl (pc 3 rfl (pc 7 rfl (pc 8 rfl (pc 9 rfl (pc 10 rfl (pc 11 rfl (pc 29 rfl (pc 30 rfl (pc 31 rfl (pc 32 rfl (pc 35 rfl (pc 36 rfl (pc 37 rfl (pc 38 rfl (pc 39 rfl (pc 40 rfl (pc 41 rfl (pc 42 rfl (pc 43 rfl (pc 44 rfl (pc 45 rfl (pc 46 rfl (pc 47 rfl pn))))))))))))))))))))))))))
     ·skip
      have g65p := g65
      try simp only [Bool.not_eq_true', Bool.not_eq_false', decide_eq_true_eq, decide_eq_false_iff_not, Bool.and_eq_true, Bool.or_eq_false_iff, withinB_iff] at g65p
      refine kl_gT rfl rfl g65 (kl_ldS rfl (by assumption) rfl ?_)
      refine kl_gT rfl rfl g65 (kl_mv rfl (kl_gT rfl rfl g65 (kl_mv rfl (kl_gT rfl rfl g65 (kl_callP rfl rfl (wins_ok j m fa (x ++ [((valsI (m.doms.getD x.length 0)).getD q 0)]) hM hf (by simp; omega) (hX.snoc hv) (by assumption) (by assumption) (by assumption) (OwnL.ints o60)) ?_)))))
      refine kl_orF rfl rfl g65 ?_
      exact J66 _ (pc 52 rfl (pc 1 rfl (pc 2 rfl (pc 3 rfl (pc 7 rfl (pc 8 rfl (pc 9 rfl (pc 10 rfl (pc 11 rfl (pc 29 rfl (pc 30 rfl (pc 31 rfl (pc 32 rfl (pc 35 rfl (pc 36 rfl (pc 37 rfl (pc 38 rfl (pc 39 rfl (pc 40 rfl (pc 41 rfl (pc 42 rfl (pc 43 rfl (pc 44 rfl (pc 45 rfl (pc 46 rfl (pc 47 rfl pn))))))))))))))))))))))))))
    refine kl_nil (kq_code (kc_cond rfl (fun c67 => ?_) (fun c67 => ?_)))
    ·skip
     have c67r := c67
     try simp only [smpC, decide_eq_true_eq, decide_eq_false_iff_not] at c67
     refine kc_seq (kc_region (kl_mv rfl (kl_ldS rfl (by assumption) rfl ?_)))
     refine kl_mv rfl (kl_mv rfl (kl_callL rfl rfl (ih j (by omega) m fa (x ++ [((valsI (m.doms.getD x.length 0)).getD q 0)]) hM hf (by simp; omega) (hX.snoc hv) (by assumption) (by assumption) (by assumption) (OwnL.ints o60)) (fun v68 H69 f70 h71 => ?_)))
     obtain ⟨H72, K73, us74, rfl, a75, m76⟩ := h71
     refine kl_split H72 K73 a75 ?_
     have f78 := fr_l f70 m76.hlq
     have f79 := fr_r f70 m76.lq
     refine kl_frz H72 ?_
     refine kl_apart K36 K73 (fun a85 => ?_)
     refine kl_mtApp rfl rfl o37 m76 a85 (by omega) (by decide) (fun v80 H81 m82 f83 => ?_)
     have f84 := f83 B f42 (Nat.le_refl _)
     refine kl_mrg K36 K73 ?_
     refine kl_as rfl (kl_nil (kq_code (kc_seq (kc_region (kl_mv rfl (kl_mv rfl (kl_inB rfl rfl (by assumption) (by omega) (fun p86 a87 => ?_))))))))
     refine kl_ld rfl (by assumption) (kl_not rfl (kl_nil (kq_code (kc_cond rfl (fun c88 => ?_) (fun c88 => ?_)))))
     ·skip
      have c88r := c88
      try simp only [smpC, decide_eq_true_eq, decide_eq_false_iff_not] at c88
      refine kc_seq (kc_region (kl_mv rfl (kl_as rfl (kl_nil (kq_code (kc_ret (kq_apart H81 (orHp K36 K73) (fun c89 => ?_))))))))
      have e9 : (out ++ (playS m fa j (x ++ [((valsI (m.doms.getD x.length 0)).getD q 0)]))) = playS m fa (j + 1) x := by first | exact pl_end hi35 (by omega) | exact pl_hit hi35 (by omega) (by assumption) (by simpa using (by assumption : (!(fa.getD x.length false)) = true))
      exact kq_ret rfl rfl (orHp H81 (orHp K36 K73)) (fr_or f84 (fr_or f41 f79)) ⟨H81, (orHp K36 K73), (us40 ++ us74), rfl, c89, (Mat.castX e9 m82)⟩
     ·skip
      have c88r := c88
      try simp only [smpC, decide_eq_true_eq, decide_eq_false_iff_not] at c88
      refine kc_skipQ (kq_code (kc_region (kl_mv rfl (kl_inc rfl rfl (by omega) ?_))))
      refine kl_as rfl (kl_nil (kq_take [(orHp K36 K73), H81] ?_))
      refine kq_roundL ((q + 1), (out ++ (playS m fa j (x ++ [((valsI (m.doms.getD x.length 0)).getD q 0)]))), v80, H81, (us40 ++ us74), (orHp K36 K73)) (by omega) (⟨by omega, (by first | exact pl_T hi35 (by omega) (by simpa using (by assumption : (!(fa.getD x.length false)) = false)) | exact pl_F hi35 (by omega) (by assumption)), m82, (fr_or f41 f79), f84⟩) (pc 10 rfl (pc 8 rfl pn)) (pc 1 rfl (pc 2 rfl (pc 3 rfl (pc 7 rfl (pc 9 rfl pn))))) rfl (List.Sublist.refl _)
    ·skip
     have c67r := c67
     try simp only [smpC, decide_eq_true_eq, decide_eq_false_iff_not] at c67
     refine kc_skipQ (kq_code (kc_region (kl_mv rfl (kl_inc rfl rfl (by omega) ?_))))
     refine kl_as rfl (kl_nil (kq_take [K36, H39] ?_))
     refine kq_roundL ((q + 1), out, v38, H39, us40, K36) (by omega) (⟨by omega, (by first | exact pl_T hi35 (by omega) (by simpa using (by assumption : (!(fa.getD x.length false)) = false)) | exact pl_F hi35 (by omega) (by assumption)), o37, f41, f42⟩) (pc 10 rfl (pc 8 rfl pn)) (pc 1 rfl (pc 2 rfl (pc 3 rfl (pc 7 rfl (pc 9 rfl pn))))) rfl (List.Sublist.refl _)
   ·skip
    refine kl_bs rfl rfl rfl (by decide) (ca rfl ca_nil) (fun v90 H91 f92 r93 s94 => ?_)
    have h95 : Ints H91 v90 [((valsI (m.doms.getD x.length 0)).getD q 0)] := litInts (xs := [((valsI (m.doms.getD x.length 0)).getD q 0)]) (by simpa using s94)
    refine kl_nil (kq_a (List.nil_sublist _) (kt_a 1 rfl (by kernel_rfl) (kl_callL rfl rfl (copyInts_ok x (by omega) (by assumption)) (fun v96 H97 f98 o99 => ?_))))
    refine kl_nil (kq_a (List.nil_sublist _) (kt_a 7 rfl (by kernel_rfl) (kl_apL ((valsI (m.doms.getD x.length 0)).getD q 0) rfl rfl o99 (by assumption) rfl (oc rfl oc_nil) (by omega) (by decide) (fun v100 H101 o102 f103 => ?_))))
    have f104 := f103 B f98 (Nat.le_refl _)
    refine kl_nil (kq_x rfl (kt_q 8 (List.nil_sublist _) rfl (by kernel_rfl) (kl_as rfl (kl_nil (kq_q (kt_end (by kernel_rfl) ?_))))))
    refine kq_code (kc_seq (kc_region (kl_mv rfl (kl_mv rfl (kl_inB rfl rfl (by assumption) (by omega) (fun p105 a106 => ?_))))))
    refine kl_ld rfl (by assumption) (kl_mv rfl (kl_join 5 52 (.bool ((fa.getD x.length false) || (winB m fa j (x ++ [((valsI (m.doms.getD x.length 0)).getD q 0)])))) (pc 1 rfl (pc 2 rfl (pc 3 rfl (pc 7 rfl (pc 8 rfl (pc 9 rfl (pc 10 rfl (pc 11 rfl (pc 29 rfl (pc 30 rfl (pc 31 rfl (pc 32 rfl (pc 35 rfl (pc 36 rfl (pc 37 rfl (pc 38 rfl (pc 39 rfl (pc 40 rfl (pc 41 rfl (pc 42 rfl (pc 43 rfl (pc 44 rfl (pc 45 rfl (pc 46 rfl (pc 47 rfl pn))))))))))))))))))))))))) (fun J108 => ?_) ?_))
    ·rcases Bool.eq_false_or_eq_true (fa.getD x.length false) with g107 | g107
     ·skip
      refine kl_gF rfl rfl g107 (kl_gF rfl rfl g107 (kl_gF rfl rfl g107 (kl_gF rfl rfl g107 (kl_orT (winB m fa j (x ++ [((valsI (m.doms.getD x.length 0)).getD q 0)])) rfl rfl g107 ?_))))
      exact J108 _ (pc 52 rfl (pc 1 rfl (pc 2 rfl (pc 3 rfl (pc 7 rfl (pc 8 rfl (pc 9 rfl (pc 10 rfl (pc 11 rfl (pc 29 rfl (pc 30 rfl (pc 31 rfl (pc 32 rfl (pc 35 rfl (pc 36 rfl (pc 37 rfl (pc 38 rfl (pc 39 rfl (pc 40 rfl (pc 41 rfl (pc 42 rfl (pc 43 rfl (pc 44 rfl (pc 45 rfl (pc 46 rfl (pc 47 rfl pn))))))))))))))))))))))))))
     ·skip
      have g107p := g107
      try simp only [Bool.not_eq_true', Bool.not_eq_false', decide_eq_true_eq, decide_eq_false_iff_not, Bool.and_eq_true, Bool.or_eq_false_iff, withinB_iff] at g107p
      refine kl_gT rfl rfl g107 (kl_ldS rfl (by assumption) rfl ?_)
      refine kl_gT rfl rfl g107 (kl_mv rfl (kl_gT rfl rfl g107 (kl_mv rfl (kl_gT rfl rfl g107 (kl_callP rfl rfl (wins_ok j m fa (x ++ [((valsI (m.doms.getD x.length 0)).getD q 0)]) hM hf (by simp; omega) (hX.snoc hv) (by assumption) (by assumption) (by assumption) (OwnL.ints o102)) ?_)))))
      refine kl_orF rfl rfl g107 ?_
      exact J108 _ (pc 52 rfl (pc 1 rfl (pc 2 rfl (pc 3 rfl (pc 7 rfl (pc 8 rfl (pc 9 rfl (pc 10 rfl (pc 11 rfl (pc 29 rfl (pc 30 rfl (pc 31 rfl (pc 32 rfl (pc 35 rfl (pc 36 rfl (pc 37 rfl (pc 38 rfl (pc 39 rfl (pc 40 rfl (pc 41 rfl (pc 42 rfl (pc 43 rfl (pc 44 rfl (pc 45 rfl (pc 46 rfl (pc 47 rfl pn))))))))))))))))))))))))))
    refine kl_nil (kq_code (kc_cond rfl (fun c109 => ?_) (fun c109 => ?_)))
    ·skip
     have c109r := c109
     try simp only [smpC, decide_eq_true_eq, decide_eq_false_iff_not] at c109
     refine kc_seq (kc_region (kl_mv rfl (kl_ldS rfl (by assumption) rfl ?_)))
     refine kl_mv rfl (kl_mv rfl (kl_callL rfl rfl (ih j (by omega) m fa (x ++ [((valsI (m.doms.getD x.length 0)).getD q 0)]) hM hf (by simp; omega) (hX.snoc hv) (by assumption) (by assumption) (by assumption) (OwnL.ints o102)) (fun v110 H111 f112 h113 => ?_)))
     obtain ⟨H114, K115, us116, rfl, a117, m118⟩ := h113
     refine kl_split H114 K115 a117 ?_
     have f120 := fr_l f112 m118.hlq
     have f121 := fr_r f112 m118.lq
     refine kl_frz H114 ?_
     refine kl_apart K36 K115 (fun a127 => ?_)
     refine kl_mtApp rfl rfl o37 m118 a127 (by omega) (by decide) (fun v122 H123 m124 f125 => ?_)
     have f126 := f125 B f42 (Nat.le_refl _)
     refine kl_mrg K36 K115 ?_
     refine kl_as rfl (kl_nil (kq_code (kc_seq (kc_region (kl_mv rfl (kl_mv rfl (kl_inB rfl rfl (by assumption) (by omega) (fun p128 a129 => ?_))))))))
     refine kl_ld rfl (by assumption) (kl_not rfl (kl_nil (kq_code (kc_cond rfl (fun c130 => ?_) (fun c130 => ?_)))))
     ·skip
      have c130r := c130
      try simp only [smpC, decide_eq_true_eq, decide_eq_false_iff_not] at c130
      refine kc_seq (kc_region (kl_mv rfl (kl_as rfl (kl_nil (kq_code (kc_ret (kq_apart H123 (orHp K36 K115) (fun c131 => ?_))))))))
      have e9 : (out ++ (playS m fa j (x ++ [((valsI (m.doms.getD x.length 0)).getD q 0)]))) = playS m fa (j + 1) x := by first | exact pl_end hi35 (by omega) | exact pl_hit hi35 (by omega) (by assumption) (by simpa using (by assumption : (!(fa.getD x.length false)) = true))
      exact kq_ret rfl rfl (orHp H123 (orHp K36 K115)) (fr_or f126 (fr_or f41 f121)) ⟨H123, (orHp K36 K115), (us40 ++ us116), rfl, c131, (Mat.castX e9 m124)⟩
     ·skip
      have c130r := c130
      try simp only [smpC, decide_eq_true_eq, decide_eq_false_iff_not] at c130
      refine kc_skipQ (kq_code (kc_region (kl_mv rfl (kl_inc rfl rfl (by omega) ?_))))
      refine kl_as rfl (kl_nil (kq_take [(orHp K36 K115), H123] ?_))
      refine kq_roundL ((q + 1), (out ++ (playS m fa j (x ++ [((valsI (m.doms.getD x.length 0)).getD q 0)]))), v122, H123, (us40 ++ us116), (orHp K36 K115)) (by omega) (⟨by omega, (by first | exact pl_T hi35 (by omega) (by simpa using (by assumption : (!(fa.getD x.length false)) = false)) | exact pl_F hi35 (by omega) (by assumption)), m124, (fr_or f41 f121), f126⟩) (pc 10 rfl (pc 8 rfl pn)) (pc 1 rfl (pc 2 rfl (pc 3 rfl (pc 7 rfl (pc 9 rfl pn))))) rfl (List.Sublist.refl _)
    ·skip
     have c109r := c109
     try simp only [smpC, decide_eq_true_eq, decide_eq_false_iff_not] at c109
     refine kc_skipQ (kq_code (kc_region (kl_mv rfl (kl_inc rfl rfl (by omega) ?_))))
     refine kl_as rfl (kl_nil (kq_take [K36, H39] ?_))
     refine kq_roundL ((q + 1), out, v38, H39, us40, K36) (by omega) (⟨by omega, (by first | exact pl_T hi35 (by omega) (by simpa using (by assumption : (!(fa.getD x.length false)) = false)) | exact pl_F hi35 (by omega) (by assumption)), o37, f41, f42⟩) (pc 10 rfl (pc 8 rfl pn)) (pc 1 rfl (pc 2 rfl (pc 3 rfl (pc 7 rfl (pc 9 rfl pn))))) rfl (List.Sublist.refl _)
  ·skip
   refine kc_exit (kq_code (kc_seq (kc_region (kl_mv rfl (kl_as rfl (kl_nil (kq_code (kc_ret (kq_apart H39 K36 (fun c132 => ?_))))))))))
   have e9 : out = playS m fa (j + 1) x := by first | exact pl_end hi35 (by omega) | exact pl_hit hi35 (by omega) (by assumption) (by simpa using (by assumption : (!(fa.getD x.length false)) = true))
   exact kq_ret rfl rfl (orHp H39 K36) (fr_or f42 f41) ⟨H39, K36, us40, rfl, c132, (Mat.castX e9 o37)⟩
theorem playsS_ok (k : Nat) : playsSSt k := by
 induction k using Nat.strongRecOn with
 | _ k ih => exact @playsS_step k ih
theorem strSm_ok {Hmd : Hp} {vmd : Value} {Hmc : Hp} {vmc : Value} {Hfa : Hp} {vfa : Value} (m : Mod) (fa : List Bool) (hmd : Ints Hmd vmd m.doms) (hmc : Cons Hmc vmc m.cons) (hfa : Bools Hfa vfa fa) : Spec Tryz.prog 23 [.agg #[vmd, vmc], vfa] [Hmd, Hmc, Hfa] ((fun Hq vq => ∃ u : Value, vq = .tuple #[u, .bool (strB m fa)] ∧ MatR 23 3 encI Hq u (strL m fa))) := by
 refine spec_of Tryz.func23 rfl rfl rfl (fun B => ?_)
 refine kc_seq (kc_region (kl_box rfl rfl (fun p1 H2 f3 a4 => ?_)))
 refine kl_as rfl (kl_as rfl (kl_nil (kq_code (kc_seq (kc_seq (kc_region (kl_ldS rfl (by assumption) rfl ?_)))))))
 refine kl_mv rfl (kl_callP rfl rfl (siqt_ok m fa (by assumption) (by assumption) (by assumption)) ?_)
 refine kl_not rfl (kl_mv rfl (kl_join 4 14 (.bool (!(qtrueB m fa) || (m.doms.contains 0))) (pc 1 rfl (pc 2 rfl (pc 4 rfl (pc 5 rfl (pc 10 rfl pn))))) (fun J8 => ?_) ?_))
 ·rcases Bool.eq_false_or_eq_true (!(qtrueB m fa)) with g5 | g5
  ·skip
   refine kl_gF rfl rfl g5 (kl_gF rfl rfl g5 (kl_gF rfl rfl g5 (kl_orT (m.doms.contains 0) rfl rfl g5 ?_)))
   exact J8 _ (pc 14 rfl (pc 1 rfl (pc 2 rfl (pc 4 rfl (pc 5 rfl (pc 10 rfl pn))))))
  ·skip
   have g5p := g5
   try simp only [Bool.not_eq_true', Bool.not_eq_false', decide_eq_true_eq, decide_eq_false_iff_not, Bool.and_eq_true, Bool.or_eq_false_iff, withinB_iff] at g5p
   refine kl_gT rfl rfl g5 (kl_fd rfl (by assumption) (fun p6 a7 => ?_))
   refine kl_gT rfl rfl g5 (kl_ld rfl (by assumption) (kl_gT rfl rfl g5 (kl_callP rfl rfl (hasEmpty_ok m.doms (by assumption)) ?_)))
   refine kl_orF rfl rfl g5 ?_
   exact J8 _ (pc 14 rfl (pc 1 rfl (pc 2 rfl (pc 4 rfl (pc 5 rfl (pc 10 rfl pn))))))
 refine kl_nil (kq_code (kc_cond rfl (fun c9 => ?_) (fun c9 => ?_)))
 ·skip
  have c9r := c9
  try simp only [smpC, decide_eq_true_eq, decide_eq_false_iff_not] at c9
  refine kc_seq (kc_region (kl_as rfl (kl_as rfl (kl_nil (kq_code (kc_ret ?_))))))
  exact kq_ret2 rfl rfl rfl (orHp noHp noHp) (fr_or (fr_no _) (fr_no _)) ⟨_, tup2 rfl (congrArg Value.bool (str_no (strS_c m fa) (by assumption))), by rw [strL_no (str_no (strS_c m fa) (by assumption))]; exact ⟨noHp, noHp, [], rfl, fun _ => .inl rfl, Mat.nil OwnS.nil⟩⟩
 ·skip
  have c9r := c9
  try simp only [smpC, decide_eq_true_eq, decide_eq_false_iff_not] at c9
  have hok := str_yes (strS_c m fa) c9r
  obtain ⟨hM, hfl, hw⟩ := str_ok hok
  refine kc_skipQ (kq_code (kc_seq (kc_region (kl_ldS rfl (by assumption) rfl ?_))))
  refine kl_mv rfl (kl_bsI [] rfl rfl rfl (by decide) (fun v10 H11 f12 o13 => ?_))
  refine kl_callL rfl rfl (playsS_ok m.doms.length m fa ([]) hM hfl (by simp) vals_nil (by assumption) (by assumption) (by assumption) (OwnL.ints o13)) (fun v14 H15 f16 h17 => ?_)
  obtain ⟨H18, K19, us20, rfl, a21, m22⟩ := h17
  refine kl_split H18 K19 a21 ?_
  have f24 := fr_l f16 m22.hlq
  have f25 := fr_r f16 m22.lq
  refine kl_as rfl (kl_as rfl (kl_nil (kq_code (kc_ret (kq_apart H18 K19 (fun c26 => ?_))))))
  exact kq_ret2 rfl rfl rfl (orHp H18 K19) (fr_or f24 f25) ⟨_, tup2 rfl (congrArg Value.bool hok.symm), H18, K19, us20, rfl, c26, Mat.castX (strL_at hok).symm m22⟩
theorem copyRows_ok {Hl : Hp} {vl : Value} (l : List (List Int)) (hr : ∀ r ∈ l, r.length ≤ 1000) (hb : l.length ≤ 2000) (hl : Rows Hl vl l) : SpecT Tryz.prog 26 [vl] [] [Hl] (fun vq L1 Ln Kq => L1 = [] ∧ ∃ Hq : Hp, Ln = [Hq] ∧ OwnL 23 1 Hq Kq RowV vq l) := by
 refine specT_of Tryz.func26 rfl rfl rfl (fun B => ?_)
 refine kc_seq (kc_region (kl_as rfl (kl_nil (kq_code (kc_seq (kc_region (kl_bs0 RowV rfl (fun v1 H2 f3 o4 => ?_))))))))
 refine kl_as rfl (kl_nil (kq_code (kc_seq (kc_seq (kc_region (kl_as rfl (kl_nil (kq_code (kc_block (kc_loopK (A := Nat × List (List Int) × Value × Hp × Hp) (fun zz => (zz.1 ≤ l.length) ∧ (zz.2.1 = l.take zz.1) ∧ Fr B zz.2.2.2.2 ∧ OwnL 23 1 zz.2.2.2.1 zz.2.2.2.2 RowV zz.2.2.1 zz.2.1 ∧ Fr B zz.2.2.2.1) (fun zz => l.length - zz.1) (fun zz => zz.2.2.2.2) (fun zz => [zz.2.2.2.1]) (fun zz => [(4, .int .i64 (zz.1 : Int)), (3, zz.2.2.1)]) (0, ([]), v1, H2, noHp) (pc 0 rfl (pc 2 rfl pn)) (pc 4 rfl (pc 3 rfl pn)) rfl ⟨Nat.zero_le _, rfl, (fr_no _), o4, f3⟩ ?_))))))))))
 rintro ⟨k, out, v10, H7, K11⟩ hJ13
 obtain ⟨hk5, hi6, f12, o8, f9⟩ : (k ≤ l.length) ∧ (out = l.take k) ∧ Fr B K11 ∧ OwnL 23 1 H7 K11 RowV v10 out ∧ Fr B H7 := hJ13
 change KC _ _ (K11 :: _) [H7] _ ([(4, .int .i64 (k : Int)), (3, v10)] ++ _)
 refine kc_seq (kc_seq (kc_region (kl_mv rfl (kl_mv rfl (kl_len rfl (by assumption) (fun l14 => ?_))))))
 refine kl_lss rfl rfl ?_
 refine kl_nil (kq_code (kc_if rfl (fun c15 => ?_) (fun c15 => ?_)))
 ·skip
  refine kc_skipQ (kq_code (kc_seq (kc_block (kc_region (kl_mv rfl (kl_mv rfl (kl_mv rfl (kl_inS rfl rfl (by assumption) (by omega) (fun p16 u18 h19 a17 => ?_)))))))))
  refine kl_ld rfl (by assumption) (kl_call rfl rfl (copyInts_ok (l.getD k []) (by have := hr _ (getD_mem (d := []) (by omega : k < l.length)); omega) (by assumption)) (fun v20 H21 f22 o23 => ?_))
  have h24 := OwnL.ints o23
  refine kl_bs rfl rfl rfl (by decide) (ca (by first | exact Sl.cells (by assumption) | exact OwnL.cells (by assumption)) ca_nil) (fun v25 H26 f27 r28 s29 => ?_)
  refine kl_cmp K11 H21 (fun c30 => ?_)
  have o31 := OwnL.mono (K' := orHp K11 H21) o8 orL
  refine kl_apL (l.getD k []) rfl rfl o31 (by assumption) ⟨_, rfl, Sl.mono (by assumption) (orC c30) (fun _ _ h => h)⟩ (oc (Sl.oneCell (by assumption)) oc_nil) (by (have h9 := congrArg List.length hi6; simp at h9; omega)) (by decide) (fun v32 H33 o34 f35 => ?_)
  have f36 := f35 B f9 (Nat.le_refl _)
  refine kl_as rfl (kl_nil (kq_code (kc_region (kl_mv rfl (kl_inc rfl rfl (by omega) ?_)))))
  refine kl_as rfl (kl_nil (kq_take [H33] ?_))
  refine kq_roundK ((k + 1), (out ++ [(l.getD k [])]), v32, H33, (orHp K11 H21)) (by omega) (⟨by omega, (by rw [hi6, take_succ_getD [] (by omega)]), (fr_or f12 f22), o34, f36⟩) (pc 4 rfl (pc 3 rfl pn)) (pc 0 rfl (pc 2 rfl pn)) rfl (List.Sublist.refl _)
 ·skip
  refine kc_exit (kq_code (kc_seq (kc_region (kl_mv rfl (kl_as rfl (kl_nil (kq_code (kc_ret ?_))))))))
  exact kq_retT rfl rfl [] [H7] K11 (fr1 f9) f12 ⟨rfl, H7, rfl, (OwnL.cast (by rw [hi6, List.take_of_length_le (by omega)]) o8)⟩
theorem drawCk_ok {Hcode : Hp} {vcode : Value} (code : List Int) (hcode : Bytes Hcode vcode code) : Spec Tryz.prog 5 [vcode] [Hcode] (fun Hq vq => ∃ (mq : Mod) (fq : List Bool) (rq : List (List Int)) (uq0a uq0b uq1 uq2 : Value), vq = .tuple #[.agg #[uq0a, uq0b], uq1, uq2] ∧ Ints Hq uq0a mq.doms ∧ Cons Hq uq0b mq.cons ∧ Bools Hq uq1 fq ∧ Rows Hq uq2 rq ∧ ModSm 100 mq ∧ rq.length ≤ 2000) := by
 refine spec_ofR Tryz.func5 rfl rfl rfl (fun B => ?_)
 refine kc_seq (kc_region (kl_alloc (cs := [.slice none 0 0, .slice none 0 0]) rfl (fun b1 hb2 => ?_)))
 refine kl_as rfl (kl_as rfl (kl_nil (kq_code (kc_seq (kc_region (kl_mv rfl (kl_callT rfl rfl (newReader_ok code hcode) (fun v3 L1 Ln K7 h4 f5 f6 => ?_))))))))
 obtain ⟨rfl, b8, v9, x10, rfl, rfl, h11⟩ := h4
 refine kl_norm ?_
 refine kl_as rfl (kl_nil (kq_code (kc_seq (kc_region (kl_mv rfl (kl_callT rfl rfl (gameModel_ok 0 (by omega) h11) (fun v12 L1 Ln K16 h13 f14 f15 => ?_)))))))
 obtain ⟨q17, h18, rfl, H21, M23, v24, v25, z19, rfl, rfl, o22, o26, h20⟩ := h13
 have f27 := f14 _ (.head _)
 have f28 := f14 _ (.tail _ (.head _))
 have hsm := h20
 have hd1 := h20.d1
 have hd4 := h20.d
 refine kl_norm ?_
 refine kl_frz H21 ?_
 have h29 := OwnL.ints o22
 refine kl_frz M23 ?_
 refine kl_cmp M23 K16 (fun c30 => ?_)
 have h31 := OwnL.consK o26 c30
 refine kl_alloc (cs := [.slice none 0 0, .slice none 0 0]) rfl (fun b32 hb33 => ?_)
 refine kl_stW (us := [v24, v25]) rfl rfl rfl rfl (oc (Sl.oneCell (by assumption)) (oc (Sl.oneCell (by assumption)) oc_nil)) rfl ?_
 refine kl_chg [sing b32 (.cells [v24, v25].toArray 26 (0, 0)), sing b8 (.cells [v9, .int .i64 (q17 : Int)].toArray 85 (0, 0)), sing b1 (.cells [.slice none 0 0, .slice none 0 0].toArray 26 (0, 0))] rfl ?_
 refine kl_nil (kq_code (kc_seq (kc_region (kl_mv rfl (kl_fdV rfl (kl_ldB rfl rfl (kl_len rfl (by assumption) (fun l34 => ?_))))))))
 refine kl_callT rfl rfl (quantifiers_ok q17 (z19.doms.length : Int) (by first | assumption | omega) (by omega) h11) (fun v35 L1 Ln K39 h36 f37 f38 => ?_)
 obtain ⟨q40, h41, rfl, H44, z42, rfl, o45, h43⟩ := h36
 have f46 := f37 _ (.head _)
 refine kl_norm ?_
 refine kl_as rfl (kl_nil (kq_code (kc_seq (kc_region (kl_ldW rfl rfl (kl_mv rfl (kl_callL rfl rfl (strSm_ok z19 z42 (by assumption) (by assumption) (OwnL.bools o45)) (fun v47 H48 f49 h50 => ?_))))))))
 obtain ⟨u51, rfl, H52, K53, us54, rfl, a55, m56⟩ := h50
 refine kl_split H52 K53 a55 ?_
 have f58 := fr_l f49 m56.hlq
 have f59 := fr_r f49 m56.lq
 refine kl_mv rfl (kl_xt rfl rfl (kl_xt rfl rfl (kl_as rfl (kl_as rfl (kl_nil (kq_code (kc_seq (kc_seq (kc_region (kl_mv rfl ?_))))))))))
 refine kl_not rfl (kl_nil (kq_code (kc_cond rfl (fun c60 => ?_) (fun c60 => ?_))))
 ·skip
  have c60r := c60
  try simp only [smpC, decide_eq_true_eq, decide_eq_false_iff_not] at c60
  refine kc_tree (fun i => ([5, 6] : List Nat).contains i) [sing b32 (.cells [v24, v25].toArray 26 (0, 0))] (by kernel_rfl) ?_
  refine kt_q 0 (.cons _ (.cons _ (.cons _ (.cons _ (.cons_cons _ (List.nil_sublist _)))))) rfl (by kernel_rfl) (kl_mv rfl (kl_nil (kq_q (kt_q 1 (.cons _ (.cons _ (.cons _ (.cons _ (.cons_cons _ (List.nil_sublist _)))))) rfl (by kernel_rfl) (kl_ldS rfl (at_box (T := 26) (cs := [v24, v25]) (off := 0) (fz := (0, 0))) rfl ?_)))))
  refine kl_nil (kq_q (kt_q 3 (.cons _ (.cons _ (.cons _ (.cons _ (.cons_cons _ (List.nil_sublist _)))))) rfl (by kernel_rfl) (kl_mv rfl (kl_nil (kq_q (kt_q 4 (.cons _ (.cons _ (.cons _ (.cons _ (.cons_cons _ (List.nil_sublist _)))))) rfl (by kernel_rfl) (kl_ldS rfl (at_box (T := 26) (cs := [v24, v25]) (off := 0) (fz := (0, 0))) rfl ?_)))))))
  refine kl_nil (kq_q (kt_a 2 rfl (by kernel_rfl) (kl_callT rfl rfl (assignP_ok q40 z19 hd1 hd4 (by omega) h11 (by assumption) (by assumption)) (fun v61 L1 Ln K65 h62 f63 f64 => ?_))))
  obtain ⟨q66, h67, rfl, H70, z68, rfl, o71, h69⟩ := h62
  have f72 := f63 _ (.head _)
  have ha9 := h69
  refine kl_norm ?_
  refine kl_nil (kq_a (.cons _ (.cons _ (.cons _ (.cons _ (.cons _ (.cons_cons _ (List.nil_sublist _))))))) (kt_a 5 rfl (by kernel_rfl) (kl_callT rfl rfl (assignP_ok q66 z19 hd1 hd4 (by omega) h11 (by assumption) (by assumption)) (fun v73 L1 Ln K77 h74 f75 f76 => ?_))))
  obtain ⟨q78, h79, rfl, H82, z80, rfl, o83, h81⟩ := h74
  have f84 := f75 _ (.head _)
  have ha9 := h81
  refine kl_norm ?_
  refine kl_nil (kq_x rfl (kt_a 6 rfl (by kernel_rfl) (kl_apart H70 H82 (fun a90 => ?_))))
  refine kl_bsO (us := [v61, v73]) rfl rfl rfl (by decide) (cells2 (OwnL.cells o71) (OwnL.cells o83)) (fun v85 H86 f87 o88 => ?_)
  have o89 : Mat 23 3 encI H86 (orHp H70 H82) v85 [v61, v73] [z68, z80] := Mat.two o88 (OwnL.imap o71) (by omega) (OwnL.liq o71) (OwnL.imap o83) (by omega) (OwnL.liq o83) a90
  refine kl_nil (kq_x rfl (kt_mrg H70 H82 ?_))
  refine kt_q 7 (.cons _ (.cons _ (.cons _ (.cons _ (.cons _ (.cons _ (.cons_cons _ (List.nil_sublist _)))))))) rfl (by kernel_rfl) (kl_as rfl (kl_nil (kq_q (kt_end (by kernel_rfl) ?_))))
  refine kq_code (kc_seq (kc_seq (kc_region (kl_mv rfl (kl_mtLen rfl o89 (fun l91 => ?_))))))
  refine kl_gtr rfl rfl ?_
  refine kl_nil (kq_code (kc_if rfl (fun c92 => ?_) (fun c92 => ?_)))
  ·skip
   have hall := rows_hall c92 (by first | exact str_rows _ _ | exact rows_two (by assumption) (by assumption))
   refine kc_seq (kc_region (kl_mv rfl (kl_mv rfl (kl_mtLen rfl o89 (fun l93 => ?_)))))
   refine kl_callT rfl rfl (pick_ok q78 (([z68, z80]).length : Int) (by omega) h11) (fun v94 L1 Ln K98 h95 f96 f97 => ?_)
   obtain ⟨q99, h100, rfl, rfl, z101, rfl, h102⟩ := h95
   try have hrk := hall.2.2 _ (getD_mem (d := []) (show Int.toNat z101 < _ from by omega))
   refine kl_norm ?_
   refine kl_as rfl (kl_nil (kq_code (kc_seq (kc_region (kl_mv rfl (kl_callT rfl rfl (pick_ok q99 (6 : Int) (by omega) h11) (fun v105 L1 Ln K109 h106 f107 f108 => ?_)))))))
   obtain ⟨q110, h111, rfl, rfl, z112, rfl, h113⟩ := h106
   try have hrk := hall.2.2 _ (getD_mem (d := []) (show Int.toNat z112 < _ from by omega))
   refine kl_norm ?_
   refine kl_nil (kq_code (kc_block (kc_seq (kc_region (kl_eql rfl rfl ?_)))))
   refine kl_as rfl (kl_nil (kq_code (kc_if rfl (fun c116 => ?_) (fun c116 => ?_))))
   ·skip
    refine kc_seq (kc_apart H86 (orHp H70 H82) (fun c117 => ?_))
    have h118 := MatR.rows ⟨H86, (orHp H70 H82), [v61, v73], rfl, c117, o89⟩
    refine kc_frz H86 ?_
    refine kc_frz (orHp H70 H82) ?_
    refine kc_tree (fun i => ([] : List Nat).contains i) [sing b32 (.cells [v24, v25].toArray 26 (0, 0))] (by kernel_rfl) ?_
    refine kt_q 0 (.cons _ (.cons _ (.cons _ (.cons _ (.cons_cons _ (List.nil_sublist _)))))) rfl (by kernel_rfl) (kl_ldS rfl (at_box (T := 26) (cs := [v24, v25]) (off := 0) (fz := (0, 0))) rfl ?_)
    refine kl_nil (kq_q (kt_q 1 (.cons _ (.cons _ (.cons _ (.cons _ (.cons_cons _ (List.nil_sublist _)))))) rfl (by kernel_rfl) (kl_mv rfl (kl_nil (kq_q (kt_q 2 (.cons _ (.cons _ (.cons _ (.cons _ (.cons_cons _ (List.nil_sublist _)))))) rfl (by kernel_rfl) (kl_mv rfl (kl_nil (kq_q (kt_q 3 (.cons _ (.cons _ (.cons _ (.cons _ (.cons_cons _ (List.nil_sublist _)))))) rfl (by kernel_rfl) (kl_mv rfl ?_)))))))))))
    refine kl_nil (kq_q (kt_q 4 (.cons _ (.cons _ (.cons _ (.cons _ (.cons_cons _ (List.nil_sublist _)))))) rfl (by kernel_rfl) ?_))
    have e121 : z101 = (((Int.toNat z101) : Nat) : Int) := by omega
    refine kl_slTake (i := (Int.toNat z101)) rfl (by rw [← e121]; rfl) (by assumption) (by omega) (fun u119 h120 => ?_)
    refine kl_nil (kq_q (kt_q 6 (.cons _ (.cons _ (.cons _ (.cons _ (.cons_cons _ (List.nil_sublist _)))))) rfl (by kernel_rfl) (kl_mv rfl (kl_nil (kq_q (kt_q 7 (.cons _ (.cons _ (.cons _ (.cons _ (.cons_cons _ (List.nil_sublist _)))))) rfl (by kernel_rfl) (kl_mv rfl (kl_nil (kq_q (kt_q 8 (.cons _ (.cons _ (.cons _ (.cons _ (.cons_cons _ (List.nil_sublist _)))))) rfl (by kernel_rfl) (kl_add rfl rfl (by omega) ?_)))))))))))
    refine kl_nil (kq_q (kt_q 9 (.cons _ (.cons _ (.cons _ (.cons _ (.cons_cons _ (List.nil_sublist _)))))) rfl (by kernel_rfl) ?_))
    have e124 : (z101 + (1 : Int)) = (((Int.toNat (z101 + (1 : Int))) : Nat) : Int) := by omega
    refine kl_slDrop (j := (Int.toNat (z101 + (1 : Int)))) rfl (by rw [← e124]; rfl) (by assumption) (by omega) (fun u122 h123 => ?_)
    refine kl_nil (kq_q (kt_a 5 rfl (by kernel_rfl) (kl_callT rfl rfl (copyRows_ok (([z68, z80]).take (Int.toNat z101)) (fun r hr => by have := hall.2.2 r (by first | exact List.mem_of_mem_take hr | exact List.mem_of_mem_drop hr); omega) (by simp; omega) (by assumption)) (fun v125 L1 Ln K126 h127 f128 f129 => ?_))))
    obtain ⟨rfl, H130, rfl, o131⟩ := h127
    have f132 := f128 _ (.head _)
    refine kl_norm ?_
    refine kl_nil (kq_a (.cons _ (.cons _ (.cons _ (.cons _ (.cons _ (.cons_cons _ (List.nil_sublist _))))))) (kt_a 10 rfl (by kernel_rfl) (kl_callT rfl rfl (copyRows_ok (([z68, z80]).drop (Int.toNat (z101 + (1 : Int)))) (fun r hr => by have := hall.2.2 r (by first | exact List.mem_of_mem_take hr | exact List.mem_of_mem_drop hr); omega) (by simp; omega) (by assumption)) (fun v133 L1 Ln K134 h135 f136 f137 => ?_))))
    obtain ⟨rfl, H138, rfl, o139⟩ := h135
    have f140 := f136 _ (.head _)
    refine kl_norm ?_
    refine kl_nil (kq_a (.cons _ (.cons _ (.cons _ (.cons _ (.cons _ (.cons _ (.cons_cons _ (List.nil_sublist _)))))))) (kt_frz H138 ?_))
    refine kt_orI H138 K134 ?_
    refine kt_a 11 rfl (by kernel_rfl) (kl_cmp H138 K134 (fun c141 => ?_))
    have h142 := OwnL.rowsK o139 c141
    refine kl_cmp K126 (orHp H138 K134) (fun c143 => ?_)
    have o144 := OwnL.mono (K' := orHp K126 (orHp H138 K134)) o131 orL
    refine kl_apS rfl rfl o144 (by assumption) (fun _ _ h => RMono.mono (R := RowV) (orC c143) h) (by first | omega | (simp; omega)) (by decide) (fun v145 H146 o147 f148 => ?_)
    have f149 := f148 B f132 (Nat.le_refl _)
    refine kl_nil (kq_a (.cons _ (.cons _ (.cons _ (.cons _ (.cons _ (.cons_cons _ (List.nil_sublist _))))))) (kt_a 12 rfl (by kernel_rfl) (kl_stW (us := [v24, v25]) rfl rfl rfl rfl (oc (Sl.oneCell (by assumption)) (oc (Sl.oneCell (by assumption)) oc_nil)) rfl ?_)))
    refine kl_chg [H146, sing b8 (.cells [v9, .int .i64 (q110 : Int)].toArray 85 (0, 0)), H52, K53, H44, sing b32 (.cells [v24, v25].toArray 26 (0, 0)), sing b1 (.cells [v24, v25].toArray 26 (0, 0))] rfl ?_
    refine kl_nil (kq_a (.cons _ (.cons _ (.cons _ (.cons _ (.cons _ (.cons_cons _ (List.nil_sublist _))))))) (kt_q 13 (.cons _ (.cons _ (.cons _ (.cons _ (.cons _ (.cons_cons _ (List.nil_sublist _))))))) rfl (by kernel_rfl) (kl_as rfl (kl_nil (kq_q (kt_q 14 (.cons _ (.cons _ (.cons _ (.cons _ (.cons _ (.cons_cons _ (List.nil_sublist _))))))) rfl (by kernel_rfl) (kl_as rfl (kl_nil (kq_q (kt_end (by kernel_rfl) ?_))))))))))
    refine kq_code (kc_ret (kq_frz H44 ?_))
    refine kq_frz H146 ?_
    refine kq_cmp H146 (orHp K126 (orHp H138 K134)) (fun c150 => ?_)
    refine kq_cmp H44 (orHp H146 (orHp K126 (orHp H138 K134))) (fun c151 => ?_)
    refine kq_cmp (orHp M23 K16) (orHp H44 (orHp H146 (orHp K126 (orHp H138 K134)))) (fun c152 => ?_)
    refine kq_cmp H21 (orHp (orHp M23 K16) (orHp H44 (orHp H146 (orHp K126 (orHp H138 K134))))) (fun c153 => ?_)
    exact kq_retR (rss3 rfl (rs_agg rfl rfl) (rs_tmp rfl) (rs_tmp rfl)) (orHp H21 (orHp (orHp M23 K16) (orHp H44 (orHp H146 (orHp K126 (orHp H138 K134)))))) (fr_or f27 (fr_or (fr_or f28 f15) (fr_or f46 (fr_or f149 (fr_or f129 (fr_or f140 f137)))))) ⟨(⟨z19.doms, z19.cons⟩ : Mod), z42, ((([z68, z80]).take (Int.toNat z101)) ++ (([z68, z80]).drop (Int.toNat (z101 + (1 : Int))))), _, _, _, _, rfl, (Sl.mono (by assumption) (fun b o h => orL b o h) (fun _ _ h => h)), (Cons.mono' (by assumption) (fun b o h => orC c153 b o (orL b o h))), (Sl.mono (OwnL.bools o45) (fun b o h => orC c153 b o (orC c152 b o (orL b o h))) (fun _ _ h => h)), (Rows.mono' (OwnL.rowsK o147 c150) (fun b o h => orC c153 b o (orC c152 b o (orC c151 b o h)))), by first | exact ⟨by assumption, by omega⟩ | exact ⟨by assumption, by first | (simp; done) | (simp; omega)⟩⟩ .none
   ·skip
    refine kc_seq (kc_region (kl_eql rfl rfl ?_))
    refine kl_as rfl (kl_nil (kq_code (kc_if rfl (fun c154 => ?_) (fun c154 => ?_))))
    ·skip
     refine kc_tree (fun i => ([14] : List Nat).contains i) [H86] (by kernel_rfl) ?_
     refine kt_q 0 (.cons _ (.cons _ (.cons_cons _ (List.nil_sublist _)))) rfl (by kernel_rfl) (kl_mv rfl (kl_nil (kq_q (kt_q 1 (.cons _ (.cons _ (.cons_cons _ (List.nil_sublist _)))) rfl (by kernel_rfl) (kl_mv rfl (kl_nil (kq_q (kt_q 2 (.cons _ (.cons _ (.cons_cons _ (List.nil_sublist _)))) rfl (by kernel_rfl) (kl_mtIz rfl rfl o89 (by omega) (by omega) (fun p155 q156 => ?_))))))))))
     refine kl_nil (kq_q (kt_q 3 (.cons _ (.cons _ (.cons_cons _ (List.nil_sublist _)))) rfl (by kernel_rfl) (kl_mtLde rfl (by assumption) o89 (by omega) ?_)))
     refine kl_nil (kq_q (kt_q 4 (.cons _ (.cons _ (.cons_cons _ (List.nil_sublist _)))) rfl (by kernel_rfl) (kl_mv rfl (kl_nil (kq_q (kt_q 5 (.cons _ (.cons _ (.cons_cons _ (List.nil_sublist _)))) rfl (by kernel_rfl) (kl_mv rfl (kl_nil (kq_q (kt_q 6 (.cons _ (.cons _ (.cons_cons _ (List.nil_sublist _)))) rfl (by kernel_rfl) (kl_mv rfl ?_)))))))))))
     refine kl_nil (kq_q (kt_q 7 (.cons _ (.cons _ (.cons_cons _ (List.nil_sublist _)))) rfl (by kernel_rfl) (kl_mtIz rfl rfl o89 (by omega) (by omega) (fun p157 q158 => ?_))))
     refine kl_nil (kq_q (kt_q 8 (.cons _ (.cons _ (.cons_cons _ (List.nil_sublist _)))) rfl (by kernel_rfl) (kl_mtLde rfl (by assumption) o89 (by omega) ?_)))
     refine kl_nil (kq_q (kt_q 9 (.cons _ (.cons _ (.cons_cons _ (List.nil_sublist _)))) rfl (by kernel_rfl) (kl_rwLen rfl o89 (by omega) ?_)))
     refine kl_nil (kq_q (kt_q 11 (.cons _ (.cons _ (.cons_cons _ (List.nil_sublist _)))) rfl (by kernel_rfl) (kl_mv rfl (kl_nil (kq_q (kt_a 10 rfl (by kernel_rfl) (kl_callT rfl rfl (pick_ok q110 ((([z68, z80]).getD (Int.toNat z101) []).length : Int) (by omega) h11) (fun v159 L1 Ln K163 h160 f161 f162 => ?_))))))))
     obtain ⟨q164, h165, rfl, rfl, z166, rfl, h167⟩ := h160
     try have hrk := hall.2.2 _ (getD_mem (d := []) (show Int.toNat z166 < _ from by omega))
     refine kl_norm ?_
     refine kl_nil (kq_a (.cons _ (.cons _ (.cons_cons _ (List.nil_sublist _)))) (kt_a 12 rfl (by kernel_rfl) (kl_callT rfl rfl (pick_ok q164 (6 : Int) (by omega) h11) (fun v170 L1 Ln K174 h171 f172 f173 => ?_))))
     obtain ⟨q175, h176, rfl, rfl, z177, rfl, h178⟩ := h171
     try have hrk := hall.2.2 _ (getD_mem (d := []) (show Int.toNat z177 < _ from by omega))
     refine kl_norm ?_
     refine kl_nil (kq_a (.cons _ (.cons _ (.cons_cons _ (List.nil_sublist _)))) (kt_q 13 (.cons _ (.cons _ (.cons_cons _ (List.nil_sublist _)))) rfl (by kernel_rfl) (kl_rwIz rfl rfl o89 (by omega) (by omega) (by omega) (fun p181 q182 => ?_))))
     refine kl_nil (kq_q (kt_a 14 rfl (by kernel_rfl) (kl_rwSt (enc := encI) z177 rfl rfl o89 (by assumption) (by omega) (by omega) (fun K183 o184 f185 => ?_))))
     have f186 := f185 _ (fr_or f72 f84)
     refine kl_chg [sing b8 (.cells [v9, .int .i64 (q175 : Int)].toArray 85 (0, 0)), K183, H86, H52, K53, H44, sing b32 (.cells [v24, v25].toArray 26 (0, 0)), sing b1 (.cells [.slice none 0 0, .slice none 0 0].toArray 26 (0, 0))] rfl ?_
     refine kl_nil (kq_x rfl (kt_end (by kernel_rfl) ?_))
     refine kq_code (kc_seq (kc_region (kl_ldW rfl rfl (kl_mv rfl (kl_mv rfl (kl_stW (us := [v24, v25]) rfl rfl rfl rfl (oc (Sl.oneCell (by assumption)) (oc (Sl.oneCell (by assumption)) oc_nil)) rfl ?_))))))
     refine kl_chg [sing b8 (.cells [v9, .int .i64 (q175 : Int)].toArray 85 (0, 0)), K183, H86, H52, K53, H44, sing b32 (.cells [v24, v25].toArray 26 (0, 0)), sing b1 (.cells [v24, v25].toArray 26 (0, 0))] rfl ?_
     refine kl_as rfl (kl_as rfl (kl_nil (kq_code (kc_ret (kq_frz H44 ?_)))))
     refine kq_apart H86 K183 (fun c187 => ?_)
     have h188 := MatR.rows ⟨H86, K183, [v61, v73], rfl, c187, o184⟩
     refine kq_frz H86 ?_
     refine kq_frz K183 ?_
     refine kq_cmp H44 (orHp H86 K183) (fun c189 => ?_)
     refine kq_cmp (orHp M23 K16) (orHp H44 (orHp H86 K183)) (fun c190 => ?_)
     refine kq_cmp H21 (orHp (orHp M23 K16) (orHp H44 (orHp H86 K183))) (fun c191 => ?_)
     exact kq_retR (rss3 rfl (rs_agg rfl rfl) (rs_tmp rfl) (rs_tmp rfl)) (orHp H21 (orHp (orHp M23 K16) (orHp H44 (orHp H86 K183)))) (fr_or f27 (fr_or (fr_or f28 f15) (fr_or f46 (fr_or f87 f186)))) ⟨(⟨z19.doms, z19.cons⟩ : Mod), z42, (([z68, z80]).set (Int.toNat z101) ((([z68, z80]).getD (Int.toNat z101) []).set (Int.toNat z166) z177)), _, _, _, _, rfl, (Sl.mono (by assumption) (fun b o h => orL b o h) (fun _ _ h => h)), (Cons.mono' (by assumption) (fun b o h => orC c191 b o (orL b o h))), (Sl.mono (OwnL.bools o45) (fun b o h => orC c191 b o (orC c190 b o (orL b o h))) (fun _ _ h => h)), (Rows.mono' h188 (fun b o h => orC c191 b o (orC c190 b o (orC c189 b o h)))), by first | exact ⟨by assumption, by omega⟩ | exact ⟨by assumption, by first | (simp; done) | (simp; omega)⟩⟩ .none
    ·skip
     refine kc_seq (kc_region (kl_eql rfl rfl ?_))
     refine kl_as rfl (kl_nil (kq_code (kc_if rfl (fun c192 => ?_) (fun c192 => ?_))))
     ·skip
      refine kc_region (kl_mv rfl (kl_mv rfl (kl_mv rfl (kl_mtIz rfl rfl o89 (by omega) (by omega) (fun p193 q194 => ?_)))))
      refine kl_mtLd rfl (by assumption) o89 (by omega) ?_
      have h195 := Mat.irow o89 (by omega : (Int.toNat z101) < ([z68, z80]).length)
      refine kl_callL rfl rfl (copyInts_ok (([z68, z80]).getD (Int.toNat z101) []) (by omega) (by assumption)) (fun v196 H197 f198 o199 => ?_)
      refine kl_bs rfl rfl rfl (by decide) (ca (by first | exact Sl.cells (by assumption) | exact OwnL.cells (by assumption)) ca_nil) (fun v200 H201 f202 r203 s204 => ?_)
      refine kl_apart (orHp H70 H82) H197 (fun a210 => ?_)
      refine kl_app rfl rfl o89.hd (by assumption) (oc (OwnL.oneCell o199) oc_nil) (by first | omega | (simp; omega)) (by decide) (fun v205 H206 o207 f208 => ?_)
      have f209 := f208 B f87 (Nat.le_refl _)
      have m211 := Mat.push o89 o207 (OwnL.imap o199) (by omega) (OwnL.liq o199) a210
      refine kl_mrg (orHp H70 H82) H197 ?_
      refine kl_as rfl (kl_nil (kq_code (kc_seq (kc_region (kl_ldW rfl rfl (kl_mv rfl (kl_mv rfl (kl_stW (us := [v24, v25]) rfl rfl rfl rfl (oc (Sl.oneCell (by assumption)) (oc (Sl.oneCell (by assumption)) oc_nil)) rfl ?_))))))))
      refine kl_chg [(orHp (orHp H70 H82) H197), sing b8 (.cells [v9, .int .i64 (q110 : Int)].toArray 85 (0, 0)), H206, H52, K53, H44, sing b32 (.cells [v24, v25].toArray 26 (0, 0)), sing b1 (.cells [v24, v25].toArray 26 (0, 0))] rfl ?_
      refine kl_as rfl (kl_as rfl (kl_nil (kq_code (kc_ret (kq_frz H44 ?_)))))
      refine kq_apart H206 (orHp (orHp H70 H82) H197) (fun c212 => ?_)
      have h213 := MatR.rows ⟨H206, (orHp (orHp H70 H82) H197), ([v61, v73] ++ [v196]), rfl, c212, m211⟩
      refine kq_frz H206 ?_
      refine kq_frz (orHp (orHp H70 H82) H197) ?_
      refine kq_cmp H44 (orHp H206 (orHp (orHp H70 H82) H197)) (fun c214 => ?_)
      refine kq_cmp (orHp M23 K16) (orHp H44 (orHp H206 (orHp (orHp H70 H82) H197))) (fun c215 => ?_)
      refine kq_cmp H21 (orHp (orHp M23 K16) (orHp H44 (orHp H206 (orHp (orHp H70 H82) H197)))) (fun c216 => ?_)
      exact kq_retR (rss3 rfl (rs_agg rfl rfl) (rs_tmp rfl) (rs_tmp rfl)) (orHp H21 (orHp (orHp M23 K16) (orHp H44 (orHp H206 (orHp (orHp H70 H82) H197))))) (fr_or f27 (fr_or (fr_or f28 f15) (fr_or f46 (fr_or f209 (fr_or (fr_or f72 f84) f198))))) ⟨(⟨z19.doms, z19.cons⟩ : Mod), z42, ([z68, z80] ++ [(([z68, z80]).getD (Int.toNat z101) [])]), _, _, _, _, rfl, (Sl.mono (by assumption) (fun b o h => orL b o h) (fun _ _ h => h)), (Cons.mono' (by assumption) (fun b o h => orC c216 b o (orL b o h))), (Sl.mono (OwnL.bools o45) (fun b o h => orC c216 b o (orC c215 b o (orL b o h))) (fun _ _ h => h)), (Rows.mono' h213 (fun b o h => orC c216 b o (orC c215 b o (orC c214 b o h)))), by first | exact ⟨by assumption, by omega⟩ | exact ⟨by assumption, by first | (simp; done) | (simp; omega)⟩⟩ .none
     ·skip
      refine kc_skipQ (kq_code (kc_seq (kc_region (kl_ldW rfl rfl (kl_mv rfl (kl_mv rfl (kl_stW (us := [v24, v25]) rfl rfl rfl rfl (oc (Sl.oneCell (by assumption)) (oc (Sl.oneCell (by assumption)) oc_nil)) rfl ?_)))))))
      refine kl_chg [sing b8 (.cells [v9, .int .i64 (q110 : Int)].toArray 85 (0, 0)), (orHp H70 H82), H86, H52, K53, H44, sing b32 (.cells [v24, v25].toArray 26 (0, 0)), sing b1 (.cells [v24, v25].toArray 26 (0, 0))] rfl ?_
      refine kl_as rfl (kl_as rfl (kl_nil (kq_code (kc_ret (kq_frz H44 ?_)))))
      refine kq_apart H86 (orHp H70 H82) (fun c217 => ?_)
      have h218 := MatR.rows ⟨H86, (orHp H70 H82), [v61, v73], rfl, c217, o89⟩
      refine kq_frz H86 ?_
      refine kq_frz (orHp H70 H82) ?_
      refine kq_cmp H44 (orHp H86 (orHp H70 H82)) (fun c219 => ?_)
      refine kq_cmp (orHp M23 K16) (orHp H44 (orHp H86 (orHp H70 H82))) (fun c220 => ?_)
      refine kq_cmp H21 (orHp (orHp M23 K16) (orHp H44 (orHp H86 (orHp H70 H82)))) (fun c221 => ?_)
      exact kq_retR (rss3 rfl (rs_agg rfl rfl) (rs_tmp rfl) (rs_tmp rfl)) (orHp H21 (orHp (orHp M23 K16) (orHp H44 (orHp H86 (orHp H70 H82))))) (fr_or f27 (fr_or (fr_or f28 f15) (fr_or f46 (fr_or f87 (fr_or f72 f84))))) ⟨(⟨z19.doms, z19.cons⟩ : Mod), z42, ([z68, z80]), _, _, _, _, rfl, (Sl.mono (by assumption) (fun b o h => orL b o h) (fun _ _ h => h)), (Cons.mono' (by assumption) (fun b o h => orC c221 b o (orL b o h))), (Sl.mono (OwnL.bools o45) (fun b o h => orC c221 b o (orC c220 b o (orL b o h))) (fun _ _ h => h)), (Rows.mono' h218 (fun b o h => orC c221 b o (orC c220 b o (orC c219 b o h)))), by first | exact ⟨by assumption, by omega⟩ | exact ⟨by assumption, by first | (simp; done) | (simp; omega)⟩⟩ .none
  ·skip
   have hz9 := rows_z c92
   refine kc_skipQ (kq_code (kc_seq (kc_region (kl_ldW rfl rfl (kl_mv rfl (kl_mv rfl (kl_stW (us := [v24, v25]) rfl rfl rfl rfl (oc (Sl.oneCell (by assumption)) (oc (Sl.oneCell (by assumption)) oc_nil)) rfl ?_)))))))
   refine kl_chg [(orHp H70 H82), H86, sing b8 (.cells [v9, .int .i64 (q78 : Int)].toArray 85 (0, 0)), H52, K53, H44, sing b32 (.cells [v24, v25].toArray 26 (0, 0)), sing b1 (.cells [v24, v25].toArray 26 (0, 0))] rfl ?_
   refine kl_as rfl (kl_as rfl (kl_nil (kq_code (kc_ret (kq_frz H44 ?_)))))
   refine kq_apart H86 (orHp H70 H82) (fun c222 => ?_)
   have h223 := MatR.rows ⟨H86, (orHp H70 H82), [v61, v73], rfl, c222, o89⟩
   refine kq_frz H86 ?_
   refine kq_frz (orHp H70 H82) ?_
   refine kq_cmp H44 (orHp H86 (orHp H70 H82)) (fun c224 => ?_)
   refine kq_cmp (orHp M23 K16) (orHp H44 (orHp H86 (orHp H70 H82))) (fun c225 => ?_)
   refine kq_cmp H21 (orHp (orHp M23 K16) (orHp H44 (orHp H86 (orHp H70 H82)))) (fun c226 => ?_)
   exact kq_retR (rss3 rfl (rs_agg rfl rfl) (rs_tmp rfl) (rs_tmp rfl)) (orHp H21 (orHp (orHp M23 K16) (orHp H44 (orHp H86 (orHp H70 H82))))) (fr_or f27 (fr_or (fr_or f28 f15) (fr_or f46 (fr_or f87 (fr_or f72 f84))))) ⟨(⟨z19.doms, z19.cons⟩ : Mod), z42, ([z68, z80]), _, _, _, _, rfl, (Sl.mono (by assumption) (fun b o h => orL b o h) (fun _ _ h => h)), (Cons.mono' (by assumption) (fun b o h => orC c226 b o (orL b o h))), (Sl.mono (OwnL.bools o45) (fun b o h => orC c226 b o (orC c225 b o (orL b o h))) (fun _ _ h => h)), (Rows.mono' h223 (fun b o h => orC c226 b o (orC c225 b o (orC c224 b o h)))), by first | exact ⟨by assumption, by omega⟩ | exact ⟨by assumption, by first | (simp; done) | (simp; omega)⟩⟩ .none
 ·skip
  have c60r := c60
  try simp only [smpC, decide_eq_true_eq, decide_eq_false_iff_not] at c60
  refine kc_skipQ (kq_code (kc_seq (kc_seq (kc_region (kl_mv rfl (kl_mtLen rfl m56 (fun l227 => ?_)))))))
  refine kl_gtr rfl rfl ?_
  refine kl_nil (kq_code (kc_if rfl (fun c228 => ?_) (fun c228 => ?_)))
  ·skip
   have hall := rows_hall c228 (by first | exact str_rows _ _ | exact rows_two (by assumption) (by assumption))
   refine kc_seq (kc_region (kl_mv rfl (kl_mv rfl (kl_mtLen rfl m56 (fun l229 => ?_)))))
   refine kl_callT rfl rfl (pick_ok q40 ((strL z19 z42).length : Int) (by omega) h11) (fun v230 L1 Ln K234 h231 f232 f233 => ?_)
   obtain ⟨q235, h236, rfl, rfl, z237, rfl, h238⟩ := h231
   try have hrk := hall.2.2 _ (getD_mem (d := []) (show Int.toNat z237 < _ from by omega))
   refine kl_norm ?_
   refine kl_as rfl (kl_nil (kq_code (kc_seq (kc_region (kl_mv rfl (kl_callT rfl rfl (pick_ok q235 (6 : Int) (by omega) h11) (fun v241 L1 Ln K245 h242 f243 f244 => ?_)))))))
   obtain ⟨q246, h247, rfl, rfl, z248, rfl, h249⟩ := h242
   try have hrk := hall.2.2 _ (getD_mem (d := []) (show Int.toNat z248 < _ from by omega))
   refine kl_norm ?_
   refine kl_nil (kq_code (kc_block (kc_seq (kc_region (kl_eql rfl rfl ?_)))))
   refine kl_as rfl (kl_nil (kq_code (kc_if rfl (fun c252 => ?_) (fun c252 => ?_))))
   ·skip
    refine kc_seq (kc_apart H52 K53 (fun c253 => ?_))
    have h254 := MatR.rows ⟨H52, K53, us54, rfl, c253, m56⟩
    refine kc_frz H52 ?_
    refine kc_frz K53 ?_
    refine kc_tree (fun i => ([] : List Nat).contains i) [sing b32 (.cells [v24, v25].toArray 26 (0, 0))] (by kernel_rfl) ?_
    refine kt_q 0 (.cons _ (.cons _ (.cons_cons _ (List.nil_sublist _)))) rfl (by kernel_rfl) (kl_ldS rfl (at_box (T := 26) (cs := [v24, v25]) (off := 0) (fz := (0, 0))) rfl ?_)
    refine kl_nil (kq_q (kt_q 1 (.cons _ (.cons _ (.cons_cons _ (List.nil_sublist _)))) rfl (by kernel_rfl) (kl_mv rfl (kl_nil (kq_q (kt_q 2 (.cons _ (.cons _ (.cons_cons _ (List.nil_sublist _)))) rfl (by kernel_rfl) (kl_mv rfl (kl_nil (kq_q (kt_q 3 (.cons _ (.cons _ (.cons_cons _ (List.nil_sublist _)))) rfl (by kernel_rfl) (kl_mv rfl ?_)))))))))))
    refine kl_nil (kq_q (kt_q 4 (.cons _ (.cons _ (.cons_cons _ (List.nil_sublist _)))) rfl (by kernel_rfl) ?_))
    have e257 : z237 = (((Int.toNat z237) : Nat) : Int) := by omega
    refine kl_slTake (i := (Int.toNat z237)) rfl (by rw [← e257]; rfl) (by assumption) (by omega) (fun u255 h256 => ?_)
    refine kl_nil (kq_q (kt_q 6 (.cons _ (.cons _ (.cons_cons _ (List.nil_sublist _)))) rfl (by kernel_rfl) (kl_mv rfl (kl_nil (kq_q (kt_q 7 (.cons _ (.cons _ (.cons_cons _ (List.nil_sublist _)))) rfl (by kernel_rfl) (kl_mv rfl (kl_nil (kq_q (kt_q 8 (.cons _ (.cons _ (.cons_cons _ (List.nil_sublist _)))) rfl (by kernel_rfl) (kl_add rfl rfl (by omega) ?_)))))))))))
    refine kl_nil (kq_q (kt_q 9 (.cons _ (.cons _ (.cons_cons _ (List.nil_sublist _)))) rfl (by kernel_rfl) ?_))
    have e260 : (z237 + (1 : Int)) = (((Int.toNat (z237 + (1 : Int))) : Nat) : Int) := by omega
    refine kl_slDrop (j := (Int.toNat (z237 + (1 : Int)))) rfl (by rw [← e260]; rfl) (by assumption) (by omega) (fun u258 h259 => ?_)
    refine kl_nil (kq_q (kt_a 5 rfl (by kernel_rfl) (kl_callT rfl rfl (copyRows_ok ((strL z19 z42).take (Int.toNat z237)) (fun r hr => by have := hall.2.2 r (by first | exact List.mem_of_mem_take hr | exact List.mem_of_mem_drop hr); omega) (by simp; omega) (by assumption)) (fun v261 L1 Ln K262 h263 f264 f265 => ?_))))
    obtain ⟨rfl, H266, rfl, o267⟩ := h263
    have f268 := f264 _ (.head _)
    refine kl_norm ?_
    refine kl_nil (kq_a (.cons _ (.cons _ (.cons _ (.cons_cons _ (List.nil_sublist _))))) (kt_a 10 rfl (by kernel_rfl) (kl_callT rfl rfl (copyRows_ok ((strL z19 z42).drop (Int.toNat (z237 + (1 : Int)))) (fun r hr => by have := hall.2.2 r (by first | exact List.mem_of_mem_take hr | exact List.mem_of_mem_drop hr); omega) (by simp; omega) (by assumption)) (fun v269 L1 Ln K270 h271 f272 f273 => ?_))))
    obtain ⟨rfl, H274, rfl, o275⟩ := h271
    have f276 := f272 _ (.head _)
    refine kl_norm ?_
    refine kl_nil (kq_a (.cons _ (.cons _ (.cons _ (.cons _ (.cons_cons _ (List.nil_sublist _)))))) (kt_frz H274 ?_))
    refine kt_orI H274 K270 ?_
    refine kt_a 11 rfl (by kernel_rfl) (kl_cmp H274 K270 (fun c277 => ?_))
    have h278 := OwnL.rowsK o275 c277
    refine kl_cmp K262 (orHp H274 K270) (fun c279 => ?_)
    have o280 := OwnL.mono (K' := orHp K262 (orHp H274 K270)) o267 orL
    refine kl_apS rfl rfl o280 (by assumption) (fun _ _ h => RMono.mono (R := RowV) (orC c279) h) (by first | omega | (simp; omega)) (by decide) (fun v281 H282 o283 f284 => ?_)
    have f285 := f284 B f268 (Nat.le_refl _)
    refine kl_nil (kq_a (.cons _ (.cons _ (.cons _ (.cons_cons _ (List.nil_sublist _))))) (kt_a 12 rfl (by kernel_rfl) (kl_stW (us := [v24, v25]) rfl rfl rfl rfl (oc (Sl.oneCell (by assumption)) (oc (Sl.oneCell (by assumption)) oc_nil)) rfl ?_)))
    refine kl_chg [H282, sing b8 (.cells [v9, .int .i64 (q246 : Int)].toArray 85 (0, 0)), H44, sing b32 (.cells [v24, v25].toArray 26 (0, 0)), sing b1 (.cells [v24, v25].toArray 26 (0, 0))] rfl ?_
    refine kl_nil (kq_a (.cons _ (.cons _ (.cons _ (.cons_cons _ (List.nil_sublist _))))) (kt_q 13 (.cons _ (.cons _ (.cons _ (.cons_cons _ (List.nil_sublist _))))) rfl (by kernel_rfl) (kl_as rfl (kl_nil (kq_q (kt_q 14 (.cons _ (.cons _ (.cons _ (.cons_cons _ (List.nil_sublist _))))) rfl (by kernel_rfl) (kl_as rfl (kl_nil (kq_q (kt_end (by kernel_rfl) ?_))))))))))
    refine kq_code (kc_ret (kq_frz H44 ?_))
    refine kq_frz H282 ?_
    refine kq_cmp H282 (orHp K262 (orHp H274 K270)) (fun c286 => ?_)
    refine kq_cmp H44 (orHp H282 (orHp K262 (orHp H274 K270))) (fun c287 => ?_)
    refine kq_cmp (orHp M23 K16) (orHp H44 (orHp H282 (orHp K262 (orHp H274 K270)))) (fun c288 => ?_)
    refine kq_cmp H21 (orHp (orHp M23 K16) (orHp H44 (orHp H282 (orHp K262 (orHp H274 K270))))) (fun c289 => ?_)
    exact kq_retR (rss3 rfl (rs_agg rfl rfl) (rs_tmp rfl) (rs_tmp rfl)) (orHp H21 (orHp (orHp M23 K16) (orHp H44 (orHp H282 (orHp K262 (orHp H274 K270)))))) (fr_or f27 (fr_or (fr_or f28 f15) (fr_or f46 (fr_or f285 (fr_or f265 (fr_or f276 f273)))))) ⟨(⟨z19.doms, z19.cons⟩ : Mod), z42, (((strL z19 z42).take (Int.toNat z237)) ++ ((strL z19 z42).drop (Int.toNat (z237 + (1 : Int))))), _, _, _, _, rfl, (Sl.mono (by assumption) (fun b o h => orL b o h) (fun _ _ h => h)), (Cons.mono' (by assumption) (fun b o h => orC c289 b o (orL b o h))), (Sl.mono (OwnL.bools o45) (fun b o h => orC c289 b o (orC c288 b o (orL b o h))) (fun _ _ h => h)), (Rows.mono' (OwnL.rowsK o283 c286) (fun b o h => orC c289 b o (orC c288 b o (orC c287 b o h)))), by first | exact ⟨by assumption, by omega⟩ | exact ⟨by assumption, by first | (simp; done) | (simp; omega)⟩⟩ .none
   ·skip
    refine kc_seq (kc_region (kl_eql rfl rfl ?_))
    refine kl_as rfl (kl_nil (kq_code (kc_if rfl (fun c290 => ?_) (fun c290 => ?_))))
    ·skip
     refine kc_tree (fun i => ([14] : List Nat).contains i) [H52] (by kernel_rfl) ?_
     refine kt_q 0 (.cons _ (.cons_cons _ (List.nil_sublist _))) rfl (by kernel_rfl) (kl_mv rfl (kl_nil (kq_q (kt_q 1 (.cons _ (.cons_cons _ (List.nil_sublist _))) rfl (by kernel_rfl) (kl_mv rfl (kl_nil (kq_q (kt_q 2 (.cons _ (.cons_cons _ (List.nil_sublist _))) rfl (by kernel_rfl) (kl_mtIz rfl rfl m56 (by omega) (by omega) (fun p291 q292 => ?_))))))))))
     refine kl_nil (kq_q (kt_q 3 (.cons _ (.cons_cons _ (List.nil_sublist _))) rfl (by kernel_rfl) (kl_mtLde rfl (by assumption) m56 (by omega) ?_)))
     refine kl_nil (kq_q (kt_q 4 (.cons _ (.cons_cons _ (List.nil_sublist _))) rfl (by kernel_rfl) (kl_mv rfl (kl_nil (kq_q (kt_q 5 (.cons _ (.cons_cons _ (List.nil_sublist _))) rfl (by kernel_rfl) (kl_mv rfl (kl_nil (kq_q (kt_q 6 (.cons _ (.cons_cons _ (List.nil_sublist _))) rfl (by kernel_rfl) (kl_mv rfl ?_)))))))))))
     refine kl_nil (kq_q (kt_q 7 (.cons _ (.cons_cons _ (List.nil_sublist _))) rfl (by kernel_rfl) (kl_mtIz rfl rfl m56 (by omega) (by omega) (fun p293 q294 => ?_))))
     refine kl_nil (kq_q (kt_q 8 (.cons _ (.cons_cons _ (List.nil_sublist _))) rfl (by kernel_rfl) (kl_mtLde rfl (by assumption) m56 (by omega) ?_)))
     refine kl_nil (kq_q (kt_q 9 (.cons _ (.cons_cons _ (List.nil_sublist _))) rfl (by kernel_rfl) (kl_rwLen rfl m56 (by omega) ?_)))
     refine kl_nil (kq_q (kt_q 11 (.cons _ (.cons_cons _ (List.nil_sublist _))) rfl (by kernel_rfl) (kl_mv rfl (kl_nil (kq_q (kt_a 10 rfl (by kernel_rfl) (kl_callT rfl rfl (pick_ok q246 (((strL z19 z42).getD (Int.toNat z237) []).length : Int) (by omega) h11) (fun v295 L1 Ln K299 h296 f297 f298 => ?_))))))))
     obtain ⟨q300, h301, rfl, rfl, z302, rfl, h303⟩ := h296
     try have hrk := hall.2.2 _ (getD_mem (d := []) (show Int.toNat z302 < _ from by omega))
     refine kl_norm ?_
     refine kl_nil (kq_a (.cons _ (.cons_cons _ (List.nil_sublist _))) (kt_a 12 rfl (by kernel_rfl) (kl_callT rfl rfl (pick_ok q300 (6 : Int) (by omega) h11) (fun v306 L1 Ln K310 h307 f308 f309 => ?_))))
     obtain ⟨q311, h312, rfl, rfl, z313, rfl, h314⟩ := h307
     try have hrk := hall.2.2 _ (getD_mem (d := []) (show Int.toNat z313 < _ from by omega))
     refine kl_norm ?_
     refine kl_nil (kq_a (.cons _ (.cons_cons _ (List.nil_sublist _))) (kt_q 13 (.cons _ (.cons_cons _ (List.nil_sublist _))) rfl (by kernel_rfl) (kl_rwIz rfl rfl m56 (by omega) (by omega) (by omega) (fun p317 q318 => ?_))))
     refine kl_nil (kq_q (kt_a 14 rfl (by kernel_rfl) (kl_rwSt (enc := encI) z313 rfl rfl m56 (by assumption) (by omega) (by omega) (fun K319 o320 f321 => ?_))))
     have f322 := f321 _ f59
     refine kl_chg [sing b8 (.cells [v9, .int .i64 (q311 : Int)].toArray 85 (0, 0)), H52, K319, H44, sing b32 (.cells [v24, v25].toArray 26 (0, 0)), sing b1 (.cells [.slice none 0 0, .slice none 0 0].toArray 26 (0, 0))] rfl ?_
     refine kl_nil (kq_x rfl (kt_end (by kernel_rfl) ?_))
     refine kq_code (kc_seq (kc_region (kl_ldW rfl rfl (kl_mv rfl (kl_mv rfl (kl_stW (us := [v24, v25]) rfl rfl rfl rfl (oc (Sl.oneCell (by assumption)) (oc (Sl.oneCell (by assumption)) oc_nil)) rfl ?_))))))
     refine kl_chg [sing b8 (.cells [v9, .int .i64 (q311 : Int)].toArray 85 (0, 0)), H52, K319, H44, sing b32 (.cells [v24, v25].toArray 26 (0, 0)), sing b1 (.cells [v24, v25].toArray 26 (0, 0))] rfl ?_
     refine kl_as rfl (kl_as rfl (kl_nil (kq_code (kc_ret (kq_frz H44 ?_)))))
     refine kq_apart H52 K319 (fun c323 => ?_)
     have h324 := MatR.rows ⟨H52, K319, us54, rfl, c323, o320⟩
     refine kq_frz H52 ?_
     refine kq_frz K319 ?_
     refine kq_cmp H44 (orHp H52 K319) (fun c325 => ?_)
     refine kq_cmp (orHp M23 K16) (orHp H44 (orHp H52 K319)) (fun c326 => ?_)
     refine kq_cmp H21 (orHp (orHp M23 K16) (orHp H44 (orHp H52 K319))) (fun c327 => ?_)
     exact kq_retR (rss3 rfl (rs_agg rfl rfl) (rs_tmp rfl) (rs_tmp rfl)) (orHp H21 (orHp (orHp M23 K16) (orHp H44 (orHp H52 K319)))) (fr_or f27 (fr_or (fr_or f28 f15) (fr_or f46 (fr_or f58 f322)))) ⟨(⟨z19.doms, z19.cons⟩ : Mod), z42, ((strL z19 z42).set (Int.toNat z237) (((strL z19 z42).getD (Int.toNat z237) []).set (Int.toNat z302) z313)), _, _, _, _, rfl, (Sl.mono (by assumption) (fun b o h => orL b o h) (fun _ _ h => h)), (Cons.mono' (by assumption) (fun b o h => orC c327 b o (orL b o h))), (Sl.mono (OwnL.bools o45) (fun b o h => orC c327 b o (orC c326 b o (orL b o h))) (fun _ _ h => h)), (Rows.mono' h324 (fun b o h => orC c327 b o (orC c326 b o (orC c325 b o h)))), by first | exact ⟨by assumption, by omega⟩ | exact ⟨by assumption, by first | (simp; done) | (simp; omega)⟩⟩ .none
    ·skip
     refine kc_seq (kc_region (kl_eql rfl rfl ?_))
     refine kl_as rfl (kl_nil (kq_code (kc_if rfl (fun c328 => ?_) (fun c328 => ?_))))
     ·skip
      refine kc_region (kl_mv rfl (kl_mv rfl (kl_mv rfl (kl_mtIz rfl rfl m56 (by omega) (by omega) (fun p329 q330 => ?_)))))
      refine kl_mtLd rfl (by assumption) m56 (by omega) ?_
      have h331 := Mat.irow m56 (by omega : (Int.toNat z237) < (strL z19 z42).length)
      refine kl_callL rfl rfl (copyInts_ok ((strL z19 z42).getD (Int.toNat z237) []) (by omega) (by assumption)) (fun v332 H333 f334 o335 => ?_)
      refine kl_bs rfl rfl rfl (by decide) (ca (by first | exact Sl.cells (by assumption) | exact OwnL.cells (by assumption)) ca_nil) (fun v336 H337 f338 r339 s340 => ?_)
      refine kl_apart K53 H333 (fun a346 => ?_)
      refine kl_app rfl rfl m56.hd (by assumption) (oc (OwnL.oneCell o335) oc_nil) (by first | omega | (simp; omega)) (by decide) (fun v341 H342 o343 f344 => ?_)
      have f345 := f344 B f58 (Nat.le_refl _)
      have m347 := Mat.push m56 o343 (OwnL.imap o335) (by omega) (OwnL.liq o335) a346
      refine kl_mrg K53 H333 ?_
      refine kl_as rfl (kl_nil (kq_code (kc_seq (kc_region (kl_ldW rfl rfl (kl_mv rfl (kl_mv rfl (kl_stW (us := [v24, v25]) rfl rfl rfl rfl (oc (Sl.oneCell (by assumption)) (oc (Sl.oneCell (by assumption)) oc_nil)) rfl ?_))))))))
      refine kl_chg [(orHp K53 H333), sing b8 (.cells [v9, .int .i64 (q246 : Int)].toArray 85 (0, 0)), H342, H44, sing b32 (.cells [v24, v25].toArray 26 (0, 0)), sing b1 (.cells [v24, v25].toArray 26 (0, 0))] rfl ?_
      refine kl_as rfl (kl_as rfl (kl_nil (kq_code (kc_ret (kq_frz H44 ?_)))))
      refine kq_apart H342 (orHp K53 H333) (fun c348 => ?_)
      have h349 := MatR.rows ⟨H342, (orHp K53 H333), (us54 ++ [v332]), rfl, c348, m347⟩
      refine kq_frz H342 ?_
      refine kq_frz (orHp K53 H333) ?_
      refine kq_cmp H44 (orHp H342 (orHp K53 H333)) (fun c350 => ?_)
      refine kq_cmp (orHp M23 K16) (orHp H44 (orHp H342 (orHp K53 H333))) (fun c351 => ?_)
      refine kq_cmp H21 (orHp (orHp M23 K16) (orHp H44 (orHp H342 (orHp K53 H333)))) (fun c352 => ?_)
      exact kq_retR (rss3 rfl (rs_agg rfl rfl) (rs_tmp rfl) (rs_tmp rfl)) (orHp H21 (orHp (orHp M23 K16) (orHp H44 (orHp H342 (orHp K53 H333))))) (fr_or f27 (fr_or (fr_or f28 f15) (fr_or f46 (fr_or f345 (fr_or f59 f334))))) ⟨(⟨z19.doms, z19.cons⟩ : Mod), z42, ((strL z19 z42) ++ [((strL z19 z42).getD (Int.toNat z237) [])]), _, _, _, _, rfl, (Sl.mono (by assumption) (fun b o h => orL b o h) (fun _ _ h => h)), (Cons.mono' (by assumption) (fun b o h => orC c352 b o (orL b o h))), (Sl.mono (OwnL.bools o45) (fun b o h => orC c352 b o (orC c351 b o (orL b o h))) (fun _ _ h => h)), (Rows.mono' h349 (fun b o h => orC c352 b o (orC c351 b o (orC c350 b o h)))), by first | exact ⟨by assumption, by omega⟩ | exact ⟨by assumption, by first | (simp; done) | (simp; omega)⟩⟩ .none
     ·skip
      refine kc_skipQ (kq_code (kc_seq (kc_region (kl_ldW rfl rfl (kl_mv rfl (kl_mv rfl (kl_stW (us := [v24, v25]) rfl rfl rfl rfl (oc (Sl.oneCell (by assumption)) (oc (Sl.oneCell (by assumption)) oc_nil)) rfl ?_)))))))
      refine kl_chg [sing b8 (.cells [v9, .int .i64 (q246 : Int)].toArray 85 (0, 0)), H52, K53, H44, sing b32 (.cells [v24, v25].toArray 26 (0, 0)), sing b1 (.cells [v24, v25].toArray 26 (0, 0))] rfl ?_
      refine kl_as rfl (kl_as rfl (kl_nil (kq_code (kc_ret (kq_frz H44 ?_)))))
      refine kq_apart H52 K53 (fun c353 => ?_)
      have h354 := MatR.rows ⟨H52, K53, us54, rfl, c353, m56⟩
      refine kq_frz H52 ?_
      refine kq_frz K53 ?_
      refine kq_cmp H44 (orHp H52 K53) (fun c355 => ?_)
      refine kq_cmp (orHp M23 K16) (orHp H44 (orHp H52 K53)) (fun c356 => ?_)
      refine kq_cmp H21 (orHp (orHp M23 K16) (orHp H44 (orHp H52 K53))) (fun c357 => ?_)
      exact kq_retR (rss3 rfl (rs_agg rfl rfl) (rs_tmp rfl) (rs_tmp rfl)) (orHp H21 (orHp (orHp M23 K16) (orHp H44 (orHp H52 K53)))) (fr_or f27 (fr_or (fr_or f28 f15) (fr_or f46 (fr_or f58 f59)))) ⟨(⟨z19.doms, z19.cons⟩ : Mod), z42, (strL z19 z42), _, _, _, _, rfl, (Sl.mono (by assumption) (fun b o h => orL b o h) (fun _ _ h => h)), (Cons.mono' (by assumption) (fun b o h => orC c357 b o (orL b o h))), (Sl.mono (OwnL.bools o45) (fun b o h => orC c357 b o (orC c356 b o (orL b o h))) (fun _ _ h => h)), (Rows.mono' h354 (fun b o h => orC c357 b o (orC c356 b o (orC c355 b o h)))), by first | exact ⟨by assumption, by omega⟩ | exact ⟨by assumption, by first | (simp; done) | (simp; omega)⟩⟩ .none
  ·skip
   have hz9 := rows_z c228
   refine kc_skipQ (kq_code (kc_seq (kc_region (kl_ldW rfl rfl (kl_mv rfl (kl_mv rfl (kl_stW (us := [v24, v25]) rfl rfl rfl rfl (oc (Sl.oneCell (by assumption)) (oc (Sl.oneCell (by assumption)) oc_nil)) rfl ?_)))))))
   refine kl_chg [H52, K53, sing b8 (.cells [v9, .int .i64 (q40 : Int)].toArray 85 (0, 0)), H44, sing b32 (.cells [v24, v25].toArray 26 (0, 0)), sing b1 (.cells [v24, v25].toArray 26 (0, 0))] rfl ?_
   refine kl_as rfl (kl_as rfl (kl_nil (kq_code (kc_ret (kq_frz H44 ?_)))))
   refine kq_apart H52 K53 (fun c358 => ?_)
   have h359 := MatR.rows ⟨H52, K53, us54, rfl, c358, m56⟩
   refine kq_frz H52 ?_
   refine kq_frz K53 ?_
   refine kq_cmp H44 (orHp H52 K53) (fun c360 => ?_)
   refine kq_cmp (orHp M23 K16) (orHp H44 (orHp H52 K53)) (fun c361 => ?_)
   refine kq_cmp H21 (orHp (orHp M23 K16) (orHp H44 (orHp H52 K53))) (fun c362 => ?_)
   exact kq_retR (rss3 rfl (rs_agg rfl rfl) (rs_tmp rfl) (rs_tmp rfl)) (orHp H21 (orHp (orHp M23 K16) (orHp H44 (orHp H52 K53)))) (fr_or f27 (fr_or (fr_or f28 f15) (fr_or f46 (fr_or f58 f59)))) ⟨(⟨z19.doms, z19.cons⟩ : Mod), z42, (strL z19 z42), _, _, _, _, rfl, (Sl.mono (by assumption) (fun b o h => orL b o h) (fun _ _ h => h)), (Cons.mono' (by assumption) (fun b o h => orC c362 b o (orL b o h))), (Sl.mono (OwnL.bools o45) (fun b o h => orC c362 b o (orC c361 b o (orL b o h))) (fun _ _ h => h)), (Rows.mono' h359 (fun b o h => orC c362 b o (orC c361 b o (orC c360 b o h)))), by first | exact ⟨by assumption, by omega⟩ | exact ⟨by assumption, by first | (simp; done) | (simp; omega)⟩⟩ .none
theorem cloneR_ok {Hxs : Hp} {vxs : Value} (xs : List (List Int)) (hb : xs.length ≤ 1048576) (hxs : Rows Hxs vxs xs) : Spec Tryz.prog 78 [vxs] [Hxs] ((fun Hq vq => OwnL 23 1 Hq Hxs RowV vq xs)) := by
 refine spec_of Tryz.func78 rfl rfl rfl (fun B => ?_)
 refine kc_seq (kc_region (kl_as rfl (kl_nil (kq_code (kc_seq (kc_seq (kc_region (kl_mv rfl (kl_eqlnilX rfl rfl (by assumption) (fun bn nn nx => ?_))))))))))
 refine kl_nil (kq_code (kc_cond rfl (fun c3 => ?_) (fun c3 => ?_)))
 ·skip
  have c3r := c3
  try simp only [smpC, decide_eq_true_eq, decide_eq_false_iff_not] at c3
  refine kc_seq (kc_region (kl_as rfl (kl_nil (kq_code (kc_ret ?_)))))
  exact kq_ret rfl rfl noHp (fr_no _) (by rw [nn (by assumption)]; exact OwnL.nil)
 ·skip
  have c3r := c3
  try simp only [smpC, decide_eq_true_eq, decide_eq_false_iff_not] at c3
  refine kc_skipQ (kq_code (kc_seq (kc_region (kl_bs0k (K := Hxs) RowV rfl (fun v4 H5 f6 o7 => ?_)))))
  refine kl_mv rfl (kl_apS rfl rfl o7 (by assumption) (fun _ _ h => h) (by simp; omega) (by decide) (fun v8 H9 o10 f11 => ?_))
  have f12 := f11 B f6 (Nat.le_refl _)
  refine kl_as rfl (kl_nil (kq_code (kc_ret ?_)))
  exact kq_ret rfl rfl H9 f12 o10
theorem delF_ok {Hs Ks : Hp} {vs : Value} {gp : Nat} {capsp : Array Value} {imp : List Hp} [FnC Tryz.prog gp] (xs : List (List Int)) (p : List Int → Bool) (h0 : 0 < xs.length) (os : OwnL 23 1 Hs Ks RowV vs xs)
  (hp : ∀ (H : Hp) (u : Value) (r : List Int), r ∈ xs → Ints H u r → SpecP Tryz.prog gp (u :: capsp.toList) (H :: imp) (.bool (p r))) : SpecT Tryz.prog 77 [vs, .func (.func gp) #[] capsp] [Hs] (Ks :: imp) (fun vq L1 Ln _ => ∃ Hq, L1 = [Hq] ∧ Ln = [] ∧ OwnL 23 1 Hq Ks RowV vq (xs.filter (fun r => !(p r)))) := by
 have hlen := os.len
 refine specT_of Tryz.func77 rfl rfl rfl (fun B => ?_)
 refine kc_seq (kc_region (kl_as rfl (kl_nil (kq_code (kc_seq (kc_region (kl_mv rfl (kl_mv rfl (kl_cmp Hs Ks (fun c1 => ?_))))))))))
 have h2 := OwnL.rowsK os c1
 refine kl_callP rfl rfl (ixf_row_ok xs p (by assumption) hp) ?_
 refine kl_as rfl (kl_nil (kq_code (kc_seq (kc_seq (kc_region (kl_mv rfl (kl_eql rfl rfl ?_)))))))
 refine kl_nil (kq_code (kc_if rfl (fun c3 => ?_) (fun c3 => ?_)))
 ·skip
  refine kc_seq (kc_region (kl_mv rfl (kl_as rfl (kl_nil (kq_code (kc_ret ?_))))))
  exact kq_retT rfl rfl [Hs] [] noHp frn (fr_no _) ⟨Hs, rfl, rfl, OwnL.cast (delI_none (by assumption)) os⟩
 ·skip
  have hd0 := delI_0 c3
  refine kc_skipQ (kq_code (kc_seq (kc_seq (kc_region (kl_mv rfl (kl_add rfl rfl (by omega) ?_))))))
  refine kl_as rfl (kl_nil (kq_code (kc_block (kc_loopL (A := Nat × Int × Int × List (List Int) × Hp) (fun zz => (zz.1 ≤ xs.length) ∧ (zz.2.2.1 = (zz.1 : Int) ∧ 0 ≤ zz.2.1 ∧ zz.2.1 < (zz.1 : Int) ∧ DelI p xs zz.2.2.2.1 zz.2.1.toNat zz.1) ∧ OwnL 23 1 zz.2.2.2.2 Ks RowV vs zz.2.2.2.1) (fun zz => xs.length - zz.1) (fun zz => [zz.2.2.2.2]) (fun zz => [(5, .int .i64 zz.2.1), (6, .int .i64 zz.2.2.1)]) ((Int.toNat (indexBy p xs) + 1), (indexBy p xs), ((indexBy p xs) + (1 : Int)), xs, Hs) (pc 0 rfl (pc 1 rfl (pc 4 rfl pn))) (pc 5 rfl (pc 6 rfl pn)) rfl ⟨(by omega), ⟨by dsimp only; omega, hd0.1, by dsimp only; omega, hd0.2.2⟩, os⟩ ?_))))
  rintro ⟨j, i, z, ys, H6⟩ hJ9
  obtain ⟨hk4, hi5, o7⟩ : (j ≤ xs.length) ∧ (z = (j : Int) ∧ 0 ≤ i ∧ i < (j : Int) ∧ DelI p xs ys i.toNat j) ∧ OwnL 23 1 H6 Ks RowV vs ys := hJ9
  change KC _ _ (_) [H6] _ ([(5, .int .i64 i), (6, .int .i64 z)] ++ _)
  have hz := hi5.1
  have hyl := hi5.2.2.2.l
  refine kc_seq (kc_seq (kc_region (kl_mv rfl (kl_mv rfl (kl_lenL rfl o7 (fun l10 => ?_))))))
  refine kl_lss rfl rfl ?_
  refine kl_nil (kq_code (kc_if rfl (fun c11 => ?_) (fun c11 => ?_)))
  ·skip
   refine kc_skipQ (kq_code (kc_seq (kc_block (kc_seq (kc_region (kl_mv rfl (kl_mv rfl (kl_ixL rfl rfl (by assumption) (by (first | omega | (have := hi5.2.2.2.l; have := hi5.2.2.2.ij; omega))) (by (first | omega | (have := hi5.2.2.2.l; have := hi5.2.2.2.ij; omega))) (fun p12 q13 => ?_)))))))))
   refine kl_ldLR rfl (by assumption) (by assumption) (by (first | omega | (have := hi5.2.2.2.l; have := hi5.2.2.2.ij; omega))) (fun u14 h15 => ?_)
   refine kl_as rfl (kl_nil (kq_code (kc_seq (kc_region (kl_mv rfl (kl_mv rfl (kl_callP rfl rfl (hp _ _ (ys.getD z.toNat []) (by rw [show z.toNat = j from by omega, hi5.2.2.2.at (by omega)]; exact getD_mem (by omega)) (by assumption)) ?_)))))))
   refine kl_not rfl (kl_nil (kq_code (kc_cond rfl (fun c16 => ?_) (fun c16 => ?_))))
   ·skip
    have c16r := c16
    try simp only [smpC, decide_eq_true_eq, decide_eq_false_iff_not] at c16
    refine kc_seq (kc_region (kl_mv rfl (kl_mv rfl (kl_mv rfl (kl_ixL rfl rfl (by assumption) (by (first | omega | (have := hi5.2.2.2.l; have := hi5.2.2.2.ij; omega))) (by (first | omega | (have := hi5.2.2.2.l; have := hi5.2.2.2.ij; omega))) (fun p17 q18 => ?_))))))
    refine kl_stL (ys.getD z.toNat []) rfl rfl (by assumption) o7 (by (first | omega | (have := hi5.2.2.2.l; have := hi5.2.2.2.ij; omega))) ⟨_, rfl, (by assumption)⟩ (Sl.oneCell (by assumption)) (Sl.cells (by assumption)) (fun H19 o20 f21 => ?_)
    refine kl_chg [H19] rfl ?_
    refine kl_nil (kq_code (kc_region (kl_mv rfl (kl_add rfl rfl (by omega) ?_))))
    refine kl_as rfl (kl_nil (kq_code (kc_region (kl_mv rfl (kl_add rfl rfl (by omega) ?_)))))
    refine kl_as rfl (kl_nil (kq_take [H19] ?_))
    refine kq_roundL ((j + 1), (i + (1 : Int)), (z + (1 : Int)), (ys.set i.toNat (ys.getD z.toNat [])), H19) (by omega) (⟨by omega, (by first | exact ⟨by dsimp only; omega, by dsimp only; omega, by dsimp only; omega, (by rw [show (i + 1).toNat = i.toNat + 1 from by omega]; have h9 := hi5.2.2.2.keep (by omega) (by rw [show j = z.toNat from by omega]; assumption); rw [show j = z.toNat from by omega] at h9 ⊢; exact h9)⟩ | exact ⟨by dsimp only; omega, by dsimp only; omega, by dsimp only; omega, hi5.2.2.2.skip (by omega) (by rw [show j = z.toNat from by omega]; assumption)⟩), o20⟩) (pc 5 rfl (pc 6 rfl pn)) (pc 0 rfl (pc 1 rfl (pc 4 rfl pn))) rfl (List.Sublist.refl _)
   ·skip
    have c16r := c16
    try simp only [smpC, decide_eq_true_eq, decide_eq_false_iff_not] at c16
    refine kc_skipQ (kq_code (kc_region (kl_mv rfl (kl_add rfl rfl (by omega) ?_))))
    refine kl_as rfl (kl_nil (kq_take [H6] ?_))
    refine kq_roundL ((j + 1), i, (z + (1 : Int)), ys, H6) (by omega) (⟨by omega, (by first | exact ⟨by dsimp only; omega, by dsimp only; omega, by dsimp only; omega, (by rw [show (i + 1).toNat = i.toNat + 1 from by omega]; have h9 := hi5.2.2.2.keep (by omega) (by rw [show j = z.toNat from by omega]; assumption); rw [show j = z.toNat from by omega] at h9 ⊢; exact h9)⟩ | exact ⟨by dsimp only; omega, by dsimp only; omega, by dsimp only; omega, hi5.2.2.2.skip (by omega) (by rw [show j = z.toNat from by omega]; assumption)⟩), o7⟩) (pc 5 rfl (pc 6 rfl pn)) (pc 0 rfl (pc 1 rfl (pc 4 rfl pn))) rfl (List.Sublist.refl _)
  ·skip
   refine kc_exit (kq_code (kc_seq (kc_region (kl_mv rfl (kl_mv rfl ?_)))))
   have e25 : i = (((Int.toNat i) : Nat) : Int) := by omega
   refine kl_tail (j := (Int.toNat i)) rfl (by rw [← e25]; rfl) o7 (by have := hi5.2.2.2.l; omega) (by (have := hi5.2.2.2.l; have := hi5.2.2.2.ij; omega)) (fun u23 h24 => ?_)
   refine kl_clrT ([] : List Int) rfl h24 o7 (by have := hi5.2.2.2.l; omega) (by (have := hi5.2.2.2.l; have := hi5.2.2.2.ij; omega)) rfl ⟨_, rfl, Sl.nil⟩ rfl (fun H26 o27 f28 => ?_)
   refine kl_nil (kq_code (kc_seq (kc_region (kl_mv rfl (kl_mv rfl ?_)))))
   have e32 : i = (((Int.toNat i) : Nat) : Int) := by first | omega | (simp only [List.length_append, List.length_cons, List.length_nil]; omega)
   refine kl_slTakeL (i := (Int.toNat i)) rfl (by rw [← e32]; rfl) o27 (by (have := hi5.2.2.2.l; have := hi5.2.2.2.ij; simp; omega)) (fun u30 o31 => ?_)
   refine kl_as rfl (kl_nil (kq_code (kc_ret ?_)))
   exact kq_retT rfl rfl [H26] [] noHp frn (fr_no _) ⟨H26, rfl, rfl, OwnL.cast (by have h9 := hi5.2.2.2; rw [List.take_append_of_le_length (by simp; omega), List.take_take, Nat.min_self]; exact h9.fin (by omega)) o31⟩
theorem follows1_ok {Hr : Hp} {vr : Value} {Hpi : Hp} {ptrpi : Value} {Hpv : Hp} {ptrpv : Value} (r : List Int) (i : Int) (v : Int) (hr : 0 ≤ i ∧ i < (r.length : Int)) (hr : Ints Hr vr r) (api : At Hpi ptrpi [.int .i64 i]) (apv : At Hpv ptrpv [.int .i64 v]) : SpecP Tryz.prog 79 [vr, ptrpi, ptrpv] [Hr, Hpi, Hpv] (.bool (decide (r.getD i.toNat 0 ≠ v))) := by
 refine spec_of Tryz.func79 rfl rfl rfl (fun B => ?_)
 refine kc_seq (kc_region (kl_as rfl (kl_nil (kq_code (kc_seq (kc_draw 7 [true, true, true, true, true, true, true] (by kernel_rfl) (by kernel_rfl) ?_))))))
 refine kl_mv rfl (kl_ld rfl (by assumption) (kl_ixI rfl rfl (by assumption) (by omega) (by omega) (fun p1 a2 => ?_)))
 refine kl_ld rfl (by assumption) (kl_ld rfl (by assumption) (kl_neq rfl rfl ?_))
 refine kl_as rfl (kl_nil (kq_code (kc_ret (kq_retP rfl rfl (congrArg Value.bool ?_)))))
 rfl
abbrev followsSt (k : Nat) : Prop := ∀ {Hmd : Hp} {vmd : Value} {Hmc : Hp} {vmc : Value} {Hfa : Hp} {vfa : Value} {Hl : Hp} {vl : Value} (m : Mod) (fa : List Bool) (l : List (List Int)) (i : Int) (hM : MOk m) (hf : fa.length = m.doms.length) (hi : 0 ≤ i ∧ i + (k : Int) = m.doms.length) (hP : ∀ x ∈ l, x.length = m.doms.length ∧ Vals x) (hne : 0 < l.length) (hb : l.length ≤ 1048576) (hmd : Ints Hmd vmd m.doms) (hmc : Cons Hmc vmc m.cons) (hfa : Bools Hfa vfa fa) (hl : Rows Hl vl l), SpecP Tryz.prog 32 [.agg #[vmd, vmc], vfa, vl, .int .i64 i] [Hmd, Hmc, Hfa, Hl] (.bool (folB m fa k l))
theorem follows_step (k : Nat) (ih : ∀ j, j < k → followsSt j) : followsSt k := by
 intro Hmd vmd Hmc vmc Hfa vfa Hl vl m fa l i hM hf hi hP hne hb hmd hmc hfa hl
 refine spec_of Tryz.func32 rfl rfl rfl (fun B => ?_)
 refine kc_seq (kc_region (kl_box rfl rfl (fun p1 H2 f3 a4 => ?_)))
 refine kl_box rfl rfl (fun p5 H6 f7 a8 => ?_)
 refine kl_as rfl (kl_nil (kq_code (kc_seq (kc_seq (kc_region (kl_ld rfl (by assumption) (kl_fd rfl (by assumption) (fun p9 a10 => ?_))))))))
 refine kl_ld rfl (by assumption) (kl_len rfl (by assumption) (fun l11 => ?_))
 refine kl_eql rfl rfl ?_
 refine kl_nil (kq_code (kc_if rfl (fun c12 => ?_) (fun c12 => ?_)))
 ·skip
  have hk0 : k = 0 := by omega
  subst hk0
  refine kc_seq (kc_region (kl_mv rfl (kl_len rfl (by assumption) (fun l13 => ?_))))
  refine kl_eql rfl rfl ?_
  refine kl_as rfl (kl_nil (kq_code (kc_ret (kq_retP rfl rfl (congrArg Value.bool ?_)))))
  rfl
 ·skip
  obtain ⟨j, rfl⟩ : ∃ j, k = j + 1 := ⟨k - 1, by omega⟩
  have hn := hM.n
  have hii : Int.toNat i = m.doms.length - (j + 1) := by omega
  refine kc_skipQ (kq_code (kc_seq (kc_region (kl_as rfl (kl_nil (kq_code (kc_seq (kc_seq (kc_region (kl_mv rfl (kl_len rfl (by assumption) (fun l14 => ?_))))))))))))
  refine kl_mv rfl (kl_nil (kq_code (kc_block (kc_loop0 (A := Nat × Int) (fun zz => (zz.1 ≤ l.length) ∧ (zz.2 = takM (l.take zz.1) i.toNat)) (fun zz => l.length - zz.1) (fun zz => [(25, .int .i64 (zz.1 : Int)), (9, .int .i64 zz.2)]) (0, (0 : Int)) (pc 1 rfl (pc 2 rfl (pc 4 rfl (pc 7 rfl (pc 8 rfl (pc 23 rfl (pc 24 rfl pn))))))) (pc 25 rfl (pc 9 rfl pn)) ⟨Nat.zero_le _, (takM_0 _).symm⟩ ?_))))
  rintro ⟨q, t⟩ hJ17
  obtain ⟨hk15, hi16⟩ : (q ≤ l.length) ∧ (t = takM (l.take q) i.toNat) := hJ17
  change KC _ _ (_) _ _ ([(25, .int .i64 (q : Int)), (9, .int .i64 t)] ++ _)
  refine kc_seq (kc_region (kl_lss rfl rfl ?_))
  refine kl_nil (kq_code (kc_seq (kc_if rfl (fun c18 => ?_) (fun c18 => ?_))))
  ·skip
   have hv := (by have h8 := hP _ (getD_mem (d := []) (by omega : q < l.length)); exact h8.2.at (k := i.toNat) (by omega))
   have hrl := (hP _ (getD_mem (d := []) (by omega : q < l.length))).1
   have hsl := shl_le hv
   refine kc_skipQ (kq_code (kc_seq (kc_block (kc_seq (kc_region (kl_inS rfl rfl (by assumption) (by omega) (fun p19 u21 h22 a20 => ?_)))))))
   refine kl_ld rfl (by assumption) (kl_as rfl (kl_nil (kq_code (kc_region (kl_mv rfl (kl_mv rfl (kl_ld rfl (by assumption) (kl_ixI rfl rfl (by assumption) (by omega) (by omega) (fun p23 a24 => ?_)))))))))
   refine kl_ld rfl (by assumption) (kl_shl rfl rfl (by omega) ?_)
   refine kl_or rfl rfl ?_
   refine kl_as rfl (kl_nil (kq_code (kc_region (kl_inc rfl rfl (by omega) ?_))))
   refine kl_mv rfl (kl_nil (kq_round0 ((q + 1), (ior t (ishl (1 : Int) ((l.getD q []).getD i.toNat 0)))) (by omega) (⟨by omega, (takM_ior (by omega) hi16 hv)⟩) (pc 25 rfl (pc 9 rfl pn)) (pc 1 rfl (pc 2 rfl (pc 4 rfl (pc 7 rfl (pc 8 rfl (pc 23 rfl (pc 24 rfl pn))))))) (List.Sublist.refl _)))
  ·skip
   refine kc_exit (kq_code (kc_seq (kc_seq (kc_region (kl_mv rfl (kl_ld rfl (by assumption) (kl_ixB rfl rfl (by assumption) (by omega) (by omega) (fun p25 a26 => ?_))))))))
   refine kl_ld rfl (by assumption) (kl_mv rfl (kl_join 8 49 (.bool ((fa.getD i.toNat false) && decide (t ≠ (m.doms.getD i.toNat 0)))) (pc 1 rfl (pc 2 rfl (pc 4 rfl (pc 7 rfl (pc 8 rfl (pc 9 rfl (pc 41 rfl pn))))))) (fun J32 => ?_) ?_))
   ·rcases Bool.eq_false_or_eq_true (fa.getD i.toNat false) with g27 | g27
    ·skip
     have g27p := g27
     try simp only [Bool.not_eq_true', Bool.not_eq_false', decide_eq_true_eq, decide_eq_false_iff_not, Bool.and_eq_true, Bool.or_eq_false_iff, withinB_iff] at g27p
     refine kl_gT rfl rfl g27 (kl_mv rfl (kl_gT rfl rfl g27 (kl_fd rfl (by assumption) (fun p28 a29 => ?_))))
     refine kl_gT rfl rfl g27 (kl_ld rfl (by assumption) (kl_gT rfl rfl g27 (kl_ld rfl (by assumption) (kl_gT rfl rfl g27 (kl_ixI rfl rfl (by assumption) (by omega) (by omega) (fun p30 a31 => ?_))))))
     refine kl_gT rfl rfl g27 (kl_ld rfl (by assumption) (kl_gT rfl rfl g27 (kl_neq rfl rfl ?_)))
     refine kl_andT rfl rfl g27 ?_
     exact J32 _ (pc 49 rfl (pc 1 rfl (pc 2 rfl (pc 4 rfl (pc 7 rfl (pc 8 rfl (pc 9 rfl (pc 41 rfl pn))))))))
    ·skip
     refine kl_gF rfl rfl g27 (kl_gF rfl rfl g27 (kl_gF rfl rfl g27 (kl_gF rfl rfl g27 (kl_gF rfl rfl g27 (kl_gF rfl rfl g27 (kl_gF rfl rfl g27 (kl_andF (decide (t ≠ (m.doms.getD i.toNat 0))) rfl rfl g27 ?_)))))))
     exact J32 _ (pc 49 rfl (pc 1 rfl (pc 2 rfl (pc 4 rfl (pc 7 rfl (pc 8 rfl (pc 9 rfl (pc 41 rfl pn))))))))
   refine kl_mv rfl (kl_join 11 61 (.bool (((fa.getD i.toNat false) && decide (t ≠ (m.doms.getD i.toNat 0))) || (!(fa.getD i.toNat false) && decide ((popI t) ≠ (1 : Int))))) (pc 1 rfl (pc 2 rfl (pc 4 rfl (pc 7 rfl (pc 8 rfl (pc 9 rfl (pc 50 rfl pn))))))) (fun J38 => ?_) ?_)
   ·rcases Bool.eq_false_or_eq_true ((fa.getD i.toNat false) && decide (t ≠ (m.doms.getD i.toNat 0))) with g33 | g33
    ·skip
     refine kl_gF rfl rfl g33 (kl_gF rfl rfl g33 (kl_gF rfl rfl g33 (kl_gF rfl rfl g33 (kl_gF rfl rfl g33 (kl_gF rfl rfl g33 (kl_gU rfl rfl (kl_gU rfl rfl (kl_gU rfl rfl ?_))))))))
     refine kl_gF rfl rfl g33 (kl_orT (!(fa.getD i.toNat false) && decide ((popI t) ≠ (1 : Int))) rfl rfl g33 ?_)
     exact J38 _ (pc 61 rfl (pc 1 rfl (pc 2 rfl (pc 4 rfl (pc 7 rfl (pc 8 rfl (pc 9 rfl (pc 50 rfl pn))))))))
    ·skip
     have g33p := g33
     try simp only [Bool.not_eq_true', Bool.not_eq_false', decide_eq_true_eq, decide_eq_false_iff_not, Bool.and_eq_true, Bool.or_eq_false_iff, withinB_iff] at g33p
     refine kl_gT rfl rfl g33 (kl_mv rfl (kl_gT rfl rfl g33 (kl_ld rfl (by assumption) (kl_gT rfl rfl g33 (kl_ixB rfl rfl (by assumption) (by omega) (by omega) (fun p34 a35 => ?_))))))
     refine kl_gT rfl rfl g33 (kl_ld rfl (by assumption) (kl_gT rfl rfl g33 (kl_not rfl (kl_gT rfl rfl g33 (kl_mv rfl (kl_join 4 60 (.bool (!(fa.getD i.toNat false) && decide ((popI t) ≠ (1 : Int)))) (pc 1 rfl (pc 2 rfl (pc 4 rfl (pc 7 rfl (pc 8 rfl (pc 9 rfl (pc 50 rfl (pc 56 rfl pn)))))))) (fun J37 => ?_) ?_))))))
     ·rcases Bool.eq_false_or_eq_true (!(fa.getD i.toNat false)) with g36 | g36
      ·skip
       have g36p := g36
       try simp only [Bool.not_eq_true', Bool.not_eq_false', decide_eq_true_eq, decide_eq_false_iff_not, Bool.and_eq_true, Bool.or_eq_false_iff, withinB_iff] at g36p
       refine kl_gT rfl rfl g36 (kl_mv rfl (kl_gT rfl rfl g36 (kl_callP rfl rfl (size_ok t (by rw [hi16]; exact takM_in _ _)) ?_)))
       refine kl_gT rfl rfl g36 (kl_neq rfl rfl ?_)
       refine kl_gT rfl rfl g33 (kl_andT rfl rfl g36 ?_)
       exact J37 _ (pc 60 rfl (pc 1 rfl (pc 2 rfl (pc 4 rfl (pc 7 rfl (pc 8 rfl (pc 9 rfl (pc 50 rfl (pc 56 rfl pn)))))))))
      ·skip
       refine kl_gF rfl rfl g36 (kl_gF rfl rfl g36 (kl_gF rfl rfl g36 (kl_gT rfl rfl g33 (kl_andF (decide ((popI t) ≠ (1 : Int))) rfl rfl g36 ?_))))
       exact J37 _ (pc 60 rfl (pc 1 rfl (pc 2 rfl (pc 4 rfl (pc 7 rfl (pc 8 rfl (pc 9 rfl (pc 50 rfl (pc 56 rfl pn)))))))))
     refine kl_orF rfl rfl g33 ?_
     exact J38 _ (pc 61 rfl (pc 1 rfl (pc 2 rfl (pc 4 rfl (pc 7 rfl (pc 8 rfl (pc 9 rfl (pc 50 rfl pn))))))))
   refine kl_nil (kq_code (kc_cond rfl (fun c39 => ?_) (fun c39 => ?_)))
   ·skip
    have c39r := c39
    try simp only [smpC, decide_eq_true_eq, decide_eq_false_iff_not] at c39
    refine kc_seq (kc_region (kl_as rfl (kl_nil (kq_code (kc_ret (kq_retP rfl rfl (congrArg Value.bool ?_)))))))
    exact fol_no (t := t) hii (by rw [hi16, List.take_of_length_le (by omega)]) (by assumption)
   ·skip
    have c39r := c39
    try simp only [smpC, decide_eq_true_eq, decide_eq_false_iff_not] at c39
    have ht : t = takM l i.toNat := (by rw [hi16, List.take_of_length_le (by omega)])
    have hcc := c39r
    refine kc_skipQ (kq_code (kc_seq (kc_seq (kc_region (kl_mv rfl (kl_call rfl rfl (valuesOf_ok t (by rw [hi16]; exact takM_in _ _)) (fun v40 H41 f42 h43 => ?_)))))))
    refine kl_len rfl (by assumption) (fun l44 => ?_)
    refine kl_mv rfl (kl_nil (kq_code (kc_block (kc_loop0 (A := Nat) (fun zz => (zz ≤ (valsI t).length) ∧ (((valsI t).take zz).all (fun v => folB m fa j (l.filter (fun x => !(decide (x.getD i.toNat 0 ≠ v))))) = true)) (fun zz => (valsI t).length - zz) (fun zz => [(65, .int .i64 (zz : Int))]) (0) (pc 1 rfl (pc 2 rfl (pc 4 rfl (pc 7 rfl (pc 63 rfl (pc 64 rfl pn)))))) (pc 65 rfl pn) ⟨Nat.zero_le _, by simp⟩ ?_))))
    rintro q2 hJ47
    obtain ⟨hk45, hi46⟩ : (q2 ≤ (valsI t).length) ∧ (((valsI t).take q2).all (fun v => folB m fa j (l.filter (fun x => !(decide (x.getD i.toNat 0 ≠ v))))) = true) := hJ47
    change KC _ _ (_) _ _ ([(65, .int .i64 (q2 : Int))] ++ _)
    refine kc_seq (kc_region (kl_lss rfl rfl ?_))
    refine kl_nil (kq_code (kc_seq (kc_if rfl (fun c48 => ?_) (fun c48 => ?_))))
    ·skip
     have hnx := fol_ne ht (by omega : q2 < (valsI t).length)
     have hmv := valsI_mem (getD_mem (d := (0 : Int)) (by omega : q2 < (valsI t).length))
     refine kc_skipQ (kq_code (kc_seq (kc_block (kc_seq (kc_region (kl_inI rfl rfl (by assumption) (by omega) (fun p49 a50 => ?_)))))))
     refine kl_ld rfl (by assumption) (kl_alloc (cs := [.int .i64 (0 : Int)]) rfl (fun b51 hb52 => ?_))
     refine kl_stB rfl rfl rfl rfl rfl ?_
     refine kl_chg [sing b51 (.cells [.int .i64 ((valsI t).getD q2 0)].toArray 3 (0, 0))] rfl ?_
     refine kl_nil (kq_code (kc_seq (kc_region (kl_mv rfl (kl_callL rfl rfl (cloneR_ok l (by omega) (by assumption)) (fun v53 H54 f55 o56 => ?_))))))
     refine kl_frz (sing b51 (.cells [.int .i64 ((valsI t).getD q2 0)].toArray 3 (0, 0))) ?_
     have a57 : At (sing b51 (.cells [.int .i64 ((valsI t).getD q2 0)].toArray 3 (0, 0))) (.pointer (some ⟨b51, 0, none⟩)) [.int .i64 ((valsI t).getD q2 0)] := at_box
     refine kl_mkf rfl ?_
     refine kl_callT rfl rfl (delF_ok l (fun r => decide (r.getD (Int.toNat i) 0 ≠ ((valsI t).getD q2 0))) (by omega) o56 (fun _ _ r hm hu => follows1_ok r i ((valsI t).getD q2 0) (by have h8 := (hP r hm).1; omega) hu (by assumption) (by assumption))) (fun v58 L1 Ln K59 h60 g61 g62 => ?_)
     obtain ⟨H63, rfl, rfl, o64⟩ := h60
     refine kl_norm ?_
     refine kl_as rfl (kl_nil (kq_code (kc_seq (kc_region (kl_ldS rfl (by assumption) rfl ?_)))))
     refine kl_mv rfl (kl_mv rfl (kl_ld rfl (by assumption) (kl_add rfl rfl (by omega) ?_)))
     refine kl_cmp H63 Hl (fun c65 => ?_)
     have h66 := OwnL.rowsK o64 c65
     refine kl_callP rfl rfl (ih j (by omega) m fa (l.filter (fun r => !(decide (r.getD (Int.toNat i) 0 ≠ ((valsI t).getD q2 0))))) (i + (1 : Int)) hM hf (by omega) (fun x hx => hP x (List.mem_filter.1 hx).1) hnx (Nat.le_trans (List.length_filter_le _ _) hb) (by assumption) (by assumption) (by assumption) (by assumption)) ?_
     refine kl_not rfl (kl_nil (kq_code (kc_cond rfl (fun c67 => ?_) (fun c67 => ?_))))
     ·skip
      have c67r := c67
      try simp only [smpC, decide_eq_true_eq, decide_eq_false_iff_not] at c67
      refine kc_seq (kc_region (kl_as rfl (kl_nil (kq_code (kc_ret (kq_retP rfl rfl (congrArg Value.bool ?_)))))))
      exact fol_at (q := q2) hii ht (by omega) (by assumption)
     ·skip
      have c67r := c67
      try simp only [smpC, decide_eq_true_eq, decide_eq_false_iff_not] at c67
      refine kc_skipQ (kq_code (kc_region (kl_inc rfl rfl (by omega) ?_)))
      refine kl_mv rfl (kl_nil (kq_round0 ((q2 + 1)) (by omega) (⟨by omega, all_take_step (d := 0) (by omega) hi46 (by simpa using (by assumption : (!(folB m fa j (l.filter (fun r => !(decide (r.getD (Int.toNat i) 0 ≠ ((valsI t).getD q2 0))))))) = false))⟩) (pc 65 rfl pn) (pc 1 rfl (pc 2 rfl (pc 4 rfl (pc 7 rfl (pc 63 rfl (pc 64 rfl pn)))))) (.cons _ (List.Sublist.refl _))))
    ·skip
     refine kc_exit (kq_code (kc_seq (kc_region (kl_as rfl (kl_nil (kq_code (kc_ret (kq_retP rfl rfl (congrArg Value.bool ?_)))))))))
     exact fol_yes (q := q2) hii ht hcc (by omega) hi46
theorem follows_ok (k : Nat) : followsSt k := by
 induction k using Nat.strongRecOn with
 | _ k ih => exact @follows_step k ih
theorem chkImp_ok {Hmd : Hp} {vmd : Value} {Hmc : Hp} {vmc : Value} {Hfa : Hp} {vfa : Value} {Hl : Hp} {vl : Value} (m : Mod) (fa : List Bool) (l : List (List Int)) (hb : l.length ≤ 1048576) (hmd : Ints Hmd vmd m.doms) (hmc : Cons Hmc vmc m.cons) (hfa : Bools Hfa vfa fa) (hl : Rows Hl vl l) : SpecP Tryz.prog 6 [.agg #[vmd, vmc], vfa, vl] [Hmd, Hmc, Hfa, Hl] (.bool (chkI m fa l)) := by
 refine spec_of Tryz.func6 rfl rfl rfl (fun B => ?_)
 refine kc_seq (kc_region (kl_box rfl rfl (fun p1 H2 f3 a4 => ?_)))
 refine kl_as rfl (kl_nil (kq_code (kc_seq (kc_seq (kc_region (kl_ldS rfl (by assumption) rfl ?_))))))
 refine kl_mv rfl (kl_callP rfl rfl (gameOk_ok m fa (by assumption) (by assumption) (by assumption)) ?_)
 refine kl_not rfl (kl_mv rfl (kl_join 4 17 (.bool (!(gOkB m fa) || decide ((l.length : Int) = (0 : Int)))) (pc 1 rfl (pc 2 rfl (pc 3 rfl (pc 6 rfl (pc 13 rfl pn))))) (fun J7 => ?_) ?_))
 ·rcases Bool.eq_false_or_eq_true (!(gOkB m fa)) with g5 | g5
  ·skip
   refine kl_gF rfl rfl g5 (kl_gF rfl rfl g5 (kl_gF rfl rfl g5 (kl_orT (decide ((l.length : Int) = (0 : Int))) rfl rfl g5 ?_)))
   exact J7 _ (pc 17 rfl (pc 1 rfl (pc 2 rfl (pc 3 rfl (pc 6 rfl (pc 13 rfl pn))))))
  ·skip
   have g5p := g5
   try simp only [Bool.not_eq_true', Bool.not_eq_false', decide_eq_true_eq, decide_eq_false_iff_not, Bool.and_eq_true, Bool.or_eq_false_iff, withinB_iff] at g5p
   refine kl_gT rfl rfl g5 (kl_mv rfl (kl_gT rfl rfl g5 (kl_len rfl (by assumption) (fun l6 => ?_))))
   refine kl_gT rfl rfl g5 (kl_eql rfl rfl ?_)
   refine kl_orF rfl rfl g5 ?_
   exact J7 _ (pc 17 rfl (pc 1 rfl (pc 2 rfl (pc 3 rfl (pc 6 rfl (pc 13 rfl pn))))))
 refine kl_nil (kq_code (kc_cond rfl (fun c8 => ?_) (fun c8 => ?_)))
 ·skip
  have c8r := c8
  try simp only [smpC, decide_eq_true_eq, decide_eq_false_iff_not] at c8
  refine kc_seq (kc_region (kl_as rfl (kl_nil (kq_code (kc_ret (kq_retP rfl rfl (congrArg Value.bool ?_)))))))
  exact chkI_0 (by assumption)
 ·skip
  have c8r := c8
  try simp only [smpC, decide_eq_true_eq, decide_eq_false_iff_not] at c8
  have hc0 := c8r
  obtain ⟨hg, hne, hM, hfl⟩ := chkI_ok hc0
  have hn := hM.n
  refine kc_skipQ (kq_code (kc_seq (kc_seq (kc_region (kl_mv rfl (kl_len rfl (by assumption) (fun l9 => ?_)))))))
  refine kl_mv rfl (kl_nil (kq_code (kc_block (kc_loop0 (A := Nat) (fun zz => (zz ≤ l.length) ∧ (plTo (plI m l) zz = true)) (fun zz => l.length - zz) (fun zz => [(20, .int .i64 (zz : Int))]) (0) (pc 1 rfl (pc 2 rfl (pc 3 rfl (pc 18 rfl (pc 19 rfl pn))))) (pc 20 rfl pn) ⟨Nat.zero_le _, rfl⟩ ?_))))
  rintro k hJ12
  obtain ⟨hk10, hi11⟩ : (k ≤ l.length) ∧ (plTo (plI m l) k = true) := hJ12
  change KC _ _ (_) _ _ ([(20, .int .i64 (k : Int))] ++ _)
  refine kc_seq (kc_region (kl_lss rfl rfl ?_))
  refine kl_nil (kq_code (kc_seq (kc_if rfl (fun c13 => ?_) (fun c13 => ?_))))
  ·skip
   refine kc_skipQ (kq_code (kc_seq (kc_block (kc_seq (kc_region (kl_mv rfl (kl_inS rfl rfl (by assumption) (by omega) (fun p14 u16 h17 a15 => ?_))))))))
   refine kl_ld rfl (by assumption) (kl_as rfl (kl_as rfl (kl_nil (kq_code (kc_seq (kc_region (kl_mv rfl (kl_fd rfl (by assumption) (fun p18 a19 => ?_)))))))))
   refine kl_ld rfl (by assumption) (kl_len rfl (by assumption) (fun l20 => ?_))
   refine kl_callP rfl rfl (assigned_ok (l.getD k []) (m.doms.length : Int) (by assumption)) ?_
   refine kl_not rfl (kl_mv rfl (kl_join 5 36 (.bool (!(decide (((l.getD k []).length : Int) = (m.doms.length : Int)) && allInB (l.getD k []) 0 5) || !(isSolB m (l.getD k [])))) (pc 1 rfl (pc 2 rfl (pc 3 rfl (pc 7 rfl (pc 8 rfl (pc 18 rfl (pc 19 rfl (pc 20 rfl (pc 21 rfl (pc 22 rfl (pc 23 rfl (pc 24 rfl (pc 25 rfl (pc 26 rfl (pc 27 rfl (pc 28 rfl (pc 29 rfl (pc 30 rfl (pc 31 rfl pn))))))))))))))))))) (fun J22 => ?_) ?_))
   ·rcases Bool.eq_false_or_eq_true (!(decide (((l.getD k []).length : Int) = (m.doms.length : Int)) && allInB (l.getD k []) 0 5)) with g21 | g21
    ·skip
     refine kl_gF rfl rfl g21 (kl_gF rfl rfl g21 (kl_gF rfl rfl g21 (kl_gF rfl rfl g21 (kl_orT (!(isSolB m (l.getD k []))) rfl rfl g21 ?_))))
     exact J22 _ (pc 36 rfl (pc 1 rfl (pc 2 rfl (pc 3 rfl (pc 7 rfl (pc 8 rfl (pc 18 rfl (pc 19 rfl (pc 20 rfl (pc 21 rfl (pc 22 rfl (pc 23 rfl (pc 24 rfl (pc 25 rfl (pc 26 rfl (pc 27 rfl (pc 28 rfl (pc 29 rfl (pc 30 rfl (pc 31 rfl pn))))))))))))))))))))
    ·skip
     have g21p := g21
     try simp only [Bool.not_eq_true', Bool.not_eq_false', decide_eq_true_eq, decide_eq_false_iff_not, Bool.and_eq_true, Bool.or_eq_false_iff, withinB_iff] at g21p
     try have hak := asg_ok (m := m) (x := l.getD k []) (by simpa using g21)
     refine kl_gT rfl rfl g21 (kl_ldS rfl (by assumption) rfl ?_)
     refine kl_gT rfl rfl g21 (kl_mv rfl (kl_gT rfl rfl g21 (kl_callP rfl rfl (isSol_ok m (l.getD k []) hM hak.1 hak.2 (by assumption) (by assumption) (by assumption)) ?_)))
     refine kl_gT rfl rfl g21 (kl_not rfl (kl_orF rfl rfl g21 ?_))
     exact J22 _ (pc 36 rfl (pc 1 rfl (pc 2 rfl (pc 3 rfl (pc 7 rfl (pc 8 rfl (pc 18 rfl (pc 19 rfl (pc 20 rfl (pc 21 rfl (pc 22 rfl (pc 23 rfl (pc 24 rfl (pc 25 rfl (pc 26 rfl (pc 27 rfl (pc 28 rfl (pc 29 rfl (pc 30 rfl (pc 31 rfl pn))))))))))))))))))))
   refine kl_mv rfl (kl_join 13 50 (.bool ((!(decide (((l.getD k []).length : Int) = (m.doms.length : Int)) && allInB (l.getD k []) 0 5) || !(isSolB m (l.getD k []))) || (decide ((0 : Int) < (k : Int)) && decide ((0 : Int) ≤ (lexC (l.getD ((k : Int) - (1 : Int)).toNat []) (l.getD k [])))))) (pc 1 rfl (pc 2 rfl (pc 3 rfl (pc 7 rfl (pc 8 rfl (pc 18 rfl (pc 19 rfl (pc 20 rfl (pc 21 rfl (pc 22 rfl (pc 23 rfl (pc 24 rfl (pc 25 rfl (pc 26 rfl (pc 27 rfl (pc 28 rfl (pc 29 rfl (pc 30 rfl (pc 31 rfl (pc 36 rfl (pc 37 rfl pn))))))))))))))))))))) (fun J30 => ?_) ?_)
   ·rcases Bool.eq_false_or_eq_true (!(decide (((l.getD k []).length : Int) = (m.doms.length : Int)) && allInB (l.getD k []) 0 5) || !(isSolB m (l.getD k []))) with g23 | g23
    ·skip
     refine kl_gF rfl rfl g23 (kl_gF rfl rfl g23 (kl_gF rfl rfl g23 (kl_gU rfl rfl (kl_gU rfl rfl (kl_gU rfl rfl (kl_gU rfl rfl (kl_gU rfl rfl (kl_gU rfl rfl ?_))))))))
     refine kl_gU rfl rfl (kl_gU rfl rfl (kl_gF rfl rfl g23 (kl_orT (decide ((0 : Int) < (k : Int)) && decide ((0 : Int) ≤ (lexC (l.getD ((k : Int) - (1 : Int)).toNat []) (l.getD k [])))) rfl rfl g23 ?_)))
     exact J30 _ (pc 50 rfl (pc 1 rfl (pc 2 rfl (pc 3 rfl (pc 7 rfl (pc 8 rfl (pc 18 rfl (pc 19 rfl (pc 20 rfl (pc 21 rfl (pc 22 rfl (pc 23 rfl (pc 24 rfl (pc 25 rfl (pc 26 rfl (pc 27 rfl (pc 28 rfl (pc 29 rfl (pc 30 rfl (pc 31 rfl (pc 36 rfl (pc 37 rfl pn))))))))))))))))))))))
    ·skip
     have g23p := g23
     try simp only [Bool.not_eq_true', Bool.not_eq_false', decide_eq_true_eq, decide_eq_false_iff_not, Bool.and_eq_true, Bool.or_eq_false_iff, withinB_iff] at g23p
     try have hak := asg_ok (m := m) (x := l.getD k []) (by simpa using g23)
     try have hak2 := asg_ok (m := m) (x := l.getD k []) (by have h9 := g23; revert h9; unfold asgB; cases (decide (((l.getD k []).length : Int) = (m.doms.length : Int)) && allInB (l.getD k []) 0 5) <;> simp)
     refine kl_gT rfl rfl g23 (kl_mv rfl (kl_gT rfl rfl g23 (kl_gtr rfl rfl ?_)))
     refine kl_gT rfl rfl g23 (kl_mv rfl (kl_join 9 49 (.bool (decide ((0 : Int) < (k : Int)) && decide ((0 : Int) ≤ (lexC (l.getD ((k : Int) - (1 : Int)).toNat []) (l.getD k []))))) (pc 1 rfl (pc 2 rfl (pc 3 rfl (pc 7 rfl (pc 8 rfl (pc 18 rfl (pc 19 rfl (pc 20 rfl (pc 21 rfl (pc 22 rfl (pc 23 rfl (pc 24 rfl (pc 25 rfl (pc 26 rfl (pc 27 rfl (pc 28 rfl (pc 29 rfl (pc 30 rfl (pc 31 rfl (pc 36 rfl (pc 37 rfl (pc 38 rfl (pc 39 rfl (pc 40 rfl pn)))))))))))))))))))))))) (fun J29 => ?_) ?_))
     ·rcases Bool.eq_false_or_eq_true (decide ((0 : Int) < (k : Int))) with g24 | g24
      ·skip
       have g24p := of_decide_eq_true g24
       try have hpl := pl_lenI hi11 (j := ((k : Int) - 1).toNat) (by omega)
       refine kl_gT rfl rfl g24 (kl_mv rfl (kl_gT rfl rfl g24 (kl_mv rfl (kl_gT rfl rfl g24 (kl_sub rfl rfl (by omega) ?_)))))
       refine kl_gT rfl rfl g24 (kl_ixS rfl rfl (by assumption) (by omega) (by omega) (fun p25 u27 h28 a26 => ?_))
       refine kl_gT rfl rfl g24 (kl_ld rfl (by assumption) (kl_gT rfl rfl g24 (kl_mv rfl (kl_gT rfl rfl g24 (kl_callP rfl rfl (cmpL_ok (l.getD ((k : Int) - (1 : Int)).toNat []) (l.getD k []) (by rw [hpl.1, hak2.1]) (by assumption) (by assumption)) ?_)))))
       refine kl_gT rfl rfl g24 (kl_geq rfl rfl ?_)
       refine kl_gT rfl rfl g23 (kl_andT rfl rfl g24 ?_)
       exact J29 _ (pc 49 rfl (pc 1 rfl (pc 2 rfl (pc 3 rfl (pc 7 rfl (pc 8 rfl (pc 18 rfl (pc 19 rfl (pc 20 rfl (pc 21 rfl (pc 22 rfl (pc 23 rfl (pc 24 rfl (pc 25 rfl (pc 26 rfl (pc 27 rfl (pc 28 rfl (pc 29 rfl (pc 30 rfl (pc 31 rfl (pc 36 rfl (pc 37 rfl (pc 38 rfl (pc 39 rfl (pc 40 rfl pn)))))))))))))))))))))))))
      ·skip
       refine kl_gF rfl rfl g24 (kl_gF rfl rfl g24 (kl_gF rfl rfl g24 (kl_gF rfl rfl g24 (kl_gF rfl rfl g24 (kl_gF rfl rfl g24 (kl_gF rfl rfl g24 (kl_gF rfl rfl g24 (kl_gT rfl rfl g23 ?_))))))))
       refine kl_andF (decide ((0 : Int) ≤ (lexC (l.getD ((k : Int) - (1 : Int)).toNat []) (l.getD k [])))) rfl rfl g24 ?_
       exact J29 _ (pc 49 rfl (pc 1 rfl (pc 2 rfl (pc 3 rfl (pc 7 rfl (pc 8 rfl (pc 18 rfl (pc 19 rfl (pc 20 rfl (pc 21 rfl (pc 22 rfl (pc 23 rfl (pc 24 rfl (pc 25 rfl (pc 26 rfl (pc 27 rfl (pc 28 rfl (pc 29 rfl (pc 30 rfl (pc 31 rfl (pc 36 rfl (pc 37 rfl (pc 38 rfl (pc 39 rfl (pc 40 rfl pn)))))))))))))))))))))))))
     refine kl_orF rfl rfl g23 ?_
     exact J30 _ (pc 50 rfl (pc 1 rfl (pc 2 rfl (pc 3 rfl (pc 7 rfl (pc 8 rfl (pc 18 rfl (pc 19 rfl (pc 20 rfl (pc 21 rfl (pc 22 rfl (pc 23 rfl (pc 24 rfl (pc 25 rfl (pc 26 rfl (pc 27 rfl (pc 28 rfl (pc 29 rfl (pc 30 rfl (pc 31 rfl (pc 36 rfl (pc 37 rfl pn))))))))))))))))))))))
   refine kl_nil (kq_code (kc_cond rfl (fun c31 => ?_) (fun c31 => ?_)))
   ·skip
    have c31r := c31
    try simp only [smpC, decide_eq_true_eq, decide_eq_false_iff_not] at c31
    refine kc_seq (kc_region (kl_as rfl (kl_nil (kq_code (kc_ret (kq_retP rfl rfl (congrArg Value.bool ?_)))))))
    exact chkI_at (k := k) (by omega) (by rw [plI_c (by assumption)]; rfl)
   ·skip
    have c31r := c31
    try simp only [smpC, decide_eq_true_eq, decide_eq_false_iff_not] at c31
    refine kc_skipQ (kq_code (kc_region (kl_inc rfl rfl (by omega) ?_)))
    refine kl_mv rfl (kl_nil (kq_round0 ((k + 1)) (by omega) (⟨by omega, plTo_step hi11 (by rw [plI_c (by assumption)]; rfl)⟩) (pc 20 rfl pn) (pc 1 rfl (pc 2 rfl (pc 3 rfl (pc 18 rfl (pc 19 rfl pn))))) (List.Sublist.refl _)))
  ·skip
   refine kc_exit (kq_code (kc_seq (kc_region (kl_ldS rfl (by assumption) rfl ?_))))
   refine kl_mv rfl (kl_mv rfl (kl_callP rfl rfl (follows_ok m.doms.length m fa l (0 : Int) hM hfl (by omega) (pl_allI hi11 (by omega)) hne hb (by assumption) (by assumption) (by assumption) (by assumption)) ?_))
   refine kl_as rfl (kl_nil (kq_code (kc_ret (kq_retP rfl rfl (congrArg Value.bool ?_)))))
   exact chkI_end hc0 (by omega) hi11
theorem validAsg_ok {Hmd : Hp} {vmd : Value} {Hmc : Hp} {vmc : Value} {Hx : Hp} {vx : Value} (m : Mod) (x : List Int) (hmd : Ints Hmd vmd m.doms) (hmc : Cons Hmc vmc m.cons) (hx : Ints Hx vx x) : SpecP Tryz.prog 35 [.agg #[vmd, vmc], vx] [Hmd, Hmc, Hx] (.bool (decide ((x.length : Int) = (m.doms.length : Int)) && allInB x 0 5)) := by
 refine spec_of Tryz.func35 rfl rfl rfl (fun B => ?_)
 refine kc_seq (kc_region (kl_box rfl rfl (fun p1 H2 f3 a4 => ?_)))
 refine kl_as rfl (kl_nil (kq_code (kc_seq (kc_region (kl_mv rfl (kl_len rfl (by assumption) (fun l5 => ?_)))))))
 refine kl_fd rfl (by assumption) (fun p6 a7 => ?_)
 refine kl_ld rfl (by assumption) (kl_len rfl (by assumption) (fun l8 => ?_))
 refine kl_eql rfl rfl ?_
 refine kl_mv rfl (kl_join 3 14 (.bool (decide ((x.length : Int) = (m.doms.length : Int)) && (allInB x (0 : Int) (5 : Int)))) (pc 4 rfl (pc 11 rfl pn)) (fun J10 => ?_) ?_)
 ·rcases Bool.eq_false_or_eq_true (decide ((x.length : Int) = (m.doms.length : Int))) with g9 | g9
  ·skip
   have g9p := of_decide_eq_true g9
   refine kl_gT rfl rfl g9 (kl_mv rfl (kl_gT rfl rfl g9 (kl_callP rfl rfl (allInRange_ok x (0 : Int) (5 : Int) (by assumption)) ?_)))
   refine kl_andT rfl rfl g9 ?_
   exact J10 _ (pc 14 rfl (pc 4 rfl (pc 11 rfl pn)))
  ·skip
   refine kl_gF rfl rfl g9 (kl_gF rfl rfl g9 (kl_andF (allInB x (0 : Int) (5 : Int)) rfl rfl g9 ?_))
   exact J10 _ (pc 14 rfl (pc 4 rfl (pc 11 rfl pn)))
 refine kl_as rfl (kl_nil (kq_code (kc_ret (kq_retP rfl rfl (congrArg Value.bool ?_)))))
 rfl
theorem lexLess_ok {Ha : Hp} {va : Value} {Hb : Hp} {vb : Value} (a : List Int) (b : List Int) (hl : a.length = b.length) (ha : Ints Ha va a) (hb : Ints Hb vb b) : SpecP Tryz.prog 36 [va, vb] [Ha, Hb] (.bool (decide (lexC a b < 0))) := by
 refine spec_of Tryz.func36 rfl rfl rfl (fun B => ?_)
 refine kc_seq (kc_region (kl_as rfl (kl_nil (kq_code (kc_seq (kc_seq (kc_region (kl_as rfl (kl_nil (kq_code (kc_block (kc_loop0 (A := Nat) (fun zz => (zz ≤ a.length) ∧ (a.take zz = b.take zz)) (fun zz => a.length - zz) (fun zz => [(5, .int .i64 (zz : Int))]) (0) (pc 0 rfl (pc 1 rfl pn)) (pc 5 rfl pn) ⟨Nat.zero_le _, rfl⟩ ?_))))))))))))
 rintro k hJ3
 obtain ⟨hk1, hi2⟩ : (k ≤ a.length) ∧ (a.take k = b.take k) := hJ3
 change KC _ _ (_) _ _ ([(5, .int .i64 (k : Int))] ++ _)
 refine kc_seq (kc_seq (kc_region (kl_mv rfl (kl_mv rfl (kl_len rfl (by assumption) (fun l4 => ?_))))))
 refine kl_lss rfl rfl ?_
 refine kl_nil (kq_code (kc_if rfl (fun c5 => ?_) (fun c5 => ?_)))
 ·skip
  refine kc_skipQ (kq_code (kc_seq (kc_block (kc_seq (kc_draw 9 [true, true, true, true, true, true, true, true, true] (by kernel_rfl) (by kernel_rfl) ?_)))))
  refine kl_mv rfl (kl_mv rfl (kl_inI rfl rfl (by assumption) (by omega) (fun p6 a7 => ?_)))
  refine kl_ld rfl (by assumption) (kl_mv rfl (kl_mv rfl (kl_inI rfl rfl (by assumption) (by omega) (fun p8 a9 => ?_))))
  refine kl_ld rfl (by assumption) (kl_neq rfl rfl ?_)
  refine kl_nil (kq_code (kc_if rfl (fun c10 => ?_) (fun c10 => ?_)))
  ·skip
   refine kc_seq (kc_draw 10 [true, true, true, true, true, true, true, true, true, true] (by kernel_rfl) (by kernel_rfl) ?_)
   refine kl_mv rfl (kl_mv rfl (kl_inI rfl rfl (by assumption) (by omega) (fun p11 a12 => ?_)))
   refine kl_ld rfl (by assumption) (kl_mv rfl (kl_mv rfl (kl_inI rfl rfl (by assumption) (by omega) (fun p13 a14 => ?_))))
   refine kl_ld rfl (by assumption) (kl_lss rfl rfl ?_)
   refine kl_as rfl (kl_nil (kq_code (kc_ret (kq_retP rfl rfl (congrArg Value.bool ?_)))))
   exact lexl_hit hl (by omega) hi2 (by assumption)
  ·skip
   refine kc_skipQ (kq_code (kc_region (kl_mv rfl (kl_inc rfl rfl (by omega) ?_))))
   refine kl_as rfl (kl_nil (kq_round0 ((k + 1)) (by omega) (⟨by omega, lexC_step hl (by omega) hi2 (by rw [show a.getD k 0 = b.getD k 0 from Decidable.not_not.1 (by assumption), cmpI_s])⟩) (pc 5 rfl pn) (pc 0 rfl (pc 1 rfl pn)) (List.Sublist.refl _)))
 ·skip
  refine kc_exit (kq_code (kc_seq (kc_region (kl_as rfl (kl_nil (kq_code (kc_ret (kq_retP rfl rfl (congrArg Value.bool ?_)))))))))
  exact lexl_end hl (by omega) hi2
theorem valsAfter_ok {Hl : Hp} {vl : Value} {Hx : Hp} {vx : Value} (l : List (List Int)) (x : List Int) (hP : ∀ r ∈ l, x.length < r.length ∧ Vals r) (hl : Rows Hl vl l) (hx : Ints Hx vx x) : Spec Tryz.prog 82 [vl, vx] [Hl, Hx] (fun Hq vq => Ints Hq vq (valsI (takM (preL l x) x.length))) := by
 refine spec_of Tryz.func82 rfl rfl rfl (fun B => ?_)
 refine kc_seq (kc_region (kl_as rfl (kl_nil (kq_code (kc_seq (kc_region (kl_mv rfl (kl_len rfl (by assumption) (fun l1 => ?_)))))))))
 refine kl_as rfl (kl_nil (kq_code (kc_seq (kc_region (kl_as rfl (kl_nil (kq_code (kc_seq (kc_seq (kc_region (kl_as rfl (kl_nil (kq_code (kc_block ?_))))))))))))))
 refine kc_loop0 (A := Nat × Int) (fun zz => (zz.1 ≤ l.length) ∧ (zz.2 = takM (preL (l.take zz.1) x) x.length)) (fun zz => l.length - zz.1) (fun zz => [(7, .int .i64 (zz.1 : Int)), (6, .int .i64 zz.2)]) (0, (0 : Int)) (pc 0 rfl (pc 1 rfl (pc 4 rfl (pc 5 rfl pn)))) (pc 7 rfl (pc 6 rfl pn)) ⟨Nat.zero_le _, (takM_0 _).symm⟩ ?_
 rintro ⟨k, d⟩ hJ4
 obtain ⟨hk2, hi3⟩ : (k ≤ l.length) ∧ (d = takM (preL (l.take k) x) x.length) := hJ4
 change KC _ _ (_) _ _ ([(7, .int .i64 (k : Int)), (6, .int .i64 d)] ++ _)
 refine kc_seq (kc_seq (kc_region (kl_mv rfl (kl_mv rfl (kl_len rfl (by assumption) (fun l5 => ?_))))))
 refine kl_lss rfl rfl ?_
 refine kl_nil (kq_code (kc_if rfl (fun c6 => ?_) (fun c6 => ?_)))
 ·skip
  have hr := hP _ (getD_mem (d := []) (by omega : k < l.length))
  have hv := hr.2.at (k := x.length) hr.1
  have hsl := shl_le hv
  have htk := takM_in (preL (l.take k) x) x.length
  rw [← hi3] at htk
  refine kc_skipQ (kq_code (kc_seq (kc_block (kc_seq (kc_region (kl_mv rfl (kl_mv rfl (kl_inS rfl rfl (by assumption) (by omega) (fun p7 u9 h10 a8 => ?_)))))))))
  refine kl_ld rfl (by assumption) (kl_mv rfl (kl_slTake rfl rfl (by assumption) (by omega) (fun u11 h12 => ?_)))
  refine kl_mv rfl (kl_callP rfl rfl (sequal_ok ((l.getD k []).take x.length) x (by assumption) (by assumption)) ?_)
  refine kl_mv rfl (kl_join 11 35 (.bool ((decide (((l.getD k []).take x.length) = x)) && !(withinB ((l.getD k []).getD x.length 0) 0 5 && hasB d ((l.getD k []).getD x.length 0)))) (pc 0 rfl (pc 1 rfl (pc 4 rfl (pc 5 rfl (pc 6 rfl (pc 7 rfl (pc 10 rfl (pc 11 rfl (pc 12 rfl (pc 13 rfl (pc 16 rfl (pc 17 rfl (pc 18 rfl (pc 19 rfl (pc 20 rfl (pc 21 rfl (pc 22 rfl (pc 23 rfl (pc 24 rfl pn))))))))))))))))))) (fun J20 => ?_) ?_)
  ·rcases Bool.eq_false_or_eq_true (decide (((l.getD k []).take x.length) = x)) with g13 | g13
   ·skip
    have g13p := g13
    try simp only [Bool.not_eq_true', Bool.not_eq_false', decide_eq_true_eq, decide_eq_false_iff_not, Bool.and_eq_true, Bool.or_eq_false_iff, withinB_iff] at g13p
    refine kl_gT rfl rfl g13 (kl_mv rfl (kl_gT rfl rfl g13 (kl_mv rfl (kl_gT rfl rfl g13 (kl_mv rfl (kl_gT rfl rfl g13 (kl_inS rfl rfl (by assumption) (by omega) (fun p14 u16 h17 a15 => ?_))))))))
    refine kl_gT rfl rfl g13 (kl_ld rfl (by assumption) (kl_gT rfl rfl g13 (kl_mv rfl (kl_gT rfl rfl g13 (kl_inI rfl rfl (by assumption) (by omega) (fun p18 a19 => ?_))))))
    refine kl_gT rfl rfl g13 (kl_ld rfl (by assumption) (kl_gT rfl rfl g13 (kl_callP rfl rfl (domainHas_ok d ((l.getD k []).getD x.length 0)) ?_)))
    refine kl_gT rfl rfl g13 (kl_not rfl (kl_andT rfl rfl g13 ?_))
    exact J20 _ (pc 35 rfl (pc 0 rfl (pc 1 rfl (pc 4 rfl (pc 5 rfl (pc 6 rfl (pc 7 rfl (pc 10 rfl (pc 11 rfl (pc 12 rfl (pc 13 rfl (pc 16 rfl (pc 17 rfl (pc 18 rfl (pc 19 rfl (pc 20 rfl (pc 21 rfl (pc 22 rfl (pc 23 rfl (pc 24 rfl pn))))))))))))))))))))
   ·skip
    refine kl_gF rfl rfl g13 (kl_gF rfl rfl g13 (kl_gF rfl rfl g13 (kl_gF rfl rfl g13 (kl_gF rfl rfl g13 (kl_gF rfl rfl g13 (kl_gF rfl rfl g13 (kl_gF rfl rfl g13 (kl_gF rfl rfl g13 ?_))))))))
    refine kl_gF rfl rfl g13 (kl_andF (!(withinB ((l.getD k []).getD x.length 0) 0 5 && hasB d ((l.getD k []).getD x.length 0))) rfl rfl g13 ?_)
    exact J20 _ (pc 35 rfl (pc 0 rfl (pc 1 rfl (pc 4 rfl (pc 5 rfl (pc 6 rfl (pc 7 rfl (pc 10 rfl (pc 11 rfl (pc 12 rfl (pc 13 rfl (pc 16 rfl (pc 17 rfl (pc 18 rfl (pc 19 rfl (pc 20 rfl (pc 21 rfl (pc 22 rfl (pc 23 rfl (pc 24 rfl pn))))))))))))))))))))
  refine kl_nil (kq_code (kc_cond rfl (fun c21 => ?_) (fun c21 => ?_)))
  ·skip
   have c21r := c21
   try simp only [smpC, decide_eq_true_eq, decide_eq_false_iff_not] at c21
   refine kc_region (kl_mv rfl (kl_mv rfl (kl_mv rfl (kl_inS rfl rfl (by assumption) (by omega) (fun p22 u24 h25 a23 => ?_)))))
   refine kl_ld rfl (by assumption) (kl_mv rfl (kl_inI rfl rfl (by assumption) (by omega) (fun p26 a27 => ?_)))
   refine kl_ld rfl (by assumption) (kl_shl rfl rfl (by omega) ?_)
   refine kl_add rfl rfl (by omega) ?_
   refine kl_as rfl (kl_nil (kq_code (kc_region (kl_mv rfl (kl_inc rfl rfl (by omega) ?_)))))
   refine kl_as rfl (kl_nil (kq_round0 ((k + 1), (d + (ishl (1 : Int) ((l.getD k []).getD x.length 0)))) (by omega) (⟨by omega, (by first | exact takP_T (by omega) hi3 hv (by assumption) | exact takP_F (by omega) hi3 hv (by assumption))⟩) (pc 7 rfl (pc 6 rfl pn)) (pc 0 rfl (pc 1 rfl (pc 4 rfl (pc 5 rfl pn)))) (List.Sublist.refl _)))
  ·skip
   have c21r := c21
   try simp only [smpC, decide_eq_true_eq, decide_eq_false_iff_not] at c21
   refine kc_skipQ (kq_code (kc_region (kl_mv rfl (kl_inc rfl rfl (by omega) ?_))))
   refine kl_as rfl (kl_nil (kq_round0 ((k + 1), d) (by omega) (⟨by omega, (by first | exact takP_T (by omega) hi3 hv (by assumption) | exact takP_F (by omega) hi3 hv (by assumption))⟩) (pc 7 rfl (pc 6 rfl pn)) (pc 0 rfl (pc 1 rfl (pc 4 rfl (pc 5 rfl pn)))) (List.Sublist.refl _)))
 ·skip
  refine kc_exit (kq_code (kc_seq (kc_region (kl_mv rfl (kl_call rfl rfl (domainValues_ok d) (fun v28 H29 f30 h31 => ?_))))))
  refine kl_as rfl (kl_nil (kq_code (kc_ret ?_)))
  have e9 : (valsI d) = valsI (takM (preL l x) x.length) := by rw [hi3, List.take_of_length_le (by omega)]
  exact kq_ret rfl rfl H29 f30 (e9 ▸ (by assumption : Ints _ _ (valsI d)))
abbrev isStratSt (k : Nat) : Prop := ∀ {Hmd : Hp} {vmd : Value} {Hmc : Hp} {vmc : Value} {Hfa : Hp} {vfa : Value} {Hl : Hp} {vl : Value} {Hx : Hp} {vx : Value} (m : Mod) (fa : List Bool) (l : List (List Int)) (x : List Int) (hM : MOk m) (hf : fa.length = m.doms.length) (hl : x.length + k = m.doms.length) (hX : Vals x) (hP : ∀ r ∈ l, r.length = m.doms.length ∧ Vals r) (hmd : Ints Hmd vmd m.doms) (hmc : Cons Hmc vmc m.cons) (hfa : Bools Hfa vfa fa) (hl : Rows Hl vl l) (hx : Ints Hx vx x), SpecP Tryz.prog 37 [.agg #[vmd, vmc], vfa, vl, vx] [Hmd, Hmc, Hfa, Hl, Hx] (.bool (stratB m fa l k x))
theorem isStrat_step (k : Nat) (ih : ∀ j, j < k → isStratSt j) : isStratSt k := by
 intro Hmd vmd Hmc vmc Hfa vfa Hl vl Hx vx m fa l x hM hf hl hX hP hmd hmc hfa hl hx
 refine spec_of Tryz.func37 rfl rfl rfl (fun B => ?_)
 refine kc_seq (kc_region (kl_box rfl rfl (fun p1 H2 f3 a4 => ?_)))
 refine kl_as rfl (kl_nil (kq_code (kc_seq (kc_region (kl_mv rfl (kl_len rfl (by assumption) (fun l5 => ?_)))))))
 refine kl_as rfl (kl_nil (kq_code (kc_seq (kc_seq (kc_region (kl_mv rfl (kl_fd rfl (by assumption) (fun p6 a7 => ?_))))))))
 refine kl_ld rfl (by assumption) (kl_len rfl (by assumption) (fun l8 => ?_))
 refine kl_eql rfl rfl ?_
 refine kl_nil (kq_code (kc_if rfl (fun c9 => ?_) (fun c9 => ?_)))
 ·skip
  have hk0 : k = 0 := by omega
  subst hk0
  refine kc_seq (kc_region (kl_ldS rfl (by assumption) rfl ?_))
  refine kl_mv rfl (kl_callP rfl rfl (satisfiesAll_ok m x hM (by omega) hX (by assumption) (by assumption) (by assumption)) ?_)
  refine kl_as rfl (kl_nil (kq_code (kc_ret (kq_retP rfl rfl (congrArg Value.bool ?_)))))
  first | rfl | exact strat_no (by assumption) | exact strat_at1 (q := q) (by omega) (by assumption) | exact strat_at2 (q := q) (by omega) (by assumption) | exact strat_yes hcc (by omega) hnone
 ·skip
  obtain ⟨j, rfl⟩ : ∃ j, k = j + 1 := ⟨k - 1, by omega⟩
  have hn := hM.n
  refine kc_skipQ (kq_code (kc_seq (kc_region (kl_mv rfl (kl_mv rfl (kl_call rfl rfl (valsAfter_ok l x (fun r hr => ⟨by have := (hP r hr).1; omega, (hP r hr).2⟩) (by assumption) (by assumption)) (fun v10 H11 f12 h13 => ?_)))))))
  refine kl_as rfl (kl_nil (kq_code (kc_seq (kc_seq (kc_region (kl_mv rfl (kl_mv rfl (kl_inB rfl rfl (by assumption) (by omega) (fun p14 a15 => ?_)))))))))
  refine kl_ld rfl (by assumption) (kl_mv rfl (kl_join 10 39 (.bool ((fa.getD x.length false) && !(decide ((valsI (takM (preL l x) x.length)) = (valsI (m.doms.getD x.length 0)))))) (pc 1 rfl (pc 2 rfl (pc 3 rfl (pc 4 rfl (pc 8 rfl (pc 9 rfl (pc 10 rfl (pc 29 rfl pn)))))))) (fun J25 => ?_) ?_))
  ·rcases Bool.eq_false_or_eq_true (fa.getD x.length false) with g16 | g16
   ·skip
    have g16p := g16
    try simp only [Bool.not_eq_true', Bool.not_eq_false', decide_eq_true_eq, decide_eq_false_iff_not, Bool.and_eq_true, Bool.or_eq_false_iff, withinB_iff] at g16p
    refine kl_gT rfl rfl g16 (kl_mv rfl (kl_gT rfl rfl g16 (kl_fd rfl (by assumption) (fun p17 a18 => ?_))))
    refine kl_gT rfl rfl g16 (kl_ld rfl (by assumption) (kl_gT rfl rfl g16 (kl_mv rfl (kl_gT rfl rfl g16 (kl_inI rfl rfl (by assumption) (by omega) (fun p19 a20 => ?_))))))
    refine kl_gT rfl rfl g16 (kl_ld rfl (by assumption) (kl_gT rfl rfl g16 (kl_call rfl rfl (domainValues_ok (m.doms.getD x.length 0)) (fun v21 H22 f23 h24 => ?_))))
    refine kl_gT rfl rfl g16 (kl_callP rfl rfl (sequal_ok (valsI (takM (preL l x) x.length)) (valsI (m.doms.getD x.length 0)) (by assumption) (by assumption)) ?_)
    refine kl_gT rfl rfl g16 (kl_not rfl (kl_andT rfl rfl g16 ?_))
    exact kl_fg (List.Sublist.refl _) (J25 _ (pc 39 rfl (pc 1 rfl (pc 2 rfl (pc 3 rfl (pc 4 rfl (pc 8 rfl (pc 9 rfl (pc 10 rfl (pc 29 rfl pn))))))))))
   ·skip
    refine kl_gF rfl rfl g16 (kl_gF rfl rfl g16 (kl_gF rfl rfl g16 (kl_gF rfl rfl g16 (kl_gF rfl rfl g16 (kl_gF rfl rfl g16 (kl_gF rfl rfl g16 (kl_gF rfl rfl g16 (kl_gF rfl rfl g16 ?_))))))))
    refine kl_andF (!(decide ((valsI (takM (preL l x) x.length)) = (valsI (m.doms.getD x.length 0))))) rfl rfl g16 ?_
    exact J25 _ (pc 39 rfl (pc 1 rfl (pc 2 rfl (pc 3 rfl (pc 4 rfl (pc 8 rfl (pc 9 rfl (pc 10 rfl (pc 29 rfl pn)))))))))
  refine kl_mv rfl (kl_join 11 51 (.bool (((fa.getD x.length false) && !(decide ((valsI (takM (preL l x) x.length)) = (valsI (m.doms.getD x.length 0))))) || (!(fa.getD x.length false) && decide (((valsI (takM (preL l x) x.length)).length : Int) ≠ (1 : Int))))) (pc 1 rfl (pc 2 rfl (pc 3 rfl (pc 4 rfl (pc 8 rfl (pc 9 rfl (pc 10 rfl (pc 40 rfl pn)))))))) (fun J32 => ?_) ?_)
  ·rcases Bool.eq_false_or_eq_true ((fa.getD x.length false) && !(decide ((valsI (takM (preL l x) x.length)) = (valsI (m.doms.getD x.length 0))))) with g26 | g26
   ·skip
    refine kl_gF rfl rfl g26 (kl_gF rfl rfl g26 (kl_gF rfl rfl g26 (kl_gF rfl rfl g26 (kl_gF rfl rfl g26 (kl_gF rfl rfl g26 (kl_gU rfl rfl (kl_gU rfl rfl (kl_gU rfl rfl ?_))))))))
    refine kl_gF rfl rfl g26 (kl_orT (!(fa.getD x.length false) && decide (((valsI (takM (preL l x) x.length)).length : Int) ≠ (1 : Int))) rfl rfl g26 ?_)
    exact J32 _ (pc 51 rfl (pc 1 rfl (pc 2 rfl (pc 3 rfl (pc 4 rfl (pc 8 rfl (pc 9 rfl (pc 10 rfl (pc 40 rfl pn)))))))))
   ·skip
    have g26p := g26
    try simp only [Bool.not_eq_true', Bool.not_eq_false', decide_eq_true_eq, decide_eq_false_iff_not, Bool.and_eq_true, Bool.or_eq_false_iff, withinB_iff] at g26p
    refine kl_gT rfl rfl g26 (kl_mv rfl (kl_gT rfl rfl g26 (kl_mv rfl (kl_gT rfl rfl g26 (kl_inB rfl rfl (by assumption) (by omega) (fun p27 a28 => ?_))))))
    refine kl_gT rfl rfl g26 (kl_ld rfl (by assumption) (kl_gT rfl rfl g26 (kl_not rfl (kl_gT rfl rfl g26 (kl_mv rfl (kl_join 4 50 (.bool (!(fa.getD x.length false) && decide (((valsI (takM (preL l x) x.length)).length : Int) ≠ (1 : Int)))) (pc 1 rfl (pc 2 rfl (pc 3 rfl (pc 4 rfl (pc 8 rfl (pc 9 rfl (pc 10 rfl (pc 40 rfl (pc 46 rfl pn))))))))) (fun J31 => ?_) ?_))))))
    ·rcases Bool.eq_false_or_eq_true (!(fa.getD x.length false)) with g29 | g29
     ·skip
      have g29p := g29
      try simp only [Bool.not_eq_true', Bool.not_eq_false', decide_eq_true_eq, decide_eq_false_iff_not, Bool.and_eq_true, Bool.or_eq_false_iff, withinB_iff] at g29p
      refine kl_gT rfl rfl g29 (kl_mv rfl (kl_gT rfl rfl g29 (kl_len rfl (by assumption) (fun l30 => ?_))))
      refine kl_gT rfl rfl g29 (kl_neq rfl rfl ?_)
      refine kl_gT rfl rfl g26 (kl_andT rfl rfl g29 ?_)
      exact J31 _ (pc 50 rfl (pc 1 rfl (pc 2 rfl (pc 3 rfl (pc 4 rfl (pc 8 rfl (pc 9 rfl (pc 10 rfl (pc 40 rfl (pc 46 rfl pn))))))))))
     ·skip
      refine kl_gF rfl rfl g29 (kl_gF rfl rfl g29 (kl_gF rfl rfl g29 (kl_gT rfl rfl g26 (kl_andF (decide (((valsI (takM (preL l x) x.length)).length : Int) ≠ (1 : Int))) rfl rfl g29 ?_))))
      exact J31 _ (pc 50 rfl (pc 1 rfl (pc 2 rfl (pc 3 rfl (pc 4 rfl (pc 8 rfl (pc 9 rfl (pc 10 rfl (pc 40 rfl (pc 46 rfl pn))))))))))
    refine kl_orF rfl rfl g26 ?_
    exact J32 _ (pc 51 rfl (pc 1 rfl (pc 2 rfl (pc 3 rfl (pc 4 rfl (pc 8 rfl (pc 9 rfl (pc 10 rfl (pc 40 rfl pn)))))))))
  refine kl_nil (kq_code (kc_cond rfl (fun c33 => ?_) (fun c33 => ?_)))
  ·skip
   have c33r := c33
   try simp only [smpC, decide_eq_true_eq, decide_eq_false_iff_not] at c33
   refine kc_seq (kc_region (kl_as rfl (kl_nil (kq_code (kc_ret (kq_retP rfl rfl (congrArg Value.bool ?_)))))))
   first | rfl | exact strat_no (by assumption) | exact strat_at1 (q := q) (by omega) (by assumption) | exact strat_at2 (q := q) (by omega) (by assumption) | exact strat_yes hcc (by omega) hnone
  ·skip
   have c33r := c33
   try simp only [smpC, decide_eq_true_eq, decide_eq_false_iff_not] at c33
   have hcc := c33r
   refine kc_skipQ (kq_code (kc_seq (kc_seq (kc_region (kl_as rfl (kl_nil (kq_code (kc_block (kc_loop0 (A := Nat) (fun zz => (zz ≤ (valsI (takM (preL l x) x.length)).length) ∧ (((valsI (takM (preL l x) x.length)).take zz).all (fun v => (withinB v 0 5 && hasB (m.doms.getD x.length 0) v) && stratB m fa l j (x ++ [v])) = true)) (fun zz => (valsI (takM (preL l x) x.length)).length - zz) (fun zz => [(11, .int .i64 (zz : Int))]) (0) (pc 1 rfl (pc 2 rfl (pc 3 rfl (pc 4 rfl (pc 9 rfl (pc 10 rfl pn)))))) (pc 11 rfl pn) ⟨Nat.zero_le _, by simp⟩ ?_)))))))))
   rintro q hJ36
   obtain ⟨hk34, hi35⟩ : (q ≤ (valsI (takM (preL l x) x.length)).length) ∧ (((valsI (takM (preL l x) x.length)).take q).all (fun v => (withinB v 0 5 && hasB (m.doms.getD x.length 0) v) && stratB m fa l j (x ++ [v])) = true) := hJ36
   change KC _ _ (_) _ _ ([(11, .int .i64 (q : Int))] ++ _)
   refine kc_seq (kc_seq (kc_region (kl_mv rfl (kl_mv rfl (kl_len rfl (by assumption) (fun l37 => ?_))))))
   refine kl_lss rfl rfl ?_
   refine kl_nil (kq_code (kc_if rfl (fun c38 => ?_) (fun c38 => ?_)))
   ·skip
    have hv := valsI_mem (getD_mem (d := (0 : Int)) (by omega : q < (valsI (takM (preL l x) x.length)).length))
    refine kc_skipQ (kq_code (kc_seq (kc_block (kc_seq (kc_tree (fun i => ([9, 23] : List Nat).contains i) [] (by kernel_rfl) ?_)))))
    refine kt_q 0 (List.nil_sublist _) rfl (by kernel_rfl) (kl_fd rfl (by assumption) (fun p39 a40 => ?_))
    refine kl_nil (kq_q (kt_q 1 (List.nil_sublist _) rfl (by kernel_rfl) (kl_ld rfl (by assumption) (kl_nil (kq_q (kt_q 2 (List.nil_sublist _) rfl (by kernel_rfl) (kl_mv rfl (kl_nil (kq_q (kt_q 3 (List.nil_sublist _) rfl (by kernel_rfl) (kl_inI rfl rfl (by assumption) (by omega) (fun p41 a42 => ?_))))))))))))
    refine kl_nil (kq_q (kt_q 4 (List.nil_sublist _) rfl (by kernel_rfl) (kl_ld rfl (by assumption) (kl_nil (kq_q (kt_q 5 (List.nil_sublist _) rfl (by kernel_rfl) (kl_mv rfl (kl_nil (kq_q (kt_q 6 (List.nil_sublist _) rfl (by kernel_rfl) (kl_mv rfl ?_)))))))))))
    refine kl_nil (kq_q (kt_q 7 (List.nil_sublist _) rfl (by kernel_rfl) (kl_inI rfl rfl (by assumption) (by omega) (fun p43 a44 => ?_))))
    refine kl_nil (kq_q (kt_q 8 (List.nil_sublist _) rfl (by kernel_rfl) (kl_ld rfl (by assumption) (kl_nil (kq_q (kt_a 9 rfl (by kernel_rfl) (kl_callP rfl rfl (domainHas_ok (m.doms.getD x.length 0) ((valsI (takM (preL l x) x.length)).getD q 0)) ?_)))))))
    refine kl_nil (kq_x rfl (kt_q 10 (List.nil_sublist _) rfl (by kernel_rfl) (kl_not rfl (kl_nil (kq_q (kt_q 11 (List.nil_sublist _) rfl (by kernel_rfl) (kl_mv rfl (kl_nil (kq_q ?_)))))))))
    rcases Bool.eq_false_or_eq_true (!(withinB ((valsI (takM (preL l x) x.length)).getD q 0) 0 5 && hasB (m.doms.getD x.length 0) ((valsI (takM (preL l x) x.length)).getD q 0))) with g45 | g45
    ·skip
     have g45p := g45
     refine kt_q 12 (List.nil_sublist _) rfl (by kernel_rfl) (kl_gF rfl rfl g45 (kl_nil (kq_q (kt_q 13 (List.nil_sublist _) rfl (by kernel_rfl) (kl_gF rfl rfl g45 (kl_nil (kq_q (kt_q 14 (List.nil_sublist _) rfl (by kernel_rfl) (kl_gF rfl rfl g45 (kl_nil (kq_q ?_)))))))))))
     refine kt_q 15 (List.nil_sublist _) rfl (by kernel_rfl) (kl_gF rfl rfl g45 (kl_nil (kq_q (kt_q 17 (List.nil_sublist _) rfl (by kernel_rfl) (kl_gF rfl rfl g45 (kl_nil (kq_q (kt_q 18 (List.nil_sublist _) rfl (by kernel_rfl) (kl_gF rfl rfl g45 (kl_nil (kq_q ?_)))))))))))
     refine kt_q 19 (List.nil_sublist _) rfl (by kernel_rfl) (kl_gF rfl rfl g45 (kl_nil (kq_q (kt_q 20 (List.nil_sublist _) rfl (by kernel_rfl) (kl_gF rfl rfl g45 (kl_nil (kq_q (kt_b 16 21 rfl rfl (by kernel_rfl) ?_ ?_))))))))
     ·skip
      refine kl_gF rfl rfl g45 (kl_nil (kq_a (List.nil_sublist _) (kt_a 21 rfl (by kernel_rfl) (kl_gF rfl rfl g45 (kl_nil (kq_a (List.nil_sublist _) (kt_a 22 rfl (by kernel_rfl) (kl_gF rfl rfl g45 (kl_nil (kq_a (List.nil_sublist _) (kt_a 23 rfl (by kernel_rfl) ?_)))))))))))
      refine kl_gF rfl rfl g45 (kl_nil (kq_x rfl (kt_q 24 (List.nil_sublist _) rfl (by kernel_rfl) (kl_gF rfl rfl g45 (kl_nil (kq_q (kt_q 25 (List.nil_sublist _) rfl (by kernel_rfl) (kl_pickT rfl g45 rfl ?_))))))))
      refine kl_nil (kq_q (kt_end (by kernel_rfl) ?_))
      refine kq_code (kc_cond rfl (fun c46 => ?_) (fun c46 => ?_))
      ·skip
       have c46r := c46
       try simp only [smpC, decide_eq_true_eq, decide_eq_false_iff_not] at c46
       refine kc_seq (kc_region (kl_as rfl (kl_nil (kq_code (kc_ret (kq_retP rfl rfl (congrArg Value.bool ?_)))))))
       first | rfl | exact strat_no (by assumption) | exact strat_at1 (q := q) (by omega) (by assumption) | exact strat_at2 (q := q) (by omega) (by assumption) | exact strat_yes hcc (by omega) hi35
      ·skip
       have c46r := c46
       try simp only [smpC, decide_eq_true_eq, decide_eq_false_iff_not] at c46
       exact absurd c46 (by decide)
     ·skip
      refine kl_gF rfl rfl g45 (kl_nil (kq_a (List.nil_sublist _) (kt_a 16 rfl (by kernel_rfl) (kl_gF rfl rfl g45 (kl_nil (kq_a (List.nil_sublist _) (kt_a 22 rfl (by kernel_rfl) (kl_gF rfl rfl g45 (kl_nil (kq_a (List.nil_sublist _) (kt_a 23 rfl (by kernel_rfl) ?_)))))))))))
      refine kl_gF rfl rfl g45 (kl_nil (kq_x rfl (kt_q 24 (List.nil_sublist _) rfl (by kernel_rfl) (kl_gF rfl rfl g45 (kl_nil (kq_q (kt_q 25 (List.nil_sublist _) rfl (by kernel_rfl) (kl_pickT rfl g45 rfl ?_))))))))
      refine kl_nil (kq_q (kt_end (by kernel_rfl) ?_))
      refine kq_code (kc_cond rfl (fun c47 => ?_) (fun c47 => ?_))
      ·skip
       have c47r := c47
       try simp only [smpC, decide_eq_true_eq, decide_eq_false_iff_not] at c47
       refine kc_seq (kc_region (kl_as rfl (kl_nil (kq_code (kc_ret (kq_retP rfl rfl (congrArg Value.bool ?_)))))))
       first | rfl | exact strat_no (by assumption) | exact strat_at1 (q := q) (by omega) (by assumption) | exact strat_at2 (q := q) (by omega) (by assumption) | exact strat_yes hcc (by omega) hi35
      ·skip
       have c47r := c47
       try simp only [smpC, decide_eq_true_eq, decide_eq_false_iff_not] at c47
       exact absurd c47 (by decide)
    ·skip
     have g45p := g45
     refine kt_q 12 (List.nil_sublist _) rfl (by kernel_rfl) (kl_gT rfl rfl g45 (kl_ldS rfl (by assumption) rfl ?_))
     refine kl_nil (kq_q (kt_q 13 (List.nil_sublist _) rfl (by kernel_rfl) (kl_gT rfl rfl g45 (kl_mv rfl (kl_nil (kq_q (kt_q 14 (List.nil_sublist _) rfl (by kernel_rfl) (kl_gT rfl rfl g45 (kl_mv rfl (kl_nil (kq_q ?_)))))))))))
     refine kt_q 15 (List.nil_sublist _) rfl (by kernel_rfl) (kl_gT rfl rfl g45 (kl_mv rfl (kl_nil (kq_q (kt_q 17 (List.nil_sublist _) rfl (by kernel_rfl) (kl_gT rfl rfl g45 (kl_mv rfl (kl_nil (kq_q (kt_q 18 (List.nil_sublist _) rfl (by kernel_rfl) ?_))))))))))
     refine kl_gT rfl rfl g45 (kl_mv rfl (kl_nil (kq_q (kt_q 19 (List.nil_sublist _) rfl (by kernel_rfl) (kl_gT rfl rfl g45 (kl_inI rfl rfl (by assumption) (by omega) (fun p48 a49 => ?_)))))))
     refine kl_nil (kq_q (kt_q 20 (List.nil_sublist _) rfl (by kernel_rfl) (kl_gT rfl rfl g45 (kl_ld rfl (by assumption) (kl_nil (kq_q (kt_b 16 21 rfl rfl (by kernel_rfl) ?_ ?_)))))))
     ·skip
      refine kl_gT rfl rfl g45 (kl_callL rfl rfl (copyInts_ok x (by omega) (by assumption)) (fun v50 H51 f52 o53 => ?_))
      refine kl_nil (kq_a (List.nil_sublist _) (kt_a 21 rfl (by kernel_rfl) (kl_gT rfl rfl g45 (kl_bs rfl rfl rfl (by decide) (ca rfl ca_nil) (fun v54 H55 f56 r57 s58 => ?_)))))
      have h59 : Ints H55 v54 [((valsI (takM (preL l x) x.length)).getD q 0)] := litInts (xs := [((valsI (takM (preL l x) x.length)).getD q 0)]) (by simpa using s58)
      refine kl_nil (kq_a (List.nil_sublist _) (kt_a 22 rfl (by kernel_rfl) (kl_gT rfl rfl g45 (kl_apL ((valsI (takM (preL l x) x.length)).getD q 0) rfl rfl o53 (by assumption) rfl (oc rfl oc_nil) (by omega) (by decide) (fun v60 H61 o62 f63 => ?_)))))
      have f64 := f63 B f52 (Nat.le_refl _)
      refine kl_nil (kq_a (List.nil_sublist _) (kt_a 23 rfl (by kernel_rfl) (kl_gT rfl rfl g45 (kl_callP rfl rfl (ih j (by omega) m fa l (x ++ [((valsI (takM (preL l x) x.length)).getD q 0)]) hM hf (by simp; omega) (hX.snoc hv) hP (by assumption) (by assumption) (by assumption) (by assumption) (OwnL.ints o62)) ?_))))
      refine kl_nil (kq_x rfl (kt_q 24 (List.nil_sublist _) rfl (by kernel_rfl) (kl_gT rfl rfl g45 (kl_not rfl (kl_nil (kq_q (kt_q 25 (List.nil_sublist _) rfl (by kernel_rfl) (kl_pickF rfl g45 rfl ?_))))))))
      refine kl_nil (kq_q (kt_end (by kernel_rfl) ?_))
      refine kq_code (kc_cond rfl (fun c65 => ?_) (fun c65 => ?_))
      ·skip
       have c65r := c65
       try simp only [smpC, decide_eq_true_eq, decide_eq_false_iff_not] at c65
       refine kc_seq (kc_region (kl_as rfl (kl_nil (kq_code (kc_ret (kq_retP rfl rfl (congrArg Value.bool ?_)))))))
       first | rfl | exact strat_no (by assumption) | exact strat_at1 (q := q) (by omega) (by assumption) | exact strat_at2 (q := q) (by omega) (by assumption) | exact strat_yes hcc (by omega) hi35
      ·skip
       have c65r := c65
       try simp only [smpC, decide_eq_true_eq, decide_eq_false_iff_not] at c65
       refine kc_skipQ (kq_code (kc_region (kl_mv rfl (kl_inc rfl rfl (by omega) ?_))))
       refine kl_as rfl (kl_nil (kq_round0 ((q + 1)) (by omega) (⟨by omega, strat_step (by omega) hi35 (by assumption) (by assumption)⟩) (pc 11 rfl pn) (pc 1 rfl (pc 2 rfl (pc 3 rfl (pc 4 rfl (pc 9 rfl (pc 10 rfl pn)))))) (.cons _ (List.Sublist.refl _))))
     ·skip
      refine kl_gT rfl rfl g45 (kl_bs rfl rfl rfl (by decide) (ca rfl ca_nil) (fun v66 H67 f68 r69 s70 => ?_))
      have h71 : Ints H67 v66 [((valsI (takM (preL l x) x.length)).getD q 0)] := litInts (xs := [((valsI (takM (preL l x) x.length)).getD q 0)]) (by simpa using s70)
      refine kl_nil (kq_a (List.nil_sublist _) (kt_a 16 rfl (by kernel_rfl) (kl_gT rfl rfl g45 (kl_callL rfl rfl (copyInts_ok x (by omega) (by assumption)) (fun v72 H73 f74 o75 => ?_)))))
      refine kl_nil (kq_a (List.nil_sublist _) (kt_a 22 rfl (by kernel_rfl) (kl_gT rfl rfl g45 (kl_apL ((valsI (takM (preL l x) x.length)).getD q 0) rfl rfl o75 (by assumption) rfl (oc rfl oc_nil) (by omega) (by decide) (fun v76 H77 o78 f79 => ?_)))))
      have f80 := f79 B f74 (Nat.le_refl _)
      refine kl_nil (kq_a (List.nil_sublist _) (kt_a 23 rfl (by kernel_rfl) (kl_gT rfl rfl g45 (kl_callP rfl rfl (ih j (by omega) m fa l (x ++ [((valsI (takM (preL l x) x.length)).getD q 0)]) hM hf (by simp; omega) (hX.snoc hv) hP (by assumption) (by assumption) (by assumption) (by assumption) (OwnL.ints o78)) ?_))))
      refine kl_nil (kq_x rfl (kt_q 24 (List.nil_sublist _) rfl (by kernel_rfl) (kl_gT rfl rfl g45 (kl_not rfl (kl_nil (kq_q (kt_q 25 (List.nil_sublist _) rfl (by kernel_rfl) (kl_pickF rfl g45 rfl ?_))))))))
      refine kl_nil (kq_q (kt_end (by kernel_rfl) ?_))
      refine kq_code (kc_cond rfl (fun c81 => ?_) (fun c81 => ?_))
      ·skip
       have c81r := c81
       try simp only [smpC, decide_eq_true_eq, decide_eq_false_iff_not] at c81
       refine kc_seq (kc_region (kl_as rfl (kl_nil (kq_code (kc_ret (kq_retP rfl rfl (congrArg Value.bool ?_)))))))
       first | rfl | exact strat_no (by assumption) | exact strat_at1 (q := q) (by omega) (by assumption) | exact strat_at2 (q := q) (by omega) (by assumption) | exact strat_yes hcc (by omega) hi35
      ·skip
       have c81r := c81
       try simp only [smpC, decide_eq_true_eq, decide_eq_false_iff_not] at c81
       refine kc_skipQ (kq_code (kc_region (kl_mv rfl (kl_inc rfl rfl (by omega) ?_))))
       refine kl_as rfl (kl_nil (kq_round0 ((q + 1)) (by omega) (⟨by omega, strat_step (by omega) hi35 (by assumption) (by assumption)⟩) (pc 11 rfl pn) (pc 1 rfl (pc 2 rfl (pc 3 rfl (pc 4 rfl (pc 9 rfl (pc 10 rfl pn)))))) (.cons _ (List.Sublist.refl _))))
   ·skip
    refine kc_exit (kq_code (kc_seq (kc_region (kl_as rfl (kl_nil (kq_code (kc_ret (kq_retP rfl rfl (congrArg Value.bool ?_)))))))))
    first | rfl | exact strat_no (by assumption) | exact strat_at1 (q := q) (by omega) (by assumption) | exact strat_at2 (q := q) (by omega) (by assumption) | exact strat_yes hcc (by omega) hi35
theorem isStrat_ok (k : Nat) : isStratSt k := by
 induction k using Nat.strongRecOn with
 | _ k ih => exact @isStrat_step k ih
theorem chkSpc_ok {Hmd : Hp} {vmd : Value} {Hmc : Hp} {vmc : Value} {Hfa : Hp} {vfa : Value} {Hl : Hp} {vl : Value} (m : Mod) (fa : List Bool) (l : List (List Int)) (hmd : Ints Hmd vmd m.doms) (hmc : Cons Hmc vmc m.cons) (hfa : Bools Hfa vfa fa) (hl : Rows Hl vl l) : SpecP Tryz.prog 7 [.agg #[vmd, vmc], vfa, vl] [Hmd, Hmc, Hfa, Hl] (.bool (chkS m fa l)) := by
 refine spec_of Tryz.func7 rfl rfl rfl (fun B => ?_)
 refine kc_seq (kc_region (kl_box rfl rfl (fun p1 H2 f3 a4 => ?_)))
 refine kl_as rfl (kl_nil (kq_code (kc_seq (kc_seq (kc_region (kl_ldS rfl (by assumption) rfl ?_))))))
 refine kl_mv rfl (kl_callP rfl rfl (validQuantifiers_ok m fa (by assumption) (by assumption) (by assumption)) ?_)
 refine kl_not rfl (kl_mv rfl (kl_join 4 16 (.bool (!(fOkB m fa) || (m.doms.contains 0))) (pc 1 rfl (pc 2 rfl (pc 3 rfl (pc 6 rfl (pc 12 rfl pn))))) (fun J8 => ?_) ?_))
 ·rcases Bool.eq_false_or_eq_true (!(fOkB m fa)) with g5 | g5
  ·skip
   refine kl_gF rfl rfl g5 (kl_gF rfl rfl g5 (kl_gF rfl rfl g5 (kl_orT (m.doms.contains 0) rfl rfl g5 ?_)))
   exact J8 _ (pc 16 rfl (pc 1 rfl (pc 2 rfl (pc 3 rfl (pc 6 rfl (pc 12 rfl pn))))))
  ·skip
   have g5p := g5
   try simp only [Bool.not_eq_true', Bool.not_eq_false', decide_eq_true_eq, decide_eq_false_iff_not, Bool.and_eq_true, Bool.or_eq_false_iff, withinB_iff] at g5p
   refine kl_gT rfl rfl g5 (kl_fd rfl (by assumption) (fun p6 a7 => ?_))
   refine kl_gT rfl rfl g5 (kl_ld rfl (by assumption) (kl_gT rfl rfl g5 (kl_callP rfl rfl (hasEmpty_ok m.doms (by assumption)) ?_)))
   refine kl_orF rfl rfl g5 ?_
   exact J8 _ (pc 16 rfl (pc 1 rfl (pc 2 rfl (pc 3 rfl (pc 6 rfl (pc 12 rfl pn))))))
 refine kl_nil (kq_code (kc_cond rfl (fun c9 => ?_) (fun c9 => ?_)))
 ·skip
  have c9r := c9
  try simp only [smpC, decide_eq_true_eq, decide_eq_false_iff_not] at c9
  refine kc_seq (kc_region (kl_as rfl (kl_nil (kq_code (kc_ret (kq_retP rfl rfl (congrArg Value.bool ?_)))))))
  first | exact chkS_0 (by assumption) | exact chkS_at (k := k) (by omega) (by rw [plS_c (b := true) (by simp_all)]; rfl) | exact chkS_end hc0 (by omega) hnone
 ·skip
  have c9r := c9
  try simp only [smpC, decide_eq_true_eq, decide_eq_false_iff_not] at c9
  have hc0 := c9r
  obtain ⟨hg, hz, hM, hfl⟩ := chkS_go hc0
  have hn := hM.n
  refine kc_skipQ (kq_code (kc_seq (kc_seq (kc_region (kl_as rfl (kl_nil (kq_code (kc_block (kc_loop0 (A := Nat) (fun zz => (zz ≤ l.length) ∧ (plTo (plS m l) zz = true)) (fun zz => l.length - zz) (fun zz => [(7, .int .i64 (zz : Int))]) (0) (pc 1 rfl (pc 2 rfl (pc 3 rfl pn))) (pc 7 rfl pn) ⟨Nat.zero_le _, rfl⟩ ?_)))))))))
  rintro k hJ12
  obtain ⟨hk10, hi11⟩ : (k ≤ l.length) ∧ (plTo (plS m l) k = true) := hJ12
  change KC _ _ (_) _ _ ([(7, .int .i64 (k : Int))] ++ _)
  refine kc_seq (kc_seq (kc_region (kl_mv rfl (kl_mv rfl (kl_len rfl (by assumption) (fun l13 => ?_))))))
  refine kl_lss rfl rfl ?_
  refine kl_nil (kq_code (kc_if rfl (fun c14 => ?_) (fun c14 => ?_)))
  ·skip
   refine kc_skipQ (kq_code (kc_seq (kc_block (kc_seq (kc_draw 24 [true, true, true, true, true, false, true, true, true, true, true, true, true, true, true, true, true, true, true, true, false, true, true, true] (by kernel_rfl) (by kernel_rfl) ?_)))))
   refine kl_ldS rfl (by assumption) rfl ?_
   refine kl_mv rfl (kl_mv rfl (kl_inS rfl rfl (by assumption) (by omega) (fun p15 u17 h18 a16 => ?_)))
   refine kl_ld rfl (by assumption) (kl_callP rfl rfl (validAsg_ok m (l.getD k []) (by assumption) (by assumption) (by assumption)) ?_)
   refine kl_not rfl (kl_mv rfl (kl_join 16 46 (.bool (!(decide (((l.getD k []).length : Int) = (m.doms.length : Int)) && allInB (l.getD k []) 0 5) || (decide ((0 : Int) < (k : Int)) && !(decide (lexC (l.getD ((k : Int) - (1 : Int)).toNat []) (l.getD k []) < 0))))) (pc 1 rfl (pc 2 rfl (pc 3 rfl (pc 7 rfl (pc 17 rfl (pc 18 rfl (pc 19 rfl (pc 20 rfl (pc 23 rfl (pc 24 rfl (pc 25 rfl (pc 26 rfl (pc 27 rfl (pc 28 rfl (pc 29 rfl (pc 30 rfl pn)))))))))))))))) (fun J30 => ?_) ?_))
   ·rcases Bool.eq_false_or_eq_true (!(decide (((l.getD k []).length : Int) = (m.doms.length : Int)) && allInB (l.getD k []) 0 5)) with g19 | g19
    ·skip
     refine kl_gF rfl rfl g19 (kl_gF rfl rfl g19 (kl_gF rfl rfl g19 (kl_gU rfl rfl (kl_gU rfl rfl (kl_gU rfl rfl (kl_gU rfl rfl (kl_gU rfl rfl (kl_gU rfl rfl ?_))))))))
     refine kl_gU rfl rfl (kl_gU rfl rfl (kl_gU rfl rfl (kl_gU rfl rfl (kl_gU rfl rfl (kl_gF rfl rfl g19 (kl_orT (decide ((0 : Int) < (k : Int)) && !(decide (lexC (l.getD ((k : Int) - (1 : Int)).toNat []) (l.getD k []) < 0))) rfl rfl g19 ?_))))))
     exact J30 _ (pc 46 rfl (pc 1 rfl (pc 2 rfl (pc 3 rfl (pc 7 rfl (pc 17 rfl (pc 18 rfl (pc 19 rfl (pc 20 rfl (pc 23 rfl (pc 24 rfl (pc 25 rfl (pc 26 rfl (pc 27 rfl (pc 28 rfl (pc 29 rfl (pc 30 rfl pn)))))))))))))))))
    ·skip
     have g19p := g19
     try simp only [Bool.not_eq_true', Bool.not_eq_false', decide_eq_true_eq, decide_eq_false_iff_not, Bool.and_eq_true, Bool.or_eq_false_iff, withinB_iff] at g19p
     refine kl_gT rfl rfl g19 (kl_mv rfl (kl_gT rfl rfl g19 (kl_gtr rfl rfl ?_)))
     refine kl_gT rfl rfl g19 (kl_mv rfl (kl_join 12 45 (.bool (decide ((0 : Int) < (k : Int)) && !(decide (lexC (l.getD ((k : Int) - (1 : Int)).toNat []) (l.getD k []) < 0)))) (pc 1 rfl (pc 2 rfl (pc 3 rfl (pc 7 rfl (pc 17 rfl (pc 18 rfl (pc 19 rfl (pc 20 rfl (pc 23 rfl (pc 24 rfl (pc 25 rfl (pc 26 rfl (pc 27 rfl (pc 28 rfl (pc 29 rfl (pc 30 rfl (pc 31 rfl (pc 32 rfl (pc 33 rfl pn))))))))))))))))))) (fun J29 => ?_) ?_))
     ·rcases Bool.eq_false_or_eq_true (decide ((0 : Int) < (k : Int))) with g20 | g20
      ·skip
       have g20p := of_decide_eq_true g20
       refine kl_gT rfl rfl g20 (kl_mv rfl (kl_gT rfl rfl g20 (kl_mv rfl (kl_gT rfl rfl g20 (kl_sub rfl rfl (by omega) ?_)))))
       refine kl_gT rfl rfl g20 (kl_ixS rfl rfl (by assumption) (by omega) (by omega) (fun p21 u23 h24 a22 => ?_))
       refine kl_gT rfl rfl g20 (kl_ld rfl (by assumption) (kl_gT rfl rfl g20 (kl_mv rfl (kl_gT rfl rfl g20 (kl_mv rfl (kl_gT rfl rfl g20 (kl_inS rfl rfl (by assumption) (by omega) (fun p25 u27 h28 a26 => ?_))))))))
       refine kl_gT rfl rfl g20 (kl_ld rfl (by assumption) (kl_gT rfl rfl g20 (kl_callP rfl rfl (lexLess_ok (l.getD ((k : Int) - (1 : Int)).toNat []) (l.getD k []) (by rw [(pl_lenS hi11 (j := ((k : Int) - 1).toNat) (by omega)).1, (asg_nn (m := m) (x := l.getD k []) (by assumption)).1]) (by assumption) (by assumption)) ?_)))
       refine kl_gT rfl rfl g20 (kl_not rfl (kl_gT rfl rfl g19 (kl_andT rfl rfl g20 ?_)))
       exact J29 _ (pc 45 rfl (pc 1 rfl (pc 2 rfl (pc 3 rfl (pc 7 rfl (pc 17 rfl (pc 18 rfl (pc 19 rfl (pc 20 rfl (pc 23 rfl (pc 24 rfl (pc 25 rfl (pc 26 rfl (pc 27 rfl (pc 28 rfl (pc 29 rfl (pc 30 rfl (pc 31 rfl (pc 32 rfl (pc 33 rfl pn))))))))))))))))))))
      ·skip
       refine kl_gF rfl rfl g20 (kl_gF rfl rfl g20 (kl_gF rfl rfl g20 (kl_gF rfl rfl g20 (kl_gF rfl rfl g20 (kl_gF rfl rfl g20 (kl_gF rfl rfl g20 (kl_gF rfl rfl g20 (kl_gF rfl rfl g20 ?_))))))))
       refine kl_gF rfl rfl g20 (kl_gF rfl rfl g20 (kl_gT rfl rfl g19 (kl_andF (!(decide (lexC (l.getD ((k : Int) - (1 : Int)).toNat []) (l.getD k []) < 0))) rfl rfl g20 ?_)))
       exact J29 _ (pc 45 rfl (pc 1 rfl (pc 2 rfl (pc 3 rfl (pc 7 rfl (pc 17 rfl (pc 18 rfl (pc 19 rfl (pc 20 rfl (pc 23 rfl (pc 24 rfl (pc 25 rfl (pc 26 rfl (pc 27 rfl (pc 28 rfl (pc 29 rfl (pc 30 rfl (pc 31 rfl (pc 32 rfl (pc 33 rfl pn))))))))))))))))))))
     refine kl_orF rfl rfl g19 ?_
     exact J30 _ (pc 46 rfl (pc 1 rfl (pc 2 rfl (pc 3 rfl (pc 7 rfl (pc 17 rfl (pc 18 rfl (pc 19 rfl (pc 20 rfl (pc 23 rfl (pc 24 rfl (pc 25 rfl (pc 26 rfl (pc 27 rfl (pc 28 rfl (pc 29 rfl (pc 30 rfl pn)))))))))))))))))
   refine kl_nil (kq_code (kc_cond rfl (fun c31 => ?_) (fun c31 => ?_)))
   ·skip
    have c31r := c31
    try simp only [smpC, decide_eq_true_eq, decide_eq_false_iff_not] at c31
    refine kc_seq (kc_region (kl_as rfl (kl_nil (kq_code (kc_ret (kq_retP rfl rfl (congrArg Value.bool ?_)))))))
    first | exact chkS_0 (by assumption) | exact chkS_at (k := k) (by omega) (by rw [plS_c (b := true) (by simp_all)]; rfl) | exact chkS_end hc0 (by omega) hi11
   ·skip
    have c31r := c31
    try simp only [smpC, decide_eq_true_eq, decide_eq_false_iff_not] at c31
    refine kc_skipQ (kq_code (kc_region (kl_mv rfl (kl_inc rfl rfl (by omega) ?_))))
    refine kl_as rfl (kl_nil (kq_round0 ((k + 1)) (by omega) (⟨by omega, plTo_step hi11 (by rw [plS_c (by first | assumption | (simp_all; done))]; rfl)⟩) (pc 7 rfl pn) (pc 1 rfl (pc 2 rfl (pc 3 rfl pn))) (List.Sublist.refl _)))
  ·skip
   refine kc_exit (kq_code (kc_seq (kc_region (kl_ldS rfl (by assumption) rfl ?_))))
   refine kl_mv rfl (kl_mv rfl (kl_bsI [] rfl rfl rfl (by decide) (fun v32 H33 f34 o35 => ?_)))
   refine kl_callP rfl rfl (isStrat_ok m.doms.length m fa l ([]) hM hfl (by simp) vals_nil (pl_allS hi11 (by omega)) (by assumption) (by assumption) (by assumption) (by assumption) (OwnL.ints o35)) ?_
   refine kl_as rfl (kl_nil (kq_code (kc_ret (kq_retP rfl rfl (congrArg Value.bool ?_)))))
   first | exact chkS_0 (by assumption) | exact chkS_at (k := k) (by omega) (by rw [plS_c (b := true) (by simp_all)]; rfl) | exact chkS_end hc0 (by omega) hi11
theorem isSolI_ok {Hmd : Hp} {vmd : Value} {Hmc : Hp} {vmc : Value} {Hx : Hp} {vx : Value} (m : Mod) (x : List Int) (hmd : Ints Hmd vmd m.doms) (hmc : Cons Hmc vmc m.cons) (hx : Ints Hx vx x) : SpecP Tryz.prog 8 [.agg #[vmd, vmc], vx] [Hmd, Hmc, Hx] (.bool (isSolT m x)) := by
 refine spec_of Tryz.func8 rfl rfl rfl (fun B => ?_)
 refine kc_seq (kc_region (kl_box rfl rfl (fun p1 H2 f3 a4 => ?_)))
 refine kl_as rfl (kl_nil (kq_code (kc_seq (kc_region (kl_ldS rfl (by assumption) rfl ?_)))))
 refine kl_callP rfl rfl (validMod_ok m (by assumption) (by assumption)) ?_
 refine kl_mv rfl (kl_join 6 13 (.bool ((validModB m) && (decide ((x.length : Int) = (m.doms.length : Int)) && allInB x 0 5))) (pc 1 rfl (pc 2 rfl (pc 4 rfl (pc 7 rfl pn)))) (fun J9 => ?_) ?_)
 ·rcases Bool.eq_false_or_eq_true (validModB m) with g5 | g5
  ·skip
   have g5p := g5
   try simp only [Bool.not_eq_true', Bool.not_eq_false', decide_eq_true_eq, decide_eq_false_iff_not, Bool.and_eq_true, Bool.or_eq_false_iff, withinB_iff] at g5p
   refine kl_gT rfl rfl g5 (kl_mv rfl (kl_gT rfl rfl g5 (kl_fd rfl (by assumption) (fun p6 a7 => ?_))))
   refine kl_gT rfl rfl g5 (kl_ld rfl (by assumption) (kl_gT rfl rfl g5 (kl_len rfl (by assumption) (fun l8 => ?_))))
   refine kl_gT rfl rfl g5 (kl_callP rfl rfl (assigned_ok x (m.doms.length : Int) (by assumption)) ?_)
   refine kl_andT rfl rfl g5 ?_
   exact J9 _ (pc 13 rfl (pc 1 rfl (pc 2 rfl (pc 4 rfl (pc 7 rfl pn)))))
  ·skip
   refine kl_gF rfl rfl g5 (kl_gF rfl rfl g5 (kl_gF rfl rfl g5 (kl_gF rfl rfl g5 (kl_gF rfl rfl g5 (kl_andF (decide ((x.length : Int) = (m.doms.length : Int)) && allInB x 0 5) rfl rfl g5 ?_)))))
   exact J9 _ (pc 13 rfl (pc 1 rfl (pc 2 rfl (pc 4 rfl (pc 7 rfl pn)))))
 refine kl_mv rfl (kl_join 4 18 (.bool (((validModB m) && (decide ((x.length : Int) = (m.doms.length : Int)) && allInB x 0 5)) && (isSolB m x))) (pc 4 rfl (pc 14 rfl pn)) (fun J11 => ?_) ?_)
 ·rcases Bool.eq_false_or_eq_true ((validModB m) && (decide ((x.length : Int) = (m.doms.length : Int)) && allInB x 0 5)) with g10 | g10
  ·skip
   have g10p := g10
   try simp only [Bool.not_eq_true', Bool.not_eq_false', decide_eq_true_eq, decide_eq_false_iff_not, Bool.and_eq_true, Bool.or_eq_false_iff, withinB_iff] at g10p
   have hM : MOk m := ⟨g10p.1⟩
   have hl : x.length = m.doms.length := (by have := g10p.2.1; omega)
   have hX : Vals x := vals_of g10p.2.2
   refine kl_gT rfl rfl g10 (kl_ldS rfl (by assumption) rfl ?_)
   refine kl_gT rfl rfl g10 (kl_mv rfl (kl_gT rfl rfl g10 (kl_callP rfl rfl (isSol_ok m x hM hl hX (by assumption) (by assumption) (by assumption)) ?_)))
   refine kl_andT rfl rfl g10 ?_
   exact J11 _ (pc 18 rfl (pc 4 rfl (pc 14 rfl pn)))
  ·skip
   refine kl_gF rfl rfl g10 (kl_gF rfl rfl g10 (kl_gF rfl rfl g10 (kl_andF (isSolB m x) rfl rfl g10 ?_)))
   exact J11 _ (pc 18 rfl (pc 4 rfl (pc 14 rfl pn)))
 refine kl_as rfl (kl_nil (kq_code (kc_ret (kq_retP rfl rfl (congrArg Value.bool ?_)))))
 rfl
theorem lawFnCk_ok {Hcode : Hp} {vcode : Value} (code : List Int) (hcode : Bytes Hcode vcode code) : SpecP Tryz.prog 3 [vcode] [Hcode] (.bool true) := by
 refine spec_of Tryz.func3 rfl rfl rfl (fun B => ?_)
 refine kc_seq (kc_region (kl_as rfl (kl_nil (kq_code (kc_seq (kc_seq (kc_region (kl_mv rfl (kl_len rfl (by assumption) (fun l1 => ?_))))))))))
 refine kl_gtr rfl rfl ?_
 refine kl_nil (kq_code (kc_if rfl (fun c2 => ?_) (fun c2 => ?_)))
 ·skip
  refine kc_seq (kc_region (kl_as rfl (kl_nil (kq_code (kc_ret (kq_retP rfl rfl (congrArg Value.bool ?_)))))))
  first | exact chk_true hck | rfl | exact ck_ret trivial | (simp; done)
 ·skip
  refine kc_skipQ (kq_code (kc_seq (kc_region (kl_mv rfl (kl_call rfl rfl (drawCk_ok code hcode) (fun v3 H4 f5 h6 => ?_))))))
  obtain ⟨z9, z14, z17, u10, u11, u15, u18, rfl, h12, h13, h16, h19, h8⟩ := h6
  have hd1 := h8.1.d1
  have hd4 := h8.1.d
  have hrl := h8.2
  refine kl_mv rfl (kl_xt rfl rfl (kl_xt rfl rfl (kl_xt rfl rfl (kl_alloc (cs := [.slice none 0 0, .slice none 0 0]) rfl (fun b20 hb21 => ?_)))))
  refine kl_stW (us := [u10, u11]) rfl rfl rfl rfl (oc (Sl.oneCell (by assumption)) (oc (Sl.oneCell (by assumption)) oc_nil)) rfl ?_
  refine kl_chg [sing b20 (.cells [u10, u11].toArray 26 (0, 0))] rfl ?_
  refine kl_as rfl (kl_as rfl (kl_nil (kq_code (kc_seq (kc_region (kl_ldW rfl rfl (kl_mv rfl (kl_mv rfl (kl_callP rfl rfl (chkImp_ok z9 z14 z17 (by first | omega | (simp; omega)) (by assumption) (by assumption) (by assumption) (by assumption)) ?_)))))))))
  refine kl_as rfl (kl_nil (kq_code (kc_seq (kc_seq (kc_region (kl_mv rfl (kl_ldW rfl rfl (kl_mv rfl (kl_mv rfl (kl_callP rfl rfl (chkSpc_ok z9 z14 z17 (by assumption) (by assumption) (by assumption) (by assumption)) ?_))))))))))
  refine kl_bne rfl rfl ?_
  refine kl_mv rfl (kl_join 3 31 (.bool (((chkI z9 z14 z17) != (chkS z9 z14 z17)) || !(chkI z9 z14 z17))) (pc 2 rfl (pc 3 rfl (pc 4 rfl (pc 5 rfl (pc 6 rfl (pc 28 rfl pn)))))) (fun J23 => ?_) ?_)
  ·rcases Bool.eq_false_or_eq_true ((chkI z9 z14 z17) != (chkS z9 z14 z17)) with g22 | g22
   ·skip
    refine kl_gF rfl rfl g22 (kl_gF rfl rfl g22 (kl_orT (!(chkI z9 z14 z17)) rfl rfl g22 ?_))
    exact J23 _ (pc 31 rfl (pc 2 rfl (pc 3 rfl (pc 4 rfl (pc 5 rfl (pc 6 rfl (pc 28 rfl pn)))))))
   ·skip
    have g22p := g22
    try simp only [Bool.not_eq_true', Bool.not_eq_false', decide_eq_true_eq, decide_eq_false_iff_not, Bool.and_eq_true, Bool.or_eq_false_iff, withinB_iff] at g22p
    refine kl_gT rfl rfl g22 (kl_mv rfl (kl_gT rfl rfl g22 (kl_not rfl (kl_orF rfl rfl g22 ?_))))
    exact J23 _ (pc 31 rfl (pc 2 rfl (pc 3 rfl (pc 4 rfl (pc 5 rfl (pc 6 rfl (pc 28 rfl pn)))))))
  refine kl_nil (kq_code (kc_cond rfl (fun c24 => ?_) (fun c24 => ?_)))
  ·skip
   have c24r := c24
   try simp only [smpC, decide_eq_true_eq, decide_eq_false_iff_not] at c24
   refine kc_seq (kc_region (kl_mv rfl (kl_ldW rfl rfl (kl_mv rfl (kl_mv rfl (kl_callP rfl rfl (chkSpc_ok z9 z14 z17 (by assumption) (by assumption) (by assumption) (by assumption)) ?_))))))
   refine kl_beq rfl rfl ?_
   refine kl_as rfl (kl_nil (kq_code (kc_ret (kq_retP rfl rfl (congrArg Value.bool ?_)))))
   first | exact chk_true hck | rfl | exact ck_ret trivial | (simp; done)
  ·skip
   have c24r := c24
   try simp only [smpC, decide_eq_true_eq, decide_eq_false_iff_not] at c24
   have hck := ck_go c24r
   refine kc_skipQ (kq_code (kc_seq (kc_seq (kc_region (kl_as rfl (kl_nil (kq_code (kc_block (kc_loop0 (A := Nat) (fun zz => (zz ≤ 40)) (fun zz => 40 - zz) (fun zz => [(7, .int .i64 (zz : Int))]) (0) (pc 3 rfl (pc 4 rfl (pc 5 rfl pn))) (pc 7 rfl pn) (Nat.zero_le _) ?_)))))))))
   rintro k hJ27
   have hk25 : (k ≤ 40) := hJ27
   change KC _ _ (_) _ _ ([(7, .int .i64 (k : Int))] ++ _)
   refine kc_seq (kc_seq (kc_region (kl_mv rfl (kl_mv rfl (kl_len rfl (by assumption) (fun l28 => ?_))))))
   refine kl_lss rfl rfl ?_
   refine kl_mv rfl (kl_join 3 45 (.bool (decide ((k : Int) < (z17.length : Int)) && decide ((k : Int) < (40 : Int)))) (pc 3 rfl (pc 4 rfl (pc 5 rfl (pc 7 rfl (pc 38 rfl (pc 39 rfl (pc 40 rfl (pc 41 rfl (pc 42 rfl pn))))))))) (fun J30 => ?_) ?_)
   ·rcases Bool.eq_false_or_eq_true (decide ((k : Int) < (z17.length : Int))) with g29 | g29
    ·skip
     have g29p := of_decide_eq_true g29
     refine kl_gT rfl rfl g29 (kl_mv rfl (kl_gT rfl rfl g29 (kl_lss rfl rfl ?_)))
     refine kl_andT rfl rfl g29 ?_
     exact J30 _ (pc 45 rfl (pc 3 rfl (pc 4 rfl (pc 5 rfl (pc 7 rfl (pc 38 rfl (pc 39 rfl (pc 40 rfl (pc 41 rfl (pc 42 rfl pn))))))))))
    ·skip
     refine kl_gF rfl rfl g29 (kl_gF rfl rfl g29 (kl_andF (decide ((k : Int) < (40 : Int))) rfl rfl g29 ?_))
     exact J30 _ (pc 45 rfl (pc 3 rfl (pc 4 rfl (pc 5 rfl (pc 7 rfl (pc 38 rfl (pc 39 rfl (pc 40 rfl (pc 41 rfl (pc 42 rfl pn))))))))))
   refine kl_nil (kq_code (kc_cond rfl (fun c31 => ?_) (fun c31 => ?_)))
   ·skip
    have c31r := c31
    try simp only [smpC, decide_eq_true_eq, decide_eq_false_iff_not] at c31
    refine kc_skipQ (kq_code (kc_seq (kc_block (kc_seq (kc_tree (fun i => ([9] : List Nat).contains i) [] (by kernel_rfl) ?_)))))
    refine kt_q 1 (List.nil_sublist _) rfl (by kernel_rfl) (kl_mv rfl (kl_nil (kq_q (kt_q 2 (List.nil_sublist _) rfl (by kernel_rfl) (kl_mv rfl (kl_nil (kq_q (kt_q 3 (List.nil_sublist _) rfl (by kernel_rfl) (kl_slTake rfl rfl (by assumption) (by omega) (fun u32 h33 => ?_))))))))))
    refine kl_nil (kq_q (kt_q 5 (List.nil_sublist _) rfl (by kernel_rfl) (kl_mv rfl (kl_nil (kq_q (kt_q 6 (List.nil_sublist _) rfl (by kernel_rfl) (kl_mv rfl (kl_nil (kq_q (kt_q 7 (List.nil_sublist _) rfl (by kernel_rfl) (kl_inc rfl rfl (by omega) ?_)))))))))))
    refine kl_nil (kq_q (kt_q 8 (List.nil_sublist _) rfl (by kernel_rfl) (kl_slDrop rfl rfl (by assumption) (by omega) (fun u34 h35 => ?_))))
    refine kl_nil (kq_q (kt_a 0 rfl (by kernel_rfl) (kl_bs0 RowV rfl (fun v36 H37 f38 o39 => ?_))))
    refine kl_nil (kq_a (List.nil_sublist _) (kt_a 4 rfl (by kernel_rfl) (kl_cmp noHp H4 (fun c40 => ?_))))
    have o41 := OwnL.mono (K' := orHp noHp H4) o39 orL
    refine kl_apS rfl rfl o41 (by assumption) (fun _ _ h => RMono.mono (R := RowV) (orC c40) h) (by (simp; omega)) (by decide) (fun v42 H43 o44 f45 => ?_)
    have f46 := f45 B f38 (Nat.le_refl _)
    refine kl_nil (kq_a (List.nil_sublist _) (kt_a 9 rfl (by kernel_rfl) (kl_cmp (orHp noHp H4) H4 (fun c47 => ?_))))
    have o48 := OwnL.mono (K' := orHp (orHp noHp H4) H4) o44 orL
    refine kl_apS rfl rfl o48 (by assumption) (fun _ _ h => RMono.mono (R := RowV) (orC c47) h) (by (simp; omega)) (by decide) (fun v49 H50 o51 f52 => ?_)
    have f53 := f52 B f46 (Nat.le_refl _)
    refine kl_nil (kq_x rfl (kt_q 10 (List.nil_sublist _) rfl (by kernel_rfl) (kl_as rfl (kl_nil (kq_q (kt_end (by kernel_rfl) ?_))))))
    refine kq_code (kc_seq (kc_draw 13 [true, true, true, true, true, false, true, true, true, true, true, false, true] (by kernel_rfl) (by kernel_rfl) ?_))
    refine kl_ldW rfl rfl (kl_mv rfl (kl_mv rfl (kl_inS rfl rfl (by assumption) (by omega) (fun p54 u56 h57 a55 => ?_))))
    refine kl_ld rfl (by assumption) (kl_callP rfl rfl (isSolI_ok z9 (z17.getD k []) (by assumption) (by assumption) (by assumption)) ?_)
    refine kl_not rfl (kl_mv rfl (kl_join 5 70 (.bool (!(isSolT z9 (z17.getD k [])) || (chkI z9 z14 (([] ++ (z17.take k)) ++ (z17.drop (k + 1)))))) (pc 3 rfl (pc 4 rfl (pc 5 rfl (pc 7 rfl (pc 8 rfl (pc 38 rfl (pc 39 rfl (pc 40 rfl (pc 41 rfl (pc 42 rfl (pc 45 rfl (pc 48 rfl (pc 49 rfl (pc 50 rfl (pc 51 rfl (pc 52 rfl (pc 53 rfl (pc 54 rfl (pc 55 rfl (pc 56 rfl (pc 57 rfl (pc 58 rfl (pc 59 rfl (pc 60 rfl (pc 61 rfl (pc 62 rfl (pc 63 rfl (pc 64 rfl (pc 65 rfl pn))))))))))))))))))))))))))))) (fun J61 => ?_) ?_))
    ·rcases Bool.eq_false_or_eq_true (!(isSolT z9 (z17.getD k []))) with g58 | g58
     ·skip
      refine kl_gF rfl rfl g58 (kl_gF rfl rfl g58 (kl_gF rfl rfl g58 (kl_gF rfl rfl g58 (kl_orT (chkI z9 z14 (([] ++ (z17.take k)) ++ (z17.drop (k + 1)))) rfl rfl g58 ?_))))
      exact J61 _ (pc 70 rfl (pc 3 rfl (pc 4 rfl (pc 5 rfl (pc 7 rfl (pc 8 rfl (pc 38 rfl (pc 39 rfl (pc 40 rfl (pc 41 rfl (pc 42 rfl (pc 45 rfl (pc 48 rfl (pc 49 rfl (pc 50 rfl (pc 51 rfl (pc 52 rfl (pc 53 rfl (pc 54 rfl (pc 55 rfl (pc 56 rfl (pc 57 rfl (pc 58 rfl (pc 59 rfl (pc 60 rfl (pc 61 rfl (pc 62 rfl (pc 63 rfl (pc 64 rfl (pc 65 rfl pn))))))))))))))))))))))))))))))
     ·skip
      have g58p := g58
      try simp only [Bool.not_eq_true', Bool.not_eq_false', decide_eq_true_eq, decide_eq_false_iff_not, Bool.and_eq_true, Bool.or_eq_false_iff, withinB_iff] at g58p
      refine kl_gT rfl rfl g58 (kl_ldW rfl rfl (kl_gT rfl rfl g58 (kl_mv rfl (kl_gT rfl rfl g58 (kl_mv rfl (kl_gT rfl rfl g58 (kl_cmp H50 (orHp (orHp noHp H4) H4) (fun c59 => ?_))))))))
      have h60 := OwnL.rowsK o51 c59
      refine kl_callP rfl rfl (chkImp_ok z9 z14 (([] ++ (z17.take k)) ++ (z17.drop (k + 1))) (by first | omega | (simp; omega)) (by assumption) (by assumption) (by assumption) (by assumption)) ?_
      refine kl_orF rfl rfl g58 ?_
      exact J61 _ (pc 70 rfl (pc 3 rfl (pc 4 rfl (pc 5 rfl (pc 7 rfl (pc 8 rfl (pc 38 rfl (pc 39 rfl (pc 40 rfl (pc 41 rfl (pc 42 rfl (pc 45 rfl (pc 48 rfl (pc 49 rfl (pc 50 rfl (pc 51 rfl (pc 52 rfl (pc 53 rfl (pc 54 rfl (pc 55 rfl (pc 56 rfl (pc 57 rfl (pc 58 rfl (pc 59 rfl (pc 60 rfl (pc 61 rfl (pc 62 rfl (pc 63 rfl (pc 64 rfl (pc 65 rfl pn))))))))))))))))))))))))))))))
    refine kl_nil (kq_code (kc_cond rfl (fun c62 => ?_) (fun c62 => ?_)))
    ·skip
     have c62r := c62
     try simp only [smpC, decide_eq_true_eq, decide_eq_false_iff_not] at c62
     exact absurd c62r (by rw [chk_sol hck (getD_mem (by omega)), List.nil_append, chk_less hck (by omega)]; simp)
    ·skip
     have c62r := c62
     try simp only [smpC, decide_eq_true_eq, decide_eq_false_iff_not] at c62
     refine kc_skipQ (kq_code (kc_region (kl_mv rfl (kl_inc rfl rfl (by omega) ?_))))
     refine kl_as rfl (kl_nil (kq_round0 ((k + 1)) (by omega) (by omega) (pc 7 rfl pn) (pc 3 rfl (pc 4 rfl (pc 5 rfl pn))) (.cons _ (List.Sublist.refl _))))
   ·skip
    have c31r := c31
    try simp only [smpC, decide_eq_true_eq, decide_eq_false_iff_not] at c31
    refine kc_exit (kq_code (kc_seq (kc_region (kl_ldW rfl rfl (kl_mv rfl (kl_callP rfl rfl (iqt_ok z9 z14 (by assumption) (by assumption) (by assumption)) ?_))))))
    refine kl_as rfl (kl_nil (kq_code (kc_ret (kq_retP rfl rfl (congrArg Value.bool ?_)))))
    first | exact chk_true hck | rfl | exact ck_ret trivial | (simp; done)
end Go.Proofs.YtiilanckbocifaaGreat
