/- Walks of functions of the program: each returns what the plain function gives. Conditions: those that each statement names. -/
import Derived.Test.YtojinjdobjodaaaGreatWspecv
import Derived.Test.YtojinjdobjodaaaGreatPureQ
import Derived.Test.YtojinjdobjodaaaGreatTre
import Derived.Test.YtojinjdobjodaaaGreatSol
import Derived.Test.YtojinjdobjodaaaGreatPureS
import Derived.Test.YtojinjdobjodaaaGreatPureA
namespace Go.Proofs.YtojinjdobjodaaaGreat
open Go
set_option linter.unusedSimpArgs false
set_option linter.unusedVariables false
theorem domainHas_ok (d : Int) (v : Int) : SpecP Tryz.prog 165 [.int .i64 d, .int .i64 v] [] (.bool (withinB v 0 5 && hasB d v)) := by
 refine spec_of Tryz.func165 rfl rfl rfl (fun B => ?_)
 refine kc_seq (kc_region (kl_as rfl (kl_nil (kq_code (kc_seq (kc_region (kl_mv rfl (kl_callP rfl rfl (inRange_ok v (0 : Int) (5 : Int)) ?_))))))))
 refine kl_mv rfl (kl_join 6 13 (.bool ((withinB v (0 : Int) (5 : Int)) && decide ((iand (ishr d v) (1 : Int)) = (1 : Int)))) (pc 4 rfl (pc 7 rfl pn)) (fun J2 => ?_) ?_)
 ·rcases Bool.eq_false_or_eq_true (withinB v (0 : Int) (5 : Int)) with g1 | g1
  ·skip
   have g1p := g1
   try simp only [Bool.not_eq_true', Bool.not_eq_false', decide_eq_true_eq, decide_eq_false_iff_not, Bool.and_eq_true, Bool.or_eq_false_iff, withinB_iff] at g1p
   refine kl_gT rfl rfl g1 (kl_mv rfl (kl_gT rfl rfl g1 (kl_mv rfl (kl_gT rfl rfl g1 (kl_shr rfl rfl (by omega) ?_)))))
   refine kl_gT rfl rfl g1 (kl_and rfl rfl ?_)
   refine kl_gT rfl rfl g1 (kl_eql rfl rfl ?_)
   refine kl_andT rfl rfl g1 ?_
   exact J2 _ (pc 13 rfl (pc 4 rfl (pc 7 rfl pn)))
  ·skip
   refine kl_gF rfl rfl g1 (kl_gF rfl rfl g1 (kl_gF rfl rfl g1 (kl_gF rfl rfl g1 (kl_gF rfl rfl g1 (kl_andF (decide ((iand (ishr d v) (1 : Int)) = (1 : Int))) rfl rfl g1 ?_)))))
   exact J2 _ (pc 13 rfl (pc 4 rfl (pc 7 rfl pn)))
 refine kl_as rfl (kl_nil (kq_code (kc_ret (kq_retP rfl rfl (congrArg Value.bool ?_)))))
 rfl
theorem copyInts_ok {Hxs : Hp} {vxs : Value} (xs : List Int) (hb : xs.length ≤ 1048576) (hxs : Ints Hxs vxs xs) : Spec Tryz.prog 80 [vxs] [Hxs] (fun Hq vq => OwnL 3 1 Hq noHp IntV vq xs) := by
 refine spec_of Tryz.func80 rfl rfl rfl (fun B => ?_)
 refine kc_seq (kc_region (kl_as rfl (kl_nil (kq_code (kc_seq (kc_region (kl_bsI [] rfl rfl rfl (by decide) (fun v1 H2 f3 o4 => ?_))))))))
 refine kl_mv rfl (kl_apS rfl rfl o4 (by assumption) (fun _ _ h => h) (by first | omega | (simp; omega)) (by decide) (fun v5 H6 o7 f8 => ?_))
 have f9 := f8 B f3 (Nat.le_refl _)
 refine kl_as rfl (kl_nil (kq_code (kc_ret ?_)))
 have e9 : ([] ++ xs) = xs := by simp
 exact kq_ret rfl rfl H6 f9 (e9 ▸ o7)
theorem hasEmpty_ok {Hxs : Hp} {vxs : Value} (xs : List Int) (hxs : Ints Hxs vxs xs) : SpecP Tryz.prog 124 [vxs] [Hxs] (.bool (xs.contains 0)) := by
 refine spec_of Tryz.func124 rfl rfl rfl (fun B => ?_)
 refine kc_seq (kc_region (kl_as rfl (kl_nil (kq_code (kc_seq (kc_seq (kc_region (kl_as rfl (kl_nil (kq_code (kc_block (kc_loop0 (A := Nat) (fun zz => (zz ≤ xs.length) ∧ ((xs.take zz).any (fun y => decide (y = 0)) = false)) (fun zz => xs.length - zz) (fun zz => [(3, .int .i64 (zz : Int))]) (0) (pc 0 rfl pn) (pc 3 rfl pn) ⟨Nat.zero_le _, by simp⟩ ?_))))))))))))
 rintro k hJ3
 obtain ⟨hk1, hi2⟩ : (k ≤ xs.length) ∧ ((xs.take k).any (fun y => decide (y = 0)) = false) := hJ3
 change KC _ _ (_) _ _ ([(3, .int .i64 (k : Int))] ++ _)
 refine kc_seq (kc_seq (kc_region (kl_mv rfl (kl_mv rfl (kl_len rfl (by assumption) (fun l4 => ?_))))))
 refine kl_lss rfl rfl ?_
 refine kl_nil (kq_code (kc_if rfl (fun c5 => ?_) (fun c5 => ?_)))
 ·skip
  refine kc_skipQ (kq_code (kc_seq (kc_block (kc_seq (kc_region (kl_mv rfl (kl_mv rfl (kl_inI rfl rfl (by assumption) (by omega) (fun p6 a7 => ?_)))))))))
  refine kl_ld rfl (by assumption) (kl_eql rfl rfl ?_)
  refine kl_nil (kq_code (kc_if rfl (fun c8 => ?_) (fun c8 => ?_)))
  ·skip
   refine kc_seq (kc_region (kl_as rfl (kl_nil (kq_code (kc_ret (kq_retP rfl rfl (congrArg Value.bool ?_)))))))
   exact contains_hit (k := k) (by omega) (by assumption)
  ·skip
   refine kc_skipQ (kq_code (kc_region (kl_mv rfl (kl_inc rfl rfl (by omega) ?_))))
   refine kl_as rfl (kl_nil (kq_round0 ((k + 1)) (by omega) (⟨by omega, any_take_step (d := 0) (by omega) hi2 (by simpa using by assumption)⟩) (pc 3 rfl pn) (pc 0 rfl pn) (List.Sublist.refl _)))
 ·skip
  refine kc_exit (kq_code (kc_seq (kc_region (kl_as rfl (kl_nil (kq_code (kc_ret (kq_retP rfl rfl (congrArg Value.bool ?_)))))))))
  exact contains_none (by omega) (by assumption)
theorem capacity_ok {Hcv : Hp} {vcv : Value} {Hca : Hp} {vca : Value} {Hcr : Hp} {vcr : Value} {Hx : Hp} {vx : Value} (c : Con) (x : List Int) (hs : SatOk c x) (hk : c.kind = 7) (hcv : Ints Hcv vcv c.vars) (hca : Ints Hca vca c.args) (hcr : Rows Hcr vcr c.rows) (hx : Ints Hx vx x) : SpecP Tryz.prog 216 [.agg #[.int .i64 c.kind, vcv, vca, .int .i64 c.bound, vcr], vx] [Hcv, Hca, Hcr, Hx] (.bool (roomB c x)) := by
 have h7 := hs.k7 hk
 have h4 := hs.four
 refine spec_of Tryz.func216 rfl rfl rfl (fun B => ?_)
 refine kc_seq (kc_region (kl_box rfl rfl (fun p1 H2 f3 a4 => ?_)))
 refine kl_as rfl (kl_nil (kq_code (kc_seq (kc_region (kl_mv rfl (kl_len rfl (by assumption) (fun l5 => ?_)))))))
 refine kl_as rfl (kl_nil (kq_code (kc_seq (kc_seq (kc_region (kl_as rfl (kl_nil (kq_code (kc_block (kc_loop0 (A := Nat) (fun zz => (zz ≤ 15) ∧ (roomTo c x zz = true)) (fun zz => 15 - zz) (fun zz => [(6, .int .i64 (zz : Int))]) (0) (pc 1 rfl (pc 2 rfl (pc 5 rfl pn))) (pc 6 rfl pn) ⟨Nat.zero_le _, rfl⟩ ?_))))))))))
 rintro k hJ8
 obtain ⟨hk6, hi7⟩ : (k ≤ 15) ∧ (roomTo c x k = true) := hJ8
 change KC _ _ (_) _ _ ([(6, .int .i64 (k : Int))] ++ _)
 refine kc_seq (kc_seq (kc_region (kl_mv rfl (kl_leq rfl rfl ?_))))
 refine kl_nil (kq_code (kc_if rfl (fun c9 => ?_) (fun c9 => ?_)))
 ·skip
  refine kc_skipQ (kq_code (kc_seq (kc_block (kc_seq (kc_region (kl_as rfl (kl_nil (kq_code (kc_seq (kc_seq (kc_region ?_)))))))))))
  refine kl_as rfl (kl_nil (kq_code (kc_block (kc_loop0 (A := Nat × Int) (fun zz => (zz.1 ≤ x.length) ∧ (zz.2 = loadTo c.args x k zz.1)) (fun zz => x.length - zz.1) (fun zz => [(8, .int .i64 (zz.1 : Int)), (7, .int .i64 zz.2)]) (0, (0 : Int)) (pc 1 rfl (pc 2 rfl (pc 5 rfl (pc 6 rfl (pc 11 rfl (pc 12 rfl pn)))))) (pc 8 rfl (pc 7 rfl pn)) ⟨Nat.zero_le _, rfl⟩ ?_))))
  rintro ⟨i, s⟩ hJ12
  obtain ⟨hk10, hi11⟩ : (i ≤ x.length) ∧ (s = loadTo c.args x k i) := hJ12
  change KC _ _ (_) _ _ ([(8, .int .i64 (i : Int)), (7, .int .i64 s)] ++ _)
  refine kc_seq (kc_seq (kc_region (kl_mv rfl (kl_mv rfl (kl_lss rfl rfl ?_)))))
  refine kl_nil (kq_code (kc_if rfl (fun c13 => ?_) (fun c13 => ?_)))
  ·skip
   have hl := load_le (x := x) h7.2 (by omega) k i (by omega)
   have hx1 := hs.val.at (k := i) (by omega)
   have ha1 := h7.2 _ (getD_mem (d := (0 : Int)) (by omega : i < c.args.length))
   refine kc_skipQ (kq_code (kc_seq (kc_block (kc_seq (kc_draw 20 [true, true, true, true, true, true, true, true, true, true, true, true, true, true, true, true, true, true, true, true] (by kernel_rfl) (by kernel_rfl) ?_)))))
   refine kl_mv rfl (kl_mv rfl (kl_mv rfl (kl_inI rfl rfl (by assumption) (by omega) (fun p14 a15 => ?_))))
   refine kl_ld rfl (by assumption) (kl_geq rfl rfl ?_)
   refine kl_mv rfl (kl_join 13 39 (.bool (decide ((x.getD i 0) ≤ (k : Int)) && decide ((k : Int) < ((x.getD i 0) + (c.args.getD i 0))))) (pc 1 rfl (pc 2 rfl (pc 5 rfl (pc 6 rfl (pc 7 rfl (pc 8 rfl (pc 11 rfl (pc 12 rfl (pc 15 rfl (pc 16 rfl (pc 17 rfl (pc 20 rfl (pc 21 rfl (pc 22 rfl (pc 23 rfl (pc 24 rfl (pc 25 rfl (pc 26 rfl pn)))))))))))))))))) (fun J23 => ?_) ?_)
   ·rcases Bool.eq_false_or_eq_true (decide ((x.getD i 0) ≤ (k : Int))) with g16 | g16
    ·skip
     have g16p := of_decide_eq_true g16
     refine kl_gT rfl rfl g16 (kl_mv rfl (kl_gT rfl rfl g16 (kl_mv rfl (kl_gT rfl rfl g16 (kl_mv rfl (kl_gT rfl rfl g16 (kl_inI rfl rfl (by assumption) (by omega) (fun p17 a18 => ?_))))))))
     refine kl_gT rfl rfl g16 (kl_ld rfl (by assumption) (kl_gT rfl rfl g16 (kl_fd rfl (by assumption) (fun p19 a20 => ?_))))
     refine kl_gT rfl rfl g16 (kl_ld rfl (by assumption) (kl_gT rfl rfl g16 (kl_mv rfl (kl_gT rfl rfl g16 (kl_inI rfl rfl (by assumption) (by omega) (fun p21 a22 => ?_))))))
     refine kl_gT rfl rfl g16 (kl_ld rfl (by assumption) (kl_gT rfl rfl g16 (kl_add rfl rfl (by omega) ?_)))
     refine kl_gT rfl rfl g16 (kl_lss rfl rfl ?_)
     refine kl_andT rfl rfl g16 ?_
     exact J23 _ (pc 39 rfl (pc 1 rfl (pc 2 rfl (pc 5 rfl (pc 6 rfl (pc 7 rfl (pc 8 rfl (pc 11 rfl (pc 12 rfl (pc 15 rfl (pc 16 rfl (pc 17 rfl (pc 20 rfl (pc 21 rfl (pc 22 rfl (pc 23 rfl (pc 24 rfl (pc 25 rfl (pc 26 rfl pn)))))))))))))))))))
    ·skip
     refine kl_gF rfl rfl g16 (kl_gF rfl rfl g16 (kl_gF rfl rfl g16 (kl_gF rfl rfl g16 (kl_gF rfl rfl g16 (kl_gF rfl rfl g16 (kl_gF rfl rfl g16 (kl_gF rfl rfl g16 (kl_gF rfl rfl g16 ?_))))))))
     refine kl_gF rfl rfl g16 (kl_gF rfl rfl g16 (kl_gF rfl rfl g16 (kl_andF (decide ((k : Int) < ((x.getD i 0) + (c.args.getD i 0)))) rfl rfl g16 ?_)))
     exact J23 _ (pc 39 rfl (pc 1 rfl (pc 2 rfl (pc 5 rfl (pc 6 rfl (pc 7 rfl (pc 8 rfl (pc 11 rfl (pc 12 rfl (pc 15 rfl (pc 16 rfl (pc 17 rfl (pc 20 rfl (pc 21 rfl (pc 22 rfl (pc 23 rfl (pc 24 rfl (pc 25 rfl (pc 26 rfl pn)))))))))))))))))))
   refine kl_nil (kq_code (kc_cond rfl (fun c24 => ?_) (fun c24 => ?_)))
   ·skip
    have c24r := c24
    try simp only [smpC, decide_eq_true_eq, decide_eq_false_iff_not] at c24
    have ha2 := h7.2 _ (getD_mem (d := (0 : Int)) (by omega : x.length + i < c.args.length))
    refine kc_region (kl_mv rfl (kl_fd rfl (by assumption) (fun p25 a26 => ?_)))
    refine kl_ld rfl (by assumption) (kl_mv rfl (kl_mv rfl (kl_addN rfl rfl (by omega) ?_)))
    refine kl_inI rfl rfl (by assumption) (by omega) (fun p27 a28 => ?_)
    refine kl_ld rfl (by assumption) (kl_add rfl rfl (by omega) ?_)
    refine kl_as rfl (kl_nil (kq_code (kc_region (kl_mv rfl (kl_inc rfl rfl (by omega) ?_)))))
    refine kl_as rfl (kl_nil (kq_round0 ((i + 1), (s + (c.args.getD (x.length + i) 0))) (by omega) (⟨by omega, (by first | exact load_stepT hi11 (by assumption) | exact load_stepF hi11 (by assumption))⟩) (pc 8 rfl (pc 7 rfl pn)) (pc 1 rfl (pc 2 rfl (pc 5 rfl (pc 6 rfl (pc 11 rfl (pc 12 rfl pn)))))) (List.Sublist.refl _)))
   ·skip
    have c24r := c24
    try simp only [smpC, decide_eq_true_eq, decide_eq_false_iff_not] at c24
    refine kc_skipQ (kq_code (kc_region (kl_mv rfl (kl_inc rfl rfl (by omega) ?_))))
    refine kl_as rfl (kl_nil (kq_round0 ((i + 1), s) (by omega) (⟨by omega, (by first | exact load_stepT hi11 (by assumption) | exact load_stepF hi11 (by assumption))⟩) (pc 8 rfl (pc 7 rfl pn)) (pc 1 rfl (pc 2 rfl (pc 5 rfl (pc 6 rfl (pc 11 rfl (pc 12 rfl pn)))))) (List.Sublist.refl _)))
  ·skip
   refine kc_exit (kq_code (kc_seq (kc_region (kl_mv rfl (kl_fd rfl (by assumption) (fun p29 a30 => ?_))))))
   refine kl_ld rfl (by assumption) (kl_gtr rfl rfl ?_)
   refine kl_nil (kq_code (kc_if rfl (fun c31 => ?_) (fun c31 => ?_)))
   ·skip
    refine kc_seq (kc_region (kl_as rfl (kl_nil (kq_code (kc_ret (kq_retP rfl rfl (congrArg Value.bool ?_)))))))
    exact room_no' (k := k) (by omega) hi11 (by omega) (by assumption)
   ·skip
    refine kc_skipQ (kq_code (kc_region (kl_mv rfl (kl_inc rfl rfl (by omega) ?_))))
    refine kl_as rfl (kl_nil (kq_round0 ((k + 1)) (by omega) (⟨by omega, room_step hi7 hi11 (by omega) (by assumption)⟩) (pc 6 rfl pn) (pc 1 rfl (pc 2 rfl (pc 5 rfl pn))) (List.Sublist.refl _)))
 ·skip
  refine kc_exit (kq_code (kc_seq (kc_region (kl_as rfl (kl_nil (kq_code (kc_ret (kq_retP rfl rfl (congrArg Value.bool ?_)))))))))
  exact room_yes hi7 (by omega)
theorem saccepts_ok {Hcv : Hp} {vcv : Value} {Hca : Hp} {vca : Value} {Hcr : Hp} {vcr : Value} {Hx : Hp} {vx : Value} (c : Con) (x : List Int) (hs : SatOk c x) (hk : c.kind = 8) (hcv : Ints Hcv vcv c.vars) (hca : Ints Hca vca c.args) (hcr : Rows Hcr vcr c.rows) (hx : Ints Hx vx x) : SpecP Tryz.prog 217 [.agg #[.int .i64 c.kind, vcv, vca, .int .i64 c.bound, vcr], vx] [Hcv, Hca, Hcr, Hx] (.bool (accB c x)) := by
 have h8 := hs.k8 hk
 have h8r := hs.k8r hk
 refine spec_of Tryz.func217 rfl rfl rfl (fun B => ?_)
 refine kc_seq (kc_region (kl_box rfl rfl (fun p1 H2 f3 a4 => ?_)))
 refine kl_as rfl (kl_nil (kq_code (kc_seq (kc_region (kl_as rfl (kl_nil (kq_code (kc_seq (kc_seq (kc_region (kl_as rfl (kl_nil (kq_code (kc_block ?_))))))))))))))
 refine kc_loop0 (A := Nat × Int) (fun zz => (zz.1 ≤ x.length) ∧ (0 ≤ zz.2 ∧ zz.2 < c.rows.length ∧ accGo c.rows zz.2 (x.drop zz.1) = accGo c.rows 0 x)) (fun zz => x.length - zz.1) (fun zz => [(6, .int .i64 (zz.1 : Int)), (5, .int .i64 zz.2)]) (0, (0 : Int)) (pc 1 rfl (pc 2 rfl pn)) (pc 6 rfl (pc 5 rfl pn)) ⟨Nat.zero_le _, ⟨by dsimp only; omega, by dsimp only; omega, by simp⟩⟩ ?_
 rintro ⟨k, s⟩ hJ7
 obtain ⟨hk5, hi6⟩ : (k ≤ x.length) ∧ (0 ≤ s ∧ s < c.rows.length ∧ accGo c.rows s (x.drop k) = accGo c.rows 0 x) := hJ7
 change KC _ _ (_) _ _ ([(6, .int .i64 (k : Int)), (5, .int .i64 s)] ++ _)
 refine kc_seq (kc_seq (kc_region (kl_mv rfl (kl_mv rfl (kl_len rfl (by assumption) (fun l8 => ?_))))))
 refine kl_lss rfl rfl ?_
 refine kl_nil (kq_code (kc_if rfl (fun c9 => ?_) (fun c9 => ?_)))
 ·skip
  have hr := h8.2 _ (getD_mem (d := ([] : List Int)) (by omega : s.toNat < c.rows.length))
  have hx1 := hs.val.at (k := k) (by omega)
  refine kc_skipQ (kq_code (kc_seq (kc_block (kc_seq (kc_draw 12 [true, true, true, true, true, true, true, true, true, true, true, true] (by kernel_rfl) (by kernel_rfl) ?_)))))
  refine kl_fd rfl (by assumption) (fun p10 a11 => ?_)
  refine kl_ld rfl (by assumption) (kl_mv rfl (kl_ixS rfl rfl (by assumption) (by omega) (by omega) (fun p12 u14 h15 a13 => ?_)))
  refine kl_ld rfl (by assumption) (kl_mv rfl (kl_mv rfl (kl_inI rfl rfl (by assumption) (by omega) (fun p16 a17 => ?_))))
  refine kl_ld rfl (by assumption) (kl_ixI rfl rfl (by assumption) (by omega) (by omega) (fun p18 a19 => ?_))
  refine kl_ld rfl (by assumption) (kl_as rfl (kl_nil (kq_code (kc_seq (kc_region (kl_mv rfl (kl_lss rfl rfl ?_)))))))
  refine kl_nil (kq_code (kc_if rfl (fun c20 => ?_) (fun c20 => ?_)))
  ·skip
   refine kc_seq (kc_region (kl_as rfl (kl_nil (kq_code (kc_ret (kq_retP rfl rfl (congrArg Value.bool ?_)))))))
   exact acc_no (k := k) (by omega) hi6.2.2 (by assumption)
  ·skip
   refine kc_skipQ (kq_code (kc_region (kl_mv rfl (kl_inc rfl rfl (by omega) ?_))))
   refine kl_as rfl (kl_nil (kq_round0 ((k + 1), ((c.rows.getD s.toNat []).getD (x.getD k 0).toNat 0)) (by omega) (⟨by omega, acc_step h8r (by omega) ⟨hi6.1, hi6.2.1⟩ hx1 hi6.2.2 (by assumption)⟩) (pc 6 rfl (pc 5 rfl pn)) (pc 1 rfl (pc 2 rfl pn)) (List.Sublist.refl _)))
 ·skip
  refine kc_exit (kq_code (kc_seq (kc_seq (kc_region (kl_as rfl (kl_nil (kq_code (kc_block (kc_loop0 (A := Nat) (fun zz => (zz ≤ c.args.length) ∧ ((c.args.take zz).any (fun y => decide (y = s)) = false)) (fun zz => c.args.length - zz) (fun zz => [(7, .int .i64 (zz : Int))]) (0) (pc 2 rfl (pc 5 rfl pn)) (pc 7 rfl pn) ⟨Nat.zero_le _, by simp⟩ ?_)))))))))
  rintro j hJ23
  obtain ⟨hk21, hi22⟩ : (j ≤ c.args.length) ∧ ((c.args.take j).any (fun y => decide (y = s)) = false) := hJ23
  change KC _ _ (_) _ _ ([(7, .int .i64 (j : Int))] ++ _)
  refine kc_seq (kc_seq (kc_region (kl_mv rfl (kl_fd rfl (by assumption) (fun p24 a25 => ?_)))))
  refine kl_ld rfl (by assumption) (kl_len rfl (by assumption) (fun l26 => ?_))
  refine kl_lss rfl rfl ?_
  refine kl_nil (kq_code (kc_if rfl (fun c27 => ?_) (fun c27 => ?_)))
  ·skip
   refine kc_skipQ (kq_code (kc_seq (kc_block (kc_seq (kc_region (kl_fd rfl (by assumption) (fun p28 a29 => ?_)))))))
   refine kl_ld rfl (by assumption) (kl_mv rfl (kl_inI rfl rfl (by assumption) (by omega) (fun p30 a31 => ?_)))
   refine kl_ld rfl (by assumption) (kl_mv rfl (kl_eql rfl rfl ?_))
   refine kl_nil (kq_code (kc_if rfl (fun c32 => ?_) (fun c32 => ?_)))
   ·skip
    refine kc_seq (kc_region (kl_as rfl (kl_nil (kq_code (kc_ret (kq_retP rfl rfl (congrArg Value.bool ?_)))))))
    rw [← acc_yes (k := k) (by omega) hi6.1 hi6.2.2]; exact contains_hit (k := j) (by omega) (by assumption)
   ·skip
    refine kc_skipQ (kq_code (kc_region (kl_mv rfl (kl_inc rfl rfl (by omega) ?_))))
    refine kl_as rfl (kl_nil (kq_round0 ((j + 1)) (by omega) (⟨by omega, any_take_step (d := 0) (by omega) hi22 (by simpa using by assumption)⟩) (pc 7 rfl pn) (pc 2 rfl (pc 5 rfl pn)) (List.Sublist.refl _)))
  ·skip
   refine kc_exit (kq_code (kc_seq (kc_region (kl_as rfl (kl_nil (kq_code (kc_ret (kq_retP rfl rfl (congrArg Value.bool ?_)))))))))
   rw [← acc_yes (k := k) (by omega) hi6.1 hi6.2.2]; exact contains_none (by omega) (by assumption)
theorem circuit_ok {Hx : Hp} {vx : Value} (x : List Int) (h1 : 1 ≤ x.length) (hv : Vals x) (hx : Ints Hx vx x) : SpecP Tryz.prog 218 [vx] [Hx] (.bool (cycB x)) := by
 refine spec_of Tryz.func218 rfl rfl rfl (fun B => ?_)
 refine kc_seq (kc_region (kl_as rfl (kl_nil (kq_code (kc_seq (kc_region (kl_as rfl (kl_nil (kq_code (kc_seq (kc_seq (kc_region (kl_as rfl (kl_nil (kq_code ?_)))))))))))))))
 refine kc_block (kc_loop0 (A := Nat × Int) (fun zz => (1 ≤ zz.1 ∧ zz.1 ≤ x.length + 1) ∧ (0 ≤ zz.2 ∧ zz.2 < x.length ∧ cycSGo x (x.length + 1 - zz.1) zz.2 (zz.1 : Int) = cycB x)) (fun zz => (x.length + 1) - zz.1) (fun zz => [(4, .int .i64 (zz.1 : Int)), (3, .int .i64 zz.2)]) (1, (0 : Int)) (pc 0 rfl pn) (pc 4 rfl (pc 3 rfl pn)) ⟨by constructor <;> omega, ⟨by dsimp only; omega, by dsimp only; omega, rfl⟩⟩ ?_)
 rintro ⟨k, a⟩ hJ3
 obtain ⟨hk1, hi2⟩ : (1 ≤ k ∧ k ≤ x.length + 1) ∧ (0 ≤ a ∧ a < x.length ∧ cycSGo x (x.length + 1 - k) a (k : Int) = cycB x) := hJ3
 change KC _ _ (_) _ _ ([(4, .int .i64 (k : Int)), (3, .int .i64 a)] ++ _)
 refine kc_seq (kc_seq (kc_region (kl_mv rfl (kl_mv rfl (kl_len rfl (by assumption) (fun l4 => ?_))))))
 refine kl_leq rfl rfl ?_
 refine kl_nil (kq_code (kc_if rfl (fun c5 => ?_) (fun c5 => ?_)))
 ·skip
  refine kc_skipQ (kq_code (kc_seq (kc_block (kc_seq (kc_seq (kc_region (kl_mv rfl (kl_mv rfl (kl_ixI rfl rfl (by assumption) (by omega) (by omega) (fun p6 a7 => ?_))))))))))
  refine kl_ld rfl (by assumption) (kl_mv rfl (kl_len rfl (by assumption) (fun l8 => ?_)))
  refine kl_geq rfl rfl ?_
  refine kl_nil (kq_code (kc_if rfl (fun c9 => ?_) (fun c9 => ?_)))
  ·skip
   refine kc_seq (kc_region (kl_as rfl (kl_nil (kq_code (kc_ret (kq_retP rfl rfl (congrArg Value.bool ?_)))))))
   (have h := cycS_at hi2.2.2 (by omega); rw [if_pos (by assumption)] at h; exact h.symm)
  ·skip
   refine kc_skipQ (kq_code (kc_seq (kc_region (kl_mv rfl (kl_mv rfl (kl_ixI rfl rfl (by assumption) (by omega) (by omega) (fun p10 a11 => ?_)))))))
   refine kl_ld rfl (by assumption) (kl_as rfl (kl_nil (kq_code (kc_seq (kc_region (kl_mv rfl (kl_eql rfl rfl ?_)))))))
   refine kl_nil (kq_code (kc_if rfl (fun c12 => ?_) (fun c12 => ?_)))
   ·skip
    refine kc_seq (kc_region (kl_mv rfl (kl_mv rfl (kl_len rfl (by assumption) (fun l13 => ?_)))))
    refine kl_eql rfl rfl ?_
    refine kl_as rfl (kl_nil (kq_code (kc_ret (kq_retP rfl rfl (congrArg Value.bool ?_)))))
    (have h := cycS_at hi2.2.2 (by omega); rw [if_neg (by assumption), if_pos (by assumption)] at h; exact h.symm)
   ·skip
    refine kc_skipQ (kq_code (kc_region (kl_mv rfl (kl_inc rfl rfl (by omega) ?_))))
    refine kl_as rfl (kl_nil (kq_round0 ((k + 1), (x.getD a.toNat 0)) (by omega) (⟨by constructor <;> omega, (by have h := cycS_at hi2.2.2 (by omega); rw [if_neg (by assumption), if_neg (by assumption)] at h; exact ⟨(hv _ (getD_mem (by omega))).1, by omega, h.symm⟩)⟩) (pc 4 rfl (pc 3 rfl pn)) (pc 0 rfl pn) (List.Sublist.refl _)))
 ·skip
  refine kc_exit (kq_code (kc_seq (kc_region (kl_as rfl (kl_nil (kq_code (kc_ret (kq_retP rfl rfl (congrArg Value.bool ?_)))))))))
  exact cycS_0 hi2.2.2 (by assumption)
theorem hasRow_ok {Hrows : Hp} {vrows : Value} {Hx : Hp} {vx : Value} (rows : List (List Int)) (x : List Int) (hr : ∀ r ∈ rows, r.length = x.length) (hrows : Rows Hrows vrows rows) (hx : Ints Hx vx x) : SpecP Tryz.prog 215 [vrows, vx] [Hrows, Hx] (.bool (rows.any (fun r => decide (r = x)))) := by
 refine spec_of Tryz.func215 rfl rfl rfl (fun B => ?_)
 refine kc_seq (kc_region (kl_as rfl (kl_nil (kq_code (kc_seq (kc_seq (kc_region (kl_as rfl (kl_nil (kq_code (kc_block (kc_loop0 (A := Nat) (fun zz => (zz ≤ rows.length) ∧ ((rows.take zz).any (fun r => decide (r = x)) = false)) (fun zz => rows.length - zz) (fun zz => [(5, .int .i64 (zz : Int))]) (0) (pc 0 rfl (pc 1 rfl pn)) (pc 5 rfl pn) ⟨Nat.zero_le _, by simp⟩ ?_))))))))))))
 rintro k hJ3
 obtain ⟨hk1, hi2⟩ : (k ≤ rows.length) ∧ ((rows.take k).any (fun r => decide (r = x)) = false) := hJ3
 change KC _ _ (_) _ _ ([(5, .int .i64 (k : Int))] ++ _)
 refine kc_seq (kc_seq (kc_region (kl_mv rfl (kl_mv rfl (kl_len rfl (by assumption) (fun l4 => ?_))))))
 refine kl_lss rfl rfl ?_
 refine kl_nil (kq_code (kc_if rfl (fun c5 => ?_) (fun c5 => ?_)))
 ·skip
  have hr1 := hr _ (getD_mem (d := ([] : List Int)) (by omega : k < rows.length))
  refine kc_skipQ (kq_code (kc_seq (kc_block (kc_seq (kc_region (kl_as rfl (kl_nil (kq_code (kc_seq (kc_seq (kc_region ?_)))))))))))
  refine kl_as rfl (kl_nil (kq_code (kc_block (kc_loop0 (A := Nat × Bool) (fun zz => (zz.1 ≤ x.length) ∧ (zz.2 = decide ((rows.getD k []).take zz.1 = x.take zz.1))) (fun zz => x.length - zz.1) (fun zz => [(7, .int .i64 (zz.1 : Int)), (6, .bool zz.2)]) (0, true) (pc 0 rfl (pc 1 rfl (pc 5 rfl (pc 8 rfl (pc 9 rfl (pc 10 rfl (pc 11 rfl pn))))))) (pc 7 rfl (pc 6 rfl pn)) ⟨Nat.zero_le _, by simp⟩ ?_))))
  rintro ⟨j, b⟩ hJ8
  obtain ⟨hk6, hi7⟩ : (j ≤ x.length) ∧ (b = decide ((rows.getD k []).take j = x.take j)) := hJ8
  change KC _ _ (_) _ _ ([(7, .int .i64 (j : Int)), (6, .bool b)] ++ _)
  refine kc_seq (kc_seq (kc_region (kl_mv rfl (kl_mv rfl (kl_len rfl (by assumption) (fun l9 => ?_))))))
  refine kl_lss rfl rfl ?_
  refine kl_nil (kq_code (kc_if rfl (fun c10 => ?_) (fun c10 => ?_)))
  ·skip
   refine kc_skipQ (kq_code (kc_seq (kc_block (kc_draw 16 [true, true, true, true, true, true, true, true, true, true, true, true, true, true, true, true] (by kernel_rfl) (by kernel_rfl) ?_))))
   refine kl_mv rfl (kl_mv rfl (kl_join 13 34 (.bool (b && decide (((rows.getD k []).getD j 0) = (x.getD j 0)))) (pc 0 rfl (pc 1 rfl (pc 5 rfl (pc 6 rfl (pc 7 rfl (pc 8 rfl (pc 9 rfl (pc 10 rfl (pc 11 rfl (pc 14 rfl (pc 15 rfl (pc 16 rfl (pc 17 rfl (pc 20 rfl (pc 21 rfl pn))))))))))))))) (fun J20 => ?_) ?_))
   ·rcases Bool.eq_false_or_eq_true b with g11 | g11
    ·skip
     have g11p := g11
     try simp only [Bool.not_eq_true', Bool.not_eq_false', decide_eq_true_eq, decide_eq_false_iff_not, Bool.and_eq_true, Bool.or_eq_false_iff, withinB_iff] at g11p
     refine kl_gT rfl rfl g11 (kl_mv rfl (kl_gT rfl rfl g11 (kl_mv rfl (kl_gT rfl rfl g11 (kl_inS rfl rfl (by assumption) (by omega) (fun p12 u14 h15 a13 => ?_))))))
     refine kl_gT rfl rfl g11 (kl_ld rfl (by assumption) (kl_gT rfl rfl g11 (kl_mv rfl (kl_gT rfl rfl g11 (kl_inI rfl rfl (by assumption) (by omega) (fun p16 a17 => ?_))))))
     refine kl_gT rfl rfl g11 (kl_ld rfl (by assumption) (kl_gT rfl rfl g11 (kl_mv rfl (kl_gT rfl rfl g11 (kl_mv rfl (kl_gT rfl rfl g11 (kl_inI rfl rfl (by assumption) (by omega) (fun p18 a19 => ?_))))))))
     refine kl_gT rfl rfl g11 (kl_ld rfl (by assumption) (kl_gT rfl rfl g11 (kl_eql rfl rfl ?_)))
     refine kl_andT rfl rfl g11 ?_
     exact J20 _ (pc 34 rfl (pc 0 rfl (pc 1 rfl (pc 5 rfl (pc 6 rfl (pc 7 rfl (pc 8 rfl (pc 9 rfl (pc 10 rfl (pc 11 rfl (pc 14 rfl (pc 15 rfl (pc 16 rfl (pc 17 rfl (pc 20 rfl (pc 21 rfl pn))))))))))))))))
    ·skip
     refine kl_gF rfl rfl g11 (kl_gF rfl rfl g11 (kl_gF rfl rfl g11 (kl_gF rfl rfl g11 (kl_gF rfl rfl g11 (kl_gF rfl rfl g11 (kl_gF rfl rfl g11 (kl_gF rfl rfl g11 (kl_gF rfl rfl g11 ?_))))))))
     refine kl_gF rfl rfl g11 (kl_gF rfl rfl g11 (kl_gF rfl rfl g11 (kl_andF (decide (((rows.getD k []).getD j 0) = (x.getD j 0))) rfl rfl g11 ?_)))
     exact J20 _ (pc 34 rfl (pc 0 rfl (pc 1 rfl (pc 5 rfl (pc 6 rfl (pc 7 rfl (pc 8 rfl (pc 9 rfl (pc 10 rfl (pc 11 rfl (pc 14 rfl (pc 15 rfl (pc 16 rfl (pc 17 rfl (pc 20 rfl (pc 21 rfl pn))))))))))))))))
   refine kl_as rfl (kl_nil (kq_code (kc_region (kl_mv rfl (kl_inc rfl rfl (by omega) ?_)))))
   refine kl_as rfl (kl_nil (kq_round0 ((j + 1), (b && decide (((rows.getD k []).getD j 0) = (x.getD j 0)))) (by omega) (⟨by omega, row_step (by omega) hr1 hi7⟩) (pc 7 rfl (pc 6 rfl pn)) (pc 0 rfl (pc 1 rfl (pc 5 rfl (pc 8 rfl (pc 9 rfl (pc 10 rfl (pc 11 rfl pn))))))) (List.Sublist.refl _)))
  ·skip
   refine kc_exit (kq_code (kc_seq (kc_region (kl_mv rfl (kl_nil (kq_code (kc_cond rfl (fun c21 => ?_) (fun c21 => ?_))))))))
   ·skip
    have c21r := c21
    try simp only [smpC, decide_eq_true_eq, decide_eq_false_iff_not] at c21
    refine kc_seq (kc_region (kl_as rfl (kl_nil (kq_code (kc_ret (kq_retP rfl rfl (congrArg Value.bool ?_)))))))
    exact (any_true (d := []) (k := k) (by omega) (row_eq (by omega) hr1 hi7 (by assumption))).symm
   ·skip
    have c21r := c21
    try simp only [smpC, decide_eq_true_eq, decide_eq_false_iff_not] at c21
    refine kc_skipQ (kq_code (kc_region (kl_mv rfl (kl_inc rfl rfl (by omega) ?_))))
    refine kl_as rfl (kl_nil (kq_round0 ((k + 1)) (by omega) (⟨by omega, any_take_step (d := []) (by omega) hi2 (row_neq (by omega) hr1 hi7 (by assumption))⟩) (pc 5 rfl pn) (pc 0 rfl (pc 1 rfl pn)) (List.Sublist.refl _)))
 ·skip
  refine kc_exit (kq_code (kc_seq (kc_region (kl_as rfl (kl_nil (kq_code (kc_ret (kq_retP rfl rfl (congrArg Value.bool ?_)))))))))
  rw [List.take_of_length_le (by omega)] at *; exact (by assumption : rows.any (fun r => decide (r = x)) = false).symm
theorem satisfies_ok {Hcv : Hp} {vcv : Value} {Hca : Hp} {vca : Value} {Hcr : Hp} {vcr : Value} {Hx : Hp} {vx : Value} (c : Con) (x : List Int) (hs : SatOk c x) (hcv : Ints Hcv vcv c.vars) (hca : Ints Hca vca c.args) (hcr : Rows Hcr vcr c.rows) (hx : Ints Hx vx x) : SpecP Tryz.prog 201 [.agg #[.int .i64 c.kind, vcv, vca, .int .i64 c.bound, vcr], vx] [Hcv, Hca, Hcr, Hx] (.bool (satB c x)) := by
 have h4 := hs.four
 have h1 := hs.one
 refine spec_of Tryz.func201 rfl rfl rfl (fun B => ?_)
 refine kc_seq (kc_region (kl_box rfl rfl (fun p1 H2 f3 a4 => ?_)))
 refine kl_as rfl (kl_nil (kq_code (kc_seq (kc_seq (kc_region (kl_fd rfl (by assumption) (fun p5 a6 => ?_)))))))
 refine kl_ld rfl (by assumption) (kl_nil (kq_code (kc_block (kc_seq (kc_region (kl_eql rfl rfl ?_))))))
 refine kl_as rfl (kl_nil (kq_code (kc_if rfl (fun c7 => ?_) (fun c7 => ?_))))
 ·skip
  have hk := hs.k1 c7
  refine kc_seq (kc_region (kl_as rfl (kl_nil (kq_code (kc_seq (kc_seq (kc_region (kl_as rfl (kl_nil (kq_code (kc_block (kc_loop0 (A := Nat × Int) (fun zz => (zz.1 ≤ x.length) ∧ (zz.2 = dotTo c.args x zz.1)) (fun zz => x.length - zz.1) (fun zz => [(6, .int .i64 (zz.1 : Int)), (5, .int .i64 zz.2)]) (0, (0 : Int)) (pc 1 rfl (pc 2 rfl (pc 4 rfl pn))) (pc 6 rfl (pc 5 rfl pn)) ⟨Nat.zero_le _, rfl⟩ ?_))))))))))))
  rintro ⟨k, s⟩ hJ10
  obtain ⟨hk8, hi9⟩ : (k ≤ x.length) ∧ (s = dotTo c.args x k) := hJ10
  change KC _ _ (_) _ _ ([(6, .int .i64 (k : Int)), (5, .int .i64 s)] ++ _)
  refine kc_seq (kc_seq (kc_region (kl_mv rfl (kl_mv rfl (kl_len rfl (by assumption) (fun l11 => ?_))))))
  refine kl_lss rfl rfl ?_
  refine kl_nil (kq_code (kc_if rfl (fun c12 => ?_) (fun c12 => ?_)))
  ·skip
   try (
    have ha1 := hk.2.at (k := k) (by omega)
    have hx1 := hs.val.at (k := k) (by omega)
    have h3 := prod_le ha1 hx1
    have h5 := dot_le hk.2 hs.val k (by omega) (by omega))
   refine kc_skipQ (kq_code (kc_seq (kc_block (kc_draw 13 [true, true, true, true, true, true, true, true, true, true, true, true, true] (by kernel_rfl) (by kernel_rfl) ?_))))
   refine kl_mv rfl (kl_fd rfl (by assumption) (fun p13 a14 => ?_))
   refine kl_ld rfl (by assumption) (kl_mv rfl (kl_inI rfl rfl (by assumption) (by omega) (fun p15 a16 => ?_)))
   refine kl_ld rfl (by assumption) (kl_mv rfl (kl_mv rfl (kl_inI rfl rfl (by assumption) (by omega) (fun p17 a18 => ?_))))
   refine kl_ld rfl (by assumption) (kl_mul rfl rfl (by omega) ?_)
   refine kl_add rfl rfl (by omega) ?_
   refine kl_as rfl (kl_nil (kq_code (kc_region (kl_mv rfl (kl_inc rfl rfl (by omega) ?_)))))
   refine kl_as rfl (kl_nil (kq_round0 ((k + 1), (s + ((c.args.getD k 0) * (x.getD k 0)))) (by omega) (⟨by omega, (by rw [dot_succ, ← hi9])⟩) (pc 6 rfl (pc 5 rfl pn)) (pc 1 rfl (pc 2 rfl (pc 4 rfl pn))) (List.Sublist.refl _)))
  ·skip
   refine kc_exit (kq_code (kc_seq (kc_region (kl_mv rfl (kl_fd rfl (by assumption) (fun p19 a20 => ?_))))))
   refine kl_ld rfl (by assumption) (kl_leq rfl rfl ?_)
   refine kl_as rfl (kl_nil (kq_code (kc_ret (kq_retP rfl rfl (congrArg Value.bool ?_)))))
   rw [sat_1 (by assumption), hi9, show k = x.length from by omega]
 ·skip
  refine kc_seq (kc_region (kl_eql rfl rfl ?_))
  refine kl_as rfl (kl_nil (kq_code (kc_if rfl (fun c21 => ?_) (fun c21 => ?_))))
  ·skip
   have hk := hs.k2 c21
   have hk1 := hs.val.at (k := 1) (by omega)
   have hk2 := hk.2.2.at (k := 0) (by omega)
   refine kc_seq (kc_draw 13 [true, true, true, true, true, true, true, true, true, true, true, true, true] (by kernel_rfl) (by kernel_rfl) ?_)
   refine kl_mv rfl (kl_inI (i := 0) rfl rfl (by assumption) (by omega) (fun p22 a23 => ?_))
   refine kl_ld rfl (by assumption) (kl_mv rfl (kl_inI (i := 1) rfl rfl (by assumption) (by omega) (fun p24 a25 => ?_)))
   refine kl_ld rfl (by assumption) (kl_fd rfl (by assumption) (fun p26 a27 => ?_))
   refine kl_ld rfl (by assumption) (kl_inI (i := 0) rfl rfl (by assumption) (by omega) (fun p28 a29 => ?_))
   refine kl_ld rfl (by assumption) (kl_add rfl rfl (by omega) ?_)
   refine kl_neq rfl rfl ?_
   refine kl_as rfl (kl_nil (kq_code (kc_ret (kq_retP rfl rfl (congrArg Value.bool ?_)))))
   rw [sat_2 (by assumption)]
  ·skip
   refine kc_seq (kc_region (kl_eql rfl rfl ?_))
   refine kl_as rfl (kl_nil (kq_code (kc_if rfl (fun c30 => ?_) (fun c30 => ?_))))
   ·skip
    refine kc_seq (kc_region (kl_mv rfl (kl_callP rfl rfl (sdistinct_ok x (by assumption)) ?_)))
    refine kl_as rfl (kl_nil (kq_code (kc_ret (kq_retP rfl rfl (congrArg Value.bool ?_)))))
    rw [sat_3 (by assumption)]
   ·skip
    refine kc_seq (kc_region (kl_eql rfl rfl ?_))
    refine kl_as rfl (kl_nil (kq_code (kc_if rfl (fun c31 => ?_) (fun c31 => ?_))))
    ·skip
     have hk := hs.k4 c31
     have hk1 := hs.val.at (k := 0) (by omega)
     refine kc_seq (kc_draw 21 [true, true, true, true, true, true, true, true, true, true, true, true, true, true, true, true, true, true, true, true, true] (by kernel_rfl) (by kernel_rfl) ?_)
     refine kl_mv rfl (kl_inI (i := 0) rfl rfl (by assumption) (by omega) (fun p32 a33 => ?_))
     refine kl_ld rfl (by assumption) (kl_fd rfl (by assumption) (fun p34 a35 => ?_))
     refine kl_ld rfl (by assumption) (kl_len rfl (by assumption) (fun l36 => ?_))
     refine kl_lss rfl rfl ?_
     refine kl_mv rfl (kl_join 12 74 (.bool (decide ((x.getD 0 0) < (c.args.length : Int)) && decide ((c.args.getD (x.getD 0 0).toNat 0) = (x.getD 1 0)))) (pc 1 rfl (pc 4 rfl (pc 62 rfl pn))) (fun J46 => ?_) ?_)
     ·rcases Bool.eq_false_or_eq_true (decide ((x.getD 0 0) < (c.args.length : Int))) with g37 | g37
      ·skip
       have g37p := of_decide_eq_true g37
       refine kl_gT rfl rfl g37 (kl_fd rfl (by assumption) (fun p38 a39 => ?_))
       refine kl_gT rfl rfl g37 (kl_ld rfl (by assumption) (kl_gT rfl rfl g37 (kl_mv rfl (kl_gT rfl rfl g37 (kl_inI (i := 0) rfl rfl (by assumption) (by omega) (fun p40 a41 => ?_))))))
       refine kl_gT rfl rfl g37 (kl_ld rfl (by assumption) (kl_gT rfl rfl g37 (kl_ixI rfl rfl (by assumption) (by omega) (by omega) (fun p42 a43 => ?_))))
       refine kl_gT rfl rfl g37 (kl_ld rfl (by assumption) (kl_gT rfl rfl g37 (kl_mv rfl (kl_gT rfl rfl g37 (kl_inI (i := 1) rfl rfl (by assumption) (by omega) (fun p44 a45 => ?_))))))
       refine kl_gT rfl rfl g37 (kl_ld rfl (by assumption) (kl_gT rfl rfl g37 (kl_eql rfl rfl ?_)))
       refine kl_andT rfl rfl g37 ?_
       exact J46 _ (pc 74 rfl (pc 1 rfl (pc 4 rfl (pc 62 rfl pn))))
      ·skip
       refine kl_gF rfl rfl g37 (kl_gF rfl rfl g37 (kl_gF rfl rfl g37 (kl_gF rfl rfl g37 (kl_gF rfl rfl g37 (kl_gF rfl rfl g37 (kl_gF rfl rfl g37 (kl_gF rfl rfl g37 (kl_gF rfl rfl g37 ?_))))))))
       refine kl_gF rfl rfl g37 (kl_gF rfl rfl g37 (kl_andF (decide ((c.args.getD (x.getD 0 0).toNat 0) = (x.getD 1 0))) rfl rfl g37 ?_))
       exact J46 _ (pc 74 rfl (pc 1 rfl (pc 4 rfl (pc 62 rfl pn))))
     refine kl_as rfl (kl_nil (kq_code (kc_ret (kq_retP rfl rfl (congrArg Value.bool ?_)))))
     rw [sat_4 (by assumption)]
    ·skip
     refine kc_seq (kc_region (kl_eql rfl rfl ?_))
     refine kl_as rfl (kl_nil (kq_code (kc_if rfl (fun c47 => ?_) (fun c47 => ?_))))
     ·skip
      have hk := hs.k5 c47
      refine kc_seq (kc_region (kl_fd rfl (by assumption) (fun p48 a49 => ?_)))
      refine kl_ld rfl (by assumption) (kl_mv rfl (kl_callP rfl rfl (hasRow_ok c.rows x hk (by assumption) (by assumption)) ?_))
      refine kl_as rfl (kl_nil (kq_code (kc_ret (kq_retP rfl rfl (congrArg Value.bool ?_)))))
      rw [sat_5 (by assumption)]
     ·skip
      refine kc_seq (kc_region (kl_eql rfl rfl ?_))
      refine kl_as rfl (kl_nil (kq_code (kc_if rfl (fun c50 => ?_) (fun c50 => ?_))))
      ·skip
       have hk := hs.k6 c50
       refine kc_seq (kc_region (kl_as rfl (kl_nil (kq_code (kc_seq (kc_seq (kc_region (kl_as rfl (kl_nil (kq_code (kc_block (kc_loop0 (A := Nat × Int) (fun zz => (zz.1 ≤ x.length) ∧ (zz.2 = cntTo x (c.args.getD 0 0) zz.1)) (fun zz => x.length - zz.1) (fun zz => [(8, .int .i64 (zz.1 : Int)), (7, .int .i64 zz.2)]) (0, (0 : Int)) (pc 1 rfl (pc 2 rfl (pc 4 rfl pn))) (pc 8 rfl (pc 7 rfl pn)) ⟨Nat.zero_le _, rfl⟩ ?_))))))))))))
       rintro ⟨k, s⟩ hJ53
       obtain ⟨hk51, hi52⟩ : (k ≤ x.length) ∧ (s = cntTo x (c.args.getD 0 0) k) := hJ53
       change KC _ _ (_) _ _ ([(8, .int .i64 (k : Int)), (7, .int .i64 s)] ++ _)
       have hcl := cnt_le x (c.args.getD 0 0) k
       refine kc_seq (kc_seq (kc_region (kl_mv rfl (kl_mv rfl (kl_len rfl (by assumption) (fun l54 => ?_))))))
       refine kl_lss rfl rfl ?_
       refine kl_nil (kq_code (kc_if rfl (fun c55 => ?_) (fun c55 => ?_)))
       ·skip
        try (
         have ha1 := hk.2.at (k := k) (by omega)
         have hx1 := hs.val.at (k := k) (by omega)
         have h3 := prod_le ha1 hx1
         have h5 := dot_le hk.2 hs.val k (by omega) (by omega))
        refine kc_skipQ (kq_code (kc_seq (kc_block (kc_seq (kc_draw 9 [true, true, true, true, true, true, true, true, true] (by kernel_rfl) (by kernel_rfl) ?_)))))
        refine kl_mv rfl (kl_mv rfl (kl_inI rfl rfl (by assumption) (by omega) (fun p56 a57 => ?_)))
        refine kl_ld rfl (by assumption) (kl_fd rfl (by assumption) (fun p58 a59 => ?_))
        refine kl_ld rfl (by assumption) (kl_inI (i := 0) rfl rfl (by assumption) (by omega) (fun p60 a61 => ?_))
        refine kl_ld rfl (by assumption) (kl_eql rfl rfl ?_)
        refine kl_nil (kq_code (kc_if rfl (fun c62 => ?_) (fun c62 => ?_)))
        ·skip
         refine kc_region (kl_mv rfl (kl_add rfl rfl (by omega) ?_))
         refine kl_as rfl (kl_nil (kq_code (kc_region (kl_mv rfl (kl_inc rfl rfl (by omega) ?_)))))
         refine kl_as rfl (kl_nil (kq_round0 ((k + 1), (s + (1 : Int))) (by omega) (⟨by omega, (by first | exact cnt_stepT hi52 (by omega) (by assumption) | exact cnt_stepF hi52 (by omega) (by assumption))⟩) (pc 8 rfl (pc 7 rfl pn)) (pc 1 rfl (pc 2 rfl (pc 4 rfl pn))) (List.Sublist.refl _)))
        ·skip
         refine kc_skipQ (kq_code (kc_region (kl_mv rfl (kl_inc rfl rfl (by omega) ?_))))
         refine kl_as rfl (kl_nil (kq_round0 ((k + 1), s) (by omega) (⟨by omega, (by first | exact cnt_stepT hi52 (by omega) (by assumption) | exact cnt_stepF hi52 (by omega) (by assumption))⟩) (pc 8 rfl (pc 7 rfl pn)) (pc 1 rfl (pc 2 rfl (pc 4 rfl pn))) (List.Sublist.refl _)))
       ·skip
        refine kc_exit (kq_code (kc_seq (kc_region (kl_mv rfl (kl_fd rfl (by assumption) (fun p63 a64 => ?_))))))
        refine kl_ld rfl (by assumption) (kl_eql rfl rfl ?_)
        refine kl_as rfl (kl_nil (kq_code (kc_ret (kq_retP rfl rfl (congrArg Value.bool ?_)))))
        rw [sat_6 (by assumption), hi52, show k = x.length from by omega]
      ·skip
       refine kc_seq (kc_region (kl_eql rfl rfl ?_))
       refine kl_as rfl (kl_nil (kq_code (kc_if rfl (fun c65 => ?_) (fun c65 => ?_))))
       ·skip
        refine kc_seq (kc_region (kl_ldS rfl (by assumption) rfl ?_))
        refine kl_mv rfl (kl_callP rfl rfl (capacity_ok c x hs (by assumption) (by assumption) (by assumption) (by assumption) (by assumption)) ?_)
        refine kl_as rfl (kl_nil (kq_code (kc_ret (kq_retP rfl rfl (congrArg Value.bool ?_)))))
        rw [sat_7 (by assumption)]
       ·skip
        refine kc_seq (kc_region (kl_eql rfl rfl ?_))
        refine kl_as rfl (kl_nil (kq_code (kc_if rfl (fun c66 => ?_) (fun c66 => ?_))))
        ·skip
         refine kc_seq (kc_region (kl_ldS rfl (by assumption) rfl ?_))
         refine kl_mv rfl (kl_callP rfl rfl (saccepts_ok c x hs (by assumption) (by assumption) (by assumption) (by assumption) (by assumption)) ?_)
         refine kl_as rfl (kl_nil (kq_code (kc_ret (kq_retP rfl rfl (congrArg Value.bool ?_)))))
         rw [sat_8 (by assumption)]
        ·skip
         refine kc_skipQ (kq_code (kc_seq (kc_region (kl_mv rfl (kl_callP rfl rfl (circuit_ok x hs.one hs.val (by assumption)) ?_)))))
         refine kl_as rfl (kl_nil (kq_code (kc_ret (kq_retP rfl rfl (congrArg Value.bool ?_)))))
         rw [sat_9 (by assumption) (by assumption) (by assumption) (by assumption) (by assumption) (by assumption) (by assumption) (by assumption)]
theorem validObjective_ok {Hmd : Hp} {vmd : Value} {Hmc : Hp} {vmc : Value} {Hobj : Hp} {vobj : Value} (m : Mod) (obj : List Int) (hmd : Ints Hmd vmd m.doms) (hmc : Cons Hmc vmc m.cons) (hobj : Ints Hobj vobj obj) : SpecP Tryz.prog 36 [.agg #[vmd, vmc], vobj] [Hmd, Hmc, Hobj] (.bool (objOkS m obj)) := by
 refine spec_of Tryz.func36 rfl rfl rfl (fun B => ?_)
 refine kc_seq (kc_region (kl_box rfl rfl (fun p1 H2 f3 a4 => ?_)))
 refine kl_as rfl (kl_nil (kq_code (kc_seq (kc_region (kl_mv rfl (kl_len rfl (by assumption) (fun l5 => ?_)))))))
 refine kl_fd rfl (by assumption) (fun p6 a7 => ?_)
 refine kl_ld rfl (by assumption) (kl_len rfl (by assumption) (fun l8 => ?_))
 refine kl_eql rfl rfl ?_
 refine kl_mv rfl (kl_join 3 14 (.bool (decide ((obj.length : Int) = (m.doms.length : Int)) && (allInB obj (-9 : Int) (9 : Int)))) (pc 4 rfl (pc 11 rfl pn)) (fun J10 => ?_) ?_)
 ·rcases Bool.eq_false_or_eq_true (decide ((obj.length : Int) = (m.doms.length : Int))) with g9 | g9
  ·skip
   have g9p := of_decide_eq_true g9
   refine kl_gT rfl rfl g9 (kl_mv rfl (kl_gT rfl rfl g9 (kl_callP rfl rfl (allInRange_ok obj (-9 : Int) (9 : Int) (by assumption)) ?_)))
   refine kl_andT rfl rfl g9 ?_
   exact J10 _ (pc 14 rfl (pc 4 rfl (pc 11 rfl pn)))
  ·skip
   refine kl_gF rfl rfl g9 (kl_gF rfl rfl g9 (kl_andF (allInB obj (-9 : Int) (9 : Int)) rfl rfl g9 ?_))
   exact J10 _ (pc 14 rfl (pc 4 rfl (pc 11 rfl pn)))
 refine kl_as rfl (kl_nil (kq_code (kc_ret (kq_retP rfl rfl (congrArg Value.bool ?_)))))
 rfl
theorem sequal_ok {Ha : Hp} {va : Value} {Hb : Hp} {vb : Value} (a : List Int) (b : List Int) (ha : Ints Ha va a) (hb : Ints Hb vb b) : SpecP Tryz.prog 174 [va, vb] [Ha, Hb] (.bool (decide (a = b))) := by
 refine spec_of Tryz.func174 rfl rfl rfl (fun B => ?_)
 refine kc_seq (kc_region (kl_as rfl (kl_nil (kq_code (kc_seq (kc_seq (kc_region (kl_mv rfl (kl_len rfl (by assumption) (fun l1 => ?_))))))))))
 refine kl_mv rfl (kl_len rfl (by assumption) (fun l2 => ?_))
 refine kl_neq rfl rfl ?_
 refine kl_nil (kq_code (kc_if rfl (fun c3 => ?_) (fun c3 => ?_)))
 ·skip
  refine kc_seq (kc_region (kl_as rfl (kl_nil (kq_code (kc_ret (kq_retP rfl rfl (congrArg Value.bool ?_)))))))
  exact eq_len (by assumption)
 ·skip
  refine kc_skipQ (kq_code (kc_seq (kc_seq (kc_region (kl_as rfl (kl_nil (kq_code (kc_block (kc_loop0 (A := Nat) (fun zz => (zz ≤ a.length) ∧ (a.take zz = b.take zz)) (fun zz => a.length - zz) (fun zz => [(5, .int .i64 (zz : Int))]) (0) (pc 0 rfl (pc 1 rfl pn)) (pc 5 rfl pn) ⟨Nat.zero_le _, by simp⟩ ?_)))))))))
  rintro k hJ6
  obtain ⟨hk4, hi5⟩ : (k ≤ a.length) ∧ (a.take k = b.take k) := hJ6
  change KC _ _ (_) _ _ ([(5, .int .i64 (k : Int))] ++ _)
  refine kc_seq (kc_seq (kc_region (kl_mv rfl (kl_mv rfl (kl_len rfl (by assumption) (fun l7 => ?_))))))
  refine kl_lss rfl rfl ?_
  refine kl_nil (kq_code (kc_if rfl (fun c8 => ?_) (fun c8 => ?_)))
  ·skip
   refine kc_skipQ (kq_code (kc_seq (kc_block (kc_seq (kc_draw 9 [true, true, true, true, true, true, true, true, true] (by kernel_rfl) (by kernel_rfl) ?_)))))
   refine kl_mv rfl (kl_mv rfl (kl_inI rfl rfl (by assumption) (by omega) (fun p9 a10 => ?_)))
   refine kl_ld rfl (by assumption) (kl_mv rfl (kl_mv rfl (kl_inI rfl rfl (by assumption) (by omega) (fun p11 a12 => ?_))))
   refine kl_ld rfl (by assumption) (kl_neq rfl rfl ?_)
   refine kl_nil (kq_code (kc_if rfl (fun c13 => ?_) (fun c13 => ?_)))
   ·skip
    refine kc_seq (kc_region (kl_as rfl (kl_nil (kq_code (kc_ret (kq_retP rfl rfl (congrArg Value.bool ?_)))))))
    exact eq_at (k := k) 0 (by simpa using by assumption)
   ·skip
    refine kc_skipQ (kq_code (kc_region (kl_mv rfl (kl_inc rfl rfl (by omega) ?_))))
    refine kl_as rfl (kl_nil (kq_round0 ((k + 1)) (by omega) (⟨by omega, eq_step 0 (by omega) (by omega) hi5 (by first | exact Decidable.not_not.1 (by assumption) | (simpa using by assumption))⟩) (pc 5 rfl pn) (pc 0 rfl (pc 1 rfl pn)) (List.Sublist.refl _)))
  ·skip
   refine kc_exit (kq_code (kc_seq (kc_region (kl_as rfl (kl_nil (kq_code (kc_ret (kq_retP rfl rfl (congrArg Value.bool ?_)))))))))
   exact eq_end (k := k) (by omega) (by omega) (by assumption)
abbrev walkSt (k : Nat) : Prop := ∀ {He Hcv Hca Hcr Hd Hx Hs : Hp} {pe vcv vca vcr vd vx vs : Value} (c : Con) (ds x p s : List Int) (T : List (List Int)) (i : Nat) (hC : ConOk c ds.length) (hd : DomV ds) (hk : i + k = c.vars.length) (hx : x.length = c.vars.length) (hp : x.take i = p) (hv : Vals p) (hs : s = suppV c T)
  (hcv : Ints Hcv vcv c.vars) (hca : Ints Hca vca c.args) (hcr : Rows Hcr vcr c.rows) (hds : Ints Hd vd ds) (ae : At He pe [.int .i64 c.kind, vcv, vca, .int .i64 c.bound, vcr, vd, vx, vs]) (ox : OwnL 3 1 Hx noHp IntV vx x) (os : OwnL 3 1 Hs noHp IntV vs s),
  SpecT Tryz.prog 189 [pe, .int .i64 (i : Int)] [Hx, Hs] [He, Hcv, Hca, Hcr, Hd] (fun vq L1 Ln _ => vq = .tuple #[] ∧ Ln = [] ∧ ∃ (Hx2 Hs2 : Hp) (x2 : List Int), L1 = [Hx2, Hs2] ∧ OwnL 3 1 Hx2 noHp IntV vx x2 ∧ x2.length = c.vars.length ∧ x2.take i = p ∧ OwnL 3 1 Hs2 noHp IntV vs (suppV c (T ++ extP (wordL c.vars ds) i p)))
theorem walk_step (k : Nat) (ih : ∀ j, j < k → walkSt j) : walkSt k := by
 intro He Hcv Hca Hcr Hd Hx Hs pe vcv vca vcr vd vx vs c ds x p s T i hC hd hk hx hp hv hs hcv hca hcr hds ae ox os
 have ho := hC.one
 have hpl : p.length = i := (by rw [← hp, List.length_take]; omega)
 refine specT_of Tryz.func189 rfl rfl rfl (fun B => ?_)
 refine kc_seq (kc_seq (kc_region (kl_mv rfl (kl_mv rfl (kl_nilchkA rfl (by assumption) ?_)))))
 refine kl_fd rfl (by assumption) (fun p1 a2 => ?_)
 refine kl_ld rfl (by assumption) (kl_lenL rfl ox (fun l3 => ?_))
 refine kl_eql rfl rfl ?_
 refine kl_nil (kq_code (kc_if rfl (fun c4 => ?_) (fun c4 => ?_)))
 ·skip
  have hxp : x = p := (by rw [← hp, List.take_of_length_le (by omega)])
  have hS : SatOk c x := sat_of hC hx (hxp ▸ hv)
  refine kc_seq (kc_seq (kc_tree (fun i => ([8] : List Nat).contains i) [] (by kernel_rfl) ?_))
  refine kt_q 0 (List.nil_sublist _) rfl (by kernel_rfl) (kl_mv rfl (kl_nil (kq_q (kt_q 1 (List.nil_sublist _) rfl (by kernel_rfl) (kl_nilchkA rfl (by assumption) ?_)))))
  refine kl_nil (kq_q (kt_q 2 (List.nil_sublist _) rfl (by kernel_rfl) (kl_fd rfl (by assumption) (fun p5 a6 => ?_))))
  refine kl_nil (kq_q (kt_q 3 (List.nil_sublist _) rfl (by kernel_rfl) (kl_ldS rfl (At.take 5 (by assumption)) rfl ?_)))
  refine kl_nil (kq_q (kt_q 4 (List.nil_sublist _) rfl (by kernel_rfl) (kl_mv rfl (kl_nil (kq_q (kt_q 5 (List.nil_sublist _) rfl (by kernel_rfl) (kl_nilchkA rfl (by assumption) ?_)))))))
  refine kl_nil (kq_q (kt_q 6 (List.nil_sublist _) rfl (by kernel_rfl) (kl_fd rfl (by assumption) (fun p7 a8 => ?_))))
  refine kl_nil (kq_q (kt_q 7 (List.nil_sublist _) rfl (by kernel_rfl) (kl_ld rfl (by assumption) (kl_nil (kq_q (kt_a 8 rfl (by kernel_rfl) (kl_callP rfl rfl (satisfies_ok c x hS (by assumption) (by assumption) (by assumption) (OwnL.ints ox)) ?_)))))))
  refine kl_nil (kq_x rfl (kt_end (by kernel_rfl) ?_))
  refine kq_code (kc_cond rfl (fun c9 => ?_) (fun c9 => ?_))
  ·skip
   have c9r := c9
   try simp only [smpC, decide_eq_true_eq, decide_eq_false_iff_not] at c9
   refine kc_seq (kc_region (kl_as rfl (kl_nil (kq_code (kc_block (kc_loopL (A := Nat × List Int × Hp) (fun zz => (zz.1 ≤ x.length) ∧ (zz.2.1 = suppM c T x zz.1) ∧ OwnL 3 1 zz.2.2 noHp IntV vs zz.2.1) (fun zz => x.length - zz.1) (fun zz => [Hx, zz.2.2]) (fun zz => [(4, .int .i64 (zz.1 : Int))]) (0, s, Hs) (pc 0 rfl (pc 1 rfl pn)) (pc 4 rfl pn) rfl ⟨Nat.zero_le _, (by rw [hs, suppM_0]), os⟩ ?_))))))
   rintro ⟨k1, s1, H12⟩ hJ15
   obtain ⟨hk10, hi11, o13⟩ : (k1 ≤ x.length) ∧ (s1 = suppM c T x k1) ∧ OwnL 3 1 H12 noHp IntV vs s1 := hJ15
   change KC _ _ (_) [Hx, H12] _ ([(4, .int .i64 (k1 : Int))] ++ _)
   have hln : s1.length = c.vars.length := (by rw [hi11]; exact suppM_len c T x k1)
   refine kc_seq (kc_seq (kc_region (kl_mv rfl (kl_mv rfl (kl_nilchkA rfl (by assumption) ?_)))))
   refine kl_fd rfl (by assumption) (fun p16 a17 => ?_)
   refine kl_ld rfl (by assumption) (kl_lenL rfl ox (fun l18 => ?_))
   refine kl_lss rfl rfl ?_
   refine kl_nil (kq_code (kc_if rfl (fun c19 => ?_) (fun c19 => ?_)))
   ·skip
    have hv1 := hS.val.at (k := k1) (by omega)
    have hsl := shl_le hv1
    have hsb := supp_addle (c := c) (T := T) hS (by omega : k1 < x.length)
    rw [← hi11] at hsb
    refine kc_skipQ (kq_code (kc_seq (kc_block (kc_seq (kc_draw 16 [true, true, true, true, true, true, true, true, true, true, true, true, true, true, false, true] (by kernel_rfl) (by kernel_rfl) ?_)))))
    refine kl_mv rfl (kl_nilchkA rfl (by assumption) ?_)
    refine kl_fd rfl (by assumption) (fun p20 a21 => ?_)
    refine kl_ld rfl (by assumption) (kl_mv rfl (kl_ixLn rfl rfl (by assumption) (by omega) (fun p22 q23 => ?_)))
    refine kl_ldLI rfl (by assumption) (by assumption) (by omega) ?_
    refine kl_mv rfl (kl_nilchkA rfl (by assumption) ?_)
    refine kl_fd rfl (by assumption) (fun p24 a25 => ?_)
    refine kl_ld rfl (by assumption) (kl_mv rfl (kl_ixLn rfl rfl (by assumption) (by omega) (fun p26 q27 => ?_)))
    refine kl_ldLI rfl (by assumption) (by assumption) (by omega) ?_
    refine kl_callP rfl rfl (domainHas_ok (s1.getD k1 0) (x.getD k1 0)) ?_
    refine kl_not rfl (kl_nil (kq_code (kc_cond rfl (fun c28 => ?_) (fun c28 => ?_))))
    ·skip
     have c28r := c28
     try simp only [smpC, decide_eq_true_eq, decide_eq_false_iff_not] at c28
     refine kc_draw 22 [true, true, true, true, true, true, true, true, true, true, true, true, true, true, true, true, true, true, true, true, true, true, false] (by kernel_rfl) (by kernel_rfl) ?_
     refine kl_mv rfl (kl_nilchkA rfl (by assumption) ?_)
     refine kl_fd rfl (by assumption) (fun p29 a30 => ?_)
     refine kl_ld rfl (by assumption) (kl_mv rfl (kl_mv rfl (kl_nilchkA rfl (by assumption) ?_)))
     refine kl_fd rfl (by assumption) (fun p31 a32 => ?_)
     refine kl_ld rfl (by assumption) (kl_mv rfl (kl_ixLn rfl rfl (by assumption) (by omega) (fun p33 q34 => ?_)))
     refine kl_ldLI rfl (by assumption) (by assumption) (by omega) ?_
     refine kl_mv rfl (kl_nilchkA rfl (by assumption) ?_)
     refine kl_fd rfl (by assumption) (fun p35 a36 => ?_)
     refine kl_ld rfl (by assumption) (kl_mv rfl (kl_ixLn rfl rfl (by assumption) (by omega) (fun p37 q38 => ?_)))
     refine kl_ldLI rfl (by assumption) (by assumption) (by omega) ?_
     refine kl_shl rfl rfl (by omega) ?_
     refine kl_add rfl rfl (by omega) ?_
     refine kl_ixLn rfl rfl (by assumption) (by omega) (fun p39 q40 => ?_)
     refine kl_stL ((s1.getD k1 0) + (ishl (1 : Int) (x.getD k1 0))) rfl rfl (by assumption) o13 (by omega) rfl rfl rfl (fun H41 o42 f43 => ?_)
     refine kl_nil (kq_code (kc_region (kl_mv rfl (kl_inc rfl rfl (by omega) ?_))))
     refine kl_as rfl (kl_nil (kq_roundL ((k1 + 1), (s1.set k1 ((s1.getD k1 0) + (ishl (1 : Int) (x.getD k1 0)))), H41) (by omega) (⟨by omega, (by rw [hi11] at *; first | exact supp_stepS (by assumption) hS (by omega) (by assumption) | exact supp_stepN (by assumption) hS (by omega) (by assumption)), o42⟩) (pc 4 rfl pn) (pc 0 rfl (pc 1 rfl pn)) rfl (List.Sublist.refl _)))
    ·skip
     have c28r := c28
     try simp only [smpC, decide_eq_true_eq, decide_eq_false_iff_not] at c28
     refine kc_skipQ (kq_code (kc_region (kl_mv rfl (kl_inc rfl rfl (by omega) ?_))))
     refine kl_as rfl (kl_nil (kq_roundL ((k1 + 1), s1, H12) (by omega) (⟨by omega, (by rw [hi11] at *; first | exact supp_stepS (by assumption) hS (by omega) (by assumption) | exact supp_stepN (by assumption) hS (by omega) (by assumption)), o13⟩) (pc 4 rfl pn) (pc 0 rfl (pc 1 rfl pn)) rfl (List.Sublist.refl _)))
   ·skip
    refine kc_exit (kq_code (kc_ret ?_))
    exact kq_retT0 rfl [Hx, H12] [] noHp frn (fr_no _) ⟨rfl, rfl, Hx, H12, x, rfl, ox, hx, hp, OwnL.cast (by rw [extP_base (by simp [wordL]; omega), ← hxp]; exact supp_stepT hi11 hS (by omega)) o13⟩
  ·skip
   have c9r := c9
   try simp only [smpC, decide_eq_true_eq, decide_eq_false_iff_not] at c9
   refine kc_skipQ (kq_code (kc_ret ?_))
   exact kq_retT0 rfl [Hx, Hs] [] noHp frn (fr_no _) ⟨rfl, rfl, Hx, Hs, x, rfl, ox, hx, hp, OwnL.cast (by rw [extP_base (by simp [wordL]; omega), ← hxp, suppV_no (by assumption)]; exact hs) os⟩
 ·skip
  refine kc_skipQ (kq_code (kc_seq (kc_region (kl_as rfl (kl_nil (kq_code (kc_block (kc_loopL (A := Nat × List Int × Hp × List Int × Hp) (fun zz => (zz.1 ≤ 6) ∧ (zz.2.1.length = c.vars.length ∧ zz.2.1.take i = p ∧ zz.2.2.2.1 = suppV c (T ++ extTo (wordL c.vars ds) i p zz.1)) ∧ OwnL 3 1 zz.2.2.1 noHp IntV vx zz.2.1 ∧ OwnL 3 1 zz.2.2.2.2 noHp IntV vs zz.2.2.2.1) (fun zz => 6 - zz.1) (fun zz => [zz.2.2.1, zz.2.2.2.2]) (fun zz => [(5, .int .i64 (zz.1 : Int))]) (0, x, Hx, s, Hs) (pc 0 rfl (pc 1 rfl pn)) (pc 5 rfl pn) rfl ⟨Nat.zero_le _, ⟨hx, hp, by rw [extTo_0, List.append_nil]; exact hs⟩, ox, os⟩ ?_))))))))
  rintro ⟨v, x1, H47, s1, H50⟩ hJ53
  obtain ⟨hk45, hi46, o48, o51⟩ : (v ≤ 6) ∧ (x1.length = c.vars.length ∧ x1.take i = p ∧ s1 = suppV c (T ++ extTo (wordL c.vars ds) i p v)) ∧ OwnL 3 1 H47 noHp IntV vx x1 ∧ OwnL 3 1 H50 noHp IntV vs s1 := hJ53
  change KC _ _ (_) [H47, H50] _ ([(5, .int .i64 (v : Int))] ++ _)
  refine kc_seq (kc_seq (kc_region (kl_mv rfl (kl_leq rfl rfl ?_))))
  refine kl_nil (kq_code (kc_if rfl (fun c54 => ?_) (fun c54 => ?_)))
  ·skip
   have hv2 := hC.at (k := i) (by omega)
   refine kc_skipQ (kq_code (kc_seq (kc_block (kc_seq (kc_tree (fun i => ([15] : List Nat).contains i) [] (by kernel_rfl) ?_)))))
   refine kt_q 0 (List.nil_sublist _) rfl (by kernel_rfl) (kl_mv rfl (kl_nil (kq_q (kt_q 1 (List.nil_sublist _) rfl (by kernel_rfl) (kl_nilchkA rfl (by assumption) ?_)))))
   refine kl_nil (kq_q (kt_q 2 (List.nil_sublist _) rfl (by kernel_rfl) (kl_fd rfl (by assumption) (fun p55 a56 => ?_))))
   refine kl_nil (kq_q (kt_q 3 (List.nil_sublist _) rfl (by kernel_rfl) (kl_ld rfl (by assumption) (kl_nil (kq_q (kt_q 4 (List.nil_sublist _) rfl (by kernel_rfl) (kl_mv rfl (kl_nil (kq_q (kt_q 5 (List.nil_sublist _) rfl (by kernel_rfl) (kl_nilchkA rfl (by assumption) ?_)))))))))))
   refine kl_nil (kq_q (kt_q 6 (List.nil_sublist _) rfl (by kernel_rfl) (kl_fd rfl (by assumption) (fun p57 a58 => ?_))))
   refine kl_nil (kq_q (kt_q 7 (List.nil_sublist _) rfl (by kernel_rfl) (kl_fd rfl (by assumption) (fun p59 a60 => ?_))))
   refine kl_nil (kq_q (kt_q 8 (List.nil_sublist _) rfl (by kernel_rfl) (kl_ld rfl (by assumption) (kl_nil (kq_q (kt_q 9 (List.nil_sublist _) rfl (by kernel_rfl) (kl_mv rfl (kl_nil (kq_q (kt_q 10 (List.nil_sublist _) rfl (by kernel_rfl) (kl_inI rfl rfl (by assumption) (by omega) (fun p61 a62 => ?_))))))))))))
   refine kl_nil (kq_q (kt_q 11 (List.nil_sublist _) rfl (by kernel_rfl) (kl_ld rfl (by assumption) (kl_nil (kq_q (kt_q 12 (List.nil_sublist _) rfl (by kernel_rfl) (kl_ixI rfl rfl (by assumption) (by omega) (by omega) (fun p63 a64 => ?_))))))))
   refine kl_nil (kq_q (kt_q 13 (List.nil_sublist _) rfl (by kernel_rfl) (kl_ld rfl (by assumption) (kl_nil (kq_q (kt_q 14 (List.nil_sublist _) rfl (by kernel_rfl) (kl_mv rfl (kl_nil (kq_q (kt_a 15 rfl (by kernel_rfl) (kl_callP rfl rfl (domainHas_ok (ds.getD (c.vars.getD i 0).toNat 0) (v : Int)) ?_)))))))))))
   refine kl_nil (kq_x rfl (kt_end (by kernel_rfl) ?_))
   refine kq_code (kc_cond rfl (fun c65 => ?_) (fun c65 => ?_))
   ·skip
    have c65r := c65
    try simp only [smpC, decide_eq_true_eq, decide_eq_false_iff_not] at c65
    have hb1 : hasB ((wordL c.vars ds).getD i 0) (v : Int) = true := (by rw [word_at (by omega), ← dh_iff (by omega : v < 6)]; exact c65r)
    refine kc_seq (kc_region (kl_mv rfl (kl_nilchkA rfl (by assumption) ?_)))
    refine kl_fd rfl (by assumption) (fun p66 a67 => ?_)
    refine kl_ld rfl (by assumption) (kl_mv rfl (kl_mv rfl (kl_ixLn rfl rfl (by assumption) (by omega) (fun p68 q69 => ?_))))
    refine kl_stL (v : Int) rfl rfl (by assumption) o48 (by omega) rfl rfl rfl (fun H70 o71 f72 => ?_)
    refine kl_nil (kq_code (kc_region (kl_mv rfl (kl_mv rfl (kl_inc rfl rfl (by omega) ?_)))))
    refine kl_callT (vs := [_, .int .i64 (((i + 1) : Nat) : Int)]) rfl rfl (ih (k - 1) (by omega) c ds (x1.set i (v : Int)) (p ++ [(v : Int)]) s1 (T ++ extTo (wordL c.vars ds) i p v) (i + 1) hC hd (by omega) (by rw [List.length_set]; exact hi46.1) (take_set_succ hi46.2.1 (by omega)) (hv.snoc (by omega)) hi46.2.2 hcv hca hcr hds ae o71 o51) (fun v74 L1 Ln K75 h76 g77 g78 => ?_)
    obtain ⟨rfl, rfl, H79, H80, x81, rfl, o82, h83, h84, o85⟩ := h76
    refine kl_norm ?_
    refine kl_nil (kq_code (kc_region (kl_mv rfl (kl_inc rfl rfl (by omega) ?_))))
    refine kl_as rfl (kl_nil (kq_roundL ((v + 1), x81, H79, (suppV c ((T ++ extTo (wordL c.vars ds) i p v) ++ extP (wordL c.vars ds) (i + 1) (p ++ [(v : Int)]))), H80) (by omega) (⟨by omega, ⟨h83, take_of_succ h84 hpl, (by rw [← extTo_T hb1, List.append_assoc])⟩, o82, o85⟩) (pc 5 rfl pn) (pc 0 rfl (pc 1 rfl pn)) rfl (List.Sublist.refl _)))
   ·skip
    have c65r := c65
    try simp only [smpC, decide_eq_true_eq, decide_eq_false_iff_not] at c65
    have hb1 : hasB ((wordL c.vars ds).getD i 0) (v : Int) = false := (by rw [word_at (by omega), ← dh_iff (by omega : v < 6)]; exact c65r)
    refine kc_skipQ (kq_code (kc_region (kl_mv rfl (kl_inc rfl rfl (by omega) ?_))))
    refine kl_as rfl (kl_nil (kq_roundL ((v + 1), x1, H47, s1, H50) (by omega) (⟨by omega, ⟨hi46.1, hi46.2.1, (by rw [hi46.2.2, extTo_F hb1])⟩, o48, o51⟩) (pc 5 rfl pn) (pc 0 rfl (pc 1 rfl pn)) rfl (List.Sublist.refl _)))
  ·skip
   refine kc_exit ?_
   exact kq_retT0 rfl [H47, H50] [] noHp frn (fr_no _) ⟨rfl, rfl, H47, H50, x1, rfl, o48, hi46.1, hi46.2.1, OwnL.cast (by rw [hi46.2.2, extTo_6 (by simp [wordL]; omega) (by omega)]) o51⟩
theorem walk_ok (k : Nat) : walkSt k := by
 induction k using Nat.strongRecOn with
 | _ k ih => exact @walk_step k ih
theorem supported_ok {Hcv : Hp} {vcv : Value} {Hca : Hp} {vca : Value} {Hcr : Hp} {vcr : Value} {Hds : Hp} {vds : Value} (c : Con) (ds : List Int) (hC : ConOk c ds.length) (hd : DomV ds) (hcv : Ints Hcv vcv c.vars) (hca : Ints Hca vca c.args) (hcr : Rows Hcr vcr c.rows) (hds : Ints Hds vds ds) : Spec Tryz.prog 164 [.agg #[.int .i64 c.kind, vcv, vca, .int .i64 c.bound, vcr], vds] [Hcv, Hca, Hcr, Hds] (fun Hq vq => Ints Hq vq (filtL c ds)) := by
 have ho := hC.one
 refine spec_of Tryz.func164 rfl rfl rfl (fun B => ?_)
 refine kc_seq (kc_region (kl_box rfl rfl (fun p1 H2 f3 a4 => ?_)))
 refine kl_as rfl (kl_nil (kq_code (kc_seq (kc_tree (fun i => ([10, 11] : List Nat).contains i) [] (by kernel_rfl) ?_))))
 refine kt_q 0 (List.nil_sublist _) rfl (by kernel_rfl) (kl_ldS rfl (by assumption) rfl ?_)
 refine kl_nil (kq_q (kt_q 1 (List.nil_sublist _) rfl (by kernel_rfl) (kl_mv rfl (kl_nil (kq_q (kt_q 2 (List.nil_sublist _) rfl (by kernel_rfl) (kl_fd rfl (by assumption) (fun p5 a6 => ?_))))))))
 refine kl_nil (kq_q (kt_q 3 (List.nil_sublist _) rfl (by kernel_rfl) (kl_ld rfl (by assumption) (kl_nil (kq_q (kt_q 4 (List.nil_sublist _) rfl (by kernel_rfl) (kl_len rfl (by assumption) (fun l7 => ?_))))))))
 refine kl_nil (kq_q (kt_q 6 (List.nil_sublist _) rfl (by kernel_rfl) (kl_fd rfl (by assumption) (fun p8 a9 => ?_))))
 refine kl_nil (kq_q (kt_q 7 (List.nil_sublist _) rfl (by kernel_rfl) (kl_ld rfl (by assumption) (kl_nil (kq_q (kt_q 8 (List.nil_sublist _) rfl (by kernel_rfl) (kl_len rfl (by assumption) (fun l10 => ?_))))))))
 refine kl_nil (kq_q (kt_b 5 9 rfl rfl (by kernel_rfl) ?_ ?_))
 ·skip
  refine kl_mkL (R := IntV) (0 : Int) rfl rfl (by omega) (by decide) (by exact rfl) (fun v11 H12 f13 o14 => ?_)
  refine kl_nil (kq_a (List.nil_sublist _) (kt_a 9 rfl (by kernel_rfl) (kl_mkL (R := IntV) (0 : Int) rfl rfl (by omega) (by decide) (by exact rfl) (fun v15 H16 f17 o18 => ?_))))
  refine kl_nil (kq_a (List.nil_sublist _) (kt_a 10 rfl (by kernel_rfl) (kl_bdA [(0, [.int .i64 c.kind, vcv, vca, .int .i64 c.bound, vcr]), (1, [vds]), (2, [v11]), (3, [v15])] [.int .i64 c.kind, vcv, vca, .int .i64 c.bound, vcr, vds, v11, v15] rfl (cpa rfl (cpa (Sl.cells (by assumption)) (cpa (OwnL.cells (by assumption)) (cpa (OwnL.cells (by assumption)) cpa_nil)))) rfl ?_)))
  refine kl_nil (kq_x rfl (kt_a 11 rfl (by kernel_rfl) (kl_box rfl rfl (fun p19 H20 f21 a22 => ?_))))
  refine kl_nil (kq_x rfl (kt_q 12 (List.nil_sublist _) rfl (by kernel_rfl) (kl_as rfl (kl_nil (kq_q (kt_end (by kernel_rfl) ?_))))))
  refine kq_code (kc_seq (kc_region (kl_mv rfl (kl_callT (vs := [_, .int .i64 ((0 : Nat) : Int)]) rfl rfl (walk_ok c.vars.length c ds (List.replicate c.vars.length (0 : Int)) [] (List.replicate c.vars.length (0 : Int)) [] 0 hC hd (by omega) (by simp) rfl vals_nil (suppV_0 c).symm hcv hca hcr hds a22 o14 o18) (fun v23 L1 Ln K24 h25 g26 g27 => ?_)))))
  obtain ⟨rfl, rfl, H28, H29, x30, rfl, o31, h32, h33, o34⟩ := h25
  refine kl_norm ?_
  refine kl_nil (kq_code (kc_seq (kc_region (kl_mv rfl (kl_callL rfl rfl (copyInts_ok ds (by omega) (by assumption)) (fun v35 H36 f37 o38 => ?_))))))
  refine kl_as rfl (kl_nil (kq_code (kc_seq (kc_seq (kc_region (kl_as rfl (kl_nil (kq_code (kc_block (kc_loopL (A := Nat × List Int × Hp) (fun zz => (zz.1 ≤ c.vars.length) ∧ (zz.2.1 = filtTo c ds (suppV c ([] ++ extP (wordL c.vars ds) 0 [])) zz.1) ∧ OwnL 3 1 zz.2.2 noHp IntV v35 zz.2.1 ∧ Fr B zz.2.2) (fun zz => c.vars.length - zz.1) (fun zz => [zz.2.2, H28, H29]) (fun zz => [(7, .int .i64 (zz.1 : Int))]) (0, ds, H36) (pc 2 rfl (pc 4 rfl (pc 5 rfl (pc 6 rfl pn)))) (pc 7 rfl pn) rfl ⟨Nat.zero_le _, rfl, o38, f37⟩ ?_))))))))))
  rintro ⟨k, out, H41⟩ hJ44
  obtain ⟨hk39, hi40, o42, f43⟩ : (k ≤ c.vars.length) ∧ (out = filtTo c ds (suppV c ([] ++ extP (wordL c.vars ds) 0 [])) k) ∧ OwnL 3 1 H41 noHp IntV v35 out ∧ Fr B H41 := hJ44
  change KC _ _ (_) [H41, H28, H29] _ ([(7, .int .i64 (k : Int))] ++ _)
  have hln : out.length = ds.length := (by rw [hi40]; exact filtTo_len c ds _ k)
  refine kc_seq (kc_seq (kc_region (kl_mv rfl (kl_fd rfl (by assumption) (fun p45 a46 => ?_)))))
  refine kl_ld rfl (by assumption) (kl_len rfl (by assumption) (fun l47 => ?_))
  refine kl_lss rfl rfl ?_
  refine kl_nil (kq_code (kc_if rfl (fun c48 => ?_) (fun c48 => ?_)))
  ·skip
   have hv2 := hC.at (k := k) (by omega)
   have hll := suppV_len c ([] ++ extP (wordL c.vars ds) 0 [])
   refine kc_skipQ (kq_code (kc_seq (kc_block (kc_tree (fun i => ([14] : List Nat).contains i) [H29] (by kernel_rfl) ?_))))
   refine kt_q 0 (.cons _ (.cons _ (.cons_cons _ (List.nil_sublist _)))) rfl (by kernel_rfl) (kl_mv rfl (kl_nil (kq_q (kt_q 1 (.cons _ (.cons _ (.cons_cons _ (List.nil_sublist _)))) rfl (by kernel_rfl) (kl_fd rfl (by assumption) (fun p49 a50 => ?_))))))
   refine kl_nil (kq_q (kt_q 2 (.cons _ (.cons _ (.cons_cons _ (List.nil_sublist _)))) rfl (by kernel_rfl) (kl_ld rfl (by assumption) (kl_nil (kq_q (kt_q 3 (.cons _ (.cons _ (.cons_cons _ (List.nil_sublist _)))) rfl (by kernel_rfl) (kl_mv rfl (kl_nil (kq_q (kt_q 4 (.cons _ (.cons _ (.cons_cons _ (List.nil_sublist _)))) rfl (by kernel_rfl) (kl_inI rfl rfl (by assumption) (by omega) (fun p51 a52 => ?_))))))))))))
   refine kl_nil (kq_q (kt_q 5 (.cons _ (.cons _ (.cons_cons _ (List.nil_sublist _)))) rfl (by kernel_rfl) (kl_ld rfl (by assumption) (kl_nil (kq_q (kt_q 6 (.cons _ (.cons _ (.cons_cons _ (List.nil_sublist _)))) rfl (by kernel_rfl) (kl_mv rfl (kl_nil (kq_q (kt_q 7 (.cons _ (.cons _ (.cons_cons _ (List.nil_sublist _)))) rfl (by kernel_rfl) (kl_nilchkA rfl (by assumption) ?_)))))))))))
   refine kl_nil (kq_q (kt_q 8 (.cons _ (.cons _ (.cons_cons _ (List.nil_sublist _)))) rfl (by kernel_rfl) (kl_fd rfl (by assumption) (fun p53 a54 => ?_))))
   refine kl_nil (kq_q (kt_q 9 (.cons _ (.cons _ (.cons_cons _ (List.nil_sublist _)))) rfl (by kernel_rfl) (kl_ld rfl (by assumption) (kl_nil (kq_q (kt_q 10 (.cons _ (.cons _ (.cons_cons _ (List.nil_sublist _)))) rfl (by kernel_rfl) (kl_mv rfl (kl_nil (kq_q (kt_q 11 (.cons _ (.cons _ (.cons_cons _ (List.nil_sublist _)))) rfl (by kernel_rfl) (kl_ixLn rfl rfl (by assumption) (by omega) (fun p55 q56 => ?_))))))))))))
   refine kl_nil (kq_q (kt_q 12 (.cons _ (.cons _ (.cons_cons _ (List.nil_sublist _)))) rfl (by kernel_rfl) (kl_ldLIe rfl (by assumption) (by assumption) (by omega) ?_)))
   refine kl_nil (kq_q (kt_q 13 (.cons _ (.cons _ (.cons_cons _ (List.nil_sublist _)))) rfl (by kernel_rfl) (kl_ixL rfl rfl (by assumption) (by omega) (by omega) (fun p57 q58 => ?_))))
   refine kl_nil (kq_q (kt_a 14 rfl (by kernel_rfl) (kl_stL ((suppV c ([] ++ extP (wordL c.vars ds) 0 [])).getD k 0) rfl rfl (by assumption) o42 (by omega) rfl rfl rfl (fun H59 o60 f61 => ?_))))
   have f62 := f61 _ f43
   refine kl_chg [H59, H28, H29] rfl ?_
   refine kl_nil (kq_x rfl (kt_end (by kernel_rfl) ?_))
   refine kq_code (kc_region (kl_mv rfl (kl_inc rfl rfl (by omega) ?_)))
   refine kl_as rfl (kl_nil (kq_take [H59, H28, H29] ?_))
   refine kq_roundL ((k + 1), (out.set ((c.vars.getD k 0).toNat) ((suppV c ([] ++ extP (wordL c.vars ds) 0 [])).getD k 0)), H59) (by omega) (⟨by omega, (by rw [hi40, filtTo_succ]), o60, f62⟩) (pc 7 rfl pn) (pc 2 rfl (pc 4 rfl (pc 5 rfl (pc 6 rfl pn)))) rfl (List.Sublist.refl _)
  ·skip
   refine kc_exit (kq_code (kc_seq (kc_region (kl_mv rfl (kl_as rfl (kl_nil (kq_code (kc_ret ?_))))))))
   have e9 : out = filtL c ds := by (rw [hi40, show k = c.vars.length from by omega, List.nil_append, extP_all]; rfl)
   exact kq_ret rfl rfl H41 f43 (e9 ▸ OwnL.ints o42)
 ·skip
  refine kl_mkL (R := IntV) (0 : Int) rfl rfl (by omega) (by decide) (by exact rfl) (fun v63 H64 f65 o66 => ?_)
  refine kl_nil (kq_a (List.nil_sublist _) (kt_a 5 rfl (by kernel_rfl) (kl_mkL (R := IntV) (0 : Int) rfl rfl (by omega) (by decide) (by exact rfl) (fun v67 H68 f69 o70 => ?_))))
  refine kl_nil (kq_a (List.nil_sublist _) (kt_a 10 rfl (by kernel_rfl) (kl_bdA [(0, [.int .i64 c.kind, vcv, vca, .int .i64 c.bound, vcr]), (1, [vds]), (2, [v67]), (3, [v63])] [.int .i64 c.kind, vcv, vca, .int .i64 c.bound, vcr, vds, v67, v63] rfl (cpa rfl (cpa (Sl.cells (by assumption)) (cpa (OwnL.cells (by assumption)) (cpa (OwnL.cells (by assumption)) cpa_nil)))) rfl ?_)))
  refine kl_nil (kq_x rfl (kt_a 11 rfl (by kernel_rfl) (kl_box rfl rfl (fun p71 H72 f73 a74 => ?_))))
  refine kl_nil (kq_x rfl (kt_q 12 (List.nil_sublist _) rfl (by kernel_rfl) (kl_as rfl (kl_nil (kq_q (kt_end (by kernel_rfl) ?_))))))
  refine kq_code (kc_seq (kc_region (kl_mv rfl (kl_callT (vs := [_, .int .i64 ((0 : Nat) : Int)]) rfl rfl (walk_ok c.vars.length c ds (List.replicate c.vars.length (0 : Int)) [] (List.replicate c.vars.length (0 : Int)) [] 0 hC hd (by omega) (by simp) rfl vals_nil (suppV_0 c).symm hcv hca hcr hds a74 o70 o66) (fun v75 L1 Ln K76 h77 g78 g79 => ?_)))))
  obtain ⟨rfl, rfl, H80, H81, x82, rfl, o83, h84, h85, o86⟩ := h77
  refine kl_norm ?_
  refine kl_nil (kq_code (kc_seq (kc_region (kl_mv rfl (kl_callL rfl rfl (copyInts_ok ds (by omega) (by assumption)) (fun v87 H88 f89 o90 => ?_))))))
  refine kl_as rfl (kl_nil (kq_code (kc_seq (kc_seq (kc_region (kl_as rfl (kl_nil (kq_code (kc_block (kc_loopL (A := Nat × List Int × Hp) (fun zz => (zz.1 ≤ c.vars.length) ∧ (zz.2.1 = filtTo c ds (suppV c ([] ++ extP (wordL c.vars ds) 0 [])) zz.1) ∧ OwnL 3 1 zz.2.2 noHp IntV v87 zz.2.1 ∧ Fr B zz.2.2) (fun zz => c.vars.length - zz.1) (fun zz => [zz.2.2, H80, H81]) (fun zz => [(7, .int .i64 (zz.1 : Int))]) (0, ds, H88) (pc 2 rfl (pc 4 rfl (pc 5 rfl (pc 6 rfl pn)))) (pc 7 rfl pn) rfl ⟨Nat.zero_le _, rfl, o90, f89⟩ ?_))))))))))
  rintro ⟨k, out, H93⟩ hJ96
  obtain ⟨hk91, hi92, o94, f95⟩ : (k ≤ c.vars.length) ∧ (out = filtTo c ds (suppV c ([] ++ extP (wordL c.vars ds) 0 [])) k) ∧ OwnL 3 1 H93 noHp IntV v87 out ∧ Fr B H93 := hJ96
  change KC _ _ (_) [H93, H80, H81] _ ([(7, .int .i64 (k : Int))] ++ _)
  have hln : out.length = ds.length := (by rw [hi92]; exact filtTo_len c ds _ k)
  refine kc_seq (kc_seq (kc_region (kl_mv rfl (kl_fd rfl (by assumption) (fun p97 a98 => ?_)))))
  refine kl_ld rfl (by assumption) (kl_len rfl (by assumption) (fun l99 => ?_))
  refine kl_lss rfl rfl ?_
  refine kl_nil (kq_code (kc_if rfl (fun c100 => ?_) (fun c100 => ?_)))
  ·skip
   have hv2 := hC.at (k := k) (by omega)
   have hll := suppV_len c ([] ++ extP (wordL c.vars ds) 0 [])
   refine kc_skipQ (kq_code (kc_seq (kc_block (kc_tree (fun i => ([14] : List Nat).contains i) [H81] (by kernel_rfl) ?_))))
   refine kt_q 0 (.cons _ (.cons _ (.cons_cons _ (List.nil_sublist _)))) rfl (by kernel_rfl) (kl_mv rfl (kl_nil (kq_q (kt_q 1 (.cons _ (.cons _ (.cons_cons _ (List.nil_sublist _)))) rfl (by kernel_rfl) (kl_fd rfl (by assumption) (fun p101 a102 => ?_))))))
   refine kl_nil (kq_q (kt_q 2 (.cons _ (.cons _ (.cons_cons _ (List.nil_sublist _)))) rfl (by kernel_rfl) (kl_ld rfl (by assumption) (kl_nil (kq_q (kt_q 3 (.cons _ (.cons _ (.cons_cons _ (List.nil_sublist _)))) rfl (by kernel_rfl) (kl_mv rfl (kl_nil (kq_q (kt_q 4 (.cons _ (.cons _ (.cons_cons _ (List.nil_sublist _)))) rfl (by kernel_rfl) (kl_inI rfl rfl (by assumption) (by omega) (fun p103 a104 => ?_))))))))))))
   refine kl_nil (kq_q (kt_q 5 (.cons _ (.cons _ (.cons_cons _ (List.nil_sublist _)))) rfl (by kernel_rfl) (kl_ld rfl (by assumption) (kl_nil (kq_q (kt_q 6 (.cons _ (.cons _ (.cons_cons _ (List.nil_sublist _)))) rfl (by kernel_rfl) (kl_mv rfl (kl_nil (kq_q (kt_q 7 (.cons _ (.cons _ (.cons_cons _ (List.nil_sublist _)))) rfl (by kernel_rfl) (kl_nilchkA rfl (by assumption) ?_)))))))))))
   refine kl_nil (kq_q (kt_q 8 (.cons _ (.cons _ (.cons_cons _ (List.nil_sublist _)))) rfl (by kernel_rfl) (kl_fd rfl (by assumption) (fun p105 a106 => ?_))))
   refine kl_nil (kq_q (kt_q 9 (.cons _ (.cons _ (.cons_cons _ (List.nil_sublist _)))) rfl (by kernel_rfl) (kl_ld rfl (by assumption) (kl_nil (kq_q (kt_q 10 (.cons _ (.cons _ (.cons_cons _ (List.nil_sublist _)))) rfl (by kernel_rfl) (kl_mv rfl (kl_nil (kq_q (kt_q 11 (.cons _ (.cons _ (.cons_cons _ (List.nil_sublist _)))) rfl (by kernel_rfl) (kl_ixLn rfl rfl (by assumption) (by omega) (fun p107 q108 => ?_))))))))))))
   refine kl_nil (kq_q (kt_q 12 (.cons _ (.cons _ (.cons_cons _ (List.nil_sublist _)))) rfl (by kernel_rfl) (kl_ldLIe rfl (by assumption) (by assumption) (by omega) ?_)))
   refine kl_nil (kq_q (kt_q 13 (.cons _ (.cons _ (.cons_cons _ (List.nil_sublist _)))) rfl (by kernel_rfl) (kl_ixL rfl rfl (by assumption) (by omega) (by omega) (fun p109 q110 => ?_))))
   refine kl_nil (kq_q (kt_a 14 rfl (by kernel_rfl) (kl_stL ((suppV c ([] ++ extP (wordL c.vars ds) 0 [])).getD k 0) rfl rfl (by assumption) o94 (by omega) rfl rfl rfl (fun H111 o112 f113 => ?_))))
   have f114 := f113 _ f95
   refine kl_chg [H111, H80, H81] rfl ?_
   refine kl_nil (kq_x rfl (kt_end (by kernel_rfl) ?_))
   refine kq_code (kc_region (kl_mv rfl (kl_inc rfl rfl (by omega) ?_)))
   refine kl_as rfl (kl_nil (kq_take [H111, H80, H81] ?_))
   refine kq_roundL ((k + 1), (out.set ((c.vars.getD k 0).toNat) ((suppV c ([] ++ extP (wordL c.vars ds) 0 [])).getD k 0)), H111) (by omega) (⟨by omega, (by rw [hi92, filtTo_succ]), o112, f114⟩) (pc 7 rfl pn) (pc 2 rfl (pc 4 rfl (pc 5 rfl (pc 6 rfl pn)))) rfl (List.Sublist.refl _)
  ·skip
   refine kc_exit (kq_code (kc_seq (kc_region (kl_mv rfl (kl_as rfl (kl_nil (kq_code (kc_ret ?_))))))))
   have e9 : out = filtL c ds := by (rw [hi92, show k = c.vars.length from by omega, List.nil_append, extP_all]; rfl)
   exact kq_ret rfl rfl H93 f95 (e9 ▸ OwnL.ints o94)
theorem isCons_ok {Hmd : Hp} {vmd : Value} {Hmc : Hp} {vmc : Value} {Hds : Hp} {vds : Value} (m : Mod) (ds : List Int) (hM : MOk m) (hd : DOk m.doms.length ds) (hmd : Ints Hmd vmd m.doms) (hmc : Cons Hmc vmc m.cons) (hds : Ints Hds vds ds) : SpecP Tryz.prog 163 [.agg #[vmd, vmc], vds] [Hmd, Hmc, Hds] (.bool (consB m.cons ds)) := by
 refine spec_of Tryz.func163 rfl rfl rfl (fun B => ?_)
 refine kc_seq (kc_region (kl_box rfl rfl (fun p1 H2 f3 a4 => ?_)))
 refine kl_as rfl (kl_nil (kq_code (kc_seq (kc_seq (kc_region (kl_as rfl (kl_nil (kq_code (kc_block (kc_loop0 (A := Nat) (fun zz => (zz ≤ m.cons.length) ∧ ((m.cons.take zz).all (fun c => decide (filtL c ds = ds)) = true)) (fun zz => m.cons.length - zz) (fun zz => [(5, .int .i64 (zz : Int))]) (0) (pc 1 rfl (pc 2 rfl pn)) (pc 5 rfl pn) ⟨Nat.zero_le _, rfl⟩ ?_))))))))))
 rintro k hJ7
 obtain ⟨hk5, hi6⟩ : (k ≤ m.cons.length) ∧ ((m.cons.take k).all (fun c => decide (filtL c ds = ds)) = true) := hJ7
 change KC _ _ (_) _ _ ([(5, .int .i64 (k : Int))] ++ _)
 refine kc_seq (kc_seq (kc_region (kl_mv rfl (kl_fd rfl (by assumption) (fun p8 a9 => ?_)))))
 refine kl_ld rfl (by assumption) (kl_len rfl (by assumption) (fun l10 => ?_))
 refine kl_lss rfl rfl ?_
 refine kl_nil (kq_code (kc_if rfl (fun c11 => ?_) (fun c11 => ?_)))
 ·skip
  have hC : ConOk (m.cons.getD k nilCon) ds.length := (by rw [hd.l]; exact ⟨hM.c (by omega)⟩)
  refine kc_skipQ (kq_code (kc_seq (kc_block (kc_seq (kc_region (kl_fd rfl (by assumption) (fun p12 a13 => ?_)))))))
  refine kl_ld rfl (by assumption) (kl_mv rfl (kl_inC rfl rfl (by assumption) (by omega) (fun p14 u16 u17 u18 h19 h20 h21 a15 => ?_)))
  refine kl_ldS rfl (by assumption) rfl ?_
  refine kl_mv rfl (kl_call rfl rfl (supported_ok (m.cons.getD k nilCon) ds hC hd.d (by assumption) (by assumption) (by assumption) (by assumption)) (fun v22 H23 f24 h25 => ?_))
  refine kl_mv rfl (kl_callP rfl rfl (sequal_ok (filtL (m.cons.getD k nilCon) ds) ds (by assumption) (by assumption)) ?_)
  refine kl_not rfl (kl_nil (kq_code (kc_cond rfl (fun c26 => ?_) (fun c26 => ?_))))
  ·skip
   have c26r := c26
   try simp only [smpC, decide_eq_true_eq, decide_eq_false_iff_not] at c26
   refine kc_seq (kc_region (kl_as rfl (kl_nil (kq_code (kc_ret (kq_retP rfl rfl (congrArg Value.bool ?_)))))))
   exact cons_no (k := k) (by omega) (by assumption)
  ·skip
   have c26r := c26
   try simp only [smpC, decide_eq_true_eq, decide_eq_false_iff_not] at c26
   refine kc_skipQ (kq_code (kc_region (kl_mv rfl (kl_inc rfl rfl (by omega) ?_))))
   refine kl_as rfl (kl_nil (kq_round0 ((k + 1)) (by omega) (⟨by omega, cons_step (by omega) hi6 (by assumption)⟩) (pc 5 rfl pn) (pc 1 rfl (pc 2 rfl pn)) (List.Sublist.refl _)))
 ·skip
  refine kc_exit (kq_code (kc_seq (kc_region (kl_as rfl (kl_nil (kq_code (kc_ret (kq_retP rfl rfl (congrArg Value.bool ?_)))))))))
  exact (by rw [List.take_of_length_le (by omega)] at hi6; exact hi6.symm)
theorem fixS_ok {Hmd : Hp} {vmd : Value} {Hmc : Hp} {vmc : Value} {Hds : Hp} {vds : Value} (m : Mod) (ds : List Int) (hM : MOk m) (hd : DOk m.doms.length ds) (hmd : Ints Hmd vmd m.doms) (hmc : Cons Hmc vmc m.cons) (hds : Ints Hds vds ds) : Spec Tryz.prog 123 [.agg #[vmd, vmc], vds] [Hmd, Hmc, Hds] (fun Hq vq => Ints Hq vq (prop m ds)) := by
 refine spec_of Tryz.func123 rfl rfl rfl (fun B => ?_)
 refine kc_seq (kc_region (kl_box rfl rfl (fun p1 H2 f3 a4 => ?_)))
 refine kl_as rfl (kl_nil (kq_code (kc_seq (kc_region (kl_mv rfl (kl_call rfl rfl (copyInts_ok ds (by have := hd.l; have := hM.n; omega) (by assumption)) (fun v5 H6 f7 o8 => ?_)))))))
 have h9 := OwnL.ints o8
 refine kl_as rfl (kl_nil (kq_code (kc_seq (kc_block (kc_loopK (A := List Int × Value × Hp) (fun zz => (DOk m.doms.length zz.1 ∧ prop m zz.1 = prop m ds) ∧ Fr B zz.2.2 ∧ Ints zz.2.2 zz.2.1 zz.1) (fun zz => sumN zz.1) (fun zz => zz.2.2) (fun zz => []) (fun zz => [(5, zz.2.1)]) (ds, v5, H6) (pc 2 rfl (pc 4 rfl pn)) (pc 5 rfl pn) rfl ⟨⟨hd, rfl⟩, f7, (by assumption)⟩ ?_)))))
 rintro ⟨xs, v12, K13⟩ hJ16
 obtain ⟨hi11, f14, h15⟩ : (DOk m.doms.length xs ∧ prop m xs = prop m ds) ∧ Fr B K13 ∧ Ints K13 v12 xs := hJ16
 change KC _ _ (K13 :: _) [] _ ([(5, v12)] ++ _)
 have hD := hi11.1
 refine kc_seq (kc_seq (kc_region (kl_ldS rfl (by assumption) rfl ?_)))
 refine kl_mv rfl (kl_callP rfl rfl (isCons_ok m xs hM hD (by assumption) (by assumption) (by assumption)) ?_)
 refine kl_not rfl (kl_mv rfl (kl_join 4 17 (.bool (!(consB m.cons xs) && !(xs.contains 0))) (pc 2 rfl (pc 4 rfl (pc 5 rfl (pc 9 rfl (pc 10 rfl (pc 11 rfl (pc 12 rfl (pc 13 rfl pn)))))))) (fun J18 => ?_) ?_))
 ·rcases Bool.eq_false_or_eq_true (!(consB m.cons xs)) with g17 | g17
  ·skip
   have g17p := g17
   try simp only [Bool.not_eq_true', Bool.not_eq_false', decide_eq_true_eq, decide_eq_false_iff_not, Bool.and_eq_true, Bool.or_eq_false_iff, withinB_iff] at g17p
   refine kl_gT rfl rfl g17 (kl_mv rfl (kl_gT rfl rfl g17 (kl_callP rfl rfl (hasEmpty_ok xs (by assumption)) ?_)))
   refine kl_gT rfl rfl g17 (kl_not rfl (kl_andT rfl rfl g17 ?_))
   exact J18 _ (pc 17 rfl (pc 2 rfl (pc 4 rfl (pc 5 rfl (pc 9 rfl (pc 10 rfl (pc 11 rfl (pc 12 rfl (pc 13 rfl pn)))))))))
  ·skip
   refine kl_gF rfl rfl g17 (kl_gF rfl rfl g17 (kl_gF rfl rfl g17 (kl_andF (!(xs.contains 0)) rfl rfl g17 ?_)))
   exact J18 _ (pc 17 rfl (pc 2 rfl (pc 4 rfl (pc 5 rfl (pc 9 rfl (pc 10 rfl (pc 11 rfl (pc 12 rfl (pc 13 rfl pn)))))))))
 refine kl_nil (kq_code (kc_cond rfl (fun c19 => ?_) (fun c19 => ?_)))
 ·skip
  have c19r := c19
  try simp only [smpC, decide_eq_true_eq, decide_eq_false_iff_not] at c19
  have hgo := fix_go hM hD c19r
  refine kc_skipQ (kq_code (kc_block (kc_seq (kc_region (kl_as rfl (kl_nil (kq_code (kc_block (kc_loopK (A := Nat × List Int × Value × Hp) (fun zz => (zz.1 ≤ m.cons.length) ∧ (zz.2.1 = filtC (m.cons.take zz.1) xs) ∧ Fr B zz.2.2.2 ∧ Ints zz.2.2.2 zz.2.2.1 zz.2.1) (fun zz => m.cons.length - zz.1) (fun zz => zz.2.2.2) (fun zz => []) (fun zz => [(6, .int .i64 (zz.1 : Int)), (5, zz.2.2.1)]) (0, xs, v12, K13) (pc 2 rfl (pc 4 rfl (pc 9 rfl (pc 10 rfl (pc 11 rfl (pc 12 rfl (pc 13 rfl (pc 17 rfl pn)))))))) (pc 6 rfl (pc 5 rfl pn)) rfl ⟨Nat.zero_le _, rfl, f14, (by assumption)⟩ ?_)))))))))
  rintro ⟨k2, ys, v22, K23⟩ hJ26
  obtain ⟨hk20, hi21, f24, h25⟩ : (k2 ≤ m.cons.length) ∧ (ys = filtC (m.cons.take k2) xs) ∧ Fr B K23 ∧ Ints K23 v22 ys := hJ26
  change KC _ _ (K23 :: _) [] _ ([(6, .int .i64 (k2 : Int)), (5, v22)] ++ _)
  refine kc_seq (kc_seq (kc_region (kl_mv rfl (kl_fd rfl (by assumption) (fun p27 a28 => ?_)))))
  refine kl_ld rfl (by assumption) (kl_len rfl (by assumption) (fun l29 => ?_))
  refine kl_lss rfl rfl ?_
  refine kl_nil (kq_code (kc_if rfl (fun c30 => ?_) (fun c30 => ?_)))
  ·skip
   have hE := filtC_at hM hD hi21
   have hC : ConOk (m.cons.getD k2 nilCon) ys.length := (by rw [hE.l]; exact ⟨hM.c (by omega)⟩)
   refine kc_skipQ (kq_code (kc_seq (kc_block (kc_region (kl_fd rfl (by assumption) (fun p31 a32 => ?_))))))
   refine kl_ld rfl (by assumption) (kl_mv rfl (kl_inC rfl rfl (by assumption) (by omega) (fun p33 u35 u36 u37 h38 h39 h40 a34 => ?_)))
   refine kl_ldS rfl (by assumption) rfl ?_
   refine kl_mv rfl (kl_call rfl rfl (supported_ok (m.cons.getD k2 nilCon) ys hC hE.d (by assumption) (by assumption) (by assumption) (by assumption)) (fun v41 H42 f43 h44 => ?_))
   refine kl_as rfl (kl_nil (kq_code (kc_region (kl_mv rfl (kl_inc rfl rfl (by omega) ?_)))))
   refine kl_as rfl (kl_nil (kq_roundK ((k2 + 1), (filtL (m.cons.getD k2 nilCon) ys), v41, H42) (by omega) (⟨by omega, (by rw [filtC_step (by omega), ← hi21]), f43, (by assumption)⟩) (pc 6 rfl (pc 5 rfl pn)) (pc 2 rfl (pc 4 rfl (pc 9 rfl (pc 10 rfl (pc 11 rfl (pc 12 rfl (pc 13 rfl (pc 17 rfl pn)))))))) rfl (List.Sublist.refl _)))
  ·skip
   refine kc_exit (kq_roundK (ys, v22, K23) (by (dsimp only; rw [hi21, List.take_of_length_le (by omega)]; exact filtA_lt hM hD hgo.1)) (⟨(by rw [hi21, List.take_of_length_le (by omega)]; exact ⟨(filtA_ok hM hD).1, (prop_step hM hD hgo.2 hgo.1).trans hi11.2⟩), f24, (by assumption)⟩) (pc 5 rfl pn) (pc 2 rfl (pc 4 rfl pn)) rfl (List.Sublist.refl _))
 ·skip
  have c19r := c19
  try simp only [smpC, decide_eq_true_eq, decide_eq_false_iff_not] at c19
  have hend := fix_end hM hD c19r
  refine kc_exit (kq_code (kc_seq (kc_seq (kc_region (kl_mv rfl (kl_callP rfl rfl (hasEmpty_ok xs (by assumption)) ?_))))))
  refine kl_nil (kq_code (kc_cond rfl (fun c45 => ?_) (fun c45 => ?_)))
  ·skip
   have c45r := c45
   try simp only [smpC, decide_eq_true_eq, decide_eq_false_iff_not] at c45
   refine kc_seq (kc_region (kl_mv rfl (kl_len rfl (by assumption) (fun l46 => ?_))))
   refine kl_mkL (R := IntV) (0 : Int) rfl rfl (by (have := hD.l; have := hM.n; omega)) (by decide) (by exact rfl) (fun v47 H48 f49 o50 => ?_)
   refine kl_as rfl (kl_nil (kq_code (kc_ret ?_)))
   have e9 : (List.replicate xs.length (0 : Int)) = prop m ds := by (rw [← hi11.2]; exact (prop_0 (by assumption)).symm)
   exact kq_ret rfl rfl H48 f49 (e9 ▸ OwnL.ints o50)
  ·skip
   have c45r := c45
   try simp only [smpC, decide_eq_true_eq, decide_eq_false_iff_not] at c45
   refine kc_skipQ (kq_code (kc_seq (kc_region (kl_mv rfl (kl_as rfl (kl_nil (kq_code (kc_ret ?_))))))))
   have e9 : xs = prop m ds := by (rw [← hi11.2]; exact (hend (by assumption)).symm)
   exact kq_ret rfl rfl K13 f14 (e9 ▸ (by assumption : Ints _ _ xs))
theorem litLess_ok (a : Lit) (b : Lit) : SpecP Tryz.prog 166 [.agg #[.int .i64 a.var, .int .i64 a.val, .bool a.neg], .agg #[.int .i64 b.var, .int .i64 b.val, .bool b.neg]] [] (.bool (litLt a b)) := by
 refine spec_of Tryz.func166 rfl rfl rfl (fun B => ?_)
 refine kc_seq (kc_region (kl_box rfl rfl (fun p1 H2 f3 a4 => ?_)))
 refine kl_box rfl rfl (fun p5 H6 f7 a8 => ?_)
 refine kl_as rfl (kl_nil (kq_code (kc_seq (kc_seq (kc_region (kl_fd rfl (by assumption) (fun p9 a10 => ?_)))))))
 refine kl_ld rfl (by assumption) (kl_fd rfl (by assumption) (fun p11 a12 => ?_))
 refine kl_ld rfl (by assumption) (kl_neq rfl rfl ?_)
 refine kl_nil (kq_code (kc_if rfl (fun c13 => ?_) (fun c13 => ?_)))
 ·skip
  refine kc_seq (kc_region (kl_fd rfl (by assumption) (fun p14 a15 => ?_)))
  refine kl_ld rfl (by assumption) (kl_fd rfl (by assumption) (fun p16 a17 => ?_))
  refine kl_ld rfl (by assumption) (kl_lss rfl rfl ?_)
  refine kl_as rfl (kl_nil (kq_code (kc_ret (kq_retP rfl rfl (congrArg Value.bool ?_)))))
  exact litLt_1 (by assumption)
 ·skip
  refine kc_skipQ (kq_code (kc_seq (kc_seq (kc_region (kl_fd rfl (by assumption) (fun p18 a19 => ?_))))))
  refine kl_ld rfl (by assumption) (kl_fd rfl (by assumption) (fun p20 a21 => ?_))
  refine kl_ld rfl (by assumption) (kl_neq rfl rfl ?_)
  refine kl_nil (kq_code (kc_if rfl (fun c22 => ?_) (fun c22 => ?_)))
  ·skip
   refine kc_seq (kc_region (kl_fd rfl (by assumption) (fun p23 a24 => ?_)))
   refine kl_ld rfl (by assumption) (kl_fd rfl (by assumption) (fun p25 a26 => ?_))
   refine kl_ld rfl (by assumption) (kl_lss rfl rfl ?_)
   refine kl_as rfl (kl_nil (kq_code (kc_ret (kq_retP rfl rfl (congrArg Value.bool ?_)))))
   exact litLt_2 (by assumption) (by assumption)
  ·skip
   refine kc_skipQ (kq_code (kc_seq (kc_region (kl_fd rfl (by assumption) (fun p27 a28 => ?_)))))
   refine kl_ld rfl (by assumption) (kl_not rfl (kl_mv rfl (kl_join 3 31 (.bool (!a.neg && b.neg)) (pc 4 rfl (pc 28 rfl pn)) (fun J32 => ?_) ?_)))
   ·rcases Bool.eq_false_or_eq_true (!a.neg) with g29 | g29
    ·skip
     have g29p := g29
     try simp only [Bool.not_eq_true', Bool.not_eq_false', decide_eq_true_eq, decide_eq_false_iff_not, Bool.and_eq_true, Bool.or_eq_false_iff, withinB_iff] at g29p
     refine kl_gT rfl rfl g29 (kl_fd rfl (by assumption) (fun p30 a31 => ?_))
     refine kl_gT rfl rfl g29 (kl_ld rfl (by assumption) (kl_andT rfl rfl g29 ?_))
     exact J32 _ (pc 31 rfl (pc 4 rfl (pc 28 rfl pn)))
    ·skip
     refine kl_gF rfl rfl g29 (kl_gF rfl rfl g29 (kl_andF b.neg rfl rfl g29 ?_))
     exact J32 _ (pc 31 rfl (pc 4 rfl (pc 28 rfl pn)))
   refine kl_as rfl (kl_nil (kq_code (kc_ret (kq_retP rfl rfl (congrArg Value.bool ?_)))))
   exact litLt_3 (by assumption) (by assumption)
theorem validClS_ok {Hc : Hp} {vc : Value} (c : List Lit) (n : Int) (hn : -9223372036854775807 ≤ n ∧ n ≤ 9223372036854775807) (hc : Lits Hc vc c) : SpecP Tryz.prog 133 [vc, .int .i64 n] [Hc] (.bool (clS n c)) := by
 refine spec_of Tryz.func133 rfl rfl rfl (fun B => ?_)
 refine kc_seq (kc_region (kl_as rfl (kl_nil (kq_code (kc_seq (kc_seq (kc_region (kl_as rfl (kl_nil (kq_code (kc_block (kc_loop0 (A := Nat) (fun zz => (zz ≤ c.length) ∧ (clTo n c zz = true)) (fun zz => c.length - zz) (fun zz => [(5, .int .i64 (zz : Int))]) (0) (pc 0 rfl (pc 1 rfl pn)) (pc 5 rfl pn) ⟨Nat.zero_le _, rfl⟩ ?_))))))))))))
 rintro k hJ3
 obtain ⟨hk1, hi2⟩ : (k ≤ c.length) ∧ (clTo n c k = true) := hJ3
 change KC _ _ (_) _ _ ([(5, .int .i64 (k : Int))] ++ _)
 refine kc_seq (kc_seq (kc_region (kl_mv rfl (kl_mv rfl (kl_len rfl (by assumption) (fun l4 => ?_))))))
 refine kl_lss rfl rfl ?_
 refine kl_nil (kq_code (kc_if rfl (fun c5 => ?_) (fun c5 => ?_)))
 ·skip
  refine kc_skipQ (kq_code (kc_seq (kc_block (kc_seq (kc_draw 35 [true, true, true, true, true, true, true, false, true, true, true, true, true, true, true, false, true, true, true, true, true, true, true, true, true, true, true, true, true, true, true, false, true, true, true] (by kernel_rfl) (by kernel_rfl) ?_)))))
  refine kl_mv rfl (kl_mv rfl (kl_inQ rfl rfl (by assumption) (by omega) (fun p6 a7 => ?_)))
  refine kl_fd rfl (by assumption) (fun p8 a9 => ?_)
  refine kl_ld rfl (by assumption) (kl_mv rfl (kl_sub rfl rfl (by omega) ?_))
  refine kl_callP rfl rfl (inRange_ok ((c.getD k nilLit).var) (0 : Int) (n - (1 : Int))) ?_
  refine kl_not rfl (kl_mv rfl (kl_join 8 29 (.bool (!(withinB ((c.getD k nilLit).var) (0 : Int) (n - (1 : Int))) || !(withinB ((c.getD k nilLit).val) (0 : Int) (5 : Int)))) (pc 0 rfl (pc 1 rfl (pc 5 rfl (pc 6 rfl (pc 7 rfl (pc 8 rfl (pc 9 rfl (pc 12 rfl (pc 13 rfl (pc 14 rfl (pc 15 rfl (pc 16 rfl (pc 17 rfl (pc 18 rfl (pc 19 rfl (pc 20 rfl (pc 21 rfl pn))))))))))))))))) (fun J15 => ?_) ?_))
  ·rcases Bool.eq_false_or_eq_true (!(withinB ((c.getD k nilLit).var) (0 : Int) (n - (1 : Int)))) with g10 | g10
   ·skip
    refine kl_gF rfl rfl g10 (kl_gF rfl rfl g10 (kl_gF rfl rfl g10 (kl_gF rfl rfl g10 (kl_gF rfl rfl g10 (kl_gF rfl rfl g10 (kl_gF rfl rfl g10 (kl_orT (!(withinB ((c.getD k nilLit).val) (0 : Int) (5 : Int))) rfl rfl g10 ?_)))))))
    exact J15 _ (pc 29 rfl (pc 0 rfl (pc 1 rfl (pc 5 rfl (pc 6 rfl (pc 7 rfl (pc 8 rfl (pc 9 rfl (pc 12 rfl (pc 13 rfl (pc 14 rfl (pc 15 rfl (pc 16 rfl (pc 17 rfl (pc 18 rfl (pc 19 rfl (pc 20 rfl (pc 21 rfl pn))))))))))))))))))
   ·skip
    have g10p := g10
    try simp only [Bool.not_eq_true', Bool.not_eq_false', decide_eq_true_eq, decide_eq_false_iff_not, Bool.and_eq_true, Bool.or_eq_false_iff, withinB_iff] at g10p
    refine kl_gT rfl rfl g10 (kl_mv rfl (kl_gT rfl rfl g10 (kl_mv rfl (kl_gT rfl rfl g10 (kl_inQ rfl rfl (by assumption) (by omega) (fun p11 a12 => ?_))))))
    refine kl_gT rfl rfl g10 (kl_fd rfl (by assumption) (fun p13 a14 => ?_))
    refine kl_gT rfl rfl g10 (kl_ld rfl (by assumption) (kl_gT rfl rfl g10 (kl_callP rfl rfl (inRange_ok ((c.getD k nilLit).val) (0 : Int) (5 : Int)) ?_)))
    refine kl_gT rfl rfl g10 (kl_not rfl (kl_orF rfl rfl g10 ?_))
    exact J15 _ (pc 29 rfl (pc 0 rfl (pc 1 rfl (pc 5 rfl (pc 6 rfl (pc 7 rfl (pc 8 rfl (pc 9 rfl (pc 12 rfl (pc 13 rfl (pc 14 rfl (pc 15 rfl (pc 16 rfl (pc 17 rfl (pc 18 rfl (pc 19 rfl (pc 20 rfl (pc 21 rfl pn))))))))))))))))))
  refine kl_mv rfl (kl_join 16 46 (.bool ((!(withinB ((c.getD k nilLit).var) (0 : Int) (n - (1 : Int))) || !(withinB ((c.getD k nilLit).val) (0 : Int) (5 : Int))) || (decide ((0 : Int) < (k : Int)) && !(litLt (c.getD ((k : Int) - (1 : Int)).toNat nilLit) (c.getD k nilLit))))) (pc 0 rfl (pc 1 rfl (pc 5 rfl (pc 6 rfl (pc 7 rfl (pc 8 rfl (pc 9 rfl (pc 12 rfl (pc 13 rfl (pc 14 rfl (pc 15 rfl (pc 16 rfl (pc 17 rfl (pc 18 rfl (pc 19 rfl (pc 20 rfl (pc 21 rfl (pc 29 rfl (pc 30 rfl pn))))))))))))))))))) (fun J23 => ?_) ?_)
  ·rcases Bool.eq_false_or_eq_true (!(withinB ((c.getD k nilLit).var) (0 : Int) (n - (1 : Int))) || !(withinB ((c.getD k nilLit).val) (0 : Int) (5 : Int))) with g16 | g16
   ·skip
    refine kl_gF rfl rfl g16 (kl_gF rfl rfl g16 (kl_gF rfl rfl g16 (kl_gU rfl rfl (kl_gU rfl rfl (kl_gU rfl rfl (kl_gU rfl rfl (kl_gU rfl rfl (kl_gU rfl rfl ?_))))))))
    refine kl_gU rfl rfl (kl_gU rfl rfl (kl_gU rfl rfl (kl_gU rfl rfl (kl_gU rfl rfl (kl_gF rfl rfl g16 (kl_orT (decide ((0 : Int) < (k : Int)) && !(litLt (c.getD ((k : Int) - (1 : Int)).toNat nilLit) (c.getD k nilLit))) rfl rfl g16 ?_))))))
    exact J23 _ (pc 46 rfl (pc 0 rfl (pc 1 rfl (pc 5 rfl (pc 6 rfl (pc 7 rfl (pc 8 rfl (pc 9 rfl (pc 12 rfl (pc 13 rfl (pc 14 rfl (pc 15 rfl (pc 16 rfl (pc 17 rfl (pc 18 rfl (pc 19 rfl (pc 20 rfl (pc 21 rfl (pc 29 rfl (pc 30 rfl pn))))))))))))))))))))
   ·skip
    have g16p := g16
    try simp only [Bool.not_eq_true', Bool.not_eq_false', decide_eq_true_eq, decide_eq_false_iff_not, Bool.and_eq_true, Bool.or_eq_false_iff, withinB_iff] at g16p
    refine kl_gT rfl rfl g16 (kl_mv rfl (kl_gT rfl rfl g16 (kl_gtr rfl rfl ?_)))
    refine kl_gT rfl rfl g16 (kl_mv rfl (kl_join 12 45 (.bool (decide ((0 : Int) < (k : Int)) && !(litLt (c.getD ((k : Int) - (1 : Int)).toNat nilLit) (c.getD k nilLit)))) (pc 0 rfl (pc 1 rfl (pc 5 rfl (pc 6 rfl (pc 7 rfl (pc 8 rfl (pc 9 rfl (pc 12 rfl (pc 13 rfl (pc 14 rfl (pc 15 rfl (pc 16 rfl (pc 17 rfl (pc 18 rfl (pc 19 rfl (pc 20 rfl (pc 21 rfl (pc 29 rfl (pc 30 rfl (pc 31 rfl (pc 32 rfl (pc 33 rfl pn)))))))))))))))))))))) (fun J22 => ?_) ?_))
    ·rcases Bool.eq_false_or_eq_true (decide ((0 : Int) < (k : Int))) with g17 | g17
     ·skip
      have g17p := of_decide_eq_true g17
      refine kl_gT rfl rfl g17 (kl_mv rfl (kl_gT rfl rfl g17 (kl_mv rfl (kl_gT rfl rfl g17 (kl_sub rfl rfl (by omega) ?_)))))
      refine kl_gT rfl rfl g17 (kl_ixQ rfl rfl (by assumption) (by omega) (by omega) (fun p18 a19 => ?_))
      refine kl_gT rfl rfl g17 (kl_ldS rfl (by assumption) rfl ?_)
      refine kl_gT rfl rfl g17 (kl_mv rfl (kl_gT rfl rfl g17 (kl_mv rfl (kl_gT rfl rfl g17 (kl_inQ rfl rfl (by assumption) (by omega) (fun p20 a21 => ?_))))))
      refine kl_gT rfl rfl g17 (kl_ldS rfl (by assumption) rfl ?_)
      refine kl_gT rfl rfl g17 (kl_callP rfl rfl (litLess_ok (c.getD ((k : Int) - (1 : Int)).toNat nilLit) (c.getD k nilLit)) ?_)
      refine kl_gT rfl rfl g17 (kl_not rfl (kl_gT rfl rfl g16 (kl_andT rfl rfl g17 ?_)))
      exact J22 _ (pc 45 rfl (pc 0 rfl (pc 1 rfl (pc 5 rfl (pc 6 rfl (pc 7 rfl (pc 8 rfl (pc 9 rfl (pc 12 rfl (pc 13 rfl (pc 14 rfl (pc 15 rfl (pc 16 rfl (pc 17 rfl (pc 18 rfl (pc 19 rfl (pc 20 rfl (pc 21 rfl (pc 29 rfl (pc 30 rfl (pc 31 rfl (pc 32 rfl (pc 33 rfl pn)))))))))))))))))))))))
     ·skip
      refine kl_gF rfl rfl g17 (kl_gF rfl rfl g17 (kl_gF rfl rfl g17 (kl_gF rfl rfl g17 (kl_gF rfl rfl g17 (kl_gF rfl rfl g17 (kl_gF rfl rfl g17 (kl_gF rfl rfl g17 (kl_gF rfl rfl g17 ?_))))))))
      refine kl_gF rfl rfl g17 (kl_gF rfl rfl g17 (kl_gT rfl rfl g16 (kl_andF (!(litLt (c.getD ((k : Int) - (1 : Int)).toNat nilLit) (c.getD k nilLit))) rfl rfl g17 ?_)))
      exact J22 _ (pc 45 rfl (pc 0 rfl (pc 1 rfl (pc 5 rfl (pc 6 rfl (pc 7 rfl (pc 8 rfl (pc 9 rfl (pc 12 rfl (pc 13 rfl (pc 14 rfl (pc 15 rfl (pc 16 rfl (pc 17 rfl (pc 18 rfl (pc 19 rfl (pc 20 rfl (pc 21 rfl (pc 29 rfl (pc 30 rfl (pc 31 rfl (pc 32 rfl (pc 33 rfl pn)))))))))))))))))))))))
    refine kl_orF rfl rfl g16 ?_
    exact J23 _ (pc 46 rfl (pc 0 rfl (pc 1 rfl (pc 5 rfl (pc 6 rfl (pc 7 rfl (pc 8 rfl (pc 9 rfl (pc 12 rfl (pc 13 rfl (pc 14 rfl (pc 15 rfl (pc 16 rfl (pc 17 rfl (pc 18 rfl (pc 19 rfl (pc 20 rfl (pc 21 rfl (pc 29 rfl (pc 30 rfl pn))))))))))))))))))))
  refine kl_nil (kq_code (kc_cond rfl (fun c24 => ?_) (fun c24 => ?_)))
  ·skip
   have c24r := c24
   try simp only [smpC, decide_eq_true_eq, decide_eq_false_iff_not] at c24
   refine kc_seq (kc_region (kl_as rfl (kl_nil (kq_code (kc_ret (kq_retP rfl rfl (congrArg Value.bool ?_)))))))
   exact cl_noS (k := k) (by omega) (by assumption)
  ·skip
   have c24r := c24
   try simp only [smpC, decide_eq_true_eq, decide_eq_false_iff_not] at c24
   refine kc_skipQ (kq_code (kc_region (kl_mv rfl (kl_inc rfl rfl (by omega) ?_))))
   refine kl_as rfl (kl_nil (kq_round0 ((k + 1)) (by omega) (⟨by omega, cl_step hi2 (by assumption)⟩) (pc 5 rfl pn) (pc 0 rfl (pc 1 rfl pn)) (List.Sublist.refl _)))
 ·skip
  refine kc_exit (kq_code (kc_seq (kc_region (kl_mv rfl (kl_len rfl (by assumption) (fun l25 => ?_))))))
  refine kl_leq rfl rfl ?_
  refine kl_as rfl (kl_nil (kq_code (kc_ret (kq_retP rfl rfl (congrArg Value.bool ?_)))))
  exact cl_yesS (k := k) (by omega) hi2
end Go.Proofs.YtojinjdobjodaaaGreat
