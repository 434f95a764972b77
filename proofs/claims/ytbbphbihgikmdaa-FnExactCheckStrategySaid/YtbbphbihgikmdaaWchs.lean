/- Walks of functions of the program: each returns what the plain function gives. Conditions: those that each statement names. -/
import Derived.Test.YtbbphbihgikmdaaWswin
import Derived.Test.YtbbphbihgikmdaaWwalk
import Derived.Test.YtbbphbihgikmdaaWis
import Derived.Test.YtbbphbihgikmdaaPureC
namespace Go.Proofs.Ytbbphbihgikmdaa
open Go
set_option linter.unusedSimpArgs false
set_option linter.unusedVariables false
theorem lexLess_ok {Ha : Hp} {va : Value} {Hb : Hp} {vb : Value} (a : List Int) (b : List Int) (hl : a.length = b.length) (ha : Ints Ha va a) (hb : Ints Hb vb b) : SpecP Try.prog 60 [va, vb] [Ha, Hb] (.bool (decide (lexC a b < 0))) := by
 refine spec_of Try.func60 rfl rfl rfl (fun B => ?_)
 refine kc_seq (kc_region ?_)
 refine kl_as rfl ?_
 refine kl_nil (kq_code ?_)
 refine kc_seq ?_
 refine kc_seq (kc_region ?_)
 refine kl_as rfl ?_
 refine kl_nil (kq_code ?_)
 refine kc_block ?_
 refine kc_loop0 (A := Nat) (fun zz => (zz ≤ a.length) ∧ (a.take zz = b.take zz)) (fun zz => a.length - zz) (fun zz => [(5, .int .i64 (zz : Int))]) (0) (pc 0 rfl (pc 1 rfl pn)) (pc 5 rfl pn) ⟨Nat.zero_le _, rfl⟩ ?_
 rintro k hJ3
 obtain ⟨hk1, hi2⟩ : (k ≤ a.length) ∧ (a.take k = b.take k) := hJ3
 change KC _ _ (_) _ _ ([(5, .int .i64 (k : Int))] ++ _)
 refine kc_seq ?_
 refine kc_seq (kc_region ?_)
 refine kl_mv rfl ?_
 refine kl_mv rfl ?_
 refine kl_len rfl (by assumption) (fun l4 => ?_)
 refine kl_lss rfl rfl ?_
 refine kl_nil (kq_code ?_)
 refine kc_if rfl (fun c5 => ?_) (fun c5 => ?_)
 ·skip
  refine kc_skipQ ?_
  refine kq_code ?_
  refine kc_seq ?_
  refine kc_block ?_
  refine kc_seq ?_
  refine kc_draw 9 [true, true, true, true, true, true, true, true, true] (by kernel_rfl) (by kernel_rfl) ?_
  refine kl_mv rfl ?_
  refine kl_mv rfl ?_
  refine kl_inI rfl rfl (by assumption) (by omega) (fun p6 a7 => ?_)
  refine kl_ld rfl (by assumption) ?_
  refine kl_mv rfl ?_
  refine kl_mv rfl ?_
  refine kl_inI rfl rfl (by assumption) (by omega) (fun p8 a9 => ?_)
  refine kl_ld rfl (by assumption) ?_
  refine kl_neq rfl rfl ?_
  refine kl_nil (kq_code ?_)
  refine kc_if rfl (fun c10 => ?_) (fun c10 => ?_)
  ·skip
   refine kc_seq ?_
   refine kc_draw 10 [true, true, true, true, true, true, true, true, true, true] (by kernel_rfl) (by kernel_rfl) ?_
   refine kl_mv rfl ?_
   refine kl_mv rfl ?_
   refine kl_inI rfl rfl (by assumption) (by omega) (fun p11 a12 => ?_)
   refine kl_ld rfl (by assumption) ?_
   refine kl_mv rfl ?_
   refine kl_mv rfl ?_
   refine kl_inI rfl rfl (by assumption) (by omega) (fun p13 a14 => ?_)
   refine kl_ld rfl (by assumption) ?_
   refine kl_lss rfl rfl ?_
   refine kl_as rfl ?_
   refine kl_nil (kq_code ?_)
   refine kc_ret ?_
   refine kq_retP rfl rfl (congrArg Value.bool ?_)
   exact lexl_hit hl (by omega) hi2 (by assumption)
  ·skip
   refine kc_skipQ ?_
   refine kq_code ?_
   refine kc_region ?_
   refine kl_mv rfl ?_
   refine kl_inc rfl rfl (by omega) ?_
   refine kl_as rfl ?_
   refine kl_nil ?_
   refine kq_round0 ((k + 1)) (by omega) (⟨by omega, lexC_step hl (by omega) hi2 (by rw [show a.getD k 0 = b.getD k 0 from Decidable.not_not.1 (by assumption), cmpI_s])⟩) (pc 5 rfl pn) (pc 0 rfl (pc 1 rfl pn)) (List.Sublist.refl _)
 ·skip
  refine kc_exit ?_
  refine kq_code ?_
  refine kc_seq (kc_region ?_)
  refine kl_as rfl ?_
  refine kl_nil (kq_code ?_)
  refine kc_ret ?_
  refine kq_retP rfl rfl (congrArg Value.bool ?_)
  exact lexl_end hl (by omega) hi2
theorem valsAfter_ok {Hl : Hp} {vl : Value} {Hx : Hp} {vx : Value} (l : List (List Int)) (x : List Int) (hP : ∀ r ∈ l, x.length < r.length ∧ Vals r) (hl : Rows Hl vl l) (hx : Ints Hx vx x) : Spec Try.prog 112 [vl, vx] [Hl, Hx] (fun Hq vq => Ints Hq vq (valsI (takM (preL l x) x.length))) := by
 refine spec_of Try.func112 rfl rfl rfl (fun B => ?_)
 refine kc_seq (kc_region ?_)
 refine kl_as rfl ?_
 refine kl_nil (kq_code (kc_seq (kc_region ?_)))
 refine kl_mv rfl ?_
 refine kl_len rfl (by assumption) (fun l1 => ?_)
 refine kl_as rfl ?_
 refine kl_nil (kq_code (kc_seq (kc_region ?_)))
 refine kl_as rfl ?_
 refine kl_nil (kq_code ?_)
 refine kc_seq ?_
 refine kc_seq (kc_region ?_)
 refine kl_as rfl ?_
 refine kl_nil (kq_code ?_)
 refine kc_block ?_
 refine kc_loop0 (A := Nat × Int) (fun zz => (zz.1 ≤ l.length) ∧ (zz.2 = takM (preL (l.take zz.1) x) x.length)) (fun zz => l.length - zz.1) (fun zz => [(7, .int .i64 (zz.1 : Int)), (6, .int .i64 zz.2)]) (0, (0 : Int)) (pc 0 rfl (pc 1 rfl (pc 4 rfl (pc 5 rfl pn)))) (pc 7 rfl (pc 6 rfl pn)) ⟨Nat.zero_le _, (takM_0 _).symm⟩ ?_
 rintro ⟨k, d⟩ hJ4
 obtain ⟨hk2, hi3⟩ : (k ≤ l.length) ∧ (d = takM (preL (l.take k) x) x.length) := hJ4
 change KC _ _ (_) _ _ ([(7, .int .i64 (k : Int)), (6, .int .i64 d)] ++ _)
 refine kc_seq ?_
 refine kc_seq (kc_region ?_)
 refine kl_mv rfl ?_
 refine kl_mv rfl ?_
 refine kl_len rfl (by assumption) (fun l5 => ?_)
 refine kl_lss rfl rfl ?_
 refine kl_nil (kq_code ?_)
 refine kc_if rfl (fun c6 => ?_) (fun c6 => ?_)
 ·skip
  have hr := hP _ (getD_mem (d := []) (by omega : k < l.length))
  have hv := hr.2.at (k := x.length) hr.1
  have hsl := shl_le hv
  have htk := takM_in (preL (l.take k) x) x.length
  rw [← hi3] at htk
  refine kc_skipQ ?_
  refine kq_code ?_
  refine kc_seq ?_
  refine kc_block ?_
  refine kc_seq (kc_region ?_)
  refine kl_mv rfl ?_
  refine kl_mv rfl ?_
  refine kl_inS rfl rfl (by assumption) (by omega) (fun p7 u9 h10 a8 => ?_)
  refine kl_ld rfl (by assumption) ?_
  refine kl_mv rfl ?_
  refine kl_slTake rfl rfl (by assumption) (by omega) (fun u11 h12 => ?_)
  refine kl_mv rfl ?_
  refine kl_callP rfl rfl (sequal_ok ((l.getD k []).take x.length) x (by assumption) (by assumption)) ?_
  refine kl_mv rfl ?_
  refine kl_join 11 35 (.bool ((decide (((l.getD k []).take x.length) = x)) && !(withinB ((l.getD k []).getD x.length 0) 0 5 && hasB d ((l.getD k []).getD x.length 0)))) (pc 0 rfl (pc 1 rfl (pc 4 rfl (pc 5 rfl (pc 6 rfl (pc 7 rfl (pc 10 rfl (pc 11 rfl (pc 12 rfl (pc 13 rfl (pc 16 rfl (pc 17 rfl (pc 18 rfl (pc 19 rfl (pc 20 rfl (pc 21 rfl (pc 22 rfl (pc 23 rfl (pc 24 rfl pn))))))))))))))))))) (fun J20 => ?_) ?_
  ·rcases Bool.eq_false_or_eq_true (decide (((l.getD k []).take x.length) = x)) with g13 | g13
   ·skip
    have g13p := g13
    try simp only [Bool.not_eq_true', Bool.not_eq_false', decide_eq_true_eq, decide_eq_false_iff_not, Bool.and_eq_true, Bool.or_eq_false_iff, withinB_iff] at g13p
    refine kl_gT rfl rfl g13 ?_
    refine kl_mv rfl ?_
    refine kl_gT rfl rfl g13 ?_
    refine kl_mv rfl ?_
    refine kl_gT rfl rfl g13 ?_
    refine kl_mv rfl ?_
    refine kl_gT rfl rfl g13 ?_
    refine kl_inS rfl rfl (by assumption) (by omega) (fun p14 u16 h17 a15 => ?_)
    refine kl_gT rfl rfl g13 ?_
    refine kl_ld rfl (by assumption) ?_
    refine kl_gT rfl rfl g13 ?_
    refine kl_mv rfl ?_
    refine kl_gT rfl rfl g13 ?_
    refine kl_inI rfl rfl (by assumption) (by omega) (fun p18 a19 => ?_)
    refine kl_gT rfl rfl g13 ?_
    refine kl_ld rfl (by assumption) ?_
    refine kl_gT rfl rfl g13 ?_
    refine kl_callP rfl rfl (domainHas_ok d ((l.getD k []).getD x.length 0)) ?_
    refine kl_gT rfl rfl g13 ?_
    refine kl_not rfl ?_
    refine kl_andT rfl rfl g13 ?_
    exact J20 _ (pc 35 rfl (pc 0 rfl (pc 1 rfl (pc 4 rfl (pc 5 rfl (pc 6 rfl (pc 7 rfl (pc 10 rfl (pc 11 rfl (pc 12 rfl (pc 13 rfl (pc 16 rfl (pc 17 rfl (pc 18 rfl (pc 19 rfl (pc 20 rfl (pc 21 rfl (pc 22 rfl (pc 23 rfl (pc 24 rfl pn))))))))))))))))))))
   ·skip
    refine kl_gF rfl rfl g13 ?_
    refine kl_gF rfl rfl g13 ?_
    refine kl_gF rfl rfl g13 ?_
    refine kl_gF rfl rfl g13 ?_
    refine kl_gF rfl rfl g13 ?_
    refine kl_gF rfl rfl g13 ?_
    refine kl_gF rfl rfl g13 ?_
    refine kl_gF rfl rfl g13 ?_
    refine kl_gF rfl rfl g13 ?_
    refine kl_gF rfl rfl g13 ?_
    refine kl_andF (!(withinB ((l.getD k []).getD x.length 0) 0 5 && hasB d ((l.getD k []).getD x.length 0))) rfl rfl g13 ?_
    exact J20 _ (pc 35 rfl (pc 0 rfl (pc 1 rfl (pc 4 rfl (pc 5 rfl (pc 6 rfl (pc 7 rfl (pc 10 rfl (pc 11 rfl (pc 12 rfl (pc 13 rfl (pc 16 rfl (pc 17 rfl (pc 18 rfl (pc 19 rfl (pc 20 rfl (pc 21 rfl (pc 22 rfl (pc 23 rfl (pc 24 rfl pn))))))))))))))))))))
  refine kl_nil (kq_code ?_)
  refine kc_cond rfl (fun c21 => ?_) (fun c21 => ?_)
  ·skip
   have c21r := c21
   try simp only [Bool.not_eq_true', Bool.not_eq_false', Bool.not_true, Bool.not_false, decide_eq_true_eq, decide_eq_false_iff_not, Bool.and_eq_true, Bool.or_eq_false_iff] at c21
   refine kc_region ?_
   refine kl_mv rfl ?_
   refine kl_mv rfl ?_
   refine kl_mv rfl ?_
   refine kl_inS rfl rfl (by assumption) (by omega) (fun p22 u24 h25 a23 => ?_)
   refine kl_ld rfl (by assumption) ?_
   refine kl_mv rfl ?_
   refine kl_inI rfl rfl (by assumption) (by omega) (fun p26 a27 => ?_)
   refine kl_ld rfl (by assumption) ?_
   refine kl_shl rfl rfl (by omega) ?_
   refine kl_add rfl rfl (by omega) ?_
   refine kl_as rfl ?_
   refine kl_nil (kq_code ?_)
   refine kc_region ?_
   refine kl_mv rfl ?_
   refine kl_inc rfl rfl (by omega) ?_
   refine kl_as rfl ?_
   refine kl_nil ?_
   refine kq_round0 ((k + 1), (d + (ishl (1 : Int) ((l.getD k []).getD x.length 0)))) (by omega) (⟨by omega, (by first | exact takP_T (by omega) hi3 hv (by assumption) | exact takP_F (by omega) hi3 hv (by assumption))⟩) (pc 7 rfl (pc 6 rfl pn)) (pc 0 rfl (pc 1 rfl (pc 4 rfl (pc 5 rfl pn)))) (List.Sublist.refl _)
  ·skip
   have c21r := c21
   try simp only [Bool.not_eq_true', Bool.not_eq_false', Bool.not_true, Bool.not_false, decide_eq_true_eq, decide_eq_false_iff_not, Bool.and_eq_true, Bool.or_eq_false_iff] at c21
   refine kc_skipQ ?_
   refine kq_code ?_
   refine kc_region ?_
   refine kl_mv rfl ?_
   refine kl_inc rfl rfl (by omega) ?_
   refine kl_as rfl ?_
   refine kl_nil ?_
   refine kq_round0 ((k + 1), d) (by omega) (⟨by omega, (by first | exact takP_T (by omega) hi3 hv (by assumption) | exact takP_F (by omega) hi3 hv (by assumption))⟩) (pc 7 rfl (pc 6 rfl pn)) (pc 0 rfl (pc 1 rfl (pc 4 rfl (pc 5 rfl pn)))) (List.Sublist.refl _)
 ·skip
  refine kc_exit ?_
  refine kq_code ?_
  refine kc_seq (kc_region ?_)
  refine kl_mv rfl ?_
  refine kl_call rfl rfl (domainValues_ok d) (fun v28 H29 f30 h31 => ?_)
  refine kl_as rfl ?_
  refine kl_nil (kq_code ?_)
  refine kc_ret ?_
  have e9 : (valsI d) = valsI (takM (preL l x) x.length) := by rw [hi3, List.take_of_length_le (by omega)]
  exact kq_ret rfl rfl H29 f30 (e9 ▸ (by assumption : Ints _ _ (valsI d)))
abbrev isStratSt (k : Nat) : Prop := ∀ {Hmd : Hp} {vmd : Value} {Hmc : Hp} {vmc : Value} {Hfa : Hp} {vfa : Value} {Hl : Hp} {vl : Value} {Hx : Hp} {vx : Value} (m : Mod) (fa : List Bool) (l : List (List Int)) (x : List Int) (hM : MOk m) (hf : fa.length = m.doms.length) (hl : x.length + k = m.doms.length) (hX : Vals x) (hP : ∀ r ∈ l, r.length = m.doms.length ∧ Vals r) (hmd : Ints Hmd vmd m.doms) (hmc : Cons Hmc vmc m.cons) (hfa : Bools Hfa vfa fa) (hl : Rows Hl vl l) (hx : Ints Hx vx x), SpecP Try.prog 61 [.agg #[vmd, vmc], vfa, vl, vx] [Hmd, Hmc, Hfa, Hl, Hx] (.bool (stratB m fa l k x))
theorem isStrat_step (k : Nat) (ih : ∀ j, j < k → isStratSt j) : isStratSt k := by
 intro Hmd vmd Hmc vmc Hfa vfa Hl vl Hx vx m fa l x hM hf hl hX hP hmd hmc hfa hl hx
 refine spec_of Try.func61 rfl rfl rfl (fun B => ?_)
 refine kc_seq (kc_region ?_)
 refine kl_box rfl rfl (fun p1 H2 f3 a4 => ?_)
 refine kl_as rfl ?_
 refine kl_nil (kq_code (kc_seq (kc_region ?_)))
 refine kl_mv rfl ?_
 refine kl_len rfl (by assumption) (fun l5 => ?_)
 refine kl_as rfl ?_
 refine kl_nil (kq_code ?_)
 refine kc_seq ?_
 refine kc_seq (kc_region ?_)
 refine kl_mv rfl ?_
 refine kl_fd rfl (by assumption) (fun p6 a7 => ?_)
 refine kl_ld rfl (by assumption) ?_
 refine kl_len rfl (by assumption) (fun l8 => ?_)
 refine kl_eql rfl rfl ?_
 refine kl_nil (kq_code ?_)
 refine kc_if rfl (fun c9 => ?_) (fun c9 => ?_)
 ·skip
  have hk0 : k = 0 := by omega
  subst hk0
  refine kc_seq (kc_region ?_)
  refine kl_ldS rfl (by assumption) rfl ?_
  refine kl_mv rfl ?_
  refine kl_callP rfl rfl (satisfiesAll_ok m x hM (by omega) hX (by assumption) (by assumption) (by assumption)) ?_
  refine kl_as rfl ?_
  refine kl_nil (kq_code ?_)
  refine kc_ret ?_
  refine kq_retP rfl rfl (congrArg Value.bool ?_)
  first | rfl | exact strat_no (by assumption) | exact strat_at1 (q := q) (by omega) (by assumption) | exact strat_at2 (q := q) (by omega) (by assumption) | exact strat_yes hcc (by omega) hnone
 ·skip
  obtain ⟨j, rfl⟩ : ∃ j, k = j + 1 := ⟨k - 1, by omega⟩
  have hn := hM.n
  refine kc_skipQ ?_
  refine kq_code ?_
  refine kc_seq (kc_region ?_)
  refine kl_mv rfl ?_
  refine kl_mv rfl ?_
  refine kl_call rfl rfl (valsAfter_ok l x (fun r hr => ⟨by have := (hP r hr).1; omega, (hP r hr).2⟩) (by assumption) (by assumption)) (fun v10 H11 f12 h13 => ?_)
  refine kl_as rfl ?_
  refine kl_nil (kq_code ?_)
  refine kc_seq ?_
  refine kc_seq (kc_region ?_)
  refine kl_mv rfl ?_
  refine kl_mv rfl ?_
  refine kl_inB rfl rfl (by assumption) (by omega) (fun p14 a15 => ?_)
  refine kl_ld rfl (by assumption) ?_
  refine kl_mv rfl ?_
  refine kl_join 10 39 (.bool ((fa.getD x.length false) && !(decide ((valsI (takM (preL l x) x.length)) = (valsI (m.doms.getD x.length 0)))))) (pc 1 rfl (pc 2 rfl (pc 3 rfl (pc 4 rfl (pc 8 rfl (pc 9 rfl (pc 10 rfl (pc 29 rfl pn)))))))) (fun J25 => ?_) ?_
  ·rcases Bool.eq_false_or_eq_true (fa.getD x.length false) with g16 | g16
   ·skip
    have g16p := g16
    try simp only [Bool.not_eq_true', Bool.not_eq_false', decide_eq_true_eq, decide_eq_false_iff_not, Bool.and_eq_true, Bool.or_eq_false_iff, withinB_iff] at g16p
    refine kl_gT rfl rfl g16 ?_
    refine kl_mv rfl ?_
    refine kl_gT rfl rfl g16 ?_
    refine kl_fd rfl (by assumption) (fun p17 a18 => ?_)
    refine kl_gT rfl rfl g16 ?_
    refine kl_ld rfl (by assumption) ?_
    refine kl_gT rfl rfl g16 ?_
    refine kl_mv rfl ?_
    refine kl_gT rfl rfl g16 ?_
    refine kl_inI rfl rfl (by assumption) (by omega) (fun p19 a20 => ?_)
    refine kl_gT rfl rfl g16 ?_
    refine kl_ld rfl (by assumption) ?_
    refine kl_gT rfl rfl g16 ?_
    refine kl_call rfl rfl (domainValues_ok (m.doms.getD x.length 0)) (fun v21 H22 f23 h24 => ?_)
    refine kl_gT rfl rfl g16 ?_
    refine kl_callP rfl rfl (sequal_ok (valsI (takM (preL l x) x.length)) (valsI (m.doms.getD x.length 0)) (by assumption) (by assumption)) ?_
    refine kl_gT rfl rfl g16 ?_
    refine kl_not rfl ?_
    refine kl_andT rfl rfl g16 ?_
    exact kl_fg (List.Sublist.refl _) (J25 _ (pc 39 rfl (pc 1 rfl (pc 2 rfl (pc 3 rfl (pc 4 rfl (pc 8 rfl (pc 9 rfl (pc 10 rfl (pc 29 rfl pn))))))))))
   ·skip
    refine kl_gF rfl rfl g16 ?_
    refine kl_gF rfl rfl g16 ?_
    refine kl_gF rfl rfl g16 ?_
    refine kl_gF rfl rfl g16 ?_
    refine kl_gF rfl rfl g16 ?_
    refine kl_gF rfl rfl g16 ?_
    refine kl_gF rfl rfl g16 ?_
    refine kl_gF rfl rfl g16 ?_
    refine kl_gF rfl rfl g16 ?_
    refine kl_andF (!(decide ((valsI (takM (preL l x) x.length)) = (valsI (m.doms.getD x.length 0))))) rfl rfl g16 ?_
    exact J25 _ (pc 39 rfl (pc 1 rfl (pc 2 rfl (pc 3 rfl (pc 4 rfl (pc 8 rfl (pc 9 rfl (pc 10 rfl (pc 29 rfl pn)))))))))
  refine kl_mv rfl ?_
  refine kl_join 11 51 (.bool (((fa.getD x.length false) && !(decide ((valsI (takM (preL l x) x.length)) = (valsI (m.doms.getD x.length 0))))) || (!(fa.getD x.length false) && decide (((valsI (takM (preL l x) x.length)).length : Int) ≠ (1 : Int))))) (pc 1 rfl (pc 2 rfl (pc 3 rfl (pc 4 rfl (pc 8 rfl (pc 9 rfl (pc 10 rfl (pc 40 rfl pn)))))))) (fun J32 => ?_) ?_
  ·rcases Bool.eq_false_or_eq_true ((fa.getD x.length false) && !(decide ((valsI (takM (preL l x) x.length)) = (valsI (m.doms.getD x.length 0))))) with g26 | g26
   ·skip
    refine kl_gF rfl rfl g26 ?_
    refine kl_gF rfl rfl g26 ?_
    refine kl_gF rfl rfl g26 ?_
    refine kl_gF rfl rfl g26 ?_
    refine kl_gF rfl rfl g26 ?_
    refine kl_gF rfl rfl g26 ?_
    refine kl_gU rfl rfl ?_
    refine kl_gU rfl rfl ?_
    refine kl_gU rfl rfl ?_
    refine kl_gF rfl rfl g26 ?_
    refine kl_orT (!(fa.getD x.length false) && decide (((valsI (takM (preL l x) x.length)).length : Int) ≠ (1 : Int))) rfl rfl g26 ?_
    exact J32 _ (pc 51 rfl (pc 1 rfl (pc 2 rfl (pc 3 rfl (pc 4 rfl (pc 8 rfl (pc 9 rfl (pc 10 rfl (pc 40 rfl pn)))))))))
   ·skip
    have g26p := g26
    try simp only [Bool.not_eq_true', Bool.not_eq_false', decide_eq_true_eq, decide_eq_false_iff_not, Bool.and_eq_true, Bool.or_eq_false_iff, withinB_iff] at g26p
    refine kl_gT rfl rfl g26 ?_
    refine kl_mv rfl ?_
    refine kl_gT rfl rfl g26 ?_
    refine kl_mv rfl ?_
    refine kl_gT rfl rfl g26 ?_
    refine kl_inB rfl rfl (by assumption) (by omega) (fun p27 a28 => ?_)
    refine kl_gT rfl rfl g26 ?_
    refine kl_ld rfl (by assumption) ?_
    refine kl_gT rfl rfl g26 ?_
    refine kl_not rfl ?_
    refine kl_gT rfl rfl g26 ?_
    refine kl_mv rfl ?_
    refine kl_join 4 50 (.bool (!(fa.getD x.length false) && decide (((valsI (takM (preL l x) x.length)).length : Int) ≠ (1 : Int)))) (pc 1 rfl (pc 2 rfl (pc 3 rfl (pc 4 rfl (pc 8 rfl (pc 9 rfl (pc 10 rfl (pc 40 rfl (pc 46 rfl pn))))))))) (fun J31 => ?_) ?_
    ·rcases Bool.eq_false_or_eq_true (!(fa.getD x.length false)) with g29 | g29
     ·skip
      have g29p := g29
      try simp only [Bool.not_eq_true', Bool.not_eq_false', decide_eq_true_eq, decide_eq_false_iff_not, Bool.and_eq_true, Bool.or_eq_false_iff, withinB_iff] at g29p
      refine kl_gT rfl rfl g29 ?_
      refine kl_mv rfl ?_
      refine kl_gT rfl rfl g29 ?_
      refine kl_len rfl (by assumption) (fun l30 => ?_)
      refine kl_gT rfl rfl g29 ?_
      refine kl_neq rfl rfl ?_
      refine kl_gT rfl rfl g26 ?_
      refine kl_andT rfl rfl g29 ?_
      exact J31 _ (pc 50 rfl (pc 1 rfl (pc 2 rfl (pc 3 rfl (pc 4 rfl (pc 8 rfl (pc 9 rfl (pc 10 rfl (pc 40 rfl (pc 46 rfl pn))))))))))
     ·skip
      refine kl_gF rfl rfl g29 ?_
      refine kl_gF rfl rfl g29 ?_
      refine kl_gF rfl rfl g29 ?_
      refine kl_gT rfl rfl g26 ?_
      refine kl_andF (decide (((valsI (takM (preL l x) x.length)).length : Int) ≠ (1 : Int))) rfl rfl g29 ?_
      exact J31 _ (pc 50 rfl (pc 1 rfl (pc 2 rfl (pc 3 rfl (pc 4 rfl (pc 8 rfl (pc 9 rfl (pc 10 rfl (pc 40 rfl (pc 46 rfl pn))))))))))
    refine kl_orF rfl rfl g26 ?_
    exact J32 _ (pc 51 rfl (pc 1 rfl (pc 2 rfl (pc 3 rfl (pc 4 rfl (pc 8 rfl (pc 9 rfl (pc 10 rfl (pc 40 rfl pn)))))))))
  refine kl_nil (kq_code ?_)
  refine kc_cond rfl (fun c33 => ?_) (fun c33 => ?_)
  ·skip
   have c33r := c33
   try simp only [Bool.not_eq_true', Bool.not_eq_false', Bool.not_true, Bool.not_false, decide_eq_true_eq, decide_eq_false_iff_not, Bool.and_eq_true, Bool.or_eq_false_iff] at c33
   refine kc_seq (kc_region ?_)
   refine kl_as rfl ?_
   refine kl_nil (kq_code ?_)
   refine kc_ret ?_
   refine kq_retP rfl rfl (congrArg Value.bool ?_)
   first | rfl | exact strat_no (by assumption) | exact strat_at1 (q := q) (by omega) (by assumption) | exact strat_at2 (q := q) (by omega) (by assumption) | exact strat_yes hcc (by omega) hnone
  ·skip
   have c33r := c33
   try simp only [Bool.not_eq_true', Bool.not_eq_false', Bool.not_true, Bool.not_false, decide_eq_true_eq, decide_eq_false_iff_not, Bool.and_eq_true, Bool.or_eq_false_iff] at c33
   have hcc := c33r
   refine kc_skipQ ?_
   refine kq_code ?_
   refine kc_seq ?_
   refine kc_seq (kc_region ?_)
   refine kl_as rfl ?_
   refine kl_nil (kq_code ?_)
   refine kc_block ?_
   refine kc_loop0 (A := Nat) (fun zz => (zz ≤ (valsI (takM (preL l x) x.length)).length) ∧ (((valsI (takM (preL l x) x.length)).take zz).all (fun v => (withinB v 0 5 && hasB (m.doms.getD x.length 0) v) && stratB m fa l j (x ++ [v])) = true)) (fun zz => (valsI (takM (preL l x) x.length)).length - zz) (fun zz => [(11, .int .i64 (zz : Int))]) (0) (pc 1 rfl (pc 2 rfl (pc 3 rfl (pc 4 rfl (pc 9 rfl (pc 10 rfl pn)))))) (pc 11 rfl pn) ⟨Nat.zero_le _, by simp⟩ ?_
   rintro q hJ36
   obtain ⟨hk34, hi35⟩ : (q ≤ (valsI (takM (preL l x) x.length)).length) ∧ (((valsI (takM (preL l x) x.length)).take q).all (fun v => (withinB v 0 5 && hasB (m.doms.getD x.length 0) v) && stratB m fa l j (x ++ [v])) = true) := hJ36
   change KC _ _ (_) _ _ ([(11, .int .i64 (q : Int))] ++ _)
   refine kc_seq ?_
   refine kc_seq (kc_region ?_)
   refine kl_mv rfl ?_
   refine kl_mv rfl ?_
   refine kl_len rfl (by assumption) (fun l37 => ?_)
   refine kl_lss rfl rfl ?_
   refine kl_nil (kq_code ?_)
   refine kc_if rfl (fun c38 => ?_) (fun c38 => ?_)
   ·skip
    have hv := valsI_mem (getD_mem (d := (0 : Int)) (by omega : q < (valsI (takM (preL l x) x.length)).length))
    refine kc_skipQ ?_
    refine kq_code ?_
    refine kc_seq ?_
    refine kc_block ?_
    refine kc_seq ?_
    refine kc_tree (fun i => ([9, 23] : List Nat).contains i) [] (by kernel_rfl) ?_
    refine kt_q 0 (List.nil_sublist _) rfl (by kernel_rfl) ?_
    refine kl_fd rfl (by assumption) (fun p39 a40 => ?_)
    refine kl_nil (kq_q ?_)
    refine kt_q 1 (List.nil_sublist _) rfl (by kernel_rfl) ?_
    refine kl_ld rfl (by assumption) ?_
    refine kl_nil (kq_q ?_)
    refine kt_q 2 (List.nil_sublist _) rfl (by kernel_rfl) ?_
    refine kl_mv rfl ?_
    refine kl_nil (kq_q ?_)
    refine kt_q 3 (List.nil_sublist _) rfl (by kernel_rfl) ?_
    refine kl_inI rfl rfl (by assumption) (by omega) (fun p41 a42 => ?_)
    refine kl_nil (kq_q ?_)
    refine kt_q 4 (List.nil_sublist _) rfl (by kernel_rfl) ?_
    refine kl_ld rfl (by assumption) ?_
    refine kl_nil (kq_q ?_)
    refine kt_q 5 (List.nil_sublist _) rfl (by kernel_rfl) ?_
    refine kl_mv rfl ?_
    refine kl_nil (kq_q ?_)
    refine kt_q 6 (List.nil_sublist _) rfl (by kernel_rfl) ?_
    refine kl_mv rfl ?_
    refine kl_nil (kq_q ?_)
    refine kt_q 7 (List.nil_sublist _) rfl (by kernel_rfl) ?_
    refine kl_inI rfl rfl (by assumption) (by omega) (fun p43 a44 => ?_)
    refine kl_nil (kq_q ?_)
    refine kt_q 8 (List.nil_sublist _) rfl (by kernel_rfl) ?_
    refine kl_ld rfl (by assumption) ?_
    refine kl_nil (kq_q ?_)
    refine kt_a 9 rfl (by kernel_rfl) ?_
    refine kl_callP rfl rfl (domainHas_ok (m.doms.getD x.length 0) ((valsI (takM (preL l x) x.length)).getD q 0)) ?_
    refine kl_nil (kq_x rfl ?_)
    refine kt_q 10 (List.nil_sublist _) rfl (by kernel_rfl) ?_
    refine kl_not rfl ?_
    refine kl_nil (kq_q ?_)
    refine kt_q 11 (List.nil_sublist _) rfl (by kernel_rfl) ?_
    refine kl_mv rfl ?_
    refine kl_nil (kq_q ?_)
    rcases Bool.eq_false_or_eq_true (!(withinB ((valsI (takM (preL l x) x.length)).getD q 0) 0 5 && hasB (m.doms.getD x.length 0) ((valsI (takM (preL l x) x.length)).getD q 0))) with g45 | g45
    ·skip
     have g45p := g45
     refine kt_q 12 (List.nil_sublist _) rfl (by kernel_rfl) ?_
     refine kl_gF rfl rfl g45 ?_
     refine kl_nil (kq_q ?_)
     refine kt_q 13 (List.nil_sublist _) rfl (by kernel_rfl) ?_
     refine kl_gF rfl rfl g45 ?_
     refine kl_nil (kq_q ?_)
     refine kt_q 14 (List.nil_sublist _) rfl (by kernel_rfl) ?_
     refine kl_gF rfl rfl g45 ?_
     refine kl_nil (kq_q ?_)
     refine kt_q 15 (List.nil_sublist _) rfl (by kernel_rfl) ?_
     refine kl_gF rfl rfl g45 ?_
     refine kl_nil (kq_q ?_)
     refine kt_q 17 (List.nil_sublist _) rfl (by kernel_rfl) ?_
     refine kl_gF rfl rfl g45 ?_
     refine kl_nil (kq_q ?_)
     refine kt_q 18 (List.nil_sublist _) rfl (by kernel_rfl) ?_
     refine kl_gF rfl rfl g45 ?_
     refine kl_nil (kq_q ?_)
     refine kt_q 19 (List.nil_sublist _) rfl (by kernel_rfl) ?_
     refine kl_gF rfl rfl g45 ?_
     refine kl_nil (kq_q ?_)
     refine kt_q 20 (List.nil_sublist _) rfl (by kernel_rfl) ?_
     refine kl_gF rfl rfl g45 ?_
     refine kl_nil (kq_q ?_)
     refine kt_b 16 21 rfl rfl (by kernel_rfl) ?_ ?_
     ·skip
      refine kl_gF rfl rfl g45 ?_
      refine kl_nil (kq_a (List.nil_sublist _) ?_)
      refine kt_a 21 rfl (by kernel_rfl) ?_
      refine kl_gF rfl rfl g45 ?_
      refine kl_nil (kq_a (List.nil_sublist _) ?_)
      refine kt_a 22 rfl (by kernel_rfl) ?_
      refine kl_gF rfl rfl g45 ?_
      refine kl_nil (kq_a (List.nil_sublist _) ?_)
      refine kt_a 23 rfl (by kernel_rfl) ?_
      refine kl_gF rfl rfl g45 ?_
      refine kl_nil (kq_x rfl ?_)
      refine kt_q 24 (List.nil_sublist _) rfl (by kernel_rfl) ?_
      refine kl_gF rfl rfl g45 ?_
      refine kl_nil (kq_q ?_)
      refine kt_q 25 (List.nil_sublist _) rfl (by kernel_rfl) ?_
      refine kl_pickT rfl g45 rfl ?_
      refine kl_nil (kq_q ?_)
      refine kt_end (by kernel_rfl) ?_
      refine kq_code ?_
      refine kc_cond rfl (fun c46 => ?_) (fun c46 => ?_)
      ·skip
       have c46r := c46
       try simp only [Bool.not_eq_true', Bool.not_eq_false', Bool.not_true, Bool.not_false, decide_eq_true_eq, decide_eq_false_iff_not, Bool.and_eq_true, Bool.or_eq_false_iff] at c46
       refine kc_seq (kc_region ?_)
       refine kl_as rfl ?_
       refine kl_nil (kq_code ?_)
       refine kc_ret ?_
       refine kq_retP rfl rfl (congrArg Value.bool ?_)
       first | rfl | exact strat_no (by assumption) | exact strat_at1 (q := q) (by omega) (by assumption) | exact strat_at2 (q := q) (by omega) (by assumption) | exact strat_yes hcc (by omega) hi35
      ·skip
       have c46r := c46
       try simp only [Bool.not_eq_true', Bool.not_eq_false', Bool.not_true, Bool.not_false, decide_eq_true_eq, decide_eq_false_iff_not, Bool.and_eq_true, Bool.or_eq_false_iff] at c46
       exact absurd c46 (by decide)
     ·skip
      refine kl_gF rfl rfl g45 ?_
      refine kl_nil (kq_a (List.nil_sublist _) ?_)
      refine kt_a 16 rfl (by kernel_rfl) ?_
      refine kl_gF rfl rfl g45 ?_
      refine kl_nil (kq_a (List.nil_sublist _) ?_)
      refine kt_a 22 rfl (by kernel_rfl) ?_
      refine kl_gF rfl rfl g45 ?_
      refine kl_nil (kq_a (List.nil_sublist _) ?_)
      refine kt_a 23 rfl (by kernel_rfl) ?_
      refine kl_gF rfl rfl g45 ?_
      refine kl_nil (kq_x rfl ?_)
      refine kt_q 24 (List.nil_sublist _) rfl (by kernel_rfl) ?_
      refine kl_gF rfl rfl g45 ?_
      refine kl_nil (kq_q ?_)
      refine kt_q 25 (List.nil_sublist _) rfl (by kernel_rfl) ?_
      refine kl_pickT rfl g45 rfl ?_
      refine kl_nil (kq_q ?_)
      refine kt_end (by kernel_rfl) ?_
      refine kq_code ?_
      refine kc_cond rfl (fun c47 => ?_) (fun c47 => ?_)
      ·skip
       have c47r := c47
       try simp only [Bool.not_eq_true', Bool.not_eq_false', Bool.not_true, Bool.not_false, decide_eq_true_eq, decide_eq_false_iff_not, Bool.and_eq_true, Bool.or_eq_false_iff] at c47
       refine kc_seq (kc_region ?_)
       refine kl_as rfl ?_
       refine kl_nil (kq_code ?_)
       refine kc_ret ?_
       refine kq_retP rfl rfl (congrArg Value.bool ?_)
       first | rfl | exact strat_no (by assumption) | exact strat_at1 (q := q) (by omega) (by assumption) | exact strat_at2 (q := q) (by omega) (by assumption) | exact strat_yes hcc (by omega) hi35
      ·skip
       have c47r := c47
       try simp only [Bool.not_eq_true', Bool.not_eq_false', Bool.not_true, Bool.not_false, decide_eq_true_eq, decide_eq_false_iff_not, Bool.and_eq_true, Bool.or_eq_false_iff] at c47
       exact absurd c47 (by decide)
    ·skip
     have g45p := g45
     refine kt_q 12 (List.nil_sublist _) rfl (by kernel_rfl) ?_
     refine kl_gT rfl rfl g45 ?_
     refine kl_ldS rfl (by assumption) rfl ?_
     refine kl_nil (kq_q ?_)
     refine kt_q 13 (List.nil_sublist _) rfl (by kernel_rfl) ?_
     refine kl_gT rfl rfl g45 ?_
     refine kl_mv rfl ?_
     refine kl_nil (kq_q ?_)
     refine kt_q 14 (List.nil_sublist _) rfl (by kernel_rfl) ?_
     refine kl_gT rfl rfl g45 ?_
     refine kl_mv rfl ?_
     refine kl_nil (kq_q ?_)
     refine kt_q 15 (List.nil_sublist _) rfl (by kernel_rfl) ?_
     refine kl_gT rfl rfl g45 ?_
     refine kl_mv rfl ?_
     refine kl_nil (kq_q ?_)
     refine kt_q 17 (List.nil_sublist _) rfl (by kernel_rfl) ?_
     refine kl_gT rfl rfl g45 ?_
     refine kl_mv rfl ?_
     refine kl_nil (kq_q ?_)
     refine kt_q 18 (List.nil_sublist _) rfl (by kernel_rfl) ?_
     refine kl_gT rfl rfl g45 ?_
     refine kl_mv rfl ?_
     refine kl_nil (kq_q ?_)
     refine kt_q 19 (List.nil_sublist _) rfl (by kernel_rfl) ?_
     refine kl_gT rfl rfl g45 ?_
     refine kl_inI rfl rfl (by assumption) (by omega) (fun p48 a49 => ?_)
     refine kl_nil (kq_q ?_)
     refine kt_q 20 (List.nil_sublist _) rfl (by kernel_rfl) ?_
     refine kl_gT rfl rfl g45 ?_
     refine kl_ld rfl (by assumption) ?_
     refine kl_nil (kq_q ?_)
     refine kt_b 16 21 rfl rfl (by kernel_rfl) ?_ ?_
     ·skip
      refine kl_gT rfl rfl g45 ?_
      refine kl_callL rfl rfl (copyInts_ok x (by omega) (by assumption)) (fun v50 H51 f52 o53 => ?_)
      refine kl_nil (kq_a (List.nil_sublist _) ?_)
      refine kt_a 21 rfl (by kernel_rfl) ?_
      refine kl_gT rfl rfl g45 ?_
      refine kl_bs rfl rfl rfl (by decide) (ca rfl ca_nil) (fun v54 H55 f56 r57 s58 => ?_)
      have h59 : Ints H55 v54 [((valsI (takM (preL l x) x.length)).getD q 0)] := litInts (xs := [((valsI (takM (preL l x) x.length)).getD q 0)]) (by simpa using s58)
      refine kl_nil (kq_a (List.nil_sublist _) ?_)
      refine kt_a 22 rfl (by kernel_rfl) ?_
      refine kl_gT rfl rfl g45 ?_
      refine kl_apL ((valsI (takM (preL l x) x.length)).getD q 0) rfl rfl o53 (by assumption) rfl (oc rfl oc_nil) (by omega) (by decide) (fun v60 H61 o62 f63 => ?_)
      have f64 := f63 B f52 (Nat.le_refl _)
      refine kl_nil (kq_a (List.nil_sublist _) ?_)
      refine kt_a 23 rfl (by kernel_rfl) ?_
      refine kl_gT rfl rfl g45 ?_
      refine kl_callP rfl rfl (ih j (by omega) m fa l (x ++ [((valsI (takM (preL l x) x.length)).getD q 0)]) hM hf (by simp; omega) (hX.snoc hv) hP (by assumption) (by assumption) (by assumption) (by assumption) (OwnL.ints o62)) ?_
      refine kl_nil (kq_x rfl ?_)
      refine kt_q 24 (List.nil_sublist _) rfl (by kernel_rfl) ?_
      refine kl_gT rfl rfl g45 ?_
      refine kl_not rfl ?_
      refine kl_nil (kq_q ?_)
      refine kt_q 25 (List.nil_sublist _) rfl (by kernel_rfl) ?_
      refine kl_pickF rfl g45 rfl ?_
      refine kl_nil (kq_q ?_)
      refine kt_end (by kernel_rfl) ?_
      refine kq_code ?_
      refine kc_cond rfl (fun c65 => ?_) (fun c65 => ?_)
      ·skip
       have c65r := c65
       try simp only [Bool.not_eq_true', Bool.not_eq_false', Bool.not_true, Bool.not_false, decide_eq_true_eq, decide_eq_false_iff_not, Bool.and_eq_true, Bool.or_eq_false_iff] at c65
       refine kc_seq (kc_region ?_)
       refine kl_as rfl ?_
       refine kl_nil (kq_code ?_)
       refine kc_ret ?_
       refine kq_retP rfl rfl (congrArg Value.bool ?_)
       first | rfl | exact strat_no (by assumption) | exact strat_at1 (q := q) (by omega) (by assumption) | exact strat_at2 (q := q) (by omega) (by assumption) | exact strat_yes hcc (by omega) hi35
      ·skip
       have c65r := c65
       try simp only [Bool.not_eq_true', Bool.not_eq_false', Bool.not_true, Bool.not_false, decide_eq_true_eq, decide_eq_false_iff_not, Bool.and_eq_true, Bool.or_eq_false_iff] at c65
       refine kc_skipQ ?_
       refine kq_code ?_
       refine kc_region ?_
       refine kl_mv rfl ?_
       refine kl_inc rfl rfl (by omega) ?_
       refine kl_as rfl ?_
       refine kl_nil ?_
       refine kq_round0 ((q + 1)) (by omega) (⟨by omega, strat_step (by omega) hi35 (by assumption) (by assumption)⟩) (pc 11 rfl pn) (pc 1 rfl (pc 2 rfl (pc 3 rfl (pc 4 rfl (pc 9 rfl (pc 10 rfl pn)))))) (.cons _ (List.Sublist.refl _))
     ·skip
      refine kl_gT rfl rfl g45 ?_
      refine kl_bs rfl rfl rfl (by decide) (ca rfl ca_nil) (fun v66 H67 f68 r69 s70 => ?_)
      have h71 : Ints H67 v66 [((valsI (takM (preL l x) x.length)).getD q 0)] := litInts (xs := [((valsI (takM (preL l x) x.length)).getD q 0)]) (by simpa using s70)
      refine kl_nil (kq_a (List.nil_sublist _) ?_)
      refine kt_a 16 rfl (by kernel_rfl) ?_
      refine kl_gT rfl rfl g45 ?_
      refine kl_callL rfl rfl (copyInts_ok x (by omega) (by assumption)) (fun v72 H73 f74 o75 => ?_)
      refine kl_nil (kq_a (List.nil_sublist _) ?_)
      refine kt_a 22 rfl (by kernel_rfl) ?_
      refine kl_gT rfl rfl g45 ?_
      refine kl_apL ((valsI (takM (preL l x) x.length)).getD q 0) rfl rfl o75 (by assumption) rfl (oc rfl oc_nil) (by omega) (by decide) (fun v76 H77 o78 f79 => ?_)
      have f80 := f79 B f74 (Nat.le_refl _)
      refine kl_nil (kq_a (List.nil_sublist _) ?_)
      refine kt_a 23 rfl (by kernel_rfl) ?_
      refine kl_gT rfl rfl g45 ?_
      refine kl_callP rfl rfl (ih j (by omega) m fa l (x ++ [((valsI (takM (preL l x) x.length)).getD q 0)]) hM hf (by simp; omega) (hX.snoc hv) hP (by assumption) (by assumption) (by assumption) (by assumption) (OwnL.ints o78)) ?_
      refine kl_nil (kq_x rfl ?_)
      refine kt_q 24 (List.nil_sublist _) rfl (by kernel_rfl) ?_
      refine kl_gT rfl rfl g45 ?_
      refine kl_not rfl ?_
      refine kl_nil (kq_q ?_)
      refine kt_q 25 (List.nil_sublist _) rfl (by kernel_rfl) ?_
      refine kl_pickF rfl g45 rfl ?_
      refine kl_nil (kq_q ?_)
      refine kt_end (by kernel_rfl) ?_
      refine kq_code ?_
      refine kc_cond rfl (fun c81 => ?_) (fun c81 => ?_)
      ·skip
       have c81r := c81
       try simp only [Bool.not_eq_true', Bool.not_eq_false', Bool.not_true, Bool.not_false, decide_eq_true_eq, decide_eq_false_iff_not, Bool.and_eq_true, Bool.or_eq_false_iff] at c81
       refine kc_seq (kc_region ?_)
       refine kl_as rfl ?_
       refine kl_nil (kq_code ?_)
       refine kc_ret ?_
       refine kq_retP rfl rfl (congrArg Value.bool ?_)
       first | rfl | exact strat_no (by assumption) | exact strat_at1 (q := q) (by omega) (by assumption) | exact strat_at2 (q := q) (by omega) (by assumption) | exact strat_yes hcc (by omega) hi35
      ·skip
       have c81r := c81
       try simp only [Bool.not_eq_true', Bool.not_eq_false', Bool.not_true, Bool.not_false, decide_eq_true_eq, decide_eq_false_iff_not, Bool.and_eq_true, Bool.or_eq_false_iff] at c81
       refine kc_skipQ ?_
       refine kq_code ?_
       refine kc_region ?_
       refine kl_mv rfl ?_
       refine kl_inc rfl rfl (by omega) ?_
       refine kl_as rfl ?_
       refine kl_nil ?_
       refine kq_round0 ((q + 1)) (by omega) (⟨by omega, strat_step (by omega) hi35 (by assumption) (by assumption)⟩) (pc 11 rfl pn) (pc 1 rfl (pc 2 rfl (pc 3 rfl (pc 4 rfl (pc 9 rfl (pc 10 rfl pn)))))) (.cons _ (List.Sublist.refl _))
   ·skip
    refine kc_exit ?_
    refine kq_code ?_
    refine kc_seq (kc_region ?_)
    refine kl_as rfl ?_
    refine kl_nil (kq_code ?_)
    refine kc_ret ?_
    refine kq_retP rfl rfl (congrArg Value.bool ?_)
    first | rfl | exact strat_no (by assumption) | exact strat_at1 (q := q) (by omega) (by assumption) | exact strat_at2 (q := q) (by omega) (by assumption) | exact strat_yes hcc (by omega) hi35
theorem isStrat_ok (k : Nat) : isStratSt k := by
 induction k using Nat.strongRecOn with
 | _ k ih => exact @isStrat_step k ih
theorem chkSpc_ok {Hmd : Hp} {vmd : Value} {Hmc : Hp} {vmc : Value} {Hfa : Hp} {vfa : Value} {Hl : Hp} {vl : Value} (m : Mod) (fa : List Bool) (l : List (List Int)) (hmd : Ints Hmd vmd m.doms) (hmc : Cons Hmc vmc m.cons) (hfa : Bools Hfa vfa fa) (hl : Rows Hl vl l) : SpecP Try.prog 20 [.agg #[vmd, vmc], vfa, vl] [Hmd, Hmc, Hfa, Hl] (.bool (chkS m fa l)) := by
 refine spec_of Try.func20 rfl rfl rfl (fun B => ?_)
 refine kc_seq (kc_region ?_)
 refine kl_box rfl rfl (fun p1 H2 f3 a4 => ?_)
 refine kl_as rfl ?_
 refine kl_nil (kq_code ?_)
 refine kc_seq ?_
 refine kc_seq (kc_region ?_)
 refine kl_ldS rfl (by assumption) rfl ?_
 refine kl_mv rfl ?_
 refine kl_callP rfl rfl (validQuantifiers_ok m fa (by assumption) (by assumption) (by assumption)) ?_
 refine kl_not rfl ?_
 refine kl_mv rfl ?_
 refine kl_join 4 16 (.bool (!(fOkB m fa) || (m.doms.contains 0))) (pc 1 rfl (pc 2 rfl (pc 3 rfl (pc 6 rfl (pc 12 rfl pn))))) (fun J8 => ?_) ?_
 ·rcases Bool.eq_false_or_eq_true (!(fOkB m fa)) with g5 | g5
  ·skip
   refine kl_gF rfl rfl g5 ?_
   refine kl_gF rfl rfl g5 ?_
   refine kl_gF rfl rfl g5 ?_
   refine kl_orT (m.doms.contains 0) rfl rfl g5 ?_
   exact J8 _ (pc 16 rfl (pc 1 rfl (pc 2 rfl (pc 3 rfl (pc 6 rfl (pc 12 rfl pn))))))
  ·skip
   have g5p := g5
   try simp only [Bool.not_eq_true', Bool.not_eq_false', decide_eq_true_eq, decide_eq_false_iff_not, Bool.and_eq_true, Bool.or_eq_false_iff, withinB_iff] at g5p
   refine kl_gT rfl rfl g5 ?_
   refine kl_fd rfl (by assumption) (fun p6 a7 => ?_)
   refine kl_gT rfl rfl g5 ?_
   refine kl_ld rfl (by assumption) ?_
   refine kl_gT rfl rfl g5 ?_
   refine kl_callP rfl rfl (hasEmpty_ok m.doms (by assumption)) ?_
   refine kl_orF rfl rfl g5 ?_
   exact J8 _ (pc 16 rfl (pc 1 rfl (pc 2 rfl (pc 3 rfl (pc 6 rfl (pc 12 rfl pn))))))
 refine kl_nil (kq_code ?_)
 refine kc_cond rfl (fun c9 => ?_) (fun c9 => ?_)
 ·skip
  have c9r := c9
  try simp only [Bool.not_eq_true', Bool.not_eq_false', Bool.not_true, Bool.not_false, decide_eq_true_eq, decide_eq_false_iff_not, Bool.and_eq_true, Bool.or_eq_false_iff] at c9
  refine kc_seq (kc_region ?_)
  refine kl_as rfl ?_
  refine kl_nil (kq_code ?_)
  refine kc_ret ?_
  refine kq_retP rfl rfl (congrArg Value.bool ?_)
  first | exact chkS_0 (by assumption) | exact chkS_at (k := k) (by omega) (by rw [plS_c (b := true) (by simp_all)]; rfl) | exact chkS_end hc0 (by omega) hnone
 ·skip
  have c9r := c9
  try simp only [Bool.not_eq_true', Bool.not_eq_false', Bool.not_true, Bool.not_false, decide_eq_true_eq, decide_eq_false_iff_not, Bool.and_eq_true, Bool.or_eq_false_iff] at c9
  have hc0 := c9r
  obtain ⟨hg, hz, hM, hfl⟩ := chkS_go hc0
  have hn := hM.n
  refine kc_skipQ ?_
  refine kq_code ?_
  refine kc_seq ?_
  refine kc_seq (kc_region ?_)
  refine kl_as rfl ?_
  refine kl_nil (kq_code ?_)
  refine kc_block ?_
  refine kc_loop0 (A := Nat) (fun zz => (zz ≤ l.length) ∧ (plTo (plS m l) zz = true)) (fun zz => l.length - zz) (fun zz => [(7, .int .i64 (zz : Int))]) (0) (pc 1 rfl (pc 2 rfl (pc 3 rfl pn))) (pc 7 rfl pn) ⟨Nat.zero_le _, rfl⟩ ?_
  rintro k hJ12
  obtain ⟨hk10, hi11⟩ : (k ≤ l.length) ∧ (plTo (plS m l) k = true) := hJ12
  change KC _ _ (_) _ _ ([(7, .int .i64 (k : Int))] ++ _)
  refine kc_seq ?_
  refine kc_seq (kc_region ?_)
  refine kl_mv rfl ?_
  refine kl_mv rfl ?_
  refine kl_len rfl (by assumption) (fun l13 => ?_)
  refine kl_lss rfl rfl ?_
  refine kl_nil (kq_code ?_)
  refine kc_if rfl (fun c14 => ?_) (fun c14 => ?_)
  ·skip
   refine kc_skipQ ?_
   refine kq_code ?_
   refine kc_seq ?_
   refine kc_block ?_
   refine kc_seq ?_
   refine kc_draw 24 [true, true, true, true, true, false, true, true, true, true, true, true, true, true, true, true, true, true, true, true, false, true, true, true] (by kernel_rfl) (by kernel_rfl) ?_
   refine kl_ldS rfl (by assumption) rfl ?_
   refine kl_mv rfl ?_
   refine kl_mv rfl ?_
   refine kl_inS rfl rfl (by assumption) (by omega) (fun p15 u17 h18 a16 => ?_)
   refine kl_ld rfl (by assumption) ?_
   refine kl_callP rfl rfl (validAsg_ok m (l.getD k []) (by assumption) (by assumption) (by assumption)) ?_
   refine kl_not rfl ?_
   refine kl_mv rfl ?_
   refine kl_join 16 46 (.bool (!(decide (((l.getD k []).length : Int) = (m.doms.length : Int)) && allInB (l.getD k []) 0 5) || (decide ((0 : Int) < (k : Int)) && !(decide (lexC (l.getD ((k : Int) - (1 : Int)).toNat []) (l.getD k []) < 0))))) (pc 1 rfl (pc 2 rfl (pc 3 rfl (pc 7 rfl (pc 17 rfl (pc 18 rfl (pc 19 rfl (pc 20 rfl (pc 23 rfl (pc 24 rfl (pc 25 rfl (pc 26 rfl (pc 27 rfl (pc 28 rfl (pc 29 rfl (pc 30 rfl pn)))))))))))))))) (fun J30 => ?_) ?_
   ·rcases Bool.eq_false_or_eq_true (!(decide (((l.getD k []).length : Int) = (m.doms.length : Int)) && allInB (l.getD k []) 0 5)) with g19 | g19
    ·skip
     refine kl_gF rfl rfl g19 ?_
     refine kl_gF rfl rfl g19 ?_
     refine kl_gF rfl rfl g19 ?_
     refine kl_gU rfl rfl ?_
     refine kl_gU rfl rfl ?_
     refine kl_gU rfl rfl ?_
     refine kl_gU rfl rfl ?_
     refine kl_gU rfl rfl ?_
     refine kl_gU rfl rfl ?_
     refine kl_gU rfl rfl ?_
     refine kl_gU rfl rfl ?_
     refine kl_gU rfl rfl ?_
     refine kl_gU rfl rfl ?_
     refine kl_gU rfl rfl ?_
     refine kl_gF rfl rfl g19 ?_
     refine kl_orT (decide ((0 : Int) < (k : Int)) && !(decide (lexC (l.getD ((k : Int) - (1 : Int)).toNat []) (l.getD k []) < 0))) rfl rfl g19 ?_
     exact J30 _ (pc 46 rfl (pc 1 rfl (pc 2 rfl (pc 3 rfl (pc 7 rfl (pc 17 rfl (pc 18 rfl (pc 19 rfl (pc 20 rfl (pc 23 rfl (pc 24 rfl (pc 25 rfl (pc 26 rfl (pc 27 rfl (pc 28 rfl (pc 29 rfl (pc 30 rfl pn)))))))))))))))))
    ·skip
     have g19p := g19
     try simp only [Bool.not_eq_true', Bool.not_eq_false', decide_eq_true_eq, decide_eq_false_iff_not, Bool.and_eq_true, Bool.or_eq_false_iff, withinB_iff] at g19p
     refine kl_gT rfl rfl g19 ?_
     refine kl_mv rfl ?_
     refine kl_gT rfl rfl g19 ?_
     refine kl_gtr rfl rfl ?_
     refine kl_gT rfl rfl g19 ?_
     refine kl_mv rfl ?_
     refine kl_join 12 45 (.bool (decide ((0 : Int) < (k : Int)) && !(decide (lexC (l.getD ((k : Int) - (1 : Int)).toNat []) (l.getD k []) < 0)))) (pc 1 rfl (pc 2 rfl (pc 3 rfl (pc 7 rfl (pc 17 rfl (pc 18 rfl (pc 19 rfl (pc 20 rfl (pc 23 rfl (pc 24 rfl (pc 25 rfl (pc 26 rfl (pc 27 rfl (pc 28 rfl (pc 29 rfl (pc 30 rfl (pc 31 rfl (pc 32 rfl (pc 33 rfl pn))))))))))))))))))) (fun J29 => ?_) ?_
     ·rcases Bool.eq_false_or_eq_true (decide ((0 : Int) < (k : Int))) with g20 | g20
      ·skip
       have g20p := of_decide_eq_true g20
       refine kl_gT rfl rfl g20 ?_
       refine kl_mv rfl ?_
       refine kl_gT rfl rfl g20 ?_
       refine kl_mv rfl ?_
       refine kl_gT rfl rfl g20 ?_
       refine kl_sub rfl rfl (by omega) ?_
       refine kl_gT rfl rfl g20 ?_
       refine kl_ixS rfl rfl (by assumption) (by omega) (by omega) (fun p21 u23 h24 a22 => ?_)
       refine kl_gT rfl rfl g20 ?_
       refine kl_ld rfl (by assumption) ?_
       refine kl_gT rfl rfl g20 ?_
       refine kl_mv rfl ?_
       refine kl_gT rfl rfl g20 ?_
       refine kl_mv rfl ?_
       refine kl_gT rfl rfl g20 ?_
       refine kl_inS rfl rfl (by assumption) (by omega) (fun p25 u27 h28 a26 => ?_)
       refine kl_gT rfl rfl g20 ?_
       refine kl_ld rfl (by assumption) ?_
       refine kl_gT rfl rfl g20 ?_
       refine kl_callP rfl rfl (lexLess_ok (l.getD ((k : Int) - (1 : Int)).toNat []) (l.getD k []) (by rw [(pl_lenS hi11 (j := ((k : Int) - 1).toNat) (by omega)).1, (asg_nn (m := m) (x := l.getD k []) (by assumption)).1]) (by assumption) (by assumption)) ?_
       refine kl_gT rfl rfl g20 ?_
       refine kl_not rfl ?_
       refine kl_gT rfl rfl g19 ?_
       refine kl_andT rfl rfl g20 ?_
       exact J29 _ (pc 45 rfl (pc 1 rfl (pc 2 rfl (pc 3 rfl (pc 7 rfl (pc 17 rfl (pc 18 rfl (pc 19 rfl (pc 20 rfl (pc 23 rfl (pc 24 rfl (pc 25 rfl (pc 26 rfl (pc 27 rfl (pc 28 rfl (pc 29 rfl (pc 30 rfl (pc 31 rfl (pc 32 rfl (pc 33 rfl pn))))))))))))))))))))
      ·skip
       refine kl_gF rfl rfl g20 ?_
       refine kl_gF rfl rfl g20 ?_
       refine kl_gF rfl rfl g20 ?_
       refine kl_gF rfl rfl g20 ?_
       refine kl_gF rfl rfl g20 ?_
       refine kl_gF rfl rfl g20 ?_
       refine kl_gF rfl rfl g20 ?_
       refine kl_gF rfl rfl g20 ?_
       refine kl_gF rfl rfl g20 ?_
       refine kl_gF rfl rfl g20 ?_
       refine kl_gF rfl rfl g20 ?_
       refine kl_gT rfl rfl g19 ?_
       refine kl_andF (!(decide (lexC (l.getD ((k : Int) - (1 : Int)).toNat []) (l.getD k []) < 0))) rfl rfl g20 ?_
       exact J29 _ (pc 45 rfl (pc 1 rfl (pc 2 rfl (pc 3 rfl (pc 7 rfl (pc 17 rfl (pc 18 rfl (pc 19 rfl (pc 20 rfl (pc 23 rfl (pc 24 rfl (pc 25 rfl (pc 26 rfl (pc 27 rfl (pc 28 rfl (pc 29 rfl (pc 30 rfl (pc 31 rfl (pc 32 rfl (pc 33 rfl pn))))))))))))))))))))
     refine kl_orF rfl rfl g19 ?_
     exact J30 _ (pc 46 rfl (pc 1 rfl (pc 2 rfl (pc 3 rfl (pc 7 rfl (pc 17 rfl (pc 18 rfl (pc 19 rfl (pc 20 rfl (pc 23 rfl (pc 24 rfl (pc 25 rfl (pc 26 rfl (pc 27 rfl (pc 28 rfl (pc 29 rfl (pc 30 rfl pn)))))))))))))))))
   refine kl_nil (kq_code ?_)
   refine kc_cond rfl (fun c31 => ?_) (fun c31 => ?_)
   ·skip
    have c31r := c31
    try simp only [Bool.not_eq_true', Bool.not_eq_false', Bool.not_true, Bool.not_false, decide_eq_true_eq, decide_eq_false_iff_not, Bool.and_eq_true, Bool.or_eq_false_iff] at c31
    refine kc_seq (kc_region ?_)
    refine kl_as rfl ?_
    refine kl_nil (kq_code ?_)
    refine kc_ret ?_
    refine kq_retP rfl rfl (congrArg Value.bool ?_)
    first | exact chkS_0 (by assumption) | exact chkS_at (k := k) (by omega) (by rw [plS_c (b := true) (by simp_all)]; rfl) | exact chkS_end hc0 (by omega) hi11
   ·skip
    have c31r := c31
    try simp only [Bool.not_eq_true', Bool.not_eq_false', Bool.not_true, Bool.not_false, decide_eq_true_eq, decide_eq_false_iff_not, Bool.and_eq_true, Bool.or_eq_false_iff] at c31
    refine kc_skipQ ?_
    refine kq_code ?_
    refine kc_region ?_
    refine kl_mv rfl ?_
    refine kl_inc rfl rfl (by omega) ?_
    refine kl_as rfl ?_
    refine kl_nil ?_
    refine kq_round0 ((k + 1)) (by omega) (⟨by omega, plTo_step hi11 (by rw [plS_c (by first | assumption | (simp_all; done))]; rfl)⟩) (pc 7 rfl pn) (pc 1 rfl (pc 2 rfl (pc 3 rfl pn))) (List.Sublist.refl _)
  ·skip
   refine kc_exit ?_
   refine kq_code ?_
   refine kc_seq (kc_region ?_)
   refine kl_ldS rfl (by assumption) rfl ?_
   refine kl_mv rfl ?_
   refine kl_mv rfl ?_
   refine kl_bsI [] rfl rfl rfl (by decide) (fun v32 H33 f34 o35 => ?_)
   refine kl_callP rfl rfl (isStrat_ok m.doms.length m fa l ([]) hM hfl (by simp) vals_nil (pl_allS hi11 (by omega)) (by assumption) (by assumption) (by assumption) (by assumption) (OwnL.ints o35)) ?_
   refine kl_as rfl ?_
   refine kl_nil (kq_code ?_)
   refine kc_ret ?_
   refine kq_retP rfl rfl (congrArg Value.bool ?_)
   first | exact chkS_0 (by assumption) | exact chkS_at (k := k) (by omega) (by rw [plS_c (b := true) (by simp_all)]; rfl) | exact chkS_end hc0 (by omega) hi11
end Go.Proofs.Ytbbphbihgikmdaa
