/- Walks of functions of the program: each returns what the plain function gives. Conditions: those that each statement names. -/
import Derived.Test.YtidllhcfcmjggaaWsat
import Derived.Test.YtidllhcfcmjggaaPureJ
namespace Go.Proofs.Ytidllhcfcmjggaa
open Go
set_option linter.unusedSimpArgs false
set_option linter.unusedVariables false
theorem best_ok {Hxs : Hp} {vxs : Value} {gp : Nat} {capsp : Array Value} {imp : List Hp} [FnC Try.prog gp] (xs : List (List Int)) (p : List Int → Int) (hn : ∀ x ∈ xs, x ≠ []) (hl : ∀ x ∈ xs, x.length ≤ 4) (hxs : Rows Hxs vxs xs) (hp : ∀ (H : Hp) (u : Value) (r : List Int), r ∈ xs → Ints H u r → SpecP Try.prog gp (u :: capsp.toList) (H :: imp) (.int .i64 (p r))) : Spec Try.prog 38 [vxs, .func (.func gp) #[] capsp] (Hxs :: imp) (fun Hq vq => ∃ uq0 : Value, vq = .tuple #[uq0, .bool ((bestI p xs).2)] ∧ Ints Hq uq0 ((bestI p xs).1)) := by
 refine spec_of Try.func38 rfl rfl rfl (fun B => ?_)
 refine kc_seq (kc_region ?_)
 refine kl_as rfl ?_
 refine kl_as rfl ?_
 refine kl_nil (kq_code (kc_seq (kc_region ?_)))
 refine kl_as rfl ?_
 refine kl_nil (kq_code (kc_seq (kc_region ?_)))
 refine kl_as rfl ?_
 refine kl_nil (kq_code ?_)
 refine kc_seq ?_
 refine kc_seq (kc_region ?_)
 refine kl_mv rfl ?_
 refine kl_len rfl (by assumption) (fun l1 => ?_)
 refine kl_mv rfl ?_
 refine kl_nil (kq_code ?_)
 refine kc_block ?_
 refine kc_loop0 (A := Nat × Int × List Int × Value) (fun zz => (zz.1 ≤ xs.length) ∧ ((zz.2.2.1, zz.2.1) = bestTo p xs zz.1 ∧ (zz.1 = 0 → zz.2.2.2 = .slice none 0 0)) ∧ Ints Hxs zz.2.2.2 zz.2.2.1) (fun zz => xs.length - zz.1) (fun zz => [(13, .int .i64 (zz.1 : Int)), (7, .int .i64 zz.2.1), (6, zz.2.2.2)]) (0, (0 : Int), [], (.slice none 0 0)) (pc 1 rfl (pc 4 rfl (pc 5 rfl (pc 11 rfl (pc 12 rfl pn))))) (pc 13 rfl (pc 7 rfl (pc 6 rfl pn))) ⟨Nat.zero_le _, ⟨rfl, fun _ => rfl⟩, Sl.nil⟩ ?_
 rintro ⟨k, s, o, vo⟩ hJ5
 obtain ⟨hk2, hi3, h4⟩ : (k ≤ xs.length) ∧ ((o, s) = bestTo p xs k ∧ (k = 0 → vo = .slice none 0 0)) ∧ Ints Hxs vo o := hJ5
 change KC _ _ (_) _ _ ([(13, .int .i64 (k : Int)), (7, .int .i64 s), (6, vo)] ++ _)
 refine kc_seq (kc_region ?_)
 refine kl_lss rfl rfl ?_
 refine kl_nil (kq_code ?_)
 refine kc_seq ?_
 refine kc_if rfl (fun c6 => ?_) (fun c6 => ?_)
 ·skip
  have hk9 : k < xs.length := (by omega)
  refine kc_skipQ ?_
  refine kq_code ?_
  refine kc_seq ?_
  refine kc_block ?_
  refine kc_seq (kc_region ?_)
  refine kl_inS rfl rfl (by assumption) (by omega) (fun p7 u9 h10 a8 => ?_)
  refine kl_ld rfl (by assumption) ?_
  refine kl_as rfl ?_
  refine kl_nil (kq_code (kc_seq (kc_region ?_)))
  refine kl_mv rfl ?_
  refine kl_mv rfl ?_
  refine kl_callP rfl rfl (hp _ _ (xs.getD k []) (getD_mem (by omega)) (by assumption)) ?_
  refine kl_as rfl ?_
  refine kl_nil (kq_code (kc_seq (kc_region ?_)))
  refine kl_mv rfl ?_
  refine kl_eqlnilX rfl rfl (by assumption) (fun bn nn nx => ?_)
  refine kl_mv rfl ?_
  refine kl_join 4 26 (.bool (bn || decide ((p (xs.getD k [])) < s))) (pc 1 rfl (pc 4 rfl (pc 5 rfl (pc 6 rfl (pc 7 rfl (pc 9 rfl (pc 10 rfl (pc 11 rfl (pc 12 rfl (pc 13 rfl (pc 14 rfl (pc 15 rfl (pc 16 rfl (pc 17 rfl (pc 18 rfl (pc 19 rfl (pc 20 rfl (pc 21 rfl (pc 22 rfl pn))))))))))))))))))) (fun J14 => ?_) ?_
  ·rcases Bool.eq_false_or_eq_true bn with g13 | g13
   ·skip
    refine kl_gF rfl rfl g13 ?_
    refine kl_gF rfl rfl g13 ?_
    refine kl_gF rfl rfl g13 ?_
    refine kl_orT (decide ((p (xs.getD k [])) < s)) rfl rfl g13 ?_
    exact J14 _ (pc 26 rfl (pc 1 rfl (pc 4 rfl (pc 5 rfl (pc 6 rfl (pc 7 rfl (pc 9 rfl (pc 10 rfl (pc 11 rfl (pc 12 rfl (pc 13 rfl (pc 14 rfl (pc 15 rfl (pc 16 rfl (pc 17 rfl (pc 18 rfl (pc 19 rfl (pc 20 rfl (pc 21 rfl (pc 22 rfl pn))))))))))))))))))))
   ·skip
    have g13p := g13
    try simp only [Bool.not_eq_true', Bool.not_eq_false', decide_eq_true_eq, decide_eq_false_iff_not, Bool.and_eq_true, Bool.or_eq_false_iff, withinB_iff] at g13p
    refine kl_gT rfl rfl g13 ?_
    refine kl_mv rfl ?_
    refine kl_gT rfl rfl g13 ?_
    refine kl_mv rfl ?_
    refine kl_gT rfl rfl g13 ?_
    refine kl_lss rfl rfl ?_
    refine kl_orF rfl rfl g13 ?_
    exact J14 _ (pc 26 rfl (pc 1 rfl (pc 4 rfl (pc 5 rfl (pc 6 rfl (pc 7 rfl (pc 9 rfl (pc 10 rfl (pc 11 rfl (pc 12 rfl (pc 13 rfl (pc 14 rfl (pc 15 rfl (pc 16 rfl (pc 17 rfl (pc 18 rfl (pc 19 rfl (pc 20 rfl (pc 21 rfl (pc 22 rfl pn))))))))))))))))))))
  refine kl_nil (kq_code ?_)
  refine kc_cond rfl (fun c15 => ?_) (fun c15 => ?_)
  ·skip
   have c15r := c15
   try simp only [Bool.not_eq_true', Bool.not_eq_false', Bool.not_true, Bool.not_false, decide_eq_true_eq, decide_eq_false_iff_not, Bool.and_eq_true, Bool.or_eq_false_iff] at c15
   refine kc_region ?_
   refine kl_mv rfl ?_
   refine kl_mv rfl ?_
   refine kl_as rfl ?_
   refine kl_as rfl ?_
   refine kl_nil (kq_code ?_)
   refine kc_region ?_
   refine kl_inc rfl rfl (by omega) ?_
   refine kl_mv rfl ?_
   refine kl_nil ?_
   refine kq_round0 ((k + 1), (p (xs.getD k [])), (xs.getD k []), u9) (by omega) (⟨by omega, (by first | exact ⟨br_T hi3.1 hn hk9 nn (by assumption), fun h => absurd h (by omega)⟩ | exact ⟨br_F hi3.1 (fun h => nx (hi3.2 h)) (by assumption), fun h => absurd h (by omega)⟩ | skip), (by assumption)⟩) (pc 13 rfl (pc 7 rfl (pc 6 rfl pn))) (pc 1 rfl (pc 4 rfl (pc 5 rfl (pc 11 rfl (pc 12 rfl pn))))) (List.Sublist.refl _)
  ·skip
   have c15r := c15
   try simp only [Bool.not_eq_true', Bool.not_eq_false', Bool.not_true, Bool.not_false, decide_eq_true_eq, decide_eq_false_iff_not, Bool.and_eq_true, Bool.or_eq_false_iff] at c15
   refine kc_skipQ ?_
   refine kq_code ?_
   refine kc_region ?_
   refine kl_inc rfl rfl (by omega) ?_
   refine kl_mv rfl ?_
   refine kl_nil ?_
   refine kq_round0 ((k + 1), s, o, vo) (by omega) (⟨by omega, (by first | exact ⟨br_T hi3.1 hn hk9 nn (by assumption), fun h => absurd h (by omega)⟩ | exact ⟨br_F hi3.1 (fun h => nx (hi3.2 h)) (by assumption), fun h => absurd h (by omega)⟩ | skip), (by assumption)⟩) (pc 13 rfl (pc 7 rfl (pc 6 rfl pn))) (pc 1 rfl (pc 4 rfl (pc 5 rfl (pc 11 rfl (pc 12 rfl pn))))) (List.Sublist.refl _)
 ·skip
  have hk8 : k = xs.length := (by omega)
  refine kc_exit ?_
  refine kq_code ?_
  refine kc_seq (kc_region ?_)
  refine kl_mv rfl ?_
  refine kl_call rfl rfl (copied_ok o (best_cp hl hi3.1 (by omega)) (by assumption)) (fun v16 H17 f18 o19 => ?_)
  have h20 := OwnL.ints o19
  refine kl_mv rfl ?_
  refine kl_neqnilX rfl rfl (by assumption) (fun bn nn nx => ?_)
  refine kl_as rfl ?_
  refine kl_as rfl ?_
  refine kl_nil (kq_code ?_)
  refine kc_ret ?_
  refine kq_ret2 rfl rfl rfl H17 f18 ⟨_, tup2 rfl (congrArg Value.bool (by exact (best_b hi3.1 (by omega) hn nn (fun h => nx (hi3.2 h))).symm)), ?_⟩
  exact (by have e9 : (bestI p xs).1 = o := (by exact best_o hi3.1 (by omega)); rw [e9]; assumption)
end Go.Proofs.Ytidllhcfcmjggaa
