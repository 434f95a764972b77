/- Walks of functions of the program: each returns what the plain function gives. Conditions: those that each statement names. -/
import Derived.Test.YtkfioalfofoikaaGreatWas
import Derived.Test.YtkfioalfofoikaaGreatWset
import Derived.Test.YtkfioalfofoikaaGreatWlns
import Derived.Test.YtkfioalfofoikaaGreatWwalk
import Derived.Test.YtkfioalfofoikaaGreatWfl
namespace Go.Proofs.YtkfioalfofoikaaGreat
open Go
set_option linter.unusedSimpArgs false
set_option linter.unusedVariables false
theorem lawFnLn_ok {Hcode : Hp} {vcode : Value} (code : List Int) (hcode : Bytes Hcode vcode code) : SpecP Tryz.prog 4 [vcode] [Hcode] (.bool true) := by
 refine spec_of Tryz.func4 rfl rfl rfl (fun B => ?_)
 refine kc_seq (kc_region (kl_as rfl (kl_nil (kq_code (kc_seq (kc_seq (kc_region (kl_mv rfl (kl_len rfl (by assumption) (fun l1 => ?_))))))))))
 refine kl_gtr rfl rfl ?_
 refine kl_nil (kq_code (kc_if rfl (fun c2 => ?_) (fun c2 => ?_)))
 ·skip
  refine kc_seq (kc_region (kl_as rfl (kl_nil (kq_code (kc_ret (kq_retP rfl rfl (congrArg Value.bool ?_)))))))
  first | rfl | (simp; done) | exact ln_finV hgo
 ·skip
  refine kc_skipQ (kq_code (kc_seq (kc_region (kl_mv rfl (kl_call rfl rfl (drawLn_ok code hcode) (fun v3 H4 f5 h6 => ?_))))))
  obtain ⟨z9, z14, z17, z20, u10, u11, u15, u18, rfl, h12, h13, h16, h19, h8⟩ := h6
  have hsm := h8
  refine kl_mv rfl (kl_xt rfl rfl (kl_xt rfl rfl (kl_xt rfl rfl (kl_xt rfl rfl (kl_alloc (cs := [.slice none 0 0, .slice none 0 0]) rfl (fun b21 hb22 => ?_))))))
  refine kl_stW (us := [u10, u11]) rfl rfl rfl rfl (oc (Sl.oneCell (by assumption)) (oc (Sl.oneCell (by assumption)) oc_nil)) rfl ?_
  refine kl_chg [sing b21 (.cells [u10, u11].toArray 31 (0, 0))] rfl ?_
  refine kl_as rfl (kl_as rfl (kl_as rfl (kl_nil (kq_code (kc_seq (kc_region (kl_ldW rfl rfl (kl_mv rfl (kl_mv rfl (kl_mv rfl (kl_call rfl rfl (lnsI_ok z9 z14 z17 z20 (by assumption) (by assumption) (by assumption) (by assumption)) (fun v23 H24 f25 h26 => ?_))))))))))))
  obtain ⟨u27, rfl, h28⟩ := h26
  refine kl_mv rfl (kl_xt rfl rfl (kl_xt rfl rfl (kl_as rfl (kl_as rfl (kl_nil (kq_code (kc_seq (kc_region (kl_ldW rfl rfl (kl_mv rfl (kl_mv rfl ?_)))))))))))
  refine kl_mv rfl (kl_call rfl rfl (lnsS_ok z9 z14 z17 z20 (by assumption) (by assumption) (by assumption) (by assumption)) (fun v29 H30 f31 h32 => ?_))
  obtain ⟨u33, rfl, h34⟩ := h32
  refine kl_mv rfl (kl_xt rfl rfl (kl_xt rfl rfl (kl_as rfl (kl_as rfl (kl_nil (kq_code (kc_seq (kc_seq (kc_region (kl_mv rfl ?_))))))))))
  refine kl_mv rfl (kl_bne rfl rfl ?_)
  refine kl_mv rfl (kl_join 5 50 (.bool ((((lnsV z9 z14 z17 z20).2) != ((lnsV z9 z14 z17 z20).2)) || !(decide (((lnsV z9 z14 z17 z20).1) = ((lnsV z9 z14 z17 z20).1))))) (pc 2 rfl (pc 3 rfl (pc 4 rfl (pc 5 rfl (pc 6 rfl (pc 7 rfl (pc 8 rfl (pc 9 rfl (pc 10 rfl (pc 45 rfl pn)))))))))) (fun J36 => ?_) ?_)
  ·rcases Bool.eq_false_or_eq_true (((lnsV z9 z14 z17 z20).2) != ((lnsV z9 z14 z17 z20).2)) with g35 | g35
   ·skip
    refine kl_gF rfl rfl g35 (kl_gF rfl rfl g35 (kl_gF rfl rfl g35 (kl_gF rfl rfl g35 (kl_orT (!(decide (((lnsV z9 z14 z17 z20).1) = ((lnsV z9 z14 z17 z20).1)))) rfl rfl g35 ?_))))
    exact J36 _ (pc 50 rfl (pc 2 rfl (pc 3 rfl (pc 4 rfl (pc 5 rfl (pc 6 rfl (pc 7 rfl (pc 8 rfl (pc 9 rfl (pc 10 rfl (pc 45 rfl pn)))))))))))
   ·skip
    have g35p := g35
    try simp only [Bool.not_eq_true', Bool.not_eq_false', decide_eq_true_eq, decide_eq_false_iff_not, Bool.and_eq_true, Bool.or_eq_false_iff, withinB_iff] at g35p
    refine kl_gT rfl rfl g35 (kl_mv rfl (kl_gT rfl rfl g35 (kl_mv rfl (kl_gT rfl rfl g35 (kl_callP rfl rfl (equalInts_ok ((lnsV z9 z14 z17 z20).1) ((lnsV z9 z14 z17 z20).1) (by assumption) (by assumption)) ?_)))))
    refine kl_gT rfl rfl g35 (kl_not rfl (kl_orF rfl rfl g35 ?_))
    exact J36 _ (pc 50 rfl (pc 2 rfl (pc 3 rfl (pc 4 rfl (pc 5 rfl (pc 6 rfl (pc 7 rfl (pc 8 rfl (pc 9 rfl (pc 10 rfl (pc 45 rfl pn)))))))))))
  refine kl_mv rfl (kl_join 3 54 (.bool (((((lnsV z9 z14 z17 z20).2) != ((lnsV z9 z14 z17 z20).2)) || !(decide (((lnsV z9 z14 z17 z20).1) = ((lnsV z9 z14 z17 z20).1)))) || !((lnsV z9 z14 z17 z20).2))) (pc 2 rfl (pc 3 rfl (pc 4 rfl (pc 5 rfl (pc 6 rfl (pc 7 rfl (pc 8 rfl (pc 9 rfl (pc 10 rfl (pc 51 rfl pn)))))))))) (fun J38 => ?_) ?_)
  ·rcases Bool.eq_false_or_eq_true ((((lnsV z9 z14 z17 z20).2) != ((lnsV z9 z14 z17 z20).2)) || !(decide (((lnsV z9 z14 z17 z20).1) = ((lnsV z9 z14 z17 z20).1)))) with g37 | g37
   ·skip
    refine kl_gF rfl rfl g37 (kl_gF rfl rfl g37 (kl_orT (!((lnsV z9 z14 z17 z20).2)) rfl rfl g37 ?_))
    exact J38 _ (pc 54 rfl (pc 2 rfl (pc 3 rfl (pc 4 rfl (pc 5 rfl (pc 6 rfl (pc 7 rfl (pc 8 rfl (pc 9 rfl (pc 10 rfl (pc 51 rfl pn)))))))))))
   ·skip
    have g37p := g37
    try simp only [Bool.not_eq_true', Bool.not_eq_false', decide_eq_true_eq, decide_eq_false_iff_not, Bool.and_eq_true, Bool.or_eq_false_iff, withinB_iff] at g37p
    refine kl_gT rfl rfl g37 (kl_mv rfl (kl_gT rfl rfl g37 (kl_not rfl (kl_orF rfl rfl g37 ?_))))
    exact J38 _ (pc 54 rfl (pc 2 rfl (pc 3 rfl (pc 4 rfl (pc 5 rfl (pc 6 rfl (pc 7 rfl (pc 8 rfl (pc 9 rfl (pc 10 rfl (pc 51 rfl pn)))))))))))
  refine kl_nil (kq_code (kc_cond rfl (fun c39 => ?_) (fun c39 => ?_)))
  ·skip
   have c39r := c39
   try simp only [smpC, decide_eq_true_eq, decide_eq_false_iff_not] at c39
   refine kc_seq (kc_region (kl_mv rfl (kl_mv rfl (kl_beq rfl rfl ?_))))
   refine kl_mv rfl (kl_join 4 62 (.bool ((((lnsV z9 z14 z17 z20).2) == ((lnsV z9 z14 z17 z20).2)) && (decide (((lnsV z9 z14 z17 z20).1) = ((lnsV z9 z14 z17 z20).1))))) (pc 2 rfl (pc 3 rfl (pc 4 rfl (pc 5 rfl (pc 6 rfl (pc 7 rfl (pc 58 rfl pn))))))) (fun J41 => ?_) ?_)
   ·rcases Bool.eq_false_or_eq_true (((lnsV z9 z14 z17 z20).2) == ((lnsV z9 z14 z17 z20).2)) with g40 | g40
    ·skip
     have g40p := g40
     try simp only [Bool.not_eq_true', Bool.not_eq_false', decide_eq_true_eq, decide_eq_false_iff_not, Bool.and_eq_true, Bool.or_eq_false_iff, withinB_iff] at g40p
     refine kl_gT rfl rfl g40 (kl_mv rfl (kl_gT rfl rfl g40 (kl_mv rfl (kl_gT rfl rfl g40 (kl_callP rfl rfl (equalInts_ok ((lnsV z9 z14 z17 z20).1) ((lnsV z9 z14 z17 z20).1) (by assumption) (by assumption)) ?_)))))
     refine kl_andT rfl rfl g40 ?_
     exact J41 _ (pc 62 rfl (pc 2 rfl (pc 3 rfl (pc 4 rfl (pc 5 rfl (pc 6 rfl (pc 7 rfl (pc 58 rfl pn))))))))
    ·skip
     refine kl_gF rfl rfl g40 (kl_gF rfl rfl g40 (kl_gF rfl rfl g40 (kl_andF (decide (((lnsV z9 z14 z17 z20).1) = ((lnsV z9 z14 z17 z20).1))) rfl rfl g40 ?_)))
     exact J41 _ (pc 62 rfl (pc 2 rfl (pc 3 rfl (pc 4 rfl (pc 5 rfl (pc 6 rfl (pc 7 rfl (pc 58 rfl pn))))))))
   refine kl_as rfl (kl_nil (kq_code (kc_ret (kq_retP rfl rfl (congrArg Value.bool ?_)))))
   first | rfl | (simp; done) | exact ln_finV hgo
  ·skip
   have c39r := c39
   try simp only [smpC, decide_eq_true_eq, decide_eq_false_iff_not] at c39
   have hgo := ln_goV c39r
   have hgl := lnOk hgo.1
   have hxl := sols_len hgl.hx
   have hnn := hgl.hM.n
   refine kc_skipQ (kq_code (kc_seq (kc_region (kl_ldW rfl rfl (kl_mv rfl (kl_mv rfl (kl_mv rfl (kl_call rfl rfl (lnsI_ok z9 z14 ((lnsV z9 z14 z17 z20).1) z20 (by assumption) (by assumption) (by assumption) (by assumption)) (fun v42 H43 f44 h45 => ?_)))))))))
   obtain ⟨u46, rfl, h47⟩ := h45
   refine kl_mv rfl (kl_xt rfl rfl (kl_xt rfl rfl (kl_as rfl (kl_as rfl (kl_nil (kq_code (kc_seq (kc_region (kl_ldW rfl rfl (kl_mv rfl (kl_call rfl rfl (minI_ok z9 z14 (by assumption) (by assumption) (by assumption)) (fun v48 H49 f50 h51 => ?_))))))))))))
   obtain ⟨u52, rfl, h53⟩ := h51
   refine kl_mv rfl (kl_xt rfl rfl (kl_xt rfl rfl (kl_as rfl (kl_as rfl (kl_nil (kq_code (kc_seq (kc_region (kl_mv rfl (kl_mv rfl (kl_callP rfl rfl (objValI_ok z14 ((lnsV z9 z14 z17 z20).1) (by assumption) (by assumption)) ?_)))))))))))
   refine kl_as rfl (kl_nil (kq_code (kc_seq (kc_region (kl_ldW rfl rfl (kl_mv rfl (kl_callP rfl rfl (isSolI_ok z9 ((lnsV z9 z14 z17 z20).1) (by assumption) (by assumption) (by assumption)) ?_)))))))
   refine kl_mv rfl (kl_join 6 89 (.bool ((isSolT z9 ((lnsV z9 z14 z17 z20).1)) && decide ((objVal z14 ((lnsV z9 z14 z17 z20).1)) ≤ (objVal z14 z17)))) (pc 2 rfl (pc 4 rfl (pc 5 rfl (pc 6 rfl (pc 7 rfl (pc 11 rfl (pc 12 rfl (pc 13 rfl (pc 15 rfl (pc 83 rfl pn)))))))))) (fun J55 => ?_) ?_)
   ·rcases Bool.eq_false_or_eq_true (isSolT z9 ((lnsV z9 z14 z17 z20).1)) with g54 | g54
    ·skip
     have g54p := g54
     try simp only [Bool.not_eq_true', Bool.not_eq_false', decide_eq_true_eq, decide_eq_false_iff_not, Bool.and_eq_true, Bool.or_eq_false_iff, withinB_iff] at g54p
     refine kl_gT rfl rfl g54 (kl_mv rfl (kl_gT rfl rfl g54 (kl_mv rfl (kl_gT rfl rfl g54 (kl_mv rfl (kl_gT rfl rfl g54 (kl_callP rfl rfl (objValI_ok z14 z17 (by assumption) (by assumption)) ?_)))))))
     refine kl_gT rfl rfl g54 (kl_leq rfl rfl ?_)
     refine kl_andT rfl rfl g54 ?_
     exact J55 _ (pc 89 rfl (pc 2 rfl (pc 4 rfl (pc 5 rfl (pc 6 rfl (pc 7 rfl (pc 11 rfl (pc 12 rfl (pc 13 rfl (pc 15 rfl (pc 83 rfl pn)))))))))))
    ·skip
     refine kl_gF rfl rfl g54 (kl_gF rfl rfl g54 (kl_gF rfl rfl g54 (kl_gF rfl rfl g54 (kl_gF rfl rfl g54 (kl_andF (decide ((objVal z14 ((lnsV z9 z14 z17 z20).1)) ≤ (objVal z14 z17))) rfl rfl g54 ?_)))))
     exact J55 _ (pc 89 rfl (pc 2 rfl (pc 4 rfl (pc 5 rfl (pc 6 rfl (pc 7 rfl (pc 11 rfl (pc 12 rfl (pc 13 rfl (pc 15 rfl (pc 83 rfl pn)))))))))))
   refine kl_mv rfl (kl_join 2 92 (.bool (((isSolT z9 ((lnsV z9 z14 z17 z20).1)) && decide ((objVal z14 ((lnsV z9 z14 z17 z20).1)) ≤ (objVal z14 z17))) && ((lnsV z9 z14 ((lnsV z9 z14 z17 z20).1) z20).2))) (pc 2 rfl (pc 4 rfl (pc 5 rfl (pc 6 rfl (pc 7 rfl (pc 11 rfl (pc 13 rfl (pc 15 rfl (pc 90 rfl pn))))))))) (fun J57 => ?_) ?_)
   ·rcases Bool.eq_false_or_eq_true ((isSolT z9 ((lnsV z9 z14 z17 z20).1)) && decide ((objVal z14 ((lnsV z9 z14 z17 z20).1)) ≤ (objVal z14 z17))) with g56 | g56
    ·skip
     have g56p := g56
     try simp only [Bool.not_eq_true', Bool.not_eq_false', decide_eq_true_eq, decide_eq_false_iff_not, Bool.and_eq_true, Bool.or_eq_false_iff, withinB_iff] at g56p
     refine kl_gT rfl rfl g56 (kl_mv rfl (kl_andT rfl rfl g56 ?_))
     exact J57 _ (pc 92 rfl (pc 2 rfl (pc 4 rfl (pc 5 rfl (pc 6 rfl (pc 7 rfl (pc 11 rfl (pc 13 rfl (pc 15 rfl (pc 90 rfl pn))))))))))
    ·skip
     refine kl_gF rfl rfl g56 (kl_andF ((lnsV z9 z14 ((lnsV z9 z14 z17 z20).1) z20).2) rfl rfl g56 ?_)
     exact J57 _ (pc 92 rfl (pc 2 rfl (pc 4 rfl (pc 5 rfl (pc 6 rfl (pc 7 rfl (pc 11 rfl (pc 13 rfl (pc 15 rfl (pc 90 rfl pn))))))))))
   refine kl_mv rfl (kl_join 4 97 (.bool ((((isSolT z9 ((lnsV z9 z14 z17 z20).1)) && decide ((objVal z14 ((lnsV z9 z14 z17 z20).1)) ≤ (objVal z14 z17))) && ((lnsV z9 z14 ((lnsV z9 z14 z17 z20).1) z20).2)) && (decide (((lnsV z9 z14 ((lnsV z9 z14 z17 z20).1) z20).1) = ((lnsV z9 z14 z17 z20).1))))) (pc 2 rfl (pc 4 rfl (pc 5 rfl (pc 6 rfl (pc 13 rfl (pc 15 rfl (pc 93 rfl pn))))))) (fun J59 => ?_) ?_)
   ·rcases Bool.eq_false_or_eq_true (((isSolT z9 ((lnsV z9 z14 z17 z20).1)) && decide ((objVal z14 ((lnsV z9 z14 z17 z20).1)) ≤ (objVal z14 z17))) && ((lnsV z9 z14 ((lnsV z9 z14 z17 z20).1) z20).2)) with g58 | g58
    ·skip
     have g58p := g58
     try simp only [Bool.not_eq_true', Bool.not_eq_false', decide_eq_true_eq, decide_eq_false_iff_not, Bool.and_eq_true, Bool.or_eq_false_iff, withinB_iff] at g58p
     refine kl_gT rfl rfl g58 (kl_mv rfl (kl_gT rfl rfl g58 (kl_mv rfl (kl_gT rfl rfl g58 (kl_callP rfl rfl (equalInts_ok ((lnsV z9 z14 ((lnsV z9 z14 z17 z20).1) z20).1) ((lnsV z9 z14 z17 z20).1) (by assumption) (by assumption)) ?_)))))
     refine kl_andT rfl rfl g58 ?_
     exact J59 _ (pc 97 rfl (pc 2 rfl (pc 4 rfl (pc 5 rfl (pc 6 rfl (pc 13 rfl (pc 15 rfl (pc 93 rfl pn))))))))
    ·skip
     refine kl_gF rfl rfl g58 (kl_gF rfl rfl g58 (kl_gF rfl rfl g58 (kl_andF (decide (((lnsV z9 z14 ((lnsV z9 z14 z17 z20).1) z20).1) = ((lnsV z9 z14 z17 z20).1))) rfl rfl g58 ?_)))
     exact J59 _ (pc 97 rfl (pc 2 rfl (pc 4 rfl (pc 5 rfl (pc 6 rfl (pc 13 rfl (pc 15 rfl (pc 93 rfl pn))))))))
   refine kl_mv rfl (kl_join 12 110 (.bool (((((isSolT z9 ((lnsV z9 z14 z17 z20).1)) && decide ((objVal z14 ((lnsV z9 z14 z17 z20).1)) ≤ (objVal z14 z17))) && ((lnsV z9 z14 ((lnsV z9 z14 z17 z20).1) z20).2)) && (decide (((lnsV z9 z14 ((lnsV z9 z14 z17 z20).1) z20).1) = ((lnsV z9 z14 z17 z20).1)))) && (decide (z20 < (z17.length : Int)) || decide ((objVal z14 ((lnsV z9 z14 z17 z20).1)) = (objVal z14 ((minI z9 z14).1)))))) (pc 2 rfl (pc 98 rfl pn)) (fun J64 => ?_) ?_)
   ·rcases Bool.eq_false_or_eq_true ((((isSolT z9 ((lnsV z9 z14 z17 z20).1)) && decide ((objVal z14 ((lnsV z9 z14 z17 z20).1)) ≤ (objVal z14 z17))) && ((lnsV z9 z14 ((lnsV z9 z14 z17 z20).1) z20).2)) && (decide (((lnsV z9 z14 ((lnsV z9 z14 z17 z20).1) z20).1) = ((lnsV z9 z14 z17 z20).1)))) with g60 | g60
    ·skip
     have g60p := g60
     try simp only [Bool.not_eq_true', Bool.not_eq_false', decide_eq_true_eq, decide_eq_false_iff_not, Bool.and_eq_true, Bool.or_eq_false_iff, withinB_iff] at g60p
     refine kl_gT rfl rfl g60 (kl_mv rfl (kl_gT rfl rfl g60 (kl_mv rfl (kl_gT rfl rfl g60 (kl_len rfl (by assumption) (fun l61 => ?_))))))
     refine kl_gT rfl rfl g60 (kl_lss rfl rfl ?_)
     refine kl_gT rfl rfl g60 (kl_mv rfl (kl_join 6 109 (.bool (decide (z20 < (z17.length : Int)) || decide ((objVal z14 ((lnsV z9 z14 z17 z20).1)) = (objVal z14 ((minI z9 z14).1))))) (pc 2 rfl (pc 98 rfl (pc 103 rfl pn))) (fun J63 => ?_) ?_))
     ·rcases Bool.eq_false_or_eq_true (decide (z20 < (z17.length : Int))) with g62 | g62
      ·skip
       refine kl_gF rfl rfl g62 (kl_gF rfl rfl g62 (kl_gF rfl rfl g62 (kl_gF rfl rfl g62 (kl_gF rfl rfl g62 (kl_gT rfl rfl g60 (kl_orT (decide ((objVal z14 ((lnsV z9 z14 z17 z20).1)) = (objVal z14 ((minI z9 z14).1)))) rfl rfl g62 ?_))))))
       exact J63 _ (pc 109 rfl (pc 2 rfl (pc 98 rfl (pc 103 rfl pn))))
      ·skip
       have g62p := of_decide_eq_false g62
       refine kl_gT rfl rfl g62 (kl_mv rfl (kl_gT rfl rfl g62 (kl_mv rfl (kl_gT rfl rfl g62 (kl_mv rfl (kl_gT rfl rfl g62 (kl_callP rfl rfl (objValI_ok z14 ((minI z9 z14).1) (by assumption) (by assumption)) ?_)))))))
       refine kl_gT rfl rfl g62 (kl_eql rfl rfl ?_)
       refine kl_gT rfl rfl g60 (kl_orF rfl rfl g62 ?_)
       exact J63 _ (pc 109 rfl (pc 2 rfl (pc 98 rfl (pc 103 rfl pn))))
     refine kl_andT rfl rfl g60 ?_
     exact J64 _ (pc 110 rfl (pc 2 rfl (pc 98 rfl pn)))
    ·skip
     refine kl_gF rfl rfl g60 (kl_gF rfl rfl g60 (kl_gF rfl rfl g60 (kl_gF rfl rfl g60 (kl_gF rfl rfl g60 (kl_gU rfl rfl (kl_gU rfl rfl (kl_gU rfl rfl (kl_gU rfl rfl ?_))))))))
     refine kl_gU rfl rfl (kl_gF rfl rfl g60 (kl_andF (decide (z20 < (z17.length : Int)) || decide ((objVal z14 ((lnsV z9 z14 z17 z20).1)) = (objVal z14 ((minI z9 z14).1)))) rfl rfl g60 ?_))
     exact J64 _ (pc 110 rfl (pc 2 rfl (pc 98 rfl pn)))
   refine kl_as rfl (kl_nil (kq_code (kc_ret (kq_retP rfl rfl (congrArg Value.bool ?_)))))
   first | rfl | (simp; done) | exact ln_finV hgo
end Go.Proofs.YtkfioalfofoikaaGreat
