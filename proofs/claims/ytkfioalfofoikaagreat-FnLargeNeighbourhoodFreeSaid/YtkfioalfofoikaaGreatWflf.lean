/- Walks of functions of the program: each returns what the plain function gives. Conditions: those that each statement names. -/
import Derived.Test.YtkfioalfofoikaaGreatWas
import Derived.Test.YtkfioalfofoikaaGreatWset
import Derived.Test.YtkfioalfofoikaaGreatWlns
import Derived.Test.YtkfioalfofoikaaGreatWwalk
import Derived.Test.YtkfioalfofoikaaGreatWfl
import Derived.Test.YtkfioalfofoikaaGreatWsat
import Derived.Test.YtkfioalfofoikaaGreatWwo
namespace Go.Proofs.YtkfioalfofoikaaGreat
open Go
set_option linter.unusedSimpArgs false
set_option linter.unusedVariables false
theorem lawFnLf_ok {Hcode : Hp} {vcode : Value} (code : List Int) (hcode : Bytes Hcode vcode code) : SpecP Tryz.prog 5 [vcode] [Hcode] (.bool true) := by
 refine spec_of Tryz.func5 rfl rfl rfl (fun B => ?_)
 refine kc_seq (kc_region (kl_as rfl (kl_nil (kq_code (kc_seq (kc_seq (kc_region (kl_mv rfl (kl_len rfl (by assumption) (fun l1 => ?_))))))))))
 refine kl_gtr rfl rfl ?_
 refine kl_nil (kq_code (kc_if rfl (fun c2 => ?_) (fun c2 => ?_)))
 ·skip
  refine kc_seq (kc_region (kl_as rfl (kl_nil (kq_code (kc_ret (kq_retP rfl rfl (congrArg Value.bool ?_)))))))
  first | rfl | (simp; done)
 ·skip
  refine kc_skipQ (kq_code (kc_seq (kc_region (kl_mv rfl (kl_call rfl rfl (drawLn_ok code hcode) (fun v3 H4 f5 h6 => ?_))))))
  obtain ⟨z9, z14, z17, z20, u10, u11, u15, u18, rfl, h12, h13, h16, h19, h8⟩ := h6
  have hsm := h8
  refine kl_mv rfl (kl_xt rfl rfl (kl_xt rfl rfl (kl_xt rfl rfl (kl_xt rfl rfl (kl_alloc (cs := [.slice none 0 0, .slice none 0 0]) rfl (fun b21 hb22 => ?_))))))
  refine kl_stW (us := [u10, u11]) rfl rfl rfl rfl (oc (Sl.oneCell (by assumption)) (oc (Sl.oneCell (by assumption)) oc_nil)) rfl ?_
  refine kl_chg [sing b21 (.cells [u10, u11].toArray 31 (0, 0))] rfl ?_
  refine kl_as rfl (kl_as rfl (kl_as rfl (kl_nil (kq_code (kc_seq (kc_region (kl_ldW rfl rfl (kl_mv rfl (kl_mv rfl (kl_mv rfl (kl_call rfl rfl (lnsI_ok z9 z14 z17 z20 (by assumption) (by assumption) (by assumption) (by assumption)) (fun v23 H24 f25 h26 => ?_))))))))))))
  obtain ⟨u27, rfl, h28⟩ := h26
  refine kl_mv rfl (kl_xt rfl rfl (kl_xt rfl rfl (kl_as rfl (kl_as rfl (kl_nil (kq_code (kc_seq (kc_region (kl_ldW rfl rfl (kl_mv rfl (kl_mv rfl ?_)))))))))))
  refine kl_mv rfl (kl_call rfl rfl (lnsS_ok z9 z14 z17 z20 (by assumption) (by assumption) (by assumption) (by assumption)) (fun v29 H30 f31 h32 => ?_))
  obtain ⟨u33, rfl, h34⟩ := h32
  refine kl_mv rfl (kl_xt rfl rfl (kl_xt rfl rfl (kl_as rfl (kl_as rfl (kl_nil (kq_code (kc_seq (kc_seq (kc_region (kl_mv rfl ?_))))))))))
  refine kl_mv rfl (kl_bne rfl rfl ?_)
  refine kl_mv rfl (kl_join 5 51 (.bool ((((lnsV z9 z14 z17 z20).2) != ((lnsV z9 z14 z17 z20).2)) || !(decide (((lnsV z9 z14 z17 z20).1) = ((lnsV z9 z14 z17 z20).1))))) (pc 2 rfl (pc 3 rfl (pc 4 rfl (pc 5 rfl (pc 6 rfl (pc 7 rfl (pc 8 rfl (pc 9 rfl (pc 10 rfl (pc 46 rfl pn)))))))))) (fun J36 => ?_) ?_)
  ·rcases Bool.eq_false_or_eq_true (((lnsV z9 z14 z17 z20).2) != ((lnsV z9 z14 z17 z20).2)) with g35 | g35
   ·skip
    refine kl_gF rfl rfl g35 (kl_gF rfl rfl g35 (kl_gF rfl rfl g35 (kl_gF rfl rfl g35 (kl_orT (!(decide (((lnsV z9 z14 z17 z20).1) = ((lnsV z9 z14 z17 z20).1)))) rfl rfl g35 ?_))))
    exact J36 _ (pc 51 rfl (pc 2 rfl (pc 3 rfl (pc 4 rfl (pc 5 rfl (pc 6 rfl (pc 7 rfl (pc 8 rfl (pc 9 rfl (pc 10 rfl (pc 46 rfl pn)))))))))))
   ·skip
    have g35p := g35
    try simp only [Bool.not_eq_true', Bool.not_eq_false', decide_eq_true_eq, decide_eq_false_iff_not, Bool.and_eq_true, Bool.or_eq_false_iff, withinB_iff] at g35p
    refine kl_gT rfl rfl g35 (kl_mv rfl (kl_gT rfl rfl g35 (kl_mv rfl (kl_gT rfl rfl g35 (kl_callP rfl rfl (equalInts_ok ((lnsV z9 z14 z17 z20).1) ((lnsV z9 z14 z17 z20).1) (by assumption) (by assumption)) ?_)))))
    refine kl_gT rfl rfl g35 (kl_not rfl (kl_orF rfl rfl g35 ?_))
    exact J36 _ (pc 51 rfl (pc 2 rfl (pc 3 rfl (pc 4 rfl (pc 5 rfl (pc 6 rfl (pc 7 rfl (pc 8 rfl (pc 9 rfl (pc 10 rfl (pc 46 rfl pn)))))))))))
  refine kl_mv rfl (kl_join 3 55 (.bool (((((lnsV z9 z14 z17 z20).2) != ((lnsV z9 z14 z17 z20).2)) || !(decide (((lnsV z9 z14 z17 z20).1) = ((lnsV z9 z14 z17 z20).1)))) || !((lnsV z9 z14 z17 z20).2))) (pc 2 rfl (pc 3 rfl (pc 4 rfl (pc 5 rfl (pc 6 rfl (pc 7 rfl (pc 8 rfl (pc 9 rfl (pc 10 rfl (pc 52 rfl pn)))))))))) (fun J38 => ?_) ?_)
  ·rcases Bool.eq_false_or_eq_true ((((lnsV z9 z14 z17 z20).2) != ((lnsV z9 z14 z17 z20).2)) || !(decide (((lnsV z9 z14 z17 z20).1) = ((lnsV z9 z14 z17 z20).1)))) with g37 | g37
   ·skip
    refine kl_gF rfl rfl g37 (kl_gF rfl rfl g37 (kl_orT (!((lnsV z9 z14 z17 z20).2)) rfl rfl g37 ?_))
    exact J38 _ (pc 55 rfl (pc 2 rfl (pc 3 rfl (pc 4 rfl (pc 5 rfl (pc 6 rfl (pc 7 rfl (pc 8 rfl (pc 9 rfl (pc 10 rfl (pc 52 rfl pn)))))))))))
   ·skip
    have g37p := g37
    try simp only [Bool.not_eq_true', Bool.not_eq_false', decide_eq_true_eq, decide_eq_false_iff_not, Bool.and_eq_true, Bool.or_eq_false_iff, withinB_iff] at g37p
    refine kl_gT rfl rfl g37 (kl_mv rfl (kl_gT rfl rfl g37 (kl_not rfl (kl_orF rfl rfl g37 ?_))))
    exact J38 _ (pc 55 rfl (pc 2 rfl (pc 3 rfl (pc 4 rfl (pc 5 rfl (pc 6 rfl (pc 7 rfl (pc 8 rfl (pc 9 rfl (pc 10 rfl (pc 52 rfl pn)))))))))))
  refine kl_nil (kq_code (kc_cond rfl (fun c39 => ?_) (fun c39 => ?_)))
  ·skip
   have c39r := c39
   try simp only [smpC, decide_eq_true_eq, decide_eq_false_iff_not] at c39
   refine kc_seq (kc_region (kl_mv rfl (kl_mv rfl (kl_beq rfl rfl ?_))))
   refine kl_mv rfl (kl_join 4 63 (.bool ((((lnsV z9 z14 z17 z20).2) == ((lnsV z9 z14 z17 z20).2)) && (decide (((lnsV z9 z14 z17 z20).1) = ((lnsV z9 z14 z17 z20).1))))) (pc 2 rfl (pc 3 rfl (pc 4 rfl (pc 5 rfl (pc 6 rfl (pc 7 rfl (pc 59 rfl pn))))))) (fun J41 => ?_) ?_)
   ·rcases Bool.eq_false_or_eq_true (((lnsV z9 z14 z17 z20).2) == ((lnsV z9 z14 z17 z20).2)) with g40 | g40
    ·skip
     have g40p := g40
     try simp only [Bool.not_eq_true', Bool.not_eq_false', decide_eq_true_eq, decide_eq_false_iff_not, Bool.and_eq_true, Bool.or_eq_false_iff, withinB_iff] at g40p
     refine kl_gT rfl rfl g40 (kl_mv rfl (kl_gT rfl rfl g40 (kl_mv rfl (kl_gT rfl rfl g40 (kl_callP rfl rfl (equalInts_ok ((lnsV z9 z14 z17 z20).1) ((lnsV z9 z14 z17 z20).1) (by assumption) (by assumption)) ?_)))))
     refine kl_andT rfl rfl g40 ?_
     exact J41 _ (pc 63 rfl (pc 2 rfl (pc 3 rfl (pc 4 rfl (pc 5 rfl (pc 6 rfl (pc 7 rfl (pc 59 rfl pn))))))))
    ·skip
     refine kl_gF rfl rfl g40 (kl_gF rfl rfl g40 (kl_gF rfl rfl g40 (kl_andF (decide (((lnsV z9 z14 z17 z20).1) = ((lnsV z9 z14 z17 z20).1))) rfl rfl g40 ?_)))
     exact J41 _ (pc 63 rfl (pc 2 rfl (pc 3 rfl (pc 4 rfl (pc 5 rfl (pc 6 rfl (pc 7 rfl (pc 59 rfl pn))))))))
   refine kl_as rfl (kl_nil (kq_code (kc_ret (kq_retP rfl rfl (congrArg Value.bool ?_)))))
   first | rfl | (simp; done)
  ·skip
   have c39r := c39
   try simp only [smpC, decide_eq_true_eq, decide_eq_false_iff_not] at c39
   have hgo := ln_goV c39r
   have hgl := lnOk hgo.1
   have hxl := sols_len hgl.hx
   have hnn := hgl.hM.n
   refine kc_skipQ (kq_code (kc_seq (kc_seq (kc_region (kl_as rfl (kl_nil (kq_code (kc_block (kc_loop0 (A := Nat) (fun zz => (zz ≤ (2 ^ (z17).length)) ∧ (True)) (fun zz => (2 ^ (z17).length) - zz) (fun zz => [(11, .int .i64 (zz : Int))]) (0) (pc 3 rfl (pc 4 rfl (pc 5 rfl (pc 6 rfl (pc 7 rfl pn))))) (pc 11 rfl pn) ⟨Nat.zero_le _, trivial⟩ ?_)))))))))
   rintro k hJ44
   obtain ⟨hk42, hi43⟩ : (k ≤ (2 ^ (z17).length)) ∧ (True) := hJ44
   change KC _ _ (_) _ _ ([(11, .int .i64 (k : Int))] ++ _)
   refine kc_seq (kc_seq (kc_region (kl_mv rfl (kl_mv rfl (kl_len rfl (by assumption) (fun l45 => ?_))))))
   refine kl_shl rfl rfl (by omega) ?_
   refine kl_lss rfl rfl ?_
   refine kl_nil (kq_code (kc_if rfl (fun c46 => ?_) (fun c46 => ?_)))
   ·skip
    have hk9 := c46
    have hsh := (sh_of c46 (by omega)).1
    have hkl := (sh_of c46 (by omega)).2
    refine kc_skipQ (kq_code (kc_seq (kc_block (kc_seq (kc_region (kl_mv rfl (kl_call rfl rfl (domainVals_ok (k : Int)) (fun v47 H48 f49 h50 => ?_))))))))
    refine kl_as rfl (kl_nil (kq_code (kc_seq (kc_region (kl_mv rfl (kl_len rfl (by assumption) (fun l51 => ?_)))))))
    refine kl_mv rfl (kl_eql rfl rfl ?_)
    refine kl_nil (kq_code (kc_if rfl (fun c52 => ?_) (fun c52 => ?_)))
    ·skip
     have hlq := c52
     refine kc_seq (kc_region (kl_ldW rfl rfl (kl_mv rfl (kl_mv rfl (kl_call rfl rfl (nhoodI_ok z9 ((lnsV z9 z14 z17 z20).1) (domVI (k : Int)) hsm (by assumption) (by assumption) (by assumption) (by assumption)) (fun v53 H54 f55 h56 => ?_))))))
     obtain ⟨z59, z64, u60, u61, rfl, h62, h63, h58⟩ := h56
     have hnh := h58
     refine kl_mv rfl (kl_xt rfl rfl (kl_xt rfl rfl (kl_alloc (cs := [.slice none 0 0, .slice none 0 0]) rfl (fun b65 hb66 => ?_))))
     refine kl_stW (us := [u60, u61]) rfl rfl rfl rfl (oc (Sl.oneCell (by assumption)) (oc (Sl.oneCell (by assumption)) oc_nil)) rfl ?_
     refine kl_chg [sing b65 (.cells [u60, u61].toArray 31 (0, 0)), sing b21 (.cells [u10, u11].toArray 31 (0, 0))] rfl ?_
     refine kl_as rfl (kl_nil (kq_code (kc_seq (kc_region (kl_ldW rfl rfl (kl_mv rfl (kl_call rfl rfl (minI_ok z59 z14 (by assumption) (by assumption) (by assumption)) (fun v67 H68 f69 h70 => ?_))))))))
     obtain ⟨u71, rfl, h72⟩ := h70
     refine kl_mv rfl (kl_xt rfl rfl (kl_xt rfl rfl (kl_as rfl (kl_as rfl (kl_nil (kq_code (kc_seq (kc_region (kl_mv rfl (kl_not rfl (kl_mv rfl ?_)))))))))))
     refine kl_join 3 95 (.bool (!z64 || !((minI z59 z14).2))) (pc 3 rfl (pc 4 rfl (pc 5 rfl (pc 6 rfl (pc 7 rfl (pc 11 rfl (pc 12 rfl (pc 13 rfl (pc 14 rfl (pc 15 rfl (pc 16 rfl (pc 64 rfl (pc 65 rfl (pc 66 rfl (pc 67 rfl (pc 68 rfl (pc 71 rfl (pc 72 rfl (pc 73 rfl (pc 74 rfl (pc 75 rfl (pc 76 rfl (pc 77 rfl (pc 78 rfl (pc 79 rfl (pc 80 rfl (pc 81 rfl (pc 82 rfl (pc 83 rfl (pc 84 rfl (pc 85 rfl (pc 86 rfl (pc 87 rfl (pc 88 rfl (pc 89 rfl (pc 90 rfl (pc 91 rfl (pc 92 rfl pn)))))))))))))))))))))))))))))))))))))) (fun J74 => ?_) ?_
     ·rcases Bool.eq_false_or_eq_true (!z64) with g73 | g73
      ·skip
       refine kl_gF rfl rfl g73 (kl_gF rfl rfl g73 (kl_orT (!((minI z59 z14).2)) rfl rfl g73 ?_))
       exact J74 _ (pc 95 rfl (pc 3 rfl (pc 4 rfl (pc 5 rfl (pc 6 rfl (pc 7 rfl (pc 11 rfl (pc 12 rfl (pc 13 rfl (pc 14 rfl (pc 15 rfl (pc 16 rfl (pc 64 rfl (pc 65 rfl (pc 66 rfl (pc 67 rfl (pc 68 rfl (pc 71 rfl (pc 72 rfl (pc 73 rfl (pc 74 rfl (pc 75 rfl (pc 76 rfl (pc 77 rfl (pc 78 rfl (pc 79 rfl (pc 80 rfl (pc 81 rfl (pc 82 rfl (pc 83 rfl (pc 84 rfl (pc 85 rfl (pc 86 rfl (pc 87 rfl (pc 88 rfl (pc 89 rfl (pc 90 rfl (pc 91 rfl (pc 92 rfl pn)))))))))))))))))))))))))))))))))))))))
      ·skip
       have g73p := g73
       try simp only [Bool.not_eq_true', Bool.not_eq_false', decide_eq_true_eq, decide_eq_false_iff_not, Bool.and_eq_true, Bool.or_eq_false_iff, withinB_iff] at g73p
       refine kl_gT rfl rfl g73 (kl_mv rfl (kl_gT rfl rfl g73 (kl_not rfl (kl_orF rfl rfl g73 ?_))))
       exact J74 _ (pc 95 rfl (pc 3 rfl (pc 4 rfl (pc 5 rfl (pc 6 rfl (pc 7 rfl (pc 11 rfl (pc 12 rfl (pc 13 rfl (pc 14 rfl (pc 15 rfl (pc 16 rfl (pc 64 rfl (pc 65 rfl (pc 66 rfl (pc 67 rfl (pc 68 rfl (pc 71 rfl (pc 72 rfl (pc 73 rfl (pc 74 rfl (pc 75 rfl (pc 76 rfl (pc 77 rfl (pc 78 rfl (pc 79 rfl (pc 80 rfl (pc 81 rfl (pc 82 rfl (pc 83 rfl (pc 84 rfl (pc 85 rfl (pc 86 rfl (pc 87 rfl (pc 88 rfl (pc 89 rfl (pc 90 rfl (pc 91 rfl (pc 92 rfl pn)))))))))))))))))))))))))))))))))))))))
     refine kl_mv rfl (kl_join 8 104 (.bool ((!z64 || !((minI z59 z14).2)) || decide ((objVal z14 ((minI z59 z14).1)) < (objVal z14 ((lnsV z9 z14 z17 z20).1))))) (pc 3 rfl (pc 4 rfl (pc 5 rfl (pc 6 rfl (pc 7 rfl (pc 11 rfl (pc 12 rfl (pc 13 rfl (pc 14 rfl (pc 15 rfl (pc 16 rfl (pc 64 rfl (pc 65 rfl (pc 66 rfl (pc 67 rfl (pc 68 rfl (pc 71 rfl (pc 72 rfl (pc 73 rfl (pc 74 rfl (pc 75 rfl (pc 76 rfl (pc 77 rfl (pc 78 rfl (pc 79 rfl (pc 80 rfl (pc 81 rfl (pc 82 rfl (pc 83 rfl (pc 84 rfl (pc 85 rfl (pc 86 rfl (pc 87 rfl (pc 88 rfl (pc 89 rfl (pc 90 rfl (pc 91 rfl (pc 92 rfl (pc 95 rfl (pc 96 rfl pn)))))))))))))))))))))))))))))))))))))))) (fun J76 => ?_) ?_)
     ·rcases Bool.eq_false_or_eq_true (!z64 || !((minI z59 z14).2)) with g75 | g75
      ·skip
       refine kl_gF rfl rfl g75 (kl_gF rfl rfl g75 (kl_gF rfl rfl g75 (kl_gF rfl rfl g75 (kl_gF rfl rfl g75 (kl_gF rfl rfl g75 (kl_gF rfl rfl g75 (kl_orT (decide ((objVal z14 ((minI z59 z14).1)) < (objVal z14 ((lnsV z9 z14 z17 z20).1)))) rfl rfl g75 ?_)))))))
       exact J76 _ (pc 104 rfl (pc 3 rfl (pc 4 rfl (pc 5 rfl (pc 6 rfl (pc 7 rfl (pc 11 rfl (pc 12 rfl (pc 13 rfl (pc 14 rfl (pc 15 rfl (pc 16 rfl (pc 64 rfl (pc 65 rfl (pc 66 rfl (pc 67 rfl (pc 68 rfl (pc 71 rfl (pc 72 rfl (pc 73 rfl (pc 74 rfl (pc 75 rfl (pc 76 rfl (pc 77 rfl (pc 78 rfl (pc 79 rfl (pc 80 rfl (pc 81 rfl (pc 82 rfl (pc 83 rfl (pc 84 rfl (pc 85 rfl (pc 86 rfl (pc 87 rfl (pc 88 rfl (pc 89 rfl (pc 90 rfl (pc 91 rfl (pc 92 rfl (pc 95 rfl (pc 96 rfl pn)))))))))))))))))))))))))))))))))))))))))
      ·skip
       have g75p := g75
       try simp only [Bool.not_eq_true', Bool.not_eq_false', decide_eq_true_eq, decide_eq_false_iff_not, Bool.and_eq_true, Bool.or_eq_false_iff, withinB_iff] at g75p
       refine kl_gT rfl rfl g75 (kl_mv rfl (kl_gT rfl rfl g75 (kl_mv rfl (kl_gT rfl rfl g75 (kl_callP rfl rfl (objValI_ok z14 ((minI z59 z14).1) (by assumption) (by assumption)) ?_)))))
       refine kl_gT rfl rfl g75 (kl_mv rfl (kl_gT rfl rfl g75 (kl_mv rfl (kl_gT rfl rfl g75 (kl_callP rfl rfl (objValI_ok z14 ((lnsV z9 z14 z17 z20).1) (by assumption) (by assumption)) ?_)))))
       refine kl_gT rfl rfl g75 (kl_lss rfl rfl ?_)
       refine kl_orF rfl rfl g75 ?_
       exact J76 _ (pc 104 rfl (pc 3 rfl (pc 4 rfl (pc 5 rfl (pc 6 rfl (pc 7 rfl (pc 11 rfl (pc 12 rfl (pc 13 rfl (pc 14 rfl (pc 15 rfl (pc 16 rfl (pc 64 rfl (pc 65 rfl (pc 66 rfl (pc 67 rfl (pc 68 rfl (pc 71 rfl (pc 72 rfl (pc 73 rfl (pc 74 rfl (pc 75 rfl (pc 76 rfl (pc 77 rfl (pc 78 rfl (pc 79 rfl (pc 80 rfl (pc 81 rfl (pc 82 rfl (pc 83 rfl (pc 84 rfl (pc 85 rfl (pc 86 rfl (pc 87 rfl (pc 88 rfl (pc 89 rfl (pc 90 rfl (pc 91 rfl (pc 92 rfl (pc 95 rfl (pc 96 rfl pn)))))))))))))))))))))))))))))))))))))))))
     refine kl_nil (kq_code (kc_cond rfl (fun c77 => ?_) (fun c77 => ?_)))
     ·skip
      have c77r := c77
      try simp only [smpC, decide_eq_true_eq, decide_eq_false_iff_not] at c77
      exact absurd c77r (by rw [free_at hgo (domV_16 hkl) hk9 hlq hnh]; simp)
     ·skip
      have c77r := c77
      try simp only [smpC, decide_eq_true_eq, decide_eq_false_iff_not] at c77
      refine kc_skipQ (kq_code (kc_region (kl_mv rfl (kl_inc rfl rfl (by omega) ?_))))
      refine kl_as rfl (kl_nil (kq_round0 ((k + 1)) (by omega) (⟨(by omega), trivial⟩) (pc 11 rfl pn) (pc 3 rfl (pc 4 rfl (pc 5 rfl (pc 6 rfl (pc 7 rfl pn))))) (.cons _ (List.Sublist.refl _))))
    ·skip
     refine kc_skipQ (kq_code (kc_region (kl_mv rfl (kl_inc rfl rfl (by omega) ?_))))
     refine kl_as rfl (kl_nil (kq_round0 ((k + 1)) (by omega) (⟨(by omega), trivial⟩) (pc 11 rfl pn) (pc 3 rfl (pc 4 rfl (pc 5 rfl (pc 6 rfl (pc 7 rfl pn))))) (List.Sublist.refl _)))
   ·skip
    refine kc_exit (kq_code (kc_seq (kc_region (kl_as rfl (kl_nil (kq_code (kc_ret (kq_retP rfl rfl (congrArg Value.bool ?_)))))))))
    first | rfl | (simp; done)
end Go.Proofs.YtkfioalfofoikaaGreat
