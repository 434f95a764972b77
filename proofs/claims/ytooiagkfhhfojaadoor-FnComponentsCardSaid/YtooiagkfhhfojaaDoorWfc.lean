/- Walks of functions of the program: each returns what the plain function gives. Conditions: those that each statement names. -/
import Derived.Test.YtooiagkfhhfojaaDoorWdc
import Derived.Test.YtooiagkfhhfojaaDoorWfl
import Derived.Test.YtooiagkfhhfojaaDoorWcomp
import Derived.Test.YtooiagkfhhfojaaDoorWscomp
import Derived.Test.YtooiagkfhhfojaaDoorWnb
namespace Go.Proofs.YtooiagkfhhfojaaDoor
open Go
set_option linter.unusedSimpArgs false
set_option linter.unusedVariables false
theorem lawFnComp_ok {Hcode : Hp} {vcode : Value} {Ht : Hp} (code : List Int) (hcode : Bytes Hcode vcode code) (htab : At Ht (.pointer (some ⟨1, 0, none⟩)) tabV) : SpecP Tryd.prog 3 [vcode] [Hcode, Ht] (.bool true) := by
  refine spec_of Tryd.func3 rfl rfl rfl (fun B => ?_)
  refine kc_seq ?_
  refine kc_region ?_
  refine kl_as rfl ?_
  refine kl_nil ?_
  refine kq_code ?_
  refine kc_seq ?_
  refine kc_seq ?_
  refine kc_region ?_
  refine kl_mv rfl ?_
  refine kl_len rfl (by assumption) (fun l1 => ?_)
  refine kl_gtr rfl rfl ?_
  refine kl_nil ?_
  refine kq_code ?_
  refine kc_if rfl (fun c2 => ?_) (fun c2 => ?_)
  · skip
    refine kc_seq ?_
    refine kc_region ?_
    refine kl_as rfl ?_
    refine kl_nil ?_
    refine kq_code ?_
    refine kc_ret ?_
    refine kq_retP rfl rfl (congrArg Value.bool ?_)
    first | rfl | (rw [comp_eq]; simp; done) | (simp [compI_len hg]; done)
  · skip
    refine kc_skipQ ?_
    refine kq_code ?_
    refine kc_seq ?_
    refine kc_region ?_
    refine kl_mv rfl ?_
    refine kl_call rfl rfl (drawComp_ok code hcode) (fun v3 H4 f5 h6 => ?_)
    obtain ⟨z7, ⟨u9, u10, rfl, h11, h12⟩, h8⟩ := h6
    have hd1 := h8.d1
    have hd4 := h8.d
    refine kl_alloc (cs := [.slice none 0 0, .slice none 0 0]) rfl (fun b13 hb14 => ?_)
    refine kl_stW (us := [u9, u10]) rfl rfl rfl rfl (oc (Sl.oneCell (by assumption)) (oc (Sl.oneCell (by assumption)) oc_nil)) rfl ?_
    refine kl_chg [sing b13 (.cells [u9, u10].toArray 26 (0, 0))] rfl ?_
    refine kl_nil ?_
    refine kq_code ?_
    refine kc_seq ?_
    refine kc_region ?_
    refine kl_ldW rfl rfl ?_
    refine kl_call rfl rfl (components_ok z7 (by assumption) (by assumption) htab) (fun v15 H16 f17 h18 => ?_)
    refine kl_as rfl ?_
    refine kl_nil ?_
    refine kq_code ?_
    refine kc_seq ?_
    refine kc_seq ?_
    refine kc_region ?_
    refine kl_mv rfl ?_
    refine kl_ldW rfl rfl ?_
    refine kl_call rfl rfl (scomponents_ok z7 (by omega) (by assumption) (by assumption)) (fun v19 H20 f21 h22 => ?_)
    refine kl_callP rfl rfl (equalInts_ok (compI z7) (compS z7) (by assumption) (by assumption)) ?_
    refine kl_not rfl ?_
    refine kl_mv rfl ?_
    refine kl_join 4 24 (.bool (!(decide ((compI z7) = (compS z7))) || decide (((compI z7).length : Int) = (0 : Int)))) (pc 2 rfl (pc 3 rfl (pc 4 rfl (pc 20 rfl pn)))) (fun J25 => ?_) ?_
    · rcases Bool.eq_false_or_eq_true (!(decide ((compI z7) = (compS z7)))) with g23 | g23
      · skip
        refine kl_gF rfl rfl g23 ?_
        refine kl_gF rfl rfl g23 ?_
        refine kl_gF rfl rfl g23 ?_
        refine kl_orT (decide (((compI z7).length : Int) = (0 : Int))) rfl rfl g23 ?_
        exact J25 _ (pc 24 rfl (pc 2 rfl (pc 3 rfl (pc 4 rfl (pc 20 rfl pn)))))
      · skip
        have g23p := g23
        try simp only [Bool.not_eq_true', Bool.not_eq_false', decide_eq_true_eq, decide_eq_false_iff_not, Bool.and_eq_true, Bool.or_eq_false_iff, withinB_iff] at g23p
        refine kl_gT rfl rfl g23 ?_
        refine kl_mv rfl ?_
        refine kl_gT rfl rfl g23 ?_
        refine kl_len rfl (by assumption) (fun l24 => ?_)
        refine kl_gT rfl rfl g23 ?_
        refine kl_eql rfl rfl ?_
        refine kl_orF rfl rfl g23 ?_
        exact J25 _ (pc 24 rfl (pc 2 rfl (pc 3 rfl (pc 4 rfl (pc 20 rfl pn)))))
    refine kl_nil ?_
    refine kq_code ?_
    refine kc_cond rfl (fun c26 => ?_) (fun c26 => ?_)
    · skip
      have c26r := c26
      try simp only [Bool.not_eq_true', Bool.not_eq_false', Bool.not_true, Bool.not_false, decide_eq_true_eq, decide_eq_false_iff_not, Bool.and_eq_true, Bool.or_eq_false_iff] at c26
      refine kc_seq ?_
      refine kc_region ?_
      refine kl_mv rfl ?_
      refine kl_ldW rfl rfl ?_
      refine kl_call rfl rfl (scomponents_ok z7 (by omega) (by assumption) (by assumption)) (fun v27 H28 f29 h30 => ?_)
      refine kl_callP rfl rfl (equalInts_ok (compI z7) (compS z7) (by assumption) (by assumption)) ?_
      refine kl_as rfl ?_
      refine kl_nil ?_
      refine kq_code ?_
      refine kc_ret ?_
      refine kq_retP rfl rfl (congrArg Value.bool ?_)
      first | rfl | (rw [comp_eq]; simp; done) | (simp [compI_len hg]; done)
    · skip
      have c26r := c26
      try simp only [Bool.not_eq_true', Bool.not_eq_false', Bool.not_true, Bool.not_false, decide_eq_true_eq, decide_eq_false_iff_not, Bool.and_eq_true, Bool.or_eq_false_iff] at c26
      have hg := grdC c26r
      refine kc_skipQ ?_
      refine kq_code ?_
      refine kc_seq ?_
      refine kc_seq ?_
      refine kc_region ?_
      refine kl_as rfl ?_
      refine kl_nil ?_
      refine kq_code ?_
      refine kc_block ?_
      refine kc_loop0 (A := Nat) (fun zz => (zz ≤ (compI z7).length)) (fun zz => (compI z7).length - zz) (fun zz => [(5, .int .i64 (zz : Int))]) (0) (pc 3 rfl (pc 4 rfl pn)) (pc 5 rfl pn) (Nat.zero_le _) ?_
      rintro k hJ33
      have hk31 : (k ≤ (compI z7).length) := hJ33
      change KC _ _ (_) _ _ ([(5, .int .i64 (k : Int))] ++ _)
      refine kc_seq ?_
      refine kc_seq ?_
      refine kc_region ?_
      refine kl_mv rfl ?_
      refine kl_mv rfl ?_
      refine kl_len rfl (by assumption) (fun l34 => ?_)
      refine kl_lss rfl rfl ?_
      refine kl_nil ?_
      refine kq_code ?_
      refine kc_if rfl (fun c35 => ?_) (fun c35 => ?_)
      · skip
        have hk9 := c35
        have hci := self_in hg c35
        refine kc_skipQ ?_
        refine kq_code ?_
        refine kc_seq ?_
        refine kc_block ?_
        refine kc_seq ?_
        refine kc_region ?_
        refine kl_ldW rfl rfl ?_
        refine kl_mv rfl ?_
        refine kl_call rfl rfl (neighbours_ok z7 (k : Int) (by assumption) (by assumption)) (fun v36 H37 f38 h39 => ?_)
        refine kl_as rfl ?_
        refine kl_nil ?_
        refine kq_code ?_
        refine kc_seq ?_
        refine kc_seq ?_
        refine kc_region ?_
        refine kl_as rfl ?_
        refine kl_nil ?_
        refine kq_code ?_
        refine kc_block ?_
        refine kc_loop0 (A := Nat) (fun zz => (zz ≤ (nbI z7 (k : Int)).length)) (fun zz => (nbI z7 (k : Int)).length - zz) (fun zz => [(7, .int .i64 (zz : Int))]) (0) (pc 3 rfl (pc 4 rfl (pc 5 rfl (pc 6 rfl (pc 29 rfl (pc 30 rfl (pc 31 rfl (pc 32 rfl (pc 35 rfl (pc 36 rfl (pc 37 rfl pn))))))))))) (pc 7 rfl pn) (Nat.zero_le _) ?_
        rintro j hJ42
        have hk40 : (j ≤ (nbI z7 (k : Int)).length) := hJ42
        change KC _ _ (_) _ _ ([(7, .int .i64 (j : Int))] ++ _)
        refine kc_seq ?_
        refine kc_seq ?_
        refine kc_region ?_
        refine kl_mv rfl ?_
        refine kl_mv rfl ?_
        refine kl_len rfl (by assumption) (fun l43 => ?_)
        refine kl_lss rfl rfl ?_
        refine kl_nil ?_
        refine kq_code ?_
        refine kc_if rfl (fun c44 => ?_) (fun c44 => ?_)
        · skip
          have hin := near_in hg hk9 c44
          refine kc_skipQ ?_
          refine kq_code ?_
          refine kc_seq ?_
          refine kc_block ?_
          refine kc_seq ?_
          refine kc_draw 12 [true, true, true, true, true, true, true, true, true, true, true, true] (by kernel_rfl) (by kernel_rfl) ?_
          refine kl_mv rfl ?_
          refine kl_mv rfl ?_
          refine kl_mv rfl ?_
          refine kl_inI rfl rfl (by assumption) (by omega) (fun p45 a46 => ?_)
          refine kl_ld rfl (by assumption) ?_
          refine kl_ixI rfl rfl (by assumption) (by omega) (by omega) (fun p47 a48 => ?_)
          refine kl_ld rfl (by assumption) ?_
          refine kl_mv rfl ?_
          refine kl_mv rfl ?_
          refine kl_inI rfl rfl (by assumption) (by omega) (fun p49 a50 => ?_)
          refine kl_ld rfl (by assumption) ?_
          refine kl_neq rfl rfl ?_
          refine kl_nil ?_
          refine kq_code ?_
          refine kc_if rfl (fun c51 => ?_) (fun c51 => ?_)
          · skip
            exact absurd hin.2 c51
          · skip
            refine kc_skipQ ?_
            refine kq_code ?_
            refine kc_region ?_
            refine kl_mv rfl ?_
            refine kl_inc rfl rfl (by omega) ?_
            refine kl_as rfl ?_
            refine kl_nil ?_
            refine kq_round0 ((j + 1)) (by omega) (by omega) (pc 7 rfl pn) (pc 3 rfl (pc 4 rfl (pc 5 rfl (pc 6 rfl (pc 29 rfl (pc 30 rfl (pc 31 rfl (pc 32 rfl (pc 35 rfl (pc 36 rfl (pc 37 rfl pn))))))))))) (List.Sublist.refl _)
        · skip
          refine kc_exit ?_
          refine kq_code ?_
          refine kc_seq ?_
          refine kc_draw 20 [true, true, true, true, true, true, true, true, true, true, true, true, true, true, true, true, true, true, true, true] (by kernel_rfl) (by kernel_rfl) ?_
          refine kl_mv rfl ?_
          refine kl_mv rfl ?_
          refine kl_inI rfl rfl (by assumption) (by omega) (fun p52 a53 => ?_)
          refine kl_ld rfl (by assumption) ?_
          refine kl_mv rfl ?_
          refine kl_gtr rfl rfl ?_
          refine kl_mv rfl ?_
          refine kl_join 13 75 (.bool (decide ((k : Int) < ((compI z7).getD k 0)) || decide (((compI z7).getD ((compI z7).getD k 0).toNat 0) ≠ ((compI z7).getD k 0)))) (pc 3 rfl (pc 4 rfl (pc 5 rfl (pc 6 rfl (pc 7 rfl (pc 29 rfl (pc 30 rfl (pc 31 rfl (pc 32 rfl (pc 35 rfl (pc 36 rfl (pc 37 rfl (pc 38 rfl (pc 39 rfl (pc 40 rfl (pc 41 rfl (pc 56 rfl (pc 57 rfl (pc 58 rfl (pc 59 rfl (pc 60 rfl (pc 61 rfl (pc 62 rfl pn))))))))))))))))))))))) (fun J61 => ?_) ?_
          · rcases Bool.eq_false_or_eq_true (decide ((k : Int) < ((compI z7).getD k 0))) with g54 | g54
            · skip
              refine kl_gF rfl rfl g54 ?_
              refine kl_gF rfl rfl g54 ?_
              refine kl_gF rfl rfl g54 ?_
              refine kl_gF rfl rfl g54 ?_
              refine kl_gF rfl rfl g54 ?_
              refine kl_gF rfl rfl g54 ?_
              refine kl_gF rfl rfl g54 ?_
              refine kl_gF rfl rfl g54 ?_
              refine kl_gF rfl rfl g54 ?_
              refine kl_gF rfl rfl g54 ?_
              refine kl_gF rfl rfl g54 ?_
              refine kl_gF rfl rfl g54 ?_
              refine kl_orT (decide (((compI z7).getD ((compI z7).getD k 0).toNat 0) ≠ ((compI z7).getD k 0))) rfl rfl g54 ?_
              exact J61 _ (pc 75 rfl (pc 3 rfl (pc 4 rfl (pc 5 rfl (pc 6 rfl (pc 7 rfl (pc 29 rfl (pc 30 rfl (pc 31 rfl (pc 32 rfl (pc 35 rfl (pc 36 rfl (pc 37 rfl (pc 38 rfl (pc 39 rfl (pc 40 rfl (pc 41 rfl (pc 56 rfl (pc 57 rfl (pc 58 rfl (pc 59 rfl (pc 60 rfl (pc 61 rfl (pc 62 rfl pn))))))))))))))))))))))))
            · skip
              have g54p := of_decide_eq_false g54
              refine kl_gT rfl rfl g54 ?_
              refine kl_mv rfl ?_
              refine kl_gT rfl rfl g54 ?_
              refine kl_mv rfl ?_
              refine kl_gT rfl rfl g54 ?_
              refine kl_mv rfl ?_
              refine kl_gT rfl rfl g54 ?_
              refine kl_inI rfl rfl (by assumption) (by omega) (fun p55 a56 => ?_)
              refine kl_gT rfl rfl g54 ?_
              refine kl_ld rfl (by assumption) ?_
              refine kl_gT rfl rfl g54 ?_
              refine kl_ixI rfl rfl (by assumption) (by omega) (by omega) (fun p57 a58 => ?_)
              refine kl_gT rfl rfl g54 ?_
              refine kl_ld rfl (by assumption) ?_
              refine kl_gT rfl rfl g54 ?_
              refine kl_mv rfl ?_
              refine kl_gT rfl rfl g54 ?_
              refine kl_mv rfl ?_
              refine kl_gT rfl rfl g54 ?_
              refine kl_inI rfl rfl (by assumption) (by omega) (fun p59 a60 => ?_)
              refine kl_gT rfl rfl g54 ?_
              refine kl_ld rfl (by assumption) ?_
              refine kl_gT rfl rfl g54 ?_
              refine kl_neq rfl rfl ?_
              refine kl_orF rfl rfl g54 ?_
              exact J61 _ (pc 75 rfl (pc 3 rfl (pc 4 rfl (pc 5 rfl (pc 6 rfl (pc 7 rfl (pc 29 rfl (pc 30 rfl (pc 31 rfl (pc 32 rfl (pc 35 rfl (pc 36 rfl (pc 37 rfl (pc 38 rfl (pc 39 rfl (pc 40 rfl (pc 41 rfl (pc 56 rfl (pc 57 rfl (pc 58 rfl (pc 59 rfl (pc 60 rfl (pc 61 rfl (pc 62 rfl pn))))))))))))))))))))))))
          refine kl_nil ?_
          refine kq_code ?_
          refine kc_cond rfl (fun c62 => ?_) (fun c62 => ?_)
          · skip
            have c62r := c62
            try simp only [Bool.not_eq_true', Bool.not_eq_false', Bool.not_true, Bool.not_false, decide_eq_true_eq, decide_eq_false_iff_not, Bool.and_eq_true, Bool.or_eq_false_iff] at c62
            exfalso
            have h8 := c62r
            rw [Bool.or_eq_true, decide_eq_true_eq, decide_eq_true_eq] at h8
            rcases h8 with h9 | h9
            · omega
            · exact h9 hci.2.2
          · skip
            have c62r := c62
            try simp only [Bool.not_eq_true', Bool.not_eq_false', Bool.not_true, Bool.not_false, decide_eq_true_eq, decide_eq_false_iff_not, Bool.and_eq_true, Bool.or_eq_false_iff] at c62
            refine kc_skipQ ?_
            refine kq_code ?_
            refine kc_region ?_
            refine kl_mv rfl ?_
            refine kl_inc rfl rfl (by omega) ?_
            refine kl_as rfl ?_
            refine kl_nil ?_
            refine kq_round0 ((k + 1)) (by omega) (by omega) (pc 5 rfl pn) (pc 3 rfl (pc 4 rfl pn)) (List.Sublist.refl _)
      · skip
        refine kc_exit ?_
        refine kq_code ?_
        refine kc_seq ?_
        refine kc_region ?_
        refine kl_mv rfl ?_
        refine kl_len rfl (by assumption) (fun l63 => ?_)
        refine kl_fdV rfl ?_
        refine kl_ldB rfl rfl ?_
        refine kl_len rfl (by assumption) (fun l64 => ?_)
        refine kl_eql rfl rfl ?_
        refine kl_as rfl ?_
        refine kl_nil ?_
        refine kq_code ?_
        refine kc_ret ?_
        refine kq_retP rfl rfl (congrArg Value.bool ?_)
        first | rfl | (rw [comp_eq]; simp; done) | (simp [compI_len hg]; done)
end Go.Proofs.YtooiagkfhhfojaaDoor
