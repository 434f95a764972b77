/- Walks of functions of the program: each returns what the plain function gives. Conditions: those that each statement names. -/
import Derived.Test.YtooiagkfhhfojaaDoorWcomp
import Derived.Test.YtooiagkfhhfojaaDoorWscomp
import Derived.Test.YtooiagkfhhfojaaDoorWsz
import Derived.Test.YtooiagkfhhfojaaDoorWto
import Derived.Test.YtooiagkfhhfojaaDoorWeq
import Derived.Test.YtooiagkfhhfojaaDoorWmark
namespace Go.Proofs.YtooiagkfhhfojaaDoor
open Go
set_option linter.unusedSimpArgs false
set_option linter.unusedVariables false
theorem lawEc_ok {Hmd : Hp} {vmd : Value} {Hmc : Hp} {vmc : Value} {Ht : Hp} (m : Mod) (hmd : Ints Hmd vmd m.doms) (hmc : Cons Hmc vmc m.cons) (htab : At Ht (.pointer (some ⟨1, 0, none⟩)) tabV) : SpecP Tryd.prog 5 [.agg #[vmd, vmc]] [Hmd, Hmc, Ht] (.bool true) := by
  refine spec_of Tryd.func5 rfl rfl rfl (fun B => ?_)
  refine kc_seq ?_
  refine kc_region ?_
  refine kl_box rfl rfl (fun p1 H2 f3 a4 => ?_)
  refine kl_as rfl ?_
  refine kl_nil ?_
  refine kq_code ?_
  refine kc_seq ?_
  refine kc_region ?_
  refine kl_as rfl ?_
  refine kl_nil ?_
  refine kq_code ?_
  refine kc_seq ?_
  refine kc_region ?_
  refine kl_ldS rfl (by assumption) rfl ?_
  refine kl_mv rfl ?_
  refine kl_callP rfl rfl (szModel_ok m (1048576 : Int) (by omega) (by assumption) (by assumption)) ?_
  refine kl_as rfl ?_
  refine kl_nil ?_
  refine kq_code ?_
  refine kc_seq ?_
  refine kc_seq ?_
  refine kc_region ?_
  refine kl_mv rfl ?_
  refine kl_lss rfl rfl ?_
  refine kl_nil ?_
  refine kq_code ?_
  refine kc_if rfl (fun c5 => ?_) (fun c5 => ?_)
  · skip
    refine kc_seq ?_
    refine kc_region ?_
    refine kl_as rfl ?_
    refine kl_nil ?_
    refine kq_code ?_
    refine kc_ret ?_
    refine kq_retP rfl rfl (congrArg Value.bool ?_)
    first | rfl | (exfalso; simp only [comp_eq, held_mark, markL_len] at *; first | omega | (simp at *; done) | (simp at *; omega) | simp_all)
  · skip
    have hs := small_of (szB_ok c5)
    have hmk := hs.marks
    refine kc_skipQ ?_
    refine kq_code ?_
    refine kc_seq ?_
    refine kc_region ?_
    refine kl_ldS rfl (by assumption) rfl ?_
    refine kl_call rfl rfl (toModel_ok m hs (by assumption) (by assumption)) (fun v6 H7 f8 h9 => ?_)
    obtain ⟨u10, u11, rfl, h12, h13⟩ := h9
    refine kl_call rfl rfl (scomponents_ok m hs.doms (by assumption) (by assumption)) (fun v14 H15 f16 h17 => ?_)
    refine kl_as rfl ?_
    refine kl_nil ?_
    refine kq_code ?_
    refine kc_seq ?_
    refine kc_region ?_
    refine kl_ldS rfl (by assumption) rfl ?_
    refine kl_callL rfl rfl (toModel_ok m hs (by assumption) (by assumption)) (fun v18 H19 f20 h21 => ?_)
    obtain ⟨u22, u23, rfl, h24, h25⟩ := h21
    refine kl_alloc (cs := [.slice none 0 0, .slice none 0 0]) rfl (fun b26 hb27 => ?_)
    refine kl_stW (us := [u22, u23]) rfl rfl rfl rfl (oc (Sl.oneCell (by assumption)) (oc (Sl.oneCell (by assumption)) oc_nil)) rfl ?_
    refine kl_nil ?_
    refine kq_code ?_
    refine kc_seq ?_
    refine kc_region ?_
    refine kl_ldW rfl rfl ?_
    refine kl_callL rfl rfl (components_ok m (by assumption) (by assumption) htab) (fun v28 H29 f30 h31 => ?_)
    refine kl_as rfl ?_
    refine kl_nil ?_
    refine kq_code ?_
    refine kc_seq ?_
    refine kc_seq ?_
    refine kc_region ?_
    refine kl_mv rfl ?_
    refine kl_mv rfl ?_
    refine kl_callP rfl rfl (eqIntS_ok (compI m) (compS m) (by assumption) (by assumption)) ?_
    refine kl_not rfl ?_
    refine kl_nil ?_
    refine kq_code ?_
    refine kc_cond rfl (fun c32 => ?_) (fun c32 => ?_)
    · skip
      have c32r := c32
      try simp only [Bool.not_eq_true', Bool.not_eq_false', Bool.not_true, Bool.not_false, decide_eq_true_eq, decide_eq_false_iff_not, Bool.and_eq_true, Bool.or_eq_false_iff] at c32
      refine kc_seq ?_
      refine kc_region ?_
      refine kl_as rfl ?_
      refine kl_nil ?_
      refine kq_code ?_
      refine kc_ret ?_
      refine kq_retP rfl rfl (congrArg Value.bool ?_)
      first | rfl | (exfalso; simp only [comp_eq, held_mark, markL_len] at *; first | omega | (simp at *; done) | (simp at *; omega) | simp_all)
    · skip
      have c32r := c32
      try simp only [Bool.not_eq_true', Bool.not_eq_false', Bool.not_true, Bool.not_false, decide_eq_true_eq, decide_eq_false_iff_not, Bool.and_eq_true, Bool.or_eq_false_iff] at c32
      refine kc_skipQ ?_
      refine kq_code ?_
      refine kc_seq ?_
      refine kc_seq ?_
      refine kc_draw 5 [true, true, false, false, true] (by kernel_rfl) (by kernel_rfl) ?_
      refine kl_ldW rfl rfl ?_
      refine kl_ldS rfl (by assumption) rfl ?_
      refine kl_call rfl rfl (toModel_ok m hs (by assumption) (by assumption)) (fun v33 H34 f35 h36 => ?_)
      obtain ⟨u37, u38, rfl, h39, h40⟩ := h36
      refine kl_callP rfl rfl (eqModel_ok m m (by assumption) (by assumption) (by assumption) (by assumption)) ?_
      refine kl_not rfl ?_
      refine kl_nil ?_
      refine kq_code ?_
      refine kc_cond rfl (fun c41 => ?_) (fun c41 => ?_)
      · skip
        have c41r := c41
        try simp only [Bool.not_eq_true', Bool.not_eq_false', Bool.not_true, Bool.not_false, decide_eq_true_eq, decide_eq_false_iff_not, Bool.and_eq_true, Bool.or_eq_false_iff] at c41
        refine kc_seq ?_
        refine kc_region ?_
        refine kl_as rfl ?_
        refine kl_nil ?_
        refine kq_code ?_
        refine kc_ret ?_
        refine kq_retP rfl rfl (congrArg Value.bool ?_)
        first | rfl | (exfalso; simp only [comp_eq, held_mark, markL_len] at *; first | omega | (simp at *; done) | (simp at *; omega) | simp_all)
      · skip
        have c41r := c41
        try simp only [Bool.not_eq_true', Bool.not_eq_false', Bool.not_true, Bool.not_false, decide_eq_true_eq, decide_eq_false_iff_not, Bool.and_eq_true, Bool.or_eq_false_iff] at c41
        refine kc_skipQ ?_
        refine kq_code ?_
        refine kc_seq ?_
        refine kc_region ?_
        refine kl_as rfl ?_
        refine kl_nil ?_
        refine kq_code ?_
        refine kc_seq ?_
        refine kc_region ?_
        refine kl_ldW rfl rfl ?_
        refine kl_mv rfl ?_
        refine kl_callM rfl rfl (markModel_ok m (1 : Int) (by omega) (by assumption) (by assumption) f20.2) (fun v42 H43 K44 f45 h46 d47 => ?_)
        obtain ⟨m48, rfl⟩ := h46
        have f50 := Mk.fr m48 f20
        refine kl_as rfl ?_
        refine kl_nil ?_
        refine kq_code ?_
        refine kc_seq ?_
        refine kc_seq ?_
        refine kc_region ?_
        refine kl_mv rfl ?_
        refine kl_lss rfl rfl ?_
        refine kl_mv rfl ?_
        refine kl_join 5 42 (.bool (decide (((1 : Int) + m.doms.length + (msum m.cons : Nat)) < (0 : Int)) || !(decide ((compI m) = (compS m))))) (pc 1 rfl (pc 2 rfl (pc 4 rfl (pc 6 rfl (pc 37 rfl pn))))) (fun J52 => ?_) ?_
        · rcases Bool.eq_false_or_eq_true (decide (((1 : Int) + m.doms.length + (msum m.cons : Nat)) < (0 : Int))) with g51 | g51
          · skip
            refine kl_gF rfl rfl g51 ?_
            refine kl_gF rfl rfl g51 ?_
            refine kl_gF rfl rfl g51 ?_
            refine kl_gF rfl rfl g51 ?_
            refine kl_orT (!(decide ((compI m) = (compS m)))) rfl rfl g51 ?_
            exact J52 _ (pc 42 rfl (pc 1 rfl (pc 2 rfl (pc 4 rfl (pc 6 rfl (pc 37 rfl pn))))))
          · skip
            have g51p := of_decide_eq_false g51
            refine kl_gT rfl rfl g51 ?_
            refine kl_mv rfl ?_
            refine kl_gT rfl rfl g51 ?_
            refine kl_mv rfl ?_
            refine kl_gT rfl rfl g51 ?_
            refine kl_callP rfl rfl (eqIntS_ok (compI m) (compS m) (by assumption) (by assumption)) ?_
            refine kl_gT rfl rfl g51 ?_
            refine kl_not rfl ?_
            refine kl_orF rfl rfl g51 ?_
            exact J52 _ (pc 42 rfl (pc 1 rfl (pc 2 rfl (pc 4 rfl (pc 6 rfl (pc 37 rfl pn))))))
        refine kl_nil ?_
        refine kq_code ?_
        refine kc_cond rfl (fun c53 => ?_) (fun c53 => ?_)
        · skip
          have c53r := c53
          try simp only [Bool.not_eq_true', Bool.not_eq_false', Bool.not_true, Bool.not_false, decide_eq_true_eq, decide_eq_false_iff_not, Bool.and_eq_true, Bool.or_eq_false_iff] at c53
          refine kc_seq ?_
          refine kc_region ?_
          refine kl_as rfl ?_
          refine kl_nil ?_
          refine kq_code ?_
          refine kc_ret ?_
          refine kq_retP rfl rfl (congrArg Value.bool ?_)
          first | rfl | (exfalso; simp only [comp_eq, held_mark, markL_len] at *; first | omega | (simp at *; done) | (simp at *; omega) | simp_all)
        · skip
          have c53r := c53
          try simp only [Bool.not_eq_true', Bool.not_eq_false', Bool.not_true, Bool.not_false, decide_eq_true_eq, decide_eq_false_iff_not, Bool.and_eq_true, Bool.or_eq_false_iff] at c53
          refine kc_skipQ ?_
          refine kq_code ?_
          refine kc_seq ?_
          refine kc_region ?_
          refine kl_as rfl ?_
          refine kl_nil ?_
          refine kq_code ?_
          refine kc_seq ?_
          refine kc_region ?_
          refine kl_mv rfl ?_
          refine kl_mv rfl ?_
          refine kl_callM rfl rfl (markIntS_ok (compI m) (1 : Int) (by omega) (by assumption) f30.2) (fun v54 H55 K56 f57 h58 d59 => ?_)
          obtain ⟨m60, rfl, e61⟩ := h58
          have f62 := Mk.fr m60 f30
          refine kl_as rfl ?_
          refine kl_nil ?_
          refine kq_code ?_
          refine kc_seq ?_
          refine kc_region ?_
          refine kl_as rfl ?_
          refine kl_nil ?_
          refine kq_code ?_
          refine kc_seq ?_
          refine kc_region ?_
          refine kl_mv rfl ?_
          refine kl_mv rfl ?_
          refine kl_callP rfl rfl (heldIntS_ok (markL (1 : Int) (compI m).length) (1 : Int) (by omega) (by assumption)) ?_
          refine kl_as rfl ?_
          refine kl_nil ?_
          refine kq_code ?_
          refine kc_seq ?_
          refine kc_seq ?_
          refine kc_region ?_
          refine kl_mv rfl ?_
          refine kl_lss rfl rfl ?_
          refine kl_nil ?_
          refine kq_code ?_
          refine kc_if rfl (fun c63 => ?_) (fun c63 => ?_)
          · skip
            refine kc_seq ?_
            refine kc_region ?_
            refine kl_as rfl ?_
            refine kl_nil ?_
            refine kq_code ?_
            refine kc_ret ?_
            refine kq_retP rfl rfl (congrArg Value.bool ?_)
            first | rfl | (exfalso; simp only [comp_eq, held_mark, markL_len] at *; first | omega | (simp at *; done) | (simp at *; omega) | simp_all)
          · skip
            refine kc_skipQ ?_
            refine kq_code ?_
            refine kc_seq ?_
            refine kc_seq ?_
            refine kc_region ?_
            refine kl_mv rfl ?_
            refine kl_mv rfl ?_
            refine kl_neq rfl rfl ?_
            refine kl_nil ?_
            refine kq_code ?_
            refine kc_if rfl (fun c64 => ?_) (fun c64 => ?_)
            · skip
              refine kc_seq ?_
              refine kc_region ?_
              refine kl_as rfl ?_
              refine kl_nil ?_
              refine kq_code ?_
              refine kc_ret ?_
              refine kq_retP rfl rfl (congrArg Value.bool ?_)
              first | rfl | (exfalso; simp only [comp_eq, held_mark, markL_len] at *; first | omega | (simp at *; done) | (simp at *; omega) | simp_all)
            · skip
              refine kc_skipQ ?_
              refine kq_code ?_
              refine kc_seq ?_
              refine kc_region ?_
              refine kl_ldS rfl (by assumption) rfl ?_
              refine kl_call rfl rfl (toModel_ok m hs (by assumption) (by assumption)) (fun v65 H66 f67 h68 => ?_)
              obtain ⟨u69, u70, rfl, h71, h72⟩ := h68
              refine kl_call rfl rfl (components_ok m (by assumption) (by assumption) htab) (fun v73 H74 f75 h76 => ?_)
              refine kl_as rfl ?_
              refine kl_nil ?_
              refine kq_code ?_
              refine kc_seq ?_
              refine kc_seq ?_
              refine kc_region ?_
              refine kl_mv rfl ?_
              refine kl_mv rfl ?_
              refine kl_callP rfl rfl (eqIntS_ok (compI m) (compS m) (by assumption) (by assumption)) ?_
              refine kl_not rfl ?_
              refine kl_nil ?_
              refine kq_code ?_
              refine kc_cond rfl (fun c77 => ?_) (fun c77 => ?_)
              · skip
                have c77r := c77
                try simp only [Bool.not_eq_true', Bool.not_eq_false', Bool.not_true, Bool.not_false, decide_eq_true_eq, decide_eq_false_iff_not, Bool.and_eq_true, Bool.or_eq_false_iff] at c77
                refine kc_seq ?_
                refine kc_region ?_
                refine kl_as rfl ?_
                refine kl_nil ?_
                refine kq_code ?_
                refine kc_ret ?_
                refine kq_retP rfl rfl (congrArg Value.bool ?_)
                first | rfl | (exfalso; simp only [comp_eq, held_mark, markL_len] at *; first | omega | (simp at *; done) | (simp at *; omega) | simp_all)
              · skip
                have c77r := c77
                try simp only [Bool.not_eq_true', Bool.not_eq_false', Bool.not_true, Bool.not_false, decide_eq_true_eq, decide_eq_false_iff_not, Bool.and_eq_true, Bool.or_eq_false_iff] at c77
                refine kc_skipQ ?_
                refine kq_code ?_
                refine kc_seq ?_
                refine kc_region ?_
                refine kl_as rfl ?_
                refine kl_nil ?_
                refine kq_code ?_
                refine kc_seq ?_
                refine kc_region ?_
                refine kl_mv rfl ?_
                refine kl_mv rfl ?_
                refine kl_callP rfl rfl (heldIntS_ok (markL (1 : Int) (compI m).length) (1 : Int) (by omega) (by assumption)) ?_
                refine kl_as rfl ?_
                refine kl_nil ?_
                refine kq_code ?_
                refine kc_seq ?_
                refine kc_seq ?_
                refine kc_region ?_
                refine kl_mv rfl ?_
                refine kl_lss rfl rfl ?_
                refine kl_nil ?_
                refine kq_code ?_
                refine kc_if rfl (fun c78 => ?_) (fun c78 => ?_)
                · skip
                  refine kc_seq ?_
                  refine kc_region ?_
                  refine kl_as rfl ?_
                  refine kl_nil ?_
                  refine kq_code ?_
                  refine kc_ret ?_
                  refine kq_retP rfl rfl (congrArg Value.bool ?_)
                  first | rfl | (exfalso; simp only [comp_eq, held_mark, markL_len] at *; first | omega | (simp at *; done) | (simp at *; omega) | simp_all)
                · skip
                  refine kc_skipQ ?_
                  refine kq_code ?_
                  refine kc_seq ?_
                  refine kc_seq ?_
                  refine kc_region ?_
                  refine kl_mv rfl ?_
                  refine kl_mv rfl ?_
                  refine kl_neq rfl rfl ?_
                  refine kl_nil ?_
                  refine kq_code ?_
                  refine kc_if rfl (fun c79 => ?_) (fun c79 => ?_)
                  · skip
                    refine kc_seq ?_
                    refine kc_region ?_
                    refine kl_as rfl ?_
                    refine kl_nil ?_
                    refine kq_code ?_
                    refine kc_ret ?_
                    refine kq_retP rfl rfl (congrArg Value.bool ?_)
                    first | rfl | (exfalso; simp only [comp_eq, held_mark, markL_len] at *; first | omega | (simp at *; done) | (simp at *; omega) | simp_all)
                  · skip
                    refine kc_skipQ ?_
                    refine kq_code ?_
                    refine kc_seq ?_
                    refine kc_region ?_
                    refine kl_as rfl ?_
                    refine kl_nil ?_
                    refine kq_code ?_
                    refine kc_ret ?_
                    refine kq_retP rfl rfl (congrArg Value.bool ?_)
                    first | rfl | (exfalso; simp only [comp_eq, held_mark, markL_len] at *; first | omega | (simp at *; done) | (simp at *; omega) | simp_all)
end Go.Proofs.YtooiagkfhhfojaaDoor
