/- Walks of functions of the program: each returns what the plain function gives. Conditions: those that each statement names. -/
import Derived.Test.YtigngogjgohfgaaWfar
import Derived.Test.YtigngogjgohfgaaWsz
import Derived.Test.YtigngogjgohfgaaWto
import Derived.Test.YtigngogjgohfgaaWeq
import Derived.Test.YtigngogjgohfgaaWmark
namespace Go.Proofs.Ytigngogjgohfgaa
open Go
set_option linter.unusedSimpArgs false
set_option linter.unusedVariables false
theorem lawFf_ok {Hmd : Hp} {vmd : Value} {Hmc : Hp} {vmc : Value} {Hx : Hp} {vx : Value} (m : Mod) (x : List Int) (hmd : Ints Hmd vmd m.doms) (hmc : Cons Hmc vmc m.cons) (hx : Ints Hx vx x) : SpecP Try.prog 5 [.agg #[vmd, vmc], vx] [Hmd, Hmc, Hx] (.bool true) := by
  have hlen := far_len (m := m) (x := x)
  refine spec_of Try.func5 rfl rfl rfl (fun B => ?_)
  refine kc_seq ?_
  refine kc_region ?_
  refine kl_box rfl rfl (fun p1 H2 f3 a4 => ?_)
  refine kl_as rfl ?_
  refine kl_nil ?_
  refine kq_code ?_
  refine kc_seq ?_
  refine kc_seq ?_
  refine kc_region ?_
  refine kl_mv rfl ?_
  refine kl_len rfl (by assumption) (fun l5 => ?_)
  refine kl_gtr rfl rfl ?_
  refine kl_nil ?_
  refine kq_code ?_
  refine kc_if rfl (fun c6 => ?_) (fun c6 => ?_)
  · skip
    refine kc_seq ?_
    refine kc_region ?_
    refine kl_as rfl ?_
    refine kl_nil ?_
    refine kq_code ?_
    refine kc_ret ?_
    refine kq_retP rfl rfl (congrArg Value.bool ?_)
    first | rfl | (exfalso; simp only [held_mark, markL_len] at *; first | omega | (simp at *; done) | (simp at *; omega) | simp_all)
  · skip
    refine kc_skipQ ?_
    refine kq_code ?_
    refine kc_seq ?_
    refine kc_region ?_
    refine kl_as rfl ?_
    refine kl_nil ?_
    refine kq_code ?_
    refine kc_seq ?_
    refine kc_region ?_
    refine kl_ldS rfl (by assumption) rfl ?_
    refine kl_mv rfl ?_
    refine kl_callP rfl rfl (szModel_ok m (1048576 : Int) (by omega) (by assumption) (by assumption)) ?_
    refine kl_as rfl ?_
    refine kl_nil ?_
    refine kq_code ?_
    refine kc_seq ?_
    refine kc_seq ?_
    refine kc_region ?_
    refine kl_mv rfl ?_
    refine kl_lss rfl rfl ?_
    refine kl_nil ?_
    refine kq_code ?_
    refine kc_if rfl (fun c7 => ?_) (fun c7 => ?_)
    · skip
      refine kc_seq ?_
      refine kc_region ?_
      refine kl_as rfl ?_
      refine kl_nil ?_
      refine kq_code ?_
      refine kc_ret ?_
      refine kq_retP rfl rfl (congrArg Value.bool ?_)
      first | rfl | (exfalso; simp only [held_mark, markL_len] at *; first | omega | (simp at *; done) | (simp at *; omega) | simp_all)
    · skip
      have hs := small_of (szB_ok c7)
      have hmk := hs.marks
      refine kc_skipQ ?_
      refine kq_code ?_
      refine kc_seq ?_
      refine kc_region ?_
      refine kl_ldS rfl (by assumption) rfl ?_
      refine kl_call rfl rfl (toModel_ok m hs (by assumption) (by assumption)) (fun v8 H9 f10 h11 => ?_)
      obtain ⟨u12, u13, rfl, h14, h15⟩ := h11
      refine kl_mv rfl ?_
      refine kl_call rfl rfl (toIntS_ok x (by omega) (by assumption)) (fun v16 H17 f18 h19 => ?_)
      refine kl_call rfl rfl (farS_ok m x (by assumption) (by assumption) (by assumption)) (fun v20 H21 f22 h23 => ?_)
      obtain ⟨u24, rfl, h25⟩ := h23
      refine kl_mv rfl ?_
      refine kl_xt rfl rfl ?_
      refine kl_xt rfl rfl ?_
      refine kl_as rfl ?_
      refine kl_as rfl ?_
      refine kl_nil ?_
      refine kq_code ?_
      refine kc_seq ?_
      refine kc_region ?_
      refine kl_ldS rfl (by assumption) rfl ?_
      refine kl_callL rfl rfl (toModel_ok m hs (by assumption) (by assumption)) (fun v26 H27 f28 h29 => ?_)
      obtain ⟨u30, u31, rfl, h32, h33⟩ := h29
      refine kl_alloc (cs := [.slice none 0 0, .slice none 0 0]) rfl (fun b34 hb35 => ?_)
      refine kl_stW (us := [u30, u31]) rfl rfl rfl rfl (oc (Sl.oneCell (by assumption)) (oc (Sl.oneCell (by assumption)) oc_nil)) rfl ?_
      refine kl_nil ?_
      refine kq_code ?_
      refine kc_seq ?_
      refine kc_region ?_
      refine kl_mv rfl ?_
      refine kl_callL rfl rfl (toIntS_ok x (by omega) (by assumption)) (fun v36 H37 f38 h39 => ?_)
      refine kl_as rfl ?_
      refine kl_nil ?_
      refine kq_code ?_
      refine kc_seq ?_
      refine kc_region ?_
      refine kl_ldW rfl rfl ?_
      refine kl_mv rfl ?_
      refine kl_callL rfl rfl (farI_ok m x (by assumption) (by assumption) (by assumption)) (fun v40 H41 f42 h43 => ?_)
      obtain ⟨u44, rfl, h45⟩ := h43
      refine kl_mv rfl ?_
      refine kl_xt rfl rfl ?_
      refine kl_xt rfl rfl ?_
      refine kl_as rfl ?_
      refine kl_as rfl ?_
      refine kl_nil ?_
      refine kq_code ?_
      refine kc_seq ?_
      refine kc_seq ?_
      refine kc_region ?_
      refine kl_mv rfl ?_
      refine kl_mv rfl ?_
      refine kl_callP rfl rfl (eqIntS_ok ((farI m x).1) ((farI m x).1) (by assumption) (by assumption)) ?_
      refine kl_not rfl ?_
      refine kl_mv rfl ?_
      refine kl_join 4 51 (.bool (!(decide (((farI m x).1) = ((farI m x).1))) || (((farI m x).2) != ((farI m x).2)))) (pc 1 rfl (pc 2 rfl (pc 4 rfl (pc 6 rfl (pc 7 rfl (pc 8 rfl (pc 9 rfl (pc 10 rfl (pc 11 rfl (pc 47 rfl pn)))))))))) (fun J47 => ?_) ?_
      · rcases Bool.eq_false_or_eq_true (!(decide (((farI m x).1) = ((farI m x).1)))) with g46 | g46
        · skip
          refine kl_gF rfl rfl g46 ?_
          refine kl_gF rfl rfl g46 ?_
          refine kl_gF rfl rfl g46 ?_
          refine kl_orT (((farI m x).2) != ((farI m x).2)) rfl rfl g46 ?_
          exact J47 _ (pc 51 rfl (pc 1 rfl (pc 2 rfl (pc 4 rfl (pc 6 rfl (pc 7 rfl (pc 8 rfl (pc 9 rfl (pc 10 rfl (pc 11 rfl (pc 47 rfl pn)))))))))))
        · skip
          have g46p := g46
          try simp only [Bool.not_eq_true', Bool.not_eq_false', decide_eq_true_eq, decide_eq_false_iff_not, Bool.and_eq_true, Bool.or_eq_false_iff, withinB_iff] at g46p
          refine kl_gT rfl rfl g46 ?_
          refine kl_mv rfl ?_
          refine kl_gT rfl rfl g46 ?_
          refine kl_mv rfl ?_
          refine kl_gT rfl rfl g46 ?_
          refine kl_bne rfl rfl ?_
          refine kl_orF rfl rfl g46 ?_
          exact J47 _ (pc 51 rfl (pc 1 rfl (pc 2 rfl (pc 4 rfl (pc 6 rfl (pc 7 rfl (pc 8 rfl (pc 9 rfl (pc 10 rfl (pc 11 rfl (pc 47 rfl pn)))))))))))
      refine kl_nil ?_
      refine kq_code ?_
      refine kc_cond rfl (fun c48 => ?_) (fun c48 => ?_)
      · skip
        have c48r := c48
        try simp only [Bool.not_eq_true', Bool.not_eq_false', Bool.not_true, Bool.not_false, decide_eq_true_eq, decide_eq_false_iff_not, Bool.and_eq_true, Bool.or_eq_false_iff] at c48
        refine kc_seq ?_
        refine kc_region ?_
        refine kl_as rfl ?_
        refine kl_nil ?_
        refine kq_code ?_
        refine kc_ret ?_
        refine kq_retP rfl rfl (congrArg Value.bool ?_)
        first | rfl | (exfalso; simp only [held_mark, markL_len] at *; first | omega | (simp at *; done) | (simp at *; omega) | simp_all)
      · skip
        have c48r := c48
        try simp only [Bool.not_eq_true', Bool.not_eq_false', Bool.not_true, Bool.not_false, decide_eq_true_eq, decide_eq_false_iff_not, Bool.and_eq_true, Bool.or_eq_false_iff] at c48
        refine kc_skipQ ?_
        refine kq_code ?_
        refine kc_seq ?_
        refine kc_seq ?_
        refine kc_draw 5 [true, true, false, false, true] (by kernel_rfl) (by kernel_rfl) ?_
        refine kl_ldW rfl rfl ?_
        refine kl_ldS rfl (by assumption) rfl ?_
        refine kl_call rfl rfl (toModel_ok m hs (by assumption) (by assumption)) (fun v49 H50 f51 h52 => ?_)
        obtain ⟨u53, u54, rfl, h55, h56⟩ := h52
        refine kl_callP rfl rfl (eqModel_ok m m (by assumption) (by assumption) (by assumption) (by assumption)) ?_
        refine kl_not rfl ?_
        refine kl_nil ?_
        refine kq_code ?_
        refine kc_cond rfl (fun c57 => ?_) (fun c57 => ?_)
        · skip
          have c57r := c57
          try simp only [Bool.not_eq_true', Bool.not_eq_false', Bool.not_true, Bool.not_false, decide_eq_true_eq, decide_eq_false_iff_not, Bool.and_eq_true, Bool.or_eq_false_iff] at c57
          refine kc_seq ?_
          refine kc_region ?_
          refine kl_as rfl ?_
          refine kl_nil ?_
          refine kq_code ?_
          refine kc_ret ?_
          refine kq_retP rfl rfl (congrArg Value.bool ?_)
          first | rfl | (exfalso; simp only [held_mark, markL_len] at *; first | omega | (simp at *; done) | (simp at *; omega) | simp_all)
        · skip
          have c57r := c57
          try simp only [Bool.not_eq_true', Bool.not_eq_false', Bool.not_true, Bool.not_false, decide_eq_true_eq, decide_eq_false_iff_not, Bool.and_eq_true, Bool.or_eq_false_iff] at c57
          refine kc_skipQ ?_
          refine kq_code ?_
          refine kc_seq ?_
          refine kc_seq ?_
          refine kc_region ?_
          refine kl_mv rfl ?_
          refine kl_mv rfl ?_
          refine kl_call rfl rfl (toIntS_ok x (by omega) (by assumption)) (fun v58 H59 f60 h61 => ?_)
          refine kl_callP rfl rfl (eqIntS_ok x x (by assumption) (by assumption)) ?_
          refine kl_not rfl ?_
          refine kl_nil ?_
          refine kq_code ?_
          refine kc_cond rfl (fun c62 => ?_) (fun c62 => ?_)
          · skip
            have c62r := c62
            try simp only [Bool.not_eq_true', Bool.not_eq_false', Bool.not_true, Bool.not_false, decide_eq_true_eq, decide_eq_false_iff_not, Bool.and_eq_true, Bool.or_eq_false_iff] at c62
            refine kc_seq ?_
            refine kc_region ?_
            refine kl_as rfl ?_
            refine kl_nil ?_
            refine kq_code ?_
            refine kc_ret ?_
            refine kq_retP rfl rfl (congrArg Value.bool ?_)
            first | rfl | (exfalso; simp only [held_mark, markL_len] at *; first | omega | (simp at *; done) | (simp at *; omega) | simp_all)
          · skip
            have c62r := c62
            try simp only [Bool.not_eq_true', Bool.not_eq_false', Bool.not_true, Bool.not_false, decide_eq_true_eq, decide_eq_false_iff_not, Bool.and_eq_true, Bool.or_eq_false_iff] at c62
            refine kc_skipQ ?_
            refine kq_code ?_
            refine kc_seq ?_
            refine kc_region ?_
            refine kl_as rfl ?_
            refine kl_nil ?_
            refine kq_code ?_
            refine kc_seq ?_
            refine kc_region ?_
            refine kl_ldW rfl rfl ?_
            refine kl_mv rfl ?_
            refine kl_callM rfl rfl (markModel_ok m (1 : Int) (by omega) (by assumption) (by assumption) f28.2) (fun v63 H64 K65 f66 h67 d68 => ?_)
            obtain ⟨m69, rfl⟩ := h67
            have f71 := Mk.fr m69 f28
            refine kl_as rfl ?_
            refine kl_nil ?_
            refine kq_code ?_
            refine kc_seq ?_
            refine kc_region ?_
            refine kl_mv rfl ?_
            refine kl_mv rfl ?_
            refine kl_callM rfl rfl (markIntS_ok x ((1 : Int) + m.doms.length + (msum m.cons : Nat)) (by omega) (by assumption) f38.2) (fun v72 H73 K74 f75 h76 d77 => ?_)
            obtain ⟨m78, rfl, e79⟩ := h76
            have f80 := Mk.fr m78 f38
            refine kl_as rfl ?_
            refine kl_nil ?_
            refine kq_code ?_
            refine kc_seq ?_
            refine kc_seq ?_
            refine kc_region ?_
            refine kl_mv rfl ?_
            refine kl_lss rfl rfl ?_
            refine kl_mv rfl ?_
            refine kl_join 5 75 (.bool (decide ((((1 : Int) + m.doms.length + (msum m.cons : Nat)) + x.length) < (0 : Int)) || !(decide (((farI m x).1) = ((farI m x).1))))) (pc 1 rfl (pc 2 rfl (pc 4 rfl (pc 6 rfl (pc 7 rfl (pc 10 rfl (pc 11 rfl (pc 70 rfl pn)))))))) (fun J82 => ?_) ?_
            · rcases Bool.eq_false_or_eq_true (decide ((((1 : Int) + m.doms.length + (msum m.cons : Nat)) + x.length) < (0 : Int))) with g81 | g81
              · skip
                refine kl_gF rfl rfl g81 ?_
                refine kl_gF rfl rfl g81 ?_
                refine kl_gF rfl rfl g81 ?_
                refine kl_gF rfl rfl g81 ?_
                refine kl_orT (!(decide (((farI m x).1) = ((farI m x).1)))) rfl rfl g81 ?_
                exact J82 _ (pc 75 rfl (pc 1 rfl (pc 2 rfl (pc 4 rfl (pc 6 rfl (pc 7 rfl (pc 10 rfl (pc 11 rfl (pc 70 rfl pn)))))))))
              · skip
                have g81p := of_decide_eq_false g81
                refine kl_gT rfl rfl g81 ?_
                refine kl_mv rfl ?_
                refine kl_gT rfl rfl g81 ?_
                refine kl_mv rfl ?_
                refine kl_gT rfl rfl g81 ?_
                refine kl_callP rfl rfl (eqIntS_ok ((farI m x).1) ((farI m x).1) (by assumption) (by assumption)) ?_
                refine kl_gT rfl rfl g81 ?_
                refine kl_not rfl ?_
                refine kl_orF rfl rfl g81 ?_
                exact J82 _ (pc 75 rfl (pc 1 rfl (pc 2 rfl (pc 4 rfl (pc 6 rfl (pc 7 rfl (pc 10 rfl (pc 11 rfl (pc 70 rfl pn)))))))))
            refine kl_mv rfl ?_
            refine kl_join 4 80 (.bool ((decide ((((1 : Int) + m.doms.length + (msum m.cons : Nat)) + x.length) < (0 : Int)) || !(decide (((farI m x).1) = ((farI m x).1)))) || (((farI m x).2) != ((farI m x).2)))) (pc 1 rfl (pc 2 rfl (pc 4 rfl (pc 6 rfl (pc 7 rfl (pc 10 rfl (pc 76 rfl pn))))))) (fun J84 => ?_) ?_
            · rcases Bool.eq_false_or_eq_true (decide ((((1 : Int) + m.doms.length + (msum m.cons : Nat)) + x.length) < (0 : Int)) || !(decide (((farI m x).1) = ((farI m x).1)))) with g83 | g83
              · skip
                refine kl_gF rfl rfl g83 ?_
                refine kl_gF rfl rfl g83 ?_
                refine kl_gF rfl rfl g83 ?_
                refine kl_orT (((farI m x).2) != ((farI m x).2)) rfl rfl g83 ?_
                exact J84 _ (pc 80 rfl (pc 1 rfl (pc 2 rfl (pc 4 rfl (pc 6 rfl (pc 7 rfl (pc 10 rfl (pc 76 rfl pn))))))))
              · skip
                have g83p := g83
                try simp only [Bool.not_eq_true', Bool.not_eq_false', decide_eq_true_eq, decide_eq_false_iff_not, Bool.and_eq_true, Bool.or_eq_false_iff, withinB_iff] at g83p
                refine kl_gT rfl rfl g83 ?_
                refine kl_mv rfl ?_
                refine kl_gT rfl rfl g83 ?_
                refine kl_mv rfl ?_
                refine kl_gT rfl rfl g83 ?_
                refine kl_bne rfl rfl ?_
                refine kl_orF rfl rfl g83 ?_
                exact J84 _ (pc 80 rfl (pc 1 rfl (pc 2 rfl (pc 4 rfl (pc 6 rfl (pc 7 rfl (pc 10 rfl (pc 76 rfl pn))))))))
            refine kl_nil ?_
            refine kq_code ?_
            refine kc_cond rfl (fun c85 => ?_) (fun c85 => ?_)
            · skip
              have c85r := c85
              try simp only [Bool.not_eq_true', Bool.not_eq_false', Bool.not_true, Bool.not_false, decide_eq_true_eq, decide_eq_false_iff_not, Bool.and_eq_true, Bool.or_eq_false_iff] at c85
              refine kc_seq ?_
              refine kc_region ?_
              refine kl_as rfl ?_
              refine kl_nil ?_
              refine kq_code ?_
              refine kc_ret ?_
              refine kq_retP rfl rfl (congrArg Value.bool ?_)
              first | rfl | (exfalso; simp only [held_mark, markL_len] at *; first | omega | (simp at *; done) | (simp at *; omega) | simp_all)
            · skip
              have c85r := c85
              try simp only [Bool.not_eq_true', Bool.not_eq_false', Bool.not_true, Bool.not_false, decide_eq_true_eq, decide_eq_false_iff_not, Bool.and_eq_true, Bool.or_eq_false_iff] at c85
              refine kc_skipQ ?_
              refine kq_code ?_
              refine kc_seq ?_
              refine kc_region ?_
              refine kl_as rfl ?_
              refine kl_nil ?_
              refine kq_code ?_
              refine kc_seq ?_
              refine kc_region ?_
              refine kl_mv rfl ?_
              refine kl_mv rfl ?_
              refine kl_callM rfl rfl (markIntS_ok ((farI m x).1) (1 : Int) (by omega) (by assumption) f42.2) (fun v86 H87 K88 f89 h90 d91 => ?_)
              obtain ⟨m92, rfl, e93⟩ := h90
              have f94 := Mk.fr m92 f42
              refine kl_as rfl ?_
              refine kl_nil ?_
              refine kq_code ?_
              refine kc_seq ?_
              refine kc_region ?_
              refine kl_as rfl ?_
              refine kl_nil ?_
              refine kq_code ?_
              refine kc_seq ?_
              refine kc_region ?_
              refine kl_mv rfl ?_
              refine kl_mv rfl ?_
              refine kl_callP rfl rfl (heldIntS_ok (markL (1 : Int) ((farI m x).1).length) (1 : Int) (by omega) (by assumption)) ?_
              refine kl_as rfl ?_
              refine kl_nil ?_
              refine kq_code ?_
              refine kc_seq ?_
              refine kc_seq ?_
              refine kc_region ?_
              refine kl_mv rfl ?_
              refine kl_lss rfl rfl ?_
              refine kl_nil ?_
              refine kq_code ?_
              refine kc_if rfl (fun c95 => ?_) (fun c95 => ?_)
              · skip
                refine kc_seq ?_
                refine kc_region ?_
                refine kl_as rfl ?_
                refine kl_nil ?_
                refine kq_code ?_
                refine kc_ret ?_
                refine kq_retP rfl rfl (congrArg Value.bool ?_)
                first | rfl | (exfalso; simp only [held_mark, markL_len] at *; first | omega | (simp at *; done) | (simp at *; omega) | simp_all)
              · skip
                refine kc_skipQ ?_
                refine kq_code ?_
                refine kc_seq ?_
                refine kc_seq ?_
                refine kc_region ?_
                refine kl_mv rfl ?_
                refine kl_mv rfl ?_
                refine kl_neq rfl rfl ?_
                refine kl_nil ?_
                refine kq_code ?_
                refine kc_if rfl (fun c96 => ?_) (fun c96 => ?_)
                · skip
                  refine kc_seq ?_
                  refine kc_region ?_
                  refine kl_as rfl ?_
                  refine kl_nil ?_
                  refine kq_code ?_
                  refine kc_ret ?_
                  refine kq_retP rfl rfl (congrArg Value.bool ?_)
                  first | rfl | (exfalso; simp only [held_mark, markL_len] at *; first | omega | (simp at *; done) | (simp at *; omega) | simp_all)
                · skip
                  refine kc_skipQ ?_
                  refine kq_code ?_
                  refine kc_seq ?_
                  refine kc_region ?_
                  refine kl_ldS rfl (by assumption) rfl ?_
                  refine kl_call rfl rfl (toModel_ok m hs (by assumption) (by assumption)) (fun v97 H98 f99 h100 => ?_)
                  obtain ⟨u101, u102, rfl, h103, h104⟩ := h100
                  refine kl_mv rfl ?_
                  refine kl_call rfl rfl (toIntS_ok x (by omega) (by assumption)) (fun v105 H106 f107 h108 => ?_)
                  refine kl_call rfl rfl (farI_ok m x (by assumption) (by assumption) (by assumption)) (fun v109 H110 f111 h112 => ?_)
                  obtain ⟨u113, rfl, h114⟩ := h112
                  refine kl_mv rfl ?_
                  refine kl_xt rfl rfl ?_
                  refine kl_xt rfl rfl ?_
                  refine kl_as rfl ?_
                  refine kl_as rfl ?_
                  refine kl_nil ?_
                  refine kq_code ?_
                  refine kc_seq ?_
                  refine kc_seq ?_
                  refine kc_region ?_
                  refine kl_mv rfl ?_
                  refine kl_mv rfl ?_
                  refine kl_callP rfl rfl (eqIntS_ok ((farI m x).1) ((farI m x).1) (by assumption) (by assumption)) ?_
                  refine kl_not rfl ?_
                  refine kl_mv rfl ?_
                  refine kl_join 4 108 (.bool (!(decide (((farI m x).1) = ((farI m x).1))) || (((farI m x).2) != ((farI m x).2)))) (pc 4 rfl (pc 10 rfl (pc 13 rfl (pc 14 rfl (pc 104 rfl pn))))) (fun J116 => ?_) ?_
                  · rcases Bool.eq_false_or_eq_true (!(decide (((farI m x).1) = ((farI m x).1)))) with g115 | g115
                    · skip
                      refine kl_gF rfl rfl g115 ?_
                      refine kl_gF rfl rfl g115 ?_
                      refine kl_gF rfl rfl g115 ?_
                      refine kl_orT (((farI m x).2) != ((farI m x).2)) rfl rfl g115 ?_
                      exact J116 _ (pc 108 rfl (pc 4 rfl (pc 10 rfl (pc 13 rfl (pc 14 rfl (pc 104 rfl pn))))))
                    · skip
                      have g115p := g115
                      try simp only [Bool.not_eq_true', Bool.not_eq_false', decide_eq_true_eq, decide_eq_false_iff_not, Bool.and_eq_true, Bool.or_eq_false_iff, withinB_iff] at g115p
                      refine kl_gT rfl rfl g115 ?_
                      refine kl_mv rfl ?_
                      refine kl_gT rfl rfl g115 ?_
                      refine kl_mv rfl ?_
                      refine kl_gT rfl rfl g115 ?_
                      refine kl_bne rfl rfl ?_
                      refine kl_orF rfl rfl g115 ?_
                      exact J116 _ (pc 108 rfl (pc 4 rfl (pc 10 rfl (pc 13 rfl (pc 14 rfl (pc 104 rfl pn))))))
                  refine kl_nil ?_
                  refine kq_code ?_
                  refine kc_cond rfl (fun c117 => ?_) (fun c117 => ?_)
                  · skip
                    have c117r := c117
                    try simp only [Bool.not_eq_true', Bool.not_eq_false', Bool.not_true, Bool.not_false, decide_eq_true_eq, decide_eq_false_iff_not, Bool.and_eq_true, Bool.or_eq_false_iff] at c117
                    refine kc_seq ?_
                    refine kc_region ?_
                    refine kl_as rfl ?_
                    refine kl_nil ?_
                    refine kq_code ?_
                    refine kc_ret ?_
                    refine kq_retP rfl rfl (congrArg Value.bool ?_)
                    first | rfl | (exfalso; simp only [held_mark, markL_len] at *; first | omega | (simp at *; done) | (simp at *; omega) | simp_all)
                  · skip
                    have c117r := c117
                    try simp only [Bool.not_eq_true', Bool.not_eq_false', Bool.not_true, Bool.not_false, decide_eq_true_eq, decide_eq_false_iff_not, Bool.and_eq_true, Bool.or_eq_false_iff] at c117
                    refine kc_skipQ ?_
                    refine kq_code ?_
                    refine kc_seq ?_
                    refine kc_region ?_
                    refine kl_as rfl ?_
                    refine kl_nil ?_
                    refine kq_code ?_
                    refine kc_seq ?_
                    refine kc_region ?_
                    refine kl_mv rfl ?_
                    refine kl_mv rfl ?_
                    refine kl_callP rfl rfl (heldIntS_ok (markL (1 : Int) ((farI m x).1).length) (1 : Int) (by omega) (by assumption)) ?_
                    refine kl_as rfl ?_
                    refine kl_nil ?_
                    refine kq_code ?_
                    refine kc_seq ?_
                    refine kc_seq ?_
                    refine kc_region ?_
                    refine kl_mv rfl ?_
                    refine kl_lss rfl rfl ?_
                    refine kl_nil ?_
                    refine kq_code ?_
                    refine kc_if rfl (fun c118 => ?_) (fun c118 => ?_)
                    · skip
                      refine kc_seq ?_
                      refine kc_region ?_
                      refine kl_as rfl ?_
                      refine kl_nil ?_
                      refine kq_code ?_
                      refine kc_ret ?_
                      refine kq_retP rfl rfl (congrArg Value.bool ?_)
                      first | rfl | (exfalso; simp only [held_mark, markL_len] at *; first | omega | (simp at *; done) | (simp at *; omega) | simp_all)
                    · skip
                      refine kc_skipQ ?_
                      refine kq_code ?_
                      refine kc_seq ?_
                      refine kc_seq ?_
                      refine kc_region ?_
                      refine kl_mv rfl ?_
                      refine kl_mv rfl ?_
                      refine kl_neq rfl rfl ?_
                      refine kl_nil ?_
                      refine kq_code ?_
                      refine kc_if rfl (fun c119 => ?_) (fun c119 => ?_)
                      · skip
                        refine kc_seq ?_
                        refine kc_region ?_
                        refine kl_as rfl ?_
                        refine kl_nil ?_
                        refine kq_code ?_
                        refine kc_ret ?_
                        refine kq_retP rfl rfl (congrArg Value.bool ?_)
                        first | rfl | (exfalso; simp only [held_mark, markL_len] at *; first | omega | (simp at *; done) | (simp at *; omega) | simp_all)
                      · skip
                        refine kc_skipQ ?_
                        refine kq_code ?_
                        refine kc_seq ?_
                        refine kc_region ?_
                        refine kl_as rfl ?_
                        refine kl_nil ?_
                        refine kq_code ?_
                        refine kc_ret ?_
                        refine kq_retP rfl rfl (congrArg Value.bool ?_)
                        first | rfl | (exfalso; simp only [held_mark, markL_len] at *; first | omega | (simp at *; done) | (simp at *; omega) | simp_all)
end Go.Proofs.Ytigngogjgohfgaa
