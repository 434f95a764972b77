/- Walks of functions of the program: each returns what the plain function gives. Conditions: those that each statement names. -/
import Derived.Test.YtigngogjgohfgaaWtwo
import Derived.Test.YtigngogjgohfgaaWent
import Derived.Test.YtigngogjgohfgaaWbk
import Derived.Test.YtigngogjgohfgaaWwd
import Derived.Test.YtigngogjgohfgaaWfl
namespace Go.Proofs.Ytigngogjgohfgaa
open Go
set_option linter.unusedSimpArgs false
set_option linter.unusedVariables false
theorem lawFnEp_ok {Hcode : Hp} {vcode : Value} (code : List Int) (hcode : Bytes Hcode vcode code) : SpecP Try.prog 9 [vcode] [Hcode] (.bool true) := by
  refine spec_of Try.func9 rfl rfl rfl (fun B => ?_)
  refine kc_seq ?_
  refine kc_region ?_
  refine kl_as rfl ?_
  refine kl_nil ?_
  refine kq_code ?_
  refine kc_seq ?_
  refine kc_seq ?_
  refine kc_region ?_
  refine kl_mv rfl ?_
  refine kl_len rfl (by assumption) (fun l1 => ?_)
  refine kl_gtr rfl rfl ?_
  refine kl_nil ?_
  refine kq_code ?_
  refine kc_if rfl (fun c2 => ?_) (fun c2 => ?_)
  · skip
    refine kc_seq ?_
    refine kc_region ?_
    refine kl_as rfl ?_
    refine kl_nil ?_
    refine kq_code ?_
    refine kc_ret ?_
    refine kq_retP rfl rfl (congrArg Value.bool ?_)
    first | rfl | (simp; done) | (rw [hlaw.1, hlaw.2.1, hlaw.2.2.1, hlaw.2.2.2]; rfl)
  · skip
    refine kc_skipQ ?_
    refine kq_code ?_
    refine kc_seq ?_
    refine kc_region ?_
    refine kl_mv rfl ?_
    refine kl_call rfl rfl (drawEnt_ok code hcode) (fun v3 H4 f5 h6 => ?_)
    obtain ⟨z9, z14, u10, u11, u15, u16, rfl, h12, h13, h17, h18, h8⟩ := h6
    refine kl_mv rfl ?_
    refine kl_xt rfl rfl ?_
    refine kl_xt rfl rfl ?_
    refine kl_alloc (cs := [.slice none 0 0, .slice none 0 0]) rfl (fun b19 hb20 => ?_)
    refine kl_alloc (cs := [.slice none 0 0, .slice none 0 0]) rfl (fun b21 hb22 => ?_)
    refine kl_stW (us := [u10, u11]) rfl rfl rfl rfl (oc (Sl.oneCell (by assumption)) (oc (Sl.oneCell (by assumption)) oc_nil)) rfl ?_
    refine kl_chg [sing b21 (.cells [.slice none 0 0, .slice none 0 0].toArray 26 (0, 0)), sing b19 (.cells [u10, u11].toArray 26 (0, 0))] rfl ?_
    refine kl_stW (us := [u15, u16]) rfl rfl rfl rfl (oc (Sl.oneCell (by assumption)) (oc (Sl.oneCell (by assumption)) oc_nil)) rfl ?_
    refine kl_chg [sing b21 (.cells [u15, u16].toArray 26 (0, 0)), sing b19 (.cells [u10, u11].toArray 26 (0, 0))] rfl ?_
    refine kl_nil ?_
    refine kq_code ?_
    refine kc_seq ?_
    refine kc_region ?_
    refine kl_ldW rfl rfl ?_
    refine kl_ldW rfl rfl ?_
    refine kl_callP rfl rfl (entI_ok z9 z14 (by assumption) (by assumption) (by assumption) (by assumption)) ?_
    refine kl_as rfl ?_
    refine kl_nil ?_
    refine kq_code ?_
    refine kc_seq ?_
    refine kc_seq ?_
    refine kc_region ?_
    refine kl_mv rfl ?_
    refine kl_ldW rfl rfl ?_
    refine kl_ldW rfl rfl ?_
    refine kl_callP rfl rfl (entS_ok z9 z14 (by assumption) (by assumption) (by assumption) (by assumption)) ?_
    refine kl_bne rfl rfl ?_
    refine kl_mv rfl ?_
    refine kl_join 4 28 (.bool (((entB z9 z14) != (entB z9 z14)) || !(validModB z9))) (pc 2 rfl (pc 3 rfl (pc 4 rfl (pc 5 rfl (pc 24 rfl pn))))) (fun J24 => ?_) ?_
    · rcases Bool.eq_false_or_eq_true ((entB z9 z14) != (entB z9 z14)) with g23 | g23
      · skip
        refine kl_gF rfl rfl g23 ?_
        refine kl_gF rfl rfl g23 ?_
        refine kl_gF rfl rfl g23 ?_
        refine kl_orT (!(validModB z9)) rfl rfl g23 ?_
        exact J24 _ (pc 28 rfl (pc 2 rfl (pc 3 rfl (pc 4 rfl (pc 5 rfl (pc 24 rfl pn))))))
      · skip
        have g23p := g23
        try simp only [Bool.not_eq_true', Bool.not_eq_false', decide_eq_true_eq, decide_eq_false_iff_not, Bool.and_eq_true, Bool.or_eq_false_iff, withinB_iff] at g23p
        refine kl_gT rfl rfl g23 ?_
        refine kl_ldW rfl rfl ?_
        refine kl_gT rfl rfl g23 ?_
        refine kl_callP rfl rfl (validMod_ok z9 (by assumption) (by assumption)) ?_
        refine kl_gT rfl rfl g23 ?_
        refine kl_not rfl ?_
        refine kl_orF rfl rfl g23 ?_
        exact J24 _ (pc 28 rfl (pc 2 rfl (pc 3 rfl (pc 4 rfl (pc 5 rfl (pc 24 rfl pn))))))
    refine kl_nil ?_
    refine kq_code ?_
    refine kc_cond rfl (fun c25 => ?_) (fun c25 => ?_)
    · skip
      have c25r := c25
      try simp only [Bool.not_eq_true', Bool.not_eq_false', Bool.not_true, Bool.not_false, decide_eq_true_eq, decide_eq_false_iff_not, Bool.and_eq_true, Bool.or_eq_false_iff] at c25
      refine kc_seq ?_
      refine kc_region ?_
      refine kl_mv rfl ?_
      refine kl_ldW rfl rfl ?_
      refine kl_ldW rfl rfl ?_
      refine kl_callP rfl rfl (entS_ok z9 z14 (by assumption) (by assumption) (by assumption) (by assumption)) ?_
      refine kl_beq rfl rfl ?_
      refine kl_as rfl ?_
      refine kl_nil ?_
      refine kq_code ?_
      refine kc_ret ?_
      refine kq_retP rfl rfl (congrArg Value.bool ?_)
      first | rfl | (simp; done) | (rw [hlaw.1, hlaw.2.1, hlaw.2.2.1, hlaw.2.2.2]; rfl)
    · skip
      have c25r := c25
      try simp only [Bool.not_eq_true', Bool.not_eq_false', Bool.not_true, Bool.not_false, decide_eq_true_eq, decide_eq_false_iff_not, Bool.and_eq_true, Bool.or_eq_false_iff] at c25
      have hM := entp_and c25r
      have hn := hM.n
      have hlaw := entp_law hM
      have hpl := (propI_ok hM).l
      have hbl := (backI_ok hM).l
      refine kc_skipQ ?_
      refine kq_code ?_
      refine kc_seq ?_
      refine kc_tree (fun i => ([3, 5] : List Nat).contains i) [sing b19 (.cells [u10, u11].toArray 26 (0, 0))] (by kernel_rfl) ?_
      refine kt_q 0 (.cons _ (.cons_cons _ (List.nil_sublist _))) rfl (by kernel_rfl) ?_
      refine kl_ldS rfl (at_box (T := 26) (cs := [u10, u11]) (off := 0) (fz := (0, 0))) rfl ?_
      refine kl_nil (kq_q ?_)
      refine kt_q 1 (.cons _ (.cons_cons _ (List.nil_sublist _))) rfl (by kernel_rfl) ?_
      refine kl_ldS rfl (at_box (T := 26) (cs := [u10, u11]) (off := 0) (fz := (0, 0))) rfl ?_
      refine kl_nil (kq_q ?_)
      refine kt_b 2 4 rfl rfl (by kernel_rfl) ?_ ?_
      · skip
        refine kl_call rfl rfl (propagateI_ok z9 (by assumption) (by assumption)) (fun v26 H27 f28 h29 => ?_)
        refine kl_nil (kq_a (.cons _ (.cons_cons _ (List.nil_sublist _))) ?_)
        refine kt_b 3 4 rfl rfl (by kernel_rfl) ?_ ?_
        · skip
          refine kl_call rfl rfl (withDomains_ok z9 (propI z9) (by omega) (by assumption) (by assumption) (by assumption)) (fun v30 H31 f32 h33 => ?_)
          obtain ⟨u34, rfl, h35⟩ := h33
          refine kl_nil (kq_x rfl ?_)
          refine kt_a 4 rfl (by kernel_rfl) ?_
          refine kl_alloc (cs := [.slice none 0 0, .slice none 0 0]) rfl (fun b36 hb37 => ?_)
          refine kl_nil (kq_a (.cons _ (.cons _ (.cons_cons _ (List.nil_sublist _)))) ?_)
          refine kt_a 5 rfl (by kernel_rfl) ?_
          refine kl_stW (us := [u34, u11]) rfl rfl rfl rfl (oc (Sl.oneCell (by assumption)) (oc (Sl.oneCell (by assumption)) oc_nil)) rfl ?_
          refine kl_chg [sing b36 (.cells [u34, u11].toArray 26 (0, 0)), sing b21 (.cells [u15, u16].toArray 26 (0, 0)), sing b19 (.cells [u10, u11].toArray 26 (0, 0))] rfl ?_
          refine kl_nil (kq_x rfl ?_)
          refine kt_end (by kernel_rfl) ?_
          refine kq_code ?_
          refine kc_seq ?_
          refine kc_tree (fun i => ([3, 5] : List Nat).contains i) [sing b19 (.cells [u10, u11].toArray 26 (0, 0))] (by kernel_rfl) ?_
          refine kt_q 0 (.cons _ (.cons _ (.cons_cons _ (List.nil_sublist _)))) rfl (by kernel_rfl) ?_
          refine kl_ldS rfl (at_box (T := 26) (cs := [u10, u11]) (off := 0) (fz := (0, 0))) rfl ?_
          refine kl_nil (kq_q ?_)
          refine kt_q 1 (.cons _ (.cons _ (.cons_cons _ (List.nil_sublist _)))) rfl (by kernel_rfl) ?_
          refine kl_ldS rfl (at_box (T := 26) (cs := [u10, u11]) (off := 0) (fz := (0, 0))) rfl ?_
          refine kl_nil (kq_q ?_)
          refine kt_b 2 4 rfl rfl (by kernel_rfl) ?_ ?_
          · skip
            refine kl_call rfl rfl (backboneI_ok z9 (by assumption) (by assumption)) (fun v38 H39 f40 h41 => ?_)
            refine kl_nil (kq_a (.cons _ (.cons _ (.cons_cons _ (List.nil_sublist _)))) ?_)
            refine kt_b 3 4 rfl rfl (by kernel_rfl) ?_ ?_
            · skip
              refine kl_call rfl rfl (withDomains_ok z9 (backI z9) (by omega) (by assumption) (by assumption) (by assumption)) (fun v42 H43 f44 h45 => ?_)
              obtain ⟨u46, rfl, h47⟩ := h45
              refine kl_nil (kq_x rfl ?_)
              refine kt_a 4 rfl (by kernel_rfl) ?_
              refine kl_alloc (cs := [.slice none 0 0, .slice none 0 0]) rfl (fun b48 hb49 => ?_)
              refine kl_nil (kq_a (.cons _ (.cons _ (.cons _ (.cons_cons _ (List.nil_sublist _))))) ?_)
              refine kt_a 5 rfl (by kernel_rfl) ?_
              refine kl_stW (us := [u46, u11]) rfl rfl rfl rfl (oc (Sl.oneCell (by assumption)) (oc (Sl.oneCell (by assumption)) oc_nil)) rfl ?_
              refine kl_chg [sing b48 (.cells [u46, u11].toArray 26 (0, 0)), sing b36 (.cells [u34, u11].toArray 26 (0, 0)), sing b21 (.cells [u15, u16].toArray 26 (0, 0)), sing b19 (.cells [u10, u11].toArray 26 (0, 0))] rfl ?_
              refine kl_nil (kq_x rfl ?_)
              refine kt_end (by kernel_rfl) ?_
              refine kq_code ?_
              refine kc_seq ?_
              refine kc_region ?_
              refine kl_ldW rfl rfl ?_
              refine kl_ldW rfl rfl ?_
              refine kl_callP rfl rfl (entI_ok z9 ⟨(propI z9), z9.cons⟩ (by assumption) (by assumption) (by assumption) (by assumption)) ?_
              refine kl_mv rfl ?_
              refine kl_join 4 49 (.bool ((entB z9 ⟨(propI z9), z9.cons⟩) && (entB ⟨(propI z9), z9.cons⟩ z9))) (pc 2 rfl (pc 3 rfl (pc 7 rfl (pc 45 rfl pn)))) (fun J51 => ?_) ?_
              · rcases Bool.eq_false_or_eq_true (entB z9 ⟨(propI z9), z9.cons⟩) with g50 | g50
                · skip
                  have g50p := g50
                  try simp only [Bool.not_eq_true', Bool.not_eq_false', decide_eq_true_eq, decide_eq_false_iff_not, Bool.and_eq_true, Bool.or_eq_false_iff, withinB_iff] at g50p
                  refine kl_gT rfl rfl g50 ?_
                  refine kl_ldW rfl rfl ?_
                  refine kl_gT rfl rfl g50 ?_
                  refine kl_ldW rfl rfl ?_
                  refine kl_gT rfl rfl g50 ?_
                  refine kl_callP rfl rfl (entI_ok ⟨(propI z9), z9.cons⟩ z9 (by assumption) (by assumption) (by assumption) (by assumption)) ?_
                  refine kl_andT rfl rfl g50 ?_
                  exact J51 _ (pc 49 rfl (pc 2 rfl (pc 3 rfl (pc 7 rfl (pc 45 rfl pn)))))
                · skip
                  refine kl_gF rfl rfl g50 ?_
                  refine kl_gF rfl rfl g50 ?_
                  refine kl_gF rfl rfl g50 ?_
                  refine kl_andF (entB ⟨(propI z9), z9.cons⟩ z9) rfl rfl g50 ?_
                  exact J51 _ (pc 49 rfl (pc 2 rfl (pc 3 rfl (pc 7 rfl (pc 45 rfl pn)))))
              refine kl_mv rfl ?_
              refine kl_join 4 54 (.bool (((entB z9 ⟨(propI z9), z9.cons⟩) && (entB ⟨(propI z9), z9.cons⟩ z9)) && (entB z9 ⟨(backI z9), z9.cons⟩))) (pc 2 rfl (pc 3 rfl (pc 7 rfl (pc 50 rfl pn)))) (fun J53 => ?_) ?_
              · rcases Bool.eq_false_or_eq_true ((entB z9 ⟨(propI z9), z9.cons⟩) && (entB ⟨(propI z9), z9.cons⟩ z9)) with g52 | g52
                · skip
                  have g52p := g52
                  try simp only [Bool.not_eq_true', Bool.not_eq_false', decide_eq_true_eq, decide_eq_false_iff_not, Bool.and_eq_true, Bool.or_eq_false_iff, withinB_iff] at g52p
                  refine kl_gT rfl rfl g52 ?_
                  refine kl_ldW rfl rfl ?_
                  refine kl_gT rfl rfl g52 ?_
                  refine kl_ldW rfl rfl ?_
                  refine kl_gT rfl rfl g52 ?_
                  refine kl_callP rfl rfl (entI_ok z9 ⟨(backI z9), z9.cons⟩ (by assumption) (by assumption) (by assumption) (by assumption)) ?_
                  refine kl_andT rfl rfl g52 ?_
                  exact J53 _ (pc 54 rfl (pc 2 rfl (pc 3 rfl (pc 7 rfl (pc 50 rfl pn)))))
                · skip
                  refine kl_gF rfl rfl g52 ?_
                  refine kl_gF rfl rfl g52 ?_
                  refine kl_gF rfl rfl g52 ?_
                  refine kl_andF (entB z9 ⟨(backI z9), z9.cons⟩) rfl rfl g52 ?_
                  exact J53 _ (pc 54 rfl (pc 2 rfl (pc 3 rfl (pc 7 rfl (pc 50 rfl pn)))))
              refine kl_mv rfl ?_
              refine kl_join 4 59 (.bool ((((entB z9 ⟨(propI z9), z9.cons⟩) && (entB ⟨(propI z9), z9.cons⟩ z9)) && (entB z9 ⟨(backI z9), z9.cons⟩)) && (entB ⟨(backI z9), z9.cons⟩ z9))) (pc 2 rfl (pc 55 rfl pn)) (fun J55 => ?_) ?_
              · rcases Bool.eq_false_or_eq_true (((entB z9 ⟨(propI z9), z9.cons⟩) && (entB ⟨(propI z9), z9.cons⟩ z9)) && (entB z9 ⟨(backI z9), z9.cons⟩)) with g54 | g54
                · skip
                  have g54p := g54
                  try simp only [Bool.not_eq_true', Bool.not_eq_false', decide_eq_true_eq, decide_eq_false_iff_not, Bool.and_eq_true, Bool.or_eq_false_iff, withinB_iff] at g54p
                  refine kl_gT rfl rfl g54 ?_
                  refine kl_ldW rfl rfl ?_
                  refine kl_gT rfl rfl g54 ?_
                  refine kl_ldW rfl rfl ?_
                  refine kl_gT rfl rfl g54 ?_
                  refine kl_callP rfl rfl (entI_ok ⟨(backI z9), z9.cons⟩ z9 (by assumption) (by assumption) (by assumption) (by assumption)) ?_
                  refine kl_andT rfl rfl g54 ?_
                  exact J55 _ (pc 59 rfl (pc 2 rfl (pc 55 rfl pn)))
                · skip
                  refine kl_gF rfl rfl g54 ?_
                  refine kl_gF rfl rfl g54 ?_
                  refine kl_gF rfl rfl g54 ?_
                  refine kl_andF (entB ⟨(backI z9), z9.cons⟩ z9) rfl rfl g54 ?_
                  exact J55 _ (pc 59 rfl (pc 2 rfl (pc 55 rfl pn)))
              refine kl_as rfl ?_
              refine kl_nil ?_
              refine kq_code ?_
              refine kc_ret ?_
              refine kq_retP rfl rfl (congrArg Value.bool ?_)
              first | rfl | (simp; done) | (rw [hlaw.1, hlaw.2.1, hlaw.2.2.1, hlaw.2.2.2]; rfl)
            · skip
              refine kl_alloc (cs := [.slice none 0 0, .slice none 0 0]) rfl (fun b56 hb57 => ?_)
              refine kl_nil (kq_a (.cons _ (.cons _ (.cons _ (.cons_cons _ (List.nil_sublist _))))) ?_)
              refine kt_a 3 rfl (by kernel_rfl) ?_
              refine kl_call rfl rfl (withDomains_ok z9 (backI z9) (by omega) (by assumption) (by assumption) (by assumption)) (fun v58 H59 f60 h61 => ?_)
              obtain ⟨u62, rfl, h63⟩ := h61
              refine kl_nil (kq_x rfl ?_)
              refine kt_a 5 rfl (by kernel_rfl) ?_
              refine kl_stW (us := [u62, u11]) rfl rfl rfl rfl (oc (Sl.oneCell (by assumption)) (oc (Sl.oneCell (by assumption)) oc_nil)) rfl ?_
              refine kl_chg [sing b56 (.cells [u62, u11].toArray 26 (0, 0)), sing b36 (.cells [u34, u11].toArray 26 (0, 0)), sing b21 (.cells [u15, u16].toArray 26 (0, 0)), sing b19 (.cells [u10, u11].toArray 26 (0, 0))] rfl ?_
              refine kl_nil (kq_x rfl ?_)
              refine kt_end (by kernel_rfl) ?_
              refine kq_code ?_
              refine kc_seq ?_
              refine kc_region ?_
              refine kl_ldW rfl rfl ?_
              refine kl_ldW rfl rfl ?_
              refine kl_callP rfl rfl (entI_ok z9 ⟨(propI z9), z9.cons⟩ (by assumption) (by assumption) (by assumption) (by assumption)) ?_
              refine kl_mv rfl ?_
              refine kl_join 4 49 (.bool ((entB z9 ⟨(propI z9), z9.cons⟩) && (entB ⟨(propI z9), z9.cons⟩ z9))) (pc 2 rfl (pc 3 rfl (pc 7 rfl (pc 45 rfl pn)))) (fun J65 => ?_) ?_
              · rcases Bool.eq_false_or_eq_true (entB z9 ⟨(propI z9), z9.cons⟩) with g64 | g64
                · skip
                  have g64p := g64
                  try simp only [Bool.not_eq_true', Bool.not_eq_false', decide_eq_true_eq, decide_eq_false_iff_not, Bool.and_eq_true, Bool.or_eq_false_iff, withinB_iff] at g64p
                  refine kl_gT rfl rfl g64 ?_
                  refine kl_ldW rfl rfl ?_
                  refine kl_gT rfl rfl g64 ?_
                  refine kl_ldW rfl rfl ?_
                  refine kl_gT rfl rfl g64 ?_
                  refine kl_callP rfl rfl (entI_ok ⟨(propI z9), z9.cons⟩ z9 (by assumption) (by assumption) (by assumption) (by assumption)) ?_
                  refine kl_andT rfl rfl g64 ?_
                  exact J65 _ (pc 49 rfl (pc 2 rfl (pc 3 rfl (pc 7 rfl (pc 45 rfl pn)))))
                · skip
                  refine kl_gF rfl rfl g64 ?_
                  refine kl_gF rfl rfl g64 ?_
                  refine kl_gF rfl rfl g64 ?_
                  refine kl_andF (entB ⟨(propI z9), z9.cons⟩ z9) rfl rfl g64 ?_
                  exact J65 _ (pc 49 rfl (pc 2 rfl (pc 3 rfl (pc 7 rfl (pc 45 rfl pn)))))
              refine kl_mv rfl ?_
              refine kl_join 4 54 (.bool (((entB z9 ⟨(propI z9), z9.cons⟩) && (entB ⟨(propI z9), z9.cons⟩ z9)) && (entB z9 ⟨(backI z9), z9.cons⟩))) (pc 2 rfl (pc 3 rfl (pc 7 rfl (pc 50 rfl pn)))) (fun J67 => ?_) ?_
              · rcases Bool.eq_false_or_eq_true ((entB z9 ⟨(propI z9), z9.cons⟩) && (entB ⟨(propI z9), z9.cons⟩ z9)) with g66 | g66
                · skip
                  have g66p := g66
                  try simp only [Bool.not_eq_true', Bool.not_eq_false', decide_eq_true_eq, decide_eq_false_iff_not, Bool.and_eq_true, Bool.or_eq_false_iff, withinB_iff] at g66p
                  refine kl_gT rfl rfl g66 ?_
                  refine kl_ldW rfl rfl ?_
                  refine kl_gT rfl rfl g66 ?_
                  refine kl_ldW rfl rfl ?_
                  refine kl_gT rfl rfl g66 ?_
                  refine kl_callP rfl rfl (entI_ok z9 ⟨(backI z9), z9.cons⟩ (by assumption) (by assumption) (by assumption) (by assumption)) ?_
                  refine kl_andT rfl rfl g66 ?_
                  exact J67 _ (pc 54 rfl (pc 2 rfl (pc 3 rfl (pc 7 rfl (pc 50 rfl pn)))))
                · skip
                  refine kl_gF rfl rfl g66 ?_
                  refine kl_gF rfl rfl g66 ?_
                  refine kl_gF rfl rfl g66 ?_
                  refine kl_andF (entB z9 ⟨(backI z9), z9.cons⟩) rfl rfl g66 ?_
                  exact J67 _ (pc 54 rfl (pc 2 rfl (pc 3 rfl (pc 7 rfl (pc 50 rfl pn)))))
              refine kl_mv rfl ?_
              refine kl_join 4 59 (.bool ((((entB z9 ⟨(propI z9), z9.cons⟩) && (entB ⟨(propI z9), z9.cons⟩ z9)) && (entB z9 ⟨(backI z9), z9.cons⟩)) && (entB ⟨(backI z9), z9.cons⟩ z9))) (pc 2 rfl (pc 55 rfl pn)) (fun J69 => ?_) ?_
              · rcases Bool.eq_false_or_eq_true (((entB z9 ⟨(propI z9), z9.cons⟩) && (entB ⟨(propI z9), z9.cons⟩ z9)) && (entB z9 ⟨(backI z9), z9.cons⟩)) with g68 | g68
                · skip
                  have g68p := g68
                  try simp only [Bool.not_eq_true', Bool.not_eq_false', decide_eq_true_eq, decide_eq_false_iff_not, Bool.and_eq_true, Bool.or_eq_false_iff, withinB_iff] at g68p
                  refine kl_gT rfl rfl g68 ?_
                  refine kl_ldW rfl rfl ?_
                  refine kl_gT rfl rfl g68 ?_
                  refine kl_ldW rfl rfl ?_
                  refine kl_gT rfl rfl g68 ?_
                  refine kl_callP rfl rfl (entI_ok ⟨(backI z9), z9.cons⟩ z9 (by assumption) (by assumption) (by assumption) (by assumption)) ?_
                  refine kl_andT rfl rfl g68 ?_
                  exact J69 _ (pc 59 rfl (pc 2 rfl (pc 55 rfl pn)))
                · skip
                  refine kl_gF rfl rfl g68 ?_
                  refine kl_gF rfl rfl g68 ?_
                  refine kl_gF rfl rfl g68 ?_
                  refine kl_andF (entB ⟨(backI z9), z9.cons⟩ z9) rfl rfl g68 ?_
                  exact J69 _ (pc 59 rfl (pc 2 rfl (pc 55 rfl pn)))
              refine kl_as rfl ?_
              refine kl_nil ?_
              refine kq_code ?_
              refine kc_ret ?_
              refine kq_retP rfl rfl (congrArg Value.bool ?_)
              first | rfl | (simp; done) | (rw [hlaw.1, hlaw.2.1, hlaw.2.2.1, hlaw.2.2.2]; rfl)
          · skip
            refine kl_alloc (cs := [.slice none 0 0, .slice none 0 0]) rfl (fun b70 hb71 => ?_)
            refine kl_nil (kq_a (.cons _ (.cons _ (.cons _ (.cons_cons _ (List.nil_sublist _))))) ?_)
            refine kt_a 2 rfl (by kernel_rfl) ?_
            refine kl_call rfl rfl (backboneI_ok z9 (by assumption) (by assumption)) (fun v72 H73 f74 h75 => ?_)
            refine kl_nil (kq_a (.cons _ (.cons _ (.cons _ (.cons_cons _ (List.nil_sublist _))))) ?_)
            refine kt_a 3 rfl (by kernel_rfl) ?_
            refine kl_call rfl rfl (withDomains_ok z9 (backI z9) (by omega) (by assumption) (by assumption) (by assumption)) (fun v76 H77 f78 h79 => ?_)
            obtain ⟨u80, rfl, h81⟩ := h79
            refine kl_nil (kq_x rfl ?_)
            refine kt_a 5 rfl (by kernel_rfl) ?_
            refine kl_stW (us := [u80, u11]) rfl rfl rfl rfl (oc (Sl.oneCell (by assumption)) (oc (Sl.oneCell (by assumption)) oc_nil)) rfl ?_
            refine kl_chg [sing b70 (.cells [u80, u11].toArray 26 (0, 0)), sing b36 (.cells [u34, u11].toArray 26 (0, 0)), sing b21 (.cells [u15, u16].toArray 26 (0, 0)), sing b19 (.cells [u10, u11].toArray 26 (0, 0))] rfl ?_
            refine kl_nil (kq_x rfl ?_)
            refine kt_end (by kernel_rfl) ?_
            refine kq_code ?_
            refine kc_seq ?_
            refine kc_region ?_
            refine kl_ldW rfl rfl ?_
            refine kl_ldW rfl rfl ?_
            refine kl_callP rfl rfl (entI_ok z9 ⟨(propI z9), z9.cons⟩ (by assumption) (by assumption) (by assumption) (by assumption)) ?_
            refine kl_mv rfl ?_
            refine kl_join 4 49 (.bool ((entB z9 ⟨(propI z9), z9.cons⟩) && (entB ⟨(propI z9), z9.cons⟩ z9))) (pc 2 rfl (pc 3 rfl (pc 7 rfl (pc 45 rfl pn)))) (fun J83 => ?_) ?_
            · rcases Bool.eq_false_or_eq_true (entB z9 ⟨(propI z9), z9.cons⟩) with g82 | g82
              · skip
                have g82p := g82
                try simp only [Bool.not_eq_true', Bool.not_eq_false', decide_eq_true_eq, decide_eq_false_iff_not, Bool.and_eq_true, Bool.or_eq_false_iff, withinB_iff] at g82p
                refine kl_gT rfl rfl g82 ?_
                refine kl_ldW rfl rfl ?_
                refine kl_gT rfl rfl g82 ?_
                refine kl_ldW rfl rfl ?_
                refine kl_gT rfl rfl g82 ?_
                refine kl_callP rfl rfl (entI_ok ⟨(propI z9), z9.cons⟩ z9 (by assumption) (by assumption) (by assumption) (by assumption)) ?_
                refine kl_andT rfl rfl g82 ?_
                exact J83 _ (pc 49 rfl (pc 2 rfl (pc 3 rfl (pc 7 rfl (pc 45 rfl pn)))))
              · skip
                refine kl_gF rfl rfl g82 ?_
                refine kl_gF rfl rfl g82 ?_
                refine kl_gF rfl rfl g82 ?_
                refine kl_andF (entB ⟨(propI z9), z9.cons⟩ z9) rfl rfl g82 ?_
                exact J83 _ (pc 49 rfl (pc 2 rfl (pc 3 rfl (pc 7 rfl (pc 45 rfl pn)))))
            refine kl_mv rfl ?_
            refine kl_join 4 54 (.bool (((entB z9 ⟨(propI z9), z9.cons⟩) && (entB ⟨(propI z9), z9.cons⟩ z9)) && (entB z9 ⟨(backI z9), z9.cons⟩))) (pc 2 rfl (pc 3 rfl (pc 7 rfl (pc 50 rfl pn)))) (fun J85 => ?_) ?_
            · rcases Bool.eq_false_or_eq_true ((entB z9 ⟨(propI z9), z9.cons⟩) && (entB ⟨(propI z9), z9.cons⟩ z9)) with g84 | g84
              · skip
                have g84p := g84
                try simp only [Bool.not_eq_true', Bool.not_eq_false', decide_eq_true_eq, decide_eq_false_iff_not, Bool.and_eq_true, Bool.or_eq_false_iff, withinB_iff] at g84p
                refine kl_gT rfl rfl g84 ?_
                refine kl_ldW rfl rfl ?_
                refine kl_gT rfl rfl g84 ?_
                refine kl_ldW rfl rfl ?_
                refine kl_gT rfl rfl g84 ?_
                refine kl_callP rfl rfl (entI_ok z9 ⟨(backI z9), z9.cons⟩ (by assumption) (by assumption) (by assumption) (by assumption)) ?_
                refine kl_andT rfl rfl g84 ?_
                exact J85 _ (pc 54 rfl (pc 2 rfl (pc 3 rfl (pc 7 rfl (pc 50 rfl pn)))))
              · skip
                refine kl_gF rfl rfl g84 ?_
                refine kl_gF rfl rfl g84 ?_
                refine kl_gF rfl rfl g84 ?_
                refine kl_andF (entB z9 ⟨(backI z9), z9.cons⟩) rfl rfl g84 ?_
                exact J85 _ (pc 54 rfl (pc 2 rfl (pc 3 rfl (pc 7 rfl (pc 50 rfl pn)))))
            refine kl_mv rfl ?_
            refine kl_join 4 59 (.bool ((((entB z9 ⟨(propI z9), z9.cons⟩) && (entB ⟨(propI z9), z9.cons⟩ z9)) && (entB z9 ⟨(backI z9), z9.cons⟩)) && (entB ⟨(backI z9), z9.cons⟩ z9))) (pc 2 rfl (pc 55 rfl pn)) (fun J87 => ?_) ?_
            · rcases Bool.eq_false_or_eq_true (((entB z9 ⟨(propI z9), z9.cons⟩) && (entB ⟨(propI z9), z9.cons⟩ z9)) && (entB z9 ⟨(backI z9), z9.cons⟩)) with g86 | g86
              · skip
                have g86p := g86
                try simp only [Bool.not_eq_true', Bool.not_eq_false', decide_eq_true_eq, decide_eq_false_iff_not, Bool.and_eq_true, Bool.or_eq_false_iff, withinB_iff] at g86p
                refine kl_gT rfl rfl g86 ?_
                refine kl_ldW rfl rfl ?_
                refine kl_gT rfl rfl g86 ?_
                refine kl_ldW rfl rfl ?_
                refine kl_gT rfl rfl g86 ?_
                refine kl_callP rfl rfl (entI_ok ⟨(backI z9), z9.cons⟩ z9 (by assumption) (by assumption) (by assumption) (by assumption)) ?_
                refine kl_andT rfl rfl g86 ?_
                exact J87 _ (pc 59 rfl (pc 2 rfl (pc 55 rfl pn)))
              · skip
                refine kl_gF rfl rfl g86 ?_
                refine kl_gF rfl rfl g86 ?_
                refine kl_gF rfl rfl g86 ?_
                refine kl_andF (entB ⟨(backI z9), z9.cons⟩ z9) rfl rfl g86 ?_
                exact J87 _ (pc 59 rfl (pc 2 rfl (pc 55 rfl pn)))
            refine kl_as rfl ?_
            refine kl_nil ?_
            refine kq_code ?_
            refine kc_ret ?_
            refine kq_retP rfl rfl (congrArg Value.bool ?_)
            first | rfl | (simp; done) | (rw [hlaw.1, hlaw.2.1, hlaw.2.2.1, hlaw.2.2.2]; rfl)
        · skip
          refine kl_alloc (cs := [.slice none 0 0, .slice none 0 0]) rfl (fun b88 hb89 => ?_)
          refine kl_nil (kq_a (.cons _ (.cons _ (.cons_cons _ (List.nil_sublist _)))) ?_)
          refine kt_a 3 rfl (by kernel_rfl) ?_
          refine kl_call rfl rfl (withDomains_ok z9 (propI z9) (by omega) (by assumption) (by assumption) (by assumption)) (fun v90 H91 f92 h93 => ?_)
          obtain ⟨u94, rfl, h95⟩ := h93
          refine kl_nil (kq_x rfl ?_)
          refine kt_a 5 rfl (by kernel_rfl) ?_
          refine kl_stW (us := [u94, u11]) rfl rfl rfl rfl (oc (Sl.oneCell (by assumption)) (oc (Sl.oneCell (by assumption)) oc_nil)) rfl ?_
          refine kl_chg [sing b88 (.cells [u94, u11].toArray 26 (0, 0)), sing b21 (.cells [u15, u16].toArray 26 (0, 0)), sing b19 (.cells [u10, u11].toArray 26 (0, 0))] rfl ?_
          refine kl_nil (kq_x rfl ?_)
          refine kt_end (by kernel_rfl) ?_
          refine kq_code ?_
          refine kc_seq ?_
          refine kc_tree (fun i => ([3, 5] : List Nat).contains i) [sing b19 (.cells [u10, u11].toArray 26 (0, 0))] (by kernel_rfl) ?_
          refine kt_q 0 (.cons _ (.cons _ (.cons_cons _ (List.nil_sublist _)))) rfl (by kernel_rfl) ?_
          refine kl_ldS rfl (at_box (T := 26) (cs := [u10, u11]) (off := 0) (fz := (0, 0))) rfl ?_
          refine kl_nil (kq_q ?_)
          refine kt_q 1 (.cons _ (.cons _ (.cons_cons _ (List.nil_sublist _)))) rfl (by kernel_rfl) ?_
          refine kl_ldS rfl (at_box (T := 26) (cs := [u10, u11]) (off := 0) (fz := (0, 0))) rfl ?_
          refine kl_nil (kq_q ?_)
          refine kt_b 2 4 rfl rfl (by kernel_rfl) ?_ ?_
          · skip
            refine kl_call rfl rfl (backboneI_ok z9 (by assumption) (by assumption)) (fun v96 H97 f98 h99 => ?_)
            refine kl_nil (kq_a (.cons _ (.cons _ (.cons_cons _ (List.nil_sublist _)))) ?_)
            refine kt_b 3 4 rfl rfl (by kernel_rfl) ?_ ?_
            · skip
              refine kl_call rfl rfl (withDomains_ok z9 (backI z9) (by omega) (by assumption) (by assumption) (by assumption)) (fun v100 H101 f102 h103 => ?_)
              obtain ⟨u104, rfl, h105⟩ := h103
              refine kl_nil (kq_x rfl ?_)
              refine kt_a 4 rfl (by kernel_rfl) ?_
              refine kl_alloc (cs := [.slice none 0 0, .slice none 0 0]) rfl (fun b106 hb107 => ?_)
              refine kl_nil (kq_a (.cons _ (.cons _ (.cons _ (.cons_cons _ (List.nil_sublist _))))) ?_)
              refine kt_a 5 rfl (by kernel_rfl) ?_
              refine kl_stW (us := [u104, u11]) rfl rfl rfl rfl (oc (Sl.oneCell (by assumption)) (oc (Sl.oneCell (by assumption)) oc_nil)) rfl ?_
              refine kl_chg [sing b106 (.cells [u104, u11].toArray 26 (0, 0)), sing b88 (.cells [u94, u11].toArray 26 (0, 0)), sing b21 (.cells [u15, u16].toArray 26 (0, 0)), sing b19 (.cells [u10, u11].toArray 26 (0, 0))] rfl ?_
              refine kl_nil (kq_x rfl ?_)
              refine kt_end (by kernel_rfl) ?_
              refine kq_code ?_
              refine kc_seq ?_
              refine kc_region ?_
              refine kl_ldW rfl rfl ?_
              refine kl_ldW rfl rfl ?_
              refine kl_callP rfl rfl (entI_ok z9 ⟨(propI z9), z9.cons⟩ (by assumption) (by assumption) (by assumption) (by assumption)) ?_
              refine kl_mv rfl ?_
              refine kl_join 4 49 (.bool ((entB z9 ⟨(propI z9), z9.cons⟩) && (entB ⟨(propI z9), z9.cons⟩ z9))) (pc 2 rfl (pc 3 rfl (pc 7 rfl (pc 45 rfl pn)))) (fun J109 => ?_) ?_
              · rcases Bool.eq_false_or_eq_true (entB z9 ⟨(propI z9), z9.cons⟩) with g108 | g108
                · skip
                  have g108p := g108
                  try simp only [Bool.not_eq_true', Bool.not_eq_false', decide_eq_true_eq, decide_eq_false_iff_not, Bool.and_eq_true, Bool.or_eq_false_iff, withinB_iff] at g108p
                  refine kl_gT rfl rfl g108 ?_
                  refine kl_ldW rfl rfl ?_
                  refine kl_gT rfl rfl g108 ?_
                  refine kl_ldW rfl rfl ?_
                  refine kl_gT rfl rfl g108 ?_
                  refine kl_callP rfl rfl (entI_ok ⟨(propI z9), z9.cons⟩ z9 (by assumption) (by assumption) (by assumption) (by assumption)) ?_
                  refine kl_andT rfl rfl g108 ?_
                  exact J109 _ (pc 49 rfl (pc 2 rfl (pc 3 rfl (pc 7 rfl (pc 45 rfl pn)))))
                · skip
                  refine kl_gF rfl rfl g108 ?_
                  refine kl_gF rfl rfl g108 ?_
                  refine kl_gF rfl rfl g108 ?_
                  refine kl_andF (entB ⟨(propI z9), z9.cons⟩ z9) rfl rfl g108 ?_
                  exact J109 _ (pc 49 rfl (pc 2 rfl (pc 3 rfl (pc 7 rfl (pc 45 rfl pn)))))
              refine kl_mv rfl ?_
              refine kl_join 4 54 (.bool (((entB z9 ⟨(propI z9), z9.cons⟩) && (entB ⟨(propI z9), z9.cons⟩ z9)) && (entB z9 ⟨(backI z9), z9.cons⟩))) (pc 2 rfl (pc 3 rfl (pc 7 rfl (pc 50 rfl pn)))) (fun J111 => ?_) ?_
              · rcases Bool.eq_false_or_eq_true ((entB z9 ⟨(propI z9), z9.cons⟩) && (entB ⟨(propI z9), z9.cons⟩ z9)) with g110 | g110
                · skip
                  have g110p := g110
                  try simp only [Bool.not_eq_true', Bool.not_eq_false', decide_eq_true_eq, decide_eq_false_iff_not, Bool.and_eq_true, Bool.or_eq_false_iff, withinB_iff] at g110p
                  refine kl_gT rfl rfl g110 ?_
                  refine kl_ldW rfl rfl ?_
                  refine kl_gT rfl rfl g110 ?_
                  refine kl_ldW rfl rfl ?_
                  refine kl_gT rfl rfl g110 ?_
                  refine kl_callP rfl rfl (entI_ok z9 ⟨(backI z9), z9.cons⟩ (by assumption) (by assumption) (by assumption) (by assumption)) ?_
                  refine kl_andT rfl rfl g110 ?_
                  exact J111 _ (pc 54 rfl (pc 2 rfl (pc 3 rfl (pc 7 rfl (pc 50 rfl pn)))))
                · skip
                  refine kl_gF rfl rfl g110 ?_
                  refine kl_gF rfl rfl g110 ?_
                  refine kl_gF rfl rfl g110 ?_
                  refine kl_andF (entB z9 ⟨(backI z9), z9.cons⟩) rfl rfl g110 ?_
                  exact J111 _ (pc 54 rfl (pc 2 rfl (pc 3 rfl (pc 7 rfl (pc 50 rfl pn)))))
              refine kl_mv rfl ?_
              refine kl_join 4 59 (.bool ((((entB z9 ⟨(propI z9), z9.cons⟩) && (entB ⟨(propI z9), z9.cons⟩ z9)) && (entB z9 ⟨(backI z9), z9.cons⟩)) && (entB ⟨(backI z9), z9.cons⟩ z9))) (pc 2 rfl (pc 55 rfl pn)) (fun J113 => ?_) ?_
              · rcases Bool.eq_false_or_eq_true (((entB z9 ⟨(propI z9), z9.cons⟩) && (entB ⟨(propI z9), z9.cons⟩ z9)) && (entB z9 ⟨(backI z9), z9.cons⟩)) with g112 | g112
                · skip
                  have g112p := g112
                  try simp only [Bool.not_eq_true', Bool.not_eq_false', decide_eq_true_eq, decide_eq_false_iff_not, Bool.and_eq_true, Bool.or_eq_false_iff, withinB_iff] at g112p
                  refine kl_gT rfl rfl g112 ?_
                  refine kl_ldW rfl rfl ?_
                  refine kl_gT rfl rfl g112 ?_
                  refine kl_ldW rfl rfl ?_
                  refine kl_gT rfl rfl g112 ?_
                  refine kl_callP rfl rfl (entI_ok ⟨(backI z9), z9.cons⟩ z9 (by assumption) (by assumption) (by assumption) (by assumption)) ?_
                  refine kl_andT rfl rfl g112 ?_
                  exact J113 _ (pc 59 rfl (pc 2 rfl (pc 55 rfl pn)))
                · skip
                  refine kl_gF rfl rfl g112 ?_
                  refine kl_gF rfl rfl g112 ?_
                  refine kl_gF rfl rfl g112 ?_
                  refine kl_andF (entB ⟨(backI z9), z9.cons⟩ z9) rfl rfl g112 ?_
                  exact J113 _ (pc 59 rfl (pc 2 rfl (pc 55 rfl pn)))
              refine kl_as rfl ?_
              refine kl_nil ?_
              refine kq_code ?_
              refine kc_ret ?_
              refine kq_retP rfl rfl (congrArg Value.bool ?_)
              first | rfl | (simp; done) | (rw [hlaw.1, hlaw.2.1, hlaw.2.2.1, hlaw.2.2.2]; rfl)
            · skip
              refine kl_alloc (cs := [.slice none 0 0, .slice none 0 0]) rfl (fun b114 hb115 => ?_)
              refine kl_nil (kq_a (.cons _ (.cons _ (.cons _ (.cons_cons _ (List.nil_sublist _))))) ?_)
              refine kt_a 3 rfl (by kernel_rfl) ?_
              refine kl_call rfl rfl (withDomains_ok z9 (backI z9) (by omega) (by assumption) (by assumption) (by assumption)) (fun v116 H117 f118 h119 => ?_)
              obtain ⟨u120, rfl, h121⟩ := h119
              refine kl_nil (kq_x rfl ?_)
              refine kt_a 5 rfl (by kernel_rfl) ?_
              refine kl_stW (us := [u120, u11]) rfl rfl rfl rfl (oc (Sl.oneCell (by assumption)) (oc (Sl.oneCell (by assumption)) oc_nil)) rfl ?_
              refine kl_chg [sing b114 (.cells [u120, u11].toArray 26 (0, 0)), sing b88 (.cells [u94, u11].toArray 26 (0, 0)), sing b21 (.cells [u15, u16].toArray 26 (0, 0)), sing b19 (.cells [u10, u11].toArray 26 (0, 0))] rfl ?_
              refine kl_nil (kq_x rfl ?_)
              refine kt_end (by kernel_rfl) ?_
              refine kq_code ?_
              refine kc_seq ?_
              refine kc_region ?_
              refine kl_ldW rfl rfl ?_
              refine kl_ldW rfl rfl ?_
              refine kl_callP rfl rfl (entI_ok z9 ⟨(propI z9), z9.cons⟩ (by assumption) (by assumption) (by assumption) (by assumption)) ?_
              refine kl_mv rfl ?_
              refine kl_join 4 49 (.bool ((entB z9 ⟨(propI z9), z9.cons⟩) && (entB ⟨(propI z9), z9.cons⟩ z9))) (pc 2 rfl (pc 3 rfl (pc 7 rfl (pc 45 rfl pn)))) (fun J123 => ?_) ?_
              · rcases Bool.eq_false_or_eq_true (entB z9 ⟨(propI z9), z9.cons⟩) with g122 | g122
                · skip
                  have g122p := g122
                  try simp only [Bool.not_eq_true', Bool.not_eq_false', decide_eq_true_eq, decide_eq_false_iff_not, Bool.and_eq_true, Bool.or_eq_false_iff, withinB_iff] at g122p
                  refine kl_gT rfl rfl g122 ?_
                  refine kl_ldW rfl rfl ?_
                  refine kl_gT rfl rfl g122 ?_
                  refine kl_ldW rfl rfl ?_
                  refine kl_gT rfl rfl g122 ?_
                  refine kl_callP rfl rfl (entI_ok ⟨(propI z9), z9.cons⟩ z9 (by assumption) (by assumption) (by assumption) (by assumption)) ?_
                  refine kl_andT rfl rfl g122 ?_
                  exact J123 _ (pc 49 rfl (pc 2 rfl (pc 3 rfl (pc 7 rfl (pc 45 rfl pn)))))
                · skip
                  refine kl_gF rfl rfl g122 ?_
                  refine kl_gF rfl rfl g122 ?_
                  refine kl_gF rfl rfl g122 ?_
                  refine kl_andF (entB ⟨(propI z9), z9.cons⟩ z9) rfl rfl g122 ?_
                  exact J123 _ (pc 49 rfl (pc 2 rfl (pc 3 rfl (pc 7 rfl (pc 45 rfl pn)))))
              refine kl_mv rfl ?_
              refine kl_join 4 54 (.bool (((entB z9 ⟨(propI z9), z9.cons⟩) && (entB ⟨(propI z9), z9.cons⟩ z9)) && (entB z9 ⟨(backI z9), z9.cons⟩))) (pc 2 rfl (pc 3 rfl (pc 7 rfl (pc 50 rfl pn)))) (fun J125 => ?_) ?_
              · rcases Bool.eq_false_or_eq_true ((entB z9 ⟨(propI z9), z9.cons⟩) && (entB ⟨(propI z9), z9.cons⟩ z9)) with g124 | g124
                · skip
                  have g124p := g124
                  try simp only [Bool.not_eq_true', Bool.not_eq_false', decide_eq_true_eq, decide_eq_false_iff_not, Bool.and_eq_true, Bool.or_eq_false_iff, withinB_iff] at g124p
                  refine kl_gT rfl rfl g124 ?_
                  refine kl_ldW rfl rfl ?_
                  refine kl_gT rfl rfl g124 ?_
                  refine kl_ldW rfl rfl ?_
                  refine kl_gT rfl rfl g124 ?_
                  refine kl_callP rfl rfl (entI_ok z9 ⟨(backI z9), z9.cons⟩ (by assumption) (by assumption) (by assumption) (by assumption)) ?_
                  refine kl_andT rfl rfl g124 ?_
                  exact J125 _ (pc 54 rfl (pc 2 rfl (pc 3 rfl (pc 7 rfl (pc 50 rfl pn)))))
                · skip
                  refine kl_gF rfl rfl g124 ?_
                  refine kl_gF rfl rfl g124 ?_
                  refine kl_gF rfl rfl g124 ?_
                  refine kl_andF (entB z9 ⟨(backI z9), z9.cons⟩) rfl rfl g124 ?_
                  exact J125 _ (pc 54 rfl (pc 2 rfl (pc 3 rfl (pc 7 rfl (pc 50 rfl pn)))))
              refine kl_mv rfl ?_
              refine kl_join 4 59 (.bool ((((entB z9 ⟨(propI z9), z9.cons⟩) && (entB ⟨(propI z9), z9.cons⟩ z9)) && (entB z9 ⟨(backI z9), z9.cons⟩)) && (entB ⟨(backI z9), z9.cons⟩ z9))) (pc 2 rfl (pc 55 rfl pn)) (fun J127 => ?_) ?_
              · rcases Bool.eq_false_or_eq_true (((entB z9 ⟨(propI z9), z9.cons⟩) && (entB ⟨(propI z9), z9.cons⟩ z9)) && (entB z9 ⟨(backI z9), z9.cons⟩)) with g126 | g126
                · skip
                  have g126p := g126
                  try simp only [Bool.not_eq_true', Bool.not_eq_false', decide_eq_true_eq, decide_eq_false_iff_not, Bool.and_eq_true, Bool.or_eq_false_iff, withinB_iff] at g126p
                  refine kl_gT rfl rfl g126 ?_
                  refine kl_ldW rfl rfl ?_
                  refine kl_gT rfl rfl g126 ?_
                  refine kl_ldW rfl rfl ?_
                  refine kl_gT rfl rfl g126 ?_
                  refine kl_callP rfl rfl (entI_ok ⟨(backI z9), z9.cons⟩ z9 (by assumption) (by assumption) (by assumption) (by assumption)) ?_
                  refine kl_andT rfl rfl g126 ?_
                  exact J127 _ (pc 59 rfl (pc 2 rfl (pc 55 rfl pn)))
                · skip
                  refine kl_gF rfl rfl g126 ?_
                  refine kl_gF rfl rfl g126 ?_
                  refine kl_gF rfl rfl g126 ?_
                  refine kl_andF (entB ⟨(backI z9), z9.cons⟩ z9) rfl rfl g126 ?_
                  exact J127 _ (pc 59 rfl (pc 2 rfl (pc 55 rfl pn)))
              refine kl_as rfl ?_
              refine kl_nil ?_
              refine kq_code ?_
              refine kc_ret ?_
              refine kq_retP rfl rfl (congrArg Value.bool ?_)
              first | rfl | (simp; done) | (rw [hlaw.1, hlaw.2.1, hlaw.2.2.1, hlaw.2.2.2]; rfl)
          · skip
            refine kl_alloc (cs := [.slice none 0 0, .slice none 0 0]) rfl (fun b128 hb129 => ?_)
            refine kl_nil (kq_a (.cons _ (.cons _ (.cons _ (.cons_cons _ (List.nil_sublist _))))) ?_)
            refine kt_a 2 rfl (by kernel_rfl) ?_
            refine kl_call rfl rfl (backboneI_ok z9 (by assumption) (by assumption)) (fun v130 H131 f132 h133 => ?_)
            refine kl_nil (kq_a (.cons _ (.cons _ (.cons _ (.cons_cons _ (List.nil_sublist _))))) ?_)
            refine kt_a 3 rfl (by kernel_rfl) ?_
            refine kl_call rfl rfl (withDomains_ok z9 (backI z9) (by omega) (by assumption) (by assumption) (by assumption)) (fun v134 H135 f136 h137 => ?_)
            obtain ⟨u138, rfl, h139⟩ := h137
            refine kl_nil (kq_x rfl ?_)
            refine kt_a 5 rfl (by kernel_rfl) ?_
            refine kl_stW (us := [u138, u11]) rfl rfl rfl rfl (oc (Sl.oneCell (by assumption)) (oc (Sl.oneCell (by assumption)) oc_nil)) rfl ?_
            refine kl_chg [sing b128 (.cells [u138, u11].toArray 26 (0, 0)), sing b88 (.cells [u94, u11].toArray 26 (0, 0)), sing b21 (.cells [u15, u16].toArray 26 (0, 0)), sing b19 (.cells [u10, u11].toArray 26 (0, 0))] rfl ?_
            refine kl_nil (kq_x rfl ?_)
            refine kt_end (by kernel_rfl) ?_
            refine kq_code ?_
            refine kc_seq ?_
            refine kc_region ?_
            refine kl_ldW rfl rfl ?_
            refine kl_ldW rfl rfl ?_
            refine kl_callP rfl rfl (entI_ok z9 ⟨(propI z9), z9.cons⟩ (by assumption) (by assumption) (by assumption) (by assumption)) ?_
            refine kl_mv rfl ?_
            refine kl_join 4 49 (.bool ((entB z9 ⟨(propI z9), z9.cons⟩) && (entB ⟨(propI z9), z9.cons⟩ z9))) (pc 2 rfl (pc 3 rfl (pc 7 rfl (pc 45 rfl pn)))) (fun J141 => ?_) ?_
            · rcases Bool.eq_false_or_eq_true (entB z9 ⟨(propI z9), z9.cons⟩) with g140 | g140
              · skip
                have g140p := g140
                try simp only [Bool.not_eq_true', Bool.not_eq_false', decide_eq_true_eq, decide_eq_false_iff_not, Bool.and_eq_true, Bool.or_eq_false_iff, withinB_iff] at g140p
                refine kl_gT rfl rfl g140 ?_
                refine kl_ldW rfl rfl ?_
                refine kl_gT rfl rfl g140 ?_
                refine kl_ldW rfl rfl ?_
                refine kl_gT rfl rfl g140 ?_
                refine kl_callP rfl rfl (entI_ok ⟨(propI z9), z9.cons⟩ z9 (by assumption) (by assumption) (by assumption) (by assumption)) ?_
                refine kl_andT rfl rfl g140 ?_
                exact J141 _ (pc 49 rfl (pc 2 rfl (pc 3 rfl (pc 7 rfl (pc 45 rfl pn)))))
              · skip
                refine kl_gF rfl rfl g140 ?_
                refine kl_gF rfl rfl g140 ?_
                refine kl_gF rfl rfl g140 ?_
                refine kl_andF (entB ⟨(propI z9), z9.cons⟩ z9) rfl rfl g140 ?_
                exact J141 _ (pc 49 rfl (pc 2 rfl (pc 3 rfl (pc 7 rfl (pc 45 rfl pn)))))
            refine kl_mv rfl ?_
            refine kl_join 4 54 (.bool (((entB z9 ⟨(propI z9), z9.cons⟩) && (entB ⟨(propI z9), z9.cons⟩ z9)) && (entB z9 ⟨(backI z9), z9.cons⟩))) (pc 2 rfl (pc 3 rfl (pc 7 rfl (pc 50 rfl pn)))) (fun J143 => ?_) ?_
            · rcases Bool.eq_false_or_eq_true ((entB z9 ⟨(propI z9), z9.cons⟩) && (entB ⟨(propI z9), z9.cons⟩ z9)) with g142 | g142
              · skip
                have g142p := g142
                try simp only [Bool.not_eq_true', Bool.not_eq_false', decide_eq_true_eq, decide_eq_false_iff_not, Bool.and_eq_true, Bool.or_eq_false_iff, withinB_iff] at g142p
                refine kl_gT rfl rfl g142 ?_
                refine kl_ldW rfl rfl ?_
                refine kl_gT rfl rfl g142 ?_
                refine kl_ldW rfl rfl ?_
                refine kl_gT rfl rfl g142 ?_
                refine kl_callP rfl rfl (entI_ok z9 ⟨(backI z9), z9.cons⟩ (by assumption) (by assumption) (by assumption) (by assumption)) ?_
                refine kl_andT rfl rfl g142 ?_
                exact J143 _ (pc 54 rfl (pc 2 rfl (pc 3 rfl (pc 7 rfl (pc 50 rfl pn)))))
              · skip
                refine kl_gF rfl rfl g142 ?_
                refine kl_gF rfl rfl g142 ?_
                refine kl_gF rfl rfl g142 ?_
                refine kl_andF (entB z9 ⟨(backI z9), z9.cons⟩) rfl rfl g142 ?_
                exact J143 _ (pc 54 rfl (pc 2 rfl (pc 3 rfl (pc 7 rfl (pc 50 rfl pn)))))
            refine kl_mv rfl ?_
            refine kl_join 4 59 (.bool ((((entB z9 ⟨(propI z9), z9.cons⟩) && (entB ⟨(propI z9), z9.cons⟩ z9)) && (entB z9 ⟨(backI z9), z9.cons⟩)) && (entB ⟨(backI z9), z9.cons⟩ z9))) (pc 2 rfl (pc 55 rfl pn)) (fun J145 => ?_) ?_
            · rcases Bool.eq_false_or_eq_true (((entB z9 ⟨(propI z9), z9.cons⟩) && (entB ⟨(propI z9), z9.cons⟩ z9)) && (entB z9 ⟨(backI z9), z9.cons⟩)) with g144 | g144
              · skip
                have g144p := g144
                try simp only [Bool.not_eq_true', Bool.not_eq_false', decide_eq_true_eq, decide_eq_false_iff_not, Bool.and_eq_true, Bool.or_eq_false_iff, withinB_iff] at g144p
                refine kl_gT rfl rfl g144 ?_
                refine kl_ldW rfl rfl ?_
                refine kl_gT rfl rfl g144 ?_
                refine kl_ldW rfl rfl ?_
                refine kl_gT rfl rfl g144 ?_
                refine kl_callP rfl rfl (entI_ok ⟨(backI z9), z9.cons⟩ z9 (by assumption) (by assumption) (by assumption) (by assumption)) ?_
                refine kl_andT rfl rfl g144 ?_
                exact J145 _ (pc 59 rfl (pc 2 rfl (pc 55 rfl pn)))
              · skip
                refine kl_gF rfl rfl g144 ?_
                refine kl_gF rfl rfl g144 ?_
                refine kl_gF rfl rfl g144 ?_
                refine kl_andF (entB ⟨(backI z9), z9.cons⟩ z9) rfl rfl g144 ?_
                exact J145 _ (pc 59 rfl (pc 2 rfl (pc 55 rfl pn)))
            refine kl_as rfl ?_
            refine kl_nil ?_
            refine kq_code ?_
            refine kc_ret ?_
            refine kq_retP rfl rfl (congrArg Value.bool ?_)
            first | rfl | (simp; done) | (rw [hlaw.1, hlaw.2.1, hlaw.2.2.1, hlaw.2.2.2]; rfl)
      · skip
        refine kl_alloc (cs := [.slice none 0 0, .slice none 0 0]) rfl (fun b146 hb147 => ?_)
        refine kl_nil (kq_a (.cons _ (.cons _ (.cons_cons _ (List.nil_sublist _)))) ?_)
        refine kt_a 2 rfl (by kernel_rfl) ?_
        refine kl_call rfl rfl (propagateI_ok z9 (by assumption) (by assumption)) (fun v148 H149 f150 h151 => ?_)
        refine kl_nil (kq_a (.cons _ (.cons _ (.cons_cons _ (List.nil_sublist _)))) ?_)
        refine kt_a 3 rfl (by kernel_rfl) ?_
        refine kl_call rfl rfl (withDomains_ok z9 (propI z9) (by omega) (by assumption) (by assumption) (by assumption)) (fun v152 H153 f154 h155 => ?_)
        obtain ⟨u156, rfl, h157⟩ := h155
        refine kl_nil (kq_x rfl ?_)
        refine kt_a 5 rfl (by kernel_rfl) ?_
        refine kl_stW (us := [u156, u11]) rfl rfl rfl rfl (oc (Sl.oneCell (by assumption)) (oc (Sl.oneCell (by assumption)) oc_nil)) rfl ?_
        refine kl_chg [sing b146 (.cells [u156, u11].toArray 26 (0, 0)), sing b21 (.cells [u15, u16].toArray 26 (0, 0)), sing b19 (.cells [u10, u11].toArray 26 (0, 0))] rfl ?_
        refine kl_nil (kq_x rfl ?_)
        refine kt_end (by kernel_rfl) ?_
        refine kq_code ?_
        refine kc_seq ?_
        refine kc_tree (fun i => ([3, 5] : List Nat).contains i) [sing b19 (.cells [u10, u11].toArray 26 (0, 0))] (by kernel_rfl) ?_
        refine kt_q 0 (.cons _ (.cons _ (.cons_cons _ (List.nil_sublist _)))) rfl (by kernel_rfl) ?_
        refine kl_ldS rfl (at_box (T := 26) (cs := [u10, u11]) (off := 0) (fz := (0, 0))) rfl ?_
        refine kl_nil (kq_q ?_)
        refine kt_q 1 (.cons _ (.cons _ (.cons_cons _ (List.nil_sublist _)))) rfl (by kernel_rfl) ?_
        refine kl_ldS rfl (at_box (T := 26) (cs := [u10, u11]) (off := 0) (fz := (0, 0))) rfl ?_
        refine kl_nil (kq_q ?_)
        refine kt_b 2 4 rfl rfl (by kernel_rfl) ?_ ?_
        · skip
          refine kl_call rfl rfl (backboneI_ok z9 (by assumption) (by assumption)) (fun v158 H159 f160 h161 => ?_)
          refine kl_nil (kq_a (.cons _ (.cons _ (.cons_cons _ (List.nil_sublist _)))) ?_)
          refine kt_b 3 4 rfl rfl (by kernel_rfl) ?_ ?_
          · skip
            refine kl_call rfl rfl (withDomains_ok z9 (backI z9) (by omega) (by assumption) (by assumption) (by assumption)) (fun v162 H163 f164 h165 => ?_)
            obtain ⟨u166, rfl, h167⟩ := h165
            refine kl_nil (kq_x rfl ?_)
            refine kt_a 4 rfl (by kernel_rfl) ?_
            refine kl_alloc (cs := [.slice none 0 0, .slice none 0 0]) rfl (fun b168 hb169 => ?_)
            refine kl_nil (kq_a (.cons _ (.cons _ (.cons _ (.cons_cons _ (List.nil_sublist _))))) ?_)
            refine kt_a 5 rfl (by kernel_rfl) ?_
            refine kl_stW (us := [u166, u11]) rfl rfl rfl rfl (oc (Sl.oneCell (by assumption)) (oc (Sl.oneCell (by assumption)) oc_nil)) rfl ?_
            refine kl_chg [sing b168 (.cells [u166, u11].toArray 26 (0, 0)), sing b146 (.cells [u156, u11].toArray 26 (0, 0)), sing b21 (.cells [u15, u16].toArray 26 (0, 0)), sing b19 (.cells [u10, u11].toArray 26 (0, 0))] rfl ?_
            refine kl_nil (kq_x rfl ?_)
            refine kt_end (by kernel_rfl) ?_
            refine kq_code ?_
            refine kc_seq ?_
            refine kc_region ?_
            refine kl_ldW rfl rfl ?_
            refine kl_ldW rfl rfl ?_
            refine kl_callP rfl rfl (entI_ok z9 ⟨(propI z9), z9.cons⟩ (by assumption) (by assumption) (by assumption) (by assumption)) ?_
            refine kl_mv rfl ?_
            refine kl_join 4 49 (.bool ((entB z9 ⟨(propI z9), z9.cons⟩) && (entB ⟨(propI z9), z9.cons⟩ z9))) (pc 2 rfl (pc 3 rfl (pc 7 rfl (pc 45 rfl pn)))) (fun J171 => ?_) ?_
            · rcases Bool.eq_false_or_eq_true (entB z9 ⟨(propI z9), z9.cons⟩) with g170 | g170
              · skip
                have g170p := g170
                try simp only [Bool.not_eq_true', Bool.not_eq_false', decide_eq_true_eq, decide_eq_false_iff_not, Bool.and_eq_true, Bool.or_eq_false_iff, withinB_iff] at g170p
                refine kl_gT rfl rfl g170 ?_
                refine kl_ldW rfl rfl ?_
                refine kl_gT rfl rfl g170 ?_
                refine kl_ldW rfl rfl ?_
                refine kl_gT rfl rfl g170 ?_
                refine kl_callP rfl rfl (entI_ok ⟨(propI z9), z9.cons⟩ z9 (by assumption) (by assumption) (by assumption) (by assumption)) ?_
                refine kl_andT rfl rfl g170 ?_
                exact J171 _ (pc 49 rfl (pc 2 rfl (pc 3 rfl (pc 7 rfl (pc 45 rfl pn)))))
              · skip
                refine kl_gF rfl rfl g170 ?_
                refine kl_gF rfl rfl g170 ?_
                refine kl_gF rfl rfl g170 ?_
                refine kl_andF (entB ⟨(propI z9), z9.cons⟩ z9) rfl rfl g170 ?_
                exact J171 _ (pc 49 rfl (pc 2 rfl (pc 3 rfl (pc 7 rfl (pc 45 rfl pn)))))
            refine kl_mv rfl ?_
            refine kl_join 4 54 (.bool (((entB z9 ⟨(propI z9), z9.cons⟩) && (entB ⟨(propI z9), z9.cons⟩ z9)) && (entB z9 ⟨(backI z9), z9.cons⟩))) (pc 2 rfl (pc 3 rfl (pc 7 rfl (pc 50 rfl pn)))) (fun J173 => ?_) ?_
            · rcases Bool.eq_false_or_eq_true ((entB z9 ⟨(propI z9), z9.cons⟩) && (entB ⟨(propI z9), z9.cons⟩ z9)) with g172 | g172
              · skip
                have g172p := g172
                try simp only [Bool.not_eq_true', Bool.not_eq_false', decide_eq_true_eq, decide_eq_false_iff_not, Bool.and_eq_true, Bool.or_eq_false_iff, withinB_iff] at g172p
                refine kl_gT rfl rfl g172 ?_
                refine kl_ldW rfl rfl ?_
                refine kl_gT rfl rfl g172 ?_
                refine kl_ldW rfl rfl ?_
                refine kl_gT rfl rfl g172 ?_
                refine kl_callP rfl rfl (entI_ok z9 ⟨(backI z9), z9.cons⟩ (by assumption) (by assumption) (by assumption) (by assumption)) ?_
                refine kl_andT rfl rfl g172 ?_
                exact J173 _ (pc 54 rfl (pc 2 rfl (pc 3 rfl (pc 7 rfl (pc 50 rfl pn)))))
              · skip
                refine kl_gF rfl rfl g172 ?_
                refine kl_gF rfl rfl g172 ?_
                refine kl_gF rfl rfl g172 ?_
                refine kl_andF (entB z9 ⟨(backI z9), z9.cons⟩) rfl rfl g172 ?_
                exact J173 _ (pc 54 rfl (pc 2 rfl (pc 3 rfl (pc 7 rfl (pc 50 rfl pn)))))
            refine kl_mv rfl ?_
            refine kl_join 4 59 (.bool ((((entB z9 ⟨(propI z9), z9.cons⟩) && (entB ⟨(propI z9), z9.cons⟩ z9)) && (entB z9 ⟨(backI z9), z9.cons⟩)) && (entB ⟨(backI z9), z9.cons⟩ z9))) (pc 2 rfl (pc 55 rfl pn)) (fun J175 => ?_) ?_
            · rcases Bool.eq_false_or_eq_true (((entB z9 ⟨(propI z9), z9.cons⟩) && (entB ⟨(propI z9), z9.cons⟩ z9)) && (entB z9 ⟨(backI z9), z9.cons⟩)) with g174 | g174
              · skip
                have g174p := g174
                try simp only [Bool.not_eq_true', Bool.not_eq_false', decide_eq_true_eq, decide_eq_false_iff_not, Bool.and_eq_true, Bool.or_eq_false_iff, withinB_iff] at g174p
                refine kl_gT rfl rfl g174 ?_
                refine kl_ldW rfl rfl ?_
                refine kl_gT rfl rfl g174 ?_
                refine kl_ldW rfl rfl ?_
                refine kl_gT rfl rfl g174 ?_
                refine kl_callP rfl rfl (entI_ok ⟨(backI z9), z9.cons⟩ z9 (by assumption) (by assumption) (by assumption) (by assumption)) ?_
                refine kl_andT rfl rfl g174 ?_
                exact J175 _ (pc 59 rfl (pc 2 rfl (pc 55 rfl pn)))
              · skip
                refine kl_gF rfl rfl g174 ?_
                refine kl_gF rfl rfl g174 ?_
                refine kl_gF rfl rfl g174 ?_
                refine kl_andF (entB ⟨(backI z9), z9.cons⟩ z9) rfl rfl g174 ?_
                exact J175 _ (pc 59 rfl (pc 2 rfl (pc 55 rfl pn)))
            refine kl_as rfl ?_
            refine kl_nil ?_
            refine kq_code ?_
            refine kc_ret ?_
            refine kq_retP rfl rfl (congrArg Value.bool ?_)
            first | rfl | (simp; done) | (rw [hlaw.1, hlaw.2.1, hlaw.2.2.1, hlaw.2.2.2]; rfl)
          · skip
            refine kl_alloc (cs := [.slice none 0 0, .slice none 0 0]) rfl (fun b176 hb177 => ?_)
            refine kl_nil (kq_a (.cons _ (.cons _ (.cons _ (.cons_cons _ (List.nil_sublist _))))) ?_)
            refine kt_a 3 rfl (by kernel_rfl) ?_
            refine kl_call rfl rfl (withDomains_ok z9 (backI z9) (by omega) (by assumption) (by assumption) (by assumption)) (fun v178 H179 f180 h181 => ?_)
            obtain ⟨u182, rfl, h183⟩ := h181
            refine kl_nil (kq_x rfl ?_)
            refine kt_a 5 rfl (by kernel_rfl) ?_
            refine kl_stW (us := [u182, u11]) rfl rfl rfl rfl (oc (Sl.oneCell (by assumption)) (oc (Sl.oneCell (by assumption)) oc_nil)) rfl ?_
            refine kl_chg [sing b176 (.cells [u182, u11].toArray 26 (0, 0)), sing b146 (.cells [u156, u11].toArray 26 (0, 0)), sing b21 (.cells [u15, u16].toArray 26 (0, 0)), sing b19 (.cells [u10, u11].toArray 26 (0, 0))] rfl ?_
            refine kl_nil (kq_x rfl ?_)
            refine kt_end (by kernel_rfl) ?_
            refine kq_code ?_
            refine kc_seq ?_
            refine kc_region ?_
            refine kl_ldW rfl rfl ?_
            refine kl_ldW rfl rfl ?_
            refine kl_callP rfl rfl (entI_ok z9 ⟨(propI z9), z9.cons⟩ (by assumption) (by assumption) (by assumption) (by assumption)) ?_
            refine kl_mv rfl ?_
            refine kl_join 4 49 (.bool ((entB z9 ⟨(propI z9), z9.cons⟩) && (entB ⟨(propI z9), z9.cons⟩ z9))) (pc 2 rfl (pc 3 rfl (pc 7 rfl (pc 45 rfl pn)))) (fun J185 => ?_) ?_
            · rcases Bool.eq_false_or_eq_true (entB z9 ⟨(propI z9), z9.cons⟩) with g184 | g184
              · skip
                have g184p := g184
                try simp only [Bool.not_eq_true', Bool.not_eq_false', decide_eq_true_eq, decide_eq_false_iff_not, Bool.and_eq_true, Bool.or_eq_false_iff, withinB_iff] at g184p
                refine kl_gT rfl rfl g184 ?_
                refine kl_ldW rfl rfl ?_
                refine kl_gT rfl rfl g184 ?_
                refine kl_ldW rfl rfl ?_
                refine kl_gT rfl rfl g184 ?_
                refine kl_callP rfl rfl (entI_ok ⟨(propI z9), z9.cons⟩ z9 (by assumption) (by assumption) (by assumption) (by assumption)) ?_
                refine kl_andT rfl rfl g184 ?_
                exact J185 _ (pc 49 rfl (pc 2 rfl (pc 3 rfl (pc 7 rfl (pc 45 rfl pn)))))
              · skip
                refine kl_gF rfl rfl g184 ?_
                refine kl_gF rfl rfl g184 ?_
                refine kl_gF rfl rfl g184 ?_
                refine kl_andF (entB ⟨(propI z9), z9.cons⟩ z9) rfl rfl g184 ?_
                exact J185 _ (pc 49 rfl (pc 2 rfl (pc 3 rfl (pc 7 rfl (pc 45 rfl pn)))))
            refine kl_mv rfl ?_
            refine kl_join 4 54 (.bool (((entB z9 ⟨(propI z9), z9.cons⟩) && (entB ⟨(propI z9), z9.cons⟩ z9)) && (entB z9 ⟨(backI z9), z9.cons⟩))) (pc 2 rfl (pc 3 rfl (pc 7 rfl (pc 50 rfl pn)))) (fun J187 => ?_) ?_
            · rcases Bool.eq_false_or_eq_true ((entB z9 ⟨(propI z9), z9.cons⟩) && (entB ⟨(propI z9), z9.cons⟩ z9)) with g186 | g186
              · skip
                have g186p := g186
                try simp only [Bool.not_eq_true', Bool.not_eq_false', decide_eq_true_eq, decide_eq_false_iff_not, Bool.and_eq_true, Bool.or_eq_false_iff, withinB_iff] at g186p
                refine kl_gT rfl rfl g186 ?_
                refine kl_ldW rfl rfl ?_
                refine kl_gT rfl rfl g186 ?_
                refine kl_ldW rfl rfl ?_
                refine kl_gT rfl rfl g186 ?_
                refine kl_callP rfl rfl (entI_ok z9 ⟨(backI z9), z9.cons⟩ (by assumption) (by assumption) (by assumption) (by assumption)) ?_
                refine kl_andT rfl rfl g186 ?_
                exact J187 _ (pc 54 rfl (pc 2 rfl (pc 3 rfl (pc 7 rfl (pc 50 rfl pn)))))
              · skip
                refine kl_gF rfl rfl g186 ?_
                refine kl_gF rfl rfl g186 ?_
                refine kl_gF rfl rfl g186 ?_
                refine kl_andF (entB z9 ⟨(backI z9), z9.cons⟩) rfl rfl g186 ?_
                exact J187 _ (pc 54 rfl (pc 2 rfl (pc 3 rfl (pc 7 rfl (pc 50 rfl pn)))))
            refine kl_mv rfl ?_
            refine kl_join 4 59 (.bool ((((entB z9 ⟨(propI z9), z9.cons⟩) && (entB ⟨(propI z9), z9.cons⟩ z9)) && (entB z9 ⟨(backI z9), z9.cons⟩)) && (entB ⟨(backI z9), z9.cons⟩ z9))) (pc 2 rfl (pc 55 rfl pn)) (fun J189 => ?_) ?_
            · rcases Bool.eq_false_or_eq_true (((entB z9 ⟨(propI z9), z9.cons⟩) && (entB ⟨(propI z9), z9.cons⟩ z9)) && (entB z9 ⟨(backI z9), z9.cons⟩)) with g188 | g188
              · skip
                have g188p := g188
                try simp only [Bool.not_eq_true', Bool.not_eq_false', decide_eq_true_eq, decide_eq_false_iff_not, Bool.and_eq_true, Bool.or_eq_false_iff, withinB_iff] at g188p
                refine kl_gT rfl rfl g188 ?_
                refine kl_ldW rfl rfl ?_
                refine kl_gT rfl rfl g188 ?_
                refine kl_ldW rfl rfl ?_
                refine kl_gT rfl rfl g188 ?_
                refine kl_callP rfl rfl (entI_ok ⟨(backI z9), z9.cons⟩ z9 (by assumption) (by assumption) (by assumption) (by assumption)) ?_
                refine kl_andT rfl rfl g188 ?_
                exact J189 _ (pc 59 rfl (pc 2 rfl (pc 55 rfl pn)))
              · skip
                refine kl_gF rfl rfl g188 ?_
                refine kl_gF rfl rfl g188 ?_
                refine kl_gF rfl rfl g188 ?_
                refine kl_andF (entB ⟨(backI z9), z9.cons⟩ z9) rfl rfl g188 ?_
                exact J189 _ (pc 59 rfl (pc 2 rfl (pc 55 rfl pn)))
            refine kl_as rfl ?_
            refine kl_nil ?_
            refine kq_code ?_
            refine kc_ret ?_
            refine kq_retP rfl rfl (congrArg Value.bool ?_)
            first | rfl | (simp; done) | (rw [hlaw.1, hlaw.2.1, hlaw.2.2.1, hlaw.2.2.2]; rfl)
        · skip
          refine kl_alloc (cs := [.slice none 0 0, .slice none 0 0]) rfl (fun b190 hb191 => ?_)
          refine kl_nil (kq_a (.cons _ (.cons _ (.cons _ (.cons_cons _ (List.nil_sublist _))))) ?_)
          refine kt_a 2 rfl (by kernel_rfl) ?_
          refine kl_call rfl rfl (backboneI_ok z9 (by assumption) (by assumption)) (fun v192 H193 f194 h195 => ?_)
          refine kl_nil (kq_a (.cons _ (.cons _ (.cons _ (.cons_cons _ (List.nil_sublist _))))) ?_)
          refine kt_a 3 rfl (by kernel_rfl) ?_
          refine kl_call rfl rfl (withDomains_ok z9 (backI z9) (by omega) (by assumption) (by assumption) (by assumption)) (fun v196 H197 f198 h199 => ?_)
          obtain ⟨u200, rfl, h201⟩ := h199
          refine kl_nil (kq_x rfl ?_)
          refine kt_a 5 rfl (by kernel_rfl) ?_
          refine kl_stW (us := [u200, u11]) rfl rfl rfl rfl (oc (Sl.oneCell (by assumption)) (oc (Sl.oneCell (by assumption)) oc_nil)) rfl ?_
          refine kl_chg [sing b190 (.cells [u200, u11].toArray 26 (0, 0)), sing b146 (.cells [u156, u11].toArray 26 (0, 0)), sing b21 (.cells [u15, u16].toArray 26 (0, 0)), sing b19 (.cells [u10, u11].toArray 26 (0, 0))] rfl ?_
          refine kl_nil (kq_x rfl ?_)
          refine kt_end (by kernel_rfl) ?_
          refine kq_code ?_
          refine kc_seq ?_
          refine kc_region ?_
          refine kl_ldW rfl rfl ?_
          refine kl_ldW rfl rfl ?_
          refine kl_callP rfl rfl (entI_ok z9 ⟨(propI z9), z9.cons⟩ (by assumption) (by assumption) (by assumption) (by assumption)) ?_
          refine kl_mv rfl ?_
          refine kl_join 4 49 (.bool ((entB z9 ⟨(propI z9), z9.cons⟩) && (entB ⟨(propI z9), z9.cons⟩ z9))) (pc 2 rfl (pc 3 rfl (pc 7 rfl (pc 45 rfl pn)))) (fun J203 => ?_) ?_
          · rcases Bool.eq_false_or_eq_true (entB z9 ⟨(propI z9), z9.cons⟩) with g202 | g202
            · skip
              have g202p := g202
              try simp only [Bool.not_eq_true', Bool.not_eq_false', decide_eq_true_eq, decide_eq_false_iff_not, Bool.and_eq_true, Bool.or_eq_false_iff, withinB_iff] at g202p
              refine kl_gT rfl rfl g202 ?_
              refine kl_ldW rfl rfl ?_
              refine kl_gT rfl rfl g202 ?_
              refine kl_ldW rfl rfl ?_
              refine kl_gT rfl rfl g202 ?_
              refine kl_callP rfl rfl (entI_ok ⟨(propI z9), z9.cons⟩ z9 (by assumption) (by assumption) (by assumption) (by assumption)) ?_
              refine kl_andT rfl rfl g202 ?_
              exact J203 _ (pc 49 rfl (pc 2 rfl (pc 3 rfl (pc 7 rfl (pc 45 rfl pn)))))
            · skip
              refine kl_gF rfl rfl g202 ?_
              refine kl_gF rfl rfl g202 ?_
              refine kl_gF rfl rfl g202 ?_
              refine kl_andF (entB ⟨(propI z9), z9.cons⟩ z9) rfl rfl g202 ?_
              exact J203 _ (pc 49 rfl (pc 2 rfl (pc 3 rfl (pc 7 rfl (pc 45 rfl pn)))))
          refine kl_mv rfl ?_
          refine kl_join 4 54 (.bool (((entB z9 ⟨(propI z9), z9.cons⟩) && (entB ⟨(propI z9), z9.cons⟩ z9)) && (entB z9 ⟨(backI z9), z9.cons⟩))) (pc 2 rfl (pc 3 rfl (pc 7 rfl (pc 50 rfl pn)))) (fun J205 => ?_) ?_
          · rcases Bool.eq_false_or_eq_true ((entB z9 ⟨(propI z9), z9.cons⟩) && (entB ⟨(propI z9), z9.cons⟩ z9)) with g204 | g204
            · skip
              have g204p := g204
              try simp only [Bool.not_eq_true', Bool.not_eq_false', decide_eq_true_eq, decide_eq_false_iff_not, Bool.and_eq_true, Bool.or_eq_false_iff, withinB_iff] at g204p
              refine kl_gT rfl rfl g204 ?_
              refine kl_ldW rfl rfl ?_
              refine kl_gT rfl rfl g204 ?_
              refine kl_ldW rfl rfl ?_
              refine kl_gT rfl rfl g204 ?_
              refine kl_callP rfl rfl (entI_ok z9 ⟨(backI z9), z9.cons⟩ (by assumption) (by assumption) (by assumption) (by assumption)) ?_
              refine kl_andT rfl rfl g204 ?_
              exact J205 _ (pc 54 rfl (pc 2 rfl (pc 3 rfl (pc 7 rfl (pc 50 rfl pn)))))
            · skip
              refine kl_gF rfl rfl g204 ?_
              refine kl_gF rfl rfl g204 ?_
              refine kl_gF rfl rfl g204 ?_
              refine kl_andF (entB z9 ⟨(backI z9), z9.cons⟩) rfl rfl g204 ?_
              exact J205 _ (pc 54 rfl (pc 2 rfl (pc 3 rfl (pc 7 rfl (pc 50 rfl pn)))))
          refine kl_mv rfl ?_
          refine kl_join 4 59 (.bool ((((entB z9 ⟨(propI z9), z9.cons⟩) && (entB ⟨(propI z9), z9.cons⟩ z9)) && (entB z9 ⟨(backI z9), z9.cons⟩)) && (entB ⟨(backI z9), z9.cons⟩ z9))) (pc 2 rfl (pc 55 rfl pn)) (fun J207 => ?_) ?_
          · rcases Bool.eq_false_or_eq_true (((entB z9 ⟨(propI z9), z9.cons⟩) && (entB ⟨(propI z9), z9.cons⟩ z9)) && (entB z9 ⟨(backI z9), z9.cons⟩)) with g206 | g206
            · skip
              have g206p := g206
              try simp only [Bool.not_eq_true', Bool.not_eq_false', decide_eq_true_eq, decide_eq_false_iff_not, Bool.and_eq_true, Bool.or_eq_false_iff, withinB_iff] at g206p
              refine kl_gT rfl rfl g206 ?_
              refine kl_ldW rfl rfl ?_
              refine kl_gT rfl rfl g206 ?_
              refine kl_ldW rfl rfl ?_
              refine kl_gT rfl rfl g206 ?_
              refine kl_callP rfl rfl (entI_ok ⟨(backI z9), z9.cons⟩ z9 (by assumption) (by assumption) (by assumption) (by assumption)) ?_
              refine kl_andT rfl rfl g206 ?_
              exact J207 _ (pc 59 rfl (pc 2 rfl (pc 55 rfl pn)))
            · skip
              refine kl_gF rfl rfl g206 ?_
              refine kl_gF rfl rfl g206 ?_
              refine kl_gF rfl rfl g206 ?_
              refine kl_andF (entB ⟨(backI z9), z9.cons⟩ z9) rfl rfl g206 ?_
              exact J207 _ (pc 59 rfl (pc 2 rfl (pc 55 rfl pn)))
          refine kl_as rfl ?_
          refine kl_nil ?_
          refine kq_code ?_
          refine kc_ret ?_
          refine kq_retP rfl rfl (congrArg Value.bool ?_)
          first | rfl | (simp; done) | (rw [hlaw.1, hlaw.2.1, hlaw.2.2.1, hlaw.2.2.2]; rfl)
end Go.Proofs.Ytigngogjgohfgaa
