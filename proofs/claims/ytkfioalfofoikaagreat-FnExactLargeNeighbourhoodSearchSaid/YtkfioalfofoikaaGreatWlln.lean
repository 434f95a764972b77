/- Walks of functions of the program: each returns what the plain function gives. Conditions: those that each statement names. -/
import Derived.Test.YtkfioalfofoikaaGreatWset
import Derived.Test.YtkfioalfofoikaaGreatWlns
import Derived.Test.YtkfioalfofoikaaGreatWsz
namespace Go.Proofs.YtkfioalfofoikaaGreat
open Go
set_option linter.unusedSimpArgs false
set_option linter.unusedVariables false
theorem lawLn_ok {Hmd : Hp} {vmd : Value} {Hmc : Hp} {vmc : Value} {Hobj : Hp} {vobj : Value} {Hx : Hp} {vx : Value} (m : Mod) (obj : List Int) (x : List Int) (k : Int) (hmd : Ints Hmd vmd m.doms) (hmc : Cons Hmc vmc m.cons) (hobj : Ints Hobj vobj obj) (hx : Ints Hx vx x) : SpecP Tryz.prog 3 [.agg #[vmd, vmc], vobj, vx, .int .i64 k] [Hmd, Hmc, Hobj, Hx] (.bool true) := by
 have hlen := lnsV_len m obj x k
 refine spec_of Tryz.func3 rfl rfl rfl (fun B => ?_)
 refine kc_seq (kc_region (kl_box rfl rfl (fun p1 H2 f3 a4 => ?_)))
 refine kl_as rfl (kl_nil (kq_code (kc_seq (kc_seq (kc_region (kl_mv rfl (kl_len rfl (by assumption) (fun l5 => ?_))))))))
 refine kl_gtr rfl rfl ?_
 refine kl_nil (kq_code (kc_if rfl (fun c6 => ?_) (fun c6 => ?_)))
 ·skip
  refine kc_seq (kc_region (kl_as rfl (kl_nil (kq_code (kc_ret (kq_retP rfl rfl (congrArg Value.bool ?_)))))))
  first | rfl | (exfalso; simp only [held_mark, markL_len] at *; first | omega | (simp at *; done) | (simp at *; omega) | simp_all)
 ·skip
  refine kc_skipQ (kq_code (kc_seq (kc_seq (kc_region (kl_mv rfl (kl_len rfl (by assumption) (fun l7 => ?_)))))))
  refine kl_gtr rfl rfl ?_
  refine kl_nil (kq_code (kc_if rfl (fun c8 => ?_) (fun c8 => ?_)))
  ·skip
   refine kc_seq (kc_region (kl_as rfl (kl_nil (kq_code (kc_ret (kq_retP rfl rfl (congrArg Value.bool ?_)))))))
   first | rfl | (exfalso; simp only [held_mark, markL_len] at *; first | omega | (simp at *; done) | (simp at *; omega) | simp_all)
  ·skip
   refine kc_skipQ (kq_code (kc_seq (kc_region (kl_as rfl (kl_nil (kq_code (kc_seq (kc_region (kl_ldS rfl (by assumption) rfl ?_)))))))))
   refine kl_mv rfl (kl_callP rfl rfl (szModel_ok m (1048576 : Int) (by omega) (by assumption) (by assumption)) ?_)
   refine kl_as rfl (kl_nil (kq_code (kc_seq (kc_seq (kc_region (kl_mv rfl (kl_lss rfl rfl ?_)))))))
   refine kl_nil (kq_code (kc_if rfl (fun c9 => ?_) (fun c9 => ?_)))
   ·skip
    refine kc_seq (kc_region (kl_as rfl (kl_nil (kq_code (kc_ret (kq_retP rfl rfl (congrArg Value.bool ?_)))))))
    first | rfl | (exfalso; simp only [held_mark, markL_len] at *; first | omega | (simp at *; done) | (simp at *; omega) | simp_all)
   ·skip
    have hs := small_of (szB_ok c9)
    have hmk := hs.marks
    refine kc_skipQ (kq_code (kc_seq (kc_region (kl_ldS rfl (by assumption) rfl ?_))))
    refine kl_call rfl rfl (toModel_ok m hs (by assumption) (by assumption)) (fun v10 H11 f12 h13 => ?_)
    obtain ⟨u14, u15, rfl, h16, h17⟩ := h13
    refine kl_mv rfl (kl_call rfl rfl (toIntS_ok obj (by omega) (by assumption)) (fun v18 H19 f20 h21 => ?_))
    refine kl_mv rfl (kl_call rfl rfl (toIntS_ok x (by omega) (by assumption)) (fun v22 H23 f24 h25 => ?_))
    refine kl_mv rfl (kl_call rfl rfl (lnsS_ok m obj x k (by assumption) (by assumption) (by assumption) (by assumption)) (fun v26 H27 f28 h29 => ?_))
    obtain ⟨u30, rfl, h31⟩ := h29
    refine kl_mv rfl (kl_xt rfl rfl (kl_xt rfl rfl (kl_as rfl (kl_as rfl (kl_nil (kq_code (kc_seq (kc_region (kl_ldS rfl (by assumption) rfl ?_)))))))))
    refine kl_callL rfl rfl (toModel_ok m hs (by assumption) (by assumption)) (fun v32 H33 f34 h35 => ?_)
    obtain ⟨u36, u37, rfl, h38, h39⟩ := h35
    refine kl_alloc (cs := [.slice none 0 0, .slice none 0 0]) rfl (fun b40 hb41 => ?_)
    refine kl_stW (us := [u36, u37]) rfl rfl rfl rfl (oc (Sl.oneCell (by assumption)) (oc (Sl.oneCell (by assumption)) oc_nil)) rfl ?_
    refine kl_nil (kq_code (kc_seq (kc_region (kl_mv rfl (kl_callL rfl rfl (toIntS_ok obj (by omega) (by assumption)) (fun v42 H43 f44 h45 => ?_))))))
    refine kl_as rfl (kl_nil (kq_code (kc_seq (kc_region (kl_mv rfl (kl_callL rfl rfl (toIntS_ok x (by omega) (by assumption)) (fun v46 H47 f48 h49 => ?_)))))))
    refine kl_as rfl (kl_nil (kq_code (kc_seq (kc_region (kl_ldW rfl rfl (kl_mv rfl (kl_mv rfl (kl_mv rfl (kl_callL rfl rfl (lnsI_ok m obj x k (by assumption) (by assumption) (by assumption) (by assumption)) (fun v50 H51 f52 h53 => ?_))))))))))
    obtain ⟨u54, rfl, h55⟩ := h53
    refine kl_mv rfl (kl_xt rfl rfl (kl_xt rfl rfl (kl_as rfl (kl_as rfl (kl_nil (kq_code (kc_seq (kc_seq (kc_region (kl_mv rfl ?_))))))))))
    refine kl_mv rfl (kl_callP rfl rfl (eqIntS_ok ((lnsV m obj x k).1) ((lnsV m obj x k).1) (by assumption) (by assumption)) ?_)
    refine kl_not rfl (kl_mv rfl (kl_join 4 66 (.bool (!(decide (((lnsV m obj x k).1) = ((lnsV m obj x k).1))) || (((lnsV m obj x k).2) != ((lnsV m obj x k).2)))) (pc 1 rfl (pc 2 rfl (pc 3 rfl (pc 4 rfl (pc 8 rfl (pc 10 rfl (pc 11 rfl (pc 12 rfl (pc 13 rfl (pc 14 rfl (pc 15 rfl (pc 16 rfl (pc 62 rfl pn))))))))))))) (fun J57 => ?_) ?_))
    ·rcases Bool.eq_false_or_eq_true (!(decide (((lnsV m obj x k).1) = ((lnsV m obj x k).1)))) with g56 | g56
     ·skip
      refine kl_gF rfl rfl g56 (kl_gF rfl rfl g56 (kl_gF rfl rfl g56 (kl_orT (((lnsV m obj x k).2) != ((lnsV m obj x k).2)) rfl rfl g56 ?_)))
      exact J57 _ (pc 66 rfl (pc 1 rfl (pc 2 rfl (pc 3 rfl (pc 4 rfl (pc 8 rfl (pc 10 rfl (pc 11 rfl (pc 12 rfl (pc 13 rfl (pc 14 rfl (pc 15 rfl (pc 16 rfl (pc 62 rfl pn))))))))))))))
     ·skip
      have g56p := g56
      try simp only [Bool.not_eq_true', Bool.not_eq_false', decide_eq_true_eq, decide_eq_false_iff_not, Bool.and_eq_true, Bool.or_eq_false_iff, withinB_iff] at g56p
      refine kl_gT rfl rfl g56 (kl_mv rfl (kl_gT rfl rfl g56 (kl_mv rfl (kl_gT rfl rfl g56 (kl_bne rfl rfl ?_)))))
      refine kl_orF rfl rfl g56 ?_
      exact J57 _ (pc 66 rfl (pc 1 rfl (pc 2 rfl (pc 3 rfl (pc 4 rfl (pc 8 rfl (pc 10 rfl (pc 11 rfl (pc 12 rfl (pc 13 rfl (pc 14 rfl (pc 15 rfl (pc 16 rfl (pc 62 rfl pn))))))))))))))
    refine kl_nil (kq_code (kc_cond rfl (fun c58 => ?_) (fun c58 => ?_)))
    ·skip
     have c58r := c58
     try simp only [smpC, decide_eq_true_eq, decide_eq_false_iff_not] at c58
     refine kc_seq (kc_region (kl_as rfl (kl_nil (kq_code (kc_ret (kq_retP rfl rfl (congrArg Value.bool ?_)))))))
     first | rfl | (exfalso; simp only [held_mark, markL_len] at *; first | omega | (simp at *; done) | (simp at *; omega) | simp_all)
    ·skip
     have c58r := c58
     try simp only [smpC, decide_eq_true_eq, decide_eq_false_iff_not] at c58
     refine kc_skipQ (kq_code (kc_seq (kc_seq (kc_draw 5 [true, true, false, false, true] (by kernel_rfl) (by kernel_rfl) ?_))))
     refine kl_ldW rfl rfl (kl_ldS rfl (by assumption) rfl ?_)
     refine kl_call rfl rfl (toModel_ok m hs (by assumption) (by assumption)) (fun v59 H60 f61 h62 => ?_)
     obtain ⟨u63, u64, rfl, h65, h66⟩ := h62
     refine kl_callP rfl rfl (eqModel_ok m m (by assumption) (by assumption) (by assumption) (by assumption)) ?_
     refine kl_not rfl (kl_nil (kq_code (kc_cond rfl (fun c67 => ?_) (fun c67 => ?_))))
     ·skip
      have c67r := c67
      try simp only [smpC, decide_eq_true_eq, decide_eq_false_iff_not] at c67
      refine kc_seq (kc_region (kl_as rfl (kl_nil (kq_code (kc_ret (kq_retP rfl rfl (congrArg Value.bool ?_)))))))
      first | rfl | (exfalso; simp only [held_mark, markL_len] at *; first | omega | (simp at *; done) | (simp at *; omega) | simp_all)
     ·skip
      have c67r := c67
      try simp only [smpC, decide_eq_true_eq, decide_eq_false_iff_not] at c67
      refine kc_skipQ (kq_code (kc_seq (kc_seq (kc_region (kl_mv rfl (kl_mv rfl (kl_call rfl rfl (toIntS_ok obj (by omega) (by assumption)) (fun v68 H69 f70 h71 => ?_))))))))
      refine kl_callP rfl rfl (eqIntS_ok obj obj (by assumption) (by assumption)) ?_
      refine kl_not rfl (kl_nil (kq_code (kc_cond rfl (fun c72 => ?_) (fun c72 => ?_))))
      ·skip
       have c72r := c72
       try simp only [smpC, decide_eq_true_eq, decide_eq_false_iff_not] at c72
       refine kc_seq (kc_region (kl_as rfl (kl_nil (kq_code (kc_ret (kq_retP rfl rfl (congrArg Value.bool ?_)))))))
       first | rfl | (exfalso; simp only [held_mark, markL_len] at *; first | omega | (simp at *; done) | (simp at *; omega) | simp_all)
      ·skip
       have c72r := c72
       try simp only [smpC, decide_eq_true_eq, decide_eq_false_iff_not] at c72
       refine kc_skipQ (kq_code (kc_seq (kc_seq (kc_region (kl_mv rfl (kl_mv rfl (kl_call rfl rfl (toIntS_ok x (by omega) (by assumption)) (fun v73 H74 f75 h76 => ?_))))))))
       refine kl_callP rfl rfl (eqIntS_ok x x (by assumption) (by assumption)) ?_
       refine kl_not rfl (kl_nil (kq_code (kc_cond rfl (fun c77 => ?_) (fun c77 => ?_))))
       ·skip
        have c77r := c77
        try simp only [smpC, decide_eq_true_eq, decide_eq_false_iff_not] at c77
        refine kc_seq (kc_region (kl_as rfl (kl_nil (kq_code (kc_ret (kq_retP rfl rfl (congrArg Value.bool ?_)))))))
        first | rfl | (exfalso; simp only [held_mark, markL_len] at *; first | omega | (simp at *; done) | (simp at *; omega) | simp_all)
       ·skip
        have c77r := c77
        try simp only [smpC, decide_eq_true_eq, decide_eq_false_iff_not] at c77
        refine kc_skipQ (kq_code (kc_seq (kc_region (kl_as rfl (kl_nil (kq_code (kc_seq (kc_region (kl_ldW rfl rfl (kl_mv rfl (kl_callM rfl rfl (markModel_ok m (1 : Int) (by omega) (by assumption) (by assumption) f34.2) (fun v78 H79 K80 f81 h82 d83 => ?_))))))))))))
        obtain ⟨m84, rfl⟩ := h82
        have f86 := Mk.fr m84 f34
        refine kl_as rfl (kl_nil (kq_code (kc_seq (kc_region (kl_mv rfl (kl_mv rfl (kl_callM rfl rfl (markIntS_ok obj ((1 : Int) + m.doms.length + (msum m.cons : Nat)) (by omega) (by assumption) f44.2) (fun v87 H88 K89 f90 h91 d92 => ?_))))))))
        obtain ⟨m93, rfl, e94⟩ := h91
        have f95 := Mk.fr m93 f44
        refine kl_as rfl (kl_nil (kq_code (kc_seq (kc_region (kl_mv rfl (kl_mv rfl (kl_callM rfl rfl (markIntS_ok x (((1 : Int) + m.doms.length + (msum m.cons : Nat)) + obj.length) (by omega) (by assumption) f48.2) (fun v96 H97 K98 f99 h100 d101 => ?_))))))))
        obtain ⟨m102, rfl, e103⟩ := h100
        have f104 := Mk.fr m102 f48
        refine kl_as rfl (kl_nil (kq_code (kc_seq (kc_seq (kc_region (kl_mv rfl (kl_lss rfl rfl ?_)))))))
        refine kl_mv rfl (kl_join 5 98 (.bool (decide (((((1 : Int) + m.doms.length + (msum m.cons : Nat)) + obj.length) + x.length) < (0 : Int)) || !(decide (((lnsV m obj x k).1) = ((lnsV m obj x k).1))))) (pc 1 rfl (pc 2 rfl (pc 3 rfl (pc 4 rfl (pc 8 rfl (pc 10 rfl (pc 11 rfl (pc 15 rfl (pc 16 rfl (pc 93 rfl pn)))))))))) (fun J106 => ?_) ?_)
        ·rcases Bool.eq_false_or_eq_true (decide (((((1 : Int) + m.doms.length + (msum m.cons : Nat)) + obj.length) + x.length) < (0 : Int))) with g105 | g105
         ·skip
          refine kl_gF rfl rfl g105 (kl_gF rfl rfl g105 (kl_gF rfl rfl g105 (kl_gF rfl rfl g105 (kl_orT (!(decide (((lnsV m obj x k).1) = ((lnsV m obj x k).1)))) rfl rfl g105 ?_))))
          exact J106 _ (pc 98 rfl (pc 1 rfl (pc 2 rfl (pc 3 rfl (pc 4 rfl (pc 8 rfl (pc 10 rfl (pc 11 rfl (pc 15 rfl (pc 16 rfl (pc 93 rfl pn)))))))))))
         ·skip
          have g105p := of_decide_eq_false g105
          refine kl_gT rfl rfl g105 (kl_mv rfl (kl_gT rfl rfl g105 (kl_mv rfl (kl_gT rfl rfl g105 (kl_callP rfl rfl (eqIntS_ok ((lnsV m obj x k).1) ((lnsV m obj x k).1) (by assumption) (by assumption)) ?_)))))
          refine kl_gT rfl rfl g105 (kl_not rfl (kl_orF rfl rfl g105 ?_))
          exact J106 _ (pc 98 rfl (pc 1 rfl (pc 2 rfl (pc 3 rfl (pc 4 rfl (pc 8 rfl (pc 10 rfl (pc 11 rfl (pc 15 rfl (pc 16 rfl (pc 93 rfl pn)))))))))))
        refine kl_mv rfl (kl_join 4 103 (.bool ((decide (((((1 : Int) + m.doms.length + (msum m.cons : Nat)) + obj.length) + x.length) < (0 : Int)) || !(decide (((lnsV m obj x k).1) = ((lnsV m obj x k).1)))) || (((lnsV m obj x k).2) != ((lnsV m obj x k).2)))) (pc 1 rfl (pc 2 rfl (pc 3 rfl (pc 4 rfl (pc 8 rfl (pc 10 rfl (pc 11 rfl (pc 15 rfl (pc 99 rfl pn))))))))) (fun J108 => ?_) ?_)
        ·rcases Bool.eq_false_or_eq_true (decide (((((1 : Int) + m.doms.length + (msum m.cons : Nat)) + obj.length) + x.length) < (0 : Int)) || !(decide (((lnsV m obj x k).1) = ((lnsV m obj x k).1)))) with g107 | g107
         ·skip
          refine kl_gF rfl rfl g107 (kl_gF rfl rfl g107 (kl_gF rfl rfl g107 (kl_orT (((lnsV m obj x k).2) != ((lnsV m obj x k).2)) rfl rfl g107 ?_)))
          exact J108 _ (pc 103 rfl (pc 1 rfl (pc 2 rfl (pc 3 rfl (pc 4 rfl (pc 8 rfl (pc 10 rfl (pc 11 rfl (pc 15 rfl (pc 99 rfl pn))))))))))
         ·skip
          have g107p := g107
          try simp only [Bool.not_eq_true', Bool.not_eq_false', decide_eq_true_eq, decide_eq_false_iff_not, Bool.and_eq_true, Bool.or_eq_false_iff, withinB_iff] at g107p
          refine kl_gT rfl rfl g107 (kl_mv rfl (kl_gT rfl rfl g107 (kl_mv rfl (kl_gT rfl rfl g107 (kl_bne rfl rfl ?_)))))
          refine kl_orF rfl rfl g107 ?_
          exact J108 _ (pc 103 rfl (pc 1 rfl (pc 2 rfl (pc 3 rfl (pc 4 rfl (pc 8 rfl (pc 10 rfl (pc 11 rfl (pc 15 rfl (pc 99 rfl pn))))))))))
        refine kl_nil (kq_code (kc_cond rfl (fun c109 => ?_) (fun c109 => ?_)))
        ·skip
         have c109r := c109
         try simp only [smpC, decide_eq_true_eq, decide_eq_false_iff_not] at c109
         refine kc_seq (kc_region (kl_as rfl (kl_nil (kq_code (kc_ret (kq_retP rfl rfl (congrArg Value.bool ?_)))))))
         first | rfl | (exfalso; simp only [held_mark, markL_len] at *; first | omega | (simp at *; done) | (simp at *; omega) | simp_all)
        ·skip
         have c109r := c109
         try simp only [smpC, decide_eq_true_eq, decide_eq_false_iff_not] at c109
         refine kc_skipQ (kq_code (kc_seq (kc_region (kl_as rfl (kl_nil (kq_code (kc_seq (kc_region (kl_mv rfl (kl_mv rfl (kl_callM rfl rfl (markIntS_ok ((lnsV m obj x k).1) (1 : Int) (by omega) (by assumption) f52.2) (fun v110 H111 K112 f113 h114 d115 => ?_))))))))))))
         obtain ⟨m116, rfl, e117⟩ := h114
         have f118 := Mk.fr m116 f52
         refine kl_as rfl (kl_nil (kq_code (kc_seq (kc_region (kl_as rfl (kl_nil (kq_code (kc_seq (kc_region (kl_mv rfl (kl_mv rfl (kl_callP rfl rfl (heldIntS_ok (markL (1 : Int) ((lnsV m obj x k).1).length) (1 : Int) (by omega) (by assumption)) ?_))))))))))))
         refine kl_as rfl (kl_nil (kq_code (kc_seq (kc_seq (kc_region (kl_mv rfl (kl_lss rfl rfl ?_)))))))
         refine kl_nil (kq_code (kc_if rfl (fun c119 => ?_) (fun c119 => ?_)))
         ·skip
          refine kc_seq (kc_region (kl_as rfl (kl_nil (kq_code (kc_ret (kq_retP rfl rfl (congrArg Value.bool ?_)))))))
          first | rfl | (exfalso; simp only [held_mark, markL_len] at *; first | omega | (simp at *; done) | (simp at *; omega) | simp_all)
         ·skip
          refine kc_skipQ (kq_code (kc_seq (kc_seq (kc_region (kl_mv rfl (kl_mv rfl (kl_neq rfl rfl ?_)))))))
          refine kl_nil (kq_code (kc_if rfl (fun c120 => ?_) (fun c120 => ?_)))
          ·skip
           refine kc_seq (kc_region (kl_as rfl (kl_nil (kq_code (kc_ret (kq_retP rfl rfl (congrArg Value.bool ?_)))))))
           first | rfl | (exfalso; simp only [held_mark, markL_len] at *; first | omega | (simp at *; done) | (simp at *; omega) | simp_all)
          ·skip
           refine kc_skipQ (kq_code (kc_seq (kc_region (kl_ldS rfl (by assumption) rfl ?_))))
           refine kl_call rfl rfl (toModel_ok m hs (by assumption) (by assumption)) (fun v121 H122 f123 h124 => ?_)
           obtain ⟨u125, u126, rfl, h127, h128⟩ := h124
           refine kl_mv rfl (kl_call rfl rfl (toIntS_ok obj (by omega) (by assumption)) (fun v129 H130 f131 h132 => ?_))
           refine kl_mv rfl (kl_call rfl rfl (toIntS_ok x (by omega) (by assumption)) (fun v133 H134 f135 h136 => ?_))
           refine kl_mv rfl (kl_call rfl rfl (lnsI_ok m obj x k (by assumption) (by assumption) (by assumption) (by assumption)) (fun v137 H138 f139 h140 => ?_))
           obtain ⟨u141, rfl, h142⟩ := h140
           refine kl_mv rfl (kl_xt rfl rfl (kl_xt rfl rfl (kl_as rfl (kl_as rfl (kl_nil (kq_code (kc_seq (kc_seq (kc_region (kl_mv rfl ?_))))))))))
           refine kl_mv rfl (kl_callP rfl rfl (eqIntS_ok ((lnsV m obj x k).1) ((lnsV m obj x k).1) (by assumption) (by assumption)) ?_)
           refine kl_not rfl (kl_mv rfl (kl_join 4 134 (.bool (!(decide (((lnsV m obj x k).1) = ((lnsV m obj x k).1))) || (((lnsV m obj x k).2) != ((lnsV m obj x k).2)))) (pc 8 rfl (pc 15 rfl (pc 18 rfl (pc 19 rfl (pc 130 rfl pn))))) (fun J144 => ?_) ?_))
           ·rcases Bool.eq_false_or_eq_true (!(decide (((lnsV m obj x k).1) = ((lnsV m obj x k).1)))) with g143 | g143
            ·skip
             refine kl_gF rfl rfl g143 (kl_gF rfl rfl g143 (kl_gF rfl rfl g143 (kl_orT (((lnsV m obj x k).2) != ((lnsV m obj x k).2)) rfl rfl g143 ?_)))
             exact J144 _ (pc 134 rfl (pc 8 rfl (pc 15 rfl (pc 18 rfl (pc 19 rfl (pc 130 rfl pn))))))
            ·skip
             have g143p := g143
             try simp only [Bool.not_eq_true', Bool.not_eq_false', decide_eq_true_eq, decide_eq_false_iff_not, Bool.and_eq_true, Bool.or_eq_false_iff, withinB_iff] at g143p
             refine kl_gT rfl rfl g143 (kl_mv rfl (kl_gT rfl rfl g143 (kl_mv rfl (kl_gT rfl rfl g143 (kl_bne rfl rfl ?_)))))
             refine kl_orF rfl rfl g143 ?_
             exact J144 _ (pc 134 rfl (pc 8 rfl (pc 15 rfl (pc 18 rfl (pc 19 rfl (pc 130 rfl pn))))))
           refine kl_nil (kq_code (kc_cond rfl (fun c145 => ?_) (fun c145 => ?_)))
           ·skip
            have c145r := c145
            try simp only [smpC, decide_eq_true_eq, decide_eq_false_iff_not] at c145
            refine kc_seq (kc_region (kl_as rfl (kl_nil (kq_code (kc_ret (kq_retP rfl rfl (congrArg Value.bool ?_)))))))
            first | rfl | (exfalso; simp only [held_mark, markL_len] at *; first | omega | (simp at *; done) | (simp at *; omega) | simp_all)
           ·skip
            have c145r := c145
            try simp only [smpC, decide_eq_true_eq, decide_eq_false_iff_not] at c145
            refine kc_skipQ (kq_code (kc_seq (kc_region (kl_as rfl (kl_nil (kq_code (kc_seq (kc_region (kl_mv rfl (kl_mv rfl (kl_callP rfl rfl (heldIntS_ok (markL (1 : Int) ((lnsV m obj x k).1).length) (1 : Int) (by omega) (by assumption)) ?_)))))))))))
            refine kl_as rfl (kl_nil (kq_code (kc_seq (kc_seq (kc_region (kl_mv rfl (kl_lss rfl rfl ?_)))))))
            refine kl_nil (kq_code (kc_if rfl (fun c146 => ?_) (fun c146 => ?_)))
            ·skip
             refine kc_seq (kc_region (kl_as rfl (kl_nil (kq_code (kc_ret (kq_retP rfl rfl (congrArg Value.bool ?_)))))))
             first | rfl | (exfalso; simp only [held_mark, markL_len] at *; first | omega | (simp at *; done) | (simp at *; omega) | simp_all)
            ·skip
             refine kc_skipQ (kq_code (kc_seq (kc_seq (kc_region (kl_mv rfl (kl_mv rfl (kl_neq rfl rfl ?_)))))))
             refine kl_nil (kq_code (kc_if rfl (fun c147 => ?_) (fun c147 => ?_)))
             ·skip
              refine kc_seq (kc_region (kl_as rfl (kl_nil (kq_code (kc_ret (kq_retP rfl rfl (congrArg Value.bool ?_)))))))
              first | rfl | (exfalso; simp only [held_mark, markL_len] at *; first | omega | (simp at *; done) | (simp at *; omega) | simp_all)
             ·skip
              refine kc_skipQ (kq_code (kc_seq (kc_region (kl_as rfl (kl_nil (kq_code (kc_ret (kq_retP rfl rfl (congrArg Value.bool ?_)))))))))
              first | rfl | (exfalso; simp only [held_mark, markL_len] at *; first | omega | (simp at *; done) | (simp at *; omega) | simp_all)
end Go.Proofs.YtkfioalfofoikaaGreat
