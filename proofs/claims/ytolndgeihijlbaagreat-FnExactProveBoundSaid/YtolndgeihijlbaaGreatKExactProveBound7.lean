/- Parts of the proof: a logic of partial frames, plain functions, walks of the program's functions. Conditions: those that each statement names. -/
import Derived.Test.YtolndgeihijlbaaGreatKExactProveBound6
import Derived.ProofKit
import Derived.SizedLaws
import Derived.Test.YtolndgeihijlbaaGreatRows
namespace Go.Proofs.YtolndgeihijlbaaGreat
open Go
set_option linter.unusedSimpArgs false
set_option linter.unusedVariables false
section
theorem clipLL_ok {Hxs : Hp} {vxs : Value} (xs : List (List Lit)) (hxs : LRows Hxs vxs xs) : Spec Tryz.prog 73 [vxs] [Hxs] (fun _ vq => LRows Hxs vq xs ∧ ClipV vxs vq xs.length) := by
 refine spec_of Tryz.func73 rfl rfl rfl (fun B => ?_)
 refine cS (cr (sg rfl (ln (qc (cS (cr (mv rfl (mv rfl (le9 rfl ‹_› (fun l1 => ?_))))))))))
 refine mv rfl (le9 rfl ‹_› (fun l2 => ?_))
 refine kl_clipV rfl rfl rfl ‹_› (by omega) (fun u3 h4 h4v => ?_)
 refine sg rfl (ln (qc (rt ?_)))
 exact kq_ret rfl rfl noHp (fr_no _) ⟨by assumption, by assumption⟩
theorem infI_ok {Hmd : Hp} {vmd : Value} {Hmc : Hp} {vmc : Value} (m : Mod) (hM : MOk m) (hmd : Ints Hmd vmd m.doms) (hmc : Cons Hmc vmc m.cons) : Spec Tryz.prog 38 [.agg #[vmd, vmc]] [Hmd, Hmc] ((fun Hq vq => ∃ u : Value, vq = .tuple #[u, .bool (infR m).2] ∧ LMatR 69 100 Hq u (infR m).1)) := by
 refine spec_of Tryz.func38 rfl rfl rfl (fun B => ?_)
 refine cS (cr (kl_box rfl rfl (fun p1 H2 f3 a4 => ?_)))
 refine sg rfl (sg rfl (ln (qc (cS (cr (kl_bsO (us := []) rfl rfl rfl (by decide) (fun _ h => by cases h) (fun v5 H6 f7 o8 => ?_)))))))
 refine kl_no ?_
 have o9 : LMat 69 100 H6 noHp v5 [] [] := LMat.nil o8
 refine kl_alloc (cs := [.slice none 0 0]) rfl (fun b11 hb12 => ?_)
 refine sB rfl rfl rfl (LMat.oneCell ‹_›) (LMat.cells ‹_›) ?_
 refine cg [bxS b11 [v5] 29, noHp, H6] rfl ?_
 refine ln (qc (cS (cS (cr (kl_ldS rfl ‹_› rfl ?_)))))
 refine fd9 rfl ‹_› (fun p13 a14 => ?_)
 refine ld rfl ‹_› (cT rfl rfl (refuteI_ok m.doms.length m m.doms [] [] hM hM.dok (path_nil _ _) (by simp) (by have := tN_le hM.n.2; simp; omega) ‹_› ‹_› ‹_› (Sl.nil (H := noHp)) o9) (fun v15 L1 Ln K16 h17 g18 g19 => ?_))
 obtain ⟨rfl, v20, H21, K22, us23, rfl, rfl, o24⟩ := h17
 refine nm ?_
 refine kl_fr H21 (LMat.hlq o24) (fun f25 => ?_)
 refine kl_fr K22 (LMat.lq o24) (fun f26 => ?_)
 have o27 := LMat.castX (ys := (refF m.doms.length m m.doms []).1) (by simp) o24
 refine nt9 rfl (mv rfl (jn 4 15 (.bool (!((refF m.doms.length m m.doms []).2) || decide ((200 : Int) < (((refF m.doms.length m m.doms []).1).length : Int)))) (pk [2, 3, 4, 11] rfl) (fun J30 => ?_) ?_))
 ·rcases Bool.eq_false_or_eq_true (!((refF m.doms.length m m.doms []).2)) with g28 | g28
  ·refine gF rfl rfl g28 (gF rfl rfl g28 (gF rfl rfl g28 (oT (decide ((200 : Int) < (((refF m.doms.length m m.doms []).1).length : Int))) rfl rfl g28 ?_)))
   exact J30 _ (pk [15, 2, 3, 4, 11] rfl)
  ·have g28p := g28
   try simp only [smpD] at g28p
   refine gT rfl rfl g28 (lB rfl rfl (gT rfl rfl g28 (kl_lmLen rfl o27 (fun l29 => ?_))))
   refine gT rfl rfl g28 (kl_gtr rfl rfl ?_)
   refine oF rfl rfl g28 ?_
   exact J30 _ (pk [15, 2, 3, 4, 11] rfl)
 refine ln (qc (cd9 rfl (fun c31 => ?_) (fun c31 => ?_)))
 ·have c31r := c31
  try simp only [smpE] at c31
  have hbad := c31r
  refine cS (cr (sg rfl (sg rfl (ln (qc (rt ?_))))))
  exact kq_ret2 rfl rfl rfl (orHp noHp noHp) (fr_or (fr_no _) (fr_no _)) ⟨_, tup2 rfl (congrArg Value.bool (by rw [inf_bad hM hbad])), LMatR.castX (by rw [inf_bad hM hbad]) LMatR.nil⟩
 ·have c31r := c31
  try simp only [smpE] at c31
  have hgd := c31r
  refine sk (qc (cS (cr (lB rfl rfl (kl_apart H21 K22 (fun c38 => ?_))))))
  have h39 := LMatR.rows ⟨H21, K22, us23, rfl, c38, o27⟩
  refine kl_call rfl rfl (clipLL_ok ((refF m.doms.length m m.doms []).1) h39) (fun v32 H33 f34 h35 => ?_)
  obtain ⟨_, h36⟩ := h35
  have m37 := LMat.clip o27 h36
  refine sg rfl (sg rfl (ln (qc (rt (kq_apart H21 K22 (fun c40 => ?_))))))
  exact kq_ret2 rfl rfl rfl (orHp H21 K22) (fr_or f25 f26) ⟨_, tup2 rfl (congrArg Value.bool (by rw [inf_good hM hgd])), H21, K22, us23, rfl, c40, LMat.castX (by rw [inf_good hM hgd]) m37⟩
theorem pbI_ok {Hmd : Hp} {vmd : Value} {Hmc : Hp} {vmc : Value} {Hobj : Hp} {vobj : Value} (m : Mod) (obj : List Int) (b : Int) (hmd : Ints Hmd vmd m.doms) (hmc : Cons Hmc vmc m.cons) (hobj : Ints Hobj vobj obj) : Spec Tryz.prog 8 [.agg #[vmd, vmc], vobj, .int .i64 b] [Hmd, Hmc, Hobj] ((fun Hq vq => ∃ u : Value, vq = .tuple #[u, .bool (pbR m obj b).2] ∧ LMatR 69 100 Hq u (pbR m obj b).1)) := by
 refine spec_of Tryz.func8 rfl rfl rfl (fun B => ?_)
 refine cS (cr (kl_box rfl rfl (fun p1 H2 f3 a4 => ?_)))
 refine sg rfl (sg rfl (ln (qc (cS (cr (kl_ldS rfl ‹_› rfl ?_))))))
 refine mv rfl (mv rfl (kl_call rfl rfl (boundedI_ok m obj b ‹_› ‹_› ‹_›) (fun v5 H6 f7 h8 => ?_)))
 obtain ⟨z11, z16, u12, u13, rfl, h14, h15, h10⟩ := h8
 have hbd := h10
 refine mv rfl (kl_xt rfl rfl (kl_xt rfl rfl (kl_alloc (cs := [.slice none 0 0, .slice none 0 0]) rfl (fun b17 hb18 => ?_))))
 refine kl_stW (us := [u12, u13]) rfl rfl rfl rfl (oc (Sl.oneCell ‹_›) (oc (Sl.oneCell ‹_›) oc_nil)) rfl ?_
 refine cg [bxS b17 [u12, u13] 26] rfl ?_
 refine sg rfl (ln (qc (cS (cS (cr (mv rfl (nt9 rfl (ln (qc (cd9 rfl (fun c19 => ?_) (fun c19 => ?_)))))))))))
 ·have c19r := c19
  try simp only [smpE] at c19
  have hz9 := c19r
  refine cS (cr (sg rfl (sg rfl (ln (qc (rt ?_))))))
  exact kq_ret2 rfl rfl rfl (orHp noHp noHp) (fr_or (fr_no _) (fr_no _)) ⟨_, tup2 rfl (congrArg Value.bool (by rw [bdR_no hbd (nb_T hz9)])), LMatR.castX (by rw [bdR_no hbd (nb_T hz9)]) LMatR.nil⟩
 ·have c19r := c19
  try simp only [smpE] at c19
  have hz9 := c19r
  obtain ⟨hMz, hpe⟩ := bdR_ok hbd (nb_F hz9)
  refine sk (qc (cS (cr (kl_ldW rfl rfl (kl_call rfl rfl (infI_ok z11 hMz ‹_› ‹_›) (fun v20 H21 f22 h23 => ?_))))))
  obtain ⟨u24, rfl, h25⟩ := h23
  refine kl_xt rfl rfl (kl_xt rfl rfl (sg rfl (sg rfl (ln (qc (rt ?_))))))
  exact kq_ret2 rfl rfl rfl H21 f22 ⟨_, tup2 rfl (congrArg Value.bool (by rw [hpe.1])), LMatR.castX (by rw [hpe.1]) h25⟩
end
section
theorem szIntS_ok {Ha : Hp} {va : Value} (a : List Int) (left : Int) (hl : 0 ≤ left ∧ left ≤ 1048576) (ha : Ints Ha va a) : SpecP Tryz.prog 56 [va, .int .i64 left] [Ha] (.int .i64 (szB left a.length)) := by
 refine spec_of Tryz.func56 rfl rfl rfl (fun B => ?_)
 refine cS (cr (sg rfl (ln (qc (cS (cr (mv rfl (mv rfl (le9 rfl ‹_› (fun l1 => ?_))))))))))
 refine sb9 rfl rfl (by omega) ?_
 refine sg rfl (ln (qc (cS (cS (cr (mv rfl (ls9 rfl rfl ?_)))))))
 refine ln (qc (ci9 rfl (fun c2 => ?_) (fun c2 => ?_)))
 ·refine cS (cr (sg rfl (ln (qc (rt (kq_retP rfl rfl (congrArg (Value.int .i64) ?_)))))))
  exact szB_neg (by omega)
 ·refine sk (qc (cS (cr (mv rfl (sg rfl (ln (qc (rt (kq_retP rfl rfl (congrArg (Value.int .i64) ?_))))))))))
  exact szB_pos rfl (by omega)
theorem szIntSS_ok {Ha : Hp} {va : Value} (a : List (List Int)) (left : Int) (hl : 0 ≤ left ∧ left ≤ 1048576) (ha : Rows Ha va a) : SpecP Tryz.prog 143 [va, .int .i64 left] [Ha] (.int .i64 (szB left ((a.length + rsum a : Nat) : Int))) := by
 refine spec_of Tryz.func143 rfl rfl rfl (fun B => ?_)
 refine cS (cr (sg rfl (ln (qc (cS (cr (mv rfl (mv rfl (le9 rfl ‹_› (fun l1 => ?_))))))))))
 refine sb9 rfl rfl (by omega) ?_
 refine sg rfl (ln (qc (cS (cS (cr (mv rfl (ls9 rfl rfl ?_)))))))
 refine ln (qc (ci9 rfl (fun c2 => ?_) (fun c2 => ?_)))
 ·refine cS (cr (sg rfl (ln (qc (rt (kq_retP rfl rfl (congrArg (Value.int .i64) ?_)))))))
  exact szB_neg (by omega)
 ·refine sk (qc (cS (cS (cr (sg rfl (ln (qc (bl (kc_loop0 (A := Nat × Int) (fun zz => (zz.1 ≤ a.length) ∧ (0 ≤ zz.2 ∧ zz.2 = left - ((a.length + rsum (a.take zz.1) : Nat) : Int))) (fun zz => a.length - zz.1) (fun zz => [(5, .int .i64 (zz.1 : Int)), (1, .int .i64 zz.2)]) (0, (left - (a.length : Int))) (pc 0 rfl pn) (pk [5, 1] rfl) ⟨Nat.zero_le _, ⟨by omega, by simp [rsum]⟩⟩ ?_)))))))))
  rintro ⟨k, l⟩ hJ5
  obtain ⟨hk3, hi4⟩ : (k ≤ a.length) ∧ (0 ≤ l ∧ l = left - ((a.length + rsum (a.take k) : Nat) : Int)) := hJ5
  change KC _ _ (_) _ _ ([(5, .int .i64 (k : Int)), (1, .int .i64 l)] ++ _)
  refine cS (cS (cr (mv rfl (mv rfl (le9 rfl ‹_› (fun l6 => ?_))))))
  refine ls9 rfl rfl ?_
  refine ln (qc (ci9 rfl (fun c7 => ?_) (fun c7 => ?_)))
  ·refine sk (qc (cS (bl (cS (cr (mv rfl (mv rfl (kl_inS rfl rfl ‹_› (by omega) (fun p8 u10 h11 a9 => ?_)))))))))
   refine ld rfl ‹_› (mv rfl (cP rfl rfl (szIntS_ok (a.getD k []) l (by first | assumption | omega) ‹_›) ?_))
   refine sg rfl (ln (qc (cS (cr (mv rfl (ls9 rfl rfl ?_))))))
   refine ln (qc (ci9 rfl (fun c12 => ?_) (fun c12 => ?_)))
   ·have hz := szB_lt c12
    refine cS (cr (sg rfl (ln (qc (rt (kq_retP rfl rfl (congrArg (Value.int .i64) ?_)))))))
    have h1 := rsum_le a (k + 1); rw [rsum_step (by omega)] at h1; exact szB_neg (by omega)
   ·have hz := szB_ok c12
    refine sk (qc (cr (mv rfl (ic9 rfl rfl (by omega) ?_))))
    refine sg rfl (ln (kq_round0 ((k + 1), (szB l (a.getD k []).length)) (by omega) (⟨by omega, (by rw [rsum_step (by omega)]; omega)⟩) (pk [5, 1] rfl) (pc 0 rfl pn) slr9))
  ·refine ex9 (qc (cS (cr (mv rfl (sg rfl (ln (qc (rt (kq_retP rfl rfl (congrArg (Value.int .i64) ?_))))))))))
   rw [List.take_of_length_le (by omega)] at *; exact szB_pos (by omega) (by omega)
theorem szConstraint_ok {Hcv : Hp} {vcv : Value} {Hca : Hp} {vca : Value} {Hcr : Hp} {vcr : Value} (c : Con) (left : Int) (hl : 0 ≤ left ∧ left ≤ 1048576) (hcv : Ints Hcv vcv c.vars) (hca : Ints Hca vca c.args) (hcr : Rows Hcr vcr c.rows) : SpecP Tryz.prog 96 [.agg #[.int .i64 c.kind, vcv, vca, .int .i64 c.bound, vcr], .int .i64 left] [Hcv, Hca, Hcr] (.int .i64 (szB left (conN c : Nat))) := by
 have hc : conN c = c.vars.length + c.args.length + (c.rows.length + rsum c.rows) := rfl
 refine spec_of Tryz.func96 rfl rfl rfl (fun B => ?_)
 refine cS (cr (kl_box rfl rfl (fun p1 H2 f3 a4 => ?_)))
 refine sg rfl (ln (qc (cS (cr (fd9 rfl ‹_› (fun p5 a6 => ?_))))))
 refine ld rfl ‹_› (mv rfl (cP rfl rfl (szIntS_ok c.vars left (by first | assumption | omega) ‹_›) ?_))
 refine sg rfl (ln (qc (cS (cS (cr (mv rfl (ls9 rfl rfl ?_)))))))
 refine ln (qc (ci9 rfl (fun c7 => ?_) (fun c7 => ?_)))
 ·have hzc7 := szB_lt c7
  refine cS (cr (sg rfl (ln (qc (rt (kq_retP rfl rfl (congrArg (Value.int .i64) ?_)))))))
  exact szB_neg (by omega)
 ·have hzc7 := szB_ok c7
  refine sk (qc (cS (cr (fd9 rfl ‹_› (fun p8 a9 => ?_)))))
  refine ld rfl ‹_› (mv rfl (cP rfl rfl (szIntS_ok c.args (szB left c.vars.length) (by first | assumption | omega) ‹_›) ?_))
  refine sg rfl (ln (qc (cS (cS (cr (mv rfl (ls9 rfl rfl ?_)))))))
  refine ln (qc (ci9 rfl (fun c10 => ?_) (fun c10 => ?_)))
  ·have hzc10 := szB_lt c10
   refine cS (cr (sg rfl (ln (qc (rt (kq_retP rfl rfl (congrArg (Value.int .i64) ?_)))))))
   exact szB_neg (by omega)
  ·have hzc10 := szB_ok c10
   refine sk (qc (cS (cr (fd9 rfl ‹_› (fun p11 a12 => ?_)))))
   refine ld rfl ‹_› (mv rfl (cP rfl rfl (szIntSS_ok c.rows (szB (szB left c.vars.length) c.args.length) (by first | assumption | omega) ‹_›) ?_))
   refine sg rfl (ln (qc (cS (cS (cr (mv rfl (ls9 rfl rfl ?_)))))))
   refine ln (qc (ci9 rfl (fun c13 => ?_) (fun c13 => ?_)))
   ·have hzc13 := szB_lt c13
    refine cS (cr (sg rfl (ln (qc (rt (kq_retP rfl rfl (congrArg (Value.int .i64) ?_)))))))
    exact szB_neg (by omega)
   ·have hzc13 := szB_ok c13
    refine sk (qc (cS (cr (mv rfl (sg rfl (ln (qc (rt (kq_retP rfl rfl (congrArg (Value.int .i64) ?_))))))))))
    exact szB_pos (by omega) (by omega)
theorem szConstraintS_ok {Ha : Hp} {va : Value} (a : List Con) (left : Int) (hl : 0 ≤ left ∧ left ≤ 1048576) (ha : Cons Ha va a) : SpecP Tryz.prog 57 [va, .int .i64 left] [Ha] (.int .i64 (szB left ((a.length + csum a : Nat) : Int))) := by
 refine spec_of Tryz.func57 rfl rfl rfl (fun B => ?_)
 refine cS (cr (sg rfl (ln (qc (cS (cr (mv rfl (mv rfl (le9 rfl ‹_› (fun l1 => ?_))))))))))
 refine sb9 rfl rfl (by omega) ?_
 refine sg rfl (ln (qc (cS (cS (cr (mv rfl (ls9 rfl rfl ?_)))))))
 refine ln (qc (ci9 rfl (fun c2 => ?_) (fun c2 => ?_)))
 ·refine cS (cr (sg rfl (ln (qc (rt (kq_retP rfl rfl (congrArg (Value.int .i64) ?_)))))))
  exact szB_neg (by omega)
 ·refine sk (qc (cS (cS (cr (sg rfl (ln (qc (bl (kc_loop0 (A := Nat × Int) (fun zz => (zz.1 ≤ a.length) ∧ (0 ≤ zz.2 ∧ zz.2 = left - ((a.length + csum (a.take zz.1) : Nat) : Int))) (fun zz => a.length - zz.1) (fun zz => [(5, .int .i64 (zz.1 : Int)), (1, .int .i64 zz.2)]) (0, (left - (a.length : Int))) (pc 0 rfl pn) (pk [5, 1] rfl) ⟨Nat.zero_le _, ⟨by omega, by simp [csum]⟩⟩ ?_)))))))))
  rintro ⟨k, l⟩ hJ5
  obtain ⟨hk3, hi4⟩ : (k ≤ a.length) ∧ (0 ≤ l ∧ l = left - ((a.length + csum (a.take k) : Nat) : Int)) := hJ5
  change KC _ _ (_) _ _ ([(5, .int .i64 (k : Int)), (1, .int .i64 l)] ++ _)
  refine cS (cS (cr (mv rfl (mv rfl (le9 rfl ‹_› (fun l6 => ?_))))))
  refine ls9 rfl rfl ?_
  refine ln (qc (ci9 rfl (fun c7 => ?_) (fun c7 => ?_)))
  ·refine sk (qc (cS (bl (cS (cr (mv rfl (mv rfl (kl_inC rfl rfl ‹_› (by omega) (fun p8 u10 u11 u12 h13 h14 h15 a9 => ?_)))))))))
   refine kl_ldS rfl ‹_› rfl ?_
   refine mv rfl (cP rfl rfl (szConstraint_ok (a.getD k nilCon) l (by first | assumption | omega) ‹_› ‹_› ‹_›) ?_)
   refine sg rfl (ln (qc (cS (cr (mv rfl (ls9 rfl rfl ?_))))))
   refine ln (qc (ci9 rfl (fun c16 => ?_) (fun c16 => ?_)))
   ·have hz := szB_lt c16
    refine cS (cr (sg rfl (ln (qc (rt (kq_retP rfl rfl (congrArg (Value.int .i64) ?_)))))))
    have h1 := csum_le a (k + 1); rw [csum_step (by omega)] at h1; exact szB_neg (by omega)
   ·have hz := szB_ok c16
    refine sk (qc (cr (mv rfl (ic9 rfl rfl (by omega) ?_))))
    refine sg rfl (ln (kq_round0 ((k + 1), (szB l (conN (a.getD k nilCon) : Nat))) (by omega) (⟨by omega, (by rw [csum_step (by omega)]; omega)⟩) (pk [5, 1] rfl) (pc 0 rfl pn) slr9))
  ·refine ex9 (qc (cS (cr (mv rfl (sg rfl (ln (qc (rt (kq_retP rfl rfl (congrArg (Value.int .i64) ?_))))))))))
   rw [List.take_of_length_le (by omega)] at *; exact szB_pos (by omega) (by omega)
theorem szModel_ok {Hmd : Hp} {vmd : Value} {Hmc : Hp} {vmc : Value} (m : Mod) (left : Int) (hl : 0 ≤ left ∧ left ≤ 1048576) (hmd : Ints Hmd vmd m.doms) (hmc : Cons Hmc vmc m.cons) : SpecP Tryz.prog 18 [.agg #[vmd, vmc], .int .i64 left] [Hmd, Hmc] (.int .i64 (szB left (modN m : Nat))) := by
 have hc : modN m = m.doms.length + (m.cons.length + csum m.cons) := rfl
 refine spec_of Tryz.func18 rfl rfl rfl (fun B => ?_)
 refine cS (cr (kl_box rfl rfl (fun p1 H2 f3 a4 => ?_)))
 refine sg rfl (ln (qc (cS (cr (fd9 rfl ‹_› (fun p5 a6 => ?_))))))
 refine ld rfl ‹_› (mv rfl (cP rfl rfl (szIntS_ok m.doms left (by first | assumption | omega) ‹_›) ?_))
 refine sg rfl (ln (qc (cS (cS (cr (mv rfl (ls9 rfl rfl ?_)))))))
 refine ln (qc (ci9 rfl (fun c7 => ?_) (fun c7 => ?_)))
 ·have hzc7 := szB_lt c7
  refine cS (cr (sg rfl (ln (qc (rt (kq_retP rfl rfl (congrArg (Value.int .i64) ?_)))))))
  exact szB_neg (by omega)
 ·have hzc7 := szB_ok c7
  refine sk (qc (cS (cr (fd9 rfl ‹_› (fun p8 a9 => ?_)))))
  refine ld rfl ‹_› (mv rfl (cP rfl rfl (szConstraintS_ok m.cons (szB left m.doms.length) (by first | assumption | omega) ‹_›) ?_))
  refine sg rfl (ln (qc (cS (cS (cr (mv rfl (ls9 rfl rfl ?_)))))))
  refine ln (qc (ci9 rfl (fun c10 => ?_) (fun c10 => ?_)))
  ·have hzc10 := szB_lt c10
   refine cS (cr (sg rfl (ln (qc (rt (kq_retP rfl rfl (congrArg (Value.int .i64) ?_)))))))
   exact szB_neg (by omega)
  ·have hzc10 := szB_ok c10
   refine sk (qc (cS (cr (mv rfl (sg rfl (ln (qc (rt (kq_retP rfl rfl (congrArg (Value.int .i64) ?_))))))))))
   exact szB_pos (by omega) (by omega)
end
section
theorem toIntS_ok {Ha : Hp} {va : Value} (a : List Int) (hb : a.length ≤ 1048576) (ha : Ints Ha va a) : Spec Tryz.prog 20 [va] [Ha] (fun Hq vq => Ints Hq vq a) := by
 refine spec_of Tryz.func20 rfl rfl rfl (fun B => ?_)
 refine cS (cr (sg rfl (ln (qc (cS (cr (mv rfl (le9 rfl ‹_› (fun l1 => ?_)))))))))
 refine kl_mkL (R := IntV) (0 : Int) rfl rfl (by omega) (by decide) (by exact rfl) (fun v2 H3 f4 o5 => ?_)
 refine sg rfl (ln (qc (cS (cS (cr (sg rfl (ln (qc (bl (kc_loopL (A := Nat × Hp) (fun zz => (zz.1 ≤ a.length) ∧ OwnL 3 1 zz.2 noHp IntV v2 (a.take zz.1 ++ List.replicate (a.length - zz.1) (0 : Int)) ∧ Fr B zz.2) (fun zz => a.length - zz.1) (fun zz => [zz.2]) (fun zz => [(4, .int .i64 (zz.1 : Int))]) (0, H3) (pk [0, 2, 3] rfl) (pc 4 rfl pn) rfl ⟨Nat.zero_le _, (OwnL.cast (by simp : (List.replicate a.length (0 : Int)) = (a.take 0 ++ List.replicate (a.length - 0) (0 : Int))) o5), f4⟩ ?_))))))))))
 rintro ⟨k, H8⟩ hJ11
 obtain ⟨hk6, o9, f10⟩ : (k ≤ a.length) ∧ OwnL 3 1 H8 noHp IntV v2 (a.take k ++ List.replicate (a.length - k) (0 : Int)) ∧ Fr B H8 := hJ11
 change KC _ _ (_) [H8] _ ([(4, .int .i64 (k : Int))] ++ _)
 refine cS (cS (cr (mv rfl (mv rfl (le9 rfl ‹_› (fun l12 => ?_))))))
 refine ls9 rfl rfl ?_
 refine ln (qc (ci9 rfl (fun c13 => ?_) (fun c13 => ?_)))
 ·refine sk (qc (cS (bl (cr (mv rfl (mv rfl (mv rfl (mv rfl ?_))))))))
  refine kl_inI rfl rfl ‹_› (by first | omega | (simp only [List.length_append, List.length_take, List.length_replicate]; omega)) (fun p14 a15 => ?_)
  refine ld rfl ‹_› (kl_ixLn rfl rfl ‹_› (by first | omega | (simp only [List.length_append, List.length_take, List.length_replicate]; omega)) (fun p16 q17 => ?_))
  refine kl_stL (a.getD k 0) rfl rfl ‹_› o9 (by first | omega | (simp only [List.length_append, List.length_take, List.length_replicate]; omega)) rfl rfl rfl (fun H18 o19 f20 => ?_)
  have f21 := f20 _ f10
  refine ln (qc (cr (mv rfl (ic9 rfl rfl (by omega) ?_))))
  refine sg rfl (ln (rL ((k + 1), H18) (by omega) (⟨by omega, (OwnL.cast (by exact fill_step (0 : Int) (by omega) : ((a.take k ++ List.replicate (a.length - k) (0 : Int)).set k (a.getD k 0)) = (a.take (k + 1) ++ List.replicate (a.length - (k + 1)) (0 : Int))) o19), f21⟩) (pc 4 rfl pn) (pk [0, 2, 3] rfl) rfl slr9))
 ·refine ex9 (qc (cS (cr (mv rfl (sg rfl (ln (qc (rt ?_))))))))
  have e9 : (a.take k ++ List.replicate (a.length - k) (0 : Int)) = a := by exact fill_end (by omega)
  exact kq_ret rfl rfl H8 f10 (e9 ▸ OwnL.ints o9)
theorem toIntSS_ok {Ha : Hp} {va : Value} (a : List (List Int)) (hb : a.length ≤ 1048576) (hb2 : ∀ r ∈ a, r.length ≤ 1048576) (ha : Rows Ha va a) : Spec Tryz.prog 144 [va] [Ha] (fun Hq vq => Rows Hq vq a) := by
 refine spec_of Tryz.func144 rfl rfl rfl (fun B => ?_)
 refine cS (cr (sg rfl (ln (qc (cS (cr (mv rfl (le9 rfl ‹_› (fun l1 => ?_)))))))))
 refine kl_mkL (R := RowV) ([] : List Int) rfl rfl (by omega) (by decide) (by exact ⟨_, rfl, Sl.nil⟩) (fun v2 H3 f4 o5 => ?_)
 refine sg rfl (ln (qc (cS (cS (cr (sg rfl (ln (qc (bl (kc_loopK (A := Nat × Hp × Hp) (fun zz => (zz.1 ≤ a.length) ∧ Fr B zz.2.2 ∧ OwnL 23 1 zz.2.1 zz.2.2 RowV v2 (a.take zz.1 ++ List.replicate (a.length - zz.1) ([] : List Int)) ∧ Fr B zz.2.1) (fun zz => a.length - zz.1) (fun zz => zz.2.2) (fun zz => [zz.2.1]) (fun zz => [(4, .int .i64 (zz.1 : Int))]) (0, H3, noHp) (pk [0, 2, 3] rfl) (pc 4 rfl pn) rfl ⟨Nat.zero_le _, (fr_no _), (OwnL.cast (by simp : (List.replicate a.length ([] : List Int)) = (a.take 0 ++ List.replicate (a.length - 0) ([] : List Int))) o5), f4⟩ ?_))))))))))
 rintro ⟨k, H8, K11⟩ hJ13
 obtain ⟨hk6, f12, o9, f10⟩ : (k ≤ a.length) ∧ Fr B K11 ∧ OwnL 23 1 H8 K11 RowV v2 (a.take k ++ List.replicate (a.length - k) ([] : List Int)) ∧ Fr B H8 := hJ13
 change KC _ _ (K11 :: _) [H8] _ ([(4, .int .i64 (k : Int))] ++ _)
 refine cS (cS (cr (mv rfl (mv rfl (le9 rfl ‹_› (fun l14 => ?_))))))
 refine ls9 rfl rfl ?_
 refine ln (qc (ci9 rfl (fun c15 => ?_) (fun c15 => ?_)))
 ·refine sk (qc (cS (bl (cr (mv rfl (mv rfl (mv rfl (mv rfl ?_))))))))
  refine kl_inS rfl rfl ‹_› (by first | omega | (simp only [List.length_append, List.length_take, List.length_replicate]; omega)) (fun p16 u18 h19 a17 => ?_)
  refine ld rfl ‹_› (kl_call rfl rfl (toIntS_ok (a.getD k []) (hb2 _ (getD_mem (by omega))) ‹_›) (fun v20 H21 f22 h23 => ?_))
  refine kl_ixLn rfl rfl ‹_› (by first | omega | (simp only [List.length_append, List.length_take, List.length_replicate]; omega)) (fun p24 q25 => ?_)
  refine cm9 K11 H21 (fun c30 => ?_)
  have o31 := OwnL.mono (K' := orHp K11 H21) o9 orL
  refine kl_stL (a.getD k []) rfl rfl ‹_› o31 (by first | omega | (simp only [List.length_append, List.length_take, List.length_replicate]; omega)) ⟨_, rfl, Sl.mono ‹_› (orC c30) (fun _ _ h => h)⟩ (Sl.oneCell ‹_›) (Sl.cells ‹_›) (fun H26 o27 f28 => ?_)
  have f29 := f28 _ f10
  refine ln (qc (cr (mv rfl (ic9 rfl rfl (by omega) ?_))))
  refine sg rfl (ln (kq_roundK ((k + 1), H26, (orHp K11 H21)) (by omega) (⟨by omega, (fr_or f12 f22), (OwnL.cast (by exact fill_step ([] : List Int) (by omega) : ((a.take k ++ List.replicate (a.length - k) ([] : List Int)).set k (a.getD k [])) = (a.take (k + 1) ++ List.replicate (a.length - (k + 1)) ([] : List Int))) o27), f29⟩) (pc 4 rfl pn) (pk [0, 2, 3] rfl) rfl slr9))
 ·refine ex9 (qc (cS (cr (mv rfl (sg rfl (ln (qc (rt (kq_cmp H8 K11 (fun c32 => ?_))))))))))
  have e9 : (a.take k ++ List.replicate (a.length - k) ([] : List Int)) = a := by exact fill_end (by omega)
  exact kq_ret rfl rfl (orHp H8 K11) (fr_or f10 f12) (e9 ▸ OwnL.rowsK o9 c32)
theorem toConstraint_ok {Hcv : Hp} {vcv : Value} {Hca : Hp} {vca : Value} {Hcr : Hp} {vcr : Value} (c : Con) (hs : SmallC c) (hcv : Ints Hcv vcv c.vars) (hca : Ints Hca vca c.args) (hcr : Rows Hcr vcr c.rows) : Spec Tryz.prog 97 [.agg #[.int .i64 c.kind, vcv, vca, .int .i64 c.bound, vcr]] [Hcv, Hca, Hcr] (fun Hq vq => ConR Hq vq c) := by
 refine spec_of Tryz.func97 rfl rfl rfl (fun B => ?_)
 refine cS (cr (kl_box rfl rfl (fun p1 H2 f3 a4 => ?_)))
 refine kl_alloc (cs := [.int .i64 (0 : Int), .slice none 0 0, .slice none 0 0, .int .i64 (0 : Int), .slice none 0 0]) rfl (fun b5 hb6 => ?_)
 refine ln (qc (cS (cr (kl_alloc (cs := [.int .i64 (0 : Int), .slice none 0 0, .slice none 0 0, .int .i64 (0 : Int), .slice none 0 0]) rfl (fun b7 hb8 => ?_)))))
 refine ln (qc (cS (cr (fd9 rfl ‹_› (fun p9 a10 => ?_)))))
 refine ld rfl ‹_› (fV rfl (sB rfl rfl rfl rfl rfl ?_))
 refine ln (qc (cS (cr (fd9 rfl ‹_› (fun p11 a12 => ?_)))))
 refine ld rfl ‹_› (kl_call rfl rfl (toIntS_ok c.vars hs.vars ‹_›) (fun v13 H14 f15 h16 => ?_))
 refine fV rfl (sB rfl rfl rfl (Sl.oneCell ‹_›) (Sl.cells ‹_›) ?_)
 refine ln (qc (cS (cr (fd9 rfl ‹_› (fun p17 a18 => ?_)))))
 refine ld rfl ‹_› (kl_call rfl rfl (toIntS_ok c.args hs.args ‹_›) (fun v19 H20 f21 h22 => ?_))
 refine fV rfl (sB rfl rfl rfl (Sl.oneCell ‹_›) (Sl.cells ‹_›) ?_)
 refine ln (qc (cS (cr (fd9 rfl ‹_› (fun p23 a24 => ?_)))))
 refine ld rfl ‹_› (fV rfl (sB rfl rfl rfl rfl rfl ?_))
 refine ln (qc (cS (cr (fd9 rfl ‹_› (fun p25 a26 => ?_)))))
 refine ld rfl ‹_› (kl_call rfl rfl (toIntSS_ok c.rows hs.rows hs.row ‹_›) (fun v27 H28 f29 h30 => ?_))
 refine fV rfl (sB rfl rfl rfl (Sl.oneCell ‹_›) (Sl.cells ‹_›) ?_)
 refine ln (qc (cS (cr (kl_ldW rfl rfl (kl_stW (us := [.int .i64 c.kind, v13, v19, .int .i64 c.bound, v27]) rfl rfl rfl rfl (oc rfl (oc (Sl.oneCell ‹_›) (oc (Sl.oneCell ‹_›) (oc rfl (oc (Sl.oneCell ‹_›) oc_nil))))) rfl ?_)))))
 refine ln (qc (rt (kq_cmp H14 (orHp H20 H28) (fun c31 => ?_))))
 refine kq_cmp H20 H28 (fun c32 => ?_)
 exact kq_retC rfl rfl rfl (orHp H14 (orHp H20 H28)) (fr_or f15 (fr_or f21 f29)) ⟨_, rfl, _, _, _, rfl, Sl.mono ‹_› orL (fun _ _ h => h), Sl.mono ‹_› (fun b o h => orC c31 b o (orL b o h)) (fun _ _ h => h), Rows.mono' ‹_› (fun b o h => orC c31 b o (orC c32 b o h))⟩
theorem toConstraintS_ok {Ha : Hp} {va : Value} (a : List Con) (hb : a.length ≤ 1048576) (hb2 : ∀ c ∈ a, SmallC c) (ha : Cons Ha va a) : Spec Tryz.prog 58 [va] [Ha] (fun Hq vq => Cons Hq vq a) := by
 refine spec_of Tryz.func58 rfl rfl rfl (fun B => ?_)
 refine cS (cr (sg rfl (ln (qc (cS (cr (mv rfl (le9 rfl ‹_› (fun l1 => ?_)))))))))
 refine kl_mkL (R := ConV) nilCon rfl rfl (by omega) (by decide) (by exact ⟨_, _, _, rfl, Sl.nil, Sl.nil, Sl.nil⟩) (fun v2 H3 f4 o5 => ?_)
 refine sg rfl (ln (qc (cS (cS (cr (sg rfl (ln (qc (bl (kc_loopK (A := Nat × Hp × Hp) (fun zz => (zz.1 ≤ a.length) ∧ Fr B zz.2.2 ∧ OwnL 88 5 zz.2.1 zz.2.2 ConV v2 (a.take zz.1 ++ List.replicate (a.length - zz.1) nilCon) ∧ Fr B zz.2.1) (fun zz => a.length - zz.1) (fun zz => zz.2.2) (fun zz => [zz.2.1]) (fun zz => [(4, .int .i64 (zz.1 : Int))]) (0, H3, noHp) (pk [0, 2, 3] rfl) (pc 4 rfl pn) rfl ⟨Nat.zero_le _, (fr_no _), (OwnL.cast (by simp : (List.replicate a.length nilCon) = (a.take 0 ++ List.replicate (a.length - 0) nilCon)) o5), f4⟩ ?_))))))))))
 rintro ⟨k, H8, K11⟩ hJ13
 obtain ⟨hk6, f12, o9, f10⟩ : (k ≤ a.length) ∧ Fr B K11 ∧ OwnL 88 5 H8 K11 ConV v2 (a.take k ++ List.replicate (a.length - k) nilCon) ∧ Fr B H8 := hJ13
 change KC _ _ (K11 :: _) [H8] _ ([(4, .int .i64 (k : Int))] ++ _)
 refine cS (cS (cr (mv rfl (mv rfl (le9 rfl ‹_› (fun l14 => ?_))))))
 refine ls9 rfl rfl ?_
 refine ln (qc (ci9 rfl (fun c15 => ?_) (fun c15 => ?_)))
 ·refine sk (qc (cS (bl (cr (mv rfl (mv rfl (mv rfl (mv rfl ?_))))))))
  refine kl_inC rfl rfl ‹_› (by first | omega | (simp only [List.length_append, List.length_take, List.length_replicate]; omega)) (fun p16 u18 u19 u20 h21 h22 h23 a17 => ?_)
  refine kl_ldS rfl ‹_› rfl ?_
  refine kl_call rfl rfl (toConstraint_ok (a.getD k nilCon) (hb2 _ (getD_mem (by omega))) ‹_› ‹_› ‹_›) (fun v24 H25 f26 h27 => ?_)
  obtain ⟨_, rfl, h31⟩ := h27
  have h31' := h31
  obtain ⟨u28, u29, u30, rfl, h32, h33, h34⟩ := h31
  refine kl_ixLn rfl rfl ‹_› (by first | omega | (simp only [List.length_append, List.length_take, List.length_replicate]; omega)) (fun p35 q36 => ?_)
  refine cm9 K11 H25 (fun c41 => ?_)
  have o42 := OwnL.mono (K' := orHp K11 H25) o9 orL
  refine kl_stLk (us := [.int .i64 ((a.getD k nilCon).kind), u28, u29, .int .i64 ((a.getD k nilCon).bound), u30]) (a.getD k nilCon) rfl rfl ‹_› o42 (by first | omega | (simp only [List.length_append, List.length_take, List.length_replicate]; omega)) (RMono.mono (orC c41) ‹_›) rfl (oc rfl (oc (Sl.oneCell ‹_›) (oc (Sl.oneCell ‹_›) (oc rfl (oc (Sl.oneCell ‹_›) oc_nil))))) rfl (fun H37 o38 f39 => ?_)
  have f40 := f39 _ f10
  refine ln (qc (cr (mv rfl (ic9 rfl rfl (by omega) ?_))))
  refine sg rfl (ln (kq_roundK ((k + 1), H37, (orHp K11 H25)) (by omega) (⟨by omega, (fr_or f12 f26), (OwnL.cast (by exact fill_step nilCon (by omega) : ((a.take k ++ List.replicate (a.length - k) nilCon).set k (a.getD k nilCon)) = (a.take (k + 1) ++ List.replicate (a.length - (k + 1)) nilCon)) o38), f40⟩) (pc 4 rfl pn) (pk [0, 2, 3] rfl) rfl slr9))
 ·refine ex9 (qc (cS (cr (mv rfl (sg rfl (ln (qc (rt (kq_cmp H8 K11 (fun c43 => ?_))))))))))
  have e9 : (a.take k ++ List.replicate (a.length - k) nilCon) = a := by exact fill_end (by omega)
  exact kq_ret rfl rfl (orHp H8 K11) (fr_or f10 f12) (e9 ▸ OwnL.consK o9 c43)
theorem toModel_ok {Hmd : Hp} {vmd : Value} {Hmc : Hp} {vmc : Value} (m : Mod) (hs : SmallM m) (hmd : Ints Hmd vmd m.doms) (hmc : Cons Hmc vmc m.cons) : Spec Tryz.prog 19 [.agg #[vmd, vmc]] [Hmd, Hmc] (fun Hq vq => ModR Hq vq m) := by
 refine spec_of Tryz.func19 rfl rfl rfl (fun B => ?_)
 refine cS (cr (kl_box rfl rfl (fun p1 H2 f3 a4 => ?_)))
 refine kl_alloc (cs := [.slice none 0 0, .slice none 0 0]) rfl (fun b5 hb6 => ?_)
 refine ln (qc (cS (cr (kl_alloc (cs := [.slice none 0 0, .slice none 0 0]) rfl (fun b7 hb8 => ?_)))))
 refine ln (qc (cS (cr (fd9 rfl ‹_› (fun p9 a10 => ?_)))))
 refine ld rfl ‹_› (kl_call rfl rfl (toIntS_ok m.doms hs.doms ‹_›) (fun v11 H12 f13 h14 => ?_))
 refine fV rfl (sB rfl rfl rfl (Sl.oneCell ‹_›) (Sl.cells ‹_›) ?_)
 refine ln (qc (cS (cr (fd9 rfl ‹_› (fun p15 a16 => ?_)))))
 refine ld rfl ‹_› (kl_call rfl rfl (toConstraintS_ok m.cons hs.cons hs.con ‹_›) (fun v17 H18 f19 h20 => ?_))
 refine fV rfl (sB rfl rfl rfl (Sl.oneCell ‹_›) (Sl.cells ‹_›) ?_)
 refine ln (qc (cS (cr (kl_ldW rfl rfl (kl_stW (us := [v11, v17]) rfl rfl rfl rfl (oc (Sl.oneCell ‹_›) (oc (Sl.oneCell ‹_›) oc_nil)) rfl ?_)))))
 refine ln (qc (rt (kq_cmp H12 H18 (fun c21 => ?_))))
 exact kq_retC rfl rfl rfl (orHp H12 H18) (fr_or f13 f19) ⟨_, _, rfl, Sl.mono ‹_› orL (fun _ _ h => h), Cons.mono' ‹_› (orC c21)⟩
end
section
theorem eqIntS_ok {Ha : Hp} {va : Value} {Hb : Hp} {vb : Value} (a : List Int) (b : List Int) (ha : Ints Ha va a) (hb : Ints Hb vb b) : SpecP Tryz.prog 23 [va, vb] [Ha, Hb] (.bool (decide (a = b))) := by
 refine spec_of Tryz.func23 rfl rfl rfl (fun B => ?_)
 refine cS (cr (sg rfl (ln (qc (cS (cS (cr (mv rfl (le9 rfl ‹_› (fun l1 => ?_))))))))))
 refine mv rfl (le9 rfl ‹_› (fun l2 => ?_))
 refine kl_neq rfl rfl ?_
 refine ln (qc (ci9 rfl (fun c3 => ?_) (fun c3 => ?_)))
 ·refine cS (cr (sg rfl (ln (qc (rt (kq_retP rfl rfl (congrArg Value.bool ?_)))))))
  exact eq_len ‹_›
 ·refine sk (qc (cS (cS (cr (sg rfl (ln (qc (bl (kc_loop0 (A := Nat) (fun zz => (zz ≤ a.length) ∧ (a.take zz = b.take zz)) (fun zz => a.length - zz) (fun zz => [(5, .int .i64 (zz : Int))]) (0) (pk [0, 1] rfl) (pc 5 rfl pn) ⟨Nat.zero_le _, by simp⟩ ?_)))))))))
  rintro k hJ6
  obtain ⟨hk4, hi5⟩ : (k ≤ a.length) ∧ (a.take k = b.take k) := hJ6
  change KC _ _ (_) _ _ ([(5, .int .i64 (k : Int))] ++ _)
  refine cS (cS (cr (mv rfl (mv rfl (le9 rfl ‹_› (fun l7 => ?_))))))
  refine ls9 rfl rfl ?_
  refine ln (qc (ci9 rfl (fun c8 => ?_) (fun c8 => ?_)))
  ·refine sk (qc (cS (bl (cS (kc_draw 9 [true, true, true, true, true, true, true, true, true] (by kernel_rfl) (by kernel_rfl) ?_)))))
   refine mv rfl (mv rfl (kl_inI rfl rfl ‹_› (by omega) (fun p9 a10 => ?_)))
   refine ld rfl ‹_› (mv rfl (mv rfl (kl_inI rfl rfl ‹_› (by omega) (fun p11 a12 => ?_))))
   refine ld rfl ‹_› (kl_neq rfl rfl ?_)
   refine ln (qc (ci9 rfl (fun c13 => ?_) (fun c13 => ?_)))
   ·refine cS (cr (sg rfl (ln (qc (rt (kq_retP rfl rfl (congrArg Value.bool ?_)))))))
    exact eq_at (k := k) 0 (by simpa using by assumption)
   ·refine sk (qc (cr (mv rfl (ic9 rfl rfl (by omega) ?_))))
    refine sg rfl (ln (kq_round0 ((k + 1)) (by omega) (⟨by omega, eq_step 0 (by omega) (by omega) hi5 (by first | exact Decidable.not_not.1 ‹_› | (simpa using by assumption))⟩) (pc 5 rfl pn) (pk [0, 1] rfl) slr9))
  ·refine ex9 (qc (cS (cr (sg rfl (ln (qc (rt (kq_retP rfl rfl (congrArg Value.bool ?_)))))))))
   exact eq_end (k := k) (by omega) (by omega) ‹_›
theorem eqIntSS_ok {Ha : Hp} {va : Value} {Hb : Hp} {vb : Value} (a : List (List Int)) (b : List (List Int)) (ha : Rows Ha va a) (hb : Rows Hb vb b) : SpecP Tryz.prog 145 [va, vb] [Ha, Hb] (.bool (decide (a = b))) := by
 refine spec_of Tryz.func145 rfl rfl rfl (fun B => ?_)
 refine cS (cr (sg rfl (ln (qc (cS (cS (cr (mv rfl (le9 rfl ‹_› (fun l1 => ?_))))))))))
 refine mv rfl (le9 rfl ‹_› (fun l2 => ?_))
 refine kl_neq rfl rfl ?_
 refine ln (qc (ci9 rfl (fun c3 => ?_) (fun c3 => ?_)))
 ·refine cS (cr (sg rfl (ln (qc (rt (kq_retP rfl rfl (congrArg Value.bool ?_)))))))
  exact eq_len ‹_›
 ·refine sk (qc (cS (cS (cr (sg rfl (ln (qc (bl (kc_loop0 (A := Nat) (fun zz => (zz ≤ a.length) ∧ (a.take zz = b.take zz)) (fun zz => a.length - zz) (fun zz => [(5, .int .i64 (zz : Int))]) (0) (pk [0, 1] rfl) (pc 5 rfl pn) ⟨Nat.zero_le _, by simp⟩ ?_)))))))))
  rintro k hJ6
  obtain ⟨hk4, hi5⟩ : (k ≤ a.length) ∧ (a.take k = b.take k) := hJ6
  change KC _ _ (_) _ _ ([(5, .int .i64 (k : Int))] ++ _)
  refine cS (cS (cr (mv rfl (mv rfl (le9 rfl ‹_› (fun l7 => ?_))))))
  refine ls9 rfl rfl ?_
  refine ln (qc (ci9 rfl (fun c8 => ?_) (fun c8 => ?_)))
  ·refine sk (qc (cS (bl (cS (kc_draw 10 [true, true, true, true, true, true, true, true, false, true] (by kernel_rfl) (by kernel_rfl) ?_)))))
   refine mv rfl (mv rfl (kl_inS rfl rfl ‹_› (by omega) (fun p9 u11 h12 a10 => ?_)))
   refine ld rfl ‹_› (mv rfl (mv rfl (kl_inS rfl rfl ‹_› (by omega) (fun p13 u15 h16 a14 => ?_))))
   refine ld rfl ‹_› (cP rfl rfl (eqIntS_ok (a.getD k []) (b.getD k []) ‹_› ‹_›) ?_)
   refine nt9 rfl (ln (qc (cd9 rfl (fun c17 => ?_) (fun c17 => ?_))))
   ·have c17r := c17
    try simp only [smpE] at c17
    refine cS (cr (sg rfl (ln (qc (rt (kq_retP rfl rfl (congrArg Value.bool ?_)))))))
    exact eq_at (k := k) [] (by simpa using by assumption)
   ·have c17r := c17
    try simp only [smpE] at c17
    refine sk (qc (cr (mv rfl (ic9 rfl rfl (by omega) ?_))))
    refine sg rfl (ln (kq_round0 ((k + 1)) (by omega) (⟨by omega, eq_step [] (by omega) (by omega) hi5 (by first | exact Decidable.not_not.1 ‹_› | (simpa using by assumption))⟩) (pc 5 rfl pn) (pk [0, 1] rfl) slr9))
  ·refine ex9 (qc (cS (cr (sg rfl (ln (qc (rt (kq_retP rfl rfl (congrArg Value.bool ?_)))))))))
   exact eq_end (k := k) (by omega) (by omega) ‹_›
theorem eqConstraint_ok {Hav : Hp} {vav : Value} {Haa : Hp} {vaa : Value} {Har : Hp} {var : Value} {Hbv : Hp} {vbv : Value} {Hba : Hp} {vba : Value} {Hbr : Hp} {vbr : Value} (a : Con) (b : Con) (hav : Ints Hav vav a.vars) (haa : Ints Haa vaa a.args) (har : Rows Har var a.rows) (hbv : Ints Hbv vbv b.vars) (hba : Ints Hba vba b.args) (hbr : Rows Hbr vbr b.rows) : SpecP Tryz.prog 99 [.agg #[.int .i64 a.kind, vav, vaa, .int .i64 a.bound, var], .agg #[.int .i64 b.kind, vbv, vba, .int .i64 b.bound, vbr]] [Hav, Haa, Har, Hbv, Hba, Hbr] (.bool (decide (a = b))) := by
 refine spec_of Tryz.func99 rfl rfl rfl (fun B => ?_)
 refine cS (cr (kl_box rfl rfl (fun p1 H2 f3 a4 => ?_)))
 refine kl_box rfl rfl (fun p5 H6 f7 a8 => ?_)
 refine sg rfl (ln (qc (cS (cS (cr (fd9 rfl ‹_› (fun p9 a10 => ?_)))))))
 refine ld rfl ‹_› (fd9 rfl ‹_› (fun p11 a12 => ?_))
 refine ld rfl ‹_› (kl_neq rfl rfl ?_)
 refine ln (qc (ci9 rfl (fun c13 => ?_) (fun c13 => ?_)))
 ·refine cS (cr (sg rfl (ln (qc (rt (kq_retP rfl rfl (congrArg Value.bool ?_)))))))
  rw [eqCon_iff]; simp_all
 ·refine sk (qc (cS (cS (cr (fd9 rfl ‹_› (fun p14 a15 => ?_))))))
  refine ld rfl ‹_› (fd9 rfl ‹_› (fun p16 a17 => ?_))
  refine ld rfl ‹_› (cP rfl rfl (eqIntS_ok a.vars b.vars ‹_› ‹_›) ?_)
  refine nt9 rfl (ln (qc (cd9 rfl (fun c18 => ?_) (fun c18 => ?_))))
  ·have c18r := c18
   try simp only [smpE] at c18
   refine cS (cr (sg rfl (ln (qc (rt (kq_retP rfl rfl (congrArg Value.bool ?_)))))))
   rw [eqCon_iff]; simp_all
  ·have c18r := c18
   try simp only [smpE] at c18
   refine sk (qc (cS (cS (cr (fd9 rfl ‹_› (fun p19 a20 => ?_))))))
   refine ld rfl ‹_› (fd9 rfl ‹_› (fun p21 a22 => ?_))
   refine ld rfl ‹_› (cP rfl rfl (eqIntS_ok a.args b.args ‹_› ‹_›) ?_)
   refine nt9 rfl (ln (qc (cd9 rfl (fun c23 => ?_) (fun c23 => ?_))))
   ·have c23r := c23
    try simp only [smpE] at c23
    refine cS (cr (sg rfl (ln (qc (rt (kq_retP rfl rfl (congrArg Value.bool ?_)))))))
    rw [eqCon_iff]; simp_all
   ·have c23r := c23
    try simp only [smpE] at c23
    refine sk (qc (cS (cS (cr (fd9 rfl ‹_› (fun p24 a25 => ?_))))))
    refine ld rfl ‹_› (fd9 rfl ‹_› (fun p26 a27 => ?_))
    refine ld rfl ‹_› (kl_neq rfl rfl ?_)
    refine ln (qc (ci9 rfl (fun c28 => ?_) (fun c28 => ?_)))
    ·refine cS (cr (sg rfl (ln (qc (rt (kq_retP rfl rfl (congrArg Value.bool ?_)))))))
     rw [eqCon_iff]; simp_all
    ·refine sk (qc (cS (cS (cr (fd9 rfl ‹_› (fun p29 a30 => ?_))))))
     refine ld rfl ‹_› (fd9 rfl ‹_› (fun p31 a32 => ?_))
     refine ld rfl ‹_› (cP rfl rfl (eqIntSS_ok a.rows b.rows ‹_› ‹_›) ?_)
     refine nt9 rfl (ln (qc (cd9 rfl (fun c33 => ?_) (fun c33 => ?_))))
     ·have c33r := c33
      try simp only [smpE] at c33
      refine cS (cr (sg rfl (ln (qc (rt (kq_retP rfl rfl (congrArg Value.bool ?_)))))))
      rw [eqCon_iff]; simp_all
     ·have c33r := c33
      try simp only [smpE] at c33
      refine sk (qc (cS (cr (sg rfl (ln (qc (rt (kq_retP rfl rfl (congrArg Value.bool ?_)))))))))
      rw [eqCon_iff]; simp_all
theorem eqConstraintS_ok {Ha : Hp} {va : Value} {Hb : Hp} {vb : Value} (a : List Con) (b : List Con) (ha : Cons Ha va a) (hb : Cons Hb vb b) : SpecP Tryz.prog 60 [va, vb] [Ha, Hb] (.bool (decide (a = b))) := by
 refine spec_of Tryz.func60 rfl rfl rfl (fun B => ?_)
 refine cS (cr (sg rfl (ln (qc (cS (cS (cr (mv rfl (le9 rfl ‹_› (fun l1 => ?_))))))))))
 refine mv rfl (le9 rfl ‹_› (fun l2 => ?_))
 refine kl_neq rfl rfl ?_
 refine ln (qc (ci9 rfl (fun c3 => ?_) (fun c3 => ?_)))
 ·refine cS (cr (sg rfl (ln (qc (rt (kq_retP rfl rfl (congrArg Value.bool ?_)))))))
  exact eq_len ‹_›
 ·refine sk (qc (cS (cS (cr (sg rfl (ln (qc (bl (kc_loop0 (A := Nat) (fun zz => (zz ≤ a.length) ∧ (a.take zz = b.take zz)) (fun zz => a.length - zz) (fun zz => [(5, .int .i64 (zz : Int))]) (0) (pk [0, 1] rfl) (pc 5 rfl pn) ⟨Nat.zero_le _, by simp⟩ ?_)))))))))
  rintro k hJ6
  obtain ⟨hk4, hi5⟩ : (k ≤ a.length) ∧ (a.take k = b.take k) := hJ6
  change KC _ _ (_) _ _ ([(5, .int .i64 (k : Int))] ++ _)
  refine cS (cS (cr (mv rfl (mv rfl (le9 rfl ‹_› (fun l7 => ?_))))))
  refine ls9 rfl rfl ?_
  refine ln (qc (ci9 rfl (fun c8 => ?_) (fun c8 => ?_)))
  ·refine sk (qc (cS (bl (cS (kc_draw 10 [true, true, true, true, true, true, true, true, false, true] (by kernel_rfl) (by kernel_rfl) ?_)))))
   refine mv rfl (mv rfl (kl_inC rfl rfl ‹_› (by omega) (fun p9 u11 u12 u13 h14 h15 h16 a10 => ?_)))
   refine kl_ldS rfl ‹_› rfl ?_
   refine mv rfl (mv rfl (kl_inC rfl rfl ‹_› (by omega) (fun p17 u19 u20 u21 h22 h23 h24 a18 => ?_)))
   refine kl_ldS rfl ‹_› rfl ?_
   refine cP rfl rfl (eqConstraint_ok (a.getD k nilCon) (b.getD k nilCon) ‹_› ‹_› ‹_› ‹_› ‹_› ‹_›) ?_
   refine nt9 rfl (ln (qc (cd9 rfl (fun c25 => ?_) (fun c25 => ?_))))
   ·have c25r := c25
    try simp only [smpE] at c25
    refine cS (cr (sg rfl (ln (qc (rt (kq_retP rfl rfl (congrArg Value.bool ?_)))))))
    exact eq_at (k := k) nilCon (by simpa using by assumption)
   ·have c25r := c25
    try simp only [smpE] at c25
    refine sk (qc (cr (mv rfl (ic9 rfl rfl (by omega) ?_))))
    refine sg rfl (ln (kq_round0 ((k + 1)) (by omega) (⟨by omega, eq_step nilCon (by omega) (by omega) hi5 (by first | exact Decidable.not_not.1 ‹_› | (simpa using by assumption))⟩) (pc 5 rfl pn) (pk [0, 1] rfl) slr9))
  ·refine ex9 (qc (cS (cr (sg rfl (ln (qc (rt (kq_retP rfl rfl (congrArg Value.bool ?_)))))))))
   exact eq_end (k := k) (by omega) (by omega) ‹_›
theorem eqModel_ok {Had : Hp} {vad : Value} {Hac : Hp} {vac : Value} {Hbd : Hp} {vbd : Value} {Hbc : Hp} {vbc : Value} (a : Mod) (b : Mod) (had : Ints Had vad a.doms) (hac : Cons Hac vac a.cons) (hbd : Ints Hbd vbd b.doms) (hbc : Cons Hbc vbc b.cons) : SpecP Tryz.prog 22 [.agg #[vad, vac], .agg #[vbd, vbc]] [Had, Hac, Hbd, Hbc] (.bool (decide (a = b))) := by
 refine spec_of Tryz.func22 rfl rfl rfl (fun B => ?_)
 refine cS (cr (kl_box rfl rfl (fun p1 H2 f3 a4 => ?_)))
 refine kl_box rfl rfl (fun p5 H6 f7 a8 => ?_)
 refine sg rfl (ln (qc (cS (cS (cr (fd9 rfl ‹_› (fun p9 a10 => ?_)))))))
 refine ld rfl ‹_› (fd9 rfl ‹_› (fun p11 a12 => ?_))
 refine ld rfl ‹_› (cP rfl rfl (eqIntS_ok a.doms b.doms ‹_› ‹_›) ?_)
 refine nt9 rfl (ln (qc (cd9 rfl (fun c13 => ?_) (fun c13 => ?_))))
 ·have c13r := c13
  try simp only [smpE] at c13
  refine cS (cr (sg rfl (ln (qc (rt (kq_retP rfl rfl (congrArg Value.bool ?_)))))))
  rw [eqMod_iff]; simp_all
 ·have c13r := c13
  try simp only [smpE] at c13
  refine sk (qc (cS (cS (cr (fd9 rfl ‹_› (fun p14 a15 => ?_))))))
  refine ld rfl ‹_› (fd9 rfl ‹_› (fun p16 a17 => ?_))
  refine ld rfl ‹_› (cP rfl rfl (eqConstraintS_ok a.cons b.cons ‹_› ‹_›) ?_)
  refine nt9 rfl (ln (qc (cd9 rfl (fun c18 => ?_) (fun c18 => ?_))))
  ·have c18r := c18
   try simp only [smpE] at c18
   refine cS (cr (sg rfl (ln (qc (rt (kq_retP rfl rfl (congrArg Value.bool ?_)))))))
   rw [eqMod_iff]; simp_all
  ·have c18r := c18
   try simp only [smpE] at c18
   refine sk (qc (cS (cr (sg rfl (ln (qc (rt (kq_retP rfl rfl (congrArg Value.bool ?_)))))))))
   rw [eqMod_iff]; simp_all
end
section
theorem eqLit_ok (a : Lit) (b : Lit) : SpecP Tryz.prog 98 [.agg #[.int .i64 a.var, .int .i64 a.val, .bool a.neg], .agg #[.int .i64 b.var, .int .i64 b.val, .bool b.neg]] [] (.bool (decide (a = b))) := by
 refine spec_of Tryz.func98 rfl rfl rfl (fun B => ?_)
 refine cS (cr (kl_box rfl rfl (fun p1 H2 f3 a4 => ?_)))
 refine kl_box rfl rfl (fun p5 H6 f7 a8 => ?_)
 refine sg rfl (ln (qc (cS (cS (cr (fd9 rfl ‹_› (fun p9 a10 => ?_)))))))
 refine ld rfl ‹_› (fd9 rfl ‹_› (fun p11 a12 => ?_))
 refine ld rfl ‹_› (kl_neq rfl rfl ?_)
 refine ln (qc (ci9 rfl (fun c13 => ?_) (fun c13 => ?_)))
 ·refine cS (cr (sg rfl (ln (qc (rt (kq_retP rfl rfl (congrArg Value.bool ?_)))))))
  rw [eqLit_iff]; simp_all
 ·refine sk (qc (cS (cS (cr (fd9 rfl ‹_› (fun p14 a15 => ?_))))))
  refine ld rfl ‹_› (fd9 rfl ‹_› (fun p16 a17 => ?_))
  refine ld rfl ‹_› (kl_neq rfl rfl ?_)
  refine ln (qc (ci9 rfl (fun c18 => ?_) (fun c18 => ?_)))
  ·refine cS (cr (sg rfl (ln (qc (rt (kq_retP rfl rfl (congrArg Value.bool ?_)))))))
   rw [eqLit_iff]; simp_all
  ·refine sk (qc (cS (cS (cr (fd9 rfl ‹_› (fun p19 a20 => ?_))))))
   refine ld rfl ‹_› (fd9 rfl ‹_› (fun p21 a22 => ?_))
   refine ld rfl ‹_› (kl_bne rfl rfl ?_)
   refine ln (qc (cd9 rfl (fun c23 => ?_) (fun c23 => ?_)))
   ·have c23r := c23
    try simp only [smpE] at c23
    refine cS (cr (sg rfl (ln (qc (rt (kq_retP rfl rfl (congrArg Value.bool ?_)))))))
    rw [eqLit_iff]; simp_all
   ·have c23r := c23
    try simp only [smpE] at c23
    refine sk (qc (cS (cr (sg rfl (ln (qc (rt (kq_retP rfl rfl (congrArg Value.bool ?_)))))))))
    rw [eqLit_iff]; simp_all
theorem eqLiteralS_ok {Ha : Hp} {va : Value} {Hb : Hp} {vb : Value} (a : List Lit) (b : List Lit) (ha : Lits Ha va a) (hb : Lits Hb vb b) : SpecP Tryz.prog 59 [va, vb] [Ha, Hb] (.bool (decide (a = b))) := by
 refine spec_of Tryz.func59 rfl rfl rfl (fun B => ?_)
 refine cS (cr (sg rfl (ln (qc (cS (cS (cr (mv rfl (le9 rfl ‹_› (fun l1 => ?_))))))))))
 refine mv rfl (le9 rfl ‹_› (fun l2 => ?_))
 refine kl_neq rfl rfl ?_
 refine ln (qc (ci9 rfl (fun c3 => ?_) (fun c3 => ?_)))
 ·refine cS (cr (sg rfl (ln (qc (rt (kq_retP rfl rfl (congrArg Value.bool ?_)))))))
  exact eq_len ‹_›
 ·refine sk (qc (cS (cS (cr (sg rfl (ln (qc (bl (kc_loop0 (A := Nat) (fun zz => (zz ≤ a.length) ∧ (a.take zz = b.take zz)) (fun zz => a.length - zz) (fun zz => [(5, .int .i64 (zz : Int))]) (0) (pk [0, 1] rfl) (pc 5 rfl pn) ⟨Nat.zero_le _, by simp⟩ ?_)))))))))
  rintro k hJ6
  obtain ⟨hk4, hi5⟩ : (k ≤ a.length) ∧ (a.take k = b.take k) := hJ6
  change KC _ _ (_) _ _ ([(5, .int .i64 (k : Int))] ++ _)
  refine cS (cS (cr (mv rfl (mv rfl (le9 rfl ‹_› (fun l7 => ?_))))))
  refine ls9 rfl rfl ?_
  refine ln (qc (ci9 rfl (fun c8 => ?_) (fun c8 => ?_)))
  ·refine sk (qc (cS (bl (cS (kc_draw 10 [true, true, true, true, true, true, true, true, false, true] (by kernel_rfl) (by kernel_rfl) ?_)))))
   refine mv rfl (mv rfl (kl_inQ rfl rfl ‹_› (by omega) (fun p9 a10 => ?_)))
   refine kl_ldS rfl ‹_› rfl ?_
   refine mv rfl (mv rfl (kl_inQ rfl rfl ‹_› (by omega) (fun p11 a12 => ?_)))
   refine kl_ldS rfl ‹_› rfl ?_
   refine cP rfl rfl (eqLit_ok (a.getD k nilLit) (b.getD k nilLit)) ?_
   refine nt9 rfl (ln (qc (cd9 rfl (fun c13 => ?_) (fun c13 => ?_))))
   ·have c13r := c13
    try simp only [smpE] at c13
    refine cS (cr (sg rfl (ln (qc (rt (kq_retP rfl rfl (congrArg Value.bool ?_)))))))
    exact eq_at (k := k) nilLit (by simpa using by assumption)
   ·have c13r := c13
    try simp only [smpE] at c13
    refine sk (qc (cr (mv rfl (ic9 rfl rfl (by omega) ?_))))
    refine sg rfl (ln (kq_round0 ((k + 1)) (by omega) (⟨by omega, eq_step nilLit (by omega) (by omega) hi5 (by first | exact Decidable.not_not.1 ‹_› | (simpa using by assumption))⟩) (pc 5 rfl pn) (pk [0, 1] rfl) slr9))
  ·refine ex9 (qc (cS (cr (sg rfl (ln (qc (rt (kq_retP rfl rfl (congrArg Value.bool ?_)))))))))
   exact eq_end (k := k) (by omega) (by omega) ‹_›
end
section
theorem eqLiteralSS_ok {Ha : Hp} {va : Value} {Hb : Hp} {vb : Value} (a : List (List Lit)) (b : List (List Lit)) (ha : LRows Ha va a) (hb : LRows Hb vb b) : SpecP Tryz.prog 21 [va, vb] [Ha, Hb] (.bool (decide (a = b))) := by
 refine spec_of Tryz.func21 rfl rfl rfl (fun B => ?_)
 refine cS (cr (sg rfl (ln (qc (cS (cS (cr (mv rfl (le9 rfl ‹_› (fun l1 => ?_))))))))))
 refine mv rfl (le9 rfl ‹_› (fun l2 => ?_))
 refine kl_neq rfl rfl ?_
 refine ln (qc (ci9 rfl (fun c3 => ?_) (fun c3 => ?_)))
 ·refine cS (cr (sg rfl (ln (qc (rt (kq_retP rfl rfl (congrArg Value.bool ?_)))))))
  exact eq_len ‹_›
 ·refine sk (qc (cS (cS (cr (sg rfl (ln (qc (bl (kc_loop0 (A := Nat) (fun zz => (zz ≤ a.length) ∧ (a.take zz = b.take zz)) (fun zz => a.length - zz) (fun zz => [(5, .int .i64 (zz : Int))]) (0) (pk [0, 1] rfl) (pc 5 rfl pn) ⟨Nat.zero_le _, by simp⟩ ?_)))))))))
  rintro k hJ6
  obtain ⟨hk4, hi5⟩ : (k ≤ a.length) ∧ (a.take k = b.take k) := hJ6
  change KC _ _ (_) _ _ ([(5, .int .i64 (k : Int))] ++ _)
  refine cS (cS (cr (mv rfl (mv rfl (le9 rfl ‹_› (fun l7 => ?_))))))
  refine ls9 rfl rfl ?_
  refine ln (qc (ci9 rfl (fun c8 => ?_) (fun c8 => ?_)))
  ·refine sk (qc (cS (bl (cS (kc_draw 10 [true, true, true, true, true, true, true, true, false, true] (by kernel_rfl) (by kernel_rfl) ?_)))))
   refine mv rfl (mv rfl (kl_inS rfl rfl ‹_› (by omega) (fun p9 u11 h12 a10 => ?_)))
   refine ld rfl ‹_› (mv rfl (mv rfl (kl_inS rfl rfl ‹_› (by omega) (fun p13 u15 h16 a14 => ?_))))
   refine ld rfl ‹_› (cP rfl rfl (eqLiteralS_ok (a.getD k []) (b.getD k []) ‹_› ‹_›) ?_)
   refine nt9 rfl (ln (qc (cd9 rfl (fun c17 => ?_) (fun c17 => ?_))))
   ·have c17r := c17
    try simp only [smpE] at c17
    refine cS (cr (sg rfl (ln (qc (rt (kq_retP rfl rfl (congrArg Value.bool ?_)))))))
    exact eq_at (k := k) ([] : List Lit) (by simpa using by assumption)
   ·have c17r := c17
    try simp only [smpE] at c17
    refine sk (qc (cr (mv rfl (ic9 rfl rfl (by omega) ?_))))
    refine sg rfl (ln (kq_round0 ((k + 1)) (by omega) (⟨by omega, eq_step ([] : List Lit) (by omega) (by omega) hi5 (by first | exact Decidable.not_not.1 ‹_› | (simpa using by assumption))⟩) (pc 5 rfl pn) (pk [0, 1] rfl) slr9))
  ·refine ex9 (qc (cS (cr (sg rfl (ln (qc (rt (kq_retP rfl rfl (congrArg Value.bool ?_)))))))))
   exact eq_end (k := k) (by omega) (by omega) ‹_›
theorem lawPb_ok {Hmd : Hp} {vmd : Value} {Hmc : Hp} {vmc : Value} {Hobj : Hp} {vobj : Value} (m : Mod) (obj : List Int) (b : Int) (hmd : Ints Hmd vmd m.doms) (hmc : Cons Hmc vmc m.cons) (hobj : Ints Hobj vobj obj) : SpecP Tryz.prog 6 [.agg #[vmd, vmc], vobj, .int .i64 b] [Hmd, Hmc, Hobj] (.bool true) := by
 have hln := pb_lsum m obj b
 refine spec_of Tryz.func6 rfl rfl rfl (fun B => ?_)
 refine cS (cr (kl_box rfl rfl (fun p1 H2 f3 a4 => ?_)))
 refine sg rfl (ln (qc (cS (cS (cr (mv rfl (le9 rfl ‹_› (fun l5 => ?_))))))))
 refine kl_gtr rfl rfl ?_
 refine ln (qc (ci9 rfl (fun c6 => ?_) (fun c6 => ?_)))
 ·refine cS (cr (sg rfl (ln (qc (rt (kq_retP rfl rfl (congrArg Value.bool ?_)))))))
  first | rfl | (exfalso; simp only [heldLS_1] at *; first | omega | (simp at *; done) | (simp at *; omega) | simp_all)
 ·refine sk (qc (cS (cr (sg rfl (ln (qc (cS (cr (kl_ldS rfl ‹_› rfl ?_)))))))))
  refine mv rfl (cP rfl rfl (szModel_ok m (1048576 : Int) (by omega) ‹_› ‹_›) ?_)
  refine sg rfl (ln (qc (cS (cS (cr (mv rfl (ls9 rfl rfl ?_)))))))
  refine ln (qc (ci9 rfl (fun c7 => ?_) (fun c7 => ?_)))
  ·refine cS (cr (sg rfl (ln (qc (rt (kq_retP rfl rfl (congrArg Value.bool ?_)))))))
   first | rfl | (exfalso; simp only [heldLS_1] at *; first | omega | (simp at *; done) | (simp at *; omega) | simp_all)
  ·have hs := small_of (szB_ok c7)
   have hmk := hs.marks
   refine sk (qc (cS (cr (kl_ldS rfl ‹_› rfl ?_))))
   refine kl_call rfl rfl (toModel_ok m hs ‹_› ‹_›) (fun v8 H9 f10 h11 => ?_)
   obtain ⟨u12, u13, rfl, h14, h15⟩ := h11
   refine mv rfl (kl_call rfl rfl (toIntS_ok obj (by omega) ‹_›) (fun v16 H17 f18 h19 => ?_))
   refine mv rfl (kl_call rfl rfl (pbS_ok m obj b ‹_› ‹_› ‹_›) (fun v20 H21 f22 h23 => ?_))
   obtain ⟨z25, z26, u24, rfl, h27, h28⟩ := h23
   obtain ⟨rfl, rfl⟩ := pairOf h28
   refine mv rfl (kl_xt rfl rfl (kl_xt rfl rfl (sg rfl (sg rfl (ln (qc (cS (cr (kl_ldS rfl ‹_› rfl ?_)))))))))
   refine kl_callL rfl rfl (toModel_ok m hs ‹_› ‹_›) (fun v29 H30 f31 h32 => ?_)
   obtain ⟨u33, u34, rfl, h35, h36⟩ := h32
   refine kl_alloc (cs := [.slice none 0 0, .slice none 0 0]) rfl (fun b37 hb38 => ?_)
   refine kl_stW (us := [u33, u34]) rfl rfl rfl rfl (oc (Sl.oneCell ‹_›) (oc (Sl.oneCell ‹_›) oc_nil)) rfl ?_
   refine ln (qc (cS (cr (mv rfl (kl_callL rfl rfl (toIntS_ok obj (by omega) ‹_›) (fun v39 H40 f41 h42 => ?_))))))
   refine sg rfl (ln (qc (cS (cr (kl_ldW rfl rfl (mv rfl (mv rfl (kl_callL rfl rfl (pbI_ok m obj b ‹_› ‹_› ‹_›) (fun v43 H44 f45 h46 => ?_)))))))))
   obtain ⟨u47, rfl, H49, K50, us51, rfl, a52, m53⟩ := h46
   refine kl_split H49 K50 a52 ?_
   have f55 := fr_l f45 m53.hlq
   have f56 := fr_r f45 m53.lq
   refine mv rfl (kl_xt rfl rfl (kl_xt rfl rfl (sg rfl (sg rfl (ln (qc (cS (cS (cr (mv rfl ?_))))))))))
   refine mv rfl (kl_apart H49 K50 (fun c57 => ?_))
   have h58 := LMatR.rows ⟨H49, K50, us51, rfl, c57, m53⟩
   refine cP rfl rfl (eqLiteralSS_ok ((pbR m obj b).1) ((pbR m obj b).1) ‹_› ‹_›) ?_
   refine nt9 rfl (mv rfl (jn 4 55 (.bool (!(decide (((pbR m obj b).1) = ((pbR m obj b).1))) || ((pbR m obj b).2 != (pbR m obj b).2))) (pk [1, 2, 3, 6, 8, 9, 10, 11, 12, 13, 51] rfl) (fun J60 => ?_) ?_))
   ·rcases Bool.eq_false_or_eq_true (!(decide (((pbR m obj b).1) = ((pbR m obj b).1)))) with g59 | g59
    ·refine gF rfl rfl g59 (gF rfl rfl g59 (gF rfl rfl g59 (oT ((pbR m obj b).2 != (pbR m obj b).2) rfl rfl g59 ?_)))
     exact J60 _ (pk [55, 1, 2, 3, 6, 8, 9, 10, 11, 12, 13, 51] rfl)
    ·have g59p := g59
     try simp only [smpD] at g59p
     refine gT rfl rfl g59 (mv rfl (gT rfl rfl g59 (mv rfl (gT rfl rfl g59 (kl_bne rfl rfl ?_)))))
     refine oF rfl rfl g59 ?_
     exact J60 _ (pk [55, 1, 2, 3, 6, 8, 9, 10, 11, 12, 13, 51] rfl)
   refine ln (qc (cd9 rfl (fun c61 => ?_) (fun c61 => ?_)))
   ·have c61r := c61
    try simp only [smpE] at c61
    refine cS (cr (sg rfl (ln (qc (rt (kq_retP rfl rfl (congrArg Value.bool ?_)))))))
    first | rfl | (exfalso; simp only [heldLS_1] at *; first | omega | (simp at *; done) | (simp at *; omega) | simp_all)
   ·have c61r := c61
    try simp only [smpE] at c61
    refine sk (qc (cS (cS (kc_draw 5 [true, true, false, false, true] (by kernel_rfl) (by kernel_rfl) ?_))))
    refine kl_ldW rfl rfl (kl_ldS rfl ‹_› rfl ?_)
    refine kl_call rfl rfl (toModel_ok m hs ‹_› ‹_›) (fun v62 H63 f64 h65 => ?_)
    obtain ⟨u66, u67, rfl, h68, h69⟩ := h65
    refine cP rfl rfl (eqModel_ok m m ‹_› ‹_› ‹_› ‹_›) ?_
    refine nt9 rfl (ln (qc (cd9 rfl (fun c70 => ?_) (fun c70 => ?_))))
    ·have c70r := c70
     try simp only [smpE] at c70
     refine cS (cr (sg rfl (ln (qc (rt (kq_retP rfl rfl (congrArg Value.bool ?_)))))))
     first | rfl | (exfalso; simp only [heldLS_1] at *; first | omega | (simp at *; done) | (simp at *; omega) | simp_all)
    ·have c70r := c70
     try simp only [smpE] at c70
     refine sk (qc (cS (cS (cr (mv rfl (mv rfl (kl_call rfl rfl (toIntS_ok obj (by omega) ‹_›) (fun v71 H72 f73 h74 => ?_))))))))
     refine cP rfl rfl (eqIntS_ok obj obj ‹_› ‹_›) ?_
     refine nt9 rfl (ln (qc (cd9 rfl (fun c75 => ?_) (fun c75 => ?_))))
     ·have c75r := c75
      try simp only [smpE] at c75
      refine cS (cr (sg rfl (ln (qc (rt (kq_retP rfl rfl (congrArg Value.bool ?_)))))))
      first | rfl | (exfalso; simp only [heldLS_1] at *; first | omega | (simp at *; done) | (simp at *; omega) | simp_all)
     ·have c75r := c75
      try simp only [smpE] at c75
      refine sk (qc (cS (cr (sg rfl (ln (qc (cS (cr (kl_ldW rfl rfl (mv rfl (kl_callM rfl rfl (markModel_ok m (1 : Int) (by omega) ‹_› ‹_› f31.2) (fun v76 H77 K78 f79 h80 d81 => ?_))))))))))))
      obtain ⟨m82, rfl⟩ := h80
      have f84 := Mk.fr m82 f31
      refine sg rfl (ln (qc (cS (cr (mv rfl (mv rfl (kl_callM rfl rfl (markIntS_ok obj ((1 : Int) + m.doms.length + (msum m.cons : Nat)) (by omega) ‹_› f41.2) (fun v85 H86 K87 f88 h89 d90 => ?_))))))))
      obtain ⟨m91, rfl, e92⟩ := h89
      have f93 := Mk.fr m91 f41
      refine sg rfl (ln (qc (cS (cS (cr (mv rfl (ls9 rfl rfl ?_)))))))
      refine mv rfl (jn 5 79 (.bool (decide ((((1 : Int) + m.doms.length + (msum m.cons : Nat)) + obj.length) < (0 : Int)) || !(decide (((pbR m obj b).1) = ((pbR m obj b).1))))) (pk [1, 2, 3, 6, 8, 9, 12, 13, 74] rfl) (fun J97 => ?_) ?_)
      ·rcases Bool.eq_false_or_eq_true (decide ((((1 : Int) + m.doms.length + (msum m.cons : Nat)) + obj.length) < (0 : Int))) with g94 | g94
       ·refine gF rfl rfl g94 (gF rfl rfl g94 (gF rfl rfl g94 (gF rfl rfl g94 (oT (!(decide (((pbR m obj b).1) = ((pbR m obj b).1)))) rfl rfl g94 ?_))))
        exact J97 _ (pk [79, 1, 2, 3, 6, 8, 9, 12, 13, 74] rfl)
       ·have g94p := of_decide_eq_false g94
        refine gT rfl rfl g94 (mv rfl (gT rfl rfl g94 (mv rfl (gT rfl rfl g94 (kl_apart H49 K50 (fun c95 => ?_))))))
        have h96 := LMatR.rows ⟨H49, K50, us51, rfl, c95, m53⟩
        refine cP rfl rfl (eqLiteralSS_ok ((pbR m obj b).1) ((pbR m obj b).1) ‹_› ‹_›) ?_
        refine gT rfl rfl g94 (nt9 rfl (oF rfl rfl g94 ?_))
        exact J97 _ (pk [79, 1, 2, 3, 6, 8, 9, 12, 13, 74] rfl)
      refine mv rfl (jn 4 84 (.bool ((decide ((((1 : Int) + m.doms.length + (msum m.cons : Nat)) + obj.length) < (0 : Int)) || !(decide (((pbR m obj b).1) = ((pbR m obj b).1)))) || ((pbR m obj b).2 != (pbR m obj b).2))) (pk [1, 2, 3, 6, 8, 9, 12, 80] rfl) (fun J99 => ?_) ?_)
      ·rcases Bool.eq_false_or_eq_true (decide ((((1 : Int) + m.doms.length + (msum m.cons : Nat)) + obj.length) < (0 : Int)) || !(decide (((pbR m obj b).1) = ((pbR m obj b).1)))) with g98 | g98
       ·refine gF rfl rfl g98 (gF rfl rfl g98 (gF rfl rfl g98 (oT ((pbR m obj b).2 != (pbR m obj b).2) rfl rfl g98 ?_)))
        exact J99 _ (pk [84, 1, 2, 3, 6, 8, 9, 12, 80] rfl)
       ·have g98p := g98
        try simp only [smpD] at g98p
        refine gT rfl rfl g98 (mv rfl (gT rfl rfl g98 (mv rfl (gT rfl rfl g98 (kl_bne rfl rfl ?_)))))
        refine oF rfl rfl g98 ?_
        exact J99 _ (pk [84, 1, 2, 3, 6, 8, 9, 12, 80] rfl)
      refine ln (qc (cd9 rfl (fun c100 => ?_) (fun c100 => ?_)))
      ·have c100r := c100
       try simp only [smpE] at c100
       refine cS (cr (sg rfl (ln (qc (rt (kq_retP rfl rfl (congrArg Value.bool ?_)))))))
       first | rfl | (exfalso; simp only [heldLS_1] at *; first | omega | (simp at *; done) | (simp at *; omega) | simp_all)
      ·have c100r := c100
       try simp only [smpE] at c100
       refine sk (qc (cS (cr (sg rfl (ln (qc (cS (cr (mv rfl (mv rfl (cT rfl rfl (markLS_ok ((pbR m obj b).1) (1 : Int) (by omega) m53) (fun v101 L1 Ln K102 h103 g104 g105 => ?_))))))))))))
       obtain ⟨K106, rfl, rfl, rfl, m107⟩ := h103
       refine nm ?_
       refine sg rfl (ln (qc (cS (cr (sg rfl (ln (qc (cS (cr (mv rfl (mv rfl (kl_apart H49 K106 (fun c109 => ?_)))))))))))))
       have h110 := LMatR.rows ⟨H49, K106, us51, rfl, c109, m107⟩
       refine cP rfl rfl (heldLS_ok (markLS (1 : Int) ((pbR m obj b).1)) (1 : Int) (by rw [lsum_mk]; omega) ‹_›) ?_
       refine sg rfl (ln (qc (cS (cS (cr (mv rfl (ls9 rfl rfl ?_)))))))
       refine ln (qc (ci9 rfl (fun c111 => ?_) (fun c111 => ?_)))
       ·refine cS (cr (sg rfl (ln (qc (rt (kq_retP rfl rfl (congrArg Value.bool ?_)))))))
        first | rfl | (exfalso; simp only [heldLS_1] at *; first | omega | (simp at *; done) | (simp at *; omega) | simp_all)
       ·refine sk (qc (cS (cS (cr (mv rfl (mv rfl (kl_neq rfl rfl ?_)))))))
        refine ln (qc (ci9 rfl (fun c112 => ?_) (fun c112 => ?_)))
        ·refine cS (cr (sg rfl (ln (qc (rt (kq_retP rfl rfl (congrArg Value.bool ?_)))))))
         first | rfl | (exfalso; simp only [heldLS_1] at *; first | omega | (simp at *; done) | (simp at *; omega) | simp_all)
        ·refine sk (qc (cS (cr (kl_ldS rfl ‹_› rfl ?_))))
         refine kl_call rfl rfl (toModel_ok m hs ‹_› ‹_›) (fun v113 H114 f115 h116 => ?_)
         obtain ⟨u117, u118, rfl, h119, h120⟩ := h116
         refine mv rfl (kl_call rfl rfl (toIntS_ok obj (by omega) ‹_›) (fun v121 H122 f123 h124 => ?_))
         refine mv rfl (kl_call rfl rfl ((pbI_ok m obj b ‹_› ‹_› ‹_›).mono (fun _ _ h => lmR_rows h)) (fun v125 H126 f127 h128 => ?_))
         obtain ⟨u129, rfl, h130⟩ := h128
         refine mv rfl (kl_xt rfl rfl (kl_xt rfl rfl (sg rfl (sg rfl (ln (qc (cS (cS (cr (mv rfl ?_))))))))))
         refine mv rfl (cP rfl rfl (eqLiteralSS_ok ((pbR m obj b).1) ((pbR m obj b).1) ‹_› ‹_›) ?_)
         refine nt9 rfl (mv rfl (jn 4 113 (.bool (!(decide (((pbR m obj b).1) = ((pbR m obj b).1))) || ((pbR m obj b).2 != (pbR m obj b).2))) (pk [6, 12, 15, 16, 109] rfl) (fun J132 => ?_) ?_))
         ·rcases Bool.eq_false_or_eq_true (!(decide (((pbR m obj b).1) = ((pbR m obj b).1)))) with g131 | g131
          ·refine gF rfl rfl g131 (gF rfl rfl g131 (gF rfl rfl g131 (oT ((pbR m obj b).2 != (pbR m obj b).2) rfl rfl g131 ?_)))
           exact J132 _ (pk [113, 6, 12, 15, 16, 109] rfl)
          ·have g131p := g131
           try simp only [smpD] at g131p
           refine gT rfl rfl g131 (mv rfl (gT rfl rfl g131 (mv rfl (gT rfl rfl g131 (kl_bne rfl rfl ?_)))))
           refine oF rfl rfl g131 ?_
           exact J132 _ (pk [113, 6, 12, 15, 16, 109] rfl)
         refine ln (qc (cd9 rfl (fun c133 => ?_) (fun c133 => ?_)))
         ·have c133r := c133
          try simp only [smpE] at c133
          refine cS (cr (sg rfl (ln (qc (rt (kq_retP rfl rfl (congrArg Value.bool ?_)))))))
          first | rfl | (exfalso; simp only [heldLS_1] at *; first | omega | (simp at *; done) | (simp at *; omega) | simp_all)
         ·have c133r := c133
          try simp only [smpE] at c133
          refine sk (qc (cS (cr (sg rfl (ln (qc (cS (cr (mv rfl (mv rfl (kl_apart H49 K106 (fun c134 => ?_))))))))))))
          have h135 := LMatR.rows ⟨H49, K106, us51, rfl, c134, m107⟩
          refine cP rfl rfl (heldLS_ok (markLS (1 : Int) ((pbR m obj b).1)) (1 : Int) (by rw [lsum_mk]; omega) ‹_›) ?_
          refine sg rfl (ln (qc (cS (cS (cr (mv rfl (ls9 rfl rfl ?_)))))))
          refine ln (qc (ci9 rfl (fun c136 => ?_) (fun c136 => ?_)))
          ·refine cS (cr (sg rfl (ln (qc (rt (kq_retP rfl rfl (congrArg Value.bool ?_)))))))
           first | rfl | (exfalso; simp only [heldLS_1] at *; first | omega | (simp at *; done) | (simp at *; omega) | simp_all)
          ·refine sk (qc (cS (cS (cr (mv rfl (mv rfl (kl_neq rfl rfl ?_)))))))
           refine ln (qc (ci9 rfl (fun c137 => ?_) (fun c137 => ?_)))
           ·refine cS (cr (sg rfl (ln (qc (rt (kq_retP rfl rfl (congrArg Value.bool ?_)))))))
            first | rfl | (exfalso; simp only [heldLS_1] at *; first | omega | (simp at *; done) | (simp at *; omega) | simp_all)
           ·refine sk (qc (cS (cr (sg rfl (ln (qc (rt (kq_retP rfl rfl (congrArg Value.bool ?_)))))))))
            first | rfl | (exfalso; simp only [heldLS_1] at *; first | omega | (simp at *; done) | (simp at *; omega) | simp_all)
end
section
open Go Go.ChangeShapes Go.WideShapes Go.ChangeAt Go.RowKit
/-- All of a world's memory. -/
def allHp (w : World) : Hp := fun b => w.heap[b]?
theorem agree_all (w : World) : Agree (allHp w) w := fun _ _ h => h
section
variable {H : Type} {enc : TypeId × Value → H} {P : Program} {w : World} {base : Nat} {spare : Nat → Bool} {held : Bool}
theorem cellAt {b o : Nat} {v : Value} (h : w.cell? ⟨b, o, none⟩ = some v) : ∃ cs T fz, w.heap[b]? = some (.cells cs T fz) ∧ cs[o]? = some v := by
  unfold World.cell? at h
  cases hh : w.heap[b]? with
  | none => simp [hh] at h
  | some ob =>
    cases ob with
    | cells cs T fz => simp [hh] at h; exact ⟨cs, T, fz, rfl, h⟩
    | map es c => simp [hh] at h
    | _ => simp [hh] at h
theorem trod_int {t : TypeId} {k : IntKind} {n : Nat} {vs : List Value} {y : DataW H × List MemPlace} (ht : P.underlying t = some (.int k)) (h : DataW.trod enc P w base spare held n t vs = some y) : ∃ a : Int, vs = [.int k a] := by
  cases n with
  | zero => simp [DataW.trod] at h
  | succ n =>
    unfold DataW.trod at h
    rw [ht] at h
    split at h <;> simp_all
/-- The reading fits into what an address can reach. -/
def Wt (P : Program) (t : TypeId) (d : DataW H) : Prop := (d.weights P t).all (· ≤ reachBytes) = true
theorem wtAll {e : TypeId} : ∀ {ds : List (DataW H)}, (DataW.weightsAll P e ds).all (· ≤ reachBytes) = true → ∀ d ∈ ds, Wt P e d
  | [], _, _, h => by cases h
  | d :: ds, hw, x, h => by
    simp only [DataW.weightsAll, List.all_append, Bool.and_eq_true] at hw
    cases h with
    | head => exact hw.1
    | tail _ h => exact wtAll hw.2 x h
theorem wt_slice {t e : TypeId} {ds sp : List (DataW H)} (ht : P.underlying t = some (.slice e)) (h : Wt P t (.slice ds sp)) : (ds.length + sp.length) * P.bytesOf e ≤ reachBytes ∧ ∀ d ∈ ds, Wt P e d := by
  unfold Wt DataW.weights at h
  rw [ht] at h
  simp only [List.all_cons, List.all_append, Bool.and_eq_true, decide_eq_true_eq] at h
  exact ⟨h.1, wtAll h.2.1⟩
theorem wtEach : ∀ {ts : List TypeId} {ds : List (DataW H)}, (DataW.weightsEach P ts ds).all (· ≤ reachBytes) = true → ∀ (i : Nat) (t : TypeId) (d : DataW H), ts[i]? = some t → ds[i]? = some d → Wt P t d
  | [], _, _, i, _, _, h, _ => by cases i <;> simp at h
  | _ :: _, [], _, i, _, _, _, h => by cases i <;> simp at h
  | t :: ts, d :: ds, hw, i, t', d', h1, h2 => by
    simp only [DataW.weightsEach, List.all_append, Bool.and_eq_true] at hw
    cases i with
    | zero => simp at h1 h2; subst h1 h2; exact hw.1
    | succ i => exact wtEach hw.2 i t' d' (by simpa using h1) (by simpa using h2)
theorem wt_struct {t : TypeId} {fs : Array Field} {ps : List (DataW H)} (ht : P.underlying t = some (.struct fs)) (h : Wt P t (.agg ps)) (i : Nat) (tt : TypeId) (d : DataW H) (h1 : (fs.toList.map (·.type))[i]? = some tt) (h2 : ps[i]? = some d) : Wt P tt d := by
  unfold Wt DataW.weights at h
  rw [ht] at h
  exact wtEach h i tt d h1 h2
theorem trod_sl {A : Type} {R : List Value → A → Prop} {t e : TypeId} {k fuel : Nat} {cs : List Value} {x : DataW H × List MemPlace} (ht : P.underlying t = some (.slice e)) (hk : P.cellsOf e = k) (k0 : 0 < k) (hb : 0 < P.bytesOf e)
    (hel : ∀ n vs y, vs.length = k → DataW.trod enc P w base spare held n e vs = some y → Wt P e y.1 → ∃ a : A, R vs a) (h : DataW.trod enc P w base spare held fuel t cs = some x) (hw : Wt P t x.1) :
    ∃ v xs, cs = [v] ∧ Sl (allHp w) k R v xs := by
  rcases DataW.trod_slice ht h with ⟨h0, _⟩ | ⟨a, len, cap, elems, rest, n, _, rfl, rfl, _, hl, hm, hlen, hE, _⟩
  · exact ⟨_, [], h0, Sl.nil⟩
  · rw [hk] at hE
    obtain ⟨hw1, hw2⟩ := wt_slice ht hw
    have hreach : len ≤ 140737488355328 := by
      simp only [List.length_map, hlen, reachBytes] at hw1
      have h1 : len * 1 ≤ (len + rest.length) * P.bytesOf e := Nat.mul_le_mul (by omega) hb
      omega
    obtain ⟨b, o, sp⟩ := a
    have raw : ∀ i, i < len → ∃ vs : List Value, (∃ x : A, R vs x) ∧ vs.length = k ∧ ∀ j, j < k → w.cell? (((⟨b, o, sp⟩ : Addr).add (i * k)).add j) = vs[j]? := fun i hi => by
      have h1 := hE i hi
      rw [List.getElem?_eq_getElem (by omega), Option.bind_eq_some_iff] at h1
      obtain ⟨vs, h2, h3⟩ := h1
      obtain ⟨_, h4, h5⟩ := World.cells?_some h2
      exact ⟨vs, hel _ _ _ h4 h3 (hw2 _ (List.mem_map.2 ⟨_, List.getElem_mem _, rfl⟩)), h4, h5⟩
    by_cases h0 : len = 0
    · subst h0
      exact ⟨_, [], rfl, some ⟨b, o, sp⟩, cap, rfl, Nat.zero_le _, Nat.zero_le _, fun i h => absurd h (Nat.not_lt_zero i)⟩
    · have hsp : sp = none := by
        obtain ⟨vs, _, h4, h5⟩ := raw 0 (by omega)
        have h6 := h5 0 k0
        rw [List.getElem?_eq_getElem (by omega)] at h6
        have e : (((⟨b, o, sp⟩ : Addr).add (0 * k)).add 0) = ⟨b, o, sp⟩ := by simp [Addr.add]
        rw [e] at h6
        unfold World.cell? at h6
        cases sp with
        | none => rfl
        | some q =>
          simp only [Option.isSome_some, if_true] at h6
          split at h6 <;> cases h6
      subst hsp
      have each : ∀ i, ∃ x : A, i < len → ∃ vs : List Value, vs.length = k ∧ R vs x ∧ At (allHp w) (.pointer (some ⟨b, o + i * k, none⟩)) vs := fun i => by
        by_cases hi : i < len
        · obtain ⟨vs, ⟨x, hx⟩, h4, h5⟩ := raw i hi
          have h6 := h5 0 k0
          simp only [Addr.add_lit] at h5 h6
          rw [List.getElem?_eq_getElem (by omega)] at h6
          obtain ⟨cs, T, fz, h7, h8⟩ := cellAt h6
          refine ⟨x, fun _ => ⟨vs, h4, hx, b, o + i * k, cs, T, fz, rfl, h7, fun j u hj => ?_⟩⟩
          have hjk : j < k := by rw [← h4]; exact (List.getElem?_eq_some_iff.1 hj).1
          have h9 := h5 j hjk
          rw [hj] at h9
          obtain ⟨cs', T', fz', h10, h11⟩ := cellAt h9
          rw [h7] at h10
          obtain ⟨rfl, _, _⟩ := by simpa using h10
          exact h11
        · obtain ⟨vs, ⟨x, hx⟩, _⟩ := raw 0 (by omega)
          exact ⟨x, fun h => absurd h hi⟩
      refine ⟨_, (List.range len).map (fun i => Classical.choose (each i)), rfl, some ⟨b, o, none⟩, cap, by simp, by simpa using hl, by simpa using hreach, fun i hi => ⟨b, o, rfl, ?_⟩⟩
      have hi' : i < len := by simpa using hi
      obtain ⟨vs, h1, h2, h3⟩ := Classical.choose_spec (each i) hi'
      exact ⟨vs, h1, by simpa using h2, h3⟩
theorem trod_ints {t e : TypeId} {fuel : Nat} {cs : List Value} {x : DataW H × List MemPlace} (ht : P.underlying t = some (.slice e)) (he : P.underlying e = some (.int .i64)) (hk : P.cellsOf e = 1) (hb : 0 < P.bytesOf e)
    (h : DataW.trod enc P w base spare held fuel t cs = some x) (hw : Wt P t x.1) : ∃ v xs, cs = [v] ∧ Ints (allHp w) v xs :=
  trod_sl ht hk (by decide) hb (fun _ _ _ _ h _ => trod_int he h) h hw
theorem trod_rows {t e e2 : TypeId} {fuel : Nat} {cs : List Value} {x : DataW H × List MemPlace} (ht : P.underlying t = some (.slice e)) (hk : P.cellsOf e = 1) (he : P.underlying e = some (.slice e2)) (he2 : P.underlying e2 = some (.int .i64)) (hk2 : P.cellsOf e2 = 1) (hb : 0 < P.bytesOf e) (hb2 : 0 < P.bytesOf e2)
    (h : DataW.trod enc P w base spare held fuel t cs = some x) (hw : Wt P t x.1) : ∃ v xs, cs = [v] ∧ Rows (allHp w) v xs :=
  trod_sl ht hk (by decide) hb (fun _ _ _ _ h hw => by obtain ⟨v, xs, h1, h2⟩ := trod_ints he he2 hk2 hb2 h hw; exact ⟨xs, v, h1, h2⟩) h hw
/-- What the kit of a statement says of the program's types: a constraint (five fields), a model. -/
structure ConT (P : Program) (t ti tis tr : TypeId) : Prop where
  con : ∃ fs : Array Field, P.underlying t = some (.struct fs) ∧ (fs.toList.map fun f => (f.type, f.offset)) = [(ti, 0), (tis, 1), (tis, 2), (ti, 3), (tr, 4)]
  n : P.cellsOf t = 5
  i : P.underlying ti = some (.int .i64)
  ni : P.cellsOf ti = 1
  is : P.underlying tis = some (.slice ti)
  nis : P.cellsOf tis = 1
  r : P.underlying tr = some (.slice tis)
  nr : P.cellsOf tr = 1
  b : 0 < P.bytesOf t
  bi : 0 < P.bytesOf ti
  bis : 0 < P.bytesOf tis
theorem trod_con {t ti tis tr : TypeId} (T : ConT P t ti tis tr) {n : Nat} {vs : List Value} {y : DataW H × List MemPlace} (hl : vs.length = 5) (h : DataW.trod enc P w base spare held n t vs = some y) (hw : Wt P t y.1) : ∃ c : Con, ConV (allHp w) vs c := by
  obtain ⟨fs, h1, h2⟩ := T.con
  obtain ⟨xs, m, _, rfl, _, hx, hf⟩ := DataW.trod_struct h1 h
  have hfs : fs.toList.length = 5 := by have := congrArg List.length h2; simpa using this
  have get : ∀ i (tt : TypeId) (oo : Nat), ([(ti, 0), (tis, 1), (tis, 2), (ti, 3), (tr, 4)] : List (TypeId × Nat))[i]? = some (tt, oo) → P.cellsOf tt = 1 → ∃ y : DataW H × List MemPlace, DataW.trod enc P w base spare held m tt ((vs.drop oo).take 1) = some y ∧ Wt P tt y.1 := fun i tt oo hi hc => by
    rw [← h2, List.getElem?_map, Option.map_eq_some_iff] at hi
    obtain ⟨f, hf1, hf2⟩ := hi
    simp only [Prod.mk.injEq] at hf2
    obtain ⟨rfl, rfl⟩ := hf2
    have hf1' : fs[i]? = some f := by rw [← Array.getElem?_toList]; exact hf1
    have h4 := hf i f hf1'
    have hi5 : i < xs.length := by rw [hx]; exact (Array.getElem?_eq_some_iff.1 hf1').1
    rw [List.getElem?_eq_getElem hi5, hc] at h4
    exact ⟨_, h4, wt_struct h1 hw i _ _ (by rw [List.getElem?_map, hf1]; rfl) (by rw [List.getElem?_map, List.getElem?_eq_getElem hi5]; rfl)⟩
  match vs, hl with
  | [a, b, c, d, e], _ =>
    obtain ⟨y0, g0, k0⟩ := get 0 ti 0 rfl T.ni
    obtain ⟨y1, g1, k1⟩ := get 1 tis 1 rfl T.nis
    obtain ⟨y2, g2, k2⟩ := get 2 tis 2 rfl T.nis
    obtain ⟨y3, g3, k3⟩ := get 3 ti 3 rfl T.ni
    obtain ⟨y4, g4, k4⟩ := get 4 tr 4 rfl T.nr
    simp only [List.drop_zero, List.drop_succ_cons, List.take_succ_cons, List.take_zero] at g0 g1 g2 g3 g4
    obtain ⟨k, hk⟩ := trod_int T.i g0
    obtain ⟨v1, x1, e1, s1⟩ := trod_ints T.is T.i T.ni T.bi g1 k1
    obtain ⟨v2, x2, e2, s2⟩ := trod_ints T.is T.i T.ni T.bi g2 k2
    obtain ⟨q, hq⟩ := trod_int T.i g3
    obtain ⟨v4, x4, e4, s4⟩ := trod_rows T.r T.nis T.is T.i T.ni T.bis T.bi g4 k4
    simp only [List.cons.injEq, and_true] at hk hq e1 e2 e4
    subst hk hq e1 e2 e4
    exact ⟨⟨k, x1, x2, q, x4⟩, _, _, _, rfl, s1, s2, s4⟩
theorem trod_cons {t e ti tis tr : TypeId} (T : ConT P e ti tis tr) {fuel : Nat} {cs : List Value} {x : DataW H × List MemPlace} (ht : P.underlying t = some (.slice e))
    (h : DataW.trod enc P w base spare held fuel t cs = some x) (hw : Wt P t x.1) : ∃ v xs, cs = [v] ∧ Cons (allHp w) v xs :=
  trod_sl ht T.n (by decide) T.b (fun _ _ _ hl h hw => trod_con T hl h hw) h hw
structure ModT (P : Program) (t tcs tc ti tis tr : TypeId) : Prop where
  mod : ∃ fs : Array Field, P.underlying t = some (.struct fs) ∧ (fs.toList.map fun f => (f.type, f.offset)) = [(tis, 0), (tcs, 1)]
  n : P.cellsOf t = 2
  cs : P.underlying tcs = some (.slice tc)
  ncs : P.cellsOf tcs = 1
  c : ConT P tc ti tis tr
theorem trod_mod {t tcs tc ti tis tr : TypeId} (T : ModT P t tcs tc ti tis tr) {n : Nat} {vs : List Value} {y : DataW H × List MemPlace} (hl : vs.length = 2) (h : DataW.trod enc P w base spare held n t vs = some y) (hw : Wt P t y.1) :
    ∃ (m : Mod) (a b : Value), vs = [a, b] ∧ Ints (allHp w) a m.doms ∧ Cons (allHp w) b m.cons := by
  obtain ⟨fs, h1, h2⟩ := T.mod
  obtain ⟨xs, m, _, rfl, _, hx, hf⟩ := DataW.trod_struct h1 h
  have get : ∀ i (tt : TypeId) (oo : Nat), ([(tis, 0), (tcs, 1)] : List (TypeId × Nat))[i]? = some (tt, oo) → P.cellsOf tt = 1 → ∃ y : DataW H × List MemPlace, DataW.trod enc P w base spare held m tt ((vs.drop oo).take 1) = some y ∧ Wt P tt y.1 := fun i tt oo hi hc => by
    rw [← h2, List.getElem?_map, Option.map_eq_some_iff] at hi
    obtain ⟨f, hf1, hf2⟩ := hi
    simp only [Prod.mk.injEq] at hf2
    obtain ⟨rfl, rfl⟩ := hf2
    have hf1' : fs[i]? = some f := by rw [← Array.getElem?_toList]; exact hf1
    have h4 := hf i f hf1'
    have hi5 : i < xs.length := by rw [hx]; exact (Array.getElem?_eq_some_iff.1 hf1').1
    rw [List.getElem?_eq_getElem hi5, hc] at h4
    exact ⟨_, h4, wt_struct h1 hw i _ _ (by rw [List.getElem?_map, hf1]; rfl) (by rw [List.getElem?_map, List.getElem?_eq_getElem hi5]; rfl)⟩
  match vs, hl with
  | [a, b], _ =>
    obtain ⟨y0, g0, k0⟩ := get 0 tis 0 rfl T.c.nis
    obtain ⟨y1, g1, k1⟩ := get 1 tcs 1 rfl T.ncs
    simp only [List.drop_zero, List.drop_succ_cons, List.take_succ_cons, List.take_zero] at g0 g1
    obtain ⟨v0, x0, e0, s0⟩ := trod_ints T.c.is T.c.i T.c.ni T.c.bi g0 k0
    obtain ⟨v1, x1, e1, s1⟩ := trod_cons T.c T.cs g1 k1
    simp only [List.cons.injEq, and_true] at e0 e1
    subst e0 e1
    exact ⟨⟨x0, x1⟩, _, _, rfl, s0, s1⟩
theorem open_mod {t tcs tc ti tis tr : TypeId} (T : ModT P t tcs tc ti tis tr) {r : Reach} {b0 : Nat} {v : Value} {d : DataW H} {ps : List MemPlace} (hval : Value.okWide P w r b0 t v) (h : DataW.Trod enc P w base spare held t v d ps) (hw : Wt P t d) :
    ∃ (m : Mod) (a b : Value), v = .agg #[a, b] ∧ Ints (allHp w) a m.doms ∧ Cons (allHp w) b m.cons := by
  obtain ⟨fs, h1, h2⟩ := T.mod
  obtain ⟨cs, rfl, hn⟩ := okWide_struct h1 hval
  obtain ⟨n, h⟩ := h
  obtain ⟨m, a, b, e, h3, h4⟩ := trod_mod T (by rw [← T.n, ← hn]; rfl) h hw
  refine ⟨m, a, b, ?_, h3, h4⟩
  have : cs.toList = [a, b] := e
  rw [← Array.toArray_toList (xs := cs), this]
theorem open_intsA {t e : TypeId} {r : Reach} {b0 : Nat} {v : Value} {d : DataW H} {ps : List MemPlace} (ht : P.underlying t = some (.slice e)) (he : P.underlying e = some (.int .i64)) (hk : P.cellsOf e = 1) (hb : 0 < P.bytesOf e)
    (hval : Value.okWide P w r b0 t v) (h : DataW.Trod enc P w base spare held t v d ps) (hw : Wt P t d) : ∃ xs, Ints (allHp w) v xs := by
  obtain ⟨a, l, c, rfl⟩ := okWide_slice ht hval
  obtain ⟨n, h⟩ := h
  obtain ⟨v, xs, e, h1⟩ := trod_ints ht he hk hb h hw
  have : [Value.slice a l c] = [v] := e
  simp only [List.cons.injEq, and_true] at this
  exact ⟨xs, this ▸ h1⟩
theorem sameAt_of {W W' : World} (h : Ext NoX W W') {p : MemPlace} (hp : p.block < W.heap.size) : W.sameAt W' p := by
  cases p with
  | cell b o => exact World.cell?_of_block (w := W) (h.same b hp (fun x => x))
  | map b => exact h.same b hp (fun x => x)
theorem kept_of {W W' : World} (h : Ext NoX W W') (may : MemPlace → Prop) : W.keptBut W' may := by
  refine ⟨h.io.1, h.io.2, fun i hi => ?_⟩
  rw [h.same i hi (fun x => x)]
  split <;> simp_all
theorem trodAll_stays (hl : laidOutB P = true) {W W' : World} {sp : Nat → Bool} : ∀ {ts : List TypeId} {vs : List Value} {ds : List (DataW H)} {ps : List MemPlace},
    (∀ t ∈ ts, P.readableRec t = true ∧ t < P.types.size) → DataW.TrodAll enc P W 0 (fun _ => true) true ts vs ds ps → (∀ p ∈ ps, W.sameAt W' p) → (∀ p ∈ ps, sp p.block = true) → DataW.TrodAll enc P W' 0 sp true ts vs ds ps
  | [], vs, ds, ps, _, h, _, _ => by obtain ⟨rfl, rfl, rfl⟩ := trodAll_nil h; exact rfl
  | t :: ts, vs, ds, ps, hr, h, h1, h2 => by
    obtain ⟨v, vs, d, ds, p, q, rfl, rfl, rfl, h3, h4⟩ := trodAll_cons h
    exact ⟨p, q, WideElems.Trod_stays hl (hr t (.head _)).1 (hr t (.head _)).2 h3 (fun x hx => h1 x (List.mem_append_left _ hx)) (fun x hx => h2 x (List.mem_append_left _ hx)),
      trodAll_stays hl (fun t ht => hr t (.tail _ ht)) h4 (fun x hx => h1 x (List.mem_append_right _ hx)) (fun x hx => h2 x (List.mem_append_right _ hx)), rfl⟩
/-- A law that returned true and wrote nothing of what was there. -/
theorem post_true {f : Func} {s : ChangeSpec} {W W' : World} {args : Array Value} {ds gs : List (DataW H)} {before : List MemPlace} {tb : TypeId} (hl : laidOutB P = true)
    (hr : ∀ t ∈ f.params.toList, P.readableRec t = true ∧ t < P.types.size) (hv : s.vars = []) (ht : f.resultTypes = #[tb]) (hb : P.underlying tb = some .bool)
    (hW : DataW.Whole enc P f.params.toList s.vars false W args.toList ds gs before) (he : Ext NoX W W')
    (hres : (s.fn H (ds ++ gs)).results = [.lit (.bool true)]) (hargs : (s.fn H (ds ++ gs)).args = ds) (hvs : (s.fn H (ds ++ gs)).vars = []) :
    s.post enc P f false true false false W args (.bool true) W' := by
  have hW' := hW
  obtain ⟨p, q, hA, hV, rfl, _, _⟩ := hW
  rw [hv] at hV
  obtain ⟨rfl, rfl⟩ := trodVars_none hV
  have hlt := fun x hx => hW'.lt x hx
  refine ⟨ds, [], p ++ [], [], p, [], hW', ?_, ?_, ?_, kept_of he _, fun h => by cases h⟩
  · rw [hres, ht]
    exact trodAll_mk1 (shut_bool hb true)
  · rw [hargs]
    exact trodAll_stays hl hr hA (fun x hx => sameAt_of he (hlt x (by simpa using hx))) (fun x hx => by simpa using hlt x (by simpa using hx))
  · rw [hvs, hv]; exact rfl
end
end
section
open Go Go.ChangeShapes Go.WideShapes Go.ChangeAt Go.RowKit
theorem Tryz.own : ownKnob Tryz.prog.godebug = none := by kernel_rfl
theorem Tryz.laidOut : laidOutB Tryz.prog = true := by kernel_rfl
theorem conT115 : ConT Tryz.prog 115 3 23 40 := ⟨⟨_, Tryz.underlying115, rfl⟩, by kernel_rfl, Tryz.underlying3, by kernel_rfl, Tryz.underlying23, by kernel_rfl, Tryz.underlying40, by kernel_rfl, of_decide_eq_true (by kernel_rfl), of_decide_eq_true (by kernel_rfl), of_decide_eq_true (by kernel_rfl)⟩
theorem modT45 : ModT Tryz.prog 45 43 115 3 23 40 := ⟨⟨_, Tryz.underlying45, rfl⟩, by kernel_rfl, Tryz.underlying43, by kernel_rfl, conT115⟩
end
end Go.Proofs.YtolndgeihijlbaaGreat
