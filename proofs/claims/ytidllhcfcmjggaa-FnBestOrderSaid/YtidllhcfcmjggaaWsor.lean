/- Walks of functions of the program: each returns what the plain function gives. Conditions: those that each statement names. -/
import Derived.Test.YtidllhcfcmjggaaWsel
import Derived.Test.YtidllhcfcmjggaaWssat
import Derived.Test.YtidllhcfcmjggaaOrd
import Derived.Test.YtidllhcfcmjggaaPureF
namespace Go.Proofs.Ytidllhcfcmjggaa
open Go
set_option linter.unusedSimpArgs false
set_option linter.unusedVariables false
abbrev extSt (k : Nat) : Prop := ∀ {b : Nat} {Hmd Hmc Ho Hb : Hp} {vmd vmc vo vb : Value} (m : Mod) (o bs : List Int) (wd : Int) (hM : MOk m) (ho : OrdOk m o) (hk : o.length + k = m.doms.length) (hbl : bs.length ≤ 4)
  (hmd : Ints Hmd vmd m.doms) (hmc : Cons Hmc vmc m.cons) (oo : OwnL 3 1 Ho noHp IntV vo o) (ob : OwnL 3 1 Hb noHp IntV vb bs),
  SpecT Try.prog 41 [.pointer (some ⟨b, 0, none⟩)] [sing b (.cells [vmd, vmc, vo, vb, .int .i64 wd].toArray 69 (0, 0)), Ho, Hb] [Hmd, Hmc] (fun vq L1 Ln _ => vq = .tuple #[] ∧ Ln = [] ∧ ∃ (vo2 vb2 : Value) (Ho2 Hb2 : Hp) (bs2 : List Int) (wd2 : Int), L1 = [sing b (.cells [vmd, vmc, vo2, vb2, .int .i64 wd2].toArray 69 (0, 0)), Ho2, Hb2] ∧ OwnL 3 1 Ho2 noHp IntV vo2 o ∧ OwnL 3 1 Hb2 noHp IntV vb2 bs2 ∧ bs2.length ≤ 4 ∧ (bs2, wd2) = (lvS m.doms.length k o).foldl (putO (widI m)) (bs, wd))
theorem ext_step (k : Nat) (ih : ∀ j, j < k → extSt j) : extSt k := by
 intro b Hmd Hmc Ho Hb vmd vmc vo vb m o bs wd hM ho hk hbl hmd hmc oo ob
 have hn := hM.n
 refine specT_of Try.func41 rfl rfl rfl (fun B => ?_)
 refine kc_seq ?_
 refine kc_seq ?_
 refine kc_draw 12 [true, true, true, true, true, true, true, true, true, true, true, true] (by kernel_rfl) (by kernel_rfl) ?_
 refine kl_mv rfl ?_
 refine kl_nilchk rfl ?_
 refine kl_fdV rfl ?_
 refine kl_ldB rfl rfl ?_
 refine kl_lenL rfl oo (fun l1 => ?_)
 refine kl_mv rfl ?_
 refine kl_nilchk rfl ?_
 refine kl_fdV rfl ?_
 refine kl_fdV rfl ?_
 refine kl_ldB rfl rfl ?_
 refine kl_len rfl (by assumption) (fun l2 => ?_)
 refine kl_eql rfl rfl ?_
 refine kl_nil (kq_code ?_)
 refine kc_if rfl (fun c3 => ?_) (fun c3 => ?_)
 ·skip
  have hk0 : k = 0 := by omega
  subst hk0
  refine kc_seq ?_
  refine kc_draw 10 [true, true, true, true, true, true, true, true, false, true] (by kernel_rfl) (by kernel_rfl) ?_
  refine kl_mv rfl ?_
  refine kl_nilchk rfl ?_
  refine kl_fdV rfl ?_
  refine kl_ldSL rfl (At.take 2 (at_box (T := 69) (cs := [vmd, vmc, vo, vb, .int .i64 wd]) (off := 0) (fz := (0, 0)))) rfl ?_
  refine kl_mv rfl ?_
  refine kl_nilchk rfl ?_
  refine kl_fdV rfl ?_
  refine kl_ldB rfl rfl ?_
  refine kl_callP rfl rfl (swidth_ok m o hM ho (by omega) (by assumption) (by assumption) (OwnL.ints oo)) ?_
  refine kl_as rfl ?_
  refine kl_nil (kq_code ?_)
  refine kc_seq ?_
  refine kc_seq (kc_region ?_)
  refine kl_mv rfl ?_
  refine kl_nilchk rfl ?_
  refine kl_fdV rfl ?_
  refine kl_ldB rfl rfl ?_
  refine kl_lenL rfl ob (fun l4 => ?_)
  refine kl_eql rfl rfl ?_
  refine kl_mv rfl ?_
  refine kl_join 7 39 (.bool (decide ((bs.length : Int) = (0 : Int)) || decide ((widI m o) < wd))) (pc 0 rfl (pc 2 rfl (pc 32 rfl pn))) (fun J6 => ?_) ?_
  ·rcases Bool.eq_false_or_eq_true (decide ((bs.length : Int) = (0 : Int))) with g5 | g5
   ·skip
    refine kl_gF rfl rfl g5 ?_
    refine kl_gF rfl rfl g5 ?_
    refine kl_gF rfl rfl g5 ?_
    refine kl_gF rfl rfl g5 ?_
    refine kl_gF rfl rfl g5 ?_
    refine kl_gF rfl rfl g5 ?_
    refine kl_orT (decide ((widI m o) < wd)) rfl rfl g5 ?_
    exact J6 _ (pc 39 rfl (pc 0 rfl (pc 2 rfl (pc 32 rfl pn))))
   ·skip
    have g5p := of_decide_eq_false g5
    refine kl_gT rfl rfl g5 ?_
    refine kl_mv rfl ?_
    refine kl_gT rfl rfl g5 ?_
    refine kl_mv rfl ?_
    refine kl_gT rfl rfl g5 ?_
    refine kl_nilchk rfl ?_
    refine kl_gT rfl rfl g5 ?_
    refine kl_fdV rfl ?_
    refine kl_gT rfl rfl g5 ?_
    refine kl_ldB rfl rfl ?_
    refine kl_gT rfl rfl g5 ?_
    refine kl_lss rfl rfl ?_
    refine kl_orF rfl rfl g5 ?_
    exact J6 _ (pc 39 rfl (pc 0 rfl (pc 2 rfl (pc 32 rfl pn))))
  refine kl_nil (kq_code ?_)
  refine kc_cond rfl (fun c7 => ?_) (fun c7 => ?_)
  ·skip
   have c7r := c7
   try simp only [Bool.not_eq_true', Bool.not_eq_false', Bool.not_true, Bool.not_false, decide_eq_true_eq, decide_eq_false_iff_not, Bool.and_eq_true, Bool.or_eq_false_iff] at c7
   refine kc_seq (kc_region ?_)
   refine kl_mv rfl ?_
   refine kl_mv rfl ?_
   refine kl_nilchk rfl ?_
   refine kl_fdV rfl ?_
   refine kl_ldB rfl rfl ?_
   refine kl_callL rfl rfl (copyInts_ok o (by first | omega | (simp; omega)) (OwnL.ints oo)) (fun v8 H9 f10 o11 => ?_)
   refine kl_nilchk rfl ?_
   refine kl_fdV rfl ?_
   refine kl_stB rfl rfl rfl (OwnL.oneCell (by assumption)) (OwnL.cells (by assumption)) ?_
   refine kl_chg [H9, sing b (.cells [vmd, vmc, vo, v8, .int .i64 wd].toArray 69 (0, 0)), Ho, Hb] rfl ?_
   refine kl_nil (kq_code ?_)
   refine kc_region ?_
   refine kl_mv rfl ?_
   refine kl_mv rfl ?_
   refine kl_nilchk rfl ?_
   refine kl_fdV rfl ?_
   refine kl_stB rfl rfl rfl rfl rfl ?_
   refine kl_chg [H9, sing b (.cells [vmd, vmc, vo, v8, .int .i64 (widI m o)].toArray 69 (0, 0)), Ho, Hb] rfl ?_
   refine kl_nil (kq_code ?_)
   refine kc_ret ?_
   exact kq_retT0 rfl [sing b (.cells [vmd, vmc, vo, v8, .int .i64 (widI m o)].toArray 69 (0, 0)), Ho, H9] [] noHp frn (fr_no _) ⟨rfl, rfl, vo, v8, Ho, H9, o, (widI m o), rfl, oo, o11, (by omega), (lf_T (by assumption))⟩
  ·skip
   have c7r := c7
   try simp only [Bool.not_eq_true', Bool.not_eq_false', Bool.not_true, Bool.not_false, decide_eq_true_eq, decide_eq_false_iff_not, Bool.and_eq_true, Bool.or_eq_false_iff] at c7
   refine kc_skipQ ?_
   refine kq_code ?_
   refine kc_ret ?_
   exact kq_retT0 rfl [sing b (.cells [vmd, vmc, vo, vb, .int .i64 wd].toArray 69 (0, 0)), Ho, Hb] [] noHp frn (fr_no _) ⟨rfl, rfl, vo, vb, Ho, Hb, bs, wd, rfl, oo, ob, hbl, (lf_F (by assumption))⟩
 ·skip
  obtain ⟨j, rfl⟩ : ∃ j, k = j + 1 := ⟨k - 1, by omega⟩
  refine kc_skipQ ?_
  refine kq_code ?_
  refine kc_seq (kc_region ?_)
  refine kl_as rfl ?_
  refine kl_nil (kq_code ?_)
  refine kc_block ?_
  refine kc_loopL (A := Nat × Int × Value × Hp × List Int × Value × Hp) (fun zz => (zz.1 ≤ m.doms.length) ∧ ((zz.2.2.2.2.1, zz.2.1) = (lvTo m.doms.length j o zz.1).foldl (putO (widI m)) (bs, wd) ∧ zz.2.2.2.2.1.length ≤ 4) ∧ OwnL 3 1 zz.2.2.2.1 noHp IntV zz.2.2.1 o ∧ OwnL 3 1 zz.2.2.2.2.2.2 noHp IntV zz.2.2.2.2.2.1 zz.2.2.2.2.1) (fun zz => m.doms.length - zz.1) (fun zz => [sing b (.cells [vmd, vmc, zz.2.2.1, zz.2.2.2.2.2.1, .int .i64 zz.2.1].toArray 69 (0, 0)), zz.2.2.2.1, zz.2.2.2.2.2.2]) (fun zz => [(3, .int .i64 (zz.1 : Int))]) (0, wd, vo, Ho, bs, vb, Hb) (pc 0 rfl pn) (pc 3 rfl pn) rfl ⟨Nat.zero_le _, ⟨rfl, hbl⟩, (OwnL.cast (by rfl : o = o) oo), ob⟩ ?_
  rintro ⟨v, wd1, v17, H14, b1, v21, H18⟩ hJ22
  obtain ⟨hk12, hi13, o15, o19⟩ : (v ≤ m.doms.length) ∧ ((b1, wd1) = (lvTo m.doms.length j o v).foldl (putO (widI m)) (bs, wd) ∧ b1.length ≤ 4) ∧ OwnL 3 1 H14 noHp IntV v17 o ∧ OwnL 3 1 H18 noHp IntV v21 b1 := hJ22
  change KC _ _ (_) [sing b (.cells [vmd, vmc, v17, v21, .int .i64 wd1].toArray 69 (0, 0)), H14, H18] _ ([(3, .int .i64 (v : Int))] ++ _)
  refine kc_seq ?_
  refine kc_seq (kc_region ?_)
  refine kl_mv rfl ?_
  refine kl_mv rfl ?_
  refine kl_nilchk rfl ?_
  refine kl_fdV rfl ?_
  refine kl_fdV rfl ?_
  refine kl_ldB rfl rfl ?_
  refine kl_len rfl (by assumption) (fun l23 => ?_)
  refine kl_lss rfl rfl ?_
  refine kl_nil (kq_code ?_)
  refine kc_if rfl (fun c24 => ?_) (fun c24 => ?_)
  ·skip
   refine kc_skipQ ?_
   refine kq_code ?_
   refine kc_seq ?_
   refine kc_block ?_
   refine kc_seq (kc_region ?_)
   refine kl_mv rfl ?_
   refine kl_nilchk rfl ?_
   refine kl_fdV rfl ?_
   refine kl_ldB rfl rfl ?_
   refine kl_mv rfl ?_
   refine kl_callP rfl rfl (containsInt_ok o (v : Int) (OwnL.ints o15)) ?_
   refine kl_not rfl ?_
   refine kl_nil (kq_code ?_)
   refine kc_cond rfl (fun c25 => ?_) (fun c25 => ?_)
   ·skip
    have c25r := c25
    try simp only [Bool.not_eq_true', Bool.not_eq_false', Bool.not_true, Bool.not_false, decide_eq_true_eq, decide_eq_false_iff_not, Bool.and_eq_true, Bool.or_eq_false_iff] at c25
    refine kc_seq (kc_region ?_)
    refine kl_mv rfl ?_
    refine kl_nilchk rfl ?_
    refine kl_fdV rfl ?_
    refine kl_ldB rfl rfl ?_
    refine kl_lenL rfl o15 (fun l26 => ?_)
    refine kl_as rfl ?_
    refine kl_nil (kq_code (kc_seq (kc_region ?_)))
    refine kl_mv rfl ?_
    refine kl_mv rfl ?_
    refine kl_nilchk rfl ?_
    refine kl_fdV rfl ?_
    refine kl_ldB rfl rfl ?_
    refine kl_callL rfl rfl (copyInts_ok o (by first | omega | (simp; omega)) (OwnL.ints o15)) (fun v27 H28 f29 o30 => ?_)
    refine kl_mv rfl ?_
    refine kl_bs rfl rfl rfl (by decide) (ca rfl ca_nil) (fun v31 H32 f33 r34 s35 => ?_)
    have h36 : Ints H32 v31 [(v : Int)] := litInts (xs := [(v : Int)]) (by simpa using s35)
    refine kl_apL (v : Int) rfl rfl o30 (by assumption) rfl (oc rfl oc_nil) (by omega) (by decide) (fun v37 H38 o39 f40 => ?_)
    have f41 := f40 B f29 (Nat.le_refl _)
    refine kl_nilchk rfl ?_
    refine kl_fdV rfl ?_
    refine kl_stB rfl rfl rfl (OwnL.oneCell (by assumption)) (OwnL.cells (by assumption)) ?_
    refine kl_chg [H38, sing b (.cells [vmd, vmc, v37, v21, .int .i64 wd1].toArray 69 (0, 0)), H14, H18] rfl ?_
    refine kl_nil (kq_code (kc_seq (kc_region ?_)))
    refine kl_mv rfl ?_
    refine kl_callT rfl rfl (ih j (by omega) m (o ++ [(v : Int)]) b1 wd1 hM (ho.snoc (by omega)) (by simp; omega) hi13.2 hmd hmc o39 o19) (fun v42 L1 Ln K43 h44 g45 g46 => ?_)
    obtain ⟨rfl, rfl, v47, v48, H49, H50, z51, n52, rfl, o53, o54, h55, h56⟩ := h44
    refine kl_norm ?_
    refine kl_nil (kq_code ?_)
    refine kc_region ?_
    refine kl_mv rfl ?_
    refine kl_mv rfl ?_
    refine kl_nilchk rfl ?_
    refine kl_fdV rfl ?_
    refine kl_ldB rfl rfl ?_
    refine kl_mv rfl ?_
    refine kl_slTakeL (i := o.length) rfl rfl o53 (by first | omega | simp) (fun u57 o58 => ?_)
    refine kl_callL rfl rfl (copyInts_ok ((o ++ [(v : Int)]).take o.length) (by first | omega | (simp; omega)) (OwnL.ints o58)) (fun v59 H60 f61 o62 => ?_)
    refine kl_nilchk rfl ?_
    refine kl_fdV rfl ?_
    refine kl_stB rfl rfl rfl (OwnL.oneCell (by assumption)) (OwnL.cells (by assumption)) ?_
    refine kl_chg [H60, sing b (.cells [vmd, vmc, v59, v48, .int .i64 n52].toArray 69 (0, 0)), H49, H50, H14] rfl ?_
    refine kl_nil (kq_code ?_)
    refine kc_region ?_
    refine kl_mv rfl ?_
    refine kl_inc rfl rfl (by omega) ?_
    refine kl_as rfl ?_
    refine kl_nil ?_
    refine kq_take [sing b (.cells [vmd, vmc, v59, v48, .int .i64 n52].toArray 69 (0, 0)), H60, H50] ?_
    refine kq_roundL ((v + 1), n52, v59, H60, z51, v48, H50) (by omega) (⟨by omega, (by first | exact ⟨lvTo_T (by assumption) hi13.1 (by assumption), by assumption⟩ | exact ⟨lvTo_F (by assumption) hi13.1, hi13.2⟩), (OwnL.cast (by first | rfl | simp : ((o ++ [(v : Int)]).take o.length) = o) o62), o54⟩) (pc 3 rfl pn) (pc 0 rfl pn) rfl (List.Sublist.refl _)
   ·skip
    have c25r := c25
    try simp only [Bool.not_eq_true', Bool.not_eq_false', Bool.not_true, Bool.not_false, decide_eq_true_eq, decide_eq_false_iff_not, Bool.and_eq_true, Bool.or_eq_false_iff] at c25
    refine kc_skipQ ?_
    refine kq_code ?_
    refine kc_region ?_
    refine kl_mv rfl ?_
    refine kl_inc rfl rfl (by omega) ?_
    refine kl_as rfl ?_
    refine kl_nil ?_
    refine kq_take [sing b (.cells [vmd, vmc, v17, v21, .int .i64 wd1].toArray 69 (0, 0)), H14, H18] ?_
    refine kq_roundL ((v + 1), wd1, v17, H14, b1, v21, H18) (by omega) (⟨by omega, (by first | exact ⟨lvTo_T (by assumption) hi13.1 (by assumption), by assumption⟩ | exact ⟨lvTo_F (by assumption) hi13.1, hi13.2⟩), (OwnL.cast (by first | rfl | simp : o = o) o15), o19⟩) (pc 3 rfl pn) (pc 0 rfl pn) rfl (List.Sublist.refl _)
  ·skip
   refine kc_exit ?_
   exact kq_retT0 rfl [sing b (.cells [vmd, vmc, v17, v21, .int .i64 wd1].toArray 69 (0, 0)), H14, H18] [] noHp frn (fr_no _) ⟨rfl, rfl, v17, v21, H14, H18, b1, wd1, rfl, o15, o19, hi13.2, (lv_end hi13.1 (by omega))⟩
theorem ext_ok (k : Nat) : extSt k := by
 induction k using Nat.strongRecOn with
 | _ k ih => exact @ext_step k ih
theorem sorder_ok {Hmd : Hp} {vmd : Value} {Hmc : Hp} {vmc : Value} (m : Mod) (hmd : Ints Hmd vmd m.doms) (hmc : Cons Hmc vmc m.cons) : Spec Try.prog 12 [.agg #[vmd, vmc]] [Hmd, Hmc] (fun Hq vq => ∃ uq0 : Value, vq = .tuple #[uq0, .int .i64 ((bestOrd m).2)] ∧ Ints Hq uq0 ((bestOrd m).1)) := by
 refine spec_of Try.func12 rfl rfl rfl (fun B => ?_)
 refine kc_seq (kc_region ?_)
 refine kl_box rfl rfl (fun p1 H2 f3 a4 => ?_)
 refine kl_as rfl ?_
 refine kl_as rfl ?_
 refine kl_nil (kq_code ?_)
 refine kc_seq ?_
 refine kc_seq (kc_region ?_)
 refine kl_ldS rfl (by assumption) rfl ?_
 refine kl_callP rfl rfl (svalidMod_ok m (by assumption) (by assumption)) ?_
 refine kl_not rfl ?_
 refine kl_nil (kq_code ?_)
 refine kc_cond rfl (fun c5 => ?_) (fun c5 => ?_)
 ·skip
  have c5r := c5
  try simp only [Bool.not_eq_true', Bool.not_eq_false', Bool.not_true, Bool.not_false, decide_eq_true_eq, decide_eq_false_iff_not, Bool.and_eq_true, Bool.or_eq_false_iff] at c5
  refine kc_seq (kc_region ?_)
  refine kl_as rfl ?_
  refine kl_as rfl ?_
  refine kl_nil (kq_code ?_)
  refine kc_ret ?_
  refine kq_ret2 rfl rfl rfl noHp (fr_no _) ⟨_, tup2 rfl (congrArg (Value.int .i64) (by rw [bo_no (by assumption)])), ?_⟩
  exact (by have e9 : (bestOrd m).1 = [] := (by rw [bo_no (by assumption)]); rw [e9]; exact Sl.nil)
 ·skip
  have c5r := c5
  try simp only [Bool.not_eq_true', Bool.not_eq_false', Bool.not_true, Bool.not_false, decide_eq_true_eq, decide_eq_false_iff_not, Bool.and_eq_true, Bool.or_eq_false_iff] at c5
  have hM : MOk m := ⟨by simpa using c5r⟩
  have hn := hM.n
  refine kc_skipQ ?_
  refine kq_code ?_
  refine kc_seq (kc_region ?_)
  refine kl_ldS rfl (by assumption) rfl ?_
  refine kl_bsI [] rfl rfl rfl (by decide) (fun v6 H7 f8 o9 => ?_)
  refine kl_bdA [(0, [vmd, vmc]), (1, [v6])] [vmd, vmc, v6, .slice none 0 0, .int .i64 (0 : Int)] rfl (cpa rfl (cpa (OwnL.cells (by assumption)) cpa_nil)) rfl ?_
  refine kl_boxL (cs := [vmd, vmc, v6, .slice none 0 0, .int .i64 (0 : Int)]) rfl rfl (fun b10 hb11 => ?_)
  refine kl_as rfl ?_
  refine kl_nil (kq_code (kc_seq (kc_region ?_)))
  refine kl_mv rfl ?_
  refine kl_no ?_
  refine kl_callT rfl rfl (ext_ok m.doms.length m [] [] 0 hM OrdOk.nil (by simp) (by simp) (by assumption) (by assumption) o9 OwnL.nil) (fun v13 L1 Ln K14 h15 g16 g17 => ?_)
  obtain ⟨rfl, rfl, v18, v19, H20, H21, z22, n23, rfl, o24, o25, h26, h27⟩ := h15
  refine kl_norm ?_
  refine kl_nil (kq_code ?_)
  refine kc_seq ?_
  refine kc_draw 10 [true, true, true, true, true, true, true, true, true, true] (by kernel_rfl) (by kernel_rfl) ?_
  refine kl_mv rfl ?_
  refine kl_nilchk rfl ?_
  refine kl_fdV rfl ?_
  refine kl_ldB rfl rfl ?_
  refine kl_mv rfl ?_
  refine kl_nilchk rfl ?_
  refine kl_fdV rfl ?_
  refine kl_ldB rfl rfl ?_
  refine kl_as rfl ?_
  refine kl_as rfl ?_
  refine kl_nil (kq_code ?_)
  refine kc_ret ?_
  refine kq_own H21 (OwnL.liq o25) (fun f28 => ?_)
  refine kq_ret2 rfl rfl rfl H21 f28 ⟨_, tup2 rfl (congrArg (Value.int .i64) (by (rw [bo_s hM, ← h27]))), ?_⟩
  exact (by have e9 : (bestOrd m).1 = z22 := (by (rw [bo_s hM, ← h27])); rw [e9]; exact OwnL.ints o25)
end Go.Proofs.Ytidllhcfcmjggaa
