/- Walks of functions of the program: each returns what the plain function gives. Conditions: those that each statement names. -/
import Derived.Test.YtojinjdobjodaaaGreatWtup
import Derived.Test.YtojinjdobjodaaaGreatSol
import Derived.Test.YtojinjdobjodaaaGreatPureS
import Derived.Test.YtojinjdobjodaaaGreatPureZ
import Derived.Test.YtojinjdobjodaaaGreatWvalid
import Derived.Test.YtojinjdobjodaaaGreatWsat
import Derived.Test.YtojinjdobjodaaaGreatPureA
import Derived.Test.YtojinjdobjodaaaGreatSrt
import Derived.Test.YtojinjdobjodaaaGreatCut
import Derived.Test.YtojinjdobjodaaaGreatOrd
import Derived.Test.YtojinjdobjodaaaGreatPureNg
namespace Go.Proofs.YtojinjdobjodaaaGreat
open Go
set_option linter.unusedSimpArgs false
set_option linter.unusedVariables false
theorem tuples_ok {Hds : Hp} {vds : Value} (ds : List Int) (hds : Ints Hds vds ds) : Spec Tryz.prog 96 [vds] [Hds] (fun Hq vq => ∃ p : Value, vq = .func (.func 139) #[] #[p] ∧ At Hq p [vds]) := by
 refine spec_of Tryz.func96 rfl rfl rfl (fun B => ?_)
 refine kc_seq (kc_region (kl_box rfl (Sl.cells (by assumption)) (fun p1 H2 f3 a4 => ?_)))
 refine kl_as rfl (kl_nil (kq_code (kc_seq (kc_region (kl_mkf rfl ?_)))))
 refine kl_as rfl (kl_nil (kq_code (kc_ret ?_)))
 exact kq_ret rfl rfl H2 f3 ⟨_, rfl, a4⟩
theorem filter_ok {Hcv : Hp} {vcv : Value} {Hca : Hp} {vca : Value} {Hcr : Hp} {vcr : Value} {Hds : Hp} {vds : Value} (c : Con) (ds : List Int) (hC : ConOk c ds.length) (hd : DomV ds) (hcv : Ints Hcv vcv c.vars) (hca : Ints Hca vca c.args) (hcr : Rows Hcr vcr c.rows) (hds : Ints Hds vds ds) : Spec Tryz.prog 180 [.agg #[.int .i64 c.kind, vcv, vca, .int .i64 c.bound, vcr], vds] [Hcv, Hca, Hcr, Hds] (fun Hq vq => Ints Hq vq (filtL c ds)) := by
 have h0 := hC.one
 refine spec_ofR Tryz.func180 rfl rfl rfl (fun B => ?_)
 refine kc_seq (kc_region (kl_box rfl rfl (fun p1 H2 f3 a4 => ?_)))
 refine kl_as rfl (kl_nil (kq_code (kc_seq (kc_region (kl_fd rfl (by assumption) (fun p5 a6 => ?_))))))
 refine kl_ld rfl (by assumption) (kl_len rfl (by assumption) (fun l7 => ?_))
 refine kl_mkL (R := IntV) (0 : Int) rfl rfl (by omega) (by decide) (by exact rfl) (fun v8 H9 f10 o11 => ?_)
 refine kl_alloc (cs := [.slice none 0 0]) rfl (fun b12 hb13 => ?_)
 refine kl_stB rfl rfl rfl (OwnL.oneCell (by assumption)) (OwnL.cells (by assumption)) ?_
 refine kl_nil (kq_code (kc_seq (kc_seq (kc_region (kl_ldS rfl (by assumption) rfl ?_)))))
 refine kl_mv rfl (kl_call rfl rfl (word_ok c ds hC.vars (by have := hC.one; omega) (by assumption) (by assumption) (by assumption) (by assumption)) (fun v14 H15 f16 h17 => ?_))
 refine kl_call rfl rfl (tuples_ok (wordL c.vars ds) (by assumption)) (fun v18 H19 f20 h21 => ?_)
 obtain ⟨p22, rfl, a23⟩ := h21
 refine kl_nil (kq_code (kc_block (kc_range (A := List Int × Value × Hp) (fun zz => [sing b12 (.cells [zz.2.1].toArray 23 (0, 0)), zz.2.2]) (fun n zz => (zz.1 = suppV c ((tupL (wordL c.vars ds)).take n)) ∧ OwnL 3 1 zz.2.2 noHp IntV zz.2.1 zz.1 ∧ Fr B zz.2.2) (fun _ _ => False) ((List.replicate c.vars.length (0 : Int)), v8, H9) rfl (tuples_it (wordL c.vars ds) (word_dom hC hd) (by have := hC.one; simp [wordL]; omega) a23 (by assumption)) (pc 1 rfl (pc 2 rfl (pc 4 rfl (pc 5 rfl pn)))) rfl rfl ⟨(suppV_0 c).symm, o11, f10⟩ ?_ ?_ (fun _ _ _ _ h => h.elim))))
 ·skip
  rintro l29 m30 D31 r32 H33 v34 n ⟨left, v25, H26⟩ hk35 hJ36 h37
  obtain ⟨hi24, o27, f28⟩ : (left = suppV c ((tupL (wordL c.vars ds)).take n)) ∧ OwnL 3 1 H26 noHp IntV v25 left ∧ Fr B H26 := hJ36
  obtain ⟨t, ht⟩ : ∃ t, (tupL (wordL c.vars ds)).getD n [] = t := ⟨_, rfl⟩
  rw [ht] at h37
  have hS : SatOk c t := (tup_sat hC rfl (by rw [← ht]; exact getD_mem hk35))
  have hT := take_succ_getD [] hk35
  rw [ht] at hT
  change KC _ _ _ (rdy l29 r32 :: [sing b12 (.cells [v25].toArray 23 (0, 0)), H26]) _ _
  refine kc_region (kl_as rfl (kl_nil (kq_begin (r := r32) ?_)))
  refine kc_block (kc_seq (kc_region (kl_ldS rfl (by assumption) rfl ?_)))
  refine kl_mv rfl (kl_callP rfl rfl (satisfied_ok c t hS (by assumption) (by assumption) (by assumption) (by assumption)) ?_)
  refine kl_nil (kq_code (kc_cond rfl (fun c39 => ?_) (fun c39 => ?_)))
  ·skip
   have c39r := c39
   try simp only [smpC, decide_eq_true_eq, decide_eq_false_iff_not] at c39
   refine kc_seq (kc_region (kl_mv rfl (kl_len rfl (by assumption) (fun l40 => ?_))))
   refine kl_mv rfl (kl_nil (kq_code (kc_block (kc_loopL (A := Nat × List Int × Value × Hp) (fun zz => (zz.1 ≤ t.length) ∧ (zz.2.1 = suppM c ((tupL (wordL c.vars ds)).take n) t zz.1) ∧ OwnL 3 1 zz.2.2.2 noHp IntV zz.2.2.1 zz.2.1 ∧ Fr B zz.2.2.2) (fun zz => t.length - zz.1) (fun zz => [bsy l29 r32, sing b12 (.cells [zz.2.2.1].toArray 23 (0, 0)), zz.2.2.2]) (fun zz => [(26, .int .i64 (zz.1 : Int))]) (0, left, v25, H26) (pc 1 rfl (pc 2 rfl (pc 4 rfl (pc 5 rfl (pc 6 rfl (pc 20 rfl (pc 21 rfl (pc 22 rfl (pc 23 rfl (pc 24 rfl (pc 25 rfl pn))))))))))) (pc 26 rfl pn) rfl ⟨Nat.zero_le _, (by rw [hi24, suppM_0]), o27, f28⟩ ?_))))
   rintro ⟨k, left1, v46, H43⟩ hJ47
   obtain ⟨hk41, hi42, o44, f45⟩ : (k ≤ t.length) ∧ (left1 = suppM c ((tupL (wordL c.vars ds)).take n) t k) ∧ OwnL 3 1 H43 noHp IntV v46 left1 ∧ Fr B H43 := hJ47
   change KC _ _ (_) [bsy l29 r32, sing b12 (.cells [v46].toArray 23 (0, 0)), H43] _ ([(26, .int .i64 (k : Int))] ++ _)
   have hln : left1.length = c.vars.length := (by rw [hi42]; exact suppM_len c _ t k)
   refine kc_seq (kc_region (kl_lss rfl rfl ?_))
   refine kl_nil (kq_code (kc_seq (kc_if rfl (fun c48 => ?_) (fun c48 => ?_))))
   ·skip
    have hv1 := hS.val.at (k := k) (by omega)
    have hl1 := hS.len
    refine kc_skipQ (kq_code (kc_seq (kc_block (kc_seq (kc_region (kl_mv rfl (kl_inI rfl rfl (by assumption) (by omega) (fun p49 a50 => ?_))))))))
    refine kl_ld rfl (by assumption) (kl_as rfl (kl_as rfl (kl_nil (kq_code (kc_draw 8 [true, true, true, true, true, true, true, true, false] (by kernel_rfl) (by kernel_rfl) ?_)))))
    refine kl_ldB rfl rfl (kl_mv rfl (kl_ixLn rfl rfl (by assumption) (by omega) (fun p51 q52 => ?_)))
    refine kl_ldLI rfl (by assumption) (by assumption) (by omega) ?_
    refine kl_mv rfl (kl_shl rfl rfl (by omega) ?_)
    refine kl_or rfl rfl ?_
    refine kl_ixLn rfl rfl (by assumption) (by omega) (fun p53 q54 => ?_)
    refine kl_stL (ior (left1.getD k 0) (ishl (1 : Int) (t.getD k 0))) rfl rfl (by assumption) o44 (by omega) rfl rfl rfl (fun H55 o56 f57 => ?_)
    have f58 := f57 _ f45
    refine kl_nil (kq_code (kc_region (kl_inc rfl rfl (by omega) ?_)))
    refine kl_mv rfl (kl_nil (kq_roundL ((k + 1), (left1.set k (ior (left1.getD k 0) (ishl (1 : Int) (t.getD k 0)))), v46, H55) (by omega) (⟨by omega, (by rw [hi42]; exact suppM_stepO (by assumption) hS (by omega)), o56, f58⟩) (pc 26 rfl pn) (pc 1 rfl (pc 2 rfl (pc 4 rfl (pc 5 rfl (pc 6 rfl (pc 20 rfl (pc 21 rfl (pc 22 rfl (pc 23 rfl (pc 24 rfl (pc 25 rfl pn))))))))))) rfl (List.Sublist.refl _)))
   ·skip
    refine kc_exit (kq_take [bsy l29 r32, sing b12 (.cells [v46].toArray 23 (0, 0)), H43] ?_)
    exact kq_rend (invx := fun _ _ => False) (left1, v46, H43) ⟨(by rw [hT]; first | exact supp_stepT hi42 hS (by omega) | (rw [suppV_no (by assumption)]; exact hi24)), o44, f45⟩ rfl inferInstance (List.Sublist.refl _)
  ·skip
   have c39r := c39
   try simp only [smpC, decide_eq_true_eq, decide_eq_false_iff_not] at c39
   refine kc_skipQ (kq_take [bsy l29 r32, sing b12 (.cells [v25].toArray 23 (0, 0)), H26] ?_)
   exact kq_rend (invx := fun _ _ => False) (left, v25, H26) ⟨(by rw [hT]; first | exact supp_stepT hi42 hS (by omega) | (rw [suppV_no (by assumption)]; exact hi24)), o27, f28⟩ rfl inferInstance (List.Sublist.refl _)
 ·skip
  rintro D59 ⟨left, v25, H26⟩ hD60 hJ61
  obtain ⟨hi24, o27, f28⟩ : (left = suppV c ((tupL (wordL c.vars ds)).take ((tupL (wordL c.vars ds)).length))) ∧ OwnL 3 1 H26 noHp IntV v25 left ∧ Fr B H26 := hJ61
  change KQ _ _ ([sing b12 (.cells [v25].toArray 23 (0, 0)), H26]) _ _
  have hll : left.length = c.vars.length := (by rw [hi24]; exact suppV_len c _)
  refine kq_code (kc_seq (kc_region (kl_mv rfl (kl_callL rfl rfl (copied_ok ds (by have := hC.one; omega) (by assumption)) (fun v62 H63 f64 o65 => ?_)))))
  refine kl_as rfl (kl_nil (kq_code (kc_seq (kc_seq (kc_region (kl_fd rfl (by assumption) (fun p66 a67 => ?_)))))))
  refine kl_ld rfl (by assumption) (kl_len rfl (by assumption) (fun l68 => ?_))
  refine kl_mv rfl (kl_nil (kq_code (kc_block (kc_loopL (A := Nat × List Int × Hp) (fun zz => (zz.1 ≤ c.vars.length) ∧ (zz.2.1 = filtTo c ds left zz.1) ∧ OwnL 3 1 zz.2.2 noHp IntV v62 zz.2.1 ∧ Fr B zz.2.2) (fun zz => c.vars.length - zz.1) (fun zz => [zz.2.2, sing b12 (.cells [v25].toArray 23 (0, 0)), H26]) (fun zz => [(45, .int .i64 (zz.1 : Int))]) (0, ds, H63) (pc 4 rfl (pc 5 rfl (pc 9 rfl (pc 43 rfl (pc 44 rfl pn))))) (pc 45 rfl pn) rfl ⟨Nat.zero_le _, rfl, o65, f64⟩ ?_))))
  rintro ⟨k2, out, H71⟩ hJ74
  obtain ⟨hk69, hi70, o72, f73⟩ : (k2 ≤ c.vars.length) ∧ (out = filtTo c ds left k2) ∧ OwnL 3 1 H71 noHp IntV v62 out ∧ Fr B H71 := hJ74
  change KC _ _ (_) [H71, sing b12 (.cells [v25].toArray 23 (0, 0)), H26] _ ([(45, .int .i64 (k2 : Int))] ++ _)
  have hln : out.length = ds.length := (by rw [hi70]; exact filtTo_len c ds left k2)
  refine kc_seq (kc_region (kl_lss rfl rfl ?_))
  refine kl_nil (kq_code (kc_seq (kc_if rfl (fun c75 => ?_) (fun c75 => ?_))))
  ·skip
   have hv2 := hC.at (k := k2) (by omega)
   refine kc_skipQ (kq_code (kc_seq (kc_block (kc_seq (kc_region (kl_mv rfl (kl_inI rfl rfl (by assumption) (by omega) (fun p76 a77 => ?_))))))))
   refine kl_ld rfl (by assumption) (kl_as rfl (kl_as rfl (kl_nil (kq_code (kc_region (kl_mv rfl (kl_mv rfl (kl_ldB rfl rfl (kl_mv rfl ?_)))))))))
   refine kl_ixLn rfl rfl (by assumption) (by omega) (fun p78 q79 => ?_)
   refine kl_ldLI rfl (by assumption) (by assumption) (by omega) ?_
   refine kl_ixL rfl rfl (by assumption) (by omega) (by omega) (fun p80 q81 => ?_)
   refine kl_stL (left.getD k2 0) rfl rfl (by assumption) o72 (by omega) rfl rfl rfl (fun H82 o83 f84 => ?_)
   have f85 := f84 _ f73
   refine kl_nil (kq_code (kc_region (kl_inc rfl rfl (by omega) ?_)))
   refine kl_mv rfl (kl_nil (kq_roundL ((k2 + 1), (out.set ((c.vars.getD k2 0).toNat) (left.getD k2 0)), H82) (by omega) (⟨by omega, (by rw [hi70, filtTo_succ]), o83, f85⟩) (pc 45 rfl pn) (pc 4 rfl (pc 5 rfl (pc 9 rfl (pc 43 rfl (pc 44 rfl pn))))) rfl (List.Sublist.refl _)))
  ·skip
   refine kc_exit (kq_code (kc_seq (kc_region (kl_mv rfl (kl_as rfl (kl_nil (kq_code (kc_ret ?_))))))))
   have e9 : out = filtL c ds := by rw [hi70, hi24, List.take_length, show k2 = c.vars.length from by omega]; rfl
   exact kq_retR (rss1 rfl (rs_tmp rfl)) H71 f73 (e9 ▸ OwnL.ints o72) (df1 hD60)
theorem filtered_ok {Hmd : Hp} {vmd : Value} {Hmc : Hp} {vmc : Value} {Hds : Hp} {vds : Value} (m : Mod) (ds : List Int) (hM : MOk m) (hd : DOk m.doms.length ds) (hmd : Ints Hmd vmd m.doms) (hmc : Cons Hmc vmc m.cons) (hds : Ints Hds vds ds) : Spec Tryz.prog 142 [.agg #[vmd, vmc], vds] [Hmd, Hmc, Hds] (fun Hq vq => Ints (orHp Hds Hq) vq (filtA m ds)) := by
 refine spec_of Tryz.func142 rfl rfl rfl (fun B => ?_)
 refine kc_seq (kc_region (kl_box rfl rfl (fun p1 H2 f3 a4 => ?_)))
 refine kl_as rfl (kl_nil (kq_code (kc_seq (kc_seq (kc_region (kl_fd rfl (by assumption) (fun p5 a6 => ?_)))))))
 refine kl_ld rfl (by assumption) (kl_len rfl (by assumption) (fun l7 => ?_))
 refine kl_mv rfl (kl_nil (kq_code (kc_block (kc_loopK (A := Nat × List Int × Value × Hp) (fun zz => (zz.1 ≤ m.cons.length) ∧ (zz.2.1 = filtC (m.cons.take zz.1) ds) ∧ Fr B zz.2.2.2 ∧ Ints (orHp Hds zz.2.2.2) zz.2.2.1 zz.2.1) (fun zz => m.cons.length - zz.1) (fun zz => zz.2.2.2) (fun zz => []) (fun zz => [(10, .int .i64 (zz.1 : Int)), (1, zz.2.2.1)]) (0, ds, vds, noHp) (pc 4 rfl (pc 8 rfl (pc 9 rfl pn))) (pc 10 rfl (pc 1 rfl pn)) rfl ⟨Nat.zero_le _, rfl, (fr_no _), (Sl.mono (by assumption) orL (fun _ _ h => h))⟩ ?_))))
 rintro ⟨k, xs, v10, K11⟩ hJ14
 obtain ⟨hk8, hi9, f12, h13⟩ : (k ≤ m.cons.length) ∧ (xs = filtC (m.cons.take k) ds) ∧ Fr B K11 ∧ Ints (orHp Hds K11) v10 xs := hJ14
 change KC _ _ (K11 :: _) [] _ ([(10, .int .i64 (k : Int)), (1, v10)] ++ _)
 refine kc_seq (kc_region (kl_lss rfl rfl ?_))
 refine kl_nil (kq_code (kc_seq (kc_if rfl (fun c15 => ?_) (fun c15 => ?_))))
 ·skip
  have hD := filtC_at hM hd hi9
  have hC : ConOk (m.cons.getD k nilCon) xs.length := (by rw [hD.l]; exact ⟨hM.c (by omega)⟩)
  refine kc_skipQ (kq_code (kc_seq (kc_block (kc_seq (kc_region (kl_inC rfl rfl (by assumption) (by omega) (fun p16 u18 u19 u20 h21 h22 h23 a17 => ?_)))))))
  refine kl_ldS rfl (by assumption) rfl ?_
  refine kl_alloc (cs := [.int .i64 (0 : Int), .slice none 0 0, .slice none 0 0, .int .i64 (0 : Int), .slice none 0 0]) rfl (fun b24 hb25 => ?_)
  refine kl_stW (us := [.int .i64 ((m.cons.getD k nilCon).kind), u18, u19, .int .i64 ((m.cons.getD k nilCon).bound), u20]) rfl rfl rfl rfl (oc rfl (oc (Sl.oneCell (by assumption)) (oc (Sl.oneCell (by assumption)) (oc rfl (oc (Sl.oneCell (by assumption)) oc_nil))))) rfl ?_
  refine kl_nil (kq_code (kc_region (kl_ldW rfl rfl (kl_mv rfl (kl_call rfl rfl (filter_ok (m.cons.getD k nilCon) xs hC hD.d (by assumption) (by assumption) (by assumption) (by assumption)) (fun v26 H27 f28 h29 => ?_))))))
  refine kl_as rfl (kl_nil (kq_code (kc_region (kl_inc rfl rfl (by omega) ?_))))
  refine kl_mv rfl (kl_nil (kq_cmp Hds H27 (fun c30 => ?_)))
  refine kq_roundK ((k + 1), (filtL (m.cons.getD k nilCon) xs), v26, H27) (by omega) (⟨by omega, (by rw [filtC_step (by omega), ← hi9]), f28, (Sl.mono (by assumption) (orC c30) (fun _ _ h => h))⟩) (pc 10 rfl (pc 1 rfl pn)) (pc 4 rfl (pc 8 rfl (pc 9 rfl pn))) rfl (.cons _ (List.Sublist.refl _))
 ·skip
  refine kc_exit (kq_code (kc_seq (kc_region (kl_mv rfl (kl_as rfl (kl_nil (kq_code (kc_ret ?_))))))))
  have e9 : xs = filtA m ds := by (rw [hi9, List.take_of_length_le (by omega)]; rfl)
  exact kq_ret rfl rfl K11 f12 (e9 ▸ (by assumption : Ints _ _ xs))
theorem fixI_ok {Hds : Hp} {vds : Value} {Hmd : Hp} {vmd : Value} {Hmc : Hp} {vmc : Value} (ds : List Int) (m : Mod) (hM : MOk m) (hd : DOk m.doms.length ds) (hds : Ints Hds vds ds) (hmd : Ints Hmd vmd m.doms) (hmc : Cons Hmc vmc m.cons) : Spec Tryz.prog 141 [vds, .func (.func 142) #[.agg #[vmd, vmc]] #[]] [Hds, Hmd, Hmc] (fun Hq vq => Ints Hq vq (prop m ds)) := by
 refine spec_of Tryz.func141 rfl rfl rfl (fun B => ?_)
 refine kc_seq (kc_region (kl_as rfl (kl_nil (kq_code (kc_seq (kc_region (kl_mv rfl (kl_call rfl rfl (copied_ok ds (by have := hd.l; have := hM.n; omega) (by assumption)) (fun v1 H2 f3 o4 => ?_)))))))))
 have h5 := OwnL.ints o4
 refine kl_as rfl (kl_nil (kq_code (kc_block (kc_loopK (A := List Int × Value × Hp) (fun zz => (DOk m.doms.length zz.1 ∧ prop m zz.1 = prop m ds) ∧ Fr B zz.2.2 ∧ Ints zz.2.2 zz.2.1 zz.1) (fun zz => sumN zz.1) (fun zz => zz.2.2) (fun zz => []) (fun zz => [(5, zz.2.1)]) (ds, v1, H2) (pc 1 rfl pn) (pc 5 rfl pn) rfl ⟨⟨hd, rfl⟩, f3, (by assumption)⟩ ?_))))
 rintro ⟨xs, v8, K9⟩ hJ12
 obtain ⟨hi7, f10, h11⟩ : (DOk m.doms.length xs ∧ prop m xs = prop m ds) ∧ Fr B K9 ∧ Ints K9 v8 xs := hJ12
 change KC _ _ (K9 :: _) [] _ ([(5, v8)] ++ _)
 have hD := hi7.1
 refine kc_block (kc_seq (kc_seq (kc_region (kl_mv rfl (kl_callP rfl rfl (containsInts_ok xs (0 : Int) (by assumption)) ?_)))))
 refine kl_nil (kq_code (kc_cond rfl (fun c13 => ?_) (fun c13 => ?_)))
 ·skip
  have c13r := c13
  try simp only [smpC, decide_eq_true_eq, decide_eq_false_iff_not] at c13
  refine kc_seq (kc_region (kl_mv rfl (kl_len rfl (by assumption) (fun l14 => ?_))))
  refine kl_mkL (R := IntV) (0 : Int) rfl rfl (by (have := hD.l; have := hM.n; omega)) (by decide) (by exact rfl) (fun v15 H16 f17 o18 => ?_)
  refine kl_as rfl (kl_nil (kq_code (kc_ret ?_)))
  have e9 : (List.replicate xs.length (0 : Int)) = prop m ds := by (rw [← hi7.2]; exact (prop_0 (by assumption)).symm)
  exact kq_ret rfl rfl H16 f17 (e9 ▸ OwnL.ints o18)
 ·skip
  have c13r := c13
  try simp only [smpC, decide_eq_true_eq, decide_eq_false_iff_not] at c13
  refine kc_skipQ (kq_code (kc_seq (kc_region (kl_mv rfl (kl_mv rfl (kl_callB rfl rfl (filtered_ok m xs hM hD (by assumption) (by assumption) (by assumption)) (fun v19 H20 f21 h22 => ?_)))))))
  refine kl_as rfl (kl_nil (kq_code (kc_seq (kc_seq (kc_region (kl_mv rfl (kl_mv rfl (kl_callP rfl rfl (equal_ok (filtA m xs) xs (by assumption) (by assumption)) ?_))))))))
  refine kl_nil (kq_code (kc_cond rfl (fun c23 => ?_) (fun c23 => ?_)))
  ·skip
   have c23r := c23
   try simp only [smpC, decide_eq_true_eq, decide_eq_false_iff_not] at c23
   refine kc_seq (kc_region (kl_mv rfl (kl_as rfl (kl_nil (kq_code (kc_ret ?_))))))
   have e9 : xs = prop m ds := by (rw [← hi7.2]; exact (prop_fix (by assumption) (by assumption)).symm)
   exact kq_ret rfl rfl K9 f10 (e9 ▸ (by assumption : Ints _ _ xs))
  ·skip
   have c23r := c23
   try simp only [smpC, decide_eq_true_eq, decide_eq_false_iff_not] at c23
   refine kc_skipQ (kq_code (kc_region (kl_mv rfl (kl_as rfl (kl_nil (kq_roundK ((filtA m xs), v19, (orHp K9 H20)) (by (dsimp only; exact filtA_lt hM hD (by assumption))) (⟨⟨(filtA_ok hM hD).1, (prop_step hM hD (by assumption) (by assumption)).trans hi7.2⟩, (fr_or f10 f21), (by assumption)⟩) (pc 5 rfl pn) (pc 1 rfl pn) rfl (List.Sublist.refl _)))))))
theorem propagate_ok {Hmd : Hp} {vmd : Value} {Hmc : Hp} {vmc : Value} {Hds : Hp} {vds : Value} (m : Mod) (ds : List Int) (hM : MOk m) (hd : DOk m.doms.length ds) (hmd : Ints Hmd vmd m.doms) (hmc : Cons Hmc vmc m.cons) (hds : Ints Hds vds ds) : Spec Tryz.prog 97 [.agg #[vmd, vmc], vds] [Hmd, Hmc, Hds] (fun Hq vq => Ints Hq vq (prop m ds)) := by
 refine spec_of Tryz.func97 rfl rfl rfl (fun B => ?_)
 refine kc_seq (kc_region (kl_box rfl rfl (fun p1 H2 f3 a4 => ?_)))
 refine kl_as rfl (kl_nil (kq_code (kc_seq (kc_region (kl_mv rfl (kl_ldS rfl (by assumption) rfl ?_))))))
 refine kl_mkfB rfl rfl ?_
 refine kl_call rfl rfl (fixI_ok ds m hM hd (by assumption) (by assumption) (by assumption)) (fun v5 H6 f7 h8 => ?_)
 refine kl_as rfl (kl_nil (kq_code (kc_ret ?_)))
 exact kq_ret rfl rfl H6 f7 (by assumption)
theorem isNaN_ok (x : Int) : SpecP Tryz.prog 202 [.int .i64 x] [] (.bool false) := by
 refine spec_of Tryz.func202 rfl rfl rfl (fun B => ?_)
 refine kc_seq (kc_region (kl_as rfl (kl_nil (kq_code (kc_seq (kc_region (kl_mv rfl (kl_mv rfl (kl_neq rfl rfl ?_)))))))))
 refine kl_as rfl (kl_nil (kq_code (kc_ret (kq_retP rfl rfl (congrArg Value.bool ?_)))))
 simp
theorem cmpInt_ok (a : Int) (b : Int) : SpecP Tryz.prog 191 [.int .i64 a, .int .i64 b] [] (.int .i64 (cmpI a b)) := by
 refine spec_of Tryz.func191 rfl rfl rfl (fun B => ?_)
 refine kc_seq (kc_region (kl_as rfl (kl_nil (kq_code (kc_seq (kc_region (kl_mv rfl (kl_callP rfl rfl (isNaN_ok a) ?_))))))))
 refine kl_as rfl (kl_nil (kq_code (kc_seq (kc_region (kl_mv rfl (kl_callP rfl rfl (isNaN_ok b) ?_))))))
 refine kl_as rfl (kl_nil (kq_code (kc_seq (kc_seq (kc_region (kl_mv rfl (kl_nil (kq_code (kc_cond rfl (fun c1 => ?_) (fun c1 => ?_))))))))))
 ·skip
  have c1r := c1
  try simp only [smpC, decide_eq_true_eq, decide_eq_false_iff_not] at c1
  exact absurd c1r (by decide)
 ·skip
  have c1r := c1
  try simp only [smpC, decide_eq_true_eq, decide_eq_false_iff_not] at c1
  refine kc_skipQ (kq_code (kc_seq (kc_seq (kc_region (kl_mv rfl (kl_nil (kq_code (kc_cond rfl (fun c2 => ?_) (fun c2 => ?_)))))))))
  ·skip
   have c2r := c2
   try simp only [smpC, decide_eq_true_eq, decide_eq_false_iff_not] at c2
   exact absurd c2r (by decide)
  ·skip
   have c2r := c2
   try simp only [smpC, decide_eq_true_eq, decide_eq_false_iff_not] at c2
   refine kc_skipQ (kq_code (kc_seq (kc_seq (kc_region (kl_mv rfl (kl_mv rfl (kl_lss rfl rfl ?_)))))))
   refine kl_nil (kq_code (kc_if rfl (fun c3 => ?_) (fun c3 => ?_)))
   ·skip
    refine kc_seq (kc_region (kl_as rfl (kl_nil (kq_code (kc_ret (kq_retP rfl rfl (congrArg (Value.int .i64) ?_)))))))
    exact cmpI_1 (by assumption)
   ·skip
    refine kc_skipQ (kq_code (kc_seq (kc_seq (kc_region (kl_mv rfl (kl_mv rfl (kl_gtr rfl rfl ?_)))))))
    refine kl_nil (kq_code (kc_if rfl (fun c4 => ?_) (fun c4 => ?_)))
    ·skip
     refine kc_seq (kc_region (kl_as rfl (kl_nil (kq_code (kc_ret (kq_retP rfl rfl (congrArg (Value.int .i64) ?_)))))))
     exact cmpI_2 (by assumption) (by assumption)
    ·skip
     refine kc_skipQ (kq_code (kc_seq (kc_region (kl_as rfl (kl_nil (kq_code (kc_ret (kq_retP rfl rfl (congrArg (Value.int .i64) ?_)))))))))
     exact cmpI_3 (by assumption) (by assumption)
theorem truesL_ok (l : Lit) (h0 : 0 ≤ l.val) : SpecP Tryz.prog 172 [.agg #[.int .i64 l.var, .int .i64 l.val, .bool l.neg]] [] (.int .i64 (truesI l)) := by
 refine spec_of Tryz.func172 rfl rfl rfl (fun B => ?_)
 refine kc_seq (kc_region (kl_box rfl rfl (fun p1 H2 f3 a4 => ?_)))
 refine kl_as rfl (kl_nil (kq_code (kc_seq (kc_seq (kc_region (kl_fd rfl (by assumption) (fun p5 a6 => ?_)))))))
 refine kl_ld rfl (by assumption) (kl_nil (kq_code (kc_cond rfl (fun c7 => ?_) (fun c7 => ?_))))
 ·skip
  have c7r := c7
  try simp only [smpC, decide_eq_true_eq, decide_eq_false_iff_not] at c7
  refine kc_seq (kc_region (kl_fd rfl (by assumption) (fun p8 a9 => ?_)))
  refine kl_ld rfl (by assumption) (kl_shl rfl rfl (by omega) ?_)
  refine kl_andNot rfl rfl ?_
  refine kl_as rfl (kl_nil (kq_code (kc_ret (kq_retP rfl rfl (congrArg (Value.int .i64) ?_)))))
  exact trues_T (by assumption)
 ·skip
  have c7r := c7
  try simp only [smpC, decide_eq_true_eq, decide_eq_false_iff_not] at c7
  refine kc_skipQ (kq_code (kc_seq (kc_region (kl_fd rfl (by assumption) (fun p10 a11 => ?_)))))
  refine kl_ld rfl (by assumption) (kl_shl rfl rfl (by omega) ?_)
  refine kl_as rfl (kl_nil (kq_code (kc_ret (kq_retP rfl rfl (congrArg (Value.int .i64) ?_)))))
  exact trues_F (by assumption)
theorem orInt_ok {Hxs : Hp} {vxs : Value} (xs : List Int) (hxs : Ints Hxs vxs xs) : SpecP Tryz.prog 190 [vxs] [Hxs] (.int .i64 (orI xs)) := by
 refine spec_of Tryz.func190 rfl rfl rfl (fun B => ?_)
 refine kc_seq (kc_region (kl_as rfl (kl_nil (kq_code (kc_seq (kc_region (kl_as rfl (kl_nil (kq_code (kc_seq (kc_seq (kc_region (kl_mv rfl (kl_len rfl (by assumption) (fun l1 => ?_)))))))))))))))
 refine kl_mv rfl (kl_nil (kq_code (kc_block (kc_loop0 (A := Nat) (fun zz => (zz ≤ xs.length) ∧ ((xs.take zz).all (fun x => decide (x = 0)) = true)) (fun zz => xs.length - zz) (fun zz => [(8, .int .i64 (zz : Int))]) (0) (pc 3 rfl (pc 6 rfl (pc 7 rfl pn))) (pc 8 rfl pn) ⟨Nat.zero_le _, by simp⟩ ?_))))
 rintro k hJ4
 obtain ⟨hk2, hi3⟩ : (k ≤ xs.length) ∧ ((xs.take k).all (fun x => decide (x = 0)) = true) := hJ4
 change KC _ _ (_) _ _ ([(8, .int .i64 (k : Int))] ++ _)
 refine kc_seq (kc_region (kl_lss rfl rfl ?_))
 refine kl_nil (kq_code (kc_seq (kc_if rfl (fun c5 => ?_) (fun c5 => ?_))))
 ·skip
  refine kc_skipQ (kq_code (kc_seq (kc_block (kc_seq (kc_region (kl_inI rfl rfl (by assumption) (by omega) (fun p6 a7 => ?_)))))))
  refine kl_ld rfl (by assumption) (kl_as rfl (kl_nil (kq_code (kc_seq (kc_region (kl_mv rfl (kl_mv rfl (kl_neq rfl rfl ?_))))))))
  refine kl_nil (kq_code (kc_if rfl (fun c8 => ?_) (fun c8 => ?_)))
  ·skip
   refine kc_seq (kc_region (kl_mv rfl (kl_as rfl (kl_nil (kq_code (kc_ret (kq_retP rfl rfl (congrArg (Value.int .i64) ?_))))))))
   exact orI_at (by omega) hi3 (by assumption)
  ·skip
   refine kc_skipQ (kq_code (kc_region (kl_inc rfl rfl (by omega) ?_)))
   refine kl_mv rfl (kl_nil (kq_round0 ((k + 1)) (by omega) (⟨by omega, all0_step (by omega) hi3 (by assumption)⟩) (pc 8 rfl pn) (pc 3 rfl (pc 6 rfl (pc 7 rfl pn))) (List.Sublist.refl _)))
 ·skip
  refine kc_exit (kq_code (kc_seq (kc_region (kl_mv rfl (kl_as rfl (kl_nil (kq_code (kc_ret (kq_retP rfl rfl (congrArg (Value.int .i64) ?_))))))))))
  exact all0_end (by omega) hi3
theorem litCmp_ok (a : Lit) (b : Lit) : SpecP Tryz.prog 169 [.agg #[.int .i64 a.var, .int .i64 a.val, .bool a.neg], .agg #[.int .i64 b.var, .int .i64 b.val, .bool b.neg]] [] (.int .i64 (litCmp a b)) := by
 refine spec_of Tryz.func169 rfl rfl rfl (fun B => ?_)
 refine kc_seq (kc_region (kl_box rfl rfl (fun p1 H2 f3 a4 => ?_)))
 refine kl_box rfl rfl (fun p5 H6 f7 a8 => ?_)
 refine kl_as rfl (kl_nil (kq_code (kc_seq (kc_region (kl_mkMap (fun b9 hb10 => ?_))))))
 refine kl_insB rfl rfl rfl ?_
 refine kl_frz (sing b9 (.map #[⟨.bool true, .int .i64 (1 : Int), 0⟩] 1)) ?_
 refine kl_mv rfl (kl_as rfl (kl_nil (kq_code (kc_seq (kc_tree (fun i => ([18, 19, 20] : List Nat).contains i) [] (by kernel_rfl) ?_)))))
 refine kt_q 0 (List.nil_sublist _) rfl (by kernel_rfl) (kl_fd rfl (by assumption) (fun p11 a12 => ?_))
 refine kl_nil (kq_q (kt_q 1 (List.nil_sublist _) rfl (by kernel_rfl) (kl_ld rfl (by assumption) (kl_nil (kq_q (kt_q 2 (List.nil_sublist _) rfl (by kernel_rfl) (kl_fd rfl (by assumption) (fun p13 a14 => ?_))))))))
 refine kl_nil (kq_q (kt_q 3 (List.nil_sublist _) rfl (by kernel_rfl) (kl_ld rfl (by assumption) (kl_nil (kq_q (kt_q 5 (List.nil_sublist _) rfl (by kernel_rfl) (kl_fd rfl (by assumption) (fun p15 a16 => ?_))))))))
 refine kl_nil (kq_q (kt_q 6 (List.nil_sublist _) rfl (by kernel_rfl) (kl_ld rfl (by assumption) (kl_nil (kq_q (kt_q 7 (List.nil_sublist _) rfl (by kernel_rfl) (kl_fd rfl (by assumption) (fun p17 a18 => ?_))))))))
 refine kl_nil (kq_q (kt_q 8 (List.nil_sublist _) rfl (by kernel_rfl) (kl_ld rfl (by assumption) (kl_nil (kq_q (kt_q 10 (List.nil_sublist _) rfl (by kernel_rfl) (kl_mv rfl (kl_nil (kq_q (kt_q 11 (List.nil_sublist _) rfl (by kernel_rfl) (kl_fd rfl (by assumption) (fun p19 a20 => ?_))))))))))))
 refine kl_nil (kq_q (kt_q 12 (List.nil_sublist _) rfl (by kernel_rfl) (kl_ld rfl (by assumption) (kl_nil (kq_q (kt_q 13 (List.nil_sublist _) rfl (by kernel_rfl) (kl_lkB rfl rfl ?_)))))))
 refine kl_nil (kq_q (kt_q 14 (List.nil_sublist _) rfl (by kernel_rfl) (kl_mv rfl (kl_nil (kq_q (kt_q 15 (List.nil_sublist _) rfl (by kernel_rfl) (kl_fd rfl (by assumption) (fun p21 a22 => ?_))))))))
 refine kl_nil (kq_q (kt_q 16 (List.nil_sublist _) rfl (by kernel_rfl) (kl_ld rfl (by assumption) (kl_nil (kq_q (kt_q 17 (List.nil_sublist _) rfl (by kernel_rfl) (kl_lkB rfl rfl ?_)))))))
 refine kl_nil (kq_q (kt_a 4 rfl (by kernel_rfl) (kl_callP rfl rfl (cmpInt_ok a.var b.var) ?_)))
 refine kl_nil (kq_a (List.nil_sublist _) (kt_a 9 rfl (by kernel_rfl) (kl_callP rfl rfl (cmpInt_ok a.val b.val) ?_)))
 refine kl_nil (kq_a (List.nil_sublist _) (kt_a 18 rfl (by kernel_rfl) (kl_callP rfl rfl (cmpInt_ok (if a.neg = true then 1 else 0) (if b.neg = true then 1 else 0)) ?_)))
 refine kl_nil (kq_x rfl (kt_a 19 rfl (by kernel_rfl) (kl_bs rfl rfl rfl (by decide) (ca rfl (ca rfl (ca rfl ca_nil))) (fun v23 H24 f25 r26 s27 => ?_))))
 have h28 : Ints H24 v23 [(cmpI a.var b.var), (cmpI a.val b.val), (cmpI (if a.neg = true then 1 else 0) (if b.neg = true then 1 else 0))] := litInts (xs := [(cmpI a.var b.var), (cmpI a.val b.val), (cmpI (if a.neg = true then 1 else 0) (if b.neg = true then 1 else 0))]) (by simpa using s27)
 refine kl_nil (kq_x rfl (kt_a 20 rfl (by kernel_rfl) (kl_callP rfl rfl (orInt_ok ([(cmpI a.var b.var), (cmpI a.val b.val), (cmpI (if a.neg = true then 1 else 0) (if b.neg = true then 1 else 0))]) (by assumption)) ?_)))
 refine kl_nil (kq_x rfl (kt_q 21 (List.nil_sublist _) rfl (by kernel_rfl) (kl_as rfl (kl_nil (kq_q (kt_end (by kernel_rfl) ?_))))))
 refine kq_code (kc_ret (kq_retP rfl rfl (congrArg (Value.int .i64) ?_)))
 rfl
theorem validClI_ok {Hc : Hp} {vc : Value} (c : List Lit) (n : Int) (hn : -9223372036854775807 ≤ n ∧ n ≤ 9223372036854775807) (hc : Lits Hc vc c) : SpecP Tryz.prog 129 [vc, .int .i64 n] [Hc] (.bool (clI n c)) := by
 refine spec_of Tryz.func129 rfl rfl rfl (fun B => ?_)
 refine kc_seq (kc_region (kl_as rfl (kl_nil (kq_code (kc_seq (kc_seq (kc_region (kl_mv rfl (kl_len rfl (by assumption) (fun l1 => ?_))))))))))
 refine kl_mv rfl (kl_nil (kq_code (kc_block (kc_loop0 (A := Nat) (fun zz => (zz ≤ c.length) ∧ (clTo n c zz = true)) (fun zz => c.length - zz) (fun zz => [(9, .int .i64 (zz : Int))]) (0) (pc 0 rfl (pc 1 rfl (pc 7 rfl (pc 8 rfl pn)))) (pc 9 rfl pn) ⟨Nat.zero_le _, rfl⟩ ?_))))
 rintro k hJ4
 obtain ⟨hk2, hi3⟩ : (k ≤ c.length) ∧ (clTo n c k = true) := hJ4
 change KC _ _ (_) _ _ ([(9, .int .i64 (k : Int))] ++ _)
 refine kc_seq (kc_region (kl_lss rfl rfl ?_))
 refine kl_nil (kq_code (kc_seq (kc_if rfl (fun c5 => ?_) (fun c5 => ?_))))
 ·skip
  refine kc_skipQ (kq_code (kc_seq (kc_block (kc_seq (kc_region (kl_mv rfl (kl_inQ rfl rfl (by assumption) (by omega) (fun p6 a7 => ?_))))))))
  refine kl_ldS rfl (by assumption) rfl ?_
  refine kl_alloc (cs := [.int .i64 (0 : Int), .int .i64 (0 : Int), .bool false]) rfl (fun b8 hb9 => ?_)
  refine kl_as rfl (kl_stW (us := [.int .i64 ((c.getD k nilLit).var), .int .i64 ((c.getD k nilLit).val), .bool ((c.getD k nilLit).neg)]) rfl rfl rfl rfl (oc rfl (oc rfl (oc rfl oc_nil))) rfl ?_)
  refine kl_nil (kq_code (kc_seq (kc_draw 26 [true, true, true, true, false, true, true, true, true, false, true, true, true, true, true, true, true, true, true, true, true, true, false, true, true, true] (by kernel_rfl) (by kernel_rfl) ?_)))
  refine kl_fdV rfl (kl_ldB rfl rfl (kl_mv rfl (kl_sub rfl rfl (by omega) ?_)))
  refine kl_callP rfl rfl (within_ok ((c.getD k nilLit).var) (0 : Int) (n - (1 : Int))) ?_
  refine kl_not rfl (kl_mv rfl (kl_join 5 25 (.bool (!(withinB ((c.getD k nilLit).var) (0 : Int) (n - (1 : Int))) || !(withinB ((c.getD k nilLit).val) 0 5))) (pc 0 rfl (pc 1 rfl (pc 5 rfl (pc 6 rfl (pc 7 rfl (pc 8 rfl (pc 9 rfl (pc 10 rfl (pc 11 rfl (pc 12 rfl (pc 13 rfl (pc 14 rfl (pc 15 rfl (pc 16 rfl (pc 17 rfl (pc 18 rfl (pc 19 rfl (pc 20 rfl pn)))))))))))))))))) (fun J11 => ?_) ?_))
  ·rcases Bool.eq_false_or_eq_true (!(withinB ((c.getD k nilLit).var) (0 : Int) (n - (1 : Int)))) with g10 | g10
   ·skip
    refine kl_gF rfl rfl g10 (kl_gF rfl rfl g10 (kl_gF rfl rfl g10 (kl_gF rfl rfl g10 (kl_orT (!(withinB ((c.getD k nilLit).val) 0 5)) rfl rfl g10 ?_))))
    exact J11 _ (pc 25 rfl (pc 0 rfl (pc 1 rfl (pc 5 rfl (pc 6 rfl (pc 7 rfl (pc 8 rfl (pc 9 rfl (pc 10 rfl (pc 11 rfl (pc 12 rfl (pc 13 rfl (pc 14 rfl (pc 15 rfl (pc 16 rfl (pc 17 rfl (pc 18 rfl (pc 19 rfl (pc 20 rfl pn)))))))))))))))))))
   ·skip
    have g10p := g10
    try simp only [Bool.not_eq_true', Bool.not_eq_false', decide_eq_true_eq, decide_eq_false_iff_not, Bool.and_eq_true, Bool.or_eq_false_iff, withinB_iff] at g10p
    refine kl_gT rfl rfl g10 (kl_fdV rfl (kl_gT rfl rfl g10 (kl_ldB rfl rfl (kl_gT rfl rfl g10 (kl_callP rfl rfl (valueOk_ok ((c.getD k nilLit).val)) ?_)))))
    refine kl_gT rfl rfl g10 (kl_not rfl (kl_orF rfl rfl g10 ?_))
    exact J11 _ (pc 25 rfl (pc 0 rfl (pc 1 rfl (pc 5 rfl (pc 6 rfl (pc 7 rfl (pc 8 rfl (pc 9 rfl (pc 10 rfl (pc 11 rfl (pc 12 rfl (pc 13 rfl (pc 14 rfl (pc 15 rfl (pc 16 rfl (pc 17 rfl (pc 18 rfl (pc 19 rfl (pc 20 rfl pn)))))))))))))))))))
  refine kl_mv rfl (kl_join 13 39 (.bool ((!(withinB ((c.getD k nilLit).var) (0 : Int) (n - (1 : Int))) || !(withinB ((c.getD k nilLit).val) 0 5)) || (decide ((0 : Int) < (k : Int)) && decide ((0 : Int) ≤ (litCmp (c.getD ((k : Int) - (1 : Int)).toNat nilLit) (c.getD k nilLit)))))) (pc 0 rfl (pc 1 rfl (pc 5 rfl (pc 6 rfl (pc 7 rfl (pc 8 rfl (pc 9 rfl (pc 10 rfl (pc 11 rfl (pc 12 rfl (pc 13 rfl (pc 14 rfl (pc 15 rfl (pc 16 rfl (pc 17 rfl (pc 18 rfl (pc 19 rfl (pc 20 rfl (pc 25 rfl (pc 26 rfl pn)))))))))))))))))))) (fun J17 => ?_) ?_)
  ·rcases Bool.eq_false_or_eq_true (!(withinB ((c.getD k nilLit).var) (0 : Int) (n - (1 : Int))) || !(withinB ((c.getD k nilLit).val) 0 5)) with g12 | g12
   ·skip
    refine kl_gF rfl rfl g12 (kl_gF rfl rfl g12 (kl_gF rfl rfl g12 (kl_gU rfl rfl (kl_gU rfl rfl (kl_gU rfl rfl (kl_gU rfl rfl (kl_gU rfl rfl (kl_gU rfl rfl ?_))))))))
    refine kl_gU rfl rfl (kl_gU rfl rfl (kl_gF rfl rfl g12 (kl_orT (decide ((0 : Int) < (k : Int)) && decide ((0 : Int) ≤ (litCmp (c.getD ((k : Int) - (1 : Int)).toNat nilLit) (c.getD k nilLit)))) rfl rfl g12 ?_)))
    exact J17 _ (pc 39 rfl (pc 0 rfl (pc 1 rfl (pc 5 rfl (pc 6 rfl (pc 7 rfl (pc 8 rfl (pc 9 rfl (pc 10 rfl (pc 11 rfl (pc 12 rfl (pc 13 rfl (pc 14 rfl (pc 15 rfl (pc 16 rfl (pc 17 rfl (pc 18 rfl (pc 19 rfl (pc 20 rfl (pc 25 rfl (pc 26 rfl pn)))))))))))))))))))))
   ·skip
    have g12p := g12
    try simp only [Bool.not_eq_true', Bool.not_eq_false', decide_eq_true_eq, decide_eq_false_iff_not, Bool.and_eq_true, Bool.or_eq_false_iff, withinB_iff] at g12p
    refine kl_gT rfl rfl g12 (kl_mv rfl (kl_gT rfl rfl g12 (kl_gtr rfl rfl ?_)))
    refine kl_gT rfl rfl g12 (kl_mv rfl (kl_join 9 38 (.bool (decide ((0 : Int) < (k : Int)) && decide ((0 : Int) ≤ (litCmp (c.getD ((k : Int) - (1 : Int)).toNat nilLit) (c.getD k nilLit))))) (pc 0 rfl (pc 1 rfl (pc 5 rfl (pc 6 rfl (pc 7 rfl (pc 8 rfl (pc 9 rfl (pc 10 rfl (pc 11 rfl (pc 12 rfl (pc 13 rfl (pc 14 rfl (pc 15 rfl (pc 16 rfl (pc 17 rfl (pc 18 rfl (pc 19 rfl (pc 20 rfl (pc 25 rfl (pc 26 rfl (pc 27 rfl (pc 28 rfl (pc 29 rfl pn))))))))))))))))))))))) (fun J16 => ?_) ?_))
    ·rcases Bool.eq_false_or_eq_true (decide ((0 : Int) < (k : Int))) with g13 | g13
     ·skip
      have g13p := of_decide_eq_true g13
      refine kl_gT rfl rfl g13 (kl_mv rfl (kl_gT rfl rfl g13 (kl_mv rfl (kl_gT rfl rfl g13 (kl_sub rfl rfl (by omega) ?_)))))
      refine kl_gT rfl rfl g13 (kl_ixQ rfl rfl (by assumption) (by omega) (by omega) (fun p14 a15 => ?_))
      refine kl_gT rfl rfl g13 (kl_ldS rfl (by assumption) rfl ?_)
      refine kl_gT rfl rfl g13 (kl_ldW rfl rfl (kl_gT rfl rfl g13 (kl_callP rfl rfl (litCmp_ok (c.getD ((k : Int) - (1 : Int)).toNat nilLit) (c.getD k nilLit)) ?_)))
      refine kl_gT rfl rfl g13 (kl_geq rfl rfl ?_)
      refine kl_gT rfl rfl g12 (kl_andT rfl rfl g13 ?_)
      exact J16 _ (pc 38 rfl (pc 0 rfl (pc 1 rfl (pc 5 rfl (pc 6 rfl (pc 7 rfl (pc 8 rfl (pc 9 rfl (pc 10 rfl (pc 11 rfl (pc 12 rfl (pc 13 rfl (pc 14 rfl (pc 15 rfl (pc 16 rfl (pc 17 rfl (pc 18 rfl (pc 19 rfl (pc 20 rfl (pc 25 rfl (pc 26 rfl (pc 27 rfl (pc 28 rfl (pc 29 rfl pn))))))))))))))))))))))))
     ·skip
      refine kl_gF rfl rfl g13 (kl_gF rfl rfl g13 (kl_gF rfl rfl g13 (kl_gF rfl rfl g13 (kl_gF rfl rfl g13 (kl_gF rfl rfl g13 (kl_gF rfl rfl g13 (kl_gF rfl rfl g13 (kl_gT rfl rfl g12 ?_))))))))
      refine kl_andF (decide ((0 : Int) ≤ (litCmp (c.getD ((k : Int) - (1 : Int)).toNat nilLit) (c.getD k nilLit)))) rfl rfl g13 ?_
      exact J16 _ (pc 38 rfl (pc 0 rfl (pc 1 rfl (pc 5 rfl (pc 6 rfl (pc 7 rfl (pc 8 rfl (pc 9 rfl (pc 10 rfl (pc 11 rfl (pc 12 rfl (pc 13 rfl (pc 14 rfl (pc 15 rfl (pc 16 rfl (pc 17 rfl (pc 18 rfl (pc 19 rfl (pc 20 rfl (pc 25 rfl (pc 26 rfl (pc 27 rfl (pc 28 rfl (pc 29 rfl pn))))))))))))))))))))))))
    refine kl_orF rfl rfl g12 ?_
    exact J17 _ (pc 39 rfl (pc 0 rfl (pc 1 rfl (pc 5 rfl (pc 6 rfl (pc 7 rfl (pc 8 rfl (pc 9 rfl (pc 10 rfl (pc 11 rfl (pc 12 rfl (pc 13 rfl (pc 14 rfl (pc 15 rfl (pc 16 rfl (pc 17 rfl (pc 18 rfl (pc 19 rfl (pc 20 rfl (pc 25 rfl (pc 26 rfl pn)))))))))))))))))))))
  refine kl_nil (kq_code (kc_cond rfl (fun c18 => ?_) (fun c18 => ?_)))
  ·skip
   have c18r := c18
   try simp only [smpC, decide_eq_true_eq, decide_eq_false_iff_not] at c18
   refine kc_seq (kc_region (kl_as rfl (kl_nil (kq_code (kc_ret (kq_retP rfl rfl (congrArg Value.bool ?_)))))))
   exact cl_noI (k := k) (by omega) (by assumption)
  ·skip
   have c18r := c18
   try simp only [smpC, decide_eq_true_eq, decide_eq_false_iff_not] at c18
   refine kc_skipQ (kq_code (kc_region (kl_inc rfl rfl (by omega) ?_)))
   refine kl_mv rfl (kl_nil (kq_round0 ((k + 1)) (by omega) (⟨by omega, cl_stepI hi3 (by assumption)⟩) (pc 9 rfl pn) (pc 0 rfl (pc 1 rfl (pc 7 rfl (pc 8 rfl pn)))) (.cons _ (List.Sublist.refl _))))
 ·skip
  refine kc_exit (kq_code (kc_seq (kc_region (kl_mv rfl (kl_callP rfl rfl (within_ok n (1 : Int) (4 : Int)) ?_)))))
  refine kl_mv rfl (kl_join 4 47 (.bool ((withinB n (1 : Int) (4 : Int)) && decide ((c.length : Int) ≤ (12 : Int)))) (pc 43 rfl pn) (fun J21 => ?_) ?_)
  ·rcases Bool.eq_false_or_eq_true (withinB n (1 : Int) (4 : Int)) with g19 | g19
   ·skip
    have g19p := g19
    try simp only [Bool.not_eq_true', Bool.not_eq_false', decide_eq_true_eq, decide_eq_false_iff_not, Bool.and_eq_true, Bool.or_eq_false_iff, withinB_iff] at g19p
    refine kl_gT rfl rfl g19 (kl_mv rfl (kl_gT rfl rfl g19 (kl_len rfl (by assumption) (fun l20 => ?_))))
    refine kl_gT rfl rfl g19 (kl_leq rfl rfl ?_)
    refine kl_andT rfl rfl g19 ?_
    exact J21 _ (pc 47 rfl (pc 43 rfl pn))
   ·skip
    refine kl_gF rfl rfl g19 (kl_gF rfl rfl g19 (kl_gF rfl rfl g19 (kl_andF (decide ((c.length : Int) ≤ (12 : Int))) rfl rfl g19 ?_)))
    exact J21 _ (pc 47 rfl (pc 43 rfl pn))
  refine kl_as rfl (kl_nil (kq_code (kc_ret (kq_retP rfl rfl (congrArg Value.bool ?_)))))
  exact cl_yesI (k := k) (by omega) hi3
theorem lenZ64_ok (x : Int) (hb : 0 ≤ x ∧ x < 64) : Spec Tryz.prog 214 [.int .u64 x] [] (fun Hq vq => ∃ z : Int, vq = .int .i64 z ∧ 0 ≤ z ∧ z ≤ 100) := by
 refine spec_of Tryz.func214 rfl rfl rfl (fun B => ?_)
 refine kc_seq (kc_region (kl_as rfl (kl_nil (kq_code (kc_seq (kc_seq (kc_region (kl_mv rfl (kl_geqK rfl rfl ?_)))))))))
 refine kl_nil (kq_code (kc_if rfl (fun c1 => ?_) (fun c1 => ?_)))
 ·skip
  exfalso; omega
 ·skip
  refine kc_skipQ (kq_code (kc_seq (kc_seq (kc_region (kl_mv rfl (kl_geqK rfl rfl ?_))))))
  refine kl_nil (kq_code (kc_if rfl (fun c2 => ?_) (fun c2 => ?_)))
  ·skip
   exfalso; omega
  ·skip
   refine kc_skipQ (kq_code (kc_seq (kc_seq (kc_region (kl_mv rfl (kl_geqK rfl rfl ?_))))))
   refine kl_nil (kq_code (kc_if rfl (fun c3 => ?_) (fun c3 => ?_)))
   ·skip
    exfalso; omega
   ·skip
    refine kc_skipQ (kq_code (kc_seq (kc_region (kl_mv rfl (kl_mv rfl (kl_cv rfl ?_))))))
    refine kl_ixLen0 (m := x) (by kernel_rfl) rfl hb (fun z4 h5 => ?_)
    refine kl_cvi rfl (by omega) ?_
    refine kl_add rfl rfl (by omega) ?_
    refine kl_as rfl (kl_nil (kq_code (kc_ret ?_)))
    exact kq_retP rfl rfl ⟨_, rfl, by omega⟩
theorem lenZ_ok (x : Int) (hb : 0 ≤ x ∧ x < 64) : Spec Tryz.prog 200 [.int .u64 x] [] (fun Hq vq => ∃ z : Int, vq = .int .i64 z ∧ 0 ≤ z ∧ z ≤ 100) := by
 refine spec_of Tryz.func200 rfl rfl rfl (fun B => ?_)
 refine kc_seq (kc_region (kl_as rfl (kl_nil (kq_code (kc_seq (kc_condF ?_))))))
 refine kc_skipQ (kq_code (kc_seq (kc_region (kl_mv rfl (kl_call rfl rfl (lenZ64_ok x hb) (fun v1 H2 f3 h4 => ?_))))))
 obtain ⟨z5, rfl, h6⟩ := h4
 refine kl_as rfl (kl_nil (kq_code (kc_ret ?_)))
 exact kq_retP rfl rfl ⟨_, rfl, by omega⟩
theorem insL_ok {Hs : Hp} {vs : Value} (xs : List Lit) (a b : Int) (ha : a = 0) (hb : b = (xs.length : Int)) (hn : xs.length ≤ 12) (os : OwnL 107 3 Hs noHp LitV vs xs) : SpecT Tryz.prog 205 [vs, .int .i64 a, .int .i64 b, .func (.func 169) #[] #[]] [Hs] [] (fun vq L1 Ln _ => ∃ (Hq : Hp) (ys : List Lit), L1 = [Hq] ∧ Ln = [] ∧ OwnL 107 3 Hq noHp LitV vs ys ∧ SrtA litCmp nilLit xs ys xs.length) := by
 subst ha
 subst hb
 have hlen := os.len
 refine specT_of Tryz.func205 rfl rfl rfl (fun B => ?_)
 refine kc_seq (kc_region (kl_mv rfl (kl_add rfl rfl (by omega) ?_)))
 refine kl_as rfl (kl_nil (kq_code (kc_block (kc_loopL (A := Nat × List Lit × Hp) (fun zz => (1 ≤ zz.1) ∧ (SrtA litCmp nilLit xs zz.2.1 zz.1) ∧ OwnL 107 3 zz.2.2 noHp LitV vs zz.2.1) (fun zz => xs.length - zz.1) (fun zz => [zz.2.2]) (fun zz => [(8, .int .i64 (zz.1 : Int))]) (1, xs, Hs) (pc 0 rfl (pc 1 rfl (pc 2 rfl (pc 3 rfl pn)))) (pc 8 rfl pn) rfl ⟨(Nat.le_refl 1), (SrtA.zero _), os⟩ ?_))))
 rintro ⟨i, ys, H3⟩ hJ6
 obtain ⟨hk1, hi2, o4⟩ : (1 ≤ i) ∧ (SrtA litCmp nilLit xs ys i) ∧ OwnL 107 3 H3 noHp LitV vs ys := hJ6
 change KC _ _ (_) [H3] _ ([(8, .int .i64 (i : Int))] ++ _)
 have hyl := hi2.perm.length_eq
 refine kc_seq (kc_seq (kc_region (kl_mv rfl (kl_mv rfl (kl_lss rfl rfl ?_)))))
 refine kl_nil (kq_code (kc_if rfl (fun c7 => ?_) (fun c7 => ?_)))
 ·skip
  refine kc_skipQ (kq_code (kc_seq (kc_block (kc_seq (kc_region (kl_mv rfl (kl_as rfl (kl_nil (kq_code (kc_block ?_))))))))))
  refine kc_loopL (A := Nat × Int × List Lit × Hp) (fun zz => (zz.1 ≤ i) ∧ (zz.2.1 = (zz.1 : Int) ∧ InsA litCmp nilLit xs zz.2.2.1 i zz.1) ∧ OwnL 107 3 zz.2.2.2 noHp LitV vs zz.2.2.1) (fun zz => zz.1) (fun zz => [zz.2.2.2]) (fun zz => [(9, .int .i64 zz.2.1)]) (i, (i : Int), ys, H3) (pc 0 rfl (pc 1 rfl (pc 2 rfl (pc 3 rfl (pc 8 rfl (pc 12 rfl (pc 13 rfl (pc 14 rfl (pc 17 rfl pn))))))))) (pc 9 rfl pn) rfl ⟨(Nat.le_refl _), ⟨rfl, SrtA.go hi2⟩, o4⟩ ?_
  rintro ⟨j, z, ws, H10⟩ hJ13
  obtain ⟨hk8, hi9, o11⟩ : (j ≤ i) ∧ (z = (j : Int) ∧ InsA litCmp nilLit xs ws i j) ∧ OwnL 107 3 H10 noHp LitV vs ws := hJ13
  change KC _ _ (_) [H10] _ ([(9, .int .i64 z)] ++ _)
  have hz := hi9.1
  have hwl := hi9.2.perm.length_eq
  refine kc_seq (kc_seq (kc_draw 17 [true, true, true, true, true, true, true, true, true, true, true, true, true, true, false, true, true] (by kernel_rfl) (by kernel_rfl) ?_))
  refine kl_mv rfl (kl_mv rfl (kl_gtr rfl rfl ?_))
  refine kl_mv rfl (kl_join 13 34 (.bool (decide ((0 : Int) < z) && decide ((litCmp (ws.getD z.toNat nilLit) (ws.getD ((z - (1 : Int)).toNat) nilLit)) < (0 : Int)))) (pc 0 rfl (pc 1 rfl (pc 2 rfl (pc 3 rfl (pc 8 rfl (pc 9 rfl (pc 12 rfl (pc 13 rfl (pc 14 rfl (pc 17 rfl (pc 18 rfl (pc 19 rfl (pc 20 rfl (pc 21 rfl pn)))))))))))))) (fun J19 => ?_) ?_)
  ·rcases Bool.eq_false_or_eq_true (decide ((0 : Int) < z)) with g14 | g14
   ·skip
    have g14p := of_decide_eq_true g14
    refine kl_gT rfl rfl g14 (kl_mv rfl (kl_gT rfl rfl g14 (kl_mv rfl (kl_gT rfl rfl g14 (kl_mv rfl (kl_gT rfl rfl g14 (kl_ixL rfl rfl (by assumption) (by first | omega | (simp only [List.length_set]; omega)) (by first | omega | (simp only [List.length_set]; omega)) (fun p15 q16 => ?_))))))))
    refine kl_gT rfl rfl g14 (kl_ldSL rfl (OwnL.atQ o11 (by assumption) (by first | omega | (simp only [List.length_set]; omega) : z.toNat < ws.length)) rfl ?_)
    refine kl_gT rfl rfl g14 (kl_mv rfl (kl_gT rfl rfl g14 (kl_mv rfl (kl_gT rfl rfl g14 (kl_sub rfl rfl (by omega) ?_)))))
    refine kl_gT rfl rfl g14 (kl_ixL rfl rfl (by assumption) (by first | omega | (simp only [List.length_set]; omega)) (by first | omega | (simp only [List.length_set]; omega)) (fun p17 q18 => ?_))
    refine kl_gT rfl rfl g14 (kl_ldSL rfl (OwnL.atQ o11 (by assumption) (by first | omega | (simp only [List.length_set]; omega) : (z - (1 : Int)).toNat < ws.length)) rfl ?_)
    refine kl_gT rfl rfl g14 (kl_callP rfl rfl (litCmp_ok (ws.getD z.toNat nilLit) (ws.getD ((z - (1 : Int)).toNat) nilLit)) ?_)
    refine kl_gT rfl rfl g14 (kl_lss rfl rfl ?_)
    refine kl_andT rfl rfl g14 ?_
    exact J19 _ (pc 34 rfl (pc 0 rfl (pc 1 rfl (pc 2 rfl (pc 3 rfl (pc 8 rfl (pc 9 rfl (pc 12 rfl (pc 13 rfl (pc 14 rfl (pc 17 rfl (pc 18 rfl (pc 19 rfl (pc 20 rfl (pc 21 rfl pn)))))))))))))))
   ·skip
    refine kl_gF rfl rfl g14 (kl_gF rfl rfl g14 (kl_gF rfl rfl g14 (kl_gF rfl rfl g14 (kl_gF rfl rfl g14 (kl_gF rfl rfl g14 (kl_gF rfl rfl g14 (kl_gF rfl rfl g14 (kl_gF rfl rfl g14 ?_))))))))
    refine kl_gF rfl rfl g14 (kl_gF rfl rfl g14 (kl_gF rfl rfl g14 (kl_andF (decide ((litCmp (ws.getD z.toNat nilLit) (ws.getD ((z - (1 : Int)).toNat) nilLit)) < (0 : Int))) rfl rfl g14 ?_)))
    exact J19 _ (pc 34 rfl (pc 0 rfl (pc 1 rfl (pc 2 rfl (pc 3 rfl (pc 8 rfl (pc 9 rfl (pc 12 rfl (pc 13 rfl (pc 14 rfl (pc 17 rfl (pc 18 rfl (pc 19 rfl (pc 20 rfl (pc 21 rfl pn)))))))))))))))
  refine kl_nil (kq_code (kc_cond rfl (fun c20 => ?_) (fun c20 => ?_)))
  ·skip
   have c20r := c20
   try simp only [smpC, decide_eq_true_eq, decide_eq_false_iff_not] at c20
   refine kc_skipQ (kq_code (kc_seq (kc_block (kc_tree (fun i => ([2, 3, 4, 15, 16, 17] : List Nat).contains i) [H10] (by kernel_rfl) ?_))))
   refine kt_p 2 rfl rfl (by kernel_rfl) (py_mv rfl) ?_
   refine kt_p 3 rfl rfl (by kernel_rfl) (py_mv rfl) ?_
   refine kt_p 4 rfl rfl (by kernel_rfl) (py_sub rfl rfl (by omega)) ?_
   refine kt_q 0 (.cons_cons _ (List.nil_sublist _)) rfl (by kernel_rfl) (kl_mv rfl (kl_nil (kq_q (kt_q 1 (.cons_cons _ (List.nil_sublist _)) rfl (by kernel_rfl) (kl_mv rfl (kl_nil (kq_q (kt_q 5 (.cons_cons _ (List.nil_sublist _)) rfl (by kernel_rfl) (kl_mv rfl (kl_nil (kq_q ?_)))))))))))
   refine kt_q 6 (.cons_cons _ (List.nil_sublist _)) rfl (by kernel_rfl) (kl_mv rfl (kl_nil (kq_q (kt_q 7 (.cons_cons _ (List.nil_sublist _)) rfl (by kernel_rfl) (kl_sub rfl rfl (by omega) ?_)))))
   refine kl_nil (kq_q (kt_q 8 (.cons_cons _ (List.nil_sublist _)) rfl (by kernel_rfl) (kl_ixL rfl rfl (by assumption) (by first | omega | (simp only [List.length_set]; omega)) (by first | omega | (simp only [List.length_set]; omega)) (fun p21 q22 => ?_))))
   refine kl_nil (kq_q (kt_q 9 (.cons_cons _ (List.nil_sublist _)) rfl (by kernel_rfl) (kl_ldS rfl (OwnL.atQ o11 (by assumption) (by first | omega | (simp only [List.length_set]; omega) : (z - (1 : Int)).toNat < ws.length)) rfl ?_)))
   refine kl_nil (kq_q (kt_q 10 (.cons_cons _ (List.nil_sublist _)) rfl (by kernel_rfl) (kl_mv rfl (kl_nil (kq_q (kt_q 11 (.cons_cons _ (List.nil_sublist _)) rfl (by kernel_rfl) (kl_mv rfl (kl_nil (kq_q (kt_q 12 (.cons_cons _ (List.nil_sublist _)) rfl (by kernel_rfl) (kl_ixL rfl rfl (by assumption) (by first | omega | (simp only [List.length_set]; omega)) (by first | omega | (simp only [List.length_set]; omega)) (fun p23 q24 => ?_))))))))))))
   refine kl_nil (kq_q (kt_q 13 (.cons_cons _ (List.nil_sublist _)) rfl (by kernel_rfl) (kl_ldS rfl (OwnL.atQ o11 (by assumption) (by first | omega | (simp only [List.length_set]; omega) : z.toNat < ws.length)) rfl ?_)))
   refine kl_nil (kq_q (kt_q 14 (.cons_cons _ (List.nil_sublist _)) rfl (by kernel_rfl) (kl_ixL rfl rfl (by assumption) (by first | omega | (simp only [List.length_set]; omega)) (by first | omega | (simp only [List.length_set]; omega)) (fun p25 q26 => ?_))))
   refine kl_nil (kq_q (kt_a 15 rfl (by kernel_rfl) (kl_stLk (us := [.int .i64 ((ws.getD ((z - (1 : Int)).toNat) nilLit).var), .int .i64 ((ws.getD ((z - (1 : Int)).toNat) nilLit).val), .bool ((ws.getD ((z - (1 : Int)).toNat) nilLit).neg)]) (ws.getD ((z - (1 : Int)).toNat) nilLit) rfl rfl (by assumption) o11 (by first | omega | (simp only [List.length_set]; omega)) rfl rfl (oc rfl (oc rfl (oc rfl oc_nil))) rfl (fun H27 o28 f29 => ?_))))
   refine kl_chg [H27] rfl ?_
   refine kl_nil (kq_x rfl (kt_a 16 rfl (by kernel_rfl) (kl_ixL rfl rfl (by assumption) (by first | omega | (simp only [List.length_set]; omega)) (by first | omega | (simp only [List.length_set]; omega)) (fun p31 q32 => ?_))))
   refine kl_nil (kq_x rfl (kt_a 17 rfl (by kernel_rfl) (kl_stLk (us := [.int .i64 ((ws.getD z.toNat nilLit).var), .int .i64 ((ws.getD z.toNat nilLit).val), .bool ((ws.getD z.toNat nilLit).neg)]) (ws.getD z.toNat nilLit) rfl rfl (by assumption) o28 (by first | omega | (simp only [List.length_set]; omega)) rfl rfl (oc rfl (oc rfl (oc rfl oc_nil))) rfl (fun H33 o34 f35 => ?_))))
   refine kl_chg [H33] rfl ?_
   refine kl_nil (kq_x rfl (kt_end (by kernel_rfl) ?_))
   refine kq_code (kc_region (kl_mv rfl (kl_sub rfl rfl (by omega) ?_)))
   refine kl_as rfl (kl_nil (kq_take [H33] ?_))
   refine kq_roundL ((j - 1), (z - (1 : Int)), ((ws.set z.toNat (ws.getD ((z - (1 : Int)).toNat) nilLit)).set ((z - (1 : Int)).toNat) (ws.getD z.toNat nilLit)), H33) (by omega) (⟨(by omega), (so_step litC_tot hi9 (by omega) (by assumption)), o34⟩) (pc 9 rfl pn) (pc 0 rfl (pc 1 rfl (pc 2 rfl (pc 3 rfl (pc 8 rfl (pc 12 rfl (pc 13 rfl (pc 14 rfl (pc 17 rfl pn))))))))) rfl (List.Sublist.refl _)
  ·skip
   have c20r := c20
   try simp only [smpC, decide_eq_true_eq, decide_eq_false_iff_not] at c20
   refine kc_exit (kq_code (kc_region (kl_mv rfl (kl_inc rfl rfl (by omega) ?_))))
   refine kl_as rfl (kl_nil (kq_take [H10] ?_))
   refine kq_roundL ((i + 1), ws, H10) (by omega) (⟨by omega, (so_exit litC_tot hi9 (by assumption)), o11⟩) (pc 8 rfl pn) (pc 0 rfl (pc 1 rfl (pc 2 rfl (pc 3 rfl pn)))) rfl (List.Sublist.refl _)
 ·skip
  refine kc_exit ?_
  exact kq_retT0 rfl [H3] [] noHp frn (fr_no _) ⟨H3, _, rfl, rfl, o4, (SrtA.le hi2 (by omega))⟩
theorem pdqL_ok {Hs : Hp} {vs : Value} (xs : List Lit) (l : Int) (hn : xs.length ≤ 12) (os : OwnL 107 3 Hs noHp LitV vs xs) : SpecT Tryz.prog 199 [vs, .int .i64 0, .int .i64 (xs.length : Int), .int .i64 l, .func (.func 169) #[] #[]] [Hs] [] (fun vq L1 Ln _ => ∃ (Hq : Hp) (ys : List Lit), L1 = [Hq] ∧ Ln = [] ∧ OwnL 107 3 Hq noHp LitV vs ys ∧ SrtA litCmp nilLit xs ys xs.length) := by
 have hlen := os.len
 refine specT_of Tryz.func199 rfl rfl rfl (fun B => ?_)
 refine kc_seq (kc_region (kl_as rfl (kl_nil (kq_code (kc_seq (kc_region (kl_as rfl (kl_nil (kq_code (kc_block (kc_loop0 (A := Int × Int × Int × Bool × Bool) (fun zz => (zz.1 = 0 ∧ zz.2.1 = (xs.length : Int))) (fun zz => 0) (fun zz => [(1, .int .i64 zz.1), (2, .int .i64 zz.2.1), (3, .int .i64 zz.2.2.1), (10, .bool zz.2.2.2.1), (11, .bool zz.2.2.2.2)]) ((0 : Int), (xs.length : Int), l, true, true) (pc 0 rfl (pc 4 rfl pn)) (pc 1 rfl (pc 2 rfl (pc 3 rfl (pc 10 rfl (pc 11 rfl pn))))) (⟨rfl, rfl⟩) ?_)))))))))))
 rintro ⟨za, zb, zl, p, q⟩ hJ3
 have hi2 : (za = 0 ∧ zb = (xs.length : Int)) := hJ3
 change KC _ _ (_) _ _ ([(1, .int .i64 za), (2, .int .i64 zb), (3, .int .i64 zl), (10, .bool p), (11, .bool q)] ++ _)
 refine kc_block (kc_seq (kc_region (kl_mv rfl (kl_mv rfl (kl_sub rfl rfl (by omega) ?_)))))
 refine kl_as rfl (kl_nil (kq_code (kc_seq (kc_seq (kc_region (kl_mv rfl (kl_leq rfl rfl ?_)))))))
 refine kl_nil (kq_code (kc_if rfl (fun c4 => ?_) (fun c4 => ?_)))
 ·skip
  refine kc_seq (kc_region (kl_mv rfl (kl_mv rfl (kl_mv rfl (kl_mv rfl (kl_callT rfl rfl (insL_ok xs za zb (by omega) (by omega)  (by omega) os) (fun v5 L1 Ln K6 h7 g8 g9 => ?_)))))))
  obtain ⟨H10, y11, rfl, rfl, o12, h13⟩ := h7
  refine kl_norm ?_
  refine kl_nil (kq_code (kc_ret ?_))
  exact kq_retT0 rfl [H10] [] noHp frn (fr_no _) ⟨H10, _, rfl, rfl, o12, h13⟩
 ·skip
  exfalso; omega
theorem srtL_ok {Hs : Hp} {vs : Value} (xs : List Lit) (hn : xs.length ≤ 12) (os : OwnL 107 3 Hs noHp LitV vs xs) : SpecT Tryz.prog 186 [vs, .func (.func 169) #[] #[]] [Hs] [] (fun vq L1 Ln _ => ∃ (Hq : Hp) (ys : List Lit), L1 = [Hq] ∧ Ln = [] ∧ OwnL 107 3 Hq noHp LitV vs ys ∧ SrtA litCmp nilLit xs ys xs.length) := by
 have hlen := os.len
 refine specT_of Tryz.func186 rfl rfl rfl (fun B => ?_)
 refine kc_seq (kc_region (kl_mv rfl (kl_lenL rfl os (fun l1 => ?_))))
 refine kl_as rfl (kl_nil (kq_code (kc_region (kl_mv rfl (kl_mv rfl (kl_mv rfl (kl_cvu rfl (by omega) ?_)))))))
 refine kl_call rfl rfl (lenZ_ok (xs.length : Int) (by omega)) (fun v2 H3 f4 h5 => ?_)
 obtain ⟨z6, rfl, h7⟩ := h5
 refine kl_mv rfl (kl_callT rfl rfl (pdqL_ok xs z6  (by omega) os) (fun v8 L1 Ln K9 h10 g11 g12 => ?_))
 obtain ⟨H13, y14, rfl, rfl, o15, h16⟩ := h10
 refine kl_norm ?_
 refine kl_nil ?_
 exact kq_retT0 rfl [H13] [] noHp frn (fr_no _) ⟨H13, _, rfl, rfl, o15, h16⟩
theorem compactL_ok {Hxs : Hp} {vxs : Value} (xs : List Lit) (hd : ∀ k : Nat, 0 < k → k < xs.length → xs.getD k nilLit ≠ xs.getD ((k : Int) - 1).toNat nilLit) (hxs : Lits Hxs vxs xs) : Spec Tryz.prog 188 [vxs] [Hxs] ((fun Hq vq => vq = vxs)) := by
 refine spec_of Tryz.func188 rfl rfl rfl (fun B => ?_)
 refine kc_seq (kc_region (kl_as rfl (kl_nil (kq_code (kc_seq (kc_seq (kc_region (kl_mv rfl (kl_len rfl (by assumption) (fun l1 => ?_))))))))))
 refine kl_lss rfl rfl ?_
 refine kl_nil (kq_code (kc_if rfl (fun c2 => ?_) (fun c2 => ?_)))
 ·skip
  refine kc_seq (kc_region (kl_mv rfl (kl_as rfl (kl_nil (kq_code (kc_ret ?_))))))
  exact kq_ret rfl rfl noHp (fr_no _) rfl
 ·skip
  refine kc_skipQ (kq_code (kc_seq (kc_seq (kc_region (kl_as rfl (kl_nil (kq_code (kc_block (kc_loop0 (A := Nat) (fun zz => (1 ≤ zz) ∧ (True)) (fun zz => xs.length - zz) (fun zz => [(3, .int .i64 (zz : Int))]) (1) (pc 0 rfl pn) (pc 3 rfl pn) ⟨(Nat.le_refl 1), trivial⟩ ?_)))))))))
  rintro k hJ5
  obtain ⟨hk3, hi4⟩ : (1 ≤ k) ∧ (True) := hJ5
  change KC _ _ (_) _ _ ([(3, .int .i64 (k : Int))] ++ _)
  refine kc_seq (kc_seq (kc_region (kl_mv rfl (kl_mv rfl (kl_len rfl (by assumption) (fun l6 => ?_))))))
  refine kl_lss rfl rfl ?_
  refine kl_nil (kq_code (kc_if rfl (fun c7 => ?_) (fun c7 => ?_)))
  ·skip
   refine kc_skipQ (kq_code (kc_seq (kc_block (kc_seq (kc_draw 10 [true, true, true, true, true, true, true, true, true, true] (by kernel_rfl) (by kernel_rfl) ?_)))))
   refine kl_mv rfl (kl_mv rfl (kl_inQ rfl rfl (by assumption) (by omega) (fun p8 a9 => ?_)))
   refine kl_ldS rfl (by assumption) rfl ?_
   refine kl_mv rfl (kl_mv rfl (kl_sub rfl rfl (by omega) ?_))
   refine kl_ixQ rfl rfl (by assumption) (by omega) (by omega) (fun p10 a11 => ?_)
   refine kl_ldS rfl (by assumption) rfl ?_
   refine kl_eqlQ rfl rfl ?_
   refine kl_nil (kq_code (kc_cond rfl (fun c12 => ?_) (fun c12 => ?_)))
   ·skip
    have c12r := c12
    try simp only [smpC, decide_eq_true_eq, decide_eq_false_iff_not] at c12
    exact absurd c12 (hd k (by omega) (by omega))
   ·skip
    have c12r := c12
    try simp only [smpC, decide_eq_true_eq, decide_eq_false_iff_not] at c12
    refine kc_skipQ (kq_code (kc_region (kl_mv rfl (kl_inc rfl rfl (by omega) ?_))))
    refine kl_as rfl (kl_nil (kq_round0 ((k + 1)) (by omega) (⟨by omega, trivial⟩) (pc 3 rfl pn) (pc 0 rfl pn) (List.Sublist.refl _)))
  ·skip
   refine kc_exit (kq_code (kc_seq (kc_region (kl_mv rfl (kl_as rfl (kl_nil (kq_code (kc_ret ?_))))))))
   exact kq_ret rfl rfl noHp (fr_no _) rfl
theorem cloneL_ok {Hxs : Hp} {vxs : Value} (xs : List Lit) (hb : xs.length ≤ 1000) (hxs : Lits Hxs vxs xs) : Spec Tryz.prog 119 [vxs] [Hxs] (fun Hq vq => OwnL 107 3 Hq noHp LitV vq xs) := by
 refine spec_of Tryz.func119 rfl rfl rfl (fun B => ?_)
 refine kc_seq (kc_region (kl_as rfl (kl_nil (kq_code (kc_seq (kc_seq (kc_region (kl_mv rfl (kl_eqlnilX rfl rfl (by assumption) (fun bn nn nx => ?_))))))))))
 refine kl_nil (kq_code (kc_cond rfl (fun c3 => ?_) (fun c3 => ?_)))
 ·skip
  have c3r := c3
  try simp only [smpC, decide_eq_true_eq, decide_eq_false_iff_not] at c3
  refine kc_seq (kc_region (kl_as rfl (kl_nil (kq_code (kc_ret ?_)))))
  exact kq_ret rfl rfl noHp (fr_no _) (by rw [nn (by assumption)]; exact OwnL.nil)
 ·skip
  have c3r := c3
  try simp only [smpC, decide_eq_true_eq, decide_eq_false_iff_not] at c3
  refine kc_skipQ (kq_code (kc_seq (kc_region (kl_bs0k (K := noHp) LitV rfl (fun v4 H5 f6 o7 => ?_)))))
  refine kl_mv rfl (kl_apS rfl rfl o7 (by assumption) (fun _ _ h => h) (by simp; omega) (by decide) (fun v8 H9 o10 f11 => ?_))
  have f12 := f11 B f6 (Nat.le_refl _)
  refine kl_as rfl (kl_nil (kq_code (kc_ret ?_)))
  exact kq_ret rfl rfl H9 f12 o10
theorem clipL_ok {Hxs : Hp} {vxs : Value} (xs : List Lit) (hxs : Lits Hxs vxs xs) : Spec Tryz.prog 187 [vxs] [Hxs] (fun _ vq => Lits Hxs vq xs ∧ ClipV vxs vq xs.length) := by
 refine spec_of Tryz.func187 rfl rfl rfl (fun B => ?_)
 refine kc_seq (kc_region (kl_as rfl (kl_nil (kq_code (kc_seq (kc_region (kl_mv rfl (kl_mv rfl (kl_len rfl (by assumption) (fun l1 => ?_))))))))))
 refine kl_mv rfl (kl_len rfl (by assumption) (fun l2 => ?_))
 refine kl_clipV rfl rfl rfl (by assumption) (by omega) (fun u3 h4 h4v => ?_)
 refine kl_as rfl (kl_nil (kq_code (kc_ret ?_)))
 exact kq_ret rfl rfl noHp (fr_no _) ⟨by assumption, by assumption⟩
theorem sortedL_ok {Hc : Hp} {vc : Value} (c : List Lit) (hnd : c.Nodup) (hn : c.length ≤ 12) (hc : Lits Hc vc c) : Spec Tryz.prog 162 [vc] [Hc] ((fun Hq vq => ∃ ys : List Lit, Lits Hq vq ys ∧ ys.Perm c ∧ SrtL litCmp nilLit ys)) := by
 refine spec_of Tryz.func162 rfl rfl rfl (fun B => ?_)
 refine kc_seq (kc_region (kl_as rfl (kl_nil (kq_code (kc_seq (kc_region (kl_mv rfl (kl_callL rfl rfl (cloneL_ok c (by omega) (by assumption)) (fun v1 H2 f3 o4 => ?_)))))))))
 refine kl_as rfl (kl_nil (kq_code (kc_seq (kc_region (kl_mv rfl (kl_callT rfl rfl (srtL_ok c  (by omega) o4) (fun v5 L1 Ln K6 h7 g8 g9 => ?_)))))))
 obtain ⟨H10, y11, rfl, rfl, o12, h13⟩ := h7
 refine kl_norm ?_
 have hcp := srt_cpt hnd h13
 refine kl_nil (kq_code (kc_seq (kc_region (kl_mv rfl (kl_call rfl rfl (compactL_ok y11 hcp.1 (OwnL.lits o12)) (fun v14 H15 f16 h17 => ?_))))))
 subst h17
 refine kl_call rfl rfl (clipL_ok y11 (OwnL.lits o12)) (fun v18 H19 f20 h21 => ?_)
 obtain ⟨h21, h22⟩ := h21
 refine kl_as rfl (kl_nil (kq_code (kc_ret (kq_own H10 (OwnL.liq (OwnL.clip o12 h22)) (fun f23 => ?_)))))
 exact kq_ret rfl rfl H10 f23 ⟨_, OwnL.lits (OwnL.clip o12 h22), hcp.2.2.1, hcp.2.2.2⟩
theorem negatedL_ok (l : Lit) : Spec Tryz.prog 161 [.agg #[.int .i64 l.var, .int .i64 l.val, .bool l.neg]] [] ((fun Hq vq => vq = .agg #[.int .i64 l.var, .int .i64 l.val, .bool (!l.neg)])) := by
 refine spec_of Tryz.func161 rfl rfl rfl (fun B => ?_)
 refine kc_seq (kc_region (kl_boxL (cs := [.int .i64 l.var, .int .i64 l.val, .bool l.neg]) rfl rfl (fun b1 hb2 => ?_)))
 refine kl_alloc (cs := [.int .i64 (0 : Int), .int .i64 (0 : Int), .bool false]) rfl (fun b3 hb4 => ?_)
 refine kl_nil (kq_code (kc_seq (kc_region (kl_fdV rfl (kl_ldB rfl rfl (kl_not rfl (kl_fdV rfl (kl_stB rfl rfl rfl rfl rfl ?_))))))))
 refine kl_chg [sing b3 (.cells [.int .i64 (0 : Int), .int .i64 (0 : Int), .bool false].toArray 107 (0, 0)), sing b1 (.cells [.int .i64 l.var, .int .i64 l.val, .bool (!l.neg)].toArray 107 (0, 0))] rfl ?_
 refine kl_nil (kq_code (kc_seq (kc_region (kl_ldW rfl rfl (kl_stW (us := [.int .i64 l.var, .int .i64 l.val, .bool (!l.neg)]) rfl rfl rfl rfl (oc rfl (oc rfl (oc rfl oc_nil))) rfl ?_)))))
 refine kl_chg [sing b3 (.cells [.int .i64 l.var, .int .i64 l.val, .bool (!l.neg)].toArray 107 (0, 0)), sing b1 (.cells [.int .i64 l.var, .int .i64 l.val, .bool (!l.neg)].toArray 107 (0, 0))] rfl ?_
 refine kl_nil (kq_code (kc_ret ?_))
 exact kq_retC rfl rfl rfl noHp (fr_no _) rfl
theorem negsL_ok {Hc : Hp} {vc : Value} (c : List Lit) (hnd : c.Nodup) (hn : c.length ≤ 12) (hc : Lits Hc vc c) : Spec Tryz.prog 120 [vc] [Hc] ((fun Hq vq => ∃ ys : List Lit, Lits Hq vq ys ∧ NegR c ys)) := by
 refine spec_of Tryz.func120 rfl rfl rfl (fun B => ?_)
 refine kc_seq (kc_region (kl_as rfl (kl_nil (kq_code (kc_seq (kc_region (kl_mv rfl (kl_len rfl (by assumption) (fun l1 => ?_)))))))))
 refine kl_mkL0 (R := LitV) rfl rfl (by omega) (by omega) (by decide) (fun v2 H3 f4 o5 => ?_)
 refine kl_as rfl (kl_nil (kq_code (kc_seq (kc_seq (kc_region (kl_mv rfl (kl_len rfl (by assumption) (fun l6 => ?_))))))))
 refine kl_mv rfl (kl_nil (kq_code (kc_block (kc_loopL (A := Nat × List Lit × Value × Hp) (fun zz => (zz.1 ≤ c.length) ∧ (zz.2.1 = negTo c zz.1) ∧ OwnL 107 3 zz.2.2.2 noHp LitV zz.2.2.1 zz.2.1 ∧ Fr B zz.2.2.2) (fun zz => c.length - zz.1) (fun zz => [zz.2.2.2]) (fun zz => [(11, .int .i64 (zz.1 : Int)), (3, zz.2.2.1)]) (0, ([]), v2, H3) (pc 2 rfl (pc 9 rfl (pc 10 rfl pn))) (pc 11 rfl (pc 3 rfl pn)) rfl ⟨Nat.zero_le _, rfl, o5, f4⟩ ?_))))
 rintro ⟨k, out, v12, H9⟩ hJ13
 obtain ⟨hk7, hi8, o10, f11⟩ : (k ≤ c.length) ∧ (out = negTo c k) ∧ OwnL 107 3 H9 noHp LitV v12 out ∧ Fr B H9 := hJ13
 change KC _ _ (_) [H9] _ ([(11, .int .i64 (k : Int)), (3, v12)] ++ _)
 refine kc_seq (kc_region (kl_lss rfl rfl ?_))
 refine kl_nil (kq_code (kc_seq (kc_if rfl (fun c14 => ?_) (fun c14 => ?_))))
 ·skip
  refine kc_skipQ (kq_code (kc_seq (kc_block (kc_seq (kc_region (kl_inQ rfl rfl (by assumption) (by omega) (fun p15 a16 => ?_)))))))
  refine kl_ldS rfl (by assumption) rfl ?_
  refine kl_alloc (cs := [.int .i64 (0 : Int), .int .i64 (0 : Int), .bool false]) rfl (fun b17 hb18 => ?_)
  refine kl_stW (us := [.int .i64 ((c.getD k nilLit).var), .int .i64 ((c.getD k nilLit).val), .bool ((c.getD k nilLit).neg)]) rfl rfl rfl rfl (oc rfl (oc rfl (oc rfl oc_nil))) rfl ?_
  refine kl_chg [sing b17 (.cells [.int .i64 ((c.getD k nilLit).var), .int .i64 ((c.getD k nilLit).val), .bool ((c.getD k nilLit).neg)].toArray 107 (0, 0)), H9] rfl ?_
  refine kl_nil (kq_code (kc_region (kl_mv rfl (kl_ldW rfl rfl (kl_call rfl rfl (negatedL_ok (c.getD k nilLit)) (fun v19 H20 f21 h22 => ?_))))))
  subst h22
  refine kl_bsQ rfl (fun v23 H24 f25 r26 h27 => ?_)
  refine kl_apL (⟨(c.getD k nilLit).var, (c.getD k nilLit).val, !(c.getD k nilLit).neg⟩ : Lit) rfl rfl o10 r26 rfl (oc rfl (oc rfl (oc rfl oc_nil))) (by (have h9 := congrArg List.length hi8; simp [negTo] at h9; omega)) (by decide) (fun v28 H29 o30 f31 => ?_)
  have f32 := f31 B f11 (Nat.le_refl _)
  refine kl_as rfl (kl_nil (kq_code (kc_region (kl_inc rfl rfl (by omega) ?_))))
  refine kl_mv rfl (kl_nil (kq_take [H29] ?_))
  refine kq_roundL ((k + 1), (out ++ [(⟨(c.getD k nilLit).var, (c.getD k nilLit).val, !(c.getD k nilLit).neg⟩ : Lit)]), v28, H29) (by omega) (⟨by omega, (negTo_step hi8 (by omega)), o30, f32⟩) (pc 11 rfl (pc 3 rfl pn)) (pc 2 rfl (pc 9 rfl (pc 10 rfl pn))) rfl (List.Sublist.refl _)
 ·skip
  have hnp := neg_pre hnd hi8 (by omega) hn
  refine kc_exit (kq_code (kc_seq (kc_region (kl_mv rfl (kl_call rfl rfl (sortedL_ok out hnp.1 hnp.2.1 (OwnL.lits o10)) (fun v33 H34 f35 h36 => ?_))))))
  obtain ⟨y37, h38, h39, h40⟩ := h36
  have hsrt := And.intro h39 h40
  refine kl_as rfl (kl_nil (kq_code (kc_ret ?_)))
  exact kq_ret rfl rfl H34 f35 ⟨_, (by assumption), ⟨by rw [← hnp.2.2]; exact hsrt.1, hsrt.2⟩⟩
end Go.Proofs.YtojinjdobjodaaaGreat
