/- Parts of the proof: a logic of partial frames, plain functions, walks of the program's functions. Conditions: those that each statement names. -/
import Derived.Test.YtolndgeihijlbaaGreatKBoundOptimal5
namespace Go.Proofs.YtolndgeihijlbaaGreat
open Go
set_option linter.unusedSimpArgs false
set_option linter.unusedVariables false
section
theorem filtered_ok {Hmd : Hp} {vmd : Value} {Hmc : Hp} {vmc : Value} {Hds : Hp} {vds : Value} (m : Mod) (ds : List Int) (hM : MOk m) (hd : DOk m.doms.length ds) (hmd : Ints Hmd vmd m.doms) (hmc : Cons Hmc vmc m.cons) (hds : Ints Hds vds ds) : Spec Tryz.prog 136 [.agg #[vmd, vmc], vds] [Hmd, Hmc, Hds] (fun Hq vq => Ints (orHp Hds Hq) vq (filtA m ds)) := by
 refine spec_of Tryz.func136 rfl rfl rfl (fun B => ?_)
 refine cS (cr (kl_box rfl rfl (fun p1 H2 f3 a4 => ?_)))
 refine sg rfl (ln (qc (cS (cS (cr (fd9 rfl ‹_› (fun p5 a6 => ?_)))))))
 refine ld rfl ‹_› (le9 rfl ‹_› (fun l7 => ?_))
 refine mv rfl (ln (qc (bl (kc_loopK (A := Nat × List Int × Value × Hp) (fun zz => (zz.1 ≤ m.cons.length) ∧ (zz.2.1 = filtC (m.cons.take zz.1) ds) ∧ Fr B zz.2.2.2 ∧ Ints (orHp Hds zz.2.2.2) zz.2.2.1 zz.2.1) (fun zz => m.cons.length - zz.1) (fun zz => zz.2.2.2) (fun zz => []) (fun zz => [(10, .int .i64 (zz.1 : Int)), (1, zz.2.2.1)]) (0, ds, vds, noHp) (pk [4, 8, 9] rfl) (pk [10, 1] rfl) rfl ⟨Nat.zero_le _, rfl, (fr_no _), (Sl.mono ‹_› orL (fun _ _ h => h))⟩ ?_))))
 rintro ⟨k, xs, v10, K11⟩ hJ14
 obtain ⟨hk8, hi9, f12, h13⟩ : (k ≤ m.cons.length) ∧ (xs = filtC (m.cons.take k) ds) ∧ Fr B K11 ∧ Ints (orHp Hds K11) v10 xs := hJ14
 change KC _ _ (K11 :: _) [] _ ([(10, .int .i64 (k : Int)), (1, v10)] ++ _)
 refine cS (cr (ls9 rfl rfl ?_))
 refine ln (qc (cS (ci9 rfl (fun c15 => ?_) (fun c15 => ?_))))
 ·have hD := filtC_at hM hd hi9
  have hC : ConOk (m.cons.getD k nilCon) xs.length := (by rw [hD.l]; exact ⟨hM.c (by omega)⟩)
  refine sk (qc (cS (bl (cS (cr (kl_inC rfl rfl ‹_› (by omega) (fun p16 u18 u19 u20 h21 h22 h23 a17 => ?_)))))))
  refine kl_ldS rfl ‹_› rfl ?_
  refine kl_alloc (cs := [.int .i64 (0 : Int), .slice none 0 0, .slice none 0 0, .int .i64 (0 : Int), .slice none 0 0]) rfl (fun b24 hb25 => ?_)
  refine kl_stW (us := [.int .i64 ((m.cons.getD k nilCon).kind), u18, u19, .int .i64 ((m.cons.getD k nilCon).bound), u20]) rfl rfl rfl rfl (oc rfl (oc (Sl.oneCell ‹_›) (oc (Sl.oneCell ‹_›) (oc rfl (oc (Sl.oneCell ‹_›) oc_nil))))) rfl ?_
  refine ln (qc (cr (kl_ldW rfl rfl (mv rfl (kl_call rfl rfl (filter_ok (m.cons.getD k nilCon) xs hC hD.d ‹_› ‹_› ‹_› ‹_›) (fun v26 H27 f28 h29 => ?_))))))
  refine sg rfl (ln (qc (cr (ic9 rfl rfl (by omega) ?_))))
  refine mv rfl (ln (kq_cmp Hds H27 (fun c30 => ?_)))
  refine kq_roundK ((k + 1), (filtL (m.cons.getD k nilCon) xs), v26, H27) (by omega) (⟨by omega, (by rw [filtC_step (by omega), ← hi9]), f28, (Sl.mono ‹_› (orC c30) (fun _ _ h => h))⟩) (pk [10, 1] rfl) (pk [4, 8, 9] rfl) rfl (.cons _ slr9)
 ·refine ex9 (qc (cS (cr (mv rfl (sg rfl (ln (qc (rt ?_))))))))
  have e9 : xs = filtA m ds := by (rw [hi9, List.take_of_length_le (by omega)]; rfl)
  exact kq_ret rfl rfl K11 f12 (e9 ▸ (by assumption : Ints _ _ xs))
theorem fixI_ok {Hds : Hp} {vds : Value} {Hmd : Hp} {vmd : Value} {Hmc : Hp} {vmc : Value} (ds : List Int) (m : Mod) (hM : MOk m) (hd : DOk m.doms.length ds) (hds : Ints Hds vds ds) (hmd : Ints Hmd vmd m.doms) (hmc : Cons Hmc vmc m.cons) : Spec Tryz.prog 135 [vds, .func (.func 136) #[.agg #[vmd, vmc]] #[]] [Hds, Hmd, Hmc] (fun Hq vq => Ints Hq vq (prop m ds)) := by
 refine spec_of Tryz.func135 rfl rfl rfl (fun B => ?_)
 refine cS (cr (sg rfl (ln (qc (cS (cr (mv rfl (kl_call rfl rfl (copied_ok ds (by have := hd.l; have := hM.n; omega) ‹_›) (fun v1 H2 f3 o4 => ?_)))))))))
 have h5 := OwnL.ints o4
 refine sg rfl (ln (qc (bl (kc_loopK (A := List Int × Value × Hp) (fun zz => (DOk m.doms.length zz.1 ∧ prop m zz.1 = prop m ds) ∧ Fr B zz.2.2 ∧ Ints zz.2.2 zz.2.1 zz.1) (fun zz => sumN zz.1) (fun zz => zz.2.2) (fun zz => []) (fun zz => [(5, zz.2.1)]) (ds, v1, H2) (pc 1 rfl pn) (pc 5 rfl pn) rfl ⟨⟨hd, rfl⟩, f3, ‹_›⟩ ?_))))
 rintro ⟨xs, v8, K9⟩ hJ12
 obtain ⟨hi7, f10, h11⟩ : (DOk m.doms.length xs ∧ prop m xs = prop m ds) ∧ Fr B K9 ∧ Ints K9 v8 xs := hJ12
 change KC _ _ (K9 :: _) [] _ ([(5, v8)] ++ _)
 have hD := hi7.1
 refine bl (cS (cS (cr (mv rfl (cP rfl rfl (containsInts_ok xs (0 : Int) ‹_›) ?_)))))
 refine ln (qc (cd9 rfl (fun c13 => ?_) (fun c13 => ?_)))
 ·have c13r := c13
  try simp only [smpE] at c13
  refine cS (cr (mv rfl (le9 rfl ‹_› (fun l14 => ?_))))
  refine kl_mkL (R := IntV) (0 : Int) rfl rfl (by (have := hD.l; have := hM.n; omega)) (by decide) (by exact rfl) (fun v15 H16 f17 o18 => ?_)
  refine sg rfl (ln (qc (rt ?_)))
  have e9 : (List.replicate xs.length (0 : Int)) = prop m ds := by (rw [← hi7.2]; exact (prop_0 ‹_›).symm)
  exact kq_ret rfl rfl H16 f17 (e9 ▸ OwnL.ints o18)
 ·have c13r := c13
  try simp only [smpE] at c13
  refine sk (qc (cS (cr (mv rfl (mv rfl (kl_callB rfl rfl (filtered_ok m xs hM hD ‹_› ‹_› ‹_›) (fun v19 H20 f21 h22 => ?_)))))))
  refine sg rfl (ln (qc (cS (cS (cr (mv rfl (mv rfl (cP rfl rfl (equal_ok (filtA m xs) xs ‹_› ‹_›) ?_))))))))
  refine ln (qc (cd9 rfl (fun c23 => ?_) (fun c23 => ?_)))
  ·have c23r := c23
   try simp only [smpE] at c23
   refine cS (cr (mv rfl (sg rfl (ln (qc (rt ?_))))))
   have e9 : xs = prop m ds := by (rw [← hi7.2]; exact (prop_fix ‹_› ‹_›).symm)
   exact kq_ret rfl rfl K9 f10 (e9 ▸ (by assumption : Ints _ _ xs))
  ·have c23r := c23
   try simp only [smpE] at c23
   refine sk (qc (cr (mv rfl (sg rfl (ln (kq_roundK ((filtA m xs), v19, (orHp K9 H20)) (by (dsimp only; exact filtA_lt hM hD ‹_›)) (⟨⟨(filtA_ok hM hD).1, (prop_step hM hD ‹_› ‹_›).trans hi7.2⟩, (fr_or f10 f21), ‹_›⟩) (pc 5 rfl pn) (pc 1 rfl pn) rfl slr9))))))
theorem propagate_ok {Hmd : Hp} {vmd : Value} {Hmc : Hp} {vmc : Value} {Hds : Hp} {vds : Value} (m : Mod) (ds : List Int) (hM : MOk m) (hd : DOk m.doms.length ds) (hmd : Ints Hmd vmd m.doms) (hmc : Cons Hmc vmc m.cons) (hds : Ints Hds vds ds) : Spec Tryz.prog 92 [.agg #[vmd, vmc], vds] [Hmd, Hmc, Hds] (fun Hq vq => Ints Hq vq (prop m ds)) := by
 refine spec_of Tryz.func92 rfl rfl rfl (fun B => ?_)
 refine cS (cr (kl_box rfl rfl (fun p1 H2 f3 a4 => ?_)))
 refine sg rfl (ln (qc (cS (cr (mv rfl (kl_ldS rfl ‹_› rfl ?_))))))
 refine kl_mkfB rfl rfl ?_
 refine kl_call rfl rfl (fixI_ok ds m hM hd ‹_› ‹_› ‹_›) (fun v5 H6 f7 h8 => ?_)
 refine sg rfl (ln (qc (rt ?_)))
 exact kq_ret rfl rfl H6 f7 ‹_›
theorem solutions_ok {Hmd : Hp} {vmd : Value} {Hmc : Hp} {vmc : Value} (m : Mod) (hM : MOk m) (hmd : Ints Hmd vmd m.doms) (hmc : Cons Hmc vmc m.cons) : Spec Tryz.prog 53 [.agg #[vmd, vmc]] [Hmd, Hmc] (fun Hq vq => Rows Hq vq (sols m)) := by
 have hn := hM.n
 have hp := propOk hM hM.dok
 refine spec_ofR Tryz.func53 rfl rfl rfl (fun B => ?_)
 refine cS (cr (kl_box rfl rfl (fun p1 H2 f3 a4 => ?_)))
 refine sg rfl (ln (qc (cS (cr (kl_bs0 RowV rfl (fun v5 H6 f7 o8 => ?_))))))
 refine kl_alloc (cs := [.slice none 0 0]) rfl (fun b9 hb10 => ?_)
 refine sB rfl rfl rfl (OwnL.oneCell ‹_›) (OwnL.cells ‹_›) ?_
 refine cg [sing b9 (.cells [v5].toArray 40 (0, 0)), H6] rfl ?_
 refine ln (qc (cS (cS (cr (kl_ldS rfl ‹_› rfl ?_)))))
 refine fd9 rfl ‹_› (fun p11 a12 => ?_)
 refine ld rfl ‹_› (kl_call rfl rfl (propagate_ok m m.doms hM hM.dok ‹_› ‹_› ‹_›) (fun v13 H14 f15 h16 => ?_))
 refine kl_call rfl rfl (tuples_ok (prop m m.doms) ‹_›) (fun v17 H18 f19 h20 => ?_)
 obtain ⟨p21, rfl, a22⟩ := h20
 refine ln (qc (bl (kc_noO ?_)))
 refine kc_range (A := List (List Int) × Value × Hp × Hp) (fun zz => [zz.2.2.2, sing b9 (.cells [zz.2.1].toArray 40 (0, 0)), zz.2.2.1]) (fun n zz => (zz.1 = ((tupL (prop m m.doms)).take n).filter (isSolB m)) ∧ Fr B zz.2.2.2 ∧ OwnL 23 1 zz.2.2.1 zz.2.2.2 RowV zz.2.1 zz.1 ∧ Fr B zz.2.2.1) (fun _ _ => False) (([]), v5, H6, noHp) rfl (tuples_it (prop m m.doms) hp.ok.d (by have := hp.ok.l; omega) a22 ‹_›) (pk [1, 2, 3] rfl) rfl rfl ⟨rfl, (fr_no _), o8, f7⟩ ?_ ?_ (fun _ _ _ _ h => h.elim)
 ·rintro l30 m31 D32 r33 H34 v35 n ⟨out, v24, H25, K28⟩ hk36 hJ37 h38
  obtain ⟨hi23, f29, o26, f27⟩ : (out = ((tupL (prop m m.doms)).take n).filter (isSolB m)) ∧ Fr B K28 ∧ OwnL 23 1 H25 K28 RowV v24 out ∧ Fr B H25 := hJ37
  have hb := mem_tupL.1 (getD_mem (d := []) hk36)
  have hT := take_succ_getD [] hk36
  obtain ⟨x, hx⟩ : ∃ x, (tupL (prop m m.doms)).getD n [] = x := ⟨_, rfl⟩
  rw [hx] at h38 hb hT
  have hX := hb.vals
  have hl := hb.1
  have hl2 := hp.ok.l
  have hr := sol_room hp.ok hn.2 hi23 hk36
  change KC _ _ _ (rdy l30 r33 :: [K28, sing b9 (.cells [v24].toArray 40 (0, 0)), H25]) _ _
  refine cr (sg rfl (ln (kq_begin (r := r33) ?_)))
  refine bl (cS (cr (kl_ldS rfl ‹_› rfl ?_)))
  refine mv rfl (cP rfl rfl (isSol_ok m x hM (by omega) hX ‹_› ‹_› ‹_›) ?_)
  refine ln (qc (cd9 rfl (fun c40 => ?_) (fun c40 => ?_)))
  ·have c40r := c40
   try simp only [smpE] at c40
   refine kc_tree (fun i => ([4, 5] : List Nat).contains i) [sing b9 (.cells [v24].toArray 40 (0, 0))] (by kernel_rfl) ?_
   refine kt_q 0 (.cons _ (.cons _ (.cons_cons _ nsl))) rfl (by kernel_rfl) (ld rfl (at_box (T := 40) (cs := [v24]) (off := 0) (fz := (0, 0))) (ln (qq (kt_q 1 (.cons _ (.cons _ (.cons_cons _ nsl))) rfl (by kernel_rfl) (mv rfl (ln (qq (ta 2 rfl (kl_callL rfl rfl (copied_ok x (by omega) ‹_›) (fun v41 H42 f43 o44 => ?_))))))))))
   refine ln (qa (.cons _ (.cons _ (.cons _ (.cons_cons _ nsl)))) (ta 3 rfl (bs9 rfl rfl rfl (by decide) (ca (by first | exact Sl.cells ‹_› | exact OwnL.cells ‹_›) ca_nil) (fun v45 H46 f47 r48 s49 => ?_))))
   refine ln (qa (.cons _ (.cons _ (.cons _ (.cons_cons _ nsl)))) ?_)
   have h50 := OwnL.ints o44
   refine ta 4 rfl (cm9 K28 H42 (fun c51 => ?_))
   have o52 := OwnL.mono (K' := orHp K28 H42) o26 orL
   refine aL9 x rfl rfl o52 ‹_› ⟨_, rfl, Sl.mono ‹_› (orC c51) (fun _ _ h => h)⟩ (oc (Sl.oneCell ‹_›) oc_nil) (by omega) (by decide) (fun v53 H54 o55 f56 => ?_)
   have f57 := f56 B f27 (Nat.le_refl _)
   refine ln (qx rfl (ta 5 rfl (sB rfl rfl rfl (OwnL.oneCell ‹_›) (OwnL.cells ‹_›) ?_)))
   refine cg [H42, bsy l30 r33, K28, sing b9 (.cells [v53].toArray 40 (0, 0)), H54] rfl ?_
   refine ln (qx rfl (kt_end (by kernel_rfl) ?_))
   refine kq_mrg K28 H42 ?_
   refine tk [bsy l30 r33, orHp K28 H42, sing b9 (.cells [v53].toArray 40 (0, 0)), H54] ?_
   exact kq_rend (invx := fun _ _ => False) ((out ++ [x]), v53, H54, (orHp K28 H42)) ⟨(by rw [hT, List.filter_append, ← hi23]; first | rw [filter_oneT ‹_›] | (rw [filter_oneF ‹_›, List.append_nil])), (fr_or f29 f43), o55, f57⟩ rfl inferInstance slr9
  ·have c40r := c40
   try simp only [smpE] at c40
   refine sk (tk [bsy l30 r33, K28, sing b9 (.cells [v24].toArray 40 (0, 0)), H25] ?_)
   exact kq_rend (invx := fun _ _ => False) (out, v24, H25, K28) ⟨(by rw [hT, List.filter_append, ← hi23]; first | rw [filter_oneT ‹_›] | (rw [filter_oneF ‹_›, List.append_nil])), f29, o26, f27⟩ rfl inferInstance slr9
 ·rintro D58 ⟨out, v24, H25, K28⟩ hD59 hJ60
  obtain ⟨hi23, f29, o26, f27⟩ : (out = ((tupL (prop m m.doms)).take ((tupL (prop m m.doms)).length)).filter (isSolB m)) ∧ Fr B K28 ∧ OwnL 23 1 H25 K28 RowV v24 out ∧ Fr B H25 := hJ60
  change KQ _ _ ([K28, sing b9 (.cells [v24].toArray 40 (0, 0)), H25]) _ _
  refine qc (cS (cr (lB rfl rfl (sg rfl (ln (qc (rt (kq_cmp H25 K28 (fun c61 => ?_)))))))))
  have e9 : out = sols m := by rw [hi23, List.take_length]; exact sols_prop hM
  exact kq_retR (rss1 rfl (rs_tmp rfl)) (orHp H25 K28) (fr_or f27 f29) (e9 ▸ OwnL.rowsK o26 c61) (df1 hD59)
end
section
theorem sequal_ok {Ha : Hp} {va : Value} {Hb : Hp} {vb : Value} (a : List Int) (b : List Int) (ha : Ints Ha va a) (hb : Ints Hb vb b) : SpecP Tryz.prog 168 [va, vb] [Ha, Hb] (.bool (decide (a = b))) := by
 refine spec_of Tryz.func168 rfl rfl rfl (fun B => ?_)
 refine cS (cr (sg rfl (ln (qc (cS (cS (cr (mv rfl (le9 rfl ‹_› (fun l1 => ?_))))))))))
 refine mv rfl (le9 rfl ‹_› (fun l2 => ?_))
 refine kl_neq rfl rfl ?_
 refine ln (qc (ci9 rfl (fun c3 => ?_) (fun c3 => ?_)))
 ·refine cS (cr (sg rfl (ln (qc (rt (kq_retP rfl rfl (congrArg Value.bool ?_)))))))
  exact eq_len ‹_›
 ·refine sk (qc (cS (cS (cr (sg rfl (ln (qc (bl (kc_loop0 (A := Nat) (fun zz => (zz ≤ a.length) ∧ (a.take zz = b.take zz)) (fun zz => a.length - zz) (fun zz => [(5, .int .i64 (zz : Int))]) (0) (pk [0, 1] rfl) (pc 5 rfl pn) ⟨Nat.zero_le _, by simp⟩ ?_)))))))))
  rintro k hJ6
  obtain ⟨hk4, hi5⟩ : (k ≤ a.length) ∧ (a.take k = b.take k) := hJ6
  change KC _ _ (_) _ _ ([(5, .int .i64 (k : Int))] ++ _)
  refine cS (cS (cr (mv rfl (mv rfl (le9 rfl ‹_› (fun l7 => ?_))))))
  refine ls9 rfl rfl ?_
  refine ln (qc (ci9 rfl (fun c8 => ?_) (fun c8 => ?_)))
  ·refine sk (qc (cS (bl (cS (kc_draw 9 [true, true, true, true, true, true, true, true, true] (by kernel_rfl) (by kernel_rfl) ?_)))))
   refine mv rfl (mv rfl (kl_inI rfl rfl ‹_› (by omega) (fun p9 a10 => ?_)))
   refine ld rfl ‹_› (mv rfl (mv rfl (kl_inI rfl rfl ‹_› (by omega) (fun p11 a12 => ?_))))
   refine ld rfl ‹_› (kl_neq rfl rfl ?_)
   refine ln (qc (ci9 rfl (fun c13 => ?_) (fun c13 => ?_)))
   ·refine cS (cr (sg rfl (ln (qc (rt (kq_retP rfl rfl (congrArg Value.bool ?_)))))))
    exact eq_at (k := k) 0 (by simpa using by assumption)
   ·refine sk (qc (cr (mv rfl (ic9 rfl rfl (by omega) ?_))))
    refine sg rfl (ln (kq_round0 ((k + 1)) (by omega) (⟨by omega, eq_step 0 (by omega) (by omega) hi5 (by first | exact Decidable.not_not.1 ‹_› | (simpa using by assumption))⟩) (pc 5 rfl pn) (pk [0, 1] rfl) slr9))
  ·refine ex9 (qc (cS (cr (sg rfl (ln (qc (rt (kq_retP rfl rfl (congrArg Value.bool ?_)))))))))
   exact eq_end (k := k) (by omega) (by omega) ‹_›
abbrev walkSt (k : Nat) : Prop := ∀ {He Hcv Hca Hcr Hd Hx Hs : Hp} {pe vcv vca vcr vd vx vs : Value} (c : Con) (ds x p s : List Int) (T : List (List Int)) (i : Nat) (hC : ConOk c ds.length) (hd : DomV ds) (hk : i + k = c.vars.length) (hx : x.length = c.vars.length) (hp : x.take i = p) (hv : Vals p) (hs : s = suppV c T)
  (hcv : Ints Hcv vcv c.vars) (hca : Ints Hca vca c.args) (hcr : Rows Hcr vcr c.rows) (hds : Ints Hd vd ds) (ae : At He pe [.int .i64 c.kind, vcv, vca, .int .i64 c.bound, vcr, vd, vx, vs]) (ox : OwnL 3 1 Hx noHp IntV vx x) (os : OwnL 3 1 Hs noHp IntV vs s),
  SpecT Tryz.prog 183 [pe, .int .i64 (i : Int)] [Hx, Hs] [He, Hcv, Hca, Hcr, Hd] (fun vq L1 Ln _ => vq = .tuple #[] ∧ Ln = [] ∧ ∃ (Hx2 Hs2 : Hp) (x2 : List Int), L1 = [Hx2, Hs2] ∧ OwnL 3 1 Hx2 noHp IntV vx x2 ∧ x2.length = c.vars.length ∧ x2.take i = p ∧ OwnL 3 1 Hs2 noHp IntV vs (suppV c (T ++ extP (wordL c.vars ds) i p)))
theorem walk_step (k : Nat) (ih : ∀ j, j < k → walkSt j) : walkSt k := by
 intro He Hcv Hca Hcr Hd Hx Hs pe vcv vca vcr vd vx vs c ds x p s T i hC hd hk hx hp hv hs hcv hca hcr hds ae ox os
 have ho := hC.one
 have hpl : p.length = i := (by rw [← hp, List.length_take]; omega)
 refine specT_of Tryz.func183 rfl rfl rfl (fun B => ?_)
 refine cS (cS (cr (mv rfl (mv rfl (kl_nilchkA rfl ‹_› ?_)))))
 refine fd9 rfl ‹_› (fun p1 a2 => ?_)
 refine ld rfl ‹_› (lL rfl ox (fun l3 => ?_))
 refine eq9 rfl rfl ?_
 refine ln (qc (ci9 rfl (fun c4 => ?_) (fun c4 => ?_)))
 ·have hxp : x = p := (by rw [← hp, List.take_of_length_le (by omega)])
  have hS : SatOk c x := sat_of hC hx (hxp ▸ hv)
  refine cS (cS (kc_tree (fun i => ([8] : List Nat).contains i) [] (by kernel_rfl) ?_))
  refine tq 0 nsl rfl (mv rfl (ln (qq (tq 1 nsl rfl (kl_nilchkA rfl ‹_› ?_)))))
  refine ln (qq (tq 2 nsl rfl (fd9 rfl ‹_› (fun p5 a6 => ?_))))
  refine ln (qq (tq 3 nsl rfl (kl_ldS rfl (At.take 5 ‹_›) rfl ?_)))
  refine ln (qq (tq 4 nsl rfl (mv rfl (ln (qq (tq 5 nsl rfl (kl_nilchkA rfl ‹_› ?_)))))))
  refine ln (qq (tq 6 nsl rfl (fd9 rfl ‹_› (fun p7 a8 => ?_))))
  refine ln (qq (tq 7 nsl rfl (ld rfl ‹_› (ln (qq (ta 8 rfl (cP rfl rfl (satisfies_ok c x hS ‹_› ‹_› ‹_› (OwnL.ints ox)) ?_)))))))
  refine ln (qx rfl (kt_end (by kernel_rfl) ?_))
  refine qc (cd9 rfl (fun c9 => ?_) (fun c9 => ?_))
  ·have c9r := c9
   try simp only [smpE] at c9
   refine cS (cr (sg rfl (ln (qc (bl (kc_loopL (A := Nat × List Int × Hp) (fun zz => (zz.1 ≤ x.length) ∧ (zz.2.1 = suppM c T x zz.1) ∧ OwnL 3 1 zz.2.2 noHp IntV vs zz.2.1) (fun zz => x.length - zz.1) (fun zz => [Hx, zz.2.2]) (fun zz => [(4, .int .i64 (zz.1 : Int))]) (0, s, Hs) (pk [0, 1] rfl) (pc 4 rfl pn) rfl ⟨Nat.zero_le _, (by rw [hs, suppM_0]), os⟩ ?_))))))
   rintro ⟨k1, s1, H12⟩ hJ15
   obtain ⟨hk10, hi11, o13⟩ : (k1 ≤ x.length) ∧ (s1 = suppM c T x k1) ∧ OwnL 3 1 H12 noHp IntV vs s1 := hJ15
   change KC _ _ (_) [Hx, H12] _ ([(4, .int .i64 (k1 : Int))] ++ _)
   have hln : s1.length = c.vars.length := (by rw [hi11]; exact suppM_len c T x k1)
   refine cS (cS (cr (mv rfl (mv rfl (kl_nilchkA rfl ‹_› ?_)))))
   refine fd9 rfl ‹_› (fun p16 a17 => ?_)
   refine ld rfl ‹_› (lL rfl ox (fun l18 => ?_))
   refine ls9 rfl rfl ?_
   refine ln (qc (ci9 rfl (fun c19 => ?_) (fun c19 => ?_)))
   ·have hv1 := hS.val.at (k := k1) (by omega)
    have hsl := shl_le hv1
    have hsb := supp_addle (c := c) (T := T) hS (by omega : k1 < x.length)
    rw [← hi11] at hsb
    refine sk (qc (cS (bl (cS (kc_draw 16 [true, true, true, true, true, true, true, true, true, true, true, true, true, true, false, true] (by kernel_rfl) (by kernel_rfl) ?_)))))
    refine mv rfl (kl_nilchkA rfl ‹_› ?_)
    refine fd9 rfl ‹_› (fun p20 a21 => ?_)
    refine ld rfl ‹_› (mv rfl (kl_ixLn rfl rfl ‹_› (by omega) (fun p22 q23 => ?_)))
    refine kl_ldLI rfl ‹_› ‹_› (by omega) ?_
    refine mv rfl (kl_nilchkA rfl ‹_› ?_)
    refine fd9 rfl ‹_› (fun p24 a25 => ?_)
    refine ld rfl ‹_› (mv rfl (kl_ixLn rfl rfl ‹_› (by omega) (fun p26 q27 => ?_)))
    refine kl_ldLI rfl ‹_› ‹_› (by omega) ?_
    refine cP rfl rfl (domainHas_ok (s1.getD k1 0) (x.getD k1 0)) ?_
    refine nt9 rfl (ln (qc (cd9 rfl (fun c28 => ?_) (fun c28 => ?_))))
    ·have c28r := c28
     try simp only [smpE] at c28
     refine kc_draw 22 [true, true, true, true, true, true, true, true, true, true, true, true, true, true, true, true, true, true, true, true, true, true, false] (by kernel_rfl) (by kernel_rfl) ?_
     refine mv rfl (kl_nilchkA rfl ‹_› ?_)
     refine fd9 rfl ‹_› (fun p29 a30 => ?_)
     refine ld rfl ‹_› (mv rfl (mv rfl (kl_nilchkA rfl ‹_› ?_)))
     refine fd9 rfl ‹_› (fun p31 a32 => ?_)
     refine ld rfl ‹_› (mv rfl (kl_ixLn rfl rfl ‹_› (by omega) (fun p33 q34 => ?_)))
     refine kl_ldLI rfl ‹_› ‹_› (by omega) ?_
     refine mv rfl (kl_nilchkA rfl ‹_› ?_)
     refine fd9 rfl ‹_› (fun p35 a36 => ?_)
     refine ld rfl ‹_› (mv rfl (kl_ixLn rfl rfl ‹_› (by omega) (fun p37 q38 => ?_)))
     refine kl_ldLI rfl ‹_› ‹_› (by omega) ?_
     refine kl_shl rfl rfl (by omega) ?_
     refine ad9 rfl rfl (by omega) ?_
     refine kl_ixLn rfl rfl ‹_› (by omega) (fun p39 q40 => ?_)
     refine kl_stL ((s1.getD k1 0) + (ishl (1 : Int) (x.getD k1 0))) rfl rfl ‹_› o13 (by omega) rfl rfl rfl (fun H41 o42 f43 => ?_)
     refine ln (qc (cr (mv rfl (ic9 rfl rfl (by omega) ?_))))
     refine sg rfl (ln (rL ((k1 + 1), (s1.set k1 ((s1.getD k1 0) + (ishl (1 : Int) (x.getD k1 0)))), H41) (by omega) (⟨by omega, (by rw [hi11] at *; first | exact supp_stepS ‹_› hS (by omega) ‹_› | exact supp_stepN ‹_› hS (by omega) ‹_›), o42⟩) (pc 4 rfl pn) (pk [0, 1] rfl) rfl slr9))
    ·have c28r := c28
     try simp only [smpE] at c28
     refine sk (qc (cr (mv rfl (ic9 rfl rfl (by omega) ?_))))
     refine sg rfl (ln (rL ((k1 + 1), s1, H12) (by omega) (⟨by omega, (by rw [hi11] at *; first | exact supp_stepS ‹_› hS (by omega) ‹_› | exact supp_stepN ‹_› hS (by omega) ‹_›), o13⟩) (pc 4 rfl pn) (pk [0, 1] rfl) rfl slr9))
   ·refine ex9 (qc (rt ?_))
    exact kq_retT0 rfl [Hx, H12] [] noHp frn (fr_no _) ⟨rfl, rfl, Hx, H12, x, rfl, ox, hx, hp, OwnL.cast (by rw [extP_base (by simp [wordL]; omega), ← hxp]; exact supp_stepT hi11 hS (by omega)) o13⟩
  ·have c9r := c9
   try simp only [smpE] at c9
   refine sk (qc (rt ?_))
   exact kq_retT0 rfl [Hx, Hs] [] noHp frn (fr_no _) ⟨rfl, rfl, Hx, Hs, x, rfl, ox, hx, hp, OwnL.cast (by rw [extP_base (by simp [wordL]; omega), ← hxp, suppV_no ‹_›]; exact hs) os⟩
 ·refine sk (qc (cS (cr (sg rfl (ln (qc (bl (kc_loopL (A := Nat × List Int × Hp × List Int × Hp) (fun zz => (zz.1 ≤ 6) ∧ (zz.2.1.length = c.vars.length ∧ zz.2.1.take i = p ∧ zz.2.2.2.1 = suppV c (T ++ extTo (wordL c.vars ds) i p zz.1)) ∧ OwnL 3 1 zz.2.2.1 noHp IntV vx zz.2.1 ∧ OwnL 3 1 zz.2.2.2.2 noHp IntV vs zz.2.2.2.1) (fun zz => 6 - zz.1) (fun zz => [zz.2.2.1, zz.2.2.2.2]) (fun zz => [(5, .int .i64 (zz.1 : Int))]) (0, x, Hx, s, Hs) (pk [0, 1] rfl) (pc 5 rfl pn) rfl ⟨Nat.zero_le _, ⟨hx, hp, by rw [extTo_0, List.append_nil]; exact hs⟩, ox, os⟩ ?_))))))))
  rintro ⟨v, x1, H47, s1, H50⟩ hJ53
  obtain ⟨hk45, hi46, o48, o51⟩ : (v ≤ 6) ∧ (x1.length = c.vars.length ∧ x1.take i = p ∧ s1 = suppV c (T ++ extTo (wordL c.vars ds) i p v)) ∧ OwnL 3 1 H47 noHp IntV vx x1 ∧ OwnL 3 1 H50 noHp IntV vs s1 := hJ53
  change KC _ _ (_) [H47, H50] _ ([(5, .int .i64 (v : Int))] ++ _)
  refine cS (cS (cr (mv rfl (kl_leq rfl rfl ?_))))
  refine ln (qc (ci9 rfl (fun c54 => ?_) (fun c54 => ?_)))
  ·have hv2 := hC.at (k := i) (by omega)
   refine sk (qc (cS (bl (cS (kc_tree (fun i => ([15] : List Nat).contains i) [] (by kernel_rfl) ?_)))))
   refine tq 0 nsl rfl (mv rfl (ln (qq (tq 1 nsl rfl (kl_nilchkA rfl ‹_› ?_)))))
   refine ln (qq (tq 2 nsl rfl (fd9 rfl ‹_› (fun p55 a56 => ?_))))
   refine ln (qq (tq 3 nsl rfl (ld rfl ‹_› (ln (qq (tq 4 nsl rfl (mv rfl (ln (qq (tq 5 nsl rfl (kl_nilchkA rfl ‹_› ?_)))))))))))
   refine ln (qq (tq 6 nsl rfl (fd9 rfl ‹_› (fun p57 a58 => ?_))))
   refine ln (qq (tq 7 nsl rfl (fd9 rfl ‹_› (fun p59 a60 => ?_))))
   refine ln (qq (tq 8 nsl rfl (ld rfl ‹_› (ln (qq (tq 9 nsl rfl (mv rfl (ln (qq (tq 10 nsl rfl (kl_inI rfl rfl ‹_› (by omega) (fun p61 a62 => ?_))))))))))))
   refine ln (qq (tq 11 nsl rfl (ld rfl ‹_› (ln (qq (tq 12 nsl rfl (kl_ixI rfl rfl ‹_› (by omega) (by omega) (fun p63 a64 => ?_))))))))
   refine ln (qq (tq 13 nsl rfl (ld rfl ‹_› (ln (qq (tq 14 nsl rfl (mv rfl (ln (qq (ta 15 rfl (cP rfl rfl (domainHas_ok (ds.getD (c.vars.getD i 0).toNat 0) (v : Int)) ?_)))))))))))
   refine ln (qx rfl (kt_end (by kernel_rfl) ?_))
   refine qc (cd9 rfl (fun c65 => ?_) (fun c65 => ?_))
   ·have c65r := c65
    try simp only [smpE] at c65
    have hb1 : hasB ((wordL c.vars ds).getD i 0) (v : Int) = true := (by rw [word_at (by omega), ← dh_iff (by omega : v < 6)]; exact c65r)
    refine cS (cr (mv rfl (kl_nilchkA rfl ‹_› ?_)))
    refine fd9 rfl ‹_› (fun p66 a67 => ?_)
    refine ld rfl ‹_› (mv rfl (mv rfl (kl_ixLn rfl rfl ‹_› (by omega) (fun p68 q69 => ?_))))
    refine kl_stL (v : Int) rfl rfl ‹_› o48 (by omega) rfl rfl rfl (fun H70 o71 f72 => ?_)
    refine ln (qc (cr (mv rfl (mv rfl (ic9 rfl rfl (by omega) ?_)))))
    refine cT (vs := [_, .int .i64 (((i + 1) : Nat) : Int)]) rfl rfl (ih (k - 1) (by omega) c ds (x1.set i (v : Int)) (p ++ [(v : Int)]) s1 (T ++ extTo (wordL c.vars ds) i p v) (i + 1) hC hd (by omega) (by rw [List.length_set]; exact hi46.1) (take_set_succ hi46.2.1 (by omega)) (hv.snoc (by omega)) hi46.2.2 hcv hca hcr hds ae o71 o51) (fun v74 L1 Ln K75 h76 g77 g78 => ?_)
    obtain ⟨rfl, rfl, H79, H80, x81, rfl, o82, h83, h84, o85⟩ := h76
    refine nm ?_
    refine ln (qc (cr (mv rfl (ic9 rfl rfl (by omega) ?_))))
    refine sg rfl (ln (rL ((v + 1), x81, H79, (suppV c ((T ++ extTo (wordL c.vars ds) i p v) ++ extP (wordL c.vars ds) (i + 1) (p ++ [(v : Int)]))), H80) (by omega) (⟨by omega, ⟨h83, take_of_succ h84 hpl, (by rw [← extTo_T hb1, List.append_assoc])⟩, o82, o85⟩) (pc 5 rfl pn) (pk [0, 1] rfl) rfl slr9))
   ·have c65r := c65
    try simp only [smpE] at c65
    have hb1 : hasB ((wordL c.vars ds).getD i 0) (v : Int) = false := (by rw [word_at (by omega), ← dh_iff (by omega : v < 6)]; exact c65r)
    refine sk (qc (cr (mv rfl (ic9 rfl rfl (by omega) ?_))))
    refine sg rfl (ln (rL ((v + 1), x1, H47, s1, H50) (by omega) (⟨by omega, ⟨hi46.1, hi46.2.1, (by rw [hi46.2.2, extTo_F hb1])⟩, o48, o51⟩) (pc 5 rfl pn) (pk [0, 1] rfl) rfl slr9))
  ·refine ex9 ?_
   exact kq_retT0 rfl [H47, H50] [] noHp frn (fr_no _) ⟨rfl, rfl, H47, H50, x1, rfl, o48, hi46.1, hi46.2.1, OwnL.cast (by rw [hi46.2.2, extTo_6 (by simp [wordL]; omega) (by omega)]) o51⟩
theorem walk_ok (k : Nat) : walkSt k := by
 induction k using Nat.strongRecOn with
 | _ k ih => exact @walk_step k ih
end
section
theorem supported_ok {Hcv : Hp} {vcv : Value} {Hca : Hp} {vca : Value} {Hcr : Hp} {vcr : Value} {Hds : Hp} {vds : Value} (c : Con) (ds : List Int) (hC : ConOk c ds.length) (hd : DomV ds) (hcv : Ints Hcv vcv c.vars) (hca : Ints Hca vca c.args) (hcr : Rows Hcr vcr c.rows) (hds : Ints Hds vds ds) : Spec Tryz.prog 158 [.agg #[.int .i64 c.kind, vcv, vca, .int .i64 c.bound, vcr], vds] [Hcv, Hca, Hcr, Hds] (fun Hq vq => Ints Hq vq (filtL c ds)) := by
 have ho := hC.one
 refine spec_of Tryz.func158 rfl rfl rfl (fun B => ?_)
 refine cS (cr (kl_box rfl rfl (fun p1 H2 f3 a4 => ?_)))
 refine sg rfl (ln (qc (cS (kc_tree (fun i => ([10, 11] : List Nat).contains i) [] (by kernel_rfl) ?_))))
 refine tq 0 nsl rfl (kl_ldS rfl ‹_› rfl ?_)
 refine ln (qq (tq 1 nsl rfl (mv rfl (ln (qq (tq 2 nsl rfl (fd9 rfl ‹_› (fun p5 a6 => ?_))))))))
 refine ln (qq (tq 3 nsl rfl (ld rfl ‹_› (ln (qq (tq 4 nsl rfl (le9 rfl ‹_› (fun l7 => ?_))))))))
 refine ln (qq (tq 6 nsl rfl (fd9 rfl ‹_› (fun p8 a9 => ?_))))
 refine ln (qq (tq 7 nsl rfl (ld rfl ‹_› (ln (qq (tq 8 nsl rfl (le9 rfl ‹_› (fun l10 => ?_))))))))
 refine ln (qq (kt_b 5 9 rfl rfl (by kernel_rfl) ?_ ?_))
 ·refine kl_mkL (R := IntV) (0 : Int) rfl rfl (by omega) (by decide) (by exact rfl) (fun v11 H12 f13 o14 => ?_)
  refine ln (qa nsl (ta 9 rfl (kl_mkL (R := IntV) (0 : Int) rfl rfl (by omega) (by decide) (by exact rfl) (fun v15 H16 f17 o18 => ?_))))
  refine ln (qa nsl (ta 10 rfl (kl_bdA [(0, [.int .i64 c.kind, vcv, vca, .int .i64 c.bound, vcr]), (1, [vds]), (2, [v11]), (3, [v15])] [.int .i64 c.kind, vcv, vca, .int .i64 c.bound, vcr, vds, v11, v15] rfl (cpa rfl (cpa (Sl.cells ‹_›) (cpa (OwnL.cells ‹_›) (cpa (OwnL.cells ‹_›) cpa_nil)))) rfl ?_)))
  refine ln (qx rfl (ta 11 rfl (kl_box rfl rfl (fun p19 H20 f21 a22 => ?_))))
  refine ln (qx rfl (tq 12 nsl rfl (sg rfl (ln (qq (kt_end (by kernel_rfl) ?_))))))
  refine qc (cS (cr (mv rfl (cT (vs := [_, .int .i64 ((0 : Nat) : Int)]) rfl rfl (walk_ok c.vars.length c ds (List.replicate c.vars.length (0 : Int)) [] (List.replicate c.vars.length (0 : Int)) [] 0 hC hd (by omega) (by simp) rfl vals_nil (suppV_0 c).symm hcv hca hcr hds a22 o14 o18) (fun v23 L1 Ln K24 h25 g26 g27 => ?_)))))
  obtain ⟨rfl, rfl, H28, H29, x30, rfl, o31, h32, h33, o34⟩ := h25
  refine nm ?_
  refine ln (qc (cS (cr (mv rfl (kl_callL rfl rfl (copyInts_ok ds (by omega) ‹_›) (fun v35 H36 f37 o38 => ?_))))))
  refine sg rfl (ln (qc (cS (cS (cr (sg rfl (ln (qc (bl (kc_loopL (A := Nat × List Int × Hp) (fun zz => (zz.1 ≤ c.vars.length) ∧ (zz.2.1 = filtTo c ds (suppV c ([] ++ extP (wordL c.vars ds) 0 [])) zz.1) ∧ OwnL 3 1 zz.2.2 noHp IntV v35 zz.2.1 ∧ Fr B zz.2.2) (fun zz => c.vars.length - zz.1) (fun zz => [zz.2.2, H28, H29]) (fun zz => [(7, .int .i64 (zz.1 : Int))]) (0, ds, H36) (pk [2, 4, 5, 6] rfl) (pc 7 rfl pn) rfl ⟨Nat.zero_le _, rfl, o38, f37⟩ ?_))))))))))
  rintro ⟨k, out, H41⟩ hJ44
  obtain ⟨hk39, hi40, o42, f43⟩ : (k ≤ c.vars.length) ∧ (out = filtTo c ds (suppV c ([] ++ extP (wordL c.vars ds) 0 [])) k) ∧ OwnL 3 1 H41 noHp IntV v35 out ∧ Fr B H41 := hJ44
  change KC _ _ (_) [H41, H28, H29] _ ([(7, .int .i64 (k : Int))] ++ _)
  have hln : out.length = ds.length := (by rw [hi40]; exact filtTo_len c ds _ k)
  refine cS (cS (cr (mv rfl (fd9 rfl ‹_› (fun p45 a46 => ?_)))))
  refine ld rfl ‹_› (le9 rfl ‹_› (fun l47 => ?_))
  refine ls9 rfl rfl ?_
  refine ln (qc (ci9 rfl (fun c48 => ?_) (fun c48 => ?_)))
  ·have hv2 := hC.at (k := k) (by omega)
   have hll := suppV_len c ([] ++ extP (wordL c.vars ds) 0 [])
   refine sk (qc (cS (bl (kc_tree (fun i => ([14] : List Nat).contains i) [H29] (by kernel_rfl) ?_))))
   refine kt_q 0 (.cons _ (.cons _ (.cons_cons _ nsl))) rfl (by kernel_rfl) (mv rfl (ln (qq (kt_q 1 (.cons _ (.cons _ (.cons_cons _ nsl))) rfl (by kernel_rfl) (fd9 rfl ‹_› (fun p49 a50 => ?_))))))
   refine ln (qq (kt_q 2 (.cons _ (.cons _ (.cons_cons _ nsl))) rfl (by kernel_rfl) (ld rfl ‹_› (ln (qq (kt_q 3 (.cons _ (.cons _ (.cons_cons _ nsl))) rfl (by kernel_rfl) (mv rfl (ln (qq (kt_q 4 (.cons _ (.cons _ (.cons_cons _ nsl))) rfl (by kernel_rfl) (kl_inI rfl rfl ‹_› (by omega) (fun p51 a52 => ?_))))))))))))
   refine ln (qq (kt_q 5 (.cons _ (.cons _ (.cons_cons _ nsl))) rfl (by kernel_rfl) (ld rfl ‹_› (ln (qq (kt_q 6 (.cons _ (.cons _ (.cons_cons _ nsl))) rfl (by kernel_rfl) (mv rfl (ln (qq (kt_q 7 (.cons _ (.cons _ (.cons_cons _ nsl))) rfl (by kernel_rfl) (kl_nilchkA rfl ‹_› ?_)))))))))))
   refine ln (qq (kt_q 8 (.cons _ (.cons _ (.cons_cons _ nsl))) rfl (by kernel_rfl) (fd9 rfl ‹_› (fun p53 a54 => ?_))))
   refine ln (qq (kt_q 9 (.cons _ (.cons _ (.cons_cons _ nsl))) rfl (by kernel_rfl) (ld rfl ‹_› (ln (qq (kt_q 10 (.cons _ (.cons _ (.cons_cons _ nsl))) rfl (by kernel_rfl) (mv rfl (ln (qq (kt_q 11 (.cons _ (.cons _ (.cons_cons _ nsl))) rfl (by kernel_rfl) (kl_ixLn rfl rfl ‹_› (by omega) (fun p55 q56 => ?_))))))))))))
   refine ln (qq (kt_q 12 (.cons _ (.cons _ (.cons_cons _ nsl))) rfl (by kernel_rfl) (kl_ldLIe rfl ‹_› ‹_› (by omega) ?_)))
   refine ln (qq (kt_q 13 (.cons _ (.cons _ (.cons_cons _ nsl))) rfl (by kernel_rfl) (kl_ixL rfl rfl ‹_› (by omega) (by omega) (fun p57 q58 => ?_))))
   refine ln (qq (ta 14 rfl (kl_stL ((suppV c ([] ++ extP (wordL c.vars ds) 0 [])).getD k 0) rfl rfl ‹_› o42 (by omega) rfl rfl rfl (fun H59 o60 f61 => ?_))))
   have f62 := f61 _ f43
   refine cg [H59, H28, H29] rfl ?_
   refine ln (qx rfl (kt_end (by kernel_rfl) ?_))
   refine qc (cr (mv rfl (ic9 rfl rfl (by omega) ?_)))
   refine sg rfl (ln (tk [H59, H28, H29] ?_))
   refine rL ((k + 1), (out.set ((c.vars.getD k 0).toNat) ((suppV c ([] ++ extP (wordL c.vars ds) 0 [])).getD k 0)), H59) (by omega) (⟨by omega, (by rw [hi40, filtTo_succ]), o60, f62⟩) (pc 7 rfl pn) (pk [2, 4, 5, 6] rfl) rfl slr9
  ·refine ex9 (qc (cS (cr (mv rfl (sg rfl (ln (qc (rt ?_))))))))
   have e9 : out = filtL c ds := by (rw [hi40, show k = c.vars.length from by omega, List.nil_append, extP_all]; rfl)
   exact kq_ret rfl rfl H41 f43 (e9 ▸ OwnL.ints o42)
 ·refine kl_mkL (R := IntV) (0 : Int) rfl rfl (by omega) (by decide) (by exact rfl) (fun v63 H64 f65 o66 => ?_)
  refine ln (qa nsl (ta 5 rfl (kl_mkL (R := IntV) (0 : Int) rfl rfl (by omega) (by decide) (by exact rfl) (fun v67 H68 f69 o70 => ?_))))
  refine ln (qa nsl (ta 10 rfl (kl_bdA [(0, [.int .i64 c.kind, vcv, vca, .int .i64 c.bound, vcr]), (1, [vds]), (2, [v67]), (3, [v63])] [.int .i64 c.kind, vcv, vca, .int .i64 c.bound, vcr, vds, v67, v63] rfl (cpa rfl (cpa (Sl.cells ‹_›) (cpa (OwnL.cells ‹_›) (cpa (OwnL.cells ‹_›) cpa_nil)))) rfl ?_)))
  refine ln (qx rfl (ta 11 rfl (kl_box rfl rfl (fun p71 H72 f73 a74 => ?_))))
  refine ln (qx rfl (tq 12 nsl rfl (sg rfl (ln (qq (kt_end (by kernel_rfl) ?_))))))
  refine qc (cS (cr (mv rfl (cT (vs := [_, .int .i64 ((0 : Nat) : Int)]) rfl rfl (walk_ok c.vars.length c ds (List.replicate c.vars.length (0 : Int)) [] (List.replicate c.vars.length (0 : Int)) [] 0 hC hd (by omega) (by simp) rfl vals_nil (suppV_0 c).symm hcv hca hcr hds a74 o70 o66) (fun v75 L1 Ln K76 h77 g78 g79 => ?_)))))
  obtain ⟨rfl, rfl, H80, H81, x82, rfl, o83, h84, h85, o86⟩ := h77
  refine nm ?_
  refine ln (qc (cS (cr (mv rfl (kl_callL rfl rfl (copyInts_ok ds (by omega) ‹_›) (fun v87 H88 f89 o90 => ?_))))))
  refine sg rfl (ln (qc (cS (cS (cr (sg rfl (ln (qc (bl (kc_loopL (A := Nat × List Int × Hp) (fun zz => (zz.1 ≤ c.vars.length) ∧ (zz.2.1 = filtTo c ds (suppV c ([] ++ extP (wordL c.vars ds) 0 [])) zz.1) ∧ OwnL 3 1 zz.2.2 noHp IntV v87 zz.2.1 ∧ Fr B zz.2.2) (fun zz => c.vars.length - zz.1) (fun zz => [zz.2.2, H80, H81]) (fun zz => [(7, .int .i64 (zz.1 : Int))]) (0, ds, H88) (pk [2, 4, 5, 6] rfl) (pc 7 rfl pn) rfl ⟨Nat.zero_le _, rfl, o90, f89⟩ ?_))))))))))
  rintro ⟨k, out, H93⟩ hJ96
  obtain ⟨hk91, hi92, o94, f95⟩ : (k ≤ c.vars.length) ∧ (out = filtTo c ds (suppV c ([] ++ extP (wordL c.vars ds) 0 [])) k) ∧ OwnL 3 1 H93 noHp IntV v87 out ∧ Fr B H93 := hJ96
  change KC _ _ (_) [H93, H80, H81] _ ([(7, .int .i64 (k : Int))] ++ _)
  have hln : out.length = ds.length := (by rw [hi92]; exact filtTo_len c ds _ k)
  refine cS (cS (cr (mv rfl (fd9 rfl ‹_› (fun p97 a98 => ?_)))))
  refine ld rfl ‹_› (le9 rfl ‹_› (fun l99 => ?_))
  refine ls9 rfl rfl ?_
  refine ln (qc (ci9 rfl (fun c100 => ?_) (fun c100 => ?_)))
  ·have hv2 := hC.at (k := k) (by omega)
   have hll := suppV_len c ([] ++ extP (wordL c.vars ds) 0 [])
   refine sk (qc (cS (bl (kc_tree (fun i => ([14] : List Nat).contains i) [H81] (by kernel_rfl) ?_))))
   refine kt_q 0 (.cons _ (.cons _ (.cons_cons _ nsl))) rfl (by kernel_rfl) (mv rfl (ln (qq (kt_q 1 (.cons _ (.cons _ (.cons_cons _ nsl))) rfl (by kernel_rfl) (fd9 rfl ‹_› (fun p101 a102 => ?_))))))
   refine ln (qq (kt_q 2 (.cons _ (.cons _ (.cons_cons _ nsl))) rfl (by kernel_rfl) (ld rfl ‹_› (ln (qq (kt_q 3 (.cons _ (.cons _ (.cons_cons _ nsl))) rfl (by kernel_rfl) (mv rfl (ln (qq (kt_q 4 (.cons _ (.cons _ (.cons_cons _ nsl))) rfl (by kernel_rfl) (kl_inI rfl rfl ‹_› (by omega) (fun p103 a104 => ?_))))))))))))
   refine ln (qq (kt_q 5 (.cons _ (.cons _ (.cons_cons _ nsl))) rfl (by kernel_rfl) (ld rfl ‹_› (ln (qq (kt_q 6 (.cons _ (.cons _ (.cons_cons _ nsl))) rfl (by kernel_rfl) (mv rfl (ln (qq (kt_q 7 (.cons _ (.cons _ (.cons_cons _ nsl))) rfl (by kernel_rfl) (kl_nilchkA rfl ‹_› ?_)))))))))))
   refine ln (qq (kt_q 8 (.cons _ (.cons _ (.cons_cons _ nsl))) rfl (by kernel_rfl) (fd9 rfl ‹_› (fun p105 a106 => ?_))))
   refine ln (qq (kt_q 9 (.cons _ (.cons _ (.cons_cons _ nsl))) rfl (by kernel_rfl) (ld rfl ‹_› (ln (qq (kt_q 10 (.cons _ (.cons _ (.cons_cons _ nsl))) rfl (by kernel_rfl) (mv rfl (ln (qq (kt_q 11 (.cons _ (.cons _ (.cons_cons _ nsl))) rfl (by kernel_rfl) (kl_ixLn rfl rfl ‹_› (by omega) (fun p107 q108 => ?_))))))))))))
   refine ln (qq (kt_q 12 (.cons _ (.cons _ (.cons_cons _ nsl))) rfl (by kernel_rfl) (kl_ldLIe rfl ‹_› ‹_› (by omega) ?_)))
   refine ln (qq (kt_q 13 (.cons _ (.cons _ (.cons_cons _ nsl))) rfl (by kernel_rfl) (kl_ixL rfl rfl ‹_› (by omega) (by omega) (fun p109 q110 => ?_))))
   refine ln (qq (ta 14 rfl (kl_stL ((suppV c ([] ++ extP (wordL c.vars ds) 0 [])).getD k 0) rfl rfl ‹_› o94 (by omega) rfl rfl rfl (fun H111 o112 f113 => ?_))))
   have f114 := f113 _ f95
   refine cg [H111, H80, H81] rfl ?_
   refine ln (qx rfl (kt_end (by kernel_rfl) ?_))
   refine qc (cr (mv rfl (ic9 rfl rfl (by omega) ?_)))
   refine sg rfl (ln (tk [H111, H80, H81] ?_))
   refine rL ((k + 1), (out.set ((c.vars.getD k 0).toNat) ((suppV c ([] ++ extP (wordL c.vars ds) 0 [])).getD k 0)), H111) (by omega) (⟨by omega, (by rw [hi92, filtTo_succ]), o112, f114⟩) (pc 7 rfl pn) (pk [2, 4, 5, 6] rfl) rfl slr9
  ·refine ex9 (qc (cS (cr (mv rfl (sg rfl (ln (qc (rt ?_))))))))
   have e9 : out = filtL c ds := by (rw [hi92, show k = c.vars.length from by omega, List.nil_append, extP_all]; rfl)
   exact kq_ret rfl rfl H93 f95 (e9 ▸ OwnL.ints o94)
theorem isCons_ok {Hmd : Hp} {vmd : Value} {Hmc : Hp} {vmc : Value} {Hds : Hp} {vds : Value} (m : Mod) (ds : List Int) (hM : MOk m) (hd : DOk m.doms.length ds) (hmd : Ints Hmd vmd m.doms) (hmc : Cons Hmc vmc m.cons) (hds : Ints Hds vds ds) : SpecP Tryz.prog 157 [.agg #[vmd, vmc], vds] [Hmd, Hmc, Hds] (.bool (consB m.cons ds)) := by
 refine spec_of Tryz.func157 rfl rfl rfl (fun B => ?_)
 refine cS (cr (kl_box rfl rfl (fun p1 H2 f3 a4 => ?_)))
 refine sg rfl (ln (qc (cS (cS (cr (sg rfl (ln (qc (bl (kc_loop0 (A := Nat) (fun zz => (zz ≤ m.cons.length) ∧ ((m.cons.take zz).all (fun c => decide (filtL c ds = ds)) = true)) (fun zz => m.cons.length - zz) (fun zz => [(5, .int .i64 (zz : Int))]) (0) (pk [1, 2] rfl) (pc 5 rfl pn) ⟨Nat.zero_le _, rfl⟩ ?_))))))))))
 rintro k hJ7
 obtain ⟨hk5, hi6⟩ : (k ≤ m.cons.length) ∧ ((m.cons.take k).all (fun c => decide (filtL c ds = ds)) = true) := hJ7
 change KC _ _ (_) _ _ ([(5, .int .i64 (k : Int))] ++ _)
 refine cS (cS (cr (mv rfl (fd9 rfl ‹_› (fun p8 a9 => ?_)))))
 refine ld rfl ‹_› (le9 rfl ‹_› (fun l10 => ?_))
 refine ls9 rfl rfl ?_
 refine ln (qc (ci9 rfl (fun c11 => ?_) (fun c11 => ?_)))
 ·have hC : ConOk (m.cons.getD k nilCon) ds.length := (by rw [hd.l]; exact ⟨hM.c (by omega)⟩)
  refine sk (qc (cS (bl (cS (cr (fd9 rfl ‹_› (fun p12 a13 => ?_)))))))
  refine ld rfl ‹_› (mv rfl (kl_inC rfl rfl ‹_› (by omega) (fun p14 u16 u17 u18 h19 h20 h21 a15 => ?_)))
  refine kl_ldS rfl ‹_› rfl ?_
  refine mv rfl (kl_call rfl rfl (supported_ok (m.cons.getD k nilCon) ds hC hd.d ‹_› ‹_› ‹_› ‹_›) (fun v22 H23 f24 h25 => ?_))
  refine mv rfl (cP rfl rfl (sequal_ok (filtL (m.cons.getD k nilCon) ds) ds ‹_› ‹_›) ?_)
  refine nt9 rfl (ln (qc (cd9 rfl (fun c26 => ?_) (fun c26 => ?_))))
  ·have c26r := c26
   try simp only [smpE] at c26
   refine cS (cr (sg rfl (ln (qc (rt (kq_retP rfl rfl (congrArg Value.bool ?_)))))))
   exact cons_no (k := k) (by omega) ‹_›
  ·have c26r := c26
   try simp only [smpE] at c26
   refine sk (qc (cr (mv rfl (ic9 rfl rfl (by omega) ?_))))
   refine sg rfl (ln (kq_round0 ((k + 1)) (by omega) (⟨by omega, cons_step (by omega) hi6 ‹_›⟩) (pc 5 rfl pn) (pk [1, 2] rfl) slr9))
 ·refine ex9 (qc (cS (cr (sg rfl (ln (qc (rt (kq_retP rfl rfl (congrArg Value.bool ?_)))))))))
  exact (by rw [List.take_of_length_le (by omega)] at hi6; exact hi6.symm)
theorem fixS_ok {Hmd : Hp} {vmd : Value} {Hmc : Hp} {vmc : Value} {Hds : Hp} {vds : Value} (m : Mod) (ds : List Int) (hM : MOk m) (hd : DOk m.doms.length ds) (hmd : Ints Hmd vmd m.doms) (hmc : Cons Hmc vmc m.cons) (hds : Ints Hds vds ds) : Spec Tryz.prog 117 [.agg #[vmd, vmc], vds] [Hmd, Hmc, Hds] (fun Hq vq => Ints Hq vq (prop m ds)) := by
 refine spec_of Tryz.func117 rfl rfl rfl (fun B => ?_)
 refine cS (cr (kl_box rfl rfl (fun p1 H2 f3 a4 => ?_)))
 refine sg rfl (ln (qc (cS (cr (mv rfl (kl_call rfl rfl (copyInts_ok ds (by have := hd.l; have := hM.n; omega) ‹_›) (fun v5 H6 f7 o8 => ?_)))))))
 have h9 := OwnL.ints o8
 refine sg rfl (ln (qc (cS (bl (kc_loopK (A := List Int × Value × Hp) (fun zz => (DOk m.doms.length zz.1 ∧ prop m zz.1 = prop m ds) ∧ Fr B zz.2.2 ∧ Ints zz.2.2 zz.2.1 zz.1) (fun zz => sumN zz.1) (fun zz => zz.2.2) (fun zz => []) (fun zz => [(5, zz.2.1)]) (ds, v5, H6) (pk [2, 4] rfl) (pc 5 rfl pn) rfl ⟨⟨hd, rfl⟩, f7, ‹_›⟩ ?_)))))
 rintro ⟨xs, v12, K13⟩ hJ16
 obtain ⟨hi11, f14, h15⟩ : (DOk m.doms.length xs ∧ prop m xs = prop m ds) ∧ Fr B K13 ∧ Ints K13 v12 xs := hJ16
 change KC _ _ (K13 :: _) [] _ ([(5, v12)] ++ _)
 have hD := hi11.1
 refine cS (cS (cr (kl_ldS rfl ‹_› rfl ?_)))
 refine mv rfl (cP rfl rfl (isCons_ok m xs hM hD ‹_› ‹_› ‹_›) ?_)
 refine nt9 rfl (mv rfl (jn 4 17 (.bool (!(consB m.cons xs) && !(xs.contains 0))) (pk [2, 4, 5, 9, 10, 11, 12, 13] rfl) (fun J18 => ?_) ?_))
 ·rcases Bool.eq_false_or_eq_true (!(consB m.cons xs)) with g17 | g17
  ·have g17p := g17
   try simp only [smpD] at g17p
   refine gT rfl rfl g17 (mv rfl (gT rfl rfl g17 (cP rfl rfl (hasEmpty_ok xs ‹_›) ?_)))
   refine gT rfl rfl g17 (nt9 rfl (aT rfl rfl g17 ?_))
   exact J18 _ (pk [17, 2, 4, 5, 9, 10, 11, 12, 13] rfl)
  ·refine gF rfl rfl g17 (gF rfl rfl g17 (gF rfl rfl g17 (aF (!(xs.contains 0)) rfl rfl g17 ?_)))
   exact J18 _ (pk [17, 2, 4, 5, 9, 10, 11, 12, 13] rfl)
 refine ln (qc (cd9 rfl (fun c19 => ?_) (fun c19 => ?_)))
 ·have c19r := c19
  try simp only [smpE] at c19
  have hgo := fix_go hM hD c19r
  refine sk (qc (bl (cS (cr (sg rfl (ln (qc (bl (kc_loopK (A := Nat × List Int × Value × Hp) (fun zz => (zz.1 ≤ m.cons.length) ∧ (zz.2.1 = filtC (m.cons.take zz.1) xs) ∧ Fr B zz.2.2.2 ∧ Ints zz.2.2.2 zz.2.2.1 zz.2.1) (fun zz => m.cons.length - zz.1) (fun zz => zz.2.2.2) (fun zz => []) (fun zz => [(6, .int .i64 (zz.1 : Int)), (5, zz.2.2.1)]) (0, xs, v12, K13) (pk [2, 4, 9, 10, 11, 12, 13, 17] rfl) (pk [6, 5] rfl) rfl ⟨Nat.zero_le _, rfl, f14, ‹_›⟩ ?_)))))))))
  rintro ⟨k2, ys, v22, K23⟩ hJ26
  obtain ⟨hk20, hi21, f24, h25⟩ : (k2 ≤ m.cons.length) ∧ (ys = filtC (m.cons.take k2) xs) ∧ Fr B K23 ∧ Ints K23 v22 ys := hJ26
  change KC _ _ (K23 :: _) [] _ ([(6, .int .i64 (k2 : Int)), (5, v22)] ++ _)
  refine cS (cS (cr (mv rfl (fd9 rfl ‹_› (fun p27 a28 => ?_)))))
  refine ld rfl ‹_› (le9 rfl ‹_› (fun l29 => ?_))
  refine ls9 rfl rfl ?_
  refine ln (qc (ci9 rfl (fun c30 => ?_) (fun c30 => ?_)))
  ·have hE := filtC_at hM hD hi21
   have hC : ConOk (m.cons.getD k2 nilCon) ys.length := (by rw [hE.l]; exact ⟨hM.c (by omega)⟩)
   refine sk (qc (cS (bl (cr (fd9 rfl ‹_› (fun p31 a32 => ?_))))))
   refine ld rfl ‹_› (mv rfl (kl_inC rfl rfl ‹_› (by omega) (fun p33 u35 u36 u37 h38 h39 h40 a34 => ?_)))
   refine kl_ldS rfl ‹_› rfl ?_
   refine mv rfl (kl_call rfl rfl (supported_ok (m.cons.getD k2 nilCon) ys hC hE.d ‹_› ‹_› ‹_› ‹_›) (fun v41 H42 f43 h44 => ?_))
   refine sg rfl (ln (qc (cr (mv rfl (ic9 rfl rfl (by omega) ?_)))))
   refine sg rfl (ln (kq_roundK ((k2 + 1), (filtL (m.cons.getD k2 nilCon) ys), v41, H42) (by omega) (⟨by omega, (by rw [filtC_step (by omega), ← hi21]), f43, ‹_›⟩) (pk [6, 5] rfl) (pk [2, 4, 9, 10, 11, 12, 13, 17] rfl) rfl slr9))
  ·refine ex9 (kq_roundK (ys, v22, K23) (by (dsimp only; rw [hi21, List.take_of_length_le (by omega)]; exact filtA_lt hM hD hgo.1)) (⟨(by rw [hi21, List.take_of_length_le (by omega)]; exact ⟨(filtA_ok hM hD).1, (prop_step hM hD hgo.2 hgo.1).trans hi11.2⟩), f24, ‹_›⟩) (pc 5 rfl pn) (pk [2, 4] rfl) rfl slr9)
 ·have c19r := c19
  try simp only [smpE] at c19
  have hend := fix_end hM hD c19r
  refine ex9 (qc (cS (cS (cr (mv rfl (cP rfl rfl (hasEmpty_ok xs ‹_›) ?_))))))
  refine ln (qc (cd9 rfl (fun c45 => ?_) (fun c45 => ?_)))
  ·have c45r := c45
   try simp only [smpE] at c45
   refine cS (cr (mv rfl (le9 rfl ‹_› (fun l46 => ?_))))
   refine kl_mkL (R := IntV) (0 : Int) rfl rfl (by (have := hD.l; have := hM.n; omega)) (by decide) (by exact rfl) (fun v47 H48 f49 o50 => ?_)
   refine sg rfl (ln (qc (rt ?_)))
   have e9 : (List.replicate xs.length (0 : Int)) = prop m ds := by (rw [← hi11.2]; exact (prop_0 ‹_›).symm)
   exact kq_ret rfl rfl H48 f49 (e9 ▸ OwnL.ints o50)
  ·have c45r := c45
   try simp only [smpE] at c45
   refine sk (qc (cS (cr (mv rfl (sg rfl (ln (qc (rt ?_))))))))
   have e9 : xs = prop m ds := by (rw [← hi11.2]; exact (hend ‹_›).symm)
   exact kq_ret rfl rfl K13 f14 (e9 ▸ (by assumption : Ints _ _ xs))
end
section
abbrev branchSt (k : Nat) : Prop := ∀ {b : Nat} {Hmd Hmc Hds Hf Kf : Hp} {vmd vmc vds vf : Value} (m : Mod) (ds : List Int) (found : List (List Int)) (nd : Int) (hM : MOk m) (hd : DOk m.doms.length ds) (hk : sumN ds = k) (hroom : found.length + (solT m ds).length < 4096) (lq : Liq Kf)
  (hmd : Ints Hmd vmd m.doms) (hmc : Cons Hmc vmc m.cons) (hds : Ints Hds vds ds) (of : OwnL 23 1 Hf Kf RowV vf found),
  SpecT Tryz.prog 108 [.pointer (some ⟨b, 0, none⟩), vds] [sing b (.cells [vmd, vmc, .int .i64 4096, .int .i64 nd, vf].toArray 127 (0, 0)), Hf, Kf] [Hmd, Hmc, Hds] (fun vq L1 Ln _ => vq = .tuple #[] ∧ Ln = [] ∧ ∃ (nd2 : Int) (vf2 : Value) (Hf2 Kf2 : Hp), L1 = [sing b (.cells [vmd, vmc, .int .i64 4096, .int .i64 nd2, vf2].toArray 127 (0, 0)), Hf2, Kf2] ∧ OwnL 23 1 Hf2 Kf2 RowV vf2 (found ++ solT m ds) ∧ Liq Kf2)
theorem branch_step (k : Nat) (ih : ∀ j, j < k → branchSt j) : branchSt k := by
 intro b Hmd Hmc Hds Hf Kf vmd vmc vds vf m ds found nd hM hd hk hroom lq hmd hmc hds of
 have hn := hM.n
 have hp := propOk hM hd
 have hpl := hp.ok.l
 refine specT_of Tryz.func108 rfl rfl rfl (fun B => ?_)
 refine cS (cr (mv rfl (mv rfl (kl_nilchk rfl ?_))))
 refine fV rfl (lB rfl rfl (kl_addK (κ := .i64) rfl rfl ?_))
 refine kl_nilchk rfl ?_
 refine fV rfl (sB rfl rfl rfl rfl rfl ?_)
 refine cg [sing b (.cells [vmd, vmc, .int .i64 (4096 : Int), .int .i64 (IntKind.wrap .i64 (nd + (1 : Int))), vf].toArray 127 (0, 0)), Hf, Kf] rfl ?_
 refine ln (qc (cS (cr (mv rfl (kl_nilchk rfl ?_)))))
 refine fV rfl (kl_ldSL rfl (At.take 2 (at_box (T := 127) (cs := [vmd, vmc, .int .i64 (4096 : Int), .int .i64 (IntKind.wrap .i64 (nd + (1 : Int))), vf]) (off := 0) (fz := (0, 0)))) rfl ?_)
 refine mv rfl (kl_call rfl rfl (fixS_ok m ds hM hd ‹_› ‹_› ‹_›) (fun v1 H2 f3 h4 => ?_))
 refine sg rfl (ln (qc (cS (cS (cr (mv rfl (cP rfl rfl (hasEmpty_ok (prop m ds) ‹_›) ?_)))))))
 refine ln (qc (cd9 rfl (fun c5 => ?_) (fun c5 => ?_)))
 ·have c5r := c5
  try simp only [smpE] at c5
  refine rt ?_
  exact kq_retT0 rfl [sing b (.cells [vmd, vmc, .int .i64 (4096 : Int), .int .i64 (IntKind.wrap .i64 (nd + (1 : Int))), vf].toArray 127 (0, 0)), Hf, Kf] [] noHp frn (fr_no _) ⟨rfl, rfl, (IntKind.wrap .i64 (nd + (1 : Int))), vf, Hf, Kf, rfl, OwnL.cast (by rw [solT_empty hM hd ‹_›, List.append_nil]) of, lq⟩
 ·have c5r := c5
  try simp only [smpE] at c5
  have hne : (prop m ds).contains 0 = false := (by simpa using c5r)
  refine sk (qc (cS (cr (sg rfl (ln (qc (cS (bl (kc_loop0 (A := Nat) (fun zz => (zz ≤ (prop m ds).length) ∧ (∀ j, j < zz → (valsI ((prop m ds).getD j 0)).length = 1)) (fun zz => (prop m ds).length - zz) (fun zz => [(5, .int .i64 (zz : Int))]) (0) (pk [0, 4] rfl) (pc 5 rfl pn) ⟨Nat.zero_le _, (fun _ h => absurd h (Nat.not_lt_zero _))⟩ ?_)))))))))
  rintro i hJ8
  obtain ⟨hk6, hi7⟩ : (i ≤ (prop m ds).length) ∧ (∀ j, j < i → (valsI ((prop m ds).getD j 0)).length = 1) := hJ8
  change KC _ _ (_) _ _ ([(5, .int .i64 (i : Int))] ++ _)
  refine cS (cS (cr (mv rfl (mv rfl (le9 rfl ‹_› (fun l9 => ?_))))))
  refine ls9 rfl rfl ?_
  refine mv rfl (jn 8 39 (.bool (decide ((i : Int) < ((prop m ds).length : Int)) && decide (((valsI ((prop m ds).getD i 0)).length : Int) = (1 : Int)))) (pk [0, 4, 5, 27, 28, 29, 30, 31] rfl) (fun J18 => ?_) ?_)
  ·rcases Bool.eq_false_or_eq_true (decide ((i : Int) < ((prop m ds).length : Int))) with g10 | g10
   ·have g10p := of_decide_eq_true g10
    refine gT rfl rfl g10 (mv rfl (gT rfl rfl g10 (mv rfl (gT rfl rfl g10 (kl_inI rfl rfl ‹_› (by first | omega | (simp; omega)) (fun p11 a12 => ?_))))))
    refine gT rfl rfl g10 (ld rfl ‹_› (gT rfl rfl g10 (kl_call rfl rfl (domainValues_ok ((prop m ds).getD i 0)) (fun v13 H14 f15 h16 => ?_))))
    refine gT rfl rfl g10 (le9 rfl ‹_› (fun l17 => ?_))
    refine gT rfl rfl g10 (eq9 rfl rfl ?_)
    refine aT rfl rfl g10 ?_
    exact kl_fg slr9 (J18 _ (pk [39, 0, 4, 5, 27, 28, 29, 30, 31] rfl))
   ·refine gF rfl rfl g10 (gF rfl rfl g10 (gF rfl rfl g10 (gF rfl rfl g10 (gF rfl rfl g10 (gF rfl rfl g10 (gF rfl rfl g10 (aF (decide (((valsI ((prop m ds).getD i 0)).length : Int) = (1 : Int))) rfl rfl g10 ?_)))))))
    exact J18 _ (pk [39, 0, 4, 5, 27, 28, 29, 30, 31] rfl)
  refine ln (qc (cd9 rfl (fun c19 => ?_) (fun c19 => ?_)))
  ·have c19r := c19
   try simp only [smpE] at c19
   have hgo := br_go c19r
   refine sk (qc (bl (cr (mv rfl (ic9 rfl rfl (by omega) ?_)))))
   refine sg rfl (ln (kq_round0 ((i + 1)) (by (have := hgo.1; omega)) (⟨(by have := hgo.1; omega), (by intro j hj; rcases Nat.lt_succ_iff_lt_or_eq.1 hj with h9 | h9; (exact hi7 j h9); (subst h9; have := hgo.2; omega))⟩) (pc 5 rfl pn) (pk [0, 4] rfl) slr9))
  ·have c19r := c19
   try simp only [smpE] at c19
   have hex := br_exit c19r
   refine ex9 (qc (cS (cS (cr (mv rfl (mv rfl (le9 rfl ‹_› (fun l20 => ?_))))))))
   refine eq9 rfl rfl ?_
   refine ln (qc (ci9 rfl (fun c21 => ?_) (fun c21 => ?_)))
   ·refine cS (cr (kl_bsI [] rfl rfl rfl (by decide) (fun v22 H23 f24 o25 => ?_)))
    refine sg rfl (ln (qc (cS (cS (cr (sg rfl (ln (qc (bl (kc_loopL (A := Nat × List Int × Value × Hp) (fun zz => (zz.1 ≤ (prop m ds).length) ∧ (zz.2.1 = firstL ((prop m ds).take zz.1)) ∧ OwnL 3 1 zz.2.2.2 noHp IntV zz.2.2.1 zz.2.1 ∧ Fr B zz.2.2.2) (fun zz => (prop m ds).length - zz.1) (fun zz => [zz.2.2.2, sing b (.cells [vmd, vmc, .int .i64 (4096 : Int), .int .i64 (IntKind.wrap .i64 (nd + (1 : Int))), vf].toArray 127 (0, 0)), Hf, Kf]) (fun zz => [(7, .int .i64 (zz.1 : Int)), (6, zz.2.2.1)]) (0, ([]), v22, H23) (pk [0, 4, 5] rfl) (pk [7, 6] rfl) rfl ⟨Nat.zero_le _, rfl, o25, f24⟩ ?_))))))))))
    rintro ⟨j, x, v31, H28⟩ hJ32
    obtain ⟨hk26, hi27, o29, f30⟩ : (j ≤ (prop m ds).length) ∧ (x = firstL ((prop m ds).take j)) ∧ OwnL 3 1 H28 noHp IntV v31 x ∧ Fr B H28 := hJ32
    change KC _ _ (_) [H28, sing b (.cells [vmd, vmc, .int .i64 (4096 : Int), .int .i64 (IntKind.wrap .i64 (nd + (1 : Int))), vf].toArray 127 (0, 0)), Hf, Kf] _ ([(7, .int .i64 (j : Int)), (6, v31)] ++ _)
    refine cS (cS (cr (mv rfl (mv rfl (le9 rfl ‹_› (fun l33 => ?_))))))
    refine ls9 rfl rfl ?_
    refine ln (qc (ci9 rfl (fun c34 => ?_) (fun c34 => ?_)))
    ·have hj1 := hi7 j (by omega)
     refine sk (qc (cS (bl (cr (mv rfl (mv rfl (mv rfl (kl_inI rfl rfl ‹_› (by first | omega | (simp; omega)) (fun p35 a36 => ?_)))))))))
     refine ld rfl ‹_› (kl_call rfl rfl (domainValues_ok ((prop m ds).getD j 0)) (fun v37 H38 f39 h40 => ?_))
     refine kl_inI (i := 0) rfl rfl ‹_› (by first | omega | (simp; omega)) (fun p41 a42 => ?_)
     refine ld rfl ‹_› (bs9 rfl rfl rfl (by decide) (ca rfl ca_nil) (fun v43 H44 f45 r46 s47 => ?_))
     have h48 : Ints H44 v43 [((valsI ((prop m ds).getD j 0)).getD 0 0)] := litInts (xs := [((valsI ((prop m ds).getD j 0)).getD 0 0)]) (by simpa using s47)
     refine aL9 ((valsI ((prop m ds).getD j 0)).getD 0 0) rfl rfl o29 ‹_› rfl (oc rfl oc_nil) (by (first | omega | (have h5 := congrArg List.length hi27; simp [firstL] at h5; omega))) (by decide) (fun v49 H50 o51 f52 => ?_)
     have f53 := f52 B f30 (Nat.le_refl _)
     refine sg rfl (ln (qc (cr (mv rfl (ic9 rfl rfl (by omega) ?_)))))
     refine sg rfl (ln (tk [H50, sing b (.cells [vmd, vmc, .int .i64 (4096 : Int), .int .i64 (IntKind.wrap .i64 (nd + (1 : Int))), vf].toArray 127 (0, 0)), Hf, Kf] ?_))
     refine rL ((j + 1), (x ++ [((valsI ((prop m ds).getD j 0)).getD 0 0)]), v49, H50) (by omega) (⟨by omega, (by rw [hi27]; exact firstL_take (by omega)), o51, f53⟩) (pk [7, 6] rfl) (pk [0, 4, 5] rfl) rfl slr9
    ·refine ex9 (qc (cS (cr (mv rfl (mv rfl (kl_nilchk rfl ?_))))))
     refine fV rfl (lB rfl rfl (mv rfl (bs9 rfl rfl rfl (by decide) (ca (by first | exact Sl.cells ‹_› | exact OwnL.cells ‹_›) ca_nil) (fun v54 H55 f56 r57 s58 => ?_))))
     have h59 := OwnL.ints o29
     refine cm9 Kf H28 (fun c60 => ?_)
     have o61 := OwnL.mono (K' := orHp Kf H28) of orL
     refine aL9 x rfl rfl o61 ‹_› ⟨_, rfl, Sl.mono ‹_› (orC c60) (fun _ _ h => h)⟩ (oc (OwnL.oneCell ‹_›) oc_nil) (by (first | omega | (have h5 := congrArg List.length hi27; simp [firstL] at h5; omega))) (by decide) (fun v62 H63 o64 f65 => ?_)
     refine kl_nilchk rfl ?_
     refine fV rfl (sB rfl rfl rfl (OwnL.oneCell ‹_›) (OwnL.cells ‹_›) ?_)
     refine cg [H28, sing b (.cells [vmd, vmc, .int .i64 (4096 : Int), .int .i64 (IntKind.wrap .i64 (nd + (1 : Int))), v62].toArray 127 (0, 0)), H63, Kf] rfl ?_
     refine ln (qc (rt (kq_mrg Kf H28 ?_)))
     exact kq_retT0 rfl [sing b (.cells [vmd, vmc, .int .i64 (4096 : Int), .int .i64 (IntKind.wrap .i64 (nd + (1 : Int))), v62].toArray 127 (0, 0)), H63, (orHp Kf H28)] [] noHp frn (fr_no _) ⟨rfl, rfl, (IntKind.wrap .i64 (nd + (1 : Int))), v62, H63, (orHp Kf H28), rfl, OwnL.cast (by rw [solT_leaf hM hd hne (by intro j hj; exact hi7 j (by omega)), hi27, List.take_of_length_le (by omega)]) o64, (liq_or lq f30.2)⟩
   ·have hi0 : i < (prop m ds).length := (by omega)
    have hne1 : (valsI ((prop m ds).getD i 0)).length ≠ 1 := (by rcases hex with h9 | h9 <;> omega)
    refine sk (qc (cS (cr (mv rfl (mv rfl (kl_inI rfl rfl ‹_› (by first | omega | (simp; omega)) (fun p67 a68 => ?_)))))))
    refine ld rfl ‹_› (kl_call rfl rfl (domainValues_ok ((prop m ds).getD i 0)) (fun v69 H70 f71 h72 => ?_))
    refine sg rfl (ln (qc (cS (cr (sg rfl (ln (qc (bl (kc_loopL (A := Nat × Int × List (List Int) × Value × Hp × Hp) (fun zz => (zz.1 ≤ (valsI ((prop m ds).getD i 0)).length) ∧ (zz.2.2.1 = found ++ brTo m (prop m ds) i zz.1 ∧ True) ∧ Liq zz.2.2.2.2.2 ∧ OwnL 23 1 zz.2.2.2.2.1 zz.2.2.2.2.2 RowV zz.2.2.2.1 zz.2.2.1) (fun zz => (valsI ((prop m ds).getD i 0)).length - zz.1) (fun zz => [sing b (.cells [vmd, vmc, .int .i64 (4096 : Int), .int .i64 zz.2.1, zz.2.2.2.1].toArray 127 (0, 0)), zz.2.2.2.2.1, zz.2.2.2.2.2]) (fun zz => [(9, .int .i64 (zz.1 : Int))]) (0, (IntKind.wrap .i64 (nd + (1 : Int))), found, vf, Hf, Kf) (pk [0, 4, 5, 8] rfl) (pc 9 rfl pn) rfl ⟨Nat.zero_le _, ⟨by rw [brTo_0, List.append_nil], trivial⟩, lq, of⟩ ?_)))))))))
    rintro ⟨k, nd1, fnd, v78, H75, K79⟩ hJ81
    obtain ⟨hk73, hi74, l80, o76⟩ : (k ≤ (valsI ((prop m ds).getD i 0)).length) ∧ (fnd = found ++ brTo m (prop m ds) i k ∧ True) ∧ Liq K79 ∧ OwnL 23 1 H75 K79 RowV v78 fnd := hJ81
    change KC _ _ (_) [sing b (.cells [vmd, vmc, .int .i64 (4096 : Int), .int .i64 nd1, v78].toArray 127 (0, 0)), H75, K79] _ ([(9, .int .i64 (k : Int))] ++ _)
    refine cS (cS (kc_draw 16 [true, true, true, true, true, true, true, true, true, true, true, true, true, true, true, true] (by kernel_rfl) (by kernel_rfl) ?_))
    refine mv rfl (mv rfl (le9 rfl ‹_› (fun l82 => ?_)))
    refine ls9 rfl rfl ?_
    refine mv rfl (jn 11 93 (.bool (decide ((k : Int) < ((valsI ((prop m ds).getD i 0)).length : Int)) && decide ((fnd.length : Int) < (4096 : Int)))) (pk [0, 4, 5, 8, 9, 78, 79, 80, 81, 82] rfl) (fun J85 => ?_) ?_)
    ·rcases Bool.eq_false_or_eq_true (decide ((k : Int) < ((valsI ((prop m ds).getD i 0)).length : Int))) with g83 | g83
     ·have g83p := of_decide_eq_true g83
      refine gT rfl rfl g83 (mv rfl (gT rfl rfl g83 (kl_nilchk rfl ?_)))
      refine gT rfl rfl g83 (fV rfl (gT rfl rfl g83 (lB rfl rfl (gT rfl rfl g83 (lL rfl o76 (fun l84 => ?_))))))
      refine gT rfl rfl g83 (mv rfl (gT rfl rfl g83 (kl_nilchk rfl ?_)))
      refine gT rfl rfl g83 (fV rfl (gT rfl rfl g83 (lB rfl rfl (gT rfl rfl g83 (ls9 rfl rfl ?_)))))
      refine aT rfl rfl g83 ?_
      exact J85 _ (pk [93, 0, 4, 5, 8, 9, 78, 79, 80, 81, 82] rfl)
     ·refine gF rfl rfl g83 (gF rfl rfl g83 (gF rfl rfl g83 (gF rfl rfl g83 (gF rfl rfl g83 (gF rfl rfl g83 (gF rfl rfl g83 (gF rfl rfl g83 (gF rfl rfl g83 ?_))))))))
      refine gF rfl rfl g83 (aF (decide ((fnd.length : Int) < (4096 : Int))) rfl rfl g83 ?_)
      exact J85 _ (pk [93, 0, 4, 5, 8, 9, 78, 79, 80, 81, 82] rfl)
    refine ln (qc (cd9 rfl (fun c86 => ?_) (fun c86 => ?_)))
    ·have c86r := c86
     try simp only [smpE] at c86
     have hlt := br_lt c86r
     have hv := getD_mem (d := (0 : Int)) hlt.1
     have hvv := valsI_mem hv
     refine sk (qc (cS (bl (cS (cr (mv rfl (kl_callL rfl rfl (copyInts_ok (prop m ds) (by omega) ‹_›) (fun v87 H88 f89 o90 => ?_))))))))
     refine sg rfl (ln (qc (cS (cr (mv rfl (mv rfl (mv rfl (mv rfl (kl_inI rfl rfl ‹_› (by first | omega | (simp; omega)) (fun p91 a92 => ?_))))))))))
     refine ld rfl ‹_› (kl_shl rfl rfl (by omega) ?_)
     refine kl_ixLn rfl rfl ‹_› (by first | omega | (simp; omega)) (fun p93 q94 => ?_)
     refine kl_stL (ishl (1 : Int) ((valsI ((prop m ds).getD i 0)).getD k 0)) rfl rfl ‹_› o90 (by first | omega | (simp; omega)) rfl rfl rfl (fun H95 o96 f97 => ?_)
     have f98 := f97 _ f89
     refine cg [H95, sing b (.cells [vmd, vmc, .int .i64 (4096 : Int), .int .i64 nd1, v78].toArray 127 (0, 0)), H75, K79] rfl ?_
     refine ln (qc (cr (mv rfl (mv rfl (cT rfl rfl (ih _ (by rw [← hk]; exact Nat.lt_of_lt_of_le (set_lt hp.ok hi0 hv hne1) (hp.sub.sum hp.ok.d hd.d)) m ((prop m ds).set i (ishl (1 : Int) ((valsI ((prop m ds).getD i 0)).getD k 0))) fnd nd1 hM (set_ok hp.ok (valsI_mem hv)) rfl (by have := brTo_le' (m := m) hi0 hi7 (k + 1); rw [brTo_succ (by omega), List.length_append, hp.sol] at this; rw [hi74.1, List.length_append]; omega) l80 hmd hmc (OwnL.ints o96) o76) (fun v99 L1 Ln K100 h101 g102 g103 => ?_))))))
     obtain ⟨rfl, rfl, n104, v105, H106, K107, rfl, o108, l109⟩ := h101
     refine nm ?_
     refine ln (qc (cr (mv rfl (ic9 rfl rfl (by omega) ?_))))
     refine sg rfl (ln (tk [sing b (.cells [vmd, vmc, .int .i64 (4096 : Int), .int .i64 n104, v105].toArray 127 (0, 0)), H106, K107] ?_))
     refine rL ((k + 1), n104, (fnd ++ solT m ((prop m ds).set i (ishl (1 : Int) ((valsI ((prop m ds).getD i 0)).getD k 0)))), v105, H106, K107) (by (have := hlt.1; omega)) (⟨(by have := hlt.1; omega), ⟨(by rw [brTo_succ (by omega), hi74.1, List.append_assoc]), trivial⟩, l109, o108⟩) (pc 9 rfl pn) (pk [0, 4, 5, 8] rfl) rfl slr9
    ·have c86r := c86
     try simp only [smpE] at c86
     have hbx := brTo_le' (m := m) hi0 hi7 k
     rw [hp.sol] at hbx
     have hfl := congrArg List.length hi74.1
     rw [List.length_append] at hfl
     have hke := br_out (y := 4096) c86r (by omega)
     refine ex9 ?_
     exact kq_retT0 rfl [sing b (.cells [vmd, vmc, .int .i64 (4096 : Int), .int .i64 nd1, v78].toArray 127 (0, 0)), H75, K79] [] noHp frn (fr_no _) ⟨rfl, rfl, nd1, v78, H75, K79, rfl, OwnL.cast (by rw [hi74.1, brTo_all hi0 hi7 (by omega), hp.sol]) o76, l80⟩
theorem branch_ok (k : Nat) : branchSt k := by
 induction k using Nat.strongRecOn with
 | _ k ih => exact @branch_step k ih
theorem solve_ok {Hmd : Hp} {vmd : Value} {Hmc : Hp} {vmc : Value} (m : Mod) (hM : MOk m) (hmd : Ints Hmd vmd m.doms) (hmc : Cons Hmc vmc m.cons) : Spec Tryz.prog 70 [.agg #[vmd, vmc], .int .i64 (4096 : Int)] [Hmd, Hmc] (fun Hq vq => ∃ (rq : List (List Int)) (z : Int) (uq0 : Value), vq = .tuple #[uq0, .int .i64 z] ∧ Rows Hq uq0 rq ∧ rq = sols m) := by
 refine spec_of Tryz.func70 rfl rfl rfl (fun B => ?_)
 refine cS (cr (kl_box rfl rfl (fun p1 H2 f3 a4 => ?_)))
 refine sg rfl (sg rfl (ln (qc (cS (cr (kl_ldS rfl ‹_› rfl ?_))))))
 refine mv rfl (kl_bdA [(0, [vmd, vmc]), (1, [.int .i64 (4096 : Int)])] [vmd, vmc, .int .i64 (4096 : Int), .int .i64 (0 : Int), .slice none 0 0] rfl (cpa rfl (cpa rfl cpa_nil)) rfl ?_)
 refine kl_boxL (cs := [vmd, vmc, .int .i64 (4096 : Int), .int .i64 (0 : Int), .slice none 0 0]) rfl rfl (fun b5 hb6 => ?_)
 refine sg rfl (ln (qc (cS (cr (mv rfl (fd9 rfl ‹_› (fun p7 a8 => ?_)))))))
 refine ld rfl ‹_› (kl_no ?_)
 refine kl_no ?_
 refine cT rfl rfl (branch_ok _ m m.doms [] 0 hM hM.dok rfl (by have := solT_few (m := m) (ds := m.doms) hM.n.2; simp; omega) liq_no ‹_› ‹_› ‹_› (OwnL.nil (K := noHp) (R := RowV))) (fun v9 L1 Ln K10 h11 g12 g13 => ?_)
 obtain ⟨rfl, rfl, n14, v15, H16, K17, rfl, o18, l19⟩ := h11
 refine nm ?_
 refine kl_fr H16 (OwnL.liq o18) (fun f20 => ?_)
 refine kl_fr K17 l19 (fun f21 => ?_)
 refine ln (qc (cS (kc_draw 10 [true, true, true, true, true, true, true, true, true, true] (by kernel_rfl) (by kernel_rfl) ?_)))
 refine mv rfl (kl_nilchk rfl ?_)
 refine fV rfl (lB rfl rfl (mv rfl (kl_nilchk rfl ?_)))
 refine fV rfl (lB rfl rfl (sg rfl (sg rfl (ln (qc (rt (kq_frz H16 ?_)))))))
 refine kq_cmp H16 K17 (fun c22 => ?_)
 exact kq_ret2 rfl rfl rfl (orHp H16 K17) (fr_or f20 f21) ⟨([] ++ solT m m.doms), n14, _, rfl, (OwnL.rowsK o18 c22), by simp [sols]⟩
end
section
theorem isSolI_ok {Hmd : Hp} {vmd : Value} {Hmc : Hp} {vmc : Value} {Hx : Hp} {vx : Value} (m : Mod) (x : List Int) (hmd : Ints Hmd vmd m.doms) (hmc : Cons Hmc vmc m.cons) (hx : Ints Hx vx x) : SpecP Tryz.prog 95 [.agg #[vmd, vmc], vx] [Hmd, Hmc, Hx] (.bool (isSolT m x)) := by
 refine spec_of Tryz.func95 rfl rfl rfl (fun B => ?_)
 refine cS (cr (kl_box rfl rfl (fun p1 H2 f3 a4 => ?_)))
 refine sg rfl (ln (qc (cS (cr (kl_ldS rfl ‹_› rfl ?_)))))
 refine cP rfl rfl (validMod_ok m ‹_› ‹_›) ?_
 refine mv rfl (jn 6 13 (.bool ((validModB m) && (decide ((x.length : Int) = (m.doms.length : Int)) && allInB x 0 5))) (pk [1, 2, 4, 7] rfl) (fun J9 => ?_) ?_)
 ·rcases Bool.eq_false_or_eq_true (validModB m) with g5 | g5
  ·have g5p := g5
   try simp only [smpD] at g5p
   refine gT rfl rfl g5 (mv rfl (gT rfl rfl g5 (fd9 rfl ‹_› (fun p6 a7 => ?_))))
   refine gT rfl rfl g5 (ld rfl ‹_› (gT rfl rfl g5 (le9 rfl ‹_› (fun l8 => ?_))))
   refine gT rfl rfl g5 (cP rfl rfl (assigned_ok x (m.doms.length : Int) ‹_›) ?_)
   refine aT rfl rfl g5 ?_
   exact J9 _ (pk [13, 1, 2, 4, 7] rfl)
  ·refine gF rfl rfl g5 (gF rfl rfl g5 (gF rfl rfl g5 (gF rfl rfl g5 (gF rfl rfl g5 (aF (decide ((x.length : Int) = (m.doms.length : Int)) && allInB x 0 5) rfl rfl g5 ?_)))))
   exact J9 _ (pk [13, 1, 2, 4, 7] rfl)
 refine mv rfl (jn 4 18 (.bool (((validModB m) && (decide ((x.length : Int) = (m.doms.length : Int)) && allInB x 0 5)) && (isSolB m x))) (pk [4, 14] rfl) (fun J11 => ?_) ?_)
 ·rcases Bool.eq_false_or_eq_true ((validModB m) && (decide ((x.length : Int) = (m.doms.length : Int)) && allInB x 0 5)) with g10 | g10
  ·have g10p := g10
   try simp only [smpD] at g10p
   have hM : MOk m := ⟨g10p.1⟩
   have hl : x.length = m.doms.length := (by have := g10p.2.1; omega)
   have hX : Vals x := vals_of g10p.2.2
   refine gT rfl rfl g10 (kl_ldS rfl ‹_› rfl ?_)
   refine gT rfl rfl g10 (mv rfl (gT rfl rfl g10 (cP rfl rfl (isSol_ok m x hM hl hX ‹_› ‹_› ‹_›) ?_)))
   refine aT rfl rfl g10 ?_
   exact J11 _ (pk [18, 4, 14] rfl)
  ·refine gF rfl rfl g10 (gF rfl rfl g10 (gF rfl rfl g10 (aF (isSolB m x) rfl rfl g10 ?_)))
   exact J11 _ (pk [18, 4, 14] rfl)
 refine sg rfl (ln (qc (rt (kq_retP rfl rfl (congrArg Value.bool ?_)))))
 rfl
end
section
/-! The law. -/
end
section
theorem copyConE_ok {Hcv : Hp} {vcv : Value} {Hca : Hp} {vca : Value} {Hcr : Hp} {vcr : Value} (c : Con) (hc : ConSm 100 c) (hcv : Ints Hcv vcv c.vars) (hca : Ints Hca vca c.args) (hcr : Rows Hcr vcr c.rows) : Spec Tryz.prog 116 [.agg #[.int .i64 c.kind, vcv, vca, .int .i64 c.bound, vcr]] [Hcv, Hca, Hcr] (fun Hq vq => ∃ cq : Con, ConR Hq vq cq ∧ cq = c) := by
 have h1 := hc.v1
 have h2 := hc.v
 have h3 := hc.a
 have h4 := hc.r
 have h5 := hc.rr
 refine spec_of Tryz.func116 rfl rfl rfl (fun B => ?_)
 refine cS (cr (kl_box rfl rfl (fun p1 H2 f3 a4 => ?_)))
 refine kl_alloc (cs := [.int .i64 (0 : Int), .slice none 0 0, .slice none 0 0, .int .i64 (0 : Int), .slice none 0 0]) rfl (fun b5 hb6 => ?_)
 refine ln (qc (cS (kc_tree (fun i => ([10, 12] : List Nat).contains i) [] (by kernel_rfl) ?_)))
 refine tq 0 nsl rfl (fd9 rfl ‹_› (fun p7 a8 => ?_))
 refine ln (qq (tq 1 nsl rfl (ld rfl ‹_› (ln (qq (tq 2 nsl rfl (fd9 rfl ‹_› (fun p9 a10 => ?_))))))))
 refine ln (qq (tq 3 nsl rfl (ld rfl ‹_› (ln (qq (tq 5 nsl rfl (fd9 rfl ‹_› (fun p11 a12 => ?_))))))))
 refine ln (qq (tq 6 nsl rfl (ld rfl ‹_› (ln (qq (tq 8 nsl rfl (fd9 rfl ‹_› (fun p13 a14 => ?_))))))))
 refine ln (qq (tq 9 nsl rfl (ld rfl ‹_› (ln (qq (kt_b 4 11 rfl rfl (by kernel_rfl) ?_ ?_))))))
 ·refine kl_call rfl rfl (copyInts_ok c.vars (by first | omega | (have h6 := h5 _ (getD_mem (d := []) (by omega : k < c.rows.length)); omega)) ‹_›) (fun v15 H16 f17 o18 => ?_)
  have h19 := OwnL.ints o18
  refine ln (qa nsl (kt_b 7 11 rfl rfl (by kernel_rfl) ?_ ?_))
  ·refine kl_call rfl rfl (copyInts_ok c.args (by first | omega | (have h6 := h5 _ (getD_mem (d := []) (by omega : k < c.rows.length)); omega)) ‹_›) (fun v20 H21 f22 o23 => ?_)
   have h24 := OwnL.ints o23
   refine ln (qa nsl (kt_b 10 11 rfl rfl (by kernel_rfl) ?_ ?_))
   ·refine kl_bd rfl (cp rfl (cp (Sl.cells ‹_›) (cp (Sl.cells ‹_›) (cp rfl cp_nil)))) rfl ?_
    refine ln (qx rfl (ta 11 rfl (kl_alloc (cs := [.int .i64 (0 : Int), .slice none 0 0, .slice none 0 0, .int .i64 (0 : Int), .slice none 0 0]) rfl (fun b25 hb26 => ?_))))
    refine ln (qa nsl (ta 12 rfl (kl_stW (us := [.int .i64 c.kind, v15, v20, .int .i64 c.bound, .slice none 0 0]) rfl rfl rfl rfl (oc rfl (oc (Sl.oneCell ‹_›) (oc (Sl.oneCell ‹_›) (oc rfl (oc rfl oc_nil))))) rfl ?_)))
    refine cg [sing b25 (.cells [.int .i64 c.kind, v15, v20, .int .i64 c.bound, .slice none 0 0].toArray 88 (0, 0)), sing b5 (.cells [.int .i64 (0 : Int), .slice none 0 0, .slice none 0 0, .int .i64 (0 : Int), .slice none 0 0].toArray 88 (0, 0))] rfl ?_
    refine ln (qx rfl (kt_end (by kernel_rfl) ?_))
    refine qc (cS (cS (cr (sg rfl (ln (qc (bl (kc_no ?_))))))))
    refine kc_loopK (A := Nat × List (List Int) × Value × Hp × Hp) (fun zz => (zz.1 ≤ c.rows.length) ∧ (zz.2.1 = c.rows.take zz.1) ∧ Fr B zz.2.2.2.2 ∧ OwnL 23 1 zz.2.2.2.1 zz.2.2.2.2 RowV zz.2.2.1 zz.2.1 ∧ Fr B zz.2.2.2.1) (fun zz => c.rows.length - zz.1) (fun zz => zz.2.2.2.2) (fun zz => [zz.2.2.2.1, sing b25 (.cells [.int .i64 c.kind, v15, v20, .int .i64 c.bound, zz.2.2.1].toArray 88 (0, 0)), sing b5 (.cells [.int .i64 (0 : Int), .slice none 0 0, .slice none 0 0, .int .i64 (0 : Int), .slice none 0 0].toArray 88 (0, 0))]) (fun zz => [(4, .int .i64 (zz.1 : Int))]) (0, [], .slice none 0 0, noHp, noHp) (pk [1, 2, 3] rfl) (pc 4 rfl pn) rfl ⟨Nat.zero_le _, rfl, (fr_no _), OwnL.nil, (fr_no _)⟩ ?_
    rintro ⟨k, out, v32, H29, K33⟩ hJ36
    obtain ⟨hk27, hi28, f34, o30, f31⟩ : (k ≤ c.rows.length) ∧ (out = c.rows.take k) ∧ Fr B K33 ∧ OwnL 23 1 H29 K33 RowV v32 out ∧ Fr B H29 := hJ36
    change KC _ _ (K33 :: _) [H29, sing b25 (.cells [.int .i64 c.kind, v15, v20, .int .i64 c.bound, v32].toArray 88 (0, 0)), sing b5 (.cells [.int .i64 (0 : Int), .slice none 0 0, .slice none 0 0, .int .i64 (0 : Int), .slice none 0 0].toArray 88 (0, 0))] _ ([(4, .int .i64 (k : Int))] ++ _)
    refine cS (cS (cr (mv rfl (fd9 rfl ‹_› (fun p37 a38 => ?_)))))
    refine ld rfl ‹_› (le9 rfl ‹_› (fun l39 => ?_))
    refine ls9 rfl rfl ?_
    refine ln (qc (ci9 rfl (fun c40 => ?_) (fun c40 => ?_)))
    ·refine sk (qc (cS (bl (kc_tree (fun i => ([9, 11] : List Nat).contains i) [sing b25 (.cells [.int .i64 c.kind, v15, v20, .int .i64 c.bound, v32].toArray 88 (0, 0))] (by kernel_rfl) ?_))))
     refine kt_q 0 (.cons _ (.cons_cons _ nsl)) rfl (by kernel_rfl) (fV rfl (ln (qq (kt_q 1 (.cons _ (.cons_cons _ nsl)) rfl (by kernel_rfl) (ld rfl (at_box (T := 88) (cs := [.int .i64 c.kind, v15, v20, .int .i64 c.bound, v32]) (off := 4) (fz := (0, 0))) (ln (qq (kt_q 2 (.cons _ (.cons_cons _ nsl)) rfl (by kernel_rfl) (fd9 rfl ‹_› (fun p41 a42 => ?_))))))))))
     refine ln (qq (kt_q 3 (.cons _ (.cons_cons _ nsl)) rfl (by kernel_rfl) (ld rfl ‹_› (ln (qq (kt_q 4 (.cons _ (.cons_cons _ nsl)) rfl (by kernel_rfl) (mv rfl (ln (qq (kt_q 5 (.cons _ (.cons_cons _ nsl)) rfl (by kernel_rfl) (kl_inS rfl rfl ‹_› (by omega) (fun p43 u45 h46 a44 => ?_))))))))))))
     refine ln (qq (kt_q 6 (.cons _ (.cons_cons _ nsl)) rfl (by kernel_rfl) (ld rfl ‹_› (ln (qq (ta 7 rfl (kl_call rfl rfl (copyInts_ok (c.rows.getD k []) (by first | omega | (have h6 := h5 _ (getD_mem (d := []) (by omega : k < c.rows.length)); omega)) ‹_›) (fun v47 H48 f49 o50 => ?_))))))))
     have h51 := OwnL.ints o50
     refine ln (qa (.cons _ (.cons_cons _ nsl)) (ta 8 rfl (bs9 rfl rfl rfl (by decide) (ca (by first | exact Sl.cells ‹_› | exact OwnL.cells ‹_›) ca_nil) (fun v52 H53 f54 r55 s56 => ?_))))
     refine ln (qa (.cons _ (.cons_cons _ nsl)) (ta 9 rfl (cm9 K33 H48 (fun c57 => ?_))))
     have o58 := OwnL.mono (K' := orHp K33 H48) o30 orL
     refine aL9 (c.rows.getD k []) rfl rfl o58 ‹_› ⟨_, rfl, Sl.mono ‹_› (orC c57) (fun _ _ h => h)⟩ (oc (Sl.oneCell ‹_›) oc_nil) (by (have h9 := congrArg List.length hi28; simp at h9; omega)) (by decide) (fun v59 H60 o61 f62 => ?_)
     have f63 := f62 B f31 (Nat.le_refl _)
     refine ln (qx rfl (kt_q 10 (.cons _ (.cons_cons _ nsl)) rfl (by kernel_rfl) (fV rfl (ln (qq (ta 11 rfl (sB rfl rfl rfl (OwnL.oneCell ‹_›) (OwnL.cells ‹_›) ?_)))))))
     refine cg [H60, sing b25 (.cells [.int .i64 c.kind, v15, v20, .int .i64 c.bound, v59].toArray 88 (0, 0)), sing b5 (.cells [.int .i64 (0 : Int), .slice none 0 0, .slice none 0 0, .int .i64 (0 : Int), .slice none 0 0].toArray 88 (0, 0))] rfl ?_
     refine ln (qx rfl (kt_end (by kernel_rfl) ?_))
     refine qc (cr (mv rfl (ic9 rfl rfl (by omega) ?_)))
     refine sg rfl (ln (tk [H60, sing b25 (.cells [.int .i64 c.kind, v15, v20, .int .i64 c.bound, v59].toArray 88 (0, 0)), sing b5 (.cells [.int .i64 (0 : Int), .slice none 0 0, .slice none 0 0, .int .i64 (0 : Int), .slice none 0 0].toArray 88 (0, 0))] ?_))
     refine kq_roundK ((k + 1), (out ++ [(c.rows.getD k [])]), v59, H60, (orHp K33 H48)) (by omega) (⟨by omega, (by rw [hi28, take_succ_getD [] (by omega)]), (fr_or f34 f49), o61, f63⟩) (pc 4 rfl pn) (pk [1, 2, 3] rfl) rfl slr9
    ·refine ex9 (qc (cS (cr (kl_ldW rfl rfl (kl_stW (us := [.int .i64 c.kind, v15, v20, .int .i64 c.bound, v32]) rfl rfl rfl rfl (oc rfl (oc (Sl.oneCell ‹_›) (oc (Sl.oneCell ‹_›) (oc rfl (oc (OwnL.oneCell ‹_›) oc_nil))))) rfl ?_)))))
     refine cg [H29, sing b25 (.cells [.int .i64 c.kind, v15, v20, .int .i64 c.bound, v32].toArray 88 (0, 0)), sing b5 (.cells [.int .i64 c.kind, v15, v20, .int .i64 c.bound, v32].toArray 88 (0, 0))] rfl ?_
     refine ln (qc (rt (kq_frz H29 ?_)))
     refine kq_cmp H29 K33 (fun c64 => ?_)
     refine kq_cmp H21 (orHp H29 K33) (fun c65 => ?_)
     refine kq_cmp H16 (orHp H21 (orHp H29 K33)) (fun c66 => ?_)
     exact kq_retC rfl rfl rfl (orHp H16 (orHp H21 (orHp H29 K33))) (fr_or f17 (fr_or f22 (fr_or f31 f34))) ⟨⟨c.kind, c.vars, c.args, c.bound, out⟩, ⟨_, rfl, _, _, _, rfl, (Sl.mono ‹_› (fun b o h => orL b o h) (fun _ _ h => h)), (Sl.mono ‹_› (fun b o h => orC c66 b o (orL b o h)) (fun _ _ h => h)), (Rows.mono' (OwnL.rowsK o30 c64) (fun b o h => orC c66 b o (orC c65 b o h)))⟩, by (have h9 := hi28; rw [List.take_of_length_le (by omega)] at h9; rw [h9])⟩
   ·refine kl_alloc (cs := [.int .i64 (0 : Int), .slice none 0 0, .slice none 0 0, .int .i64 (0 : Int), .slice none 0 0]) rfl (fun b67 hb68 => ?_)
    refine ln (qa nsl (ta 10 rfl (kl_bd rfl (cp rfl (cp (Sl.cells ‹_›) (cp (Sl.cells ‹_›) (cp rfl cp_nil)))) rfl ?_)))
    refine ln (qx rfl (ta 12 rfl (kl_stW (us := [.int .i64 c.kind, v15, v20, .int .i64 c.bound, .slice none 0 0]) rfl rfl rfl rfl (oc rfl (oc (Sl.oneCell ‹_›) (oc (Sl.oneCell ‹_›) (oc rfl (oc rfl oc_nil))))) rfl ?_)))
    refine cg [sing b67 (.cells [.int .i64 c.kind, v15, v20, .int .i64 c.bound, .slice none 0 0].toArray 88 (0, 0)), sing b5 (.cells [.int .i64 (0 : Int), .slice none 0 0, .slice none 0 0, .int .i64 (0 : Int), .slice none 0 0].toArray 88 (0, 0))] rfl ?_
    refine ln (qx rfl (kt_end (by kernel_rfl) ?_))
    refine qc (cS (cS (cr (sg rfl (ln (qc (bl (kc_no ?_))))))))
    refine kc_loopK (A := Nat × List (List Int) × Value × Hp × Hp) (fun zz => (zz.1 ≤ c.rows.length) ∧ (zz.2.1 = c.rows.take zz.1) ∧ Fr B zz.2.2.2.2 ∧ OwnL 23 1 zz.2.2.2.1 zz.2.2.2.2 RowV zz.2.2.1 zz.2.1 ∧ Fr B zz.2.2.2.1) (fun zz => c.rows.length - zz.1) (fun zz => zz.2.2.2.2) (fun zz => [zz.2.2.2.1, sing b67 (.cells [.int .i64 c.kind, v15, v20, .int .i64 c.bound, zz.2.2.1].toArray 88 (0, 0)), sing b5 (.cells [.int .i64 (0 : Int), .slice none 0 0, .slice none 0 0, .int .i64 (0 : Int), .slice none 0 0].toArray 88 (0, 0))]) (fun zz => [(4, .int .i64 (zz.1 : Int))]) (0, [], .slice none 0 0, noHp, noHp) (pk [1, 2, 3] rfl) (pc 4 rfl pn) rfl ⟨Nat.zero_le _, rfl, (fr_no _), OwnL.nil, (fr_no _)⟩ ?_
    rintro ⟨k, out, v74, H71, K75⟩ hJ78
    obtain ⟨hk69, hi70, f76, o72, f73⟩ : (k ≤ c.rows.length) ∧ (out = c.rows.take k) ∧ Fr B K75 ∧ OwnL 23 1 H71 K75 RowV v74 out ∧ Fr B H71 := hJ78
    change KC _ _ (K75 :: _) [H71, sing b67 (.cells [.int .i64 c.kind, v15, v20, .int .i64 c.bound, v74].toArray 88 (0, 0)), sing b5 (.cells [.int .i64 (0 : Int), .slice none 0 0, .slice none 0 0, .int .i64 (0 : Int), .slice none 0 0].toArray 88 (0, 0))] _ ([(4, .int .i64 (k : Int))] ++ _)
    refine cS (cS (cr (mv rfl (fd9 rfl ‹_› (fun p79 a80 => ?_)))))
    refine ld rfl ‹_› (le9 rfl ‹_› (fun l81 => ?_))
    refine ls9 rfl rfl ?_
    refine ln (qc (ci9 rfl (fun c82 => ?_) (fun c82 => ?_)))
    ·refine sk (qc (cS (bl (kc_tree (fun i => ([9, 11] : List Nat).contains i) [sing b67 (.cells [.int .i64 c.kind, v15, v20, .int .i64 c.bound, v74].toArray 88 (0, 0))] (by kernel_rfl) ?_))))
     refine kt_q 0 (.cons _ (.cons_cons _ nsl)) rfl (by kernel_rfl) (fV rfl (ln (qq (kt_q 1 (.cons _ (.cons_cons _ nsl)) rfl (by kernel_rfl) (ld rfl (at_box (T := 88) (cs := [.int .i64 c.kind, v15, v20, .int .i64 c.bound, v74]) (off := 4) (fz := (0, 0))) (ln (qq (kt_q 2 (.cons _ (.cons_cons _ nsl)) rfl (by kernel_rfl) (fd9 rfl ‹_› (fun p83 a84 => ?_))))))))))
     refine ln (qq (kt_q 3 (.cons _ (.cons_cons _ nsl)) rfl (by kernel_rfl) (ld rfl ‹_› (ln (qq (kt_q 4 (.cons _ (.cons_cons _ nsl)) rfl (by kernel_rfl) (mv rfl (ln (qq (kt_q 5 (.cons _ (.cons_cons _ nsl)) rfl (by kernel_rfl) (kl_inS rfl rfl ‹_› (by omega) (fun p85 u87 h88 a86 => ?_))))))))))))
     refine ln (qq (kt_q 6 (.cons _ (.cons_cons _ nsl)) rfl (by kernel_rfl) (ld rfl ‹_› (ln (qq (ta 7 rfl (kl_call rfl rfl (copyInts_ok (c.rows.getD k []) (by first | omega | (have h6 := h5 _ (getD_mem (d := []) (by omega : k < c.rows.length)); omega)) ‹_›) (fun v89 H90 f91 o92 => ?_))))))))
     have h93 := OwnL.ints o92
     refine ln (qa (.cons _ (.cons_cons _ nsl)) (ta 8 rfl (bs9 rfl rfl rfl (by decide) (ca (by first | exact Sl.cells ‹_› | exact OwnL.cells ‹_›) ca_nil) (fun v94 H95 f96 r97 s98 => ?_))))
     refine ln (qa (.cons _ (.cons_cons _ nsl)) (ta 9 rfl (cm9 K75 H90 (fun c99 => ?_))))
     have o100 := OwnL.mono (K' := orHp K75 H90) o72 orL
     refine aL9 (c.rows.getD k []) rfl rfl o100 ‹_› ⟨_, rfl, Sl.mono ‹_› (orC c99) (fun _ _ h => h)⟩ (oc (Sl.oneCell ‹_›) oc_nil) (by (have h9 := congrArg List.length hi70; simp at h9; omega)) (by decide) (fun v101 H102 o103 f104 => ?_)
     have f105 := f104 B f73 (Nat.le_refl _)
     refine ln (qx rfl (kt_q 10 (.cons _ (.cons_cons _ nsl)) rfl (by kernel_rfl) (fV rfl (ln (qq (ta 11 rfl (sB rfl rfl rfl (OwnL.oneCell ‹_›) (OwnL.cells ‹_›) ?_)))))))
     refine cg [H102, sing b67 (.cells [.int .i64 c.kind, v15, v20, .int .i64 c.bound, v101].toArray 88 (0, 0)), sing b5 (.cells [.int .i64 (0 : Int), .slice none 0 0, .slice none 0 0, .int .i64 (0 : Int), .slice none 0 0].toArray 88 (0, 0))] rfl ?_
     refine ln (qx rfl (kt_end (by kernel_rfl) ?_))
     refine qc (cr (mv rfl (ic9 rfl rfl (by omega) ?_)))
     refine sg rfl (ln (tk [H102, sing b67 (.cells [.int .i64 c.kind, v15, v20, .int .i64 c.bound, v101].toArray 88 (0, 0)), sing b5 (.cells [.int .i64 (0 : Int), .slice none 0 0, .slice none 0 0, .int .i64 (0 : Int), .slice none 0 0].toArray 88 (0, 0))] ?_))
     refine kq_roundK ((k + 1), (out ++ [(c.rows.getD k [])]), v101, H102, (orHp K75 H90)) (by omega) (⟨by omega, (by rw [hi70, take_succ_getD [] (by omega)]), (fr_or f76 f91), o103, f105⟩) (pc 4 rfl pn) (pk [1, 2, 3] rfl) rfl slr9
    ·refine ex9 (qc (cS (cr (kl_ldW rfl rfl (kl_stW (us := [.int .i64 c.kind, v15, v20, .int .i64 c.bound, v74]) rfl rfl rfl rfl (oc rfl (oc (Sl.oneCell ‹_›) (oc (Sl.oneCell ‹_›) (oc rfl (oc (OwnL.oneCell ‹_›) oc_nil))))) rfl ?_)))))
     refine cg [H71, sing b67 (.cells [.int .i64 c.kind, v15, v20, .int .i64 c.bound, v74].toArray 88 (0, 0)), sing b5 (.cells [.int .i64 c.kind, v15, v20, .int .i64 c.bound, v74].toArray 88 (0, 0))] rfl ?_
     refine ln (qc (rt (kq_frz H71 ?_)))
     refine kq_cmp H71 K75 (fun c106 => ?_)
     refine kq_cmp H21 (orHp H71 K75) (fun c107 => ?_)
     refine kq_cmp H16 (orHp H21 (orHp H71 K75)) (fun c108 => ?_)
     exact kq_retC rfl rfl rfl (orHp H16 (orHp H21 (orHp H71 K75))) (fr_or f17 (fr_or f22 (fr_or f73 f76))) ⟨⟨c.kind, c.vars, c.args, c.bound, out⟩, ⟨_, rfl, _, _, _, rfl, (Sl.mono ‹_› (fun b o h => orL b o h) (fun _ _ h => h)), (Sl.mono ‹_› (fun b o h => orC c108 b o (orL b o h)) (fun _ _ h => h)), (Rows.mono' (OwnL.rowsK o72 c106) (fun b o h => orC c108 b o (orC c107 b o h)))⟩, by (have h9 := hi70; rw [List.take_of_length_le (by omega)] at h9; rw [h9])⟩
  ·refine kl_alloc (cs := [.int .i64 (0 : Int), .slice none 0 0, .slice none 0 0, .int .i64 (0 : Int), .slice none 0 0]) rfl (fun b109 hb110 => ?_)
   refine ln (qa nsl (ta 7 rfl (kl_call rfl rfl (copyInts_ok c.args (by first | omega | (have h6 := h5 _ (getD_mem (d := []) (by omega : k < c.rows.length)); omega)) ‹_›) (fun v111 H112 f113 o114 => ?_))))
   have h115 := OwnL.ints o114
   refine ln (qa nsl (ta 10 rfl (kl_bd rfl (cp rfl (cp (Sl.cells ‹_›) (cp (Sl.cells ‹_›) (cp rfl cp_nil)))) rfl ?_)))
   refine ln (qx rfl (ta 12 rfl (kl_stW (us := [.int .i64 c.kind, v15, v111, .int .i64 c.bound, .slice none 0 0]) rfl rfl rfl rfl (oc rfl (oc (Sl.oneCell ‹_›) (oc (Sl.oneCell ‹_›) (oc rfl (oc rfl oc_nil))))) rfl ?_)))
   refine cg [sing b109 (.cells [.int .i64 c.kind, v15, v111, .int .i64 c.bound, .slice none 0 0].toArray 88 (0, 0)), sing b5 (.cells [.int .i64 (0 : Int), .slice none 0 0, .slice none 0 0, .int .i64 (0 : Int), .slice none 0 0].toArray 88 (0, 0))] rfl ?_
   refine ln (qx rfl (kt_end (by kernel_rfl) ?_))
   refine qc (cS (cS (cr (sg rfl (ln (qc (bl (kc_no ?_))))))))
   refine kc_loopK (A := Nat × List (List Int) × Value × Hp × Hp) (fun zz => (zz.1 ≤ c.rows.length) ∧ (zz.2.1 = c.rows.take zz.1) ∧ Fr B zz.2.2.2.2 ∧ OwnL 23 1 zz.2.2.2.1 zz.2.2.2.2 RowV zz.2.2.1 zz.2.1 ∧ Fr B zz.2.2.2.1) (fun zz => c.rows.length - zz.1) (fun zz => zz.2.2.2.2) (fun zz => [zz.2.2.2.1, sing b109 (.cells [.int .i64 c.kind, v15, v111, .int .i64 c.bound, zz.2.2.1].toArray 88 (0, 0)), sing b5 (.cells [.int .i64 (0 : Int), .slice none 0 0, .slice none 0 0, .int .i64 (0 : Int), .slice none 0 0].toArray 88 (0, 0))]) (fun zz => [(4, .int .i64 (zz.1 : Int))]) (0, [], .slice none 0 0, noHp, noHp) (pk [1, 2, 3] rfl) (pc 4 rfl pn) rfl ⟨Nat.zero_le _, rfl, (fr_no _), OwnL.nil, (fr_no _)⟩ ?_
   rintro ⟨k, out, v121, H118, K122⟩ hJ125
   obtain ⟨hk116, hi117, f123, o119, f120⟩ : (k ≤ c.rows.length) ∧ (out = c.rows.take k) ∧ Fr B K122 ∧ OwnL 23 1 H118 K122 RowV v121 out ∧ Fr B H118 := hJ125
   change KC _ _ (K122 :: _) [H118, sing b109 (.cells [.int .i64 c.kind, v15, v111, .int .i64 c.bound, v121].toArray 88 (0, 0)), sing b5 (.cells [.int .i64 (0 : Int), .slice none 0 0, .slice none 0 0, .int .i64 (0 : Int), .slice none 0 0].toArray 88 (0, 0))] _ ([(4, .int .i64 (k : Int))] ++ _)
   refine cS (cS (cr (mv rfl (fd9 rfl ‹_› (fun p126 a127 => ?_)))))
   refine ld rfl ‹_› (le9 rfl ‹_› (fun l128 => ?_))
   refine ls9 rfl rfl ?_
   refine ln (qc (ci9 rfl (fun c129 => ?_) (fun c129 => ?_)))
   ·refine sk (qc (cS (bl (kc_tree (fun i => ([9, 11] : List Nat).contains i) [sing b109 (.cells [.int .i64 c.kind, v15, v111, .int .i64 c.bound, v121].toArray 88 (0, 0))] (by kernel_rfl) ?_))))
    refine kt_q 0 (.cons _ (.cons_cons _ nsl)) rfl (by kernel_rfl) (fV rfl (ln (qq (kt_q 1 (.cons _ (.cons_cons _ nsl)) rfl (by kernel_rfl) (ld rfl (at_box (T := 88) (cs := [.int .i64 c.kind, v15, v111, .int .i64 c.bound, v121]) (off := 4) (fz := (0, 0))) (ln (qq (kt_q 2 (.cons _ (.cons_cons _ nsl)) rfl (by kernel_rfl) (fd9 rfl ‹_› (fun p130 a131 => ?_))))))))))
    refine ln (qq (kt_q 3 (.cons _ (.cons_cons _ nsl)) rfl (by kernel_rfl) (ld rfl ‹_› (ln (qq (kt_q 4 (.cons _ (.cons_cons _ nsl)) rfl (by kernel_rfl) (mv rfl (ln (qq (kt_q 5 (.cons _ (.cons_cons _ nsl)) rfl (by kernel_rfl) (kl_inS rfl rfl ‹_› (by omega) (fun p132 u134 h135 a133 => ?_))))))))))))
    refine ln (qq (kt_q 6 (.cons _ (.cons_cons _ nsl)) rfl (by kernel_rfl) (ld rfl ‹_› (ln (qq (ta 7 rfl (kl_call rfl rfl (copyInts_ok (c.rows.getD k []) (by first | omega | (have h6 := h5 _ (getD_mem (d := []) (by omega : k < c.rows.length)); omega)) ‹_›) (fun v136 H137 f138 o139 => ?_))))))))
    have h140 := OwnL.ints o139
    refine ln (qa (.cons _ (.cons_cons _ nsl)) (ta 8 rfl (bs9 rfl rfl rfl (by decide) (ca (by first | exact Sl.cells ‹_› | exact OwnL.cells ‹_›) ca_nil) (fun v141 H142 f143 r144 s145 => ?_))))
    refine ln (qa (.cons _ (.cons_cons _ nsl)) (ta 9 rfl (cm9 K122 H137 (fun c146 => ?_))))
    have o147 := OwnL.mono (K' := orHp K122 H137) o119 orL
    refine aL9 (c.rows.getD k []) rfl rfl o147 ‹_› ⟨_, rfl, Sl.mono ‹_› (orC c146) (fun _ _ h => h)⟩ (oc (Sl.oneCell ‹_›) oc_nil) (by (have h9 := congrArg List.length hi117; simp at h9; omega)) (by decide) (fun v148 H149 o150 f151 => ?_)
    have f152 := f151 B f120 (Nat.le_refl _)
    refine ln (qx rfl (kt_q 10 (.cons _ (.cons_cons _ nsl)) rfl (by kernel_rfl) (fV rfl (ln (qq (ta 11 rfl (sB rfl rfl rfl (OwnL.oneCell ‹_›) (OwnL.cells ‹_›) ?_)))))))
    refine cg [H149, sing b109 (.cells [.int .i64 c.kind, v15, v111, .int .i64 c.bound, v148].toArray 88 (0, 0)), sing b5 (.cells [.int .i64 (0 : Int), .slice none 0 0, .slice none 0 0, .int .i64 (0 : Int), .slice none 0 0].toArray 88 (0, 0))] rfl ?_
    refine ln (qx rfl (kt_end (by kernel_rfl) ?_))
    refine qc (cr (mv rfl (ic9 rfl rfl (by omega) ?_)))
    refine sg rfl (ln (tk [H149, sing b109 (.cells [.int .i64 c.kind, v15, v111, .int .i64 c.bound, v148].toArray 88 (0, 0)), sing b5 (.cells [.int .i64 (0 : Int), .slice none 0 0, .slice none 0 0, .int .i64 (0 : Int), .slice none 0 0].toArray 88 (0, 0))] ?_))
    refine kq_roundK ((k + 1), (out ++ [(c.rows.getD k [])]), v148, H149, (orHp K122 H137)) (by omega) (⟨by omega, (by rw [hi117, take_succ_getD [] (by omega)]), (fr_or f123 f138), o150, f152⟩) (pc 4 rfl pn) (pk [1, 2, 3] rfl) rfl slr9
   ·refine ex9 (qc (cS (cr (kl_ldW rfl rfl (kl_stW (us := [.int .i64 c.kind, v15, v111, .int .i64 c.bound, v121]) rfl rfl rfl rfl (oc rfl (oc (Sl.oneCell ‹_›) (oc (Sl.oneCell ‹_›) (oc rfl (oc (OwnL.oneCell ‹_›) oc_nil))))) rfl ?_)))))
    refine cg [H118, sing b109 (.cells [.int .i64 c.kind, v15, v111, .int .i64 c.bound, v121].toArray 88 (0, 0)), sing b5 (.cells [.int .i64 c.kind, v15, v111, .int .i64 c.bound, v121].toArray 88 (0, 0))] rfl ?_
    refine ln (qc (rt (kq_frz H118 ?_)))
    refine kq_cmp H118 K122 (fun c153 => ?_)
    refine kq_cmp H112 (orHp H118 K122) (fun c154 => ?_)
    refine kq_cmp H16 (orHp H112 (orHp H118 K122)) (fun c155 => ?_)
    exact kq_retC rfl rfl rfl (orHp H16 (orHp H112 (orHp H118 K122))) (fr_or f17 (fr_or f113 (fr_or f120 f123))) ⟨⟨c.kind, c.vars, c.args, c.bound, out⟩, ⟨_, rfl, _, _, _, rfl, (Sl.mono ‹_› (fun b o h => orL b o h) (fun _ _ h => h)), (Sl.mono ‹_› (fun b o h => orC c155 b o (orL b o h)) (fun _ _ h => h)), (Rows.mono' (OwnL.rowsK o119 c153) (fun b o h => orC c155 b o (orC c154 b o h)))⟩, by (have h9 := hi117; rw [List.take_of_length_le (by omega)] at h9; rw [h9])⟩
 ·refine kl_alloc (cs := [.int .i64 (0 : Int), .slice none 0 0, .slice none 0 0, .int .i64 (0 : Int), .slice none 0 0]) rfl (fun b156 hb157 => ?_)
  refine ln (qa nsl (ta 4 rfl (kl_call rfl rfl (copyInts_ok c.vars (by first | omega | (have h6 := h5 _ (getD_mem (d := []) (by omega : k < c.rows.length)); omega)) ‹_›) (fun v158 H159 f160 o161 => ?_))))
  have h162 := OwnL.ints o161
  refine ln (qa nsl (ta 7 rfl (kl_call rfl rfl (copyInts_ok c.args (by first | omega | (have h6 := h5 _ (getD_mem (d := []) (by omega : k < c.rows.length)); omega)) ‹_›) (fun v163 H164 f165 o166 => ?_))))
  have h167 := OwnL.ints o166
  refine ln (qa nsl (ta 10 rfl (kl_bd rfl (cp rfl (cp (Sl.cells ‹_›) (cp (Sl.cells ‹_›) (cp rfl cp_nil)))) rfl ?_)))
  refine ln (qx rfl (ta 12 rfl (kl_stW (us := [.int .i64 c.kind, v158, v163, .int .i64 c.bound, .slice none 0 0]) rfl rfl rfl rfl (oc rfl (oc (Sl.oneCell ‹_›) (oc (Sl.oneCell ‹_›) (oc rfl (oc rfl oc_nil))))) rfl ?_)))
  refine cg [sing b156 (.cells [.int .i64 c.kind, v158, v163, .int .i64 c.bound, .slice none 0 0].toArray 88 (0, 0)), sing b5 (.cells [.int .i64 (0 : Int), .slice none 0 0, .slice none 0 0, .int .i64 (0 : Int), .slice none 0 0].toArray 88 (0, 0))] rfl ?_
  refine ln (qx rfl (kt_end (by kernel_rfl) ?_))
  refine qc (cS (cS (cr (sg rfl (ln (qc (bl (kc_no ?_))))))))
  refine kc_loopK (A := Nat × List (List Int) × Value × Hp × Hp) (fun zz => (zz.1 ≤ c.rows.length) ∧ (zz.2.1 = c.rows.take zz.1) ∧ Fr B zz.2.2.2.2 ∧ OwnL 23 1 zz.2.2.2.1 zz.2.2.2.2 RowV zz.2.2.1 zz.2.1 ∧ Fr B zz.2.2.2.1) (fun zz => c.rows.length - zz.1) (fun zz => zz.2.2.2.2) (fun zz => [zz.2.2.2.1, sing b156 (.cells [.int .i64 c.kind, v158, v163, .int .i64 c.bound, zz.2.2.1].toArray 88 (0, 0)), sing b5 (.cells [.int .i64 (0 : Int), .slice none 0 0, .slice none 0 0, .int .i64 (0 : Int), .slice none 0 0].toArray 88 (0, 0))]) (fun zz => [(4, .int .i64 (zz.1 : Int))]) (0, [], .slice none 0 0, noHp, noHp) (pk [1, 2, 3] rfl) (pc 4 rfl pn) rfl ⟨Nat.zero_le _, rfl, (fr_no _), OwnL.nil, (fr_no _)⟩ ?_
  rintro ⟨k, out, v173, H170, K174⟩ hJ177
  obtain ⟨hk168, hi169, f175, o171, f172⟩ : (k ≤ c.rows.length) ∧ (out = c.rows.take k) ∧ Fr B K174 ∧ OwnL 23 1 H170 K174 RowV v173 out ∧ Fr B H170 := hJ177
  change KC _ _ (K174 :: _) [H170, sing b156 (.cells [.int .i64 c.kind, v158, v163, .int .i64 c.bound, v173].toArray 88 (0, 0)), sing b5 (.cells [.int .i64 (0 : Int), .slice none 0 0, .slice none 0 0, .int .i64 (0 : Int), .slice none 0 0].toArray 88 (0, 0))] _ ([(4, .int .i64 (k : Int))] ++ _)
  refine cS (cS (cr (mv rfl (fd9 rfl ‹_› (fun p178 a179 => ?_)))))
  refine ld rfl ‹_› (le9 rfl ‹_› (fun l180 => ?_))
  refine ls9 rfl rfl ?_
  refine ln (qc (ci9 rfl (fun c181 => ?_) (fun c181 => ?_)))
  ·refine sk (qc (cS (bl (kc_tree (fun i => ([9, 11] : List Nat).contains i) [sing b156 (.cells [.int .i64 c.kind, v158, v163, .int .i64 c.bound, v173].toArray 88 (0, 0))] (by kernel_rfl) ?_))))
   refine kt_q 0 (.cons _ (.cons_cons _ nsl)) rfl (by kernel_rfl) (fV rfl (ln (qq (kt_q 1 (.cons _ (.cons_cons _ nsl)) rfl (by kernel_rfl) (ld rfl (at_box (T := 88) (cs := [.int .i64 c.kind, v158, v163, .int .i64 c.bound, v173]) (off := 4) (fz := (0, 0))) (ln (qq (kt_q 2 (.cons _ (.cons_cons _ nsl)) rfl (by kernel_rfl) (fd9 rfl ‹_› (fun p182 a183 => ?_))))))))))
   refine ln (qq (kt_q 3 (.cons _ (.cons_cons _ nsl)) rfl (by kernel_rfl) (ld rfl ‹_› (ln (qq (kt_q 4 (.cons _ (.cons_cons _ nsl)) rfl (by kernel_rfl) (mv rfl (ln (qq (kt_q 5 (.cons _ (.cons_cons _ nsl)) rfl (by kernel_rfl) (kl_inS rfl rfl ‹_› (by omega) (fun p184 u186 h187 a185 => ?_))))))))))))
   refine ln (qq (kt_q 6 (.cons _ (.cons_cons _ nsl)) rfl (by kernel_rfl) (ld rfl ‹_› (ln (qq (ta 7 rfl (kl_call rfl rfl (copyInts_ok (c.rows.getD k []) (by first | omega | (have h6 := h5 _ (getD_mem (d := []) (by omega : k < c.rows.length)); omega)) ‹_›) (fun v188 H189 f190 o191 => ?_))))))))
   have h192 := OwnL.ints o191
   refine ln (qa (.cons _ (.cons_cons _ nsl)) (ta 8 rfl (bs9 rfl rfl rfl (by decide) (ca (by first | exact Sl.cells ‹_› | exact OwnL.cells ‹_›) ca_nil) (fun v193 H194 f195 r196 s197 => ?_))))
   refine ln (qa (.cons _ (.cons_cons _ nsl)) (ta 9 rfl (cm9 K174 H189 (fun c198 => ?_))))
   have o199 := OwnL.mono (K' := orHp K174 H189) o171 orL
   refine aL9 (c.rows.getD k []) rfl rfl o199 ‹_› ⟨_, rfl, Sl.mono ‹_› (orC c198) (fun _ _ h => h)⟩ (oc (Sl.oneCell ‹_›) oc_nil) (by (have h9 := congrArg List.length hi169; simp at h9; omega)) (by decide) (fun v200 H201 o202 f203 => ?_)
   have f204 := f203 B f172 (Nat.le_refl _)
   refine ln (qx rfl (kt_q 10 (.cons _ (.cons_cons _ nsl)) rfl (by kernel_rfl) (fV rfl (ln (qq (ta 11 rfl (sB rfl rfl rfl (OwnL.oneCell ‹_›) (OwnL.cells ‹_›) ?_)))))))
   refine cg [H201, sing b156 (.cells [.int .i64 c.kind, v158, v163, .int .i64 c.bound, v200].toArray 88 (0, 0)), sing b5 (.cells [.int .i64 (0 : Int), .slice none 0 0, .slice none 0 0, .int .i64 (0 : Int), .slice none 0 0].toArray 88 (0, 0))] rfl ?_
   refine ln (qx rfl (kt_end (by kernel_rfl) ?_))
   refine qc (cr (mv rfl (ic9 rfl rfl (by omega) ?_)))
   refine sg rfl (ln (tk [H201, sing b156 (.cells [.int .i64 c.kind, v158, v163, .int .i64 c.bound, v200].toArray 88 (0, 0)), sing b5 (.cells [.int .i64 (0 : Int), .slice none 0 0, .slice none 0 0, .int .i64 (0 : Int), .slice none 0 0].toArray 88 (0, 0))] ?_))
   refine kq_roundK ((k + 1), (out ++ [(c.rows.getD k [])]), v200, H201, (orHp K174 H189)) (by omega) (⟨by omega, (by rw [hi169, take_succ_getD [] (by omega)]), (fr_or f175 f190), o202, f204⟩) (pc 4 rfl pn) (pk [1, 2, 3] rfl) rfl slr9
  ·refine ex9 (qc (cS (cr (kl_ldW rfl rfl (kl_stW (us := [.int .i64 c.kind, v158, v163, .int .i64 c.bound, v173]) rfl rfl rfl rfl (oc rfl (oc (Sl.oneCell ‹_›) (oc (Sl.oneCell ‹_›) (oc rfl (oc (OwnL.oneCell ‹_›) oc_nil))))) rfl ?_)))))
   refine cg [H170, sing b156 (.cells [.int .i64 c.kind, v158, v163, .int .i64 c.bound, v173].toArray 88 (0, 0)), sing b5 (.cells [.int .i64 c.kind, v158, v163, .int .i64 c.bound, v173].toArray 88 (0, 0))] rfl ?_
   refine ln (qc (rt (kq_frz H170 ?_)))
   refine kq_cmp H170 K174 (fun c205 => ?_)
   refine kq_cmp H164 (orHp H170 K174) (fun c206 => ?_)
   refine kq_cmp H159 (orHp H164 (orHp H170 K174)) (fun c207 => ?_)
   exact kq_retC rfl rfl rfl (orHp H159 (orHp H164 (orHp H170 K174))) (fr_or f160 (fr_or f165 (fr_or f172 f175))) ⟨⟨c.kind, c.vars, c.args, c.bound, out⟩, ⟨_, rfl, _, _, _, rfl, (Sl.mono ‹_› (fun b o h => orL b o h) (fun _ _ h => h)), (Sl.mono ‹_› (fun b o h => orC c207 b o (orL b o h)) (fun _ _ h => h)), (Rows.mono' (OwnL.rowsK o171 c205) (fun b o h => orC c207 b o (orC c206 b o h)))⟩, by (have h9 := hi169; rw [List.take_of_length_le (by omega)] at h9; rw [h9])⟩
theorem copyModE_ok {Hmd : Hp} {vmd : Value} {Hmc : Hp} {vmc : Value} (m : Mod) (hm : ModSm 100 m) (hmd : Ints Hmd vmd m.doms) (hmc : Cons Hmc vmc m.cons) : SpecT Tryz.prog 115 [.agg #[vmd, vmc]] [] [Hmd, Hmc] (fun vq L1 Ln Kq => L1 = [] ∧ ∃ (Hq Mq : Hp) (va vc : Value) (mq : Mod), vq = .agg #[va, vc] ∧ Ln = [Hq, Mq] ∧ OwnL 3 1 Hq noHp IntV va mq.doms ∧ OwnL 88 5 Mq Kq ConV vc mq.cons ∧ mq = m) := by
 have h1 := hm.d1
 have h2 := hm.d
 have h3 := hm.c
 have h4 := hm.cc
 refine specT_of Tryz.func115 rfl rfl rfl (fun B => ?_)
 refine cS (cr (kl_box rfl rfl (fun p1 H2 f3 a4 => ?_)))
 refine kl_alloc (cs := [.slice none 0 0, .slice none 0 0]) rfl (fun b5 hb6 => ?_)
 refine ln (qc (cS (cr (fd9 rfl ‹_› (fun p7 a8 => ?_)))))
 refine ld rfl ‹_› (kl_callL rfl rfl (copyInts_ok m.doms (by omega) ‹_›) (fun v9 H10 f11 o12 => ?_))
 refine kl_bd rfl (cp (OwnL.cells ‹_›) cp_nil) rfl ?_
 refine kl_alloc (cs := [.slice none 0 0, .slice none 0 0]) rfl (fun b13 hb14 => ?_)
 refine kl_stW (us := [v9, .slice none 0 0]) rfl rfl rfl rfl (oc (OwnL.oneCell ‹_›) (oc rfl oc_nil)) rfl ?_
 refine cg [sing b13 (.cells [v9, .slice none 0 0].toArray 26 (0, 0)), H10, sing b5 (.cells [.slice none 0 0, .slice none 0 0].toArray 26 (0, 0))] rfl ?_
 refine ln (qc (cS (cS (cr (sg rfl (ln (qc (bl (kc_no ?_)))))))))
 refine kc_loopK (A := Nat × List Con × Value × Hp × Hp) (fun zz => (zz.1 ≤ m.cons.length) ∧ (zz.2.1 = m.cons.take zz.1) ∧ Fr B zz.2.2.2.2 ∧ OwnL 88 5 zz.2.2.2.1 zz.2.2.2.2 ConV zz.2.2.1 zz.2.1 ∧ Fr B zz.2.2.2.1) (fun zz => m.cons.length - zz.1) (fun zz => zz.2.2.2.2) (fun zz => [zz.2.2.2.1, sing b13 (.cells [v9, zz.2.2.1].toArray 26 (0, 0)), H10, sing b5 (.cells [.slice none 0 0, .slice none 0 0].toArray 26 (0, 0))]) (fun zz => [(4, .int .i64 (zz.1 : Int))]) (0, [], .slice none 0 0, noHp, noHp) (pk [1, 2, 3] rfl) (pc 4 rfl pn) rfl ⟨Nat.zero_le _, rfl, (fr_no _), OwnL.nil, (fr_no _)⟩ ?_
 rintro ⟨k, out, v20, H17, K21⟩ hJ24
 obtain ⟨hk15, hi16, f22, o18, f19⟩ : (k ≤ m.cons.length) ∧ (out = m.cons.take k) ∧ Fr B K21 ∧ OwnL 88 5 H17 K21 ConV v20 out ∧ Fr B H17 := hJ24
 change KC _ _ (K21 :: _) [H17, sing b13 (.cells [v9, v20].toArray 26 (0, 0)), H10, sing b5 (.cells [.slice none 0 0, .slice none 0 0].toArray 26 (0, 0))] _ ([(4, .int .i64 (k : Int))] ++ _)
 refine cS (cS (cr (mv rfl (fd9 rfl ‹_› (fun p25 a26 => ?_)))))
 refine ld rfl ‹_› (le9 rfl ‹_› (fun l27 => ?_))
 refine ls9 rfl rfl ?_
 refine ln (qc (ci9 rfl (fun c28 => ?_) (fun c28 => ?_)))
 ·refine sk (qc (cS (bl (kc_tree (fun i => ([9, 11] : List Nat).contains i) [sing b13 (.cells [v9, v20].toArray 26 (0, 0))] (by kernel_rfl) ?_))))
  refine kt_q 0 (.cons _ (.cons_cons _ nsl)) rfl (by kernel_rfl) (fV rfl (ln (qq (kt_q 1 (.cons _ (.cons_cons _ nsl)) rfl (by kernel_rfl) (ld rfl (at_box (T := 26) (cs := [v9, v20]) (off := 1) (fz := (0, 0))) (ln (qq (kt_q 2 (.cons _ (.cons_cons _ nsl)) rfl (by kernel_rfl) (fd9 rfl ‹_› (fun p29 a30 => ?_))))))))))
  refine ln (qq (kt_q 3 (.cons _ (.cons_cons _ nsl)) rfl (by kernel_rfl) (ld rfl ‹_› (ln (qq (kt_q 4 (.cons _ (.cons_cons _ nsl)) rfl (by kernel_rfl) (mv rfl (ln (qq (kt_q 5 (.cons _ (.cons_cons _ nsl)) rfl (by kernel_rfl) (kl_inC rfl rfl ‹_› (by omega) (fun p31 u33 u34 u35 h36 h37 h38 a32 => ?_))))))))))))
  refine ln (qq (kt_q 6 (.cons _ (.cons_cons _ nsl)) rfl (by kernel_rfl) (kl_ldS rfl ‹_› rfl ?_)))
  refine ln (qq (ta 7 rfl (kl_call rfl rfl (copyConE_ok (m.cons.getD k nilCon) (h4 _ (getD_mem (by omega))) ‹_› ‹_› ‹_›) (fun v39 H40 f41 h42 => ?_))))
  obtain ⟨z43, h45, h44⟩ := h42
  have hce := h44
  obtain ⟨_, rfl, h49⟩ := h45
  have h49' := h49
  obtain ⟨u46, u47, u48, rfl, h50, h51, h52⟩ := h49
  refine ln (qa (.cons _ (.cons_cons _ nsl)) (ta 8 rfl (kl_bsK rfl (fun v53 H54 f55 r56 => ?_))))
  refine ln (qa (.cons _ (.cons_cons _ nsl)) (ta 9 rfl (cm9 K21 H40 (fun c57 => ?_))))
  have o58 := OwnL.mono (K' := orHp K21 H40) o18 orL
  refine aL9 z43 rfl rfl o58 r56 (RMono.mono (orC c57) ‹_›) (oc rfl (oc (Sl.oneCell ‹_›) (oc (Sl.oneCell ‹_›) (oc rfl (oc (Sl.oneCell ‹_›) oc_nil))))) (by (have h9 := congrArg List.length hi16; simp at h9; omega)) (by decide) (fun v59 H60 o61 f62 => ?_)
  have f63 := f62 B f19 (Nat.le_refl _)
  refine ln (qx rfl (kt_q 10 (.cons _ (.cons_cons _ nsl)) rfl (by kernel_rfl) (fV rfl (ln (qq (ta 11 rfl (sB rfl rfl rfl (OwnL.oneCell ‹_›) (OwnL.cells ‹_›) ?_)))))))
  refine cg [H60, sing b13 (.cells [v9, v59].toArray 26 (0, 0)), H10, sing b5 (.cells [.slice none 0 0, .slice none 0 0].toArray 26 (0, 0))] rfl ?_
  refine ln (qx rfl (kt_end (by kernel_rfl) ?_))
  refine qc (cr (mv rfl (ic9 rfl rfl (by omega) ?_)))
  refine sg rfl (ln (tk [H60, sing b13 (.cells [v9, v59].toArray 26 (0, 0)), H10, sing b5 (.cells [.slice none 0 0, .slice none 0 0].toArray 26 (0, 0))] ?_))
  refine kq_roundK ((k + 1), (out ++ [z43]), v59, H60, (orHp K21 H40)) (by omega) (⟨by omega, (by rw [hi16, hce, take_succ_getD nilCon (by omega)]), (fr_or f22 f41), o61, f63⟩) (pc 4 rfl pn) (pk [1, 2, 3] rfl) rfl slr9
 ·refine ex9 (qc (cS (cr (kl_ldW rfl rfl (kl_stW (us := [v9, v20]) rfl rfl rfl rfl (oc (OwnL.oneCell ‹_›) (oc (OwnL.oneCell ‹_›) oc_nil)) rfl ?_)))))
  refine cg [H17, sing b13 (.cells [v9, v20].toArray 26 (0, 0)), H10, sing b5 (.cells [v9, v20].toArray 26 (0, 0))] rfl ?_
  refine ln (qc (rt ?_))
  exact rC rfl rfl rfl [] [H10, H17] K21 (frc f11 (fr1 f19)) f22 ⟨rfl, H10, H17, _, _, (⟨m.doms, out⟩ : Mod), rfl, rfl, o12, o18, by (have h9 := hi16; rw [List.take_of_length_le (by omega)] at h9; rw [h9])⟩
end
section
theorem validObjective_ok {Hmd : Hp} {vmd : Value} {Hmc : Hp} {vmc : Value} {Hobj : Hp} {vobj : Value} (m : Mod) (obj : List Int) (hmd : Ints Hmd vmd m.doms) (hmc : Cons Hmc vmc m.cons) (hobj : Ints Hobj vobj obj) : SpecP Tryz.prog 33 [.agg #[vmd, vmc], vobj] [Hmd, Hmc, Hobj] (.bool (objOkS m obj)) := by
 refine spec_of Tryz.func33 rfl rfl rfl (fun B => ?_)
 refine cS (cr (kl_box rfl rfl (fun p1 H2 f3 a4 => ?_)))
 refine sg rfl (ln (qc (cS (cr (mv rfl (le9 rfl ‹_› (fun l5 => ?_)))))))
 refine fd9 rfl ‹_› (fun p6 a7 => ?_)
 refine ld rfl ‹_› (le9 rfl ‹_› (fun l8 => ?_))
 refine eq9 rfl rfl ?_
 refine mv rfl (jn 3 14 (.bool (decide ((obj.length : Int) = (m.doms.length : Int)) && (allInB obj (-9 : Int) (9 : Int)))) (pk [4, 11] rfl) (fun J10 => ?_) ?_)
 ·rcases Bool.eq_false_or_eq_true (decide ((obj.length : Int) = (m.doms.length : Int))) with g9 | g9
  ·have g9p := of_decide_eq_true g9
   refine gT rfl rfl g9 (mv rfl (gT rfl rfl g9 (cP rfl rfl (allInRange_ok obj (-9 : Int) (9 : Int) ‹_›) ?_)))
   refine aT rfl rfl g9 ?_
   exact J10 _ (pk [14, 4, 11] rfl)
  ·refine gF rfl rfl g9 (gF rfl rfl g9 (aF (allInB obj (-9 : Int) (9 : Int)) rfl rfl g9 ?_))
   exact J10 _ (pk [14, 4, 11] rfl)
 refine sg rfl (ln (qc (rt (kq_retP rfl rfl (congrArg Value.bool ?_)))))
 rfl
end
section
def cmpI (a b : Int) : Int := if a < b then -1 else if b < a then 1 else 0
theorem cmpI_1 {a b : Int} (h : a < b) : (-1 : Int) = cmpI a b := by unfold cmpI; rw [if_pos h]
theorem cmpI_2 {a b : Int} (h : ¬ a < b) (h2 : b < a) : (1 : Int) = cmpI a b := by unfold cmpI; rw [if_neg h, if_pos h2]
theorem cmpI_3 {a b : Int} (h : ¬ a < b) (h2 : ¬ b < a) : (0 : Int) = cmpI a b := by unfold cmpI; rw [if_neg h, if_neg h2]
end
section
def truesI (l : Lit) : Int := if l.neg = true then iandNot 63 (ishl 1 l.val) else ishl 1 l.val
theorem trues_T {l : Lit} (h : l.neg = true) : iandNot 63 (ishl 1 l.val) = truesI l := by unfold truesI; rw [if_pos h]
theorem trues_F {l : Lit} (h : l.neg = false) : ishl 1 l.val = truesI l := by unfold truesI; rw [if_neg (by rw [h]; simp)]
def litOkB (n : Int) (l : Lit) : Bool := withinB l.var 0 (n - 1) && withinB l.val 0 5
def litLt (a b : Lit) : Bool := if a.var ≠ b.var then decide (a.var < b.var) else if a.val ≠ b.val then decide (a.val < b.val) else !a.neg && b.neg
theorem litLt_1 {a b : Lit} (h : a.var ≠ b.var) : decide (a.var < b.var) = litLt a b := by unfold litLt; rw [if_pos h]
theorem litLt_2 {a b : Lit} (h0 : ¬ a.var ≠ b.var) (h : a.val ≠ b.val) : decide (a.val < b.val) = litLt a b := by unfold litLt; rw [if_neg h0, if_pos h]
theorem litLt_3 {a b : Lit} (h0 : ¬ a.var ≠ b.var) (h : ¬ a.val ≠ b.val) : (!a.neg && b.neg) = litLt a b := by unfold litLt; rw [if_neg h0, if_neg h]
def orI : List Int → Int
  | [] => 0
  | x :: r => if x ≠ 0 then x else orI r
theorem orI_at : ∀ {xs : List Int} {k : Nat}, k < xs.length → (xs.take k).all (fun x => decide (x = 0)) = true → xs.getD k 0 ≠ 0 → xs.getD k 0 = orI xs
  | [], k, h, _, _ => absurd h (Nat.not_lt_zero k)
  | x :: r, 0, _, _, h => by
    have h : x ≠ 0 := h
    unfold orI; rw [if_pos h]; rfl
  | x :: r, k + 1, hk, h1, h => by
    simp only [List.take_succ_cons, List.all_cons, Bool.and_eq_true, decide_eq_true_eq] at h1
    unfold orI; rw [if_neg (by simp [h1.1])]
    exact orI_at (by simpa using hk) h1.2 h
theorem orI_end : ∀ {xs : List Int}, xs.all (fun x => decide (x = 0)) = true → (0 : Int) = orI xs
  | [], _ => rfl
  | x :: r, h => by
    simp only [List.all_cons, Bool.and_eq_true, decide_eq_true_eq] at h
    unfold orI; rw [if_neg (by simp [h.1])]; exact orI_end h.2
theorem all0_step {xs : List Int} {k : Nat} (hk : k < xs.length) (h : (xs.take k).all (fun x => decide (x = 0)) = true) (c : ¬ xs.getD k 0 ≠ 0) : (xs.take (k + 1)).all (fun x => decide (x = 0)) = true := by
  rw [take_succ_getD 0 hk, List.all_append, h]; simpa using c
theorem all0_end {xs : List Int} {k : Nat} (hk : k = xs.length) (h : (xs.take k).all (fun x => decide (x = 0)) = true) : (0 : Int) = orI xs := orI_end (by rw [hk, List.take_length] at h; exact h)
def litCmp (a b : Lit) : Int := orI [cmpI a.var b.var, cmpI a.val b.val, cmpI (if a.neg = true then 1 else 0) (if b.neg = true then 1 else 0)]
theorem litCmp_lt (a b : Lit) : decide (0 ≤ litCmp a b) = !(litLt a b) := by
  obtain ⟨a1, a2, a3⟩ := a; obtain ⟨b1, b2, b3⟩ := b
  simp only [litCmp, litLt, orI, cmpI]
  by_cases h1 : a1 < b1
  · simp [h1, show a1 ≠ b1 by omega]
  · by_cases h2 : b1 < a1
    · simp [h1, h2, show a1 ≠ b1 by omega]
    · have e : a1 = b1 := by omega
      subst e
      by_cases h3 : a2 < b2
      · simp [h3, show a2 ≠ b2 by omega]
      · by_cases h4 : b2 < a2
        · simp [h3, h4, show a2 ≠ b2 by omega]
        · have e : a2 = b2 := by omega
          subst e
          cases a3 <;> cases b3 <;> simp
def clAt (n : Int) (c : List Lit) (i : Nat) : Bool := litOkB n (c.getD i nilLit) && !(decide ((0 : Int) < (i : Int)) && !(litLt (c.getD ((i : Int) - 1).toNat nilLit) (c.getD i nilLit)))
def clTo (n : Int) (c : List Lit) (k : Nat) : Bool := (List.range k).all (clAt n c)
def clS (n : Int) (c : List Lit) : Bool := clTo n c c.length && decide ((c.length : Int) ≤ 12)
def clI (n : Int) (c : List Lit) : Bool := clTo n c c.length && (withinB n 1 4 && decide ((c.length : Int) ≤ 12))
theorem cl_b {A B p q : Bool} (h : (((!A) || !B) || (p && !q)) = false) : (A && B && !(p && !q)) = true := by revert h; cases A <;> cases B <;> cases p <;> cases q <;> simp
theorem cl_b' {A B p q : Bool} (h : (((!A) || !B) || (p && !q)) = true) : (A && B && !(p && !q)) = false := by revert h; cases A <;> cases B <;> cases p <;> cases q <;> simp
theorem cl_step {n : Int} {c : List Lit} {k : Nat} (hi : clTo n c k = true) (h : ((!(withinB (c.getD k nilLit).var 0 (n - 1)) || !(withinB (c.getD k nilLit).val 0 5)) || (decide ((0 : Int) < (k : Int)) && !(litLt (c.getD ((k : Int) - 1).toNat nilLit) (c.getD k nilLit)))) = false) : clTo n c (k + 1) = true := by
  unfold clTo at *
  rw [List.range_succ, List.all_append, hi]
  simp only [List.all_cons, List.all_nil, Bool.and_true, Bool.true_and]
  exact cl_b h
theorem cl_stepI {n : Int} {c : List Lit} {k : Nat} (hi : clTo n c k = true) (h : ((!(withinB (c.getD k nilLit).var 0 (n - 1)) || !(withinB (c.getD k nilLit).val 0 5)) || (decide ((0 : Int) < (k : Int)) && decide (0 ≤ litCmp (c.getD ((k : Int) - 1).toNat nilLit) (c.getD k nilLit)))) = false) : clTo n c (k + 1) = true := cl_step hi (by rw [litCmp_lt] at h; exact h)
theorem cl_at {n : Int} {c : List Lit} {k : Nat} (hk : k < c.length) (h : ((!(withinB (c.getD k nilLit).var 0 (n - 1)) || !(withinB (c.getD k nilLit).val 0 5)) || (decide ((0 : Int) < (k : Int)) && !(litLt (c.getD ((k : Int) - 1).toNat nilLit) (c.getD k nilLit)))) = true) : clTo n c c.length = false := by
  unfold clTo
  rw [List.all_eq_false]
  exact ⟨k, List.mem_range.2 hk, by rw [show clAt n c k = false from cl_b' h]; simp⟩
theorem cl_noS {n : Int} {c : List Lit} {k : Nat} (hk : k < c.length) (h : ((!(withinB (c.getD k nilLit).var 0 (n - 1)) || !(withinB (c.getD k nilLit).val 0 5)) || (decide ((0 : Int) < (k : Int)) && !(litLt (c.getD ((k : Int) - 1).toNat nilLit) (c.getD k nilLit)))) = true) : false = clS n c := by
  unfold clS; rw [cl_at hk h]; rfl
theorem cl_noI {n : Int} {c : List Lit} {k : Nat} (hk : k < c.length) (h : ((!(withinB (c.getD k nilLit).var 0 (n - 1)) || !(withinB (c.getD k nilLit).val 0 5)) || (decide ((0 : Int) < (k : Int)) && decide (0 ≤ litCmp (c.getD ((k : Int) - 1).toNat nilLit) (c.getD k nilLit)))) = true) : false = clI n c := by
  rw [litCmp_lt] at h
  unfold clI; rw [cl_at hk h]; rfl
theorem cl_yesS {n : Int} {c : List Lit} {k : Nat} (hk : k = c.length) (hi : clTo n c k = true) : decide ((c.length : Int) ≤ 12) = clS n c := by unfold clS; rw [← hk, hi]; rfl
theorem cl_yesI {n : Int} {c : List Lit} {k : Nat} (hk : k = c.length) (hi : clTo n c k = true) : (withinB n 1 4 && decide ((c.length : Int) ≤ 12)) = clI n c := by unfold clI; rw [← hk, hi]; rfl
/-- The literals are in order, over the model's variables. -/
def litsB (m : Mod) (c : List Lit) : Bool := validModB m && clI (m.doms.length : Int) c
theorem litsB_S (m : Mod) (c : List Lit) : (validModB m && clS (m.doms.length : Int) c) = litsB m c := by
  unfold litsB
  cases h : validModB m with
  | false => rfl
  | true =>
    have hM : MOk m := ⟨h⟩
    have hn := hM.n
    unfold clS clI
    rw [show withinB (m.doms.length : Int) 1 4 = true by unfold withinB; simp; omega]
    simp
structure LOk (m : Mod) (c : List Lit) : Prop where
  hM : MOk m
  h : ∀ l ∈ c, (0 ≤ l.var ∧ l.var < (m.doms.length : Int)) ∧ (0 ≤ l.val ∧ l.val ≤ 5)
  n : c.length ≤ 12
theorem lits_ok {m : Mod} {c : List Lit} (h : litsB m c = true) : LOk m c := by
  unfold litsB clI at h
  simp only [Bool.and_eq_true, decide_eq_true_eq] at h
  refine ⟨⟨h.1⟩, fun l hl => ?_, by omega⟩
  obtain ⟨i, hi, rfl⟩ := List.getElem_of_mem hl
  have h1 := List.all_eq_true.1 h.2.1 i (List.mem_range.2 hi)
  unfold clAt litOkB at h1
  simp only [Bool.and_eq_true, withinB_iff] at h1
  rw [List.getD_eq_getElem?_getD, List.getElem?_eq_getElem hi, Option.getD_some] at h1
  omega
theorem litOk_at {n : Int} {c : List Lit} {i : Nat} (h : clTo n c c.length = true) (hi : i < c.length) : litOkB n (c.getD i nilLit) = true := by
  have h1 := List.all_eq_true.1 h i (List.mem_range.2 hi)
  unfold clAt at h1; simp only [Bool.and_eq_true] at h1; exact h1.1
end
section
theorem litLess_ok (a : Lit) (b : Lit) : SpecP Tryz.prog 160 [.agg #[.int .i64 a.var, .int .i64 a.val, .bool a.neg], .agg #[.int .i64 b.var, .int .i64 b.val, .bool b.neg]] [] (.bool (litLt a b)) := by
 refine spec_of Tryz.func160 rfl rfl rfl (fun B => ?_)
 refine cS (cr (kl_box rfl rfl (fun p1 H2 f3 a4 => ?_)))
 refine kl_box rfl rfl (fun p5 H6 f7 a8 => ?_)
 refine sg rfl (ln (qc (cS (cS (cr (fd9 rfl ‹_› (fun p9 a10 => ?_)))))))
 refine ld rfl ‹_› (fd9 rfl ‹_› (fun p11 a12 => ?_))
 refine ld rfl ‹_› (kl_neq rfl rfl ?_)
 refine ln (qc (ci9 rfl (fun c13 => ?_) (fun c13 => ?_)))
 ·refine cS (cr (fd9 rfl ‹_› (fun p14 a15 => ?_)))
  refine ld rfl ‹_› (fd9 rfl ‹_› (fun p16 a17 => ?_))
  refine ld rfl ‹_› (ls9 rfl rfl ?_)
  refine sg rfl (ln (qc (rt (kq_retP rfl rfl (congrArg Value.bool ?_)))))
  exact litLt_1 ‹_›
 ·refine sk (qc (cS (cS (cr (fd9 rfl ‹_› (fun p18 a19 => ?_))))))
  refine ld rfl ‹_› (fd9 rfl ‹_› (fun p20 a21 => ?_))
  refine ld rfl ‹_› (kl_neq rfl rfl ?_)
  refine ln (qc (ci9 rfl (fun c22 => ?_) (fun c22 => ?_)))
  ·refine cS (cr (fd9 rfl ‹_› (fun p23 a24 => ?_)))
   refine ld rfl ‹_› (fd9 rfl ‹_› (fun p25 a26 => ?_))
   refine ld rfl ‹_› (ls9 rfl rfl ?_)
   refine sg rfl (ln (qc (rt (kq_retP rfl rfl (congrArg Value.bool ?_)))))
   exact litLt_2 ‹_› ‹_›
  ·refine sk (qc (cS (cr (fd9 rfl ‹_› (fun p27 a28 => ?_)))))
   refine ld rfl ‹_› (nt9 rfl (mv rfl (jn 3 31 (.bool (!a.neg && b.neg)) (pk [4, 28] rfl) (fun J32 => ?_) ?_)))
   ·rcases Bool.eq_false_or_eq_true (!a.neg) with g29 | g29
    ·have g29p := g29
     try simp only [smpD] at g29p
     refine gT rfl rfl g29 (fd9 rfl ‹_› (fun p30 a31 => ?_))
     refine gT rfl rfl g29 (ld rfl ‹_› (aT rfl rfl g29 ?_))
     exact J32 _ (pk [31, 4, 28] rfl)
    ·refine gF rfl rfl g29 (gF rfl rfl g29 (aF b.neg rfl rfl g29 ?_))
     exact J32 _ (pk [31, 4, 28] rfl)
   refine sg rfl (ln (qc (rt (kq_retP rfl rfl (congrArg Value.bool ?_)))))
   exact litLt_3 ‹_› ‹_›
theorem validClS_ok {Hc : Hp} {vc : Value} (c : List Lit) (n : Int) (hn : -9223372036854775807 ≤ n ∧ n ≤ 9223372036854775807) (hc : Lits Hc vc c) : SpecP Tryz.prog 127 [vc, .int .i64 n] [Hc] (.bool (clS n c)) := by
 refine spec_of Tryz.func127 rfl rfl rfl (fun B => ?_)
 refine cS (cr (sg rfl (ln (qc (cS (cS (cr (sg rfl (ln (qc (bl (kc_loop0 (A := Nat) (fun zz => (zz ≤ c.length) ∧ (clTo n c zz = true)) (fun zz => c.length - zz) (fun zz => [(5, .int .i64 (zz : Int))]) (0) (pk [0, 1] rfl) (pc 5 rfl pn) ⟨Nat.zero_le _, rfl⟩ ?_))))))))))))
 rintro k hJ3
 obtain ⟨hk1, hi2⟩ : (k ≤ c.length) ∧ (clTo n c k = true) := hJ3
 change KC _ _ (_) _ _ ([(5, .int .i64 (k : Int))] ++ _)
 refine cS (cS (cr (mv rfl (mv rfl (le9 rfl ‹_› (fun l4 => ?_))))))
 refine ls9 rfl rfl ?_
 refine ln (qc (ci9 rfl (fun c5 => ?_) (fun c5 => ?_)))
 ·refine sk (qc (cS (bl (cS (kc_draw 35 [true, true, true, true, true, true, true, false, true, true, true, true, true, true, true, false, true, true, true, true, true, true, true, true, true, true, true, true, true, true, true, false, true, true, true] (by kernel_rfl) (by kernel_rfl) ?_)))))
  refine mv rfl (mv rfl (kl_inQ rfl rfl ‹_› (by omega) (fun p6 a7 => ?_)))
  refine fd9 rfl ‹_› (fun p8 a9 => ?_)
  refine ld rfl ‹_› (mv rfl (sb9 rfl rfl (by omega) ?_))
  refine cP rfl rfl (inRange_ok ((c.getD k nilLit).var) (0 : Int) (n - (1 : Int))) ?_
  refine nt9 rfl (mv rfl (jn 8 29 (.bool (!(withinB ((c.getD k nilLit).var) (0 : Int) (n - (1 : Int))) || !(withinB ((c.getD k nilLit).val) (0 : Int) (5 : Int)))) (pk [0, 1, 5, 6, 7, 8, 9, 12, 13, 14, 15, 16, 17, 18, 19, 20, 21] rfl) (fun J15 => ?_) ?_))
  ·rcases Bool.eq_false_or_eq_true (!(withinB ((c.getD k nilLit).var) (0 : Int) (n - (1 : Int)))) with g10 | g10
   ·refine gF rfl rfl g10 (gF rfl rfl g10 (gF rfl rfl g10 (gF rfl rfl g10 (gF rfl rfl g10 (gF rfl rfl g10 (gF rfl rfl g10 (oT (!(withinB ((c.getD k nilLit).val) (0 : Int) (5 : Int))) rfl rfl g10 ?_)))))))
    exact J15 _ (pk [29, 0, 1, 5, 6, 7, 8, 9, 12, 13, 14, 15, 16, 17, 18, 19, 20, 21] rfl)
   ·have g10p := g10
    try simp only [smpD] at g10p
    refine gT rfl rfl g10 (mv rfl (gT rfl rfl g10 (mv rfl (gT rfl rfl g10 (kl_inQ rfl rfl ‹_› (by omega) (fun p11 a12 => ?_))))))
    refine gT rfl rfl g10 (fd9 rfl ‹_› (fun p13 a14 => ?_))
    refine gT rfl rfl g10 (ld rfl ‹_› (gT rfl rfl g10 (cP rfl rfl (inRange_ok ((c.getD k nilLit).val) (0 : Int) (5 : Int)) ?_)))
    refine gT rfl rfl g10 (nt9 rfl (oF rfl rfl g10 ?_))
    exact J15 _ (pk [29, 0, 1, 5, 6, 7, 8, 9, 12, 13, 14, 15, 16, 17, 18, 19, 20, 21] rfl)
  refine mv rfl (jn 16 46 (.bool ((!(withinB ((c.getD k nilLit).var) (0 : Int) (n - (1 : Int))) || !(withinB ((c.getD k nilLit).val) (0 : Int) (5 : Int))) || (decide ((0 : Int) < (k : Int)) && !(litLt (c.getD ((k : Int) - (1 : Int)).toNat nilLit) (c.getD k nilLit))))) (pk [0, 1, 5, 6, 7, 8, 9, 12, 13, 14, 15, 16, 17, 18, 19, 20, 21, 29, 30] rfl) (fun J23 => ?_) ?_)
  ·rcases Bool.eq_false_or_eq_true (!(withinB ((c.getD k nilLit).var) (0 : Int) (n - (1 : Int))) || !(withinB ((c.getD k nilLit).val) (0 : Int) (5 : Int))) with g16 | g16
   ·refine gF rfl rfl g16 (gF rfl rfl g16 (gF rfl rfl g16 (kl_gU rfl rfl (kl_gU rfl rfl (kl_gU rfl rfl (kl_gU rfl rfl (kl_gU rfl rfl (kl_gU rfl rfl ?_))))))))
    refine kl_gU rfl rfl (kl_gU rfl rfl (kl_gU rfl rfl (kl_gU rfl rfl (kl_gU rfl rfl (gF rfl rfl g16 (oT (decide ((0 : Int) < (k : Int)) && !(litLt (c.getD ((k : Int) - (1 : Int)).toNat nilLit) (c.getD k nilLit))) rfl rfl g16 ?_))))))
    exact J23 _ (pk [46, 0, 1, 5, 6, 7, 8, 9, 12, 13, 14, 15, 16, 17, 18, 19, 20, 21, 29, 30] rfl)
   ·have g16p := g16
    try simp only [smpD] at g16p
    refine gT rfl rfl g16 (mv rfl (gT rfl rfl g16 (kl_gtr rfl rfl ?_)))
    refine gT rfl rfl g16 (mv rfl (jn 12 45 (.bool (decide ((0 : Int) < (k : Int)) && !(litLt (c.getD ((k : Int) - (1 : Int)).toNat nilLit) (c.getD k nilLit)))) (pk [0, 1, 5, 6, 7, 8, 9, 12, 13, 14, 15, 16, 17, 18, 19, 20, 21, 29, 30, 31, 32, 33] rfl) (fun J22 => ?_) ?_))
    ·rcases Bool.eq_false_or_eq_true (decide ((0 : Int) < (k : Int))) with g17 | g17
     ·have g17p := of_decide_eq_true g17
      refine gT rfl rfl g17 (mv rfl (gT rfl rfl g17 (mv rfl (gT rfl rfl g17 (sb9 rfl rfl (by omega) ?_)))))
      refine gT rfl rfl g17 (kl_ixQ rfl rfl ‹_› (by omega) (by omega) (fun p18 a19 => ?_))
      refine gT rfl rfl g17 (kl_ldS rfl ‹_› rfl ?_)
      refine gT rfl rfl g17 (mv rfl (gT rfl rfl g17 (mv rfl (gT rfl rfl g17 (kl_inQ rfl rfl ‹_› (by omega) (fun p20 a21 => ?_))))))
      refine gT rfl rfl g17 (kl_ldS rfl ‹_› rfl ?_)
      refine gT rfl rfl g17 (cP rfl rfl (litLess_ok (c.getD ((k : Int) - (1 : Int)).toNat nilLit) (c.getD k nilLit)) ?_)
      refine gT rfl rfl g17 (nt9 rfl (gT rfl rfl g16 (aT rfl rfl g17 ?_)))
      exact J22 _ (pk [45, 0, 1, 5, 6, 7, 8, 9, 12, 13, 14, 15, 16, 17, 18, 19, 20, 21, 29, 30, 31, 32, 33] rfl)
     ·refine gF rfl rfl g17 (gF rfl rfl g17 (gF rfl rfl g17 (gF rfl rfl g17 (gF rfl rfl g17 (gF rfl rfl g17 (gF rfl rfl g17 (gF rfl rfl g17 (gF rfl rfl g17 ?_))))))))
      refine gF rfl rfl g17 (gF rfl rfl g17 (gT rfl rfl g16 (aF (!(litLt (c.getD ((k : Int) - (1 : Int)).toNat nilLit) (c.getD k nilLit))) rfl rfl g17 ?_)))
      exact J22 _ (pk [45, 0, 1, 5, 6, 7, 8, 9, 12, 13, 14, 15, 16, 17, 18, 19, 20, 21, 29, 30, 31, 32, 33] rfl)
    refine oF rfl rfl g16 ?_
    exact J23 _ (pk [46, 0, 1, 5, 6, 7, 8, 9, 12, 13, 14, 15, 16, 17, 18, 19, 20, 21, 29, 30] rfl)
  refine ln (qc (cd9 rfl (fun c24 => ?_) (fun c24 => ?_)))
  ·have c24r := c24
   try simp only [smpE] at c24
   refine cS (cr (sg rfl (ln (qc (rt (kq_retP rfl rfl (congrArg Value.bool ?_)))))))
   exact cl_noS (k := k) (by omega) ‹_›
  ·have c24r := c24
   try simp only [smpE] at c24
   refine sk (qc (cr (mv rfl (ic9 rfl rfl (by omega) ?_))))
   refine sg rfl (ln (kq_round0 ((k + 1)) (by omega) (⟨by omega, cl_step hi2 ‹_›⟩) (pc 5 rfl pn) (pk [0, 1] rfl) slr9))
 ·refine ex9 (qc (cS (cr (mv rfl (le9 rfl ‹_› (fun l25 => ?_))))))
  refine kl_leq rfl rfl ?_
  refine sg rfl (ln (qc (rt (kq_retP rfl rfl (congrArg Value.bool ?_)))))
  exact cl_yesS (k := k) (by omega) hi2
end
section
def LRowV : Rel (List Lit) := fun K vs xs => ∃ u, vs = [u] ∧ Lits K u xs
instance : RMono LRowV := ⟨fun hk ⟨u, e, h⟩ => ⟨u, e, h.mono hk (fun _ _ h => h)⟩⟩
instance : ROne LRowV := ⟨fun ⟨_, e, h⟩ u hu => by subst e; rw [List.mem_singleton.1 hu]; exact h.oneCell⟩
abbrev LRows (H : Hp) (v : Value) (xs : List (List Lit)) : Prop := Sl H 1 (SlC H 3 LitC) v xs
theorem LRows.mono' {H K : Hp} {v : Value} {xs : List (List Lit)} (h : LRows H v xs) (hk : ∀ b o, H b = some o → K b = some o) : LRows K v xs :=
  Sl.mono h hk (fun _ _ ⟨u, e, h⟩ => ⟨u, e, h.mono hk (fun _ _ h => h)⟩)
theorem OwnL.lrowsK {E : Nat} {H K : Hp} {v : Value} {xs : List (List Lit)} (h : OwnL E 1 H K LRowV v xs) (c : Cmp H K) : LRows (orHp H K) v xs := (h.mono (K' := orHp H K) (orC c)).sl orL (fun _ _ h => h)
theorem OwnL.lrow1 {E : Nat} {H K : Hp} {v u : Value} {r : List Lit} (o : OwnS E 1 H v 1 [u]) (h : Lits K u r) : OwnL E 1 H K LRowV v [r] := ⟨[u], o, fun i hi => by
  have e : i = 0 := by simpa using hi
  subst e
  exact ⟨u, rfl, h⟩⟩
theorem lrows_re {H P R : Hp} {v : Value} {xs : List (List Lit)} (c : Cmp P R) (h : LRows (orHp H (orHp P R)) v xs) : LRows (orHp (orHp H R) P) v xs := LRows.mono' h (fun b o hb => by
  unfold orHp at *
  cases e : H b with
  | some x => rw [e] at hb; simpa using hb
  | none =>
    rw [e] at hb
    cases e1 : P b with
    | none => rw [e1] at hb; simpa using hb
    | some x =>
      rw [e1] at hb
      cases e2 : R b with
      | none => simpa using hb
      | some y =>
        have h1 := c b x y e1 e2
        subst h1
        simpa using hb)
end
section
variable {A : Type}
structure TotC (c : A → A → Int) : Prop where
  asy : ∀ a b, c a b < 0 → ¬ c b a < 0
  tr : ∀ a b d, ¬ c b a < 0 → ¬ c d b < 0 → ¬ c d a < 0
def swapL (ys : List A) (j : Nat) (d : A) : List A := (ys.set (j + 1) (ys.getD j d)).set j (ys.getD (j + 1) d)
theorem swapL_at {ys : List A} {j : Nat} {d : A} (h : j + 1 < ys.length) (p : Nat) : (swapL ys j d).getD p d = if p = j then ys.getD (j + 1) d else if p = j + 1 then ys.getD j d else ys.getD p d := by
  unfold swapL
  simp only [List.getD_eq_getElem?_getD, List.getElem?_set, List.length_set]
  by_cases e1 : p = j
  · subst e1; simp [show p < ys.length by omega]
  · rw [if_neg (fun e => e1 e.symm), if_neg e1]
    by_cases e2 : p = j + 1
    · subst e2; simp [h]
    · rw [if_neg (fun e => e2 e.symm), if_neg e2]
theorem swapL_perm {ys : List A} {j : Nat} {d : A} (h : j + 1 < ys.length) : (swapL ys j d).Perm ys := by
  have e0 : ys = ys.take j ++ ys.getD j d :: ys.getD (j + 1) d :: ys.drop (j + 2) := by
    conv => lhs; rw [← List.take_append_drop j ys, List.drop_eq_getElem_cons (show j < ys.length by omega), List.drop_eq_getElem_cons h]
    simp [List.getD_eq_getElem?_getD, h, show j < ys.length by omega]
  have e1 : swapL ys j d = ys.take j ++ ys.getD (j + 1) d :: ys.getD j d :: ys.drop (j + 2) := by
    have hl : (ys.take j).length = j := by rw [List.length_take]; omega
    apply List.ext_getElem?
    intro p
    unfold swapL
    simp only [List.getElem?_set, List.length_set]
    by_cases e1 : j = p
    · subst e1; rw [if_pos rfl, if_pos (by omega), List.getElem?_append_right (by omega), hl]; simp
    · rw [if_neg e1]
      by_cases e2 : j + 1 = p
      · subst e2; rw [if_pos rfl, if_pos h, List.getElem?_append_right (by omega), hl]; simp [show j + 1 - j = 1 by omega]
      · rw [if_neg e2]
        by_cases e3 : p < j
        · rw [List.getElem?_append_left (by omega), List.getElem?_take, if_pos e3]
        · rw [List.getElem?_append_right (by omega), hl]
          obtain ⟨q, rfl⟩ : ∃ q, p = j + 2 + q := ⟨p - (j + 2), by omega⟩
          rw [show j + 2 + q - j = q + 2 from by omega]
          simp
  rw [e1]
  conv => rhs; rw [e0]
  exact List.Perm.append_left _ (List.Perm.swap _ _ _)
/-- Inside: what lies at the places up to i is ascending, but for the element at j, which may be too small. -/
structure InsA (c : A → A → Int) (d : A) (xs ys : List A) (i j : Nat) : Prop where
  perm : ys.Perm xs
  ji : j ≤ i
  srt : ∀ p q, p < q → q ≤ i → q ≠ j → ¬ c (ys.getD q d) (ys.getD p d) < 0
structure SrtA (c : A → A → Int) (d : A) (xs ys : List A) (i : Nat) : Prop where
  perm : ys.Perm xs
  srt : ∀ p q, p < q → q < i → ¬ c (ys.getD q d) (ys.getD p d) < 0
variable {c : A → A → Int} {d : A} {xs ys : List A} {i j : Nat}
theorem SrtA.zero (xs : List A) : SrtA c d xs xs 1 := ⟨.refl _, fun p q h1 h2 => by omega⟩
theorem SrtA.go (h : SrtA c d xs ys i) : InsA c d xs ys i i := ⟨h.perm, Nat.le_refl _, fun p q h1 h2 h3 => h.srt p q h1 (by omega)⟩
theorem InsA.step (hc : TotC c) (h : InsA c d xs ys i j) (hj : 0 < j) (hi : i < ys.length) (hlt : c (ys.getD j d) (ys.getD (j - 1) d) < 0) : InsA c d xs (swapL ys (j - 1) d) i (j - 1) := by
  obtain ⟨k, rfl⟩ : ∃ k, j = k + 1 := ⟨j - 1, by omega⟩
  rw [Nat.add_sub_cancel] at hlt ⊢
  have hji := h.ji
  have hk : k + 1 < ys.length := by omega
  refine ⟨(swapL_perm hk).trans h.perm, by omega, fun p q h1 h2 h3 => ?_⟩
  rw [swapL_at hk, swapL_at hk, if_neg h3]
  by_cases e1 : q = k + 1
  · subst e1
    rw [if_pos rfl]
    by_cases e2 : p = k
    · subst e2; rw [if_pos rfl]; exact hc.asy _ _ hlt
    · rw [if_neg e2, if_neg (by omega)]; exact h.srt p k (by omega) (by omega) (by omega)
  · rw [if_neg e1]
    by_cases e2 : p = k
    · subst e2; rw [if_pos rfl]; exact h.srt (p + 1) q (by omega) h2 e1
    · rw [if_neg e2]
      by_cases e3 : p = k + 1
      · subst e3; rw [if_pos rfl]; exact h.srt k q (by omega) h2 e1
      · rw [if_neg e3]; exact h.srt p q h1 h2 e1
theorem InsA.done0 (h : InsA c d xs ys i 0) : SrtA c d xs ys (i + 1) := ⟨h.perm, fun p q h1 h2 => h.srt p q h1 (by omega) (by omega)⟩
theorem InsA.done (hc : TotC c) (h : InsA c d xs ys i j) (hj : 0 < j) (hn : ¬ c (ys.getD j d) (ys.getD (j - 1) d) < 0) : SrtA c d xs ys (i + 1) := ⟨h.perm, fun p q h1 h2 => by
  by_cases e : q = j
  · subst e
    by_cases e2 : p = q - 1
    · subst e2; exact hn
    · exact hc.tr _ _ _ (h.srt p (q - 1) (by omega) (by have := h.ji; omega) (by omega)) hn
  · exact h.srt p q h1 (by omega) e⟩
/-- The ascending list. -/
def SrtL (c : A → A → Int) (d : A) (ys : List A) : Prop := ∀ p q, p < q → q < ys.length → ¬ c (ys.getD q d) (ys.getD p d) < 0
theorem SrtA.all (h : SrtA c d xs ys i) (hi : ys.length ≤ i) : SrtL c d ys := fun p q h1 h2 => h.srt p q h1 (by omega)
theorem SrtL.tail {y : A} (h : SrtL c d (y :: ys)) : SrtL c d ys := fun p q h1 h2 => by
  have := h (p + 1) (q + 1) (by omega) (by simpa using h2)
  simpa using this
end
section
def len8M : List UInt8 := [0, 1] ++ List.replicate 2 2 ++ List.replicate 4 3 ++ List.replicate 8 4 ++ List.replicate 16 5 ++ List.replicate 32 6 ++ List.replicate 64 7 ++ List.replicate 128 8
def len8B : ByteArray := ⟨len8M.toArray⟩
theorem len8_any {i : Nat} (h2 : i < 64) : ∃ b : UInt8, len8B[i]? = some b ∧ b.toNat ≤ 8 := by
  have key : ∀ i, i < 64 → ((len8M[i]?).map (fun b => decide (b.toNat ≤ 8))) = some true := by decide +kernel
  have h := key i h2
  cases e : len8M[i]? with
  | none => rw [e] at h; cases h
  | some b =>
    rw [e] at h
    refine ⟨b, ?_, by simpa using h⟩
    have hl : i < len8M.length := (List.getElem?_eq_some_iff.1 e).1
    have hs : i < len8B.size := by
      have e1 : len8B.size = len8M.length := by simp [len8B, ByteArray.size]
      omega
    rw [getElem?_pos len8B i hs]
    have e2 := (List.getElem?_eq_some_iff.1 e).2
    simp only [Option.some.injEq]
    rw [← e2]
    simp [len8B, ByteArray.getElem_eq_getElem_data]
section ops
variable {C : Cx} {dr : Bool} {ops : Array Oper} {Q : Post} {ims L : List Hp} {G : Env} {fl : List Bool} {rest : List Oper} {d ty : Nat} {pos : String} {af : Array Edge}
theorem kl_ixLen0 {x y : Operand} {T : Nat} {m : Int} [hT : IsStr C.P T] (hx : ev G x = some (.string len8B)) (hy : ev G y = some (.int .u8 (IntKind.wrap .u8 m))) (hm : 0 ≤ m ∧ m < 64)
    (h : ∀ z : Int, 0 ≤ z ∧ z ≤ 8 → KL C dr ops Q ims L fl.tail rest ((d, .int .u8 z) :: G)) (hlt : Nat.blt d C.n = true := by rfl) :
    KL C dr ops Q ims L fl (⟨some d, .index T x y, ty, pos, af, none⟩ :: rest) G := by
  have e : IntKind.wrap .u8 m = m := by
    have key : ∀ i, i < 64 → IntKind.wrap .u8 ((i : Nat) : Int) = ((i : Nat) : Int) := by decide +kernel
    obtain ⟨i, rfl⟩ := Int.eq_ofNat_of_zero_le (by omega : 0 ≤ m)
    exact key i (by omega)
  rw [e] at hy
  obtain ⟨b, hb, hv⟩ := len8_any (i := m.toNat) (by omega)
  have h0 : 0 ≤ m := hm.1
  refine kl_y (v := .int .u8 ((b.toNat : Nat) : Int)) (fun r w hr _ => ?_) (h _ (by omega)) hlt
  simp [execOp, hr _ _ hx, hr _ _ hy, Instr.index, run_underlying hT.u, asIntOf, go_sem, h0, hb]
end ops
/-! An operation that asks nothing of the world goes first, whatever the others write. -/
theorem anyG_firstP {P : Program} {md : Region.Mode} {ops : Array Oper} {Q : Exit → Act → World → Prop} {S : World → Prop} {fx : Nat → Bool} {i : Nat} {oi : Oper} {v : Value}
    (hi : ops[i]? = some oi) (hsel : ∀ (j : Nat) (o : Oper) cs b, ops[j]? = some o → o.op ≠ .select cs b)
    (hQ : ∀ c a w, Q (.panic c) (a.put oi.dst v) w → Q (.panic c) a w) (hfx : fx i = true) :
    ∀ (fuel : Nat) (listed : Array Bool) (a : Act) (w : World), Dc md ops listed →
      (∀ j oj, ops[j]? = some oj → j ≠ i → listed.getD j true = false → (∀ e ∈ oj.after, Region.binds md e = true → e.on ≠ i) → oi.apart ops oj = true) →
      i ∈ Region.ready md ops listed → YieldsIf P ops (fun _ => True) oi v a →
      anyG P md ops Q S fx fuel (listed.setIfInBounds i true) (a.put oi.dst v) w → anyG P md ops Q S fx (fuel + 1) listed a w := by
  intro fuel
  induction fuel with
  | zero =>
    intro listed a w _ _ hr hy H
    refine ⟨fun h => (by rw [h] at hr; cases hr), fun j hj => ?_⟩
    by_cases hji : j = i
    · subst hji; exact hy.wpOp hi trivial ⟨.inl hfx, H⟩
    · have := ready_mono hj hji
      rw [H.1] at this
      cases this
  | succ fuel ih =>
    intro listed a w hdc hfree hr hy H
    refine ⟨fun h => (by rw [h] at hr; cases hr), fun j hj => ?_⟩
    by_cases hji : j = i
    · subst hji; exact hy.wpOp hi trivial ⟨.inl hfx, H⟩
    · have h1 := H.2 j (ready_mono hj hji)
      obtain ⟨hjun, oj, hoj, hall⟩ := mem_ready.1 hj
      have hnot : ∀ e ∈ oj.after, Region.binds md e = true → e.on ≠ i := fun e he hb heq => by
        have h1 := hall e he hb
        have h0 := (mem_ready.1 hr).1
        rw [heq] at h1
        rcases Nat.lt_or_ge i listed.size with h' | h'
        · simp [h'] at h0 h1; rw [h0] at h1; cases h1
        · simp [Array.getElem?_eq_none h'] at h1
      have h2 := wpOp_putIf hoj (hfree j oj hoj hji hjun hnot) (fun cs b => hsel i oi cs b hi) (fun cs b => hsel j oj cs b hoj) hQ hy h1
      have hfree' : ∀ k ok, ops[k]? = some ok → k ≠ i → (listed.setIfInBounds j true).getD k true = false →
          (∀ e ∈ ok.after, Region.binds md e = true → e.on ≠ i) → oi.apart ops ok = true := fun k ok hk hki hun hno => by
        refine hfree k ok hk hki ?_ hno
        by_cases hjk : j = k
        · subst hjk; exact hjun
        · rw [getD_set_ne true hjk] at hun; exact hun
      refine wpOp_mono (fun a' w' h3 => ?_) h2
      refine ⟨h3.2.1, ih (listed.setIfInBounds j true) a' w' (hdc.set hj) hfree' (ready_mono hr (Ne.symm hji)) h3.1 ?_⟩
      rw [Array.setIfInBounds_comm _ _ hji]
      exact h3.2.2
theorem kt_p {C : Cx} {ops : Array Oper} {Q : Post} {ims L : List Hp} {G : Env} {fx : Nat → Bool} {LS : List Hp} {fuel : Nat} {listed : Array Bool} (k : Nat) {d ty : Nat} {op : Op} {pos : String} {af : Array Edge} {v : Value} (ho : ops[k]? = some ⟨some d, op, ty, pos, af, none⟩) (hfx : fx k = true)
    (hB : (Region.noSelect ops && (Region.ready .any ops listed).contains k && Region.free .any ops listed k) = true)
    (hy : ∀ (r : Operand → Value) (w : World), Ev G r → (execOp r ⟨some d, op, ty, pos, af, none⟩).run C.P w = .ok (.value v) w)
    (h : KT C ops (Only Q) fx LS fuel (listed.setIfInBounds k true) ims L ((d, v) :: G)) (hlt : Nat.blt d C.n = true := by rfl) : KT C ops (Only Q) fx LS (fuel + 1) listed ims L G := fun a w hf hs hdc => by
  simp only [Bool.and_eq_true] at hB
  obtain ⟨⟨hsel, hr⟩, hfree⟩ := hB
  have hr' : k ∈ Region.ready .any ops listed := by simpa using hr
  exact anyG_firstP ho (Region.noSelect_spec hsel) (fun c a w hq => hq.elim) hfx fuel listed a w hdc (Region.free_spec ho hfree) hr'
    (.inl ⟨by simp [Region.wanted], fun w' _ => hy a.eval w' hf.toEv⟩) (h _ w (hf.put (by simpa [Nat.blt_eq, Cx.m] using hlt)) hs (hdc.set hr'))
theorem py_mv {P : Program} {G : Env} {d ty : Nat} {pos : String} {af : Array Edge} {x : Operand} {v : Value} (hx : ev G x = some v) : ∀ (r : Operand → Value) (w : World), Ev G r → (execOp r ⟨some d, .move x, ty, pos, af, none⟩).run P w = .ok (.value v) w := fun a w hf => by simp [go_sem, hf _ _ hx]
theorem py_sub {P : Program} {G : Env} {d ty T T2 : Nat} {pos : String} {af : Array Edge} {x y : Operand} {m k : Int} (hx : ev G x = some (.int .i64 m)) (hy : ev G y = some (.int .i64 k)) (hb : -9223372036854775808 ≤ m - k ∧ m - k ≤ 9223372036854775807) :
    ∀ (r : Operand → Value) (w : World), Ev G r → (execOp r ⟨some d, .binOp .sub T x y T2, ty, pos, af, none⟩).run P w = .ok (.value (.int .i64 (m - k))) w := fun a w hf => by simp [go_sem, hf _ _ hx, hf _ _ hy, wrap_in hb]
section ops2
variable {C : Cx} {dr : Bool} {ops : Array Oper} {Q : Post} {ims L : List Hp} {G : Env} {fl : List Bool} {rest : List Oper} {d ty : Nat} {pos : String} {af : Array Edge}
end ops2
/-! Inside the sort. -/
variable {A : Type} {c : A → A → Int} {d : A} {xs ys : List A} {i j : Nat} {z : Int}
theorem so_pos (h : z = (j : Int) ∧ InsA c d xs ys i j) (hx : (decide ((0 : Int) < z) && decide (c (ys.getD z.toNat d) (ys.getD (z - 1).toNat d) < 0)) = true) : 0 < j := by
  simp only [Bool.and_eq_true, decide_eq_true_eq] at hx; omega
theorem so_step (hc : TotC c) (h : z = (j : Int) ∧ InsA c d xs ys i j) (hi : i < ys.length) (hx : (decide ((0 : Int) < z) && decide (c (ys.getD z.toNat d) (ys.getD (z - 1).toNat d) < 0)) = true) :
    z - 1 = ((j - 1 : Nat) : Int) ∧ InsA c d xs ((ys.set z.toNat (ys.getD (z - 1).toNat d)).set (z - 1).toNat (ys.getD z.toNat d)) i (j - 1) := by
  have hj := so_pos h hx
  obtain ⟨rfl, h⟩ := h
  simp only [Bool.and_eq_true, decide_eq_true_eq] at hx
  obtain ⟨k, rfl⟩ : ∃ k, j = k + 1 := ⟨j - 1, by omega⟩
  rw [show (((k + 1 : Nat) : Int) - 1).toNat = k from by omega, Int.toNat_natCast] at hx ⊢
  exact ⟨by omega, InsA.step hc h hj hi hx.2⟩
theorem so_exit (hc : TotC c) (h : z = (j : Int) ∧ InsA c d xs ys i j) (hx : (decide ((0 : Int) < z) && decide (c (ys.getD z.toNat d) (ys.getD (z - 1).toNat d) < 0)) = false) : SrtA c d xs ys (i + 1) := by
  obtain ⟨rfl, h⟩ := h
  by_cases hj : j = 0
  · subst hj; exact h.done0
  · obtain ⟨k, rfl⟩ : ∃ k, j = k + 1 := ⟨j - 1, by omega⟩
    rw [show (((k + 1 : Nat) : Int) - 1).toNat = k from by omega, Int.toNat_natCast, decide_eq_true (by omega : (0 : Int) < ((k + 1 : Nat) : Int)), Bool.true_and, decide_eq_false_iff_not] at hx
    exact h.done hc (Nat.succ_pos k) (by rw [Nat.add_sub_cancel]; exact hx)
/-! Literals. -/
theorem litLt_iff {a b : Lit} : litLt a b = true ↔ a.var < b.var ∨ (a.var = b.var ∧ (a.val < b.val ∨ (a.val = b.val ∧ (a.neg = false ∧ b.neg = true)))) := by
  unfold litLt
  by_cases h1 : a.var = b.var
  · rw [if_neg (by simpa using h1)]
    by_cases h2 : a.val = b.val
    · rw [if_neg (by simpa using h2)]; simp [h1, h2]
    · rw [if_pos h2]; simp [h1, h2]
  · rw [if_pos h1]; simp [h1]
theorem litC_iff {a b : Lit} : litCmp a b < 0 ↔ litLt a b = true := by
  have h := litCmp_lt a b
  cases e : litLt a b with
  | true => rw [e] at h; simp at h; simp; omega
  | false => rw [e] at h; simp at h; simp; omega
theorem litC_tot : TotC litCmp := by
  refine ⟨fun a b h => ?_, fun a b d h1 h2 => ?_⟩
  · rw [litC_iff, litLt_iff] at *
    rintro (g | ⟨g1, g | ⟨g2, g3, g4⟩⟩)
    · rcases h with h | ⟨h, _⟩ <;> omega
    · rcases h with h | ⟨h, h | ⟨h, _⟩⟩ <;> omega
    · rcases h with h | ⟨h, h | ⟨h, h3, h4⟩⟩
      · omega
      · omega
      · rw [g3] at h4; cases h4
  · rw [litC_iff, litLt_iff] at *
    rintro (g | ⟨g1, g | ⟨g2, g3, g4⟩⟩)
    · by_cases e : b.var < a.var
      · exact h1 (.inl e)
      · exact h2 (.inl (by omega))
    · by_cases e : b.var = a.var
      · by_cases e2 : b.val < a.val
        · exact h1 (.inr ⟨e, .inl e2⟩)
        · exact h2 (.inr ⟨by omega, .inl (by omega)⟩)
      · by_cases e3 : b.var < a.var
        · exact h1 (.inl e3)
        · exact h2 (.inl (by omega))
    · by_cases e : b.var = a.var
      · by_cases e2 : b.val = a.val
        · cases e5 : b.neg with
          | false => exact h1 (.inr ⟨e, .inr ⟨e2, e5, g4⟩⟩)
          | true => exact h2 (.inr ⟨by omega, .inr ⟨by omega, g3, e5⟩⟩)
        · by_cases e3 : b.val < a.val
          · exact h1 (.inr ⟨e, .inl e3⟩)
          · exact h2 (.inr ⟨by omega, .inl (by omega)⟩)
      · by_cases e3 : b.var < a.var
        · exact h1 (.inl e3)
        · exact h2 (.inl (by omega))
theorem SrtA.le {A : Type} {c : A → A → Int} {d : A} {xs ys : List A} {i n : Nat} (h : SrtA c d xs ys i) (hn : n ≤ i) : SrtA c d xs ys n := ⟨h.perm, fun p q h1 h2 => h.srt p q h1 (by omega)⟩
end
section
def negL (l : Lit) : Lit := ⟨l.var, l.val, !l.neg⟩
def negTo (c : List Lit) (k : Nat) : List Lit := (c.take k).map negL
theorem negTo_step {c out : List Lit} {k : Nat} (h : out = negTo c k) (hk : k < c.length) : out ++ [⟨(c.getD k nilLit).var, (c.getD k nilLit).val, !(c.getD k nilLit).neg⟩] = negTo c (k + 1) := by
  rw [h, negTo, negTo, take_succ_getD nilLit hk, List.map_append]; rfl
theorem negL_inj {a b : Lit} (h : negL a = negL b) : a = b := by
  obtain ⟨a1, a2, a3⟩ := a
  obtain ⟨b1, b2, b3⟩ := b
  simp only [negL, Lit.mk.injEq] at h
  obtain ⟨rfl, rfl, h⟩ := h
  cases a3 <;> cases b3 <;> simp_all
theorem neg_nodup {c : List Lit} (h : c.Nodup) : (c.map negL).Nodup := by
  rw [List.nodup_iff_pairwise_ne, List.pairwise_map]
  exact (List.nodup_iff_pairwise_ne.1 h).imp fun h e => h (negL_inj e)
theorem litLt_trans {a b d : Lit} (h : litLt a b = true) (g : litLt b d = true) : litLt a d = true := by
  rw [litLt_iff] at *
  rcases h with h | ⟨h1, h | ⟨h2, h3, h4⟩⟩ <;> rcases g with g | ⟨g1, g | ⟨g2, g3, g4⟩⟩
  · exact .inl (by omega)
  · exact .inl (by omega)
  · exact .inl (by omega)
  · exact .inl (by omega)
  · exact .inr ⟨by omega, .inl (by omega)⟩
  · exact .inr ⟨by omega, .inl (by omega)⟩
  · exact .inl (by omega)
  · exact .inr ⟨by omega, .inl (by omega)⟩
  · rw [g3] at h4; cases h4
theorem cl_lt {n : Int} {c : List Lit} (h : clTo n c c.length = true) : ∀ (j i : Nat), i < j → j < c.length → litLt (c.getD i nilLit) (c.getD j nilLit) = true
  | 0, i, hi, _ => absurd hi (Nat.not_lt_zero _)
  | j + 1, i, hi, hj => by
    have h1 := List.all_eq_true.1 h (j + 1) (List.mem_range.2 hj)
    unfold clAt at h1
    rw [decide_eq_true (by omega : (0 : Int) < ((j + 1 : Nat) : Int)), show (((j + 1 : Nat) : Int) - 1).toNat = j from by omega] at h1
    simp only [Bool.and_eq_true, Bool.true_and, Bool.not_not] at h1
    by_cases e : i = j
    · subst e; exact h1.2
    · exact litLt_trans (cl_lt h j i (by omega) (by omega)) h1.2
theorem litLt_irr (a : Lit) : litLt a a = false := by
  rw [Bool.eq_false_iff]; intro h
  rw [litLt_iff] at h
  rcases h with h | ⟨_, h | ⟨_, h1, h2⟩⟩
  · omega
  · omega
  · rw [h1] at h2; cases h2
theorem cl_nodup {n : Int} {c : List Lit} (h : clI n c = true) : c.Nodup ∧ c.length ≤ 12 ∧ ∀ l ∈ c, litOkB n l = true := by
  unfold clI at h
  simp only [Bool.and_eq_true, decide_eq_true_eq] at h
  refine ⟨?_, by omega, fun l hl => ?_⟩
  · rw [List.nodup_iff_pairwise_ne, List.pairwise_iff_getElem]
    intro i j hi hj hij e
    have := cl_lt h.1 j i hij hj
    rw [List.getD_eq_getElem?_getD, List.getD_eq_getElem?_getD, List.getElem?_eq_getElem hi, List.getElem?_eq_getElem hj, Option.getD_some, Option.getD_some, e, litLt_irr] at this
    cases this
  · obtain ⟨i, hi, rfl⟩ := List.getElem_of_mem hl
    have := litOk_at h.1 hi
    rwa [List.getD_eq_getElem?_getD, List.getElem?_eq_getElem hi, Option.getD_some] at this
structure NegR (c rq : List Lit) : Prop where
  perm : rq.Perm (c.map negL)
  srt : SrtL litCmp nilLit rq
theorem srt_adj {ys zs : List Lit} {k : Nat} (hn : zs.Nodup) (hp : ys.Perm zs) (h0 : 0 < k) (hk : k < ys.length) : ys.getD k nilLit ≠ ys.getD (k - 1) nilLit := by
  have h := List.nodup_iff_pairwise_ne.1 (hp.symm.nodup hn)
  rw [List.pairwise_iff_getElem] at h
  have := h (k - 1) k (by omega) hk (by omega)
  rw [List.getD_eq_getElem?_getD, List.getD_eq_getElem?_getD, List.getElem?_eq_getElem hk, List.getElem?_eq_getElem (show k - 1 < ys.length by omega), Option.getD_some, Option.getD_some]
  exact fun e => this e.symm
theorem neg_pre {c out : List Lit} {k : Nat} (hn : c.Nodup) (h : out = negTo c k) (hk : c.length ≤ k) (hl : c.length ≤ 12) : out.Nodup ∧ out.length ≤ 12 ∧ out = c.map negL := by
  rw [h, negTo, List.take_of_length_le hk]
  exact ⟨neg_nodup hn, by simpa using hl, rfl⟩
theorem srt_cpt {c ys : List Lit} (hn : c.Nodup) (h : SrtA litCmp nilLit c ys c.length) : (∀ k : Nat, 0 < k → k < ys.length → ys.getD k nilLit ≠ ys.getD ((k : Int) - 1).toNat nilLit) ∧ ys.length ≤ c.length ∧ ys.Perm c ∧ SrtL litCmp nilLit ys := by
  have hl := h.perm.length_eq
  refine ⟨fun k h0 hk => ?_, by omega, h.perm, h.all (by omega)⟩
  rw [show ((k : Int) - 1).toNat = k - 1 from by omega]
  exact srt_adj hn h.perm h0 hk
end
section
theorem filt_mono {c : Con} {n : Nat} {es ds : List Int} (hc : ConOk c n) (he : es.length = n) (hd : ds.length = n) (hs : SubD es ds) : SubD (filtL c es) (filtL c ds) := ⟨by rw [filtL_len, filtL_len, hs.1], fun i hi v hv h => by
  rw [filtL_len] at hi
  rcases filt_cases hc he (i := i) (by omega) with ⟨j, hj, e, e2⟩ | ⟨h1, e2⟩ <;> rcases filt_cases hc hd (i := i) (by omega) with ⟨j', hj', e', e2'⟩ | ⟨h1', e2'⟩
  · have hjj : j = j' := hc.inj hj hj' (by omega)
    subst hjj
    rw [e2] at h; rw [e2']
    obtain ⟨t, ht, hs2, hvt⟩ := (supp_has hv).1 h
    refine (supp_has hv).2 ⟨t, ?_, hs2, hvt⟩
    have hb := mem_tupL.1 ht
    refine mem_tupL.2 ⟨by rw [hb.1]; simp [wordL], fun k hk => ?_⟩
    have hk' : k < c.vars.length := by simpa [wordL] using hk
    have hx := hb.2 k (by simpa [wordL] using hk')
    rw [word_at hk'] at hx ⊢
    have hat := hc.at hk'
    rw [mem_valsI] at hx ⊢
    exact ⟨hx.1, hs.2 _ (by omega) _ hx.1 hx.2⟩
  · exact absurd e (h1' j hj)
  · exact absurd e' (h1 j' hj')
  · rw [e2] at h; rw [e2']; exact hs.2 i hi v hv h⟩
theorem filtC_mono {cs : List Con} {n : Nat} (hc : ∀ c ∈ cs, ConOk c n) : ∀ {es ds : List Int}, es.length = n → ds.length = n → SubD es ds → SubD (filtC cs es) (filtC cs ds) := by
  induction cs with
  | nil => intro es ds _ _ h; exact h
  | cons c cs ih =>
    intro es ds he hd h
    exact ih (fun c hm => hc c (.tail _ hm)) ((filtL_len c es).trans he) ((filtL_len c ds).trans hd) (filt_mono (hc c (.head _)) he hd h)
theorem prop_top {m : Mod} (hM : MOk m) {F : List Int} (hF : DOk m.doms.length F) (hfix : filtA m F = F) (hz : F.contains 0 = false) : ∀ (k : Nat) {ds : List Int}, sumN ds = k → DOk m.doms.length ds → SubD F ds → SubD F (prop m ds) := by
  intro k
  induction k using Nat.strongRecOn with
  | _ k ih =>
    intro ds hk hd hs
    cases h0 : ds.contains 0 with
    | true =>
      exfalso
      obtain ⟨i, hi, h1⟩ := List.getElem_of_mem (List.contains_iff_mem.1 h0)
      have h2 : ds.getD i 0 = 0 := by simp [List.getD, hi, h1]
      have hi' : i < F.length := by rw [hs.1]; exact hi
      have h3 := sub_le (hd.d.at hi) (hF.d.at hi') (hs.2 i hi)
      have h4 := hF.d.at hi'
      have h5 : F.getD i 0 = 0 := by omega
      have h6 := getD_mem (d := (0 : Int)) hi'
      rw [h5] at h6
      have h7 := List.contains_iff_mem.2 h6
      rw [hz] at h7; cases h7
    | false =>
      by_cases e : filtA m ds = ds
      · rw [prop_fix h0 e]; exact hs
      · rw [← prop_step hM hd h0 e]
        have hf := filtA_ok hM hd
        have hm : SubD (filtA m F) (filtA m ds) := filtC_mono hM.cons hF.l hd.l hs
        rw [hfix] at hm
        exact ih _ (hk ▸ filtA_lt hM hd e) rfl hf.1 hm
/-! Probing. -/
end
section
theorem nodup_sub_len : ∀ {xs ys : List Int}, xs.Nodup → (∀ x ∈ xs, x ∈ ys) → xs.length ≤ ys.length
  | [], _, _, _ => Nat.zero_le _
  | x :: xs, ys, hn, hs => by
    obtain ⟨h1, h2⟩ := List.nodup_cons.1 hn
    have h3 : xs.length ≤ (ys.erase x).length := nodup_sub_len h2 (fun y hy => (List.mem_erase_of_ne (fun e => h1 (by rw [← e]; exact hy))).2 (hs y (.tail _ hy)))
    have hm := hs x (.head _)
    rw [List.length_erase_of_mem hm] at h3
    have := List.length_pos_of_mem hm
    simp only [List.length_cons]; omega
theorem iota_sub {n : Nat} {vars : List Int} (hn : vars.Nodup) (h : ∀ v ∈ vars, (0 : Int) ≤ v ∧ v < n) : vars.length ≤ n := by
  have := nodup_sub_len (ys := natsI (List.range n)) hn (fun v hv => by
    have := h v hv
    exact List.mem_map.2 ⟨v.toNat, List.mem_range.2 (by omega), by omega⟩)
  simpa [natsI] using this
/-! The model of all variables. -/
/-! What the walks ask. -/
theorem rows_small {rows : List (List Int)} {n lo hi : Int} (h : rowsInB rows n lo hi = true) (hn : n ≤ 6) : rows.length ≤ 8 ∧ ∀ r ∈ rows, r.length ≤ 12 := by
  simp only [rowsInB, Bool.and_eq_true, withinB_iff, List.all_eq_true, decide_eq_true_eq] at h
  exact ⟨by omega, fun r hr => by have := (h.2 r hr).1; omega⟩
theorem rows_none {rows : List (List Int)} (h : (rows.length : Int) = 0) : rows.length ≤ 8 ∧ ∀ r ∈ rows, r.length ≤ 12 := by
  have e : rows = [] := List.eq_nil_of_length_eq_zero (by omega)
  subst e; exact ⟨by simp, fun r hr => by cases hr⟩
theorem con_small {c : Con} {n : Nat} (h : validConB c n = true) : ConSm 100 c := by
  simp only [validConB, Bool.and_eq_true, withinB_iff] at h
  obtain ⟨⟨⟨⟨h1, h2⟩, h3⟩, h4⟩, h5⟩ := h
  have hv : c.vars.length ≤ 4 := by omega
  have key : c.args.length ≤ 12 ∧ c.rows.length ≤ 8 ∧ ∀ r ∈ c.rows, r.length ≤ 12 := by
    unfold fitsB at h5
    split at h5
    · simp only [Bool.and_eq_true, decide_eq_true_eq] at h5; exact ⟨by omega, rows_none h5.2⟩
    · split at h5
      · simp only [Bool.and_eq_true, decide_eq_true_eq] at h5; exact ⟨by omega, rows_none h5.2⟩
      · split at h5
        · simp only [Bool.and_eq_true, decide_eq_true_eq] at h5; exact ⟨by omega, rows_none h5.2⟩
        · split at h5
          · simp only [Bool.and_eq_true, decide_eq_true_eq, withinB_iff] at h5; exact ⟨by omega, rows_none h5.2⟩
          · split at h5
            · simp only [Bool.and_eq_true, decide_eq_true_eq] at h5; exact ⟨by omega, rows_small h5.2 (by omega)⟩
            · split at h5
              · simp only [Bool.and_eq_true, decide_eq_true_eq] at h5; exact ⟨by omega, rows_none h5.2⟩
              · split at h5
                · simp only [Bool.and_eq_true, decide_eq_true_eq] at h5; exact ⟨by omega, rows_none h5.2⟩
                · split at h5
                  · simp only [Bool.and_eq_true, decide_eq_true_eq, allInB_iff] at h5
                    have hr := rows_small h5.1.1.1 (by omega)
                    have hd : c.args.Nodup := of_decide_eq_true h5.1.1.2
                    have := iota_sub (n := 8) hd (fun v hv => by have := h5.1.2 v hv; omega)
                    exact ⟨by omega, hr⟩
                  · cases h5
  exact ⟨by omega, by omega, by omega, by omega, key.2.2⟩
theorem ok_small {m : Mod} (h : MOk m) : ModSm 100 m := ⟨h.n.1, h.n.2, by have := h.few; omega, fun c hc => con_small (h.cm hc)⟩
end
section
theorem pairOf {A B : Type} {a : A} {b : B} {p : A × B} (h : (a, b) = p) : a = p.1 ∧ b = p.2 := by subst h; exact ⟨rfl, rfl⟩
theorem and_has {d e : Int} (hd : 0 ≤ d ∧ d ≤ 63) (he : 0 ≤ e ∧ e ≤ 63) : (0 ≤ iand d e ∧ iand d e ≤ 63) ∧ ∀ u : Int, 0 ≤ u ∧ u ≤ 5 → hasB (iand d e) u = (hasB d u && hasB e u) := by
  have key : ∀ d, d < 64 → ∀ e, e < 64 → (0 ≤ iand ((d : Nat) : Int) ((e : Nat) : Int) ∧ iand ((d : Nat) : Int) ((e : Nat) : Int) ≤ 63) ∧ ∀ u, u < 6 → hasB (iand ((d : Nat) : Int) ((e : Nat) : Int)) ((u : Nat) : Int) = (hasB ((d : Nat) : Int) ((u : Nat) : Int) && hasB ((e : Nat) : Int) ((u : Nat) : Int)) := by decide +kernel
  obtain ⟨i, rfl⟩ := Int.eq_ofNat_of_zero_le hd.1
  obtain ⟨j, rfl⟩ := Int.eq_ofNat_of_zero_le he.1
  have h := key i (by omega) j (by omega)
  refine ⟨h.1, fun u hu => ?_⟩
  obtain ⟨w, rfl⟩ := Int.eq_ofNat_of_zero_le hu.1
  exact h.2 w (by omega)
theorem trues_ok {l : Lit} (h : 0 ≤ l.val ∧ l.val ≤ 5) : 0 ≤ truesI l ∧ truesI l ≤ 63 := by
  have key : ∀ i, i < 6 → (0 ≤ iandNot 63 (ishl 1 ((i : Nat) : Int)) ∧ iandNot 63 (ishl 1 ((i : Nat) : Int)) ≤ 63) ∧ (0 ≤ ishl 1 ((i : Nat) : Int) ∧ ishl 1 ((i : Nat) : Int) ≤ 63) := by decide +kernel
  obtain ⟨a, b, c⟩ := l
  dsimp only at h
  obtain ⟨i, rfl⟩ := Int.eq_ofNat_of_zero_le h.1
  have k := key i (by omega)
  unfold truesI
  cases c
  · exact k.2
  · exact k.1
/-- What the reference writes for the values of a literal. -/
theorem trues_sub {l : Lit} (h : 0 ≤ l.val ∧ l.val ≤ 5) : (l.neg = true → 63 - ishl 1 l.val = truesI l) ∧ 63 - truesI l = truesI (negL l) := by
  have key : ∀ i, i < 6 → 63 - ishl 1 ((i : Nat) : Int) = iandNot 63 (ishl 1 ((i : Nat) : Int)) ∧ 63 - iandNot 63 (ishl 1 ((i : Nat) : Int)) = ishl 1 ((i : Nat) : Int) := by decide +kernel
  obtain ⟨a, b, c⟩ := l
  dsimp only at h
  obtain ⟨i, rfl⟩ := Int.eq_ofNat_of_zero_le h.1
  have k := key i (by omega)
  unfold truesI negL
  cases c
  · exact ⟨fun h => (by cases h), k.1⟩
  · exact ⟨fun _ => k.1, k.2⟩
def LitIn (n : Nat) (l : Lit) : Prop := (0 ≤ l.var ∧ l.var < (n : Int)) ∧ (0 ≤ l.val ∧ l.val ≤ 5)
def ClIn (n : Nat) (c : List Lit) : Prop := ∀ l ∈ c, LitIn n l
def ClsIn (n : Nat) (cls : List (List Lit)) : Prop := ∀ c ∈ cls, ClIn n c
/-- One literal is set. -/
def setT (d : List Int) (l : Lit) : List Int := d.set l.var.toNat (iand (d.getD l.var.toNat 0) (truesI l))
def rstL (d : List Int) (ls : List Lit) : List Int := ls.foldl setT d
theorem setT_len (d : List Int) (l : Lit) : (setT d l).length = d.length := by simp [setT]
theorem getD_setT {d : List Int} {l : Lit} {n : Nat} (hd : DOk n d) (hl : LitIn n l) (i : Nat) : (setT d l).getD i 0 = if i = l.var.toNat then iand (d.getD i 0) (truesI l) else d.getD i 0 := by
  have hv : l.var.toNat < d.length := by rw [hd.l]; have := hl.1; omega
  unfold setT
  by_cases e : i = l.var.toNat
  · subst e; rw [if_pos rfl]; simp [List.getD, hv]
  · rw [if_neg e]
    have e' : l.var.toNat ≠ i := fun h => e h.symm
    simp [List.getD, List.getElem?_set, e']
theorem setT_ok {d : List Int} {l : Lit} {n : Nat} (hd : DOk n d) (hl : LitIn n l) : DOk n (setT d l) ∧ SubD (setT d l) d := by
  have hv : l.var.toNat < d.length := by rw [hd.l]; have := hl.1; omega
  have ht := trues_ok hl.2
  refine ⟨⟨(setT_len d l).trans hd.l, fun x hx => ?_⟩, setT_len d l, fun i hi v hv5 h => ?_⟩
  · unfold setT at hx
    rcases List.mem_or_eq_of_mem_set hx with h | h
    · exact hd.d x h
    · rw [h]; exact (and_has (hd.d.at hv) ht).1
  · rw [getD_setT hd hl] at h
    split at h
    · rw [(and_has (hd.d.at hi) ht).2 v hv5, Bool.and_eq_true] at h; exact h.1
    · exact h
theorem rstL_ok {n : Nat} : ∀ {ls : List Lit} {d : List Int}, DOk n d → ClIn n ls → DOk n (rstL d ls) ∧ SubD (rstL d ls) d
  | [], d, hd, _ => ⟨hd, SubD.refl d⟩
  | l :: ls, d, hd, h => by
    have h1 := setT_ok hd (h l (.head _))
    have h2 := rstL_ok (ls := ls) h1.1 (fun k hk => h k (.tail _ hk))
    exact ⟨h2.1, h2.2.trans h1.2⟩
theorem domL_ext {n : Nat} {a b : List Int} (ha : DOk n a) (hb : DOk n b) (h : ∀ i, i < n → ∀ v, 0 ≤ v ∧ v ≤ 5 → hasB (a.getD i 0) v = hasB (b.getD i 0) v) : a = b := by
  apply List.ext_getElem (ha.l.trans hb.l.symm)
  intro i h1 h2
  have e1 : a[i] = a.getD i 0 := by simp [List.getD, h1]
  have e2 : b[i] = b.getD i 0 := by simp [List.getD, h2]
  rw [e1, e2]
  exact dom_ext (ha.d.at h1) (hb.d.at h2) (h i (by rw [← ha.l]; exact h1))
theorem setT_has {n : Nat} {d : List Int} {l : Lit} (hd : DOk n d) (hl : LitIn n l) {i : Nat} (hi : i < n) {v : Int} (hv : 0 ≤ v ∧ v ≤ 5) : hasB ((setT d l).getD i 0) v = (hasB (d.getD i 0) v && (!(decide (i = l.var.toNat)) || hasB (truesI l) v)) := by
  rw [getD_setT hd hl]
  by_cases e : i = l.var.toNat
  · rw [if_pos e, (and_has (hd.d.at (by rw [hd.l]; exact hi)) (trues_ok hl.2)).2 v hv]; simp [e]
  · rw [if_neg e]; simp [e]
theorem rstL_has {n : Nat} {i : Nat} (hi : i < n) {v : Int} (hv : 0 ≤ v ∧ v ≤ 5) : ∀ {ls : List Lit} {d : List Int}, DOk n d → ClIn n ls → hasB ((rstL d ls).getD i 0) v = (hasB (d.getD i 0) v && ls.all (fun l => !(decide (i = l.var.toNat)) || hasB (truesI l) v))
  | [], d, hd, _ => by simp [rstL]
  | l :: ls, d, hd, h => by
    have h1 := setT_ok hd (h l (.head _))
    have h2 := rstL_has hi hv (ls := ls) h1.1 (fun k hk => h k (.tail _ hk))
    show hasB ((rstL (setT d l) ls).getD i 0) v = _
    rw [h2, setT_has hd (h l (.head _)) hi hv, List.all_cons, Bool.and_assoc]
theorem all_perm {A : Type} {p : A → Bool} {xs ys : List A} (h : xs.Perm ys) : xs.all p = ys.all p := by
  rw [Bool.eq_iff_iff, List.all_eq_true, List.all_eq_true]
  exact ⟨fun g x hx => g x (h.symm.mem_iff.1 hx), fun g x hx => g x (h.mem_iff.1 hx)⟩
theorem rst_perm {n : Nat} {d : List Int} {xs ys : List Lit} (hd : DOk n d) (hx : ClIn n xs) (h : xs.Perm ys) : rstL d xs = rstL d ys := by
  have hy : ClIn n ys := fun l hl => hx l (h.symm.mem_iff.1 hl)
  exact domL_ext (rstL_ok hd hx).1 (rstL_ok hd hy).1 (fun i hi v hv => by rw [rstL_has hi hv hd hx, rstL_has hi hv hd hy, all_perm h])
theorem negs_in {n : Nat} {c : List Lit} (h : ClIn n c) : ClIn n (c.map negL) := fun l hl => by
  obtain ⟨k, hk, rfl⟩ := List.mem_map.1 hl
  exact h k hk
/-- All literals of a clause are false. -/
def rstN (d : List Int) (c : List Lit) : List Int := rstL d (c.map negL)
theorem rst_neg {n : Nat} {d : List Int} {c ys : List Lit} (hd : DOk n d) (hc : ClIn n c) (h : NegR c ys) : rstL d ys = rstN d c :=
  rst_perm hd (fun l hl => negs_in hc l (h.perm.mem_iff.1 hl)) h.perm
theorem negR_in {n : Nat} {c ys : List Lit} (hc : ClIn n c) (h : NegR c ys) : ClIn n ys := fun l hl => negs_in hc l (h.perm.mem_iff.1 hl)
theorem rst_step {d : List Int} {ls : List Lit} {k : Nat} (hk : k < ls.length) : setT (rstL d (ls.take k)) (ls.getD k nilLit) = rstL d (ls.take (k + 1)) := by
  rw [take_succ_getD nilLit hk]; simp [rstL]
theorem rstN_step {d : List Int} {c : List Lit} {k : Nat} (hk : k < c.length) : setT (rstN d (c.take k)) (negL (c.getD k nilLit)) = rstN d (c.take (k + 1)) := by
  unfold rstN; rw [take_succ_getD nilLit hk, List.map_append]; simp [rstL]
/-! A clause, propagated. -/
def opnL (c : List Lit) (d : List Int) : List Lit := c.filter (fun l => decide (iand (d.getD l.var.toNat 0) (truesI l) ≠ 0))
def unitL (c : List Lit) (d : List Int) : List Int := match opnL c d with
  | [] => zerosL d.length
  | [l] => setT d l
  | _ => d
theorem unit_0 {c : List Lit} {d : List Int} (h : opnL c d = []) : unitL c d = zerosL d.length := by unfold unitL; rw [h]
theorem unit_1 {c : List Lit} {d : List Int} {l : Lit} (h : opnL c d = [l]) : unitL c d = setT d l := by unfold unitL; rw [h]
theorem unit_2 {c : List Lit} {d : List Int} (h : 2 ≤ (opnL c d).length) : unitL c d = d := by
  unfold unitL
  match h2 : opnL c d, h with
  | [], h => simp at h
  | [_], h => simp at h
  | _ :: _ :: _, _ => rfl
theorem opn_mem {c : List Lit} {d : List Int} {l : Lit} (h : l ∈ opnL c d) : l ∈ c := (List.mem_filter.1 h).1
theorem unit_ok {n : Nat} {c : List Lit} {d : List Int} (hd : DOk n d) (hc : ClIn n c) : DOk n (unitL c d) ∧ SubD (unitL c d) d := by
  match h : opnL c d with
  | [] => rw [unit_0 h, hd.l]; exact ⟨zerosL_ok n, hd.l ▸ zerosL_sub d⟩
  | [l] => rw [unit_1 h]; exact setT_ok hd (hc l (opn_mem (by rw [h]; exact .head _)))
  | a :: b :: r => rw [unit_2 (by rw [h]; simp)]; exact ⟨hd, SubD.refl d⟩
def unitA (cls : List (List Lit)) (d : List Int) : List Int := cls.foldl (fun d c => unitL c d) d
theorem unitA_ok {n : Nat} : ∀ {cls : List (List Lit)} {d : List Int}, DOk n d → ClsIn n cls → DOk n (unitA cls d) ∧ SubD (unitA cls d) d
  | [], d, hd, _ => ⟨hd, SubD.refl d⟩
  | c :: cs, d, hd, h => by
    have h1 := unit_ok hd (h c (.head _))
    have h2 := unitA_ok (cls := cs) h1.1 (fun k hk => h k (.tail _ hk))
    exact ⟨h2.1, h2.2.trans h1.2⟩
theorem unitA_step {cls : List (List Lit)} {d : List Int} {k : Nat} (hk : k < cls.length) : unitL (cls.getD k []) (unitA (cls.take k) d) = unitA (cls.take (k + 1)) d := by
  rw [take_succ_getD [] hk]; simp [unitA]
theorem cls_at {n : Nat} {cls : List (List Lit)} (h : ClsIn n cls) {k : Nat} (hk : k < cls.length) : ClIn n (cls.getD k []) := h _ (getD_mem hk)
theorem cls_take {n : Nat} {cls : List (List Lit)} (h : ClsIn n cls) (k : Nat) : ClsIn n (cls.take k) := fun c hc => h c (List.mem_of_mem_take hc)
def stepW (m : Mod) (cls : List (List Lit)) (d : List Int) : List Int := unitA cls (prop m d)
theorem stepW_ok {m : Mod} {cls : List (List Lit)} {d : List Int} (hM : MOk m) (hd : DOk m.doms.length d) (hc : ClsIn m.doms.length cls) : DOk m.doms.length (stepW m cls d) ∧ SubD (stepW m cls d) d := by
  have h1 := propOk hM hd
  have h2 := unitA_ok h1.ok hc
  exact ⟨h2.1, h2.2.trans h1.sub⟩
theorem stepW_lt {m : Mod} {cls : List (List Lit)} {d : List Int} (hM : MOk m) (hd : DOk m.doms.length d) (hc : ClsIn m.doms.length cls) (hne : stepW m cls d ≠ d) : sumN (stepW m cls d) < sumN d :=
  (stepW_ok hM hd hc).2.lt (stepW_ok hM hd hc).1.d hd.d hne
def wcl (m : Mod) (cls : List (List Lit)) (d : List Int) : List Int :=
  if d.contains 0 = true then zerosL d.length else if stepW m cls d = d then d else if h : sumN (stepW m cls d) < sumN d then wcl m cls (stepW m cls d) else d
termination_by sumN d
theorem wcl_0 {m : Mod} {cls : List (List Lit)} {d : List Int} (h : d.contains 0 = true) : wcl m cls d = zerosL d.length := by rw [wcl, if_pos h]
theorem wcl_fix {m : Mod} {cls : List (List Lit)} {d : List Int} (h : d.contains 0 = false) (e : stepW m cls d = d) : wcl m cls d = d := by rw [wcl, if_neg (by rw [h]; simp), if_pos e]
theorem wcl_step {m : Mod} {cls : List (List Lit)} {d : List Int} (hM : MOk m) (hd : DOk m.doms.length d) (hc : ClsIn m.doms.length cls) (h : d.contains 0 = false) (e : stepW m cls d ≠ d) : wcl m cls (stepW m cls d) = wcl m cls d := by
  rw [wcl.eq_1 m cls d, if_neg (by rw [h]; simp), if_neg e, dif_pos (stepW_lt hM hd hc e)]
theorem wcl_len {m : Mod} {cls : List (List Lit)} (hM : MOk m) (hc : ClsIn m.doms.length cls) : ∀ (k : Nat) {d : List Int}, sumN d = k → DOk m.doms.length d → DOk m.doms.length (wcl m cls d) := by
  intro k
  induction k using Nat.strongRecOn with
  | _ k ih =>
    intro d hk hd
    cases h0 : d.contains 0 with
    | true => rw [wcl_0 h0, hd.l]; exact zerosL_ok _
    | false =>
      by_cases e : stepW m cls d = d
      · rw [wcl_fix h0 e]; exact hd
      · rw [← wcl_step hM hd hc h0 e]
        exact ih _ (hk ▸ stepW_lt hM hd hc e) rfl (stepW_ok hM hd hc).1
theorem wclOk {m : Mod} {cls : List (List Lit)} (hM : MOk m) (hc : ClsIn m.doms.length cls) {d : List Int} (hd : DOk m.doms.length d) : DOk m.doms.length (wcl m cls d) := wcl_len hM hc _ rfl hd
/-! Whether a clause is implied. -/
def rfE (m : Mod) (cls : List (List Lit)) (d : List Int) : Bool := decide ((wcl m cls d).getD 0 0 = 0)
def impB (m : Mod) (cls : List (List Lit)) (c : List Lit) : Bool := rfE m cls (rstN m.doms c)
theorem zeros_0 {d : List Int} : (zerosL d.length).getD 0 0 = 0 := by
  cases d <;> simp [zerosL, List.getD]
theorem rf_0 {m : Mod} {cls : List (List Lit)} {d : List Int} (h : d.contains 0 = true) : rfE m cls d = true := by
  unfold rfE; rw [wcl_0 h, zeros_0]; rfl
theorem rf_T {m : Mod} {cls : List (List Lit)} {d : List Int} (hM : MOk m) (hd : DOk m.doms.length d) (hc : ClsIn m.doms.length cls) (h : (stepW m cls d).contains 0 = true) : rfE m cls d = true := by
  cases h0 : d.contains 0 with
  | true => exact rf_0 h0
  | false =>
    have e : stepW m cls d ≠ d := fun e => by rw [e, h0] at h; cases h
    unfold rfE; rw [← wcl_step hM hd hc h0 e, wcl_0 h, zeros_0]; rfl
theorem unitL_0 {n : Nat} {c : List Lit} {d : List Int} (hn : 1 ≤ n) (hd : DOk n d) (hc : ClIn n c) (h : d = zerosL n) : unitL c d = zerosL n := by
  have e : opnL c d = [] := by
    unfold opnL
    rw [List.filter_eq_nil_iff]
    intro l hl
    have h1 := hc l hl
    have e : d.getD l.var.toNat 0 = 0 := by
      have : l.var.toNat < n := by have := h1.1; omega
      subst h; simp [zerosL, List.getD, this]
    rw [e]
    have h2 := trues_ok h1.2
    have h3 : iand 0 (truesI l) = 0 := by
      obtain ⟨j, hj⟩ := Int.eq_ofNat_of_zero_le h2.1
      rw [hj]
      have := iand_nat (a := 0) (b := j) (by decide) (by omega)
      simpa using this
    simp [h3]
  rw [unit_0 e, hd.l]
theorem unitA_0 {n : Nat} (hn : 1 ≤ n) : ∀ {cls : List (List Lit)}, ClsIn n cls → unitA cls (zerosL n) = zerosL n
  | [], _ => rfl
  | c :: cs, h => by
    show unitA cs (unitL c (zerosL n)) = _
    rw [unitL_0 hn (zerosL_ok n) (h c (.head _)) rfl]
    exact unitA_0 hn (fun k hk => h k (.tail _ hk))
theorem stepW_0 {m : Mod} {cls : List (List Lit)} {d : List Int} (hM : MOk m) (hd : DOk m.doms.length d) (hc : ClsIn m.doms.length cls) (h : d.contains 0 = true) : (stepW m cls d).contains 0 = true := by
  unfold stepW; rw [prop_0 h, hd.l, unitA_0 hM.n.1 hc]
  have := hM.n
  rw [List.contains_iff_mem]; simp only [zerosL, List.mem_replicate]; exact ⟨by omega, trivial⟩
theorem rf_F {m : Mod} {cls : List (List Lit)} {d : List Int} (hM : MOk m) (hd : DOk m.doms.length d) (h : (stepW m cls d).contains 0 = false) (e : stepW m cls d = d) : rfE m cls d = false := by
  have h0 : d.contains 0 = false := by rw [← e]; exact h
  unfold rfE; rw [wcl_fix h0 e]
  have hn := hM.n
  have h1 : 0 < d.length := by rw [hd.l]; omega
  rw [decide_eq_false_iff_not]
  intro h2
  have : (0 : Int) ∈ d := by rw [← h2]; exact getD_mem h1
  rw [List.contains_eq_mem, decide_eq_false_iff_not] at h0
  exact h0 this
theorem rf_step {m : Mod} {cls : List (List Lit)} {d : List Int} (hM : MOk m) (hd : DOk m.doms.length d) (hc : ClsIn m.doms.length cls) (h : (stepW m cls d).contains 0 = false) (e : stepW m cls d ≠ d) : rfE m cls (stepW m cls d) = rfE m cls d := by
  have h0 : d.contains 0 = false := by
    cases h0 : d.contains 0 with
    | false => rfl
    | true => rw [stepW_0 hM hd hc h0] at h; cases h
  unfold rfE; rw [wcl_step hM hd hc h0 e]
/-! Checking a proof. -/
def prfB (n : Int) (p : List (List Lit)) : Bool := decide ((p.length : Int) ≤ 200) && !(p.any (fun c => !(clI n c)))
def prfS (n : Int) (p : List (List Lit)) : Bool := (p.all (clS n)) && decide ((p.length : Int) ≤ 200)
theorem cl_IS {m : Mod} (hM : MOk m) (c : List Lit) : clS (m.doms.length : Int) c = clI (m.doms.length : Int) c := by
  have h1 := litsB_S m c
  unfold litsB at h1
  rw [hM.v] at h1
  simpa using h1
theorem prf_IS {m : Mod} (hM : MOk m) (p : List (List Lit)) : prfS (m.doms.length : Int) p = prfB (m.doms.length : Int) p := by
  unfold prfS prfB
  rw [Bool.and_comm]
  congr 1
  rw [List.not_any_eq_all_not]
  congr 1
  funext c
  rw [cl_IS hM, Bool.not_not]
theorem prf_in {m : Mod} (hM : MOk m) {p : List (List Lit)} (h : prfB (m.doms.length : Int) p = true) : ClsIn m.doms.length p ∧ p.length ≤ 200 ∧ ∀ c ∈ p, LOk m c ∧ clI (m.doms.length : Int) c = true := by
  unfold prfB at h
  simp only [Bool.and_eq_true, decide_eq_true_eq, Bool.not_eq_true', List.any_eq_false] at h
  have hc : ∀ c ∈ p, LOk m c ∧ clI (m.doms.length : Int) c = true := fun c hc => by
    have h1 : clI (m.doms.length : Int) c = true := by simpa using h.2 c hc
    exact ⟨lits_ok (by unfold litsB; rw [hM.v, h1]; rfl), h1⟩
  exact ⟨fun c hc' l hl => (hc c hc').1.h l hl, by omega, hc⟩
def ckG (m : Mod) (p : List (List Lit)) : Bool := ((!(validModB m) || !(prfB (m.doms.length : Int) p)) || decide ((p.length : Int) = 0)) || decide ((0 : Int) < ((p.getD ((p.length : Int) - 1).toNat []).length : Int))
def chkP (m : Mod) (p : List (List Lit)) : Bool := if ckG m p = true then false else (List.range p.length).all (fun i => impB m (p.take i) (p.getD i []))
structure CkOk (m : Mod) (p : List (List Lit)) : Prop where
  hM : MOk m
  hp : ClsIn m.doms.length p
  hn : p.length ≤ 200
  hc : ∀ c ∈ p, LOk m c ∧ clI (m.doms.length : Int) c = true
  h0 : 0 < p.length
  g : ckG m p = false
  hl : (p.getD (p.length - 1) []) = []
theorem ck_ok {m : Mod} {p : List (List Lit)} (h : ckG m p = false) : CkOk m p := by
  have g := h
  unfold ckG at h
  simp only [Bool.or_eq_false_iff, Bool.not_eq_false', decide_eq_false_iff_not] at h
  obtain ⟨⟨⟨h1, h2⟩, h3⟩, h4⟩ := h
  have hM : MOk m := ⟨h1⟩
  have hi := prf_in hM h2
  refine ⟨hM, hi.1, hi.2.1, hi.2.2, by omega, g, ?_⟩
  have e : ((p.length : Int) - 1).toNat = p.length - 1 := by omega
  rw [e] at h4
  exact List.eq_nil_of_length_eq_zero (by omega)
theorem ck_no {m : Mod} {p : List (List Lit)} (h : ckG m p = true) : false = chkP m p := by unfold chkP; rw [if_pos h]
theorem ck_hit {m : Mod} {p : List (List Lit)} {k : Nat} (h : ckG m p = false) (hk : k < p.length) (c : impB m (p.take k) (p.getD k []) = false) : false = chkP m p := by
  unfold chkP; rw [if_neg (by rw [h]; simp)]
  symm
  rw [List.all_eq_false]
  exact ⟨k, List.mem_range.2 hk, by rw [c]; simp⟩
theorem ck_end {m : Mod} {p : List (List Lit)} {k : Nat} (h : ckG m p = false) (hk : k = p.length) (c : (List.range k).all (fun i => impB m (p.take i) (p.getD i [])) = true) : true = chkP m p := by
  unfold chkP; rw [if_neg (by rw [h]; simp), ← hk, c]
theorem ck_step {m : Mod} {p : List (List Lit)} {k : Nat} (h : (List.range k).all (fun i => impB m (p.take i) (p.getD i [])) = true) (c : impB m (p.take k) (p.getD k []) = true) : (List.range (k + 1)).all (fun i => impB m (p.take i) (p.getD i [])) = true := by
  rw [List.range_succ, List.all_append, h]; simpa using c
theorem ckG_S {m : Mod} {p : List (List Lit)} : (((!(validModB m) || !(prfS (m.doms.length : Int) p)) || decide ((p.length : Int) = 0)) || decide ((0 : Int) < ((p.getD ((p.length : Int) - 1).toNat []).length : Int))) = ckG m p := by
  unfold ckG
  cases h : validModB m with
  | false => rfl
  | true => rw [prf_IS ⟨h⟩]
/-! The bounded model. -/
def iotaN (n : Nat) : List Int := (List.range n).map (fun (i : Nat) => (i : Int))
def lowC (n : Nat) (obj : List Int) (b : Int) : Con := ⟨1, iotaN n, obj, b, []⟩
def withC (m : Mod) (c : Con) : Mod := ⟨m.doms, m.cons ++ [c]⟩
def wcR (m : Mod) (c : Con) : Mod × Bool := if validModB (withC m c) = true then (withC m c, true) else (⟨[], []⟩, false)
def bdG (m : Mod) (obj : List Int) (b : Int) : Bool := objOkB m obj && withinB b (-998) 1000
def bdR (m : Mod) (obj : List Int) (b : Int) : Mod × Bool := if bdG m obj b = true then wcR m (lowC obj.length obj (b - 1)) else (⟨[], []⟩, false)
theorem wc_no {m : Mod} {c : Con} (h : validModB (withC m c) = false) : wcR m c = (⟨[], []⟩, false) := by unfold wcR; rw [if_neg (by rw [h]; simp)]
theorem wc_yes {m : Mod} {c : Con} (h : validModB (withC m c) = true) : wcR m c = (withC m c, true) := if_pos h
theorem bd_no {m : Mod} {obj : List Int} {b : Int} (h : (!(objOkB m obj) || !(withinB b (-998) 1000)) = true) : bdR m obj b = (⟨[], []⟩, false) := by
  unfold bdR bdG; rw [if_neg]; revert h; cases objOkB m obj <;> cases withinB b (-998) 1000 <;> simp
theorem bd_yes {m : Mod} {obj : List Int} {b : Int} (h : (!(objOkB m obj) || !(withinB b (-998) 1000)) = false) : bdR m obj b = wcR m (lowC obj.length obj (b - 1)) := by
  unfold bdR bdG; rw [if_pos]; revert h; cases objOkB m obj <;> cases withinB b (-998) 1000 <;> simp
theorem bd_cS {m : Mod} {obj : List Int} {b : Int} : ((!(validModB m) || !(objOkS m obj)) || !(withinB b (-998) 1000)) = (!(objOkB m obj) || !(withinB b (-998) 1000)) := by
  rw [obj_eq]; cases validModB m <;> cases objOkS m obj <;> rfl
theorem iotaN_step {k : Nat} {vs : List Int} (h : vs = iotaN k) : vs ++ [(k : Int)] = iotaN (k + 1) := by subst h; simp [iotaN, List.range_succ]
theorem iota_len (n : Nat) : (iotaN n).length = n := by simp [iotaN]
def chkB (m : Mod) (obj : List Int) (b : Int) (p : List (List Lit)) : Bool := (bdR m obj b).2 && chkP (bdR m obj b).1 p
end
section
theorem bd_ok {m : Mod} {obj : List Int} {b : Int} (h : (!(objOkB m obj) || !(withinB b (-998) 1000)) = false) : m.cons.length ≤ 100 ∧ obj.length ≤ 100 ∧ MOk m ∧ obj.length = m.doms.length ∧ (-1000 ≤ b ∧ b ≤ 2000) := by
  simp only [Bool.or_eq_false_iff, Bool.not_eq_false', withinB_iff] at h
  have h1 := objok h.1
  have h2 := h1.1.few
  have h3 := h1.1.n
  exact ⟨by omega, by omega, h1.1, h1.2.1, by omega⟩
theorem low_small {vs obj : List Int} {b : Int} (h : vs = iotaN obj.length) (hn : 1 ≤ obj.length ∧ obj.length ≤ 100) : ConSm 100 ⟨1, vs, obj, b, []⟩ := by
  subst h
  exact ⟨by dsimp only; rw [iota_len]; omega, by dsimp only; rw [iota_len]; omega, hn.2, by simp, fun r hr => (by cases hr)⟩
theorem ishl_small {v : Int} (h : 0 ≤ v ∧ v ≤ 5) : 1 ≤ ishl 1 v ∧ ishl 1 v ≤ 32 := by
  have key : ∀ i, i < 6 → 1 ≤ ishl 1 ((i : Nat) : Int) ∧ ishl 1 ((i : Nat) : Int) ≤ 32 := by decide +kernel
  obtain ⟨i, rfl⟩ := Int.eq_ofNat_of_zero_le h.1
  exact key i (by omega)
/-! One clause. -/
def LstL (xs : List Lit) (l : Lit) : Prop := l = xs.getLastD nilLit
def nzL (ds : List Int) (l : Lit) : Prop := iand (ds.getD l.var.toNat 0) (truesI l) ≠ 0
theorem opn_T {c : List Lit} {ds : List Int} {k : Nat} (hk : k < c.length) (h : nzL ds (c.getD k nilLit)) : opnL (c.take (k + 1)) ds = opnL (c.take k) ds ++ [c.getD k nilLit] := by
  unfold opnL
  rw [take_succ_getD nilLit hk, List.filter_append, List.filter_cons, if_pos (by simpa [nzL] using h)]; rfl
theorem opn_F {c : List Lit} {ds : List Int} {k : Nat} (hk : k < c.length) (h : ¬ nzL ds (c.getD k nilLit)) : opnL (c.take (k + 1)) ds = opnL (c.take k) ds := by
  unfold opnL
  rw [take_succ_getD nilLit hk, List.filter_append, List.filter_cons, if_neg (by simpa [nzL] using h)]; simp
theorem opn_len (c : List Lit) (ds : List Int) (k : Nat) : (opnL (c.take k) ds).length ≤ k := by
  have h1 := List.length_filter_le (fun l => decide (iand (ds.getD l.var.toNat 0) (truesI l) ≠ 0)) (c.take k)
  have h2 := List.length_take_le k c
  unfold opnL; omega
theorem un_T {c : List Lit} {ds : List Int} {k : Nat} {q la lb : Int} {lc : Bool} (h : q = ((opnL (c.take k) ds).length : Int) ∧ LstL (opnL (c.take k) ds) ⟨la, lb, lc⟩) (hk : k < c.length) (hz : nzL ds (c.getD k nilLit)) :
    q + 1 = ((opnL (c.take (k + 1)) ds).length : Int) ∧ LstL (opnL (c.take (k + 1)) ds) ⟨(c.getD k nilLit).var, (c.getD k nilLit).val, (c.getD k nilLit).neg⟩ := by
  rw [opn_T hk hz]
  refine ⟨by rw [h.1]; simp, ?_⟩
  unfold LstL
  simp
theorem un_F {c : List Lit} {ds : List Int} {k : Nat} {q la lb : Int} {lc : Bool} (h : q = ((opnL (c.take k) ds).length : Int) ∧ LstL (opnL (c.take k) ds) ⟨la, lb, lc⟩) (hk : k < c.length) (hz : ¬ nzL ds (c.getD k nilLit)) :
    q = ((opnL (c.take (k + 1)) ds).length : Int) ∧ LstL (opnL (c.take (k + 1)) ds) ⟨la, lb, lc⟩ := by
  rw [opn_F hk hz]; exact h
theorem un_0 {c : List Lit} {ds : List Int} {k : Nat} {q la lb : Int} {lc : Bool} (h : q = ((opnL (c.take k) ds).length : Int) ∧ LstL (opnL (c.take k) ds) ⟨la, lb, lc⟩) (hk : c.length ≤ k) (hq : q = 0) : unitL c ds = zerosL ds.length := by
  rw [List.take_of_length_le hk] at h
  exact unit_0 (List.eq_nil_of_length_eq_zero (by omega))
theorem un_one {c : List Lit} {ds : List Int} {k : Nat} {q la lb : Int} {lc : Bool} (h : q = ((opnL (c.take k) ds).length : Int) ∧ LstL (opnL (c.take k) ds) ⟨la, lb, lc⟩) (hk : c.length ≤ k) (hq : q = 1) : opnL c ds = [⟨la, lb, lc⟩] := by
  rw [List.take_of_length_le hk] at h
  have h1 : (opnL c ds).length = 1 := by omega
  obtain ⟨l, e⟩ := List.length_eq_one_iff.1 h1
  have h2 := h.2
  rw [e] at h2 ⊢
  unfold LstL at h2
  simp at h2
  rw [h2]
theorem un_1 {c : List Lit} {ds : List Int} {k : Nat} {q la lb : Int} {lc : Bool} (h : q = ((opnL (c.take k) ds).length : Int) ∧ LstL (opnL (c.take k) ds) ⟨la, lb, lc⟩) (hk : c.length ≤ k) (hq : q = 1) : unitL c ds = setT ds ⟨la, lb, lc⟩ := unit_1 (un_one h hk hq)
theorem un_last {c : List Lit} {ds : List Int} {k n : Nat} {q la lb : Int} {lc : Bool} (hc : ClIn n c) (h : q = ((opnL (c.take k) ds).length : Int) ∧ LstL (opnL (c.take k) ds) ⟨la, lb, lc⟩) (hk : c.length ≤ k) (hq : q = 1) : (0 ≤ la ∧ la < (n : Int)) ∧ (0 ≤ lb ∧ lb ≤ 5) :=
  hc ⟨la, lb, lc⟩ (opn_mem (by rw [un_one h hk hq]; exact .head _))
theorem un_2 {c : List Lit} {ds : List Int} {k : Nat} {q la lb : Int} {lc : Bool} (h : q = ((opnL (c.take k) ds).length : Int) ∧ LstL (opnL (c.take k) ds) ⟨la, lb, lc⟩) (hk : c.length ≤ k) (h0 : q ≠ 0) (h1 : q ≠ 1) : unitL c ds = ds := by
  rw [List.take_of_length_le hk] at h
  exact unit_2 (by omega)
def CfI (c : List Lit) (ds : List Int) (k : Nat) (a : Int) : Prop := (a = -1 ∧ opnL (c.take k) ds = []) ∨ (0 ≤ a ∧ a < (k : Int) ∧ opnL (c.take k) ds = [c.getD a.toNat nilLit])
theorem cf_0 (c : List Lit) (ds : List Int) : CfI c ds 0 (-1) := .inl ⟨rfl, rfl⟩
theorem cf_b {c : List Lit} {ds : List Int} {k : Nat} {a : Int} (h : CfI c ds k a) : -1 ≤ a ∧ a ≤ (k : Int) := by rcases h with h | h <;> omega
theorem cf_T {c : List Lit} {ds : List Int} {k : Nat} {a : Int} (h : CfI c ds k a) (hk : k < c.length) (hz : nzL ds (c.getD k nilLit)) (ha : a < 0) : CfI c ds (k + 1) (k : Int) := by
  rcases h with h | h
  · right; rw [opn_T hk hz, h.2]; exact ⟨by omega, by omega, rfl⟩
  · omega
theorem cf_F {c : List Lit} {ds : List Int} {k : Nat} {a : Int} (h : CfI c ds k a) (hk : k < c.length) (hz : ¬ nzL ds (c.getD k nilLit)) : CfI c ds (k + 1) a := by
  rcases h with h | h
  · left; rw [opn_F hk hz]; exact h
  · right; rw [opn_F hk hz]; exact ⟨h.1, by omega, h.2.2⟩
theorem cf_2 {c : List Lit} {ds : List Int} {k : Nat} {a : Int} (h : CfI c ds k a) (hk : k < c.length) (hz : nzL ds (c.getD k nilLit)) (ha : 0 ≤ a) : unitL c ds = ds := by
  refine unit_2 ?_
  have e : opnL c ds = opnL (c.take (k + 1)) ds ++ opnL (c.drop (k + 1)) ds := by
    unfold opnL; rw [← List.filter_append, List.take_append_drop]
  rw [e, opn_T hk hz]
  rcases h with h | h
  · omega
  · rw [h.2.2]; simp
theorem cf_z {c : List Lit} {ds : List Int} {k : Nat} {a : Int} (h : CfI c ds k a) (hk : c.length ≤ k) (ha : a < 0) : unitL c ds = zerosL ds.length := by
  rcases h with h | h
  · rw [List.take_of_length_le hk] at h; exact unit_0 h.2
  · omega
theorem cf_1 {c : List Lit} {ds : List Int} {k : Nat} {a : Int} (h : CfI c ds k a) (hk : c.length ≤ k) (ha : 0 ≤ a) : unitL c ds = setT ds (c.getD a.toNat nilLit) := by
  rcases h with h | h
  · omega
  · rw [List.take_of_length_le hk] at h; exact unit_1 h.2.2
theorem cf_in {c : List Lit} {ds : List Int} {k n : Nat} {a : Int} (hc : ClIn n c) (h : CfI c ds k a) (hk : c.length ≤ k ∧ k ≤ c.length ∧ 0 ≤ a) : (0 ≤ (c.getD a.toNat nilLit).var ∧ (c.getD a.toNat nilLit).var < (n : Int) ∧ a < (c.length : Int)) ∧ (0 ≤ (c.getD a.toNat nilLit).val ∧ (c.getD a.toNat nilLit).val ≤ 5) := by
  have h1 : a.toNat < c.length := by rcases h with h | h <;> omega
  have h2 := hc _ (getD_mem (d := nilLit) h1)
  exact ⟨⟨h2.1.1, h2.1.2, by omega⟩, h2.2⟩
/-! The rounds. -/
section rounds
variable {m : Mod} {cls : List (List Lit)} {xs ys ds : List Int}
theorem rf_mu (hM : MOk m) (hD : DOk m.doms.length xs) (hc : ClsIn m.doms.length cls) (e : ys = unitA cls (prop m xs)) (hq : decide (ys = xs) = false) : sumN ys < sumN xs := by
  subst e; exact stepW_lt hM hD hc (of_decide_eq_false hq)
theorem rf_go (hM : MOk m) (hD : DOk m.doms.length xs) (hc : ClsIn m.doms.length cls) (e : ys = unitA cls (prop m xs)) (hz : ys.contains 0 = false) (hq : decide (ys = xs) = false) (h : rfE m cls xs = rfE m cls ds) : DOk m.doms.length ys ∧ rfE m cls ys = rfE m cls ds := by
  subst e
  exact ⟨(stepW_ok hM hD hc).1, (rf_step hM hD hc hz (of_decide_eq_false hq)).trans h⟩
theorem rf_yes (hM : MOk m) (hD : DOk m.doms.length xs) (hc : ClsIn m.doms.length cls) (e : ys = unitA cls (prop m xs)) (hz : ys.contains 0 = true) (h : rfE m cls xs = rfE m cls ds) : true = rfE m cls ds := by
  subst e
  rw [← h]; exact (rf_T hM hD hc hz).symm
theorem rf_no (hM : MOk m) (hD : DOk m.doms.length xs) (e : ys = unitA cls (prop m xs)) (hz : ys.contains 0 = false) (hq : decide (ys = xs) = true) (h : rfE m cls xs = rfE m cls ds) : false = rfE m cls ds := by
  subst e
  rw [← h]; exact (rf_F hM hD hz (of_decide_eq_true hq)).symm
end rounds
theorem prfS_no {n : Int} {p : List (List Lit)} {k : Nat} (hk : k < p.length) (h : clS n (p.getD k []) = false) : false = prfS n p := by
  unfold prfS
  have : p.all (clS n) = false := by
    rw [List.all_eq_false]
    exact ⟨_, getD_mem hk, by rw [h]; simp⟩
  rw [this]; rfl
theorem prfS_end {n : Int} {p : List (List Lit)} {k : Nat} (hk : p.length ≤ k) (h : (p.take k).all (clS n) = true) : decide ((p.length : Int) ≤ 200) = prfS n p := by
  rw [List.take_of_length_le hk] at h
  unfold prfS; rw [h]; rfl
/-! Sizes of lists of clauses. -/
end
end Go.Proofs.YtolndgeihijlbaaGreat
