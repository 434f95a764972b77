/- Walks of functions of the program: each returns what the plain function gives. Conditions: those that each statement names. -/
import Derived.Test.YtiilanckbocifaaGreatWsfix
namespace Go.Proofs.YtiilanckbocifaaGreat
open Go
set_option linter.unusedSimpArgs false
set_option linter.unusedVariables false
abbrev branchSt (k : Nat) : Prop := ∀ {b : Nat} {Hmd Hmc Hds Hf Kf : Hp} {vmd vmc vds vf : Value} (m : Mod) (ds : List Int) (found : List (List Int)) (nd : Int) (hM : MOk m) (hd : DOk m.doms.length ds) (hk : sumN ds = k) (hroom : found.length + (solT m ds).length < 4096) (lq : Liq Kf)
  (hmd : Ints Hmd vmd m.doms) (hmc : Cons Hmc vmc m.cons) (hds : Ints Hds vds ds) (of : OwnL 23 1 Hf Kf RowV vf found),
  SpecT Tryz.prog 98 [.pointer (some ⟨b, 0, none⟩), vds] [sing b (.cells [vmd, vmc, .int .i64 4096, .int .i64 nd, vf].toArray 102 (0, 0)), Hf, Kf] [Hmd, Hmc, Hds] (fun vq L1 Ln _ => vq = .tuple #[] ∧ Ln = [] ∧ ∃ (nd2 : Int) (vf2 : Value) (Hf2 Kf2 : Hp), L1 = [sing b (.cells [vmd, vmc, .int .i64 4096, .int .i64 nd2, vf2].toArray 102 (0, 0)), Hf2, Kf2] ∧ OwnL 23 1 Hf2 Kf2 RowV vf2 (found ++ solT m ds) ∧ Liq Kf2)
theorem branch_step (k : Nat) (ih : ∀ j, j < k → branchSt j) : branchSt k := by
 intro b Hmd Hmc Hds Hf Kf vmd vmc vds vf m ds found nd hM hd hk hroom lq hmd hmc hds of
 have hn := hM.n
 have hp := propOk hM hd
 have hpl := hp.ok.l
 refine specT_of Tryz.func98 rfl rfl rfl (fun B => ?_)
 refine kc_seq (kc_region (kl_mv rfl (kl_mv rfl (kl_nilchk rfl ?_))))
 refine kl_fdV rfl (kl_ldB rfl rfl (kl_addK (κ := .i64) rfl rfl ?_))
 refine kl_nilchk rfl ?_
 refine kl_fdV rfl (kl_stB rfl rfl rfl rfl rfl ?_)
 refine kl_chg [sing b (.cells [vmd, vmc, .int .i64 (4096 : Int), .int .i64 (IntKind.wrap .i64 (nd + (1 : Int))), vf].toArray 102 (0, 0)), Hf, Kf] rfl ?_
 refine kl_nil (kq_code (kc_seq (kc_region (kl_mv rfl (kl_nilchk rfl ?_)))))
 refine kl_fdV rfl (kl_ldSL rfl (At.take 2 (at_box (T := 102) (cs := [vmd, vmc, .int .i64 (4096 : Int), .int .i64 (IntKind.wrap .i64 (nd + (1 : Int))), vf]) (off := 0) (fz := (0, 0)))) rfl ?_)
 refine kl_mv rfl (kl_call rfl rfl (fixS_ok m ds hM hd (by assumption) (by assumption) (by assumption)) (fun v1 H2 f3 h4 => ?_))
 refine kl_as rfl (kl_nil (kq_code (kc_seq (kc_seq (kc_region (kl_mv rfl (kl_callP rfl rfl (hasEmpty_ok (prop m ds) (by assumption)) ?_)))))))
 refine kl_nil (kq_code (kc_cond rfl (fun c5 => ?_) (fun c5 => ?_)))
 ·skip
  have c5r := c5
  try simp only [smpC, decide_eq_true_eq, decide_eq_false_iff_not] at c5
  refine kc_ret ?_
  exact kq_retT0 rfl [sing b (.cells [vmd, vmc, .int .i64 (4096 : Int), .int .i64 (IntKind.wrap .i64 (nd + (1 : Int))), vf].toArray 102 (0, 0)), Hf, Kf] [] noHp frn (fr_no _) ⟨rfl, rfl, (IntKind.wrap .i64 (nd + (1 : Int))), vf, Hf, Kf, rfl, OwnL.cast (by rw [solT_empty hM hd (by assumption), List.append_nil]) of, lq⟩
 ·skip
  have c5r := c5
  try simp only [smpC, decide_eq_true_eq, decide_eq_false_iff_not] at c5
  have hne : (prop m ds).contains 0 = false := (by simpa using c5r)
  refine kc_skipQ (kq_code (kc_seq (kc_region (kl_as rfl (kl_nil (kq_code (kc_seq (kc_block (kc_loop0 (A := Nat) (fun zz => (zz ≤ (prop m ds).length) ∧ (∀ j, j < zz → (valsI ((prop m ds).getD j 0)).length = 1)) (fun zz => (prop m ds).length - zz) (fun zz => [(5, .int .i64 (zz : Int))]) (0) (pc 0 rfl (pc 4 rfl pn)) (pc 5 rfl pn) ⟨Nat.zero_le _, (fun _ h => absurd h (Nat.not_lt_zero _))⟩ ?_)))))))))
  rintro i hJ8
  obtain ⟨hk6, hi7⟩ : (i ≤ (prop m ds).length) ∧ (∀ j, j < i → (valsI ((prop m ds).getD j 0)).length = 1) := hJ8
  change KC _ _ (_) _ _ ([(5, .int .i64 (i : Int))] ++ _)
  refine kc_seq (kc_seq (kc_region (kl_mv rfl (kl_mv rfl (kl_len rfl (by assumption) (fun l9 => ?_))))))
  refine kl_lss rfl rfl ?_
  refine kl_mv rfl (kl_join 8 39 (.bool (decide ((i : Int) < ((prop m ds).length : Int)) && decide (((valsI ((prop m ds).getD i 0)).length : Int) = (1 : Int)))) (pc 0 rfl (pc 4 rfl (pc 5 rfl (pc 27 rfl (pc 28 rfl (pc 29 rfl (pc 30 rfl (pc 31 rfl pn)))))))) (fun J18 => ?_) ?_)
  ·rcases Bool.eq_false_or_eq_true (decide ((i : Int) < ((prop m ds).length : Int))) with g10 | g10
   ·skip
    have g10p := of_decide_eq_true g10
    refine kl_gT rfl rfl g10 (kl_mv rfl (kl_gT rfl rfl g10 (kl_mv rfl (kl_gT rfl rfl g10 (kl_inI rfl rfl (by assumption) (by first | omega | (simp; omega)) (fun p11 a12 => ?_))))))
    refine kl_gT rfl rfl g10 (kl_ld rfl (by assumption) (kl_gT rfl rfl g10 (kl_call rfl rfl (domainValues_ok ((prop m ds).getD i 0)) (fun v13 H14 f15 h16 => ?_))))
    refine kl_gT rfl rfl g10 (kl_len rfl (by assumption) (fun l17 => ?_))
    refine kl_gT rfl rfl g10 (kl_eql rfl rfl ?_)
    refine kl_andT rfl rfl g10 ?_
    exact kl_fg (List.Sublist.refl _) (J18 _ (pc 39 rfl (pc 0 rfl (pc 4 rfl (pc 5 rfl (pc 27 rfl (pc 28 rfl (pc 29 rfl (pc 30 rfl (pc 31 rfl pn))))))))))
   ·skip
    refine kl_gF rfl rfl g10 (kl_gF rfl rfl g10 (kl_gF rfl rfl g10 (kl_gF rfl rfl g10 (kl_gF rfl rfl g10 (kl_gF rfl rfl g10 (kl_gF rfl rfl g10 (kl_andF (decide (((valsI ((prop m ds).getD i 0)).length : Int) = (1 : Int))) rfl rfl g10 ?_)))))))
    exact J18 _ (pc 39 rfl (pc 0 rfl (pc 4 rfl (pc 5 rfl (pc 27 rfl (pc 28 rfl (pc 29 rfl (pc 30 rfl (pc 31 rfl pn)))))))))
  refine kl_nil (kq_code (kc_cond rfl (fun c19 => ?_) (fun c19 => ?_)))
  ·skip
   have c19r := c19
   try simp only [smpC, decide_eq_true_eq, decide_eq_false_iff_not] at c19
   have hgo := br_go c19r
   refine kc_skipQ (kq_code (kc_block (kc_region (kl_mv rfl (kl_inc rfl rfl (by omega) ?_)))))
   refine kl_as rfl (kl_nil (kq_round0 ((i + 1)) (by (have := hgo.1; omega)) (⟨(by have := hgo.1; omega), (by intro j hj; rcases Nat.lt_succ_iff_lt_or_eq.1 hj with h9 | h9; (exact hi7 j h9); (subst h9; have := hgo.2; omega))⟩) (pc 5 rfl pn) (pc 0 rfl (pc 4 rfl pn)) (List.Sublist.refl _)))
  ·skip
   have c19r := c19
   try simp only [smpC, decide_eq_true_eq, decide_eq_false_iff_not] at c19
   have hex := br_exit c19r
   refine kc_exit (kq_code (kc_seq (kc_seq (kc_region (kl_mv rfl (kl_mv rfl (kl_len rfl (by assumption) (fun l20 => ?_))))))))
   refine kl_eql rfl rfl ?_
   refine kl_nil (kq_code (kc_if rfl (fun c21 => ?_) (fun c21 => ?_)))
   ·skip
    refine kc_seq (kc_region (kl_bsI [] rfl rfl rfl (by decide) (fun v22 H23 f24 o25 => ?_)))
    refine kl_as rfl (kl_nil (kq_code (kc_seq (kc_seq (kc_region (kl_as rfl (kl_nil (kq_code (kc_block (kc_loopL (A := Nat × List Int × Value × Hp) (fun zz => (zz.1 ≤ (prop m ds).length) ∧ (zz.2.1 = firstL ((prop m ds).take zz.1)) ∧ OwnL 3 1 zz.2.2.2 noHp IntV zz.2.2.1 zz.2.1 ∧ Fr B zz.2.2.2) (fun zz => (prop m ds).length - zz.1) (fun zz => [zz.2.2.2, sing b (.cells [vmd, vmc, .int .i64 (4096 : Int), .int .i64 (IntKind.wrap .i64 (nd + (1 : Int))), vf].toArray 102 (0, 0)), Hf, Kf]) (fun zz => [(7, .int .i64 (zz.1 : Int)), (6, zz.2.2.1)]) (0, ([]), v22, H23) (pc 0 rfl (pc 4 rfl (pc 5 rfl pn))) (pc 7 rfl (pc 6 rfl pn)) rfl ⟨Nat.zero_le _, rfl, o25, f24⟩ ?_))))))))))
    rintro ⟨j, x, v31, H28⟩ hJ32
    obtain ⟨hk26, hi27, o29, f30⟩ : (j ≤ (prop m ds).length) ∧ (x = firstL ((prop m ds).take j)) ∧ OwnL 3 1 H28 noHp IntV v31 x ∧ Fr B H28 := hJ32
    change KC _ _ (_) [H28, sing b (.cells [vmd, vmc, .int .i64 (4096 : Int), .int .i64 (IntKind.wrap .i64 (nd + (1 : Int))), vf].toArray 102 (0, 0)), Hf, Kf] _ ([(7, .int .i64 (j : Int)), (6, v31)] ++ _)
    refine kc_seq (kc_seq (kc_region (kl_mv rfl (kl_mv rfl (kl_len rfl (by assumption) (fun l33 => ?_))))))
    refine kl_lss rfl rfl ?_
    refine kl_nil (kq_code (kc_if rfl (fun c34 => ?_) (fun c34 => ?_)))
    ·skip
     have hj1 := hi7 j (by omega)
     refine kc_skipQ (kq_code (kc_seq (kc_block (kc_region (kl_mv rfl (kl_mv rfl (kl_mv rfl (kl_inI rfl rfl (by assumption) (by first | omega | (simp; omega)) (fun p35 a36 => ?_)))))))))
     refine kl_ld rfl (by assumption) (kl_call rfl rfl (domainValues_ok ((prop m ds).getD j 0)) (fun v37 H38 f39 h40 => ?_))
     refine kl_inI (i := 0) rfl rfl (by assumption) (by first | omega | (simp; omega)) (fun p41 a42 => ?_)
     refine kl_ld rfl (by assumption) (kl_bs rfl rfl rfl (by decide) (ca rfl ca_nil) (fun v43 H44 f45 r46 s47 => ?_))
     have h48 : Ints H44 v43 [((valsI ((prop m ds).getD j 0)).getD 0 0)] := litInts (xs := [((valsI ((prop m ds).getD j 0)).getD 0 0)]) (by simpa using s47)
     refine kl_apL ((valsI ((prop m ds).getD j 0)).getD 0 0) rfl rfl o29 (by assumption) rfl (oc rfl oc_nil) (by (first | omega | (have h5 := congrArg List.length hi27; simp [firstL] at h5; omega))) (by decide) (fun v49 H50 o51 f52 => ?_)
     have f53 := f52 B f30 (Nat.le_refl _)
     refine kl_as rfl (kl_nil (kq_code (kc_region (kl_mv rfl (kl_inc rfl rfl (by omega) ?_)))))
     refine kl_as rfl (kl_nil (kq_take [H50, sing b (.cells [vmd, vmc, .int .i64 (4096 : Int), .int .i64 (IntKind.wrap .i64 (nd + (1 : Int))), vf].toArray 102 (0, 0)), Hf, Kf] ?_))
     refine kq_roundL ((j + 1), (x ++ [((valsI ((prop m ds).getD j 0)).getD 0 0)]), v49, H50) (by omega) (⟨by omega, (by rw [hi27]; exact firstL_take (by omega)), o51, f53⟩) (pc 7 rfl (pc 6 rfl pn)) (pc 0 rfl (pc 4 rfl (pc 5 rfl pn))) rfl (List.Sublist.refl _)
    ·skip
     refine kc_exit (kq_code (kc_seq (kc_region (kl_mv rfl (kl_mv rfl (kl_nilchk rfl ?_))))))
     refine kl_fdV rfl (kl_ldB rfl rfl (kl_mv rfl (kl_bs rfl rfl rfl (by decide) (ca (by first | exact Sl.cells (by assumption) | exact OwnL.cells (by assumption)) ca_nil) (fun v54 H55 f56 r57 s58 => ?_))))
     have h59 := OwnL.ints o29
     refine kl_cmp Kf H28 (fun c60 => ?_)
     have o61 := OwnL.mono (K' := orHp Kf H28) of orL
     refine kl_apL x rfl rfl o61 (by assumption) ⟨_, rfl, Sl.mono (by assumption) (orC c60) (fun _ _ h => h)⟩ (oc (OwnL.oneCell (by assumption)) oc_nil) (by (first | omega | (have h5 := congrArg List.length hi27; simp [firstL] at h5; omega))) (by decide) (fun v62 H63 o64 f65 => ?_)
     refine kl_nilchk rfl ?_
     refine kl_fdV rfl (kl_stB rfl rfl rfl (OwnL.oneCell (by assumption)) (OwnL.cells (by assumption)) ?_)
     refine kl_chg [H28, sing b (.cells [vmd, vmc, .int .i64 (4096 : Int), .int .i64 (IntKind.wrap .i64 (nd + (1 : Int))), v62].toArray 102 (0, 0)), H63, Kf] rfl ?_
     refine kl_nil (kq_code (kc_ret (kq_mrg Kf H28 ?_)))
     exact kq_retT0 rfl [sing b (.cells [vmd, vmc, .int .i64 (4096 : Int), .int .i64 (IntKind.wrap .i64 (nd + (1 : Int))), v62].toArray 102 (0, 0)), H63, (orHp Kf H28)] [] noHp frn (fr_no _) ⟨rfl, rfl, (IntKind.wrap .i64 (nd + (1 : Int))), v62, H63, (orHp Kf H28), rfl, OwnL.cast (by rw [solT_leaf hM hd hne (by intro j hj; exact hi7 j (by omega)), hi27, List.take_of_length_le (by omega)]) o64, (liq_or lq f30.2)⟩
   ·skip
    have hi0 : i < (prop m ds).length := (by omega)
    have hne1 : (valsI ((prop m ds).getD i 0)).length ≠ 1 := (by rcases hex with h9 | h9 <;> omega)
    refine kc_skipQ (kq_code (kc_seq (kc_region (kl_mv rfl (kl_mv rfl (kl_inI rfl rfl (by assumption) (by first | omega | (simp; omega)) (fun p67 a68 => ?_)))))))
    refine kl_ld rfl (by assumption) (kl_call rfl rfl (domainValues_ok ((prop m ds).getD i 0)) (fun v69 H70 f71 h72 => ?_))
    refine kl_as rfl (kl_nil (kq_code (kc_seq (kc_region (kl_as rfl (kl_nil (kq_code (kc_block (kc_loopL (A := Nat × Int × List (List Int) × Value × Hp × Hp) (fun zz => (zz.1 ≤ (valsI ((prop m ds).getD i 0)).length) ∧ (zz.2.2.1 = found ++ brTo m (prop m ds) i zz.1 ∧ True) ∧ Liq zz.2.2.2.2.2 ∧ OwnL 23 1 zz.2.2.2.2.1 zz.2.2.2.2.2 RowV zz.2.2.2.1 zz.2.2.1) (fun zz => (valsI ((prop m ds).getD i 0)).length - zz.1) (fun zz => [sing b (.cells [vmd, vmc, .int .i64 (4096 : Int), .int .i64 zz.2.1, zz.2.2.2.1].toArray 102 (0, 0)), zz.2.2.2.2.1, zz.2.2.2.2.2]) (fun zz => [(9, .int .i64 (zz.1 : Int))]) (0, (IntKind.wrap .i64 (nd + (1 : Int))), found, vf, Hf, Kf) (pc 0 rfl (pc 4 rfl (pc 5 rfl (pc 8 rfl pn)))) (pc 9 rfl pn) rfl ⟨Nat.zero_le _, ⟨by rw [brTo_0, List.append_nil], trivial⟩, lq, of⟩ ?_)))))))))
    rintro ⟨k, nd1, fnd, v78, H75, K79⟩ hJ81
    obtain ⟨hk73, hi74, l80, o76⟩ : (k ≤ (valsI ((prop m ds).getD i 0)).length) ∧ (fnd = found ++ brTo m (prop m ds) i k ∧ True) ∧ Liq K79 ∧ OwnL 23 1 H75 K79 RowV v78 fnd := hJ81
    change KC _ _ (_) [sing b (.cells [vmd, vmc, .int .i64 (4096 : Int), .int .i64 nd1, v78].toArray 102 (0, 0)), H75, K79] _ ([(9, .int .i64 (k : Int))] ++ _)
    refine kc_seq (kc_seq (kc_draw 16 [true, true, true, true, true, true, true, true, true, true, true, true, true, true, true, true] (by kernel_rfl) (by kernel_rfl) ?_))
    refine kl_mv rfl (kl_mv rfl (kl_len rfl (by assumption) (fun l82 => ?_)))
    refine kl_lss rfl rfl ?_
    refine kl_mv rfl (kl_join 11 93 (.bool (decide ((k : Int) < ((valsI ((prop m ds).getD i 0)).length : Int)) && decide ((fnd.length : Int) < (4096 : Int)))) (pc 0 rfl (pc 4 rfl (pc 5 rfl (pc 8 rfl (pc 9 rfl (pc 78 rfl (pc 79 rfl (pc 80 rfl (pc 81 rfl (pc 82 rfl pn)))))))))) (fun J85 => ?_) ?_)
    ·rcases Bool.eq_false_or_eq_true (decide ((k : Int) < ((valsI ((prop m ds).getD i 0)).length : Int))) with g83 | g83
     ·skip
      have g83p := of_decide_eq_true g83
      refine kl_gT rfl rfl g83 (kl_mv rfl (kl_gT rfl rfl g83 (kl_nilchk rfl ?_)))
      refine kl_gT rfl rfl g83 (kl_fdV rfl (kl_gT rfl rfl g83 (kl_ldB rfl rfl (kl_gT rfl rfl g83 (kl_lenL rfl o76 (fun l84 => ?_))))))
      refine kl_gT rfl rfl g83 (kl_mv rfl (kl_gT rfl rfl g83 (kl_nilchk rfl ?_)))
      refine kl_gT rfl rfl g83 (kl_fdV rfl (kl_gT rfl rfl g83 (kl_ldB rfl rfl (kl_gT rfl rfl g83 (kl_lss rfl rfl ?_)))))
      refine kl_andT rfl rfl g83 ?_
      exact J85 _ (pc 93 rfl (pc 0 rfl (pc 4 rfl (pc 5 rfl (pc 8 rfl (pc 9 rfl (pc 78 rfl (pc 79 rfl (pc 80 rfl (pc 81 rfl (pc 82 rfl pn)))))))))))
     ·skip
      refine kl_gF rfl rfl g83 (kl_gF rfl rfl g83 (kl_gF rfl rfl g83 (kl_gF rfl rfl g83 (kl_gF rfl rfl g83 (kl_gF rfl rfl g83 (kl_gF rfl rfl g83 (kl_gF rfl rfl g83 (kl_gF rfl rfl g83 ?_))))))))
      refine kl_gF rfl rfl g83 (kl_andF (decide ((fnd.length : Int) < (4096 : Int))) rfl rfl g83 ?_)
      exact J85 _ (pc 93 rfl (pc 0 rfl (pc 4 rfl (pc 5 rfl (pc 8 rfl (pc 9 rfl (pc 78 rfl (pc 79 rfl (pc 80 rfl (pc 81 rfl (pc 82 rfl pn)))))))))))
    refine kl_nil (kq_code (kc_cond rfl (fun c86 => ?_) (fun c86 => ?_)))
    ·skip
     have c86r := c86
     try simp only [smpC, decide_eq_true_eq, decide_eq_false_iff_not] at c86
     have hlt := br_lt c86r
     have hv := getD_mem (d := (0 : Int)) hlt.1
     have hvv := valsI_mem hv
     refine kc_skipQ (kq_code (kc_seq (kc_block (kc_seq (kc_region (kl_mv rfl (kl_callL rfl rfl (copyInts_ok (prop m ds) (by omega) (by assumption)) (fun v87 H88 f89 o90 => ?_))))))))
     refine kl_as rfl (kl_nil (kq_code (kc_seq (kc_region (kl_mv rfl (kl_mv rfl (kl_mv rfl (kl_mv rfl (kl_inI rfl rfl (by assumption) (by first | omega | (simp; omega)) (fun p91 a92 => ?_))))))))))
     refine kl_ld rfl (by assumption) (kl_shl rfl rfl (by omega) ?_)
     refine kl_ixLn rfl rfl (by assumption) (by first | omega | (simp; omega)) (fun p93 q94 => ?_)
     refine kl_stL (ishl (1 : Int) ((valsI ((prop m ds).getD i 0)).getD k 0)) rfl rfl (by assumption) o90 (by first | omega | (simp; omega)) rfl rfl rfl (fun H95 o96 f97 => ?_)
     have f98 := f97 _ f89
     refine kl_chg [H95, sing b (.cells [vmd, vmc, .int .i64 (4096 : Int), .int .i64 nd1, v78].toArray 102 (0, 0)), H75, K79] rfl ?_
     refine kl_nil (kq_code (kc_region (kl_mv rfl (kl_mv rfl (kl_callT rfl rfl (ih _ (by rw [← hk]; exact Nat.lt_of_lt_of_le (set_lt hp.ok hi0 hv hne1) (hp.sub.sum hp.ok.d hd.d)) m ((prop m ds).set i (ishl (1 : Int) ((valsI ((prop m ds).getD i 0)).getD k 0))) fnd nd1 hM (set_ok hp.ok (valsI_mem hv)) rfl (by have := brTo_le' (m := m) hi0 hi7 (k + 1); rw [brTo_succ (by omega), List.length_append, hp.sol] at this; rw [hi74.1, List.length_append]; omega) l80 hmd hmc (OwnL.ints o96) o76) (fun v99 L1 Ln K100 h101 g102 g103 => ?_))))))
     obtain ⟨rfl, rfl, n104, v105, H106, K107, rfl, o108, l109⟩ := h101
     refine kl_norm ?_
     refine kl_nil (kq_code (kc_region (kl_mv rfl (kl_inc rfl rfl (by omega) ?_))))
     refine kl_as rfl (kl_nil (kq_take [sing b (.cells [vmd, vmc, .int .i64 (4096 : Int), .int .i64 n104, v105].toArray 102 (0, 0)), H106, K107] ?_))
     refine kq_roundL ((k + 1), n104, (fnd ++ solT m ((prop m ds).set i (ishl (1 : Int) ((valsI ((prop m ds).getD i 0)).getD k 0)))), v105, H106, K107) (by (have := hlt.1; omega)) (⟨(by have := hlt.1; omega), ⟨(by rw [brTo_succ (by omega), hi74.1, List.append_assoc]), trivial⟩, l109, o108⟩) (pc 9 rfl pn) (pc 0 rfl (pc 4 rfl (pc 5 rfl (pc 8 rfl pn)))) rfl (List.Sublist.refl _)
    ·skip
     have c86r := c86
     try simp only [smpC, decide_eq_true_eq, decide_eq_false_iff_not] at c86
     have hbx := brTo_le' (m := m) hi0 hi7 k
     rw [hp.sol] at hbx
     have hfl := congrArg List.length hi74.1
     rw [List.length_append] at hfl
     have hke := br_out (y := 4096) c86r (by omega)
     refine kc_exit ?_
     exact kq_retT0 rfl [sing b (.cells [vmd, vmc, .int .i64 (4096 : Int), .int .i64 nd1, v78].toArray 102 (0, 0)), H75, K79] [] noHp frn (fr_no _) ⟨rfl, rfl, nd1, v78, H75, K79, rfl, OwnL.cast (by rw [hi74.1, brTo_all hi0 hi7 (by omega), hp.sol]) o76, l80⟩
theorem branch_ok (k : Nat) : branchSt k := by
 induction k using Nat.strongRecOn with
 | _ k ih => exact @branch_step k ih
theorem solve_ok {Hmd : Hp} {vmd : Value} {Hmc : Hp} {vmc : Value} (m : Mod) (hM : MOk m) (hmd : Ints Hmd vmd m.doms) (hmc : Cons Hmc vmc m.cons) : Spec Tryz.prog 47 [.agg #[vmd, vmc], .int .i64 (4096 : Int)] [Hmd, Hmc] (fun Hq vq => ∃ (rq : List (List Int)) (z : Int) (uq0 : Value), vq = .tuple #[uq0, .int .i64 z] ∧ Rows Hq uq0 rq ∧ rq = sols m) := by
 refine spec_of Tryz.func47 rfl rfl rfl (fun B => ?_)
 refine kc_seq (kc_region (kl_box rfl rfl (fun p1 H2 f3 a4 => ?_)))
 refine kl_as rfl (kl_as rfl (kl_nil (kq_code (kc_seq (kc_region (kl_ldS rfl (by assumption) rfl ?_))))))
 refine kl_mv rfl (kl_bdA [(0, [vmd, vmc]), (1, [.int .i64 (4096 : Int)])] [vmd, vmc, .int .i64 (4096 : Int), .int .i64 (0 : Int), .slice none 0 0] rfl (cpa rfl (cpa rfl cpa_nil)) rfl ?_)
 refine kl_boxL (cs := [vmd, vmc, .int .i64 (4096 : Int), .int .i64 (0 : Int), .slice none 0 0]) rfl rfl (fun b5 hb6 => ?_)
 refine kl_as rfl (kl_nil (kq_code (kc_seq (kc_region (kl_mv rfl (kl_fd rfl (by assumption) (fun p7 a8 => ?_)))))))
 refine kl_ld rfl (by assumption) (kl_no ?_)
 refine kl_no ?_
 refine kl_callT rfl rfl (branch_ok _ m m.doms [] 0 hM hM.dok rfl (by have := solT_few (m := m) (ds := m.doms) hM.n.2; simp; omega) liq_no (by assumption) (by assumption) (by assumption) (OwnL.nil (K := noHp) (R := RowV))) (fun v9 L1 Ln K10 h11 g12 g13 => ?_)
 obtain ⟨rfl, rfl, n14, v15, H16, K17, rfl, o18, l19⟩ := h11
 refine kl_norm ?_
 refine kl_fr H16 (OwnL.liq o18) (fun f20 => ?_)
 refine kl_fr K17 l19 (fun f21 => ?_)
 refine kl_nil (kq_code (kc_seq (kc_draw 10 [true, true, true, true, true, true, true, true, true, true] (by kernel_rfl) (by kernel_rfl) ?_)))
 refine kl_mv rfl (kl_nilchk rfl ?_)
 refine kl_fdV rfl (kl_ldB rfl rfl (kl_mv rfl (kl_nilchk rfl ?_)))
 refine kl_fdV rfl (kl_ldB rfl rfl (kl_as rfl (kl_as rfl (kl_nil (kq_code (kc_ret (kq_frz H16 ?_)))))))
 refine kq_cmp H16 K17 (fun c22 => ?_)
 exact kq_ret2 rfl rfl rfl (orHp H16 K17) (fr_or f20 f21) ⟨([] ++ solT m m.doms), n14, _, rfl, (OwnL.rowsK o18 c22), by simp [sols]⟩
end Go.Proofs.YtiilanckbocifaaGreat
