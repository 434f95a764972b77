/- Walks of functions of the program: each returns what the plain function gives. Conditions: those that each statement names. -/
import Derived.Test.YtbbphbihgikmdaaWswin
import Derived.Test.YtbbphbihgikmdaaMap2
import Derived.Test.YtbbphbihgikmdaaPurePl
namespace Go.Proofs.Ytbbphbihgikmdaa
open Go
set_option linter.unusedSimpArgs false
set_option linter.unusedVariables false
abbrev playsSSt (k : Nat) : Prop := ∀ {Hmd : Hp} {vmd : Value} {Hmc : Hp} {vmc : Value} {Hfa : Hp} {vfa : Value} {Hx : Hp} {vx : Value} (m : Mod) (fa : List Bool) (x : List Int) (hM : MOk m) (hf : fa.length = m.doms.length) (hl : x.length + k = m.doms.length) (hX : Vals x) (hmd : Ints Hmd vmd m.doms) (hmc : Cons Hmc vmc m.cons) (hfa : Bools Hfa vfa fa) (hx : Ints Hx vx x), Spec Try.prog 87 [.agg #[vmd, vmc], vfa, vx] [Hmd, Hmc, Hfa, Hx] (fun Hq vq => MatR 22 3 encI Hq vq (playS m fa k x))
theorem playsS_step (k : Nat) (ih : ∀ j, j < k → playsSSt j) : playsSSt k := by
 intro Hmd vmd Hmc vmc Hfa vfa Hx vx m fa x hM hf hl hX hmd hmc hfa hx
 have hn := hM.n
 refine spec_of Try.func87 rfl rfl rfl (fun B => ?_)
 refine kc_seq (kc_region ?_)
 refine kl_box rfl rfl (fun p1 H2 f3 a4 => ?_)
 refine kl_as rfl ?_
 refine kl_nil (kq_code (kc_seq (kc_region ?_)))
 refine kl_mv rfl ?_
 refine kl_len rfl (by assumption) (fun l5 => ?_)
 refine kl_as rfl ?_
 refine kl_nil (kq_code ?_)
 refine kc_seq ?_
 refine kc_seq (kc_region ?_)
 refine kl_mv rfl ?_
 refine kl_fd rfl (by assumption) (fun p6 a7 => ?_)
 refine kl_ld rfl (by assumption) ?_
 refine kl_len rfl (by assumption) (fun l8 => ?_)
 refine kl_eql rfl rfl ?_
 refine kl_nil (kq_code ?_)
 refine kc_if rfl (fun c9 => ?_) (fun c9 => ?_)
 ·skip
  have hk0 : k = 0 := by omega
  subst hk0
  refine kc_seq (kc_region ?_)
  refine kl_mv rfl ?_
  refine kl_callL rfl rfl (copyInts_ok x (by omega) (by assumption)) (fun v10 H11 f12 o13 => ?_)
  refine kl_bsO (us := [v10]) rfl rfl rfl (by decide) (fun _ h => by rw [List.mem_singleton.1 h]; exact OwnL.cells o13) (fun v14 H15 f16 o17 => ?_)
  have o18 : Mat 22 3 encI H15 H11 v14 [v10] [x] := Mat.one o17 (OwnL.imap o13) (by omega) (OwnL.liq o13)
  refine kl_as rfl ?_
  refine kl_nil (kq_code ?_)
  refine kc_ret ?_
  refine kq_apart H15 H11 (fun c19 => ?_)
  have e9 : [x] = playS m fa 0 x := by rfl
  exact kq_ret rfl rfl (orHp H15 H11) (fr_or f16 f12) ⟨H15, H11, [v10], rfl, c19, (Mat.castX e9 o18)⟩
 ·skip
  obtain ⟨j, rfl⟩ : ∃ j, k = j + 1 := ⟨k - 1, by omega⟩
  have hn := hM.n
  refine kc_skipQ ?_
  refine kq_code ?_
  refine kc_seq (kc_region ?_)
  refine kl_bsO (us := []) rfl rfl rfl (by decide) (fun _ h => by cases h) (fun v20 H21 f22 o23 => ?_)
  refine kl_no ?_
  have o24 : Mat 22 3 encI H21 noHp v20 [] [] := Mat.nil o23
  refine kl_as rfl ?_
  refine kl_nil (kq_code (kc_seq (kc_region ?_)))
  refine kl_fd rfl (by assumption) (fun p26 a27 => ?_)
  refine kl_ld rfl (by assumption) ?_
  refine kl_mv rfl ?_
  refine kl_inI rfl rfl (by assumption) (by omega) (fun p28 a29 => ?_)
  refine kl_ld rfl (by assumption) ?_
  refine kl_call rfl rfl (domainValues_ok (m.doms.getD x.length 0)) (fun v30 H31 f32 h33 => ?_)
  refine kl_as rfl ?_
  refine kl_nil (kq_code ?_)
  refine kc_seq ?_
  refine kc_seq (kc_region ?_)
  refine kl_as rfl ?_
  refine kl_nil (kq_code ?_)
  refine kc_block ?_
  refine kc_loopL (A := Nat × List (List Int) × Value × Hp × List Value × Hp) (fun zz => (zz.1 ≤ (valsI (m.doms.getD x.length 0)).length) ∧ (PlI m fa j x zz.1 zz.2.1) ∧ Mat 22 3 encI zz.2.2.2.1 zz.2.2.2.2.2 zz.2.2.1 zz.2.2.2.2.1 zz.2.1 ∧ Fr B zz.2.2.2.2.2 ∧ Fr B zz.2.2.2.1) (fun zz => (valsI (m.doms.getD x.length 0)).length - zz.1) (fun zz => [zz.2.2.2.2.2, zz.2.2.2.1]) (fun zz => [(10, .int .i64 (zz.1 : Int)), (8, zz.2.2.1)]) (0, ([]), v20, H21, ([]), noHp) (pc 1 rfl (pc 2 rfl (pc 3 rfl (pc 7 rfl (pc 9 rfl pn))))) (pc 10 rfl (pc 8 rfl pn)) rfl ⟨Nat.zero_le _, pl_0, o24, (fr_no _), f22⟩ ?_
  rintro ⟨q, out, v38, H39, us40, K36⟩ hJ43
  obtain ⟨hk34, hi35, o37, f41, f42⟩ : (q ≤ (valsI (m.doms.getD x.length 0)).length) ∧ (PlI m fa j x q out) ∧ Mat 22 3 encI H39 K36 v38 us40 out ∧ Fr B K36 ∧ Fr B H39 := hJ43
  change KC _ _ (_) [K36, H39] _ ([(10, .int .i64 (q : Int)), (8, v38)] ++ _)
  refine kc_seq ?_
  refine kc_seq (kc_region ?_)
  refine kl_mv rfl ?_
  refine kl_mv rfl ?_
  refine kl_len rfl (by assumption) (fun l44 => ?_)
  refine kl_lss rfl rfl ?_
  refine kl_nil (kq_code ?_)
  refine kc_if rfl (fun c45 => ?_) (fun c45 => ?_)
  ·skip
   have hv := valsI_mem (getD_mem (d := (0 : Int)) (by omega : q < (valsI (m.doms.getD x.length 0)).length))
   have hpb := pl_b hi35 (by omega)
   have hpl := playS_len m fa j (x ++ [(valsI (m.doms.getD x.length 0)).getD q 0])
   have hp4 : 6 ^ j ≤ 1296 := pow6 (by omega)
   refine kc_skipQ ?_
   refine kq_code ?_
   refine kc_seq ?_
   refine kc_block ?_
   refine kc_seq ?_
   refine kc_tree (fun i => ([7] : List Nat).contains i) [] (by kernel_rfl) ?_
   refine kt_q 0 (List.nil_sublist _) rfl (by kernel_rfl) ?_
   refine kl_mv rfl ?_
   refine kl_nil (kq_q ?_)
   refine kt_q 2 (List.nil_sublist _) rfl (by kernel_rfl) ?_
   refine kl_mv rfl ?_
   refine kl_nil (kq_q ?_)
   refine kt_q 3 (List.nil_sublist _) rfl (by kernel_rfl) ?_
   refine kl_mv rfl ?_
   refine kl_nil (kq_q ?_)
   refine kt_q 4 (List.nil_sublist _) rfl (by kernel_rfl) ?_
   refine kl_inI rfl rfl (by assumption) (by omega) (fun p46 a47 => ?_)
   refine kl_nil (kq_q ?_)
   refine kt_q 5 (List.nil_sublist _) rfl (by kernel_rfl) ?_
   refine kl_ld rfl (by assumption) ?_
   refine kl_nil (kq_q ?_)
   refine kt_b 1 6 rfl rfl (by kernel_rfl) ?_ ?_
   ·skip
    refine kl_callL rfl rfl (copyInts_ok x (by omega) (by assumption)) (fun v48 H49 f50 o51 => ?_)
    refine kl_nil (kq_a (List.nil_sublist _) ?_)
    refine kt_a 6 rfl (by kernel_rfl) ?_
    refine kl_bs rfl rfl rfl (by decide) (ca rfl ca_nil) (fun v52 H53 f54 r55 s56 => ?_)
    have h57 : Ints H53 v52 [((valsI (m.doms.getD x.length 0)).getD q 0)] := litInts (xs := [((valsI (m.doms.getD x.length 0)).getD q 0)]) (by simpa using s56)
    refine kl_nil (kq_a (List.nil_sublist _) ?_)
    refine kt_a 7 rfl (by kernel_rfl) ?_
    refine kl_apL ((valsI (m.doms.getD x.length 0)).getD q 0) rfl rfl o51 (by assumption) rfl (oc rfl oc_nil) (by omega) (by decide) (fun v58 H59 o60 f61 => ?_)
    have f62 := f61 B f50 (Nat.le_refl _)
    refine kl_nil (kq_x rfl ?_)
    refine kt_q 8 (List.nil_sublist _) rfl (by kernel_rfl) ?_
    refine kl_as rfl ?_
    refine kl_nil (kq_q ?_)
    refine kt_end (by kernel_rfl) ?_
    refine kq_code ?_
    refine kc_seq (kc_region ?_)
    refine kl_mv rfl ?_
    refine kl_mv rfl ?_
    refine kl_inB rfl rfl (by assumption) (by omega) (fun p63 a64 => ?_)
    refine kl_ld rfl (by assumption) ?_
    refine kl_mv rfl ?_
    refine kl_join 5 52 (.bool ((fa.getD x.length false) || (winB m fa j (x ++ [((valsI (m.doms.getD x.length 0)).getD q 0)])))) (pc 1 rfl (pc 2 rfl (pc 3 rfl (pc 7 rfl (pc 8 rfl (pc 9 rfl (pc 10 rfl (pc 11 rfl (pc 29 rfl (pc 30 rfl (pc 31 rfl (pc 32 rfl (pc 35 rfl (pc 36 rfl (pc 37 rfl (pc 38 rfl (pc 39 rfl (pc 40 rfl (pc 41 rfl (pc 42 rfl (pc 43 rfl (pc 44 rfl (pc 45 rfl (pc 46 rfl (pc 47 rfl pn))))))))))))))))))))))))) (fun J66 => ?_) ?_
    ·rcases Bool.eq_false_or_eq_true (fa.getD x.length false) with g65 | g65
     ·skip
      refine kl_gF rfl rfl g65 ?_
      refine kl_gF rfl rfl g65 ?_
      refine kl_gF rfl rfl g65 ?_
      refine kl_gF rfl rfl g65 ?_
      refine kl_orT (winB m fa j (x ++ [((valsI (m.doms.getD x.length 0)).getD q 0)])) rfl rfl g65 ?_
      exact J66 _ (pc 52 rfl (pc 1 rfl (pc 2 rfl (pc 3 rfl (pc 7 rfl (pc 8 rfl (pc 9 rfl (pc 10 rfl (pc 11 rfl (pc 29 rfl (pc 30 rfl (pc 31 rfl (pc 32 rfl (pc 35 rfl (pc 36 rfl (pc 37 rfl (pc 38 rfl (pc 39 rfl (pc 40 rfl (pc 41 rfl (pc 42 rfl (pc 43 rfl (pc 44 rfl (pc 45 rfl (pc 46 rfl (pc 47 rfl pn))))))))))))))))))))))))))
     ·skip
      have g65p := g65
      try simp only [Bool.not_eq_true', Bool.not_eq_false', decide_eq_true_eq, decide_eq_false_iff_not, Bool.and_eq_true, Bool.or_eq_false_iff, withinB_iff] at g65p
      refine kl_gT rfl rfl g65 ?_
      refine kl_ldS rfl (by assumption) rfl ?_
      refine kl_gT rfl rfl g65 ?_
      refine kl_mv rfl ?_
      refine kl_gT rfl rfl g65 ?_
      refine kl_mv rfl ?_
      refine kl_gT rfl rfl g65 ?_
      refine kl_callP rfl rfl (wins_ok j m fa (x ++ [((valsI (m.doms.getD x.length 0)).getD q 0)]) hM hf (by simp; omega) (hX.snoc hv) (by assumption) (by assumption) (by assumption) (OwnL.ints o60)) ?_
      refine kl_orF rfl rfl g65 ?_
      exact J66 _ (pc 52 rfl (pc 1 rfl (pc 2 rfl (pc 3 rfl (pc 7 rfl (pc 8 rfl (pc 9 rfl (pc 10 rfl (pc 11 rfl (pc 29 rfl (pc 30 rfl (pc 31 rfl (pc 32 rfl (pc 35 rfl (pc 36 rfl (pc 37 rfl (pc 38 rfl (pc 39 rfl (pc 40 rfl (pc 41 rfl (pc 42 rfl (pc 43 rfl (pc 44 rfl (pc 45 rfl (pc 46 rfl (pc 47 rfl pn))))))))))))))))))))))))))
    refine kl_nil (kq_code ?_)
    refine kc_cond rfl (fun c67 => ?_) (fun c67 => ?_)
    ·skip
     have c67r := c67
     try simp only [Bool.not_eq_true', Bool.not_eq_false', Bool.not_true, Bool.not_false, decide_eq_true_eq, decide_eq_false_iff_not, Bool.and_eq_true, Bool.or_eq_false_iff] at c67
     refine kc_seq (kc_region ?_)
     refine kl_mv rfl ?_
     refine kl_ldS rfl (by assumption) rfl ?_
     refine kl_mv rfl ?_
     refine kl_mv rfl ?_
     refine kl_callL rfl rfl (ih j (by omega) m fa (x ++ [((valsI (m.doms.getD x.length 0)).getD q 0)]) hM hf (by simp; omega) (hX.snoc hv) (by assumption) (by assumption) (by assumption) (OwnL.ints o60)) (fun v68 H69 f70 h71 => ?_)
     obtain ⟨H72, K73, us74, rfl, a75, m76⟩ := h71
     refine kl_split H72 K73 a75 ?_
     have f78 := fr_l f70 m76.hlq
     have f79 := fr_r f70 m76.lq
     refine kl_frz H72 ?_
     refine kl_apart K36 K73 (fun a85 => ?_)
     refine kl_mtApp rfl rfl o37 m76 a85 (by omega) (by decide) (fun v80 H81 m82 f83 => ?_)
     have f84 := f83 B f42 (Nat.le_refl _)
     refine kl_mrg K36 K73 ?_
     refine kl_as rfl ?_
     refine kl_nil (kq_code (kc_seq (kc_region ?_)))
     refine kl_mv rfl ?_
     refine kl_mv rfl ?_
     refine kl_inB rfl rfl (by assumption) (by omega) (fun p86 a87 => ?_)
     refine kl_ld rfl (by assumption) ?_
     refine kl_not rfl ?_
     refine kl_nil (kq_code ?_)
     refine kc_cond rfl (fun c88 => ?_) (fun c88 => ?_)
     ·skip
      have c88r := c88
      try simp only [Bool.not_eq_true', Bool.not_eq_false', Bool.not_true, Bool.not_false, decide_eq_true_eq, decide_eq_false_iff_not, Bool.and_eq_true, Bool.or_eq_false_iff] at c88
      refine kc_seq (kc_region ?_)
      refine kl_mv rfl ?_
      refine kl_as rfl ?_
      refine kl_nil (kq_code ?_)
      refine kc_ret ?_
      refine kq_apart H81 (orHp K36 K73) (fun c89 => ?_)
      have e9 : (out ++ (playS m fa j (x ++ [((valsI (m.doms.getD x.length 0)).getD q 0)]))) = playS m fa (j + 1) x := by first | exact pl_end hi35 (by omega) | exact pl_hit hi35 (by omega) (by assumption) (by simpa using (by assumption : (!(fa.getD x.length false)) = true))
      exact kq_ret rfl rfl (orHp H81 (orHp K36 K73)) (fr_or f84 (fr_or f41 f79)) ⟨H81, (orHp K36 K73), (us40 ++ us74), rfl, c89, (Mat.castX e9 m82)⟩
     ·skip
      have c88r := c88
      try simp only [Bool.not_eq_true', Bool.not_eq_false', Bool.not_true, Bool.not_false, decide_eq_true_eq, decide_eq_false_iff_not, Bool.and_eq_true, Bool.or_eq_false_iff] at c88
      refine kc_skipQ ?_
      refine kq_code ?_
      refine kc_region ?_
      refine kl_mv rfl ?_
      refine kl_inc rfl rfl (by omega) ?_
      refine kl_as rfl ?_
      refine kl_nil ?_
      refine kq_take [(orHp K36 K73), H81] ?_
      refine kq_roundL ((q + 1), (out ++ (playS m fa j (x ++ [((valsI (m.doms.getD x.length 0)).getD q 0)]))), v80, H81, (us40 ++ us74), (orHp K36 K73)) (by omega) (⟨by omega, (by first | exact pl_T hi35 (by omega) (by simpa using (by assumption : (!(fa.getD x.length false)) = false)) | exact pl_F hi35 (by omega) (by assumption)), m82, (fr_or f41 f79), f84⟩) (pc 10 rfl (pc 8 rfl pn)) (pc 1 rfl (pc 2 rfl (pc 3 rfl (pc 7 rfl (pc 9 rfl pn))))) rfl (List.Sublist.refl _)
    ·skip
     have c67r := c67
     try simp only [Bool.not_eq_true', Bool.not_eq_false', Bool.not_true, Bool.not_false, decide_eq_true_eq, decide_eq_false_iff_not, Bool.and_eq_true, Bool.or_eq_false_iff] at c67
     refine kc_skipQ ?_
     refine kq_code ?_
     refine kc_region ?_
     refine kl_mv rfl ?_
     refine kl_inc rfl rfl (by omega) ?_
     refine kl_as rfl ?_
     refine kl_nil ?_
     refine kq_take [K36, H39] ?_
     refine kq_roundL ((q + 1), out, v38, H39, us40, K36) (by omega) (⟨by omega, (by first | exact pl_T hi35 (by omega) (by simpa using (by assumption : (!(fa.getD x.length false)) = false)) | exact pl_F hi35 (by omega) (by assumption)), o37, f41, f42⟩) (pc 10 rfl (pc 8 rfl pn)) (pc 1 rfl (pc 2 rfl (pc 3 rfl (pc 7 rfl (pc 9 rfl pn))))) rfl (List.Sublist.refl _)
   ·skip
    refine kl_bs rfl rfl rfl (by decide) (ca rfl ca_nil) (fun v90 H91 f92 r93 s94 => ?_)
    have h95 : Ints H91 v90 [((valsI (m.doms.getD x.length 0)).getD q 0)] := litInts (xs := [((valsI (m.doms.getD x.length 0)).getD q 0)]) (by simpa using s94)
    refine kl_nil (kq_a (List.nil_sublist _) ?_)
    refine kt_a 1 rfl (by kernel_rfl) ?_
    refine kl_callL rfl rfl (copyInts_ok x (by omega) (by assumption)) (fun v96 H97 f98 o99 => ?_)
    refine kl_nil (kq_a (List.nil_sublist _) ?_)
    refine kt_a 7 rfl (by kernel_rfl) ?_
    refine kl_apL ((valsI (m.doms.getD x.length 0)).getD q 0) rfl rfl o99 (by assumption) rfl (oc rfl oc_nil) (by omega) (by decide) (fun v100 H101 o102 f103 => ?_)
    have f104 := f103 B f98 (Nat.le_refl _)
    refine kl_nil (kq_x rfl ?_)
    refine kt_q 8 (List.nil_sublist _) rfl (by kernel_rfl) ?_
    refine kl_as rfl ?_
    refine kl_nil (kq_q ?_)
    refine kt_end (by kernel_rfl) ?_
    refine kq_code ?_
    refine kc_seq (kc_region ?_)
    refine kl_mv rfl ?_
    refine kl_mv rfl ?_
    refine kl_inB rfl rfl (by assumption) (by omega) (fun p105 a106 => ?_)
    refine kl_ld rfl (by assumption) ?_
    refine kl_mv rfl ?_
    refine kl_join 5 52 (.bool ((fa.getD x.length false) || (winB m fa j (x ++ [((valsI (m.doms.getD x.length 0)).getD q 0)])))) (pc 1 rfl (pc 2 rfl (pc 3 rfl (pc 7 rfl (pc 8 rfl (pc 9 rfl (pc 10 rfl (pc 11 rfl (pc 29 rfl (pc 30 rfl (pc 31 rfl (pc 32 rfl (pc 35 rfl (pc 36 rfl (pc 37 rfl (pc 38 rfl (pc 39 rfl (pc 40 rfl (pc 41 rfl (pc 42 rfl (pc 43 rfl (pc 44 rfl (pc 45 rfl (pc 46 rfl (pc 47 rfl pn))))))))))))))))))))))))) (fun J108 => ?_) ?_
    ·rcases Bool.eq_false_or_eq_true (fa.getD x.length false) with g107 | g107
     ·skip
      refine kl_gF rfl rfl g107 ?_
      refine kl_gF rfl rfl g107 ?_
      refine kl_gF rfl rfl g107 ?_
      refine kl_gF rfl rfl g107 ?_
      refine kl_orT (winB m fa j (x ++ [((valsI (m.doms.getD x.length 0)).getD q 0)])) rfl rfl g107 ?_
      exact J108 _ (pc 52 rfl (pc 1 rfl (pc 2 rfl (pc 3 rfl (pc 7 rfl (pc 8 rfl (pc 9 rfl (pc 10 rfl (pc 11 rfl (pc 29 rfl (pc 30 rfl (pc 31 rfl (pc 32 rfl (pc 35 rfl (pc 36 rfl (pc 37 rfl (pc 38 rfl (pc 39 rfl (pc 40 rfl (pc 41 rfl (pc 42 rfl (pc 43 rfl (pc 44 rfl (pc 45 rfl (pc 46 rfl (pc 47 rfl pn))))))))))))))))))))))))))
     ·skip
      have g107p := g107
      try simp only [Bool.not_eq_true', Bool.not_eq_false', decide_eq_true_eq, decide_eq_false_iff_not, Bool.and_eq_true, Bool.or_eq_false_iff, withinB_iff] at g107p
      refine kl_gT rfl rfl g107 ?_
      refine kl_ldS rfl (by assumption) rfl ?_
      refine kl_gT rfl rfl g107 ?_
      refine kl_mv rfl ?_
      refine kl_gT rfl rfl g107 ?_
      refine kl_mv rfl ?_
      refine kl_gT rfl rfl g107 ?_
      refine kl_callP rfl rfl (wins_ok j m fa (x ++ [((valsI (m.doms.getD x.length 0)).getD q 0)]) hM hf (by simp; omega) (hX.snoc hv) (by assumption) (by assumption) (by assumption) (OwnL.ints o102)) ?_
      refine kl_orF rfl rfl g107 ?_
      exact J108 _ (pc 52 rfl (pc 1 rfl (pc 2 rfl (pc 3 rfl (pc 7 rfl (pc 8 rfl (pc 9 rfl (pc 10 rfl (pc 11 rfl (pc 29 rfl (pc 30 rfl (pc 31 rfl (pc 32 rfl (pc 35 rfl (pc 36 rfl (pc 37 rfl (pc 38 rfl (pc 39 rfl (pc 40 rfl (pc 41 rfl (pc 42 rfl (pc 43 rfl (pc 44 rfl (pc 45 rfl (pc 46 rfl (pc 47 rfl pn))))))))))))))))))))))))))
    refine kl_nil (kq_code ?_)
    refine kc_cond rfl (fun c109 => ?_) (fun c109 => ?_)
    ·skip
     have c109r := c109
     try simp only [Bool.not_eq_true', Bool.not_eq_false', Bool.not_true, Bool.not_false, decide_eq_true_eq, decide_eq_false_iff_not, Bool.and_eq_true, Bool.or_eq_false_iff] at c109
     refine kc_seq (kc_region ?_)
     refine kl_mv rfl ?_
     refine kl_ldS rfl (by assumption) rfl ?_
     refine kl_mv rfl ?_
     refine kl_mv rfl ?_
     refine kl_callL rfl rfl (ih j (by omega) m fa (x ++ [((valsI (m.doms.getD x.length 0)).getD q 0)]) hM hf (by simp; omega) (hX.snoc hv) (by assumption) (by assumption) (by assumption) (OwnL.ints o102)) (fun v110 H111 f112 h113 => ?_)
     obtain ⟨H114, K115, us116, rfl, a117, m118⟩ := h113
     refine kl_split H114 K115 a117 ?_
     have f120 := fr_l f112 m118.hlq
     have f121 := fr_r f112 m118.lq
     refine kl_frz H114 ?_
     refine kl_apart K36 K115 (fun a127 => ?_)
     refine kl_mtApp rfl rfl o37 m118 a127 (by omega) (by decide) (fun v122 H123 m124 f125 => ?_)
     have f126 := f125 B f42 (Nat.le_refl _)
     refine kl_mrg K36 K115 ?_
     refine kl_as rfl ?_
     refine kl_nil (kq_code (kc_seq (kc_region ?_)))
     refine kl_mv rfl ?_
     refine kl_mv rfl ?_
     refine kl_inB rfl rfl (by assumption) (by omega) (fun p128 a129 => ?_)
     refine kl_ld rfl (by assumption) ?_
     refine kl_not rfl ?_
     refine kl_nil (kq_code ?_)
     refine kc_cond rfl (fun c130 => ?_) (fun c130 => ?_)
     ·skip
      have c130r := c130
      try simp only [Bool.not_eq_true', Bool.not_eq_false', Bool.not_true, Bool.not_false, decide_eq_true_eq, decide_eq_false_iff_not, Bool.and_eq_true, Bool.or_eq_false_iff] at c130
      refine kc_seq (kc_region ?_)
      refine kl_mv rfl ?_
      refine kl_as rfl ?_
      refine kl_nil (kq_code ?_)
      refine kc_ret ?_
      refine kq_apart H123 (orHp K36 K115) (fun c131 => ?_)
      have e9 : (out ++ (playS m fa j (x ++ [((valsI (m.doms.getD x.length 0)).getD q 0)]))) = playS m fa (j + 1) x := by first | exact pl_end hi35 (by omega) | exact pl_hit hi35 (by omega) (by assumption) (by simpa using (by assumption : (!(fa.getD x.length false)) = true))
      exact kq_ret rfl rfl (orHp H123 (orHp K36 K115)) (fr_or f126 (fr_or f41 f121)) ⟨H123, (orHp K36 K115), (us40 ++ us116), rfl, c131, (Mat.castX e9 m124)⟩
     ·skip
      have c130r := c130
      try simp only [Bool.not_eq_true', Bool.not_eq_false', Bool.not_true, Bool.not_false, decide_eq_true_eq, decide_eq_false_iff_not, Bool.and_eq_true, Bool.or_eq_false_iff] at c130
      refine kc_skipQ ?_
      refine kq_code ?_
      refine kc_region ?_
      refine kl_mv rfl ?_
      refine kl_inc rfl rfl (by omega) ?_
      refine kl_as rfl ?_
      refine kl_nil ?_
      refine kq_take [(orHp K36 K115), H123] ?_
      refine kq_roundL ((q + 1), (out ++ (playS m fa j (x ++ [((valsI (m.doms.getD x.length 0)).getD q 0)]))), v122, H123, (us40 ++ us116), (orHp K36 K115)) (by omega) (⟨by omega, (by first | exact pl_T hi35 (by omega) (by simpa using (by assumption : (!(fa.getD x.length false)) = false)) | exact pl_F hi35 (by omega) (by assumption)), m124, (fr_or f41 f121), f126⟩) (pc 10 rfl (pc 8 rfl pn)) (pc 1 rfl (pc 2 rfl (pc 3 rfl (pc 7 rfl (pc 9 rfl pn))))) rfl (List.Sublist.refl _)
    ·skip
     have c109r := c109
     try simp only [Bool.not_eq_true', Bool.not_eq_false', Bool.not_true, Bool.not_false, decide_eq_true_eq, decide_eq_false_iff_not, Bool.and_eq_true, Bool.or_eq_false_iff] at c109
     refine kc_skipQ ?_
     refine kq_code ?_
     refine kc_region ?_
     refine kl_mv rfl ?_
     refine kl_inc rfl rfl (by omega) ?_
     refine kl_as rfl ?_
     refine kl_nil ?_
     refine kq_take [K36, H39] ?_
     refine kq_roundL ((q + 1), out, v38, H39, us40, K36) (by omega) (⟨by omega, (by first | exact pl_T hi35 (by omega) (by simpa using (by assumption : (!(fa.getD x.length false)) = false)) | exact pl_F hi35 (by omega) (by assumption)), o37, f41, f42⟩) (pc 10 rfl (pc 8 rfl pn)) (pc 1 rfl (pc 2 rfl (pc 3 rfl (pc 7 rfl (pc 9 rfl pn))))) rfl (List.Sublist.refl _)
  ·skip
   refine kc_exit ?_
   refine kq_code ?_
   refine kc_seq (kc_region ?_)
   refine kl_mv rfl ?_
   refine kl_as rfl ?_
   refine kl_nil (kq_code ?_)
   refine kc_ret ?_
   refine kq_apart H39 K36 (fun c132 => ?_)
   have e9 : out = playS m fa (j + 1) x := by first | exact pl_end hi35 (by omega) | exact pl_hit hi35 (by omega) (by assumption) (by simpa using (by assumption : (!(fa.getD x.length false)) = true))
   exact kq_ret rfl rfl (orHp H39 K36) (fr_or f42 f41) ⟨H39, K36, us40, rfl, c132, (Mat.castX e9 o37)⟩
theorem playsS_ok (k : Nat) : playsSSt k := by
 induction k using Nat.strongRecOn with
 | _ k ih => exact @playsS_step k ih
end Go.Proofs.Ytbbphbihgikmdaa
