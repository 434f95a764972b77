/- Walks of functions of the program: each returns what the plain function gives. Conditions: those that each statement names. -/
import Derived.Test.YtbbphbihgikmdaaWwin
import Derived.Test.YtbbphbihgikmdaaMap2
import Derived.Test.YtbbphbihgikmdaaPurePl
namespace Go.Proofs.Ytbbphbihgikmdaa
open Go
set_option linter.unusedSimpArgs false
set_option linter.unusedVariables false
abbrev playsISt (k : Nat) : Prop := ∀ {Hmd : Hp} {vmd : Value} {Hmc : Hp} {vmc : Value} {Hfa : Hp} {vfa : Value} {Hx : Hp} {vx : Value} (m : Mod) (fa : List Bool) (x : List Int) (hM : MOk m) (hf : fa.length = m.doms.length) (hl : x.length + k = m.doms.length) (hX : Vals x) (hw : winB m fa k x = true) (hmd : Ints Hmd vmd m.doms) (hmc : Cons Hmc vmc m.cons) (hfa : Bools Hfa vfa fa) (hx : Ints Hx vx x), Spec Try.prog 89 [.agg #[vmd, vmc], vfa, vx] [Hmd, Hmc, Hfa, Hx] (fun Hq vq => MatR 22 3 encI Hq vq (playS m fa k x))
theorem playsI_step (k : Nat) (ih : ∀ j, j < k → playsISt j) : playsISt k := by
 intro Hmd vmd Hmc vmc Hfa vfa Hx vx m fa x hM hf hl hX hw hmd hmc hfa hx
 have hn := hM.n
 refine spec_of Try.func89 rfl rfl rfl (fun B => ?_)
 refine kc_seq (kc_region ?_)
 refine kl_box rfl rfl (fun p1 H2 f3 a4 => ?_)
 refine kl_as rfl ?_
 refine kl_nil (kq_code (kc_seq (kc_region ?_)))
 refine kl_mv rfl ?_
 refine kl_len rfl (by assumption) (fun l5 => ?_)
 refine kl_as rfl ?_
 refine kl_nil (kq_code ?_)
 refine kc_seq ?_
 refine kc_seq (kc_region ?_)
 refine kl_mv rfl ?_
 refine kl_fd rfl (by assumption) (fun p6 a7 => ?_)
 refine kl_ld rfl (by assumption) ?_
 refine kl_len rfl (by assumption) (fun l8 => ?_)
 refine kl_eql rfl rfl ?_
 refine kl_nil (kq_code ?_)
 refine kc_if rfl (fun c9 => ?_) (fun c9 => ?_)
 ·skip
  have hk0 : k = 0 := by omega
  subst hk0
  refine kc_seq (kc_region ?_)
  refine kl_mv rfl ?_
  refine kl_callL rfl rfl (copied_ok x (by omega) (by assumption)) (fun v10 H11 f12 o13 => ?_)
  refine kl_bsO (us := [v10]) rfl rfl rfl (by decide) (fun _ h => by rw [List.mem_singleton.1 h]; exact OwnL.cells o13) (fun v14 H15 f16 o17 => ?_)
  have o18 : Mat 22 3 encI H15 H11 v14 [v10] [x] := Mat.one o17 (OwnL.imap o13) (by omega) (OwnL.liq o13)
  refine kl_as rfl ?_
  refine kl_nil (kq_code ?_)
  refine kc_ret ?_
  refine kq_apart H15 H11 (fun c19 => ?_)
  have e9 : [x] = playS m fa 0 x := by rfl
  exact kq_ret rfl rfl (orHp H15 H11) (fr_or f16 f12) ⟨H15, H11, [v10], rfl, c19, (Mat.castX e9 o18)⟩
 ·skip
  obtain ⟨j, rfl⟩ : ∃ j, k = j + 1 := ⟨k - 1, by omega⟩
  have hn := hM.n
  refine kc_skipQ ?_
  refine kq_code ?_
  refine kc_seq (kc_region ?_)
  refine kl_bsO (us := []) rfl rfl rfl (by decide) (fun _ h => by cases h) (fun v20 H21 f22 o23 => ?_)
  refine kl_no ?_
  have o24 : Mat 22 3 encI H21 noHp v20 [] [] := Mat.nil o23
  refine kl_as rfl ?_
  refine kl_nil (kq_code ?_)
  refine kc_seq ?_
  refine kc_seq (kc_region ?_)
  refine kl_fd rfl (by assumption) (fun p26 a27 => ?_)
  refine kl_ld rfl (by assumption) ?_
  refine kl_mv rfl ?_
  refine kl_inI rfl rfl (by assumption) (by omega) (fun p28 a29 => ?_)
  refine kl_ld rfl (by assumption) ?_
  refine kl_call rfl rfl (valuesOf_ok (m.doms.getD x.length 0) (hM.d (by omega))) (fun v30 H31 f32 h33 => ?_)
  refine kl_len rfl (by assumption) (fun l34 => ?_)
  refine kl_mv rfl ?_
  refine kl_nil (kq_code ?_)
  refine kc_block ?_
  refine kc_loopL (A := Nat × List (List Int) × Value × Hp × List Value × Hp) (fun zz => (zz.1 ≤ (valsI (m.doms.getD x.length 0)).length) ∧ (PlI m fa j x zz.1 zz.2.1) ∧ Mat 22 3 encI zz.2.2.2.1 zz.2.2.2.2.2 zz.2.2.1 zz.2.2.2.2.1 zz.2.1 ∧ Fr B zz.2.2.2.2.2 ∧ Fr B zz.2.2.2.1) (fun zz => (valsI (m.doms.getD x.length 0)).length - zz.1) (fun zz => [zz.2.2.2.2.2, zz.2.2.2.1]) (fun zz => [(29, .int .i64 (zz.1 : Int)), (8, zz.2.2.1)]) (0, ([]), v20, H21, ([]), noHp) (pc 1 rfl (pc 2 rfl (pc 3 rfl (pc 6 rfl (pc 7 rfl (pc 27 rfl (pc 28 rfl pn))))))) (pc 29 rfl (pc 8 rfl pn)) rfl ⟨Nat.zero_le _, pl_0, o24, (fr_no _), f22⟩ ?_
  rintro ⟨q, out, v39, H40, us41, K37⟩ hJ44
  obtain ⟨hk35, hi36, o38, f42, f43⟩ : (q ≤ (valsI (m.doms.getD x.length 0)).length) ∧ (PlI m fa j x q out) ∧ Mat 22 3 encI H40 K37 v39 us41 out ∧ Fr B K37 ∧ Fr B H40 := hJ44
  change KC _ _ (_) [K37, H40] _ ([(29, .int .i64 (q : Int)), (8, v39)] ++ _)
  refine kc_seq (kc_region ?_)
  refine kl_lss rfl rfl ?_
  refine kl_nil (kq_code ?_)
  refine kc_seq ?_
  refine kc_if rfl (fun c45 => ?_) (fun c45 => ?_)
  ·skip
   have hv := valsI_mem (getD_mem (d := (0 : Int)) (by omega : q < (valsI (m.doms.getD x.length 0)).length))
   have hpb := pl_b hi36 (by omega)
   have hpl := playS_len m fa j (x ++ [(valsI (m.doms.getD x.length 0)).getD q 0])
   have hp4 : 6 ^ j ≤ 1296 := pow6 (by omega)
   refine kc_skipQ ?_
   refine kq_code ?_
   refine kc_seq ?_
   refine kc_block ?_
   refine kc_seq (kc_region ?_)
   refine kl_inI rfl rfl (by assumption) (by omega) (fun p46 a47 => ?_)
   refine kl_ld rfl (by assumption) ?_
   refine kl_as rfl ?_
   refine kl_nil (kq_code ?_)
   refine kc_seq ?_
   refine kc_seq ?_
   refine kc_tree (fun i => ([5] : List Nat).contains i) [] (by kernel_rfl) ?_
   refine kt_q 0 (List.nil_sublist _) rfl (by kernel_rfl) ?_
   refine kl_ldS rfl (by assumption) rfl ?_
   refine kl_nil (kq_q ?_)
   refine kt_q 1 (List.nil_sublist _) rfl (by kernel_rfl) ?_
   refine kl_mv rfl ?_
   refine kl_nil (kq_q ?_)
   refine kt_q 2 (List.nil_sublist _) rfl (by kernel_rfl) ?_
   refine kl_mv rfl ?_
   refine kl_nil (kq_q ?_)
   refine kt_q 3 (List.nil_sublist _) rfl (by kernel_rfl) ?_
   refine kl_mv rfl ?_
   refine kl_nil (kq_q ?_)
   refine kt_a 4 rfl (by kernel_rfl) ?_
   refine kl_call rfl rfl (extended_ok x ((valsI (m.doms.getD x.length 0)).getD q 0) (by omega) (by assumption)) (fun v48 H49 f50 h51 => ?_)
   refine kl_nil (kq_a (List.nil_sublist _) ?_)
   refine kt_a 5 rfl (by kernel_rfl) ?_
   refine kl_callP rfl rfl (isTrue_ok j m fa (x ++ [((valsI (m.doms.getD x.length 0)).getD q 0)]) hM hf (by simp; omega) (hX.snoc hv) (by assumption) (by assumption) (by assumption) (by assumption)) ?_
   refine kl_nil (kq_x rfl ?_)
   refine kt_q 6 (List.nil_sublist _) rfl (by kernel_rfl) ?_
   refine kl_not rfl ?_
   refine kl_nil (kq_q ?_)
   refine kt_end (by kernel_rfl) ?_
   refine kq_code ?_
   refine kc_cond rfl (fun c52 => ?_) (fun c52 => ?_)
   ·skip
    have c52r := c52
    try simp only [Bool.not_eq_true', Bool.not_eq_false', Bool.not_true, Bool.not_false, decide_eq_true_eq, decide_eq_false_iff_not, Bool.and_eq_true, Bool.or_eq_false_iff] at c52
    refine kc_exit ?_
    refine kq_code ?_
    refine kc_region ?_
    refine kl_inc rfl rfl (by omega) ?_
    refine kl_mv rfl ?_
    refine kl_nil ?_
    refine kq_take [K37, H40] ?_
    refine kq_roundL ((q + 1), out, v39, H40, us41, K37) (by omega) (⟨by omega, (by first | exact pl_T hi36 (by omega) (by simpa using (by assumption : (!(fa.getD x.length false)) = false)) | exact pl_FI hi36 (by omega) hw (by assumption)), o38, f42, f43⟩) (pc 29 rfl (pc 8 rfl pn)) (pc 1 rfl (pc 2 rfl (pc 3 rfl (pc 6 rfl (pc 7 rfl (pc 27 rfl (pc 28 rfl pn))))))) rfl (List.Sublist.refl _)
   ·skip
    have c52r := c52
    try simp only [Bool.not_eq_true', Bool.not_eq_false', Bool.not_true, Bool.not_false, decide_eq_true_eq, decide_eq_false_iff_not, Bool.and_eq_true, Bool.or_eq_false_iff] at c52
    refine kc_skipQ ?_
    refine kq_code ?_
    refine kc_seq ?_
    refine kc_tree (fun i => ([7] : List Nat).contains i) [] (by kernel_rfl) ?_
    refine kt_q 0 (List.nil_sublist _) rfl (by kernel_rfl) ?_
    refine kl_mv rfl ?_
    refine kl_nil (kq_q ?_)
    refine kt_q 1 (List.nil_sublist _) rfl (by kernel_rfl) ?_
    refine kl_ldS rfl (by assumption) rfl ?_
    refine kl_nil (kq_q ?_)
    refine kt_q 2 (List.nil_sublist _) rfl (by kernel_rfl) ?_
    refine kl_mv rfl ?_
    refine kl_nil (kq_q ?_)
    refine kt_q 3 (List.nil_sublist _) rfl (by kernel_rfl) ?_
    refine kl_mv rfl ?_
    refine kl_nil (kq_q ?_)
    refine kt_q 4 (List.nil_sublist _) rfl (by kernel_rfl) ?_
    refine kl_mv rfl ?_
    refine kl_nil (kq_q ?_)
    refine kt_a 5 rfl (by kernel_rfl) ?_
    refine kl_call rfl rfl (extended_ok x ((valsI (m.doms.getD x.length 0)).getD q 0) (by omega) (by assumption)) (fun v53 H54 f55 h56 => ?_)
    refine kl_nil (kq_a (List.nil_sublist _) ?_)
    refine kt_a 6 rfl (by kernel_rfl) ?_
    refine kl_callL rfl rfl (ih j (by omega) m fa (x ++ [((valsI (m.doms.getD x.length 0)).getD q 0)]) hM hf (by simp; omega) (hX.snoc hv) (by simpa using (by assumption : (!(winB m fa j (x ++ [(valsI (m.doms.getD x.length 0)).getD q 0]))) = false)) (by assumption) (by assumption) (by assumption) (by assumption)) (fun v57 H58 f59 h60 => ?_)
    obtain ⟨H61, K62, us63, rfl, a64, m65⟩ := h60
    have f67 := fr_l f59 m65.hlq
    have f68 := fr_r f59 m65.lq
    refine kl_nil (kq_a (List.nil_sublist _) ?_)
    refine kt_split H61 K62 a64 ?_
    refine kt_frz H61 ?_
    refine kt_a 7 rfl (by kernel_rfl) ?_
    refine kl_apart K37 K62 (fun a75 => ?_)
    refine kl_mtApp rfl rfl o38 m65 a75 (by omega) (by decide) (fun v70 H71 m72 f73 => ?_)
    have f74 := f73 B f43 (Nat.le_refl _)
    refine kl_nil (kq_x rfl ?_)
    refine kt_mrg K37 K62 ?_
    refine kt_q 8 (List.nil_sublist _) rfl (by kernel_rfl) ?_
    refine kl_as rfl ?_
    refine kl_nil (kq_q ?_)
    refine kt_end (by kernel_rfl) ?_
    refine kq_code ?_
    refine kc_seq (kc_region ?_)
    refine kl_mv rfl ?_
    refine kl_mv rfl ?_
    refine kl_inB rfl rfl (by assumption) (by omega) (fun p76 a77 => ?_)
    refine kl_ld rfl (by assumption) ?_
    refine kl_not rfl ?_
    refine kl_nil (kq_code ?_)
    refine kc_cond rfl (fun c78 => ?_) (fun c78 => ?_)
    ·skip
     have c78r := c78
     try simp only [Bool.not_eq_true', Bool.not_eq_false', Bool.not_true, Bool.not_false, decide_eq_true_eq, decide_eq_false_iff_not, Bool.and_eq_true, Bool.or_eq_false_iff] at c78
     refine kc_exit ?_
     refine kq_code ?_
     refine kc_seq (kc_region ?_)
     refine kl_mv rfl ?_
     refine kl_as rfl ?_
     refine kl_nil (kq_code ?_)
     refine kc_ret ?_
     refine kq_apart H71 (orHp K37 K62) (fun c79 => ?_)
     have e9 : (out ++ (playS m fa j (x ++ [((valsI (m.doms.getD x.length 0)).getD q 0)]))) = playS m fa (j + 1) x := by first | exact pl_end hi36 (by omega) | exact pl_hit hi36 (by omega) (pl_orW (by assumption)) (by simpa using (by assumption : (!(fa.getD x.length false)) = true))
     exact kq_ret rfl rfl (orHp H71 (orHp K37 K62)) (fr_or f74 (fr_or f42 f68)) ⟨H71, (orHp K37 K62), (us41 ++ us63), rfl, c79, (Mat.castX e9 m72)⟩
    ·skip
     have c78r := c78
     try simp only [Bool.not_eq_true', Bool.not_eq_false', Bool.not_true, Bool.not_false, decide_eq_true_eq, decide_eq_false_iff_not, Bool.and_eq_true, Bool.or_eq_false_iff] at c78
     refine kc_skipQ ?_
     refine kq_code ?_
     refine kc_region ?_
     refine kl_inc rfl rfl (by omega) ?_
     refine kl_mv rfl ?_
     refine kl_nil ?_
     refine kq_take [(orHp K37 K62), H71] ?_
     refine kq_roundL ((q + 1), (out ++ (playS m fa j (x ++ [((valsI (m.doms.getD x.length 0)).getD q 0)]))), v70, H71, (us41 ++ us63), (orHp K37 K62)) (by omega) (⟨by omega, (by first | exact pl_T hi36 (by omega) (by simpa using (by assumption : (!(fa.getD x.length false)) = false)) | exact pl_FI hi36 (by omega) hw (by assumption)), m72, (fr_or f42 f68), f74⟩) (pc 29 rfl (pc 8 rfl pn)) (pc 1 rfl (pc 2 rfl (pc 3 rfl (pc 6 rfl (pc 7 rfl (pc 27 rfl (pc 28 rfl pn))))))) rfl (List.Sublist.refl _)
  ·skip
   refine kc_exit ?_
   refine kq_code ?_
   refine kc_seq (kc_region ?_)
   refine kl_mv rfl ?_
   refine kl_as rfl ?_
   refine kl_nil (kq_code ?_)
   refine kc_ret ?_
   refine kq_apart H40 K37 (fun c80 => ?_)
   have e9 : out = playS m fa (j + 1) x := by first | exact pl_end hi36 (by omega) | exact pl_hit hi36 (by omega) (pl_orW (by assumption)) (by simpa using (by assumption : (!(fa.getD x.length false)) = true))
   exact kq_ret rfl rfl (orHp H40 K37) (fr_or f43 f42) ⟨H40, K37, us41, rfl, c80, (Mat.castX e9 o38)⟩
theorem playsI_ok (k : Nat) : playsISt k := by
 induction k using Nat.strongRecOn with
 | _ k ih => exact @playsI_step k ih
end Go.Proofs.Ytbbphbihgikmdaa
