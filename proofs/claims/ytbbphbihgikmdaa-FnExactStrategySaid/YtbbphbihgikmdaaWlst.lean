/- Walks of functions of the program: each returns what the plain function gives. Conditions: those that each statement names. -/
import Derived.Test.YtbbphbihgikmdaaWstr
import Derived.Test.YtbbphbihgikmdaaWmkm
import Derived.Test.YtbbphbihgikmdaaWsz
import Derived.Test.YtbbphbihgikmdaaWto
import Derived.Test.YtbbphbihgikmdaaWeq
namespace Go.Proofs.Ytbbphbihgikmdaa
open Go
set_option linter.unusedSimpArgs false
set_option linter.unusedVariables false
theorem toBoolSo_ok {Ha : Hp} {va : Value} (a : List Bool) (hb : a.length ≤ 1048576) (ha : Bools Ha va a) : Spec Try.prog 21 [va] [Ha] (fun Hq vq => OwnL 4 1 Hq noHp BoolV vq a) := by
 refine spec_of Try.func21 rfl rfl rfl (fun B => ?_)
 refine kc_seq (kc_region ?_)
 refine kl_as rfl ?_
 refine kl_nil (kq_code (kc_seq (kc_region ?_)))
 refine kl_mv rfl ?_
 refine kl_len rfl (by assumption) (fun l1 => ?_)
 refine kl_mkL (R := BoolV) false rfl rfl (by omega) (by decide) (by exact rfl) (fun v2 H3 f4 o5 => ?_)
 refine kl_as rfl ?_
 refine kl_nil (kq_code ?_)
 refine kc_seq ?_
 refine kc_seq (kc_region ?_)
 refine kl_as rfl ?_
 refine kl_nil (kq_code ?_)
 refine kc_block ?_
 refine kc_loopL (A := Nat × Hp) (fun zz => (zz.1 ≤ a.length) ∧ OwnL 4 1 zz.2 noHp BoolV v2 (a.take zz.1 ++ List.replicate (a.length - zz.1) false) ∧ Fr B zz.2) (fun zz => a.length - zz.1) (fun zz => [zz.2]) (fun zz => [(4, .int .i64 (zz.1 : Int))]) (0, H3) (pc 0 rfl (pc 2 rfl (pc 3 rfl pn))) (pc 4 rfl pn) rfl ⟨Nat.zero_le _, (OwnL.cast (by simp : (List.replicate a.length false) = (a.take 0 ++ List.replicate (a.length - 0) false)) o5), f4⟩ ?_
 rintro ⟨k, H8⟩ hJ11
 obtain ⟨hk6, o9, f10⟩ : (k ≤ a.length) ∧ OwnL 4 1 H8 noHp BoolV v2 (a.take k ++ List.replicate (a.length - k) false) ∧ Fr B H8 := hJ11
 change KC _ _ (_) [H8] _ ([(4, .int .i64 (k : Int))] ++ _)
 refine kc_seq ?_
 refine kc_seq (kc_region ?_)
 refine kl_mv rfl ?_
 refine kl_mv rfl ?_
 refine kl_len rfl (by assumption) (fun l12 => ?_)
 refine kl_lss rfl rfl ?_
 refine kl_nil (kq_code ?_)
 refine kc_if rfl (fun c13 => ?_) (fun c13 => ?_)
 ·skip
  refine kc_skipQ ?_
  refine kq_code ?_
  refine kc_seq ?_
  refine kc_block ?_
  refine kc_region ?_
  refine kl_mv rfl ?_
  refine kl_mv rfl ?_
  refine kl_mv rfl ?_
  refine kl_mv rfl ?_
  refine kl_inB rfl rfl (by assumption) (by first | omega | (simp only [List.length_append, List.length_take, List.length_replicate]; omega)) (fun p14 a15 => ?_)
  refine kl_ld rfl (by assumption) ?_
  refine kl_ixLn rfl rfl (by assumption) (by first | omega | (simp only [List.length_append, List.length_take, List.length_replicate]; omega)) (fun p16 q17 => ?_)
  refine kl_stL (a.getD k false) rfl rfl (by assumption) o9 (by first | omega | (simp only [List.length_append, List.length_take, List.length_replicate]; omega)) rfl rfl rfl (fun H18 o19 f20 => ?_)
  have f21 := f20 _ f10
  refine kl_nil (kq_code ?_)
  refine kc_region ?_
  refine kl_mv rfl ?_
  refine kl_inc rfl rfl (by omega) ?_
  refine kl_as rfl ?_
  refine kl_nil ?_
  refine kq_roundL ((k + 1), H18) (by omega) (⟨by omega, (OwnL.cast (by exact fill_step false (by omega) : ((a.take k ++ List.replicate (a.length - k) false).set k (a.getD k false)) = (a.take (k + 1) ++ List.replicate (a.length - (k + 1)) false)) o19), f21⟩) (pc 4 rfl pn) (pc 0 rfl (pc 2 rfl (pc 3 rfl pn))) rfl (List.Sublist.refl _)
 ·skip
  refine kc_exit ?_
  refine kq_code ?_
  refine kc_seq (kc_region ?_)
  refine kl_mv rfl ?_
  refine kl_as rfl ?_
  refine kl_nil (kq_code ?_)
  refine kc_ret ?_
  have e9 : (a.take k ++ List.replicate (a.length - k) false) = a := by exact fill_end (by omega)
  exact kq_ret rfl rfl H8 f10 (e9 ▸ o9)
theorem eqBoolS_ok {Ha : Hp} {va : Value} {Hb : Hp} {vb : Value} (a : List Bool) (b : List Bool) (ha : Bools Ha va a) (hb : Bools Hb vb b) : SpecP Try.prog 24 [va, vb] [Ha, Hb] (.bool (decide (a = b))) := by
 refine spec_of Try.func24 rfl rfl rfl (fun B => ?_)
 refine kc_seq (kc_region ?_)
 refine kl_as rfl ?_
 refine kl_nil (kq_code ?_)
 refine kc_seq ?_
 refine kc_seq (kc_region ?_)
 refine kl_mv rfl ?_
 refine kl_len rfl (by assumption) (fun l1 => ?_)
 refine kl_mv rfl ?_
 refine kl_len rfl (by assumption) (fun l2 => ?_)
 refine kl_neq rfl rfl ?_
 refine kl_nil (kq_code ?_)
 refine kc_if rfl (fun c3 => ?_) (fun c3 => ?_)
 ·skip
  refine kc_seq (kc_region ?_)
  refine kl_as rfl ?_
  refine kl_nil (kq_code ?_)
  refine kc_ret ?_
  refine kq_retP rfl rfl (congrArg Value.bool ?_)
  exact eq_len (by assumption)
 ·skip
  refine kc_skipQ ?_
  refine kq_code ?_
  refine kc_seq ?_
  refine kc_seq (kc_region ?_)
  refine kl_as rfl ?_
  refine kl_nil (kq_code ?_)
  refine kc_block ?_
  refine kc_loop0 (A := Nat) (fun zz => (zz ≤ a.length) ∧ (a.take zz = b.take zz)) (fun zz => a.length - zz) (fun zz => [(5, .int .i64 (zz : Int))]) (0) (pc 0 rfl (pc 1 rfl pn)) (pc 5 rfl pn) ⟨Nat.zero_le _, by simp⟩ ?_
  rintro k hJ6
  obtain ⟨hk4, hi5⟩ : (k ≤ a.length) ∧ (a.take k = b.take k) := hJ6
  change KC _ _ (_) _ _ ([(5, .int .i64 (k : Int))] ++ _)
  refine kc_seq ?_
  refine kc_seq (kc_region ?_)
  refine kl_mv rfl ?_
  refine kl_mv rfl ?_
  refine kl_len rfl (by assumption) (fun l7 => ?_)
  refine kl_lss rfl rfl ?_
  refine kl_nil (kq_code ?_)
  refine kc_if rfl (fun c8 => ?_) (fun c8 => ?_)
  ·skip
   refine kc_skipQ ?_
   refine kq_code ?_
   refine kc_seq ?_
   refine kc_block ?_
   refine kc_seq ?_
   refine kc_draw 9 [true, true, true, true, true, true, true, true, true] (by kernel_rfl) (by kernel_rfl) ?_
   refine kl_mv rfl ?_
   refine kl_mv rfl ?_
   refine kl_inB rfl rfl (by assumption) (by omega) (fun p9 a10 => ?_)
   refine kl_ld rfl (by assumption) ?_
   refine kl_mv rfl ?_
   refine kl_mv rfl ?_
   refine kl_inB rfl rfl (by assumption) (by omega) (fun p11 a12 => ?_)
   refine kl_ld rfl (by assumption) ?_
   refine kl_bne rfl rfl ?_
   refine kl_nil (kq_code ?_)
   refine kc_cond rfl (fun c13 => ?_) (fun c13 => ?_)
   ·skip
    have c13r := c13
    try simp only [Bool.not_eq_true', Bool.not_eq_false', Bool.not_true, Bool.not_false, decide_eq_true_eq, decide_eq_false_iff_not, Bool.and_eq_true, Bool.or_eq_false_iff] at c13
    refine kc_seq (kc_region ?_)
    refine kl_as rfl ?_
    refine kl_nil (kq_code ?_)
    refine kc_ret ?_
    refine kq_retP rfl rfl (congrArg Value.bool ?_)
    exact eq_at (k := k) false (bne_T (by assumption))
   ·skip
    have c13r := c13
    try simp only [Bool.not_eq_true', Bool.not_eq_false', Bool.not_true, Bool.not_false, decide_eq_true_eq, decide_eq_false_iff_not, Bool.and_eq_true, Bool.or_eq_false_iff] at c13
    refine kc_skipQ ?_
    refine kq_code ?_
    refine kc_region ?_
    refine kl_mv rfl ?_
    refine kl_inc rfl rfl (by omega) ?_
    refine kl_as rfl ?_
    refine kl_nil ?_
    refine kq_round0 ((k + 1)) (by omega) (⟨by omega, eq_step false (by omega) (by omega) hi5 (bne_F (by assumption))⟩) (pc 5 rfl pn) (pc 0 rfl (pc 1 rfl pn)) (List.Sublist.refl _)
  ·skip
   refine kc_exit ?_
   refine kq_code ?_
   refine kc_seq (kc_region ?_)
   refine kl_as rfl ?_
   refine kl_nil (kq_code ?_)
   refine kc_ret ?_
   refine kq_retP rfl rfl (congrArg Value.bool ?_)
   exact eq_end (k := k) (by omega) (by omega) (by assumption)
theorem markB_ok {Ha : Hp} {va : Value} (xs : List Bool) (k : Int) (hk : 0 ≤ k ∧ k + (xs.length : Int) ≤ 4611686018427387904) (oa : OwnL 4 1 Ha noHp BoolV va xs) : SpecT Try.prog 40 [va, .int .i64 k] [Ha] [] (fun vq L1 Ln _ => ∃ (Hq : Hp) (ys : List Bool), L1 = [Hq] ∧ Ln = [] ∧ vq = .int .i64 (k + (xs.length : Int)) ∧ OwnL 4 1 Hq noHp BoolV va ys) := by
 have hlen := oa.len
 refine specT_of Try.func40 rfl rfl rfl (fun B => ?_)
 refine kc_seq (kc_region ?_)
 refine kl_as rfl ?_
 refine kl_nil (kq_code ?_)
 refine kc_seq ?_
 refine kc_seq (kc_region ?_)
 refine kl_as rfl ?_
 refine kl_nil (kq_code ?_)
 refine kc_block ?_
 refine kc_loopL (A := Nat × Int × List Bool × Hp) (fun zz => (zz.1 ≤ xs.length) ∧ (zz.2.1 = k + (zz.1 : Int) ∧ zz.2.2.1.length = xs.length) ∧ OwnL 4 1 zz.2.2.2 noHp BoolV va zz.2.2.1) (fun zz => xs.length - zz.1) (fun zz => [zz.2.2.2]) (fun zz => [(5, .int .i64 (zz.1 : Int)), (1, .int .i64 zz.2.1)]) (0, k, xs, Ha) (pc 0 rfl (pc 4 rfl pn)) (pc 5 rfl (pc 1 rfl pn)) rfl ⟨Nat.zero_le _, ⟨by simp, rfl⟩, oa⟩ ?_
 rintro ⟨i, l, ys, H3⟩ hJ6
 obtain ⟨hk1, hi2, o4⟩ : (i ≤ xs.length) ∧ (l = k + (i : Int) ∧ ys.length = xs.length) ∧ OwnL 4 1 H3 noHp BoolV va ys := hJ6
 change KC _ _ (_) [H3] _ ([(5, .int .i64 (i : Int)), (1, .int .i64 l)] ++ _)
 have hll := hi2.1
 have hyl := hi2.2
 refine kc_seq ?_
 refine kc_seq (kc_region ?_)
 refine kl_mv rfl ?_
 refine kl_mv rfl ?_
 refine kl_lenL rfl o4 (fun l7 => ?_)
 refine kl_lss rfl rfl ?_
 refine kl_nil (kq_code ?_)
 refine kc_if rfl (fun c8 => ?_) (fun c8 => ?_)
 ·skip
  refine kc_skipQ ?_
  refine kq_code ?_
  refine kc_seq ?_
  refine kc_block ?_
  refine kc_seq (kc_region ?_)
  refine kl_mv rfl ?_
  refine kl_mv rfl ?_
  refine kl_mv rfl ?_
  have h9 := tmod_in (m := l) (k := (3 : Int)) (by omega) (by omega)
  refine kl_rem rfl rfl (by omega) ?_
  refine kl_eql rfl rfl ?_
  refine kl_ixLn rfl rfl (by assumption) (by omega) (fun p10 q11 => ?_)
  refine kl_stL (decide ((Int.tmod l (3 : Int)) = (0 : Int))) rfl rfl (by assumption) o4 (by omega) rfl rfl rfl (fun H12 o13 f14 => ?_)
  refine kl_chg [H12] rfl ?_
  refine kl_nil (kq_code ?_)
  refine kc_region ?_
  refine kl_mv rfl ?_
  refine kl_add rfl rfl (by omega) ?_
  refine kl_as rfl ?_
  refine kl_nil (kq_code ?_)
  refine kc_region ?_
  refine kl_mv rfl ?_
  refine kl_inc rfl rfl (by omega) ?_
  refine kl_as rfl ?_
  refine kl_nil ?_
  refine kq_take [H12] ?_
  refine kq_roundL ((i + 1), (l + (1 : Int)), (ys.set i (decide ((Int.tmod l (3 : Int)) = (0 : Int)))), H12) (by omega) (⟨by omega, ⟨by dsimp only; omega, by dsimp only; rw [List.length_set]; exact hyl⟩, o13⟩) (pc 5 rfl (pc 1 rfl pn)) (pc 0 rfl (pc 4 rfl pn)) rfl (List.Sublist.refl _)
 ·skip
  refine kc_exit ?_
  refine kq_code ?_
  refine kc_seq (kc_region ?_)
  refine kl_mv rfl ?_
  refine kl_as rfl ?_
  refine kl_nil (kq_code ?_)
  refine kc_ret ?_
  exact kq_retT rfl rfl [H3] [] noHp frn (fr_no _) ⟨H3, _, rfl, rfl, congrArg (Value.int .i64) (by omega), o4⟩
theorem lawSt_ok {Hmd : Hp} {vmd : Value} {Hmc : Hp} {vmc : Value} {Hfa : Hp} {vfa : Value} (m : Mod) (fa : List Bool) (hmd : Ints Hmd vmd m.doms) (hmc : Cons Hmc vmc m.cons) (hfa : Bools Hfa vfa fa) : SpecP Try.prog 9 [.agg #[vmd, vmc], vfa] [Hmd, Hmc, Hfa] (.bool true) := by
 have hrs := str_rsum m fa
 refine spec_of Try.func9 rfl rfl rfl (fun B => ?_)
 refine kc_seq (kc_region ?_)
 refine kl_box rfl rfl (fun p1 H2 f3 a4 => ?_)
 refine kl_as rfl ?_
 refine kl_nil (kq_code ?_)
 refine kc_seq ?_
 refine kc_seq (kc_region ?_)
 refine kl_mv rfl ?_
 refine kl_len rfl (by assumption) (fun l5 => ?_)
 refine kl_gtr rfl rfl ?_
 refine kl_nil (kq_code ?_)
 refine kc_if rfl (fun c6 => ?_) (fun c6 => ?_)
 ·skip
  refine kc_seq (kc_region ?_)
  refine kl_as rfl ?_
  refine kl_nil (kq_code ?_)
  refine kc_ret ?_
  refine kq_retP rfl rfl (congrArg Value.bool ?_)
  first | rfl | (exfalso; simp only [held_1] at *; first | omega | (simp at *; done) | (simp at *; omega) | simp_all)
 ·skip
  refine kc_skipQ ?_
  refine kq_code ?_
  refine kc_seq (kc_region ?_)
  refine kl_as rfl ?_
  refine kl_nil (kq_code (kc_seq (kc_region ?_)))
  refine kl_ldS rfl (by assumption) rfl ?_
  refine kl_mv rfl ?_
  refine kl_callP rfl rfl (szModel_ok m (1048576 : Int) (by omega) (by assumption) (by assumption)) ?_
  refine kl_as rfl ?_
  refine kl_nil (kq_code ?_)
  refine kc_seq ?_
  refine kc_seq (kc_region ?_)
  refine kl_mv rfl ?_
  refine kl_lss rfl rfl ?_
  refine kl_nil (kq_code ?_)
  refine kc_if rfl (fun c7 => ?_) (fun c7 => ?_)
  ·skip
   refine kc_seq (kc_region ?_)
   refine kl_as rfl ?_
   refine kl_nil (kq_code ?_)
   refine kc_ret ?_
   refine kq_retP rfl rfl (congrArg Value.bool ?_)
   first | rfl | (exfalso; simp only [held_1] at *; first | omega | (simp at *; done) | (simp at *; omega) | simp_all)
  ·skip
   have hs := small_of (szB_ok c7)
   have hmk := hs.marks
   refine kc_skipQ ?_
   refine kq_code ?_
   refine kc_seq (kc_region ?_)
   refine kl_ldS rfl (by assumption) rfl ?_
   refine kl_call rfl rfl (toModel_ok m hs (by assumption) (by assumption)) (fun v8 H9 f10 h11 => ?_)
   obtain ⟨u12, u13, rfl, h14, h15⟩ := h11
   refine kl_mv rfl ?_
   refine kl_call rfl rfl (toBoolSo_ok fa (by omega) (by assumption)) (fun v16 H17 f18 o19 => ?_)
   have h20 := OwnL.bools o19
   refine kl_call rfl rfl (strS_ok m fa (by assumption) (by assumption) (by assumption)) (fun v21 H22 f23 h24 => ?_)
   obtain ⟨u25, rfl, h26⟩ := h24
   refine kl_mv rfl ?_
   refine kl_xt rfl rfl ?_
   refine kl_xt rfl rfl ?_
   refine kl_as rfl ?_
   refine kl_as rfl ?_
   refine kl_nil (kq_code (kc_seq (kc_region ?_)))
   refine kl_ldS rfl (by assumption) rfl ?_
   refine kl_callL rfl rfl (toModel_ok m hs (by assumption) (by assumption)) (fun v27 H28 f29 h30 => ?_)
   obtain ⟨u31, u32, rfl, h33, h34⟩ := h30
   refine kl_alloc (cs := [.slice none 0 0, .slice none 0 0]) rfl (fun b35 hb36 => ?_)
   refine kl_stW (us := [u31, u32]) rfl rfl rfl rfl (oc (Sl.oneCell (by assumption)) (oc (Sl.oneCell (by assumption)) oc_nil)) rfl ?_
   refine kl_nil (kq_code (kc_seq (kc_region ?_)))
   refine kl_mv rfl ?_
   refine kl_callL rfl rfl (toBoolSo_ok fa (by omega) (by assumption)) (fun v37 H38 f39 o40 => ?_)
   refine kl_as rfl ?_
   refine kl_nil (kq_code (kc_seq (kc_region ?_)))
   refine kl_ldW rfl rfl ?_
   refine kl_mv rfl ?_
   refine kl_callL rfl rfl (strI_ok m fa (by assumption) (by assumption) (OwnL.bools o40)) (fun v41 H42 f43 h44 => ?_)
   obtain ⟨u45, rfl, H46, K47, us48, rfl, a49, m50⟩ := h44
   refine kl_split H46 K47 a49 ?_
   have f52 := fr_l f43 m50.hlq
   have f53 := fr_r f43 m50.lq
   refine kl_mv rfl ?_
   refine kl_xt rfl rfl ?_
   refine kl_xt rfl rfl ?_
   refine kl_as rfl ?_
   refine kl_as rfl ?_
   refine kl_nil (kq_code ?_)
   refine kc_seq ?_
   refine kc_seq (kc_region ?_)
   refine kl_mv rfl ?_
   refine kl_mv rfl ?_
   refine kl_apart H46 K47 (fun c54 => ?_)
   have h55 := MatR.rows ⟨H46, K47, us48, rfl, c54, m50⟩
   refine kl_callP rfl rfl (eqIntSS_ok (strL m fa) (strL m fa) (by assumption) (by assumption)) ?_
   refine kl_not rfl ?_
   refine kl_mv rfl ?_
   refine kl_join 4 51 (.bool (!(decide ((strL m fa) = (strL m fa))) || ((strB m fa) != (strB m fa)))) (pc 1 rfl (pc 2 rfl (pc 4 rfl (pc 6 rfl (pc 7 rfl (pc 8 rfl (pc 9 rfl (pc 10 rfl (pc 11 rfl (pc 47 rfl pn)))))))))) (fun J57 => ?_) ?_
   ·rcases Bool.eq_false_or_eq_true (!(decide ((strL m fa) = (strL m fa)))) with g56 | g56
    ·skip
     refine kl_gF rfl rfl g56 ?_
     refine kl_gF rfl rfl g56 ?_
     refine kl_gF rfl rfl g56 ?_
     refine kl_orT ((strB m fa) != (strB m fa)) rfl rfl g56 ?_
     exact J57 _ (pc 51 rfl (pc 1 rfl (pc 2 rfl (pc 4 rfl (pc 6 rfl (pc 7 rfl (pc 8 rfl (pc 9 rfl (pc 10 rfl (pc 11 rfl (pc 47 rfl pn)))))))))))
    ·skip
     have g56p := g56
     try simp only [Bool.not_eq_true', Bool.not_eq_false', decide_eq_true_eq, decide_eq_false_iff_not, Bool.and_eq_true, Bool.or_eq_false_iff, withinB_iff] at g56p
     refine kl_gT rfl rfl g56 ?_
     refine kl_mv rfl ?_
     refine kl_gT rfl rfl g56 ?_
     refine kl_mv rfl ?_
     refine kl_gT rfl rfl g56 ?_
     refine kl_bne rfl rfl ?_
     refine kl_orF rfl rfl g56 ?_
     exact J57 _ (pc 51 rfl (pc 1 rfl (pc 2 rfl (pc 4 rfl (pc 6 rfl (pc 7 rfl (pc 8 rfl (pc 9 rfl (pc 10 rfl (pc 11 rfl (pc 47 rfl pn)))))))))))
   refine kl_nil (kq_code ?_)
   refine kc_cond rfl (fun c58 => ?_) (fun c58 => ?_)
   ·skip
    have c58r := c58
    try simp only [Bool.not_eq_true', Bool.not_eq_false', Bool.not_true, Bool.not_false, decide_eq_true_eq, decide_eq_false_iff_not, Bool.and_eq_true, Bool.or_eq_false_iff] at c58
    refine kc_seq (kc_region ?_)
    refine kl_as rfl ?_
    refine kl_nil (kq_code ?_)
    refine kc_ret ?_
    refine kq_retP rfl rfl (congrArg Value.bool ?_)
    first | rfl | (exfalso; simp only [held_1] at *; first | omega | (simp at *; done) | (simp at *; omega) | simp_all)
   ·skip
    have c58r := c58
    try simp only [Bool.not_eq_true', Bool.not_eq_false', Bool.not_true, Bool.not_false, decide_eq_true_eq, decide_eq_false_iff_not, Bool.and_eq_true, Bool.or_eq_false_iff] at c58
    refine kc_skipQ ?_
    refine kq_code ?_
    refine kc_seq ?_
    refine kc_seq ?_
    refine kc_draw 5 [true, true, false, false, true] (by kernel_rfl) (by kernel_rfl) ?_
    refine kl_ldW rfl rfl ?_
    refine kl_ldS rfl (by assumption) rfl ?_
    refine kl_call rfl rfl (toModel_ok m hs (by assumption) (by assumption)) (fun v59 H60 f61 h62 => ?_)
    obtain ⟨u63, u64, rfl, h65, h66⟩ := h62
    refine kl_callP rfl rfl (eqModel_ok m m (by assumption) (by assumption) (by assumption) (by assumption)) ?_
    refine kl_not rfl ?_
    refine kl_nil (kq_code ?_)
    refine kc_cond rfl (fun c67 => ?_) (fun c67 => ?_)
    ·skip
     have c67r := c67
     try simp only [Bool.not_eq_true', Bool.not_eq_false', Bool.not_true, Bool.not_false, decide_eq_true_eq, decide_eq_false_iff_not, Bool.and_eq_true, Bool.or_eq_false_iff] at c67
     refine kc_seq (kc_region ?_)
     refine kl_as rfl ?_
     refine kl_nil (kq_code ?_)
     refine kc_ret ?_
     refine kq_retP rfl rfl (congrArg Value.bool ?_)
     first | rfl | (exfalso; simp only [held_1] at *; first | omega | (simp at *; done) | (simp at *; omega) | simp_all)
    ·skip
     have c67r := c67
     try simp only [Bool.not_eq_true', Bool.not_eq_false', Bool.not_true, Bool.not_false, decide_eq_true_eq, decide_eq_false_iff_not, Bool.and_eq_true, Bool.or_eq_false_iff] at c67
     refine kc_skipQ ?_
     refine kq_code ?_
     refine kc_seq ?_
     refine kc_seq (kc_region ?_)
     refine kl_mv rfl ?_
     refine kl_mv rfl ?_
     refine kl_call rfl rfl (toBoolSo_ok fa (by omega) (by assumption)) (fun v68 H69 f70 o71 => ?_)
     have h72 := OwnL.bools o71
     refine kl_callP rfl rfl (eqBoolS_ok fa fa (OwnL.bools o40) (by assumption)) ?_
     refine kl_not rfl ?_
     refine kl_nil (kq_code ?_)
     refine kc_cond rfl (fun c73 => ?_) (fun c73 => ?_)
     ·skip
      have c73r := c73
      try simp only [Bool.not_eq_true', Bool.not_eq_false', Bool.not_true, Bool.not_false, decide_eq_true_eq, decide_eq_false_iff_not, Bool.and_eq_true, Bool.or_eq_false_iff] at c73
      refine kc_seq (kc_region ?_)
      refine kl_as rfl ?_
      refine kl_nil (kq_code ?_)
      refine kc_ret ?_
      refine kq_retP rfl rfl (congrArg Value.bool ?_)
      first | rfl | (exfalso; simp only [held_1] at *; first | omega | (simp at *; done) | (simp at *; omega) | simp_all)
     ·skip
      have c73r := c73
      try simp only [Bool.not_eq_true', Bool.not_eq_false', Bool.not_true, Bool.not_false, decide_eq_true_eq, decide_eq_false_iff_not, Bool.and_eq_true, Bool.or_eq_false_iff] at c73
      refine kc_skipQ ?_
      refine kq_code ?_
      refine kc_seq (kc_region ?_)
      refine kl_as rfl ?_
      refine kl_nil (kq_code (kc_seq (kc_region ?_)))
      refine kl_ldW rfl rfl ?_
      refine kl_mv rfl ?_
      refine kl_callM rfl rfl (markModel_ok m (1 : Int) (by omega) (by assumption) (by assumption) f29.2) (fun v74 H75 K76 f77 h78 d79 => ?_)
      obtain ⟨m80, rfl⟩ := h78
      have f82 := Mk.fr m80 f29
      refine kl_as rfl ?_
      refine kl_nil (kq_code (kc_seq (kc_region ?_)))
      refine kl_mv rfl ?_
      refine kl_mv rfl ?_
      refine kl_callT rfl rfl (markB_ok fa ((1 : Int) + m.doms.length + (msum m.cons : Nat)) (by omega) o40) (fun v83 L1 Ln K84 h85 g86 g87 => ?_)
      obtain ⟨H88, y89, rfl, rfl, rfl, o90⟩ := h85
      refine kl_norm ?_
      refine kl_as rfl ?_
      refine kl_nil (kq_code ?_)
      refine kc_seq ?_
      refine kc_seq (kc_region ?_)
      refine kl_mv rfl ?_
      refine kl_lss rfl rfl ?_
      refine kl_mv rfl ?_
      refine kl_join 5 75 (.bool (decide ((((1 : Int) + m.doms.length + (msum m.cons : Nat)) + (fa.length : Int)) < (0 : Int)) || !(decide ((strL m fa) = (strL m fa))))) (pc 1 rfl (pc 2 rfl (pc 4 rfl (pc 6 rfl (pc 7 rfl (pc 10 rfl (pc 11 rfl (pc 70 rfl pn)))))))) (fun J94 => ?_) ?_
      ·rcases Bool.eq_false_or_eq_true (decide ((((1 : Int) + m.doms.length + (msum m.cons : Nat)) + (fa.length : Int)) < (0 : Int))) with g91 | g91
       ·skip
        refine kl_gF rfl rfl g91 ?_
        refine kl_gF rfl rfl g91 ?_
        refine kl_gF rfl rfl g91 ?_
        refine kl_gF rfl rfl g91 ?_
        refine kl_orT (!(decide ((strL m fa) = (strL m fa)))) rfl rfl g91 ?_
        exact J94 _ (pc 75 rfl (pc 1 rfl (pc 2 rfl (pc 4 rfl (pc 6 rfl (pc 7 rfl (pc 10 rfl (pc 11 rfl (pc 70 rfl pn)))))))))
       ·skip
        have g91p := of_decide_eq_false g91
        refine kl_gT rfl rfl g91 ?_
        refine kl_mv rfl ?_
        refine kl_gT rfl rfl g91 ?_
        refine kl_mv rfl ?_
        refine kl_gT rfl rfl g91 ?_
        refine kl_apart H46 K47 (fun c92 => ?_)
        have h93 := MatR.rows ⟨H46, K47, us48, rfl, c92, m50⟩
        refine kl_callP rfl rfl (eqIntSS_ok (strL m fa) (strL m fa) (by assumption) (by assumption)) ?_
        refine kl_gT rfl rfl g91 ?_
        refine kl_not rfl ?_
        refine kl_orF rfl rfl g91 ?_
        exact J94 _ (pc 75 rfl (pc 1 rfl (pc 2 rfl (pc 4 rfl (pc 6 rfl (pc 7 rfl (pc 10 rfl (pc 11 rfl (pc 70 rfl pn)))))))))
      refine kl_mv rfl ?_
      refine kl_join 4 80 (.bool ((decide ((((1 : Int) + m.doms.length + (msum m.cons : Nat)) + (fa.length : Int)) < (0 : Int)) || !(decide ((strL m fa) = (strL m fa)))) || ((strB m fa) != (strB m fa)))) (pc 1 rfl (pc 2 rfl (pc 4 rfl (pc 6 rfl (pc 7 rfl (pc 10 rfl (pc 76 rfl pn))))))) (fun J96 => ?_) ?_
      ·rcases Bool.eq_false_or_eq_true (decide ((((1 : Int) + m.doms.length + (msum m.cons : Nat)) + (fa.length : Int)) < (0 : Int)) || !(decide ((strL m fa) = (strL m fa)))) with g95 | g95
       ·skip
        refine kl_gF rfl rfl g95 ?_
        refine kl_gF rfl rfl g95 ?_
        refine kl_gF rfl rfl g95 ?_
        refine kl_orT ((strB m fa) != (strB m fa)) rfl rfl g95 ?_
        exact J96 _ (pc 80 rfl (pc 1 rfl (pc 2 rfl (pc 4 rfl (pc 6 rfl (pc 7 rfl (pc 10 rfl (pc 76 rfl pn))))))))
       ·skip
        have g95p := g95
        try simp only [Bool.not_eq_true', Bool.not_eq_false', decide_eq_true_eq, decide_eq_false_iff_not, Bool.and_eq_true, Bool.or_eq_false_iff, withinB_iff] at g95p
        refine kl_gT rfl rfl g95 ?_
        refine kl_mv rfl ?_
        refine kl_gT rfl rfl g95 ?_
        refine kl_mv rfl ?_
        refine kl_gT rfl rfl g95 ?_
        refine kl_bne rfl rfl ?_
        refine kl_orF rfl rfl g95 ?_
        exact J96 _ (pc 80 rfl (pc 1 rfl (pc 2 rfl (pc 4 rfl (pc 6 rfl (pc 7 rfl (pc 10 rfl (pc 76 rfl pn))))))))
      refine kl_nil (kq_code ?_)
      refine kc_cond rfl (fun c97 => ?_) (fun c97 => ?_)
      ·skip
       have c97r := c97
       try simp only [Bool.not_eq_true', Bool.not_eq_false', Bool.not_true, Bool.not_false, decide_eq_true_eq, decide_eq_false_iff_not, Bool.and_eq_true, Bool.or_eq_false_iff] at c97
       refine kc_seq (kc_region ?_)
       refine kl_as rfl ?_
       refine kl_nil (kq_code ?_)
       refine kc_ret ?_
       refine kq_retP rfl rfl (congrArg Value.bool ?_)
       first | rfl | (exfalso; simp only [held_1] at *; first | omega | (simp at *; done) | (simp at *; omega) | simp_all)
      ·skip
       have c97r := c97
       try simp only [Bool.not_eq_true', Bool.not_eq_false', Bool.not_true, Bool.not_false, decide_eq_true_eq, decide_eq_false_iff_not, Bool.and_eq_true, Bool.or_eq_false_iff] at c97
       refine kc_skipQ ?_
       refine kq_code ?_
       refine kc_seq (kc_region ?_)
       refine kl_as rfl ?_
       refine kl_nil (kq_code (kc_seq (kc_region ?_)))
       refine kl_mv rfl ?_
       refine kl_mv rfl ?_
       refine kl_callT rfl rfl (markSSm_ok (strL m fa) (1 : Int) (by omega) m50) (fun v98 L1 Ln K99 h100 g101 g102 => ?_)
       obtain ⟨K103, rfl, rfl, rfl, m104⟩ := h100
       refine kl_norm ?_
       refine kl_as rfl ?_
       refine kl_nil (kq_code (kc_seq (kc_region ?_)))
       refine kl_as rfl ?_
       refine kl_nil (kq_code (kc_seq (kc_region ?_)))
       refine kl_mv rfl ?_
       refine kl_mv rfl ?_
       refine kl_apart H46 K103 (fun c105 => ?_)
       have h106 := MatR.rows ⟨H46, K103, us48, rfl, c105, m104⟩
       refine kl_callP rfl rfl (heldIntSS_ok (markLL (1 : Int) (strL m fa)) (1 : Int) (by rw [rsum_mk]; omega) (by assumption)) ?_
       refine kl_as rfl ?_
       refine kl_nil (kq_code ?_)
       refine kc_seq ?_
       refine kc_seq (kc_region ?_)
       refine kl_mv rfl ?_
       refine kl_lss rfl rfl ?_
       refine kl_nil (kq_code ?_)
       refine kc_if rfl (fun c107 => ?_) (fun c107 => ?_)
       ·skip
        refine kc_seq (kc_region ?_)
        refine kl_as rfl ?_
        refine kl_nil (kq_code ?_)
        refine kc_ret ?_
        refine kq_retP rfl rfl (congrArg Value.bool ?_)
        first | rfl | (exfalso; simp only [held_1] at *; first | omega | (simp at *; done) | (simp at *; omega) | simp_all)
       ·skip
        refine kc_skipQ ?_
        refine kq_code ?_
        refine kc_seq ?_
        refine kc_seq (kc_region ?_)
        refine kl_mv rfl ?_
        refine kl_mv rfl ?_
        refine kl_neq rfl rfl ?_
        refine kl_nil (kq_code ?_)
        refine kc_if rfl (fun c108 => ?_) (fun c108 => ?_)
        ·skip
         refine kc_seq (kc_region ?_)
         refine kl_as rfl ?_
         refine kl_nil (kq_code ?_)
         refine kc_ret ?_
         refine kq_retP rfl rfl (congrArg Value.bool ?_)
         first | rfl | (exfalso; simp only [held_1] at *; first | omega | (simp at *; done) | (simp at *; omega) | simp_all)
        ·skip
         refine kc_skipQ ?_
         refine kq_code ?_
         refine kc_seq (kc_region ?_)
         refine kl_ldS rfl (by assumption) rfl ?_
         refine kl_call rfl rfl (toModel_ok m hs (by assumption) (by assumption)) (fun v109 H110 f111 h112 => ?_)
         obtain ⟨u113, u114, rfl, h115, h116⟩ := h112
         refine kl_mv rfl ?_
         refine kl_call rfl rfl (toBoolSo_ok fa (by omega) (by assumption)) (fun v117 H118 f119 o120 => ?_)
         have h121 := OwnL.bools o120
         refine kl_callL rfl rfl (strI_ok m fa (by assumption) (by assumption) (by assumption)) (fun v122 H123 f124 h125 => ?_)
         obtain ⟨u126, rfl, H127, K128, us129, rfl, a130, m131⟩ := h125
         refine kl_split H127 K128 a130 ?_
         have f133 := fr_l f124 m131.hlq
         have f134 := fr_r f124 m131.lq
         refine kl_mv rfl ?_
         refine kl_xt rfl rfl ?_
         refine kl_xt rfl rfl ?_
         refine kl_as rfl ?_
         refine kl_as rfl ?_
         refine kl_nil (kq_code ?_)
         refine kc_seq ?_
         refine kc_seq (kc_region ?_)
         refine kl_mv rfl ?_
         refine kl_mv rfl ?_
         refine kl_apart H127 K128 (fun c135 => ?_)
         have h136 := MatR.rows ⟨H127, K128, us129, rfl, c135, m131⟩
         refine kl_callP rfl rfl (eqIntSS_ok (strL m fa) (strL m fa) (by assumption) (by assumption)) ?_
         refine kl_not rfl ?_
         refine kl_mv rfl ?_
         refine kl_join 4 108 (.bool (!(decide ((strL m fa) = (strL m fa))) || ((strB m fa) != (strB m fa)))) (pc 4 rfl (pc 10 rfl (pc 13 rfl (pc 14 rfl (pc 104 rfl pn))))) (fun J138 => ?_) ?_
         ·rcases Bool.eq_false_or_eq_true (!(decide ((strL m fa) = (strL m fa)))) with g137 | g137
          ·skip
           refine kl_gF rfl rfl g137 ?_
           refine kl_gF rfl rfl g137 ?_
           refine kl_gF rfl rfl g137 ?_
           refine kl_orT ((strB m fa) != (strB m fa)) rfl rfl g137 ?_
           exact J138 _ (pc 108 rfl (pc 4 rfl (pc 10 rfl (pc 13 rfl (pc 14 rfl (pc 104 rfl pn))))))
          ·skip
           have g137p := g137
           try simp only [Bool.not_eq_true', Bool.not_eq_false', decide_eq_true_eq, decide_eq_false_iff_not, Bool.and_eq_true, Bool.or_eq_false_iff, withinB_iff] at g137p
           refine kl_gT rfl rfl g137 ?_
           refine kl_mv rfl ?_
           refine kl_gT rfl rfl g137 ?_
           refine kl_mv rfl ?_
           refine kl_gT rfl rfl g137 ?_
           refine kl_bne rfl rfl ?_
           refine kl_orF rfl rfl g137 ?_
           exact J138 _ (pc 108 rfl (pc 4 rfl (pc 10 rfl (pc 13 rfl (pc 14 rfl (pc 104 rfl pn))))))
         refine kl_nil (kq_code ?_)
         refine kc_cond rfl (fun c139 => ?_) (fun c139 => ?_)
         ·skip
          have c139r := c139
          try simp only [Bool.not_eq_true', Bool.not_eq_false', Bool.not_true, Bool.not_false, decide_eq_true_eq, decide_eq_false_iff_not, Bool.and_eq_true, Bool.or_eq_false_iff] at c139
          refine kc_seq (kc_region ?_)
          refine kl_as rfl ?_
          refine kl_nil (kq_code ?_)
          refine kc_ret ?_
          refine kq_retP rfl rfl (congrArg Value.bool ?_)
          first | rfl | (exfalso; simp only [held_1] at *; first | omega | (simp at *; done) | (simp at *; omega) | simp_all)
         ·skip
          have c139r := c139
          try simp only [Bool.not_eq_true', Bool.not_eq_false', Bool.not_true, Bool.not_false, decide_eq_true_eq, decide_eq_false_iff_not, Bool.and_eq_true, Bool.or_eq_false_iff] at c139
          refine kc_skipQ ?_
          refine kq_code ?_
          refine kc_seq (kc_region ?_)
          refine kl_as rfl ?_
          refine kl_nil (kq_code (kc_seq (kc_region ?_)))
          refine kl_mv rfl ?_
          refine kl_mv rfl ?_
          refine kl_apart H46 K103 (fun c140 => ?_)
          have h141 := MatR.rows ⟨H46, K103, us48, rfl, c140, m104⟩
          refine kl_callP rfl rfl (heldIntSS_ok (markLL (1 : Int) (strL m fa)) (1 : Int) (by rw [rsum_mk]; omega) (by assumption)) ?_
          refine kl_as rfl ?_
          refine kl_nil (kq_code ?_)
          refine kc_seq ?_
          refine kc_seq (kc_region ?_)
          refine kl_mv rfl ?_
          refine kl_lss rfl rfl ?_
          refine kl_nil (kq_code ?_)
          refine kc_if rfl (fun c142 => ?_) (fun c142 => ?_)
          ·skip
           refine kc_seq (kc_region ?_)
           refine kl_as rfl ?_
           refine kl_nil (kq_code ?_)
           refine kc_ret ?_
           refine kq_retP rfl rfl (congrArg Value.bool ?_)
           first | rfl | (exfalso; simp only [held_1] at *; first | omega | (simp at *; done) | (simp at *; omega) | simp_all)
          ·skip
           refine kc_skipQ ?_
           refine kq_code ?_
           refine kc_seq ?_
           refine kc_seq (kc_region ?_)
           refine kl_mv rfl ?_
           refine kl_mv rfl ?_
           refine kl_neq rfl rfl ?_
           refine kl_nil (kq_code ?_)
           refine kc_if rfl (fun c143 => ?_) (fun c143 => ?_)
           ·skip
            refine kc_seq (kc_region ?_)
            refine kl_as rfl ?_
            refine kl_nil (kq_code ?_)
            refine kc_ret ?_
            refine kq_retP rfl rfl (congrArg Value.bool ?_)
            first | rfl | (exfalso; simp only [held_1] at *; first | omega | (simp at *; done) | (simp at *; omega) | simp_all)
           ·skip
            refine kc_skipQ ?_
            refine kq_code ?_
            refine kc_seq (kc_region ?_)
            refine kl_as rfl ?_
            refine kl_nil (kq_code ?_)
            refine kc_ret ?_
            refine kq_retP rfl rfl (congrArg Value.bool ?_)
            first | rfl | (exfalso; simp only [held_1] at *; first | omega | (simp at *; done) | (simp at *; omega) | simp_all)
end Go.Proofs.Ytbbphbihgikmdaa
