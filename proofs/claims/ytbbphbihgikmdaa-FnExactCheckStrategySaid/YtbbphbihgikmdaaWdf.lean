/- Walks of functions of the program: each returns what the plain function gives. Conditions: those that each statement names. -/
import Derived.Test.YtbbphbihgikmdaaWvalid
import Derived.Test.YtbbphbihgikmdaaClr
import Derived.Test.YtbbphbihgikmdaaPureC
namespace Go.Proofs.Ytbbphbihgikmdaa
open Go
set_option linter.unusedSimpArgs false
set_option linter.unusedVariables false
theorem cloneR_ok {Hxs : Hp} {vxs : Value} (xs : List (List Int)) (hb : xs.length ≤ 1048576) (hxs : Rows Hxs vxs xs) : Spec Try.prog 122 [vxs] [Hxs] ((fun Hq vq => OwnL 22 1 Hq Hxs RowV vq xs)) := by
 refine spec_of Try.func122 rfl rfl rfl (fun B => ?_)
 refine kc_seq (kc_region ?_)
 refine kl_as rfl ?_
 refine kl_nil (kq_code ?_)
 refine kc_seq ?_
 refine kc_seq (kc_region ?_)
 refine kl_mv rfl ?_
 refine kl_eqlnilX rfl rfl (by assumption) (fun bn nn nx => ?_)
 refine kl_nil (kq_code ?_)
 refine kc_cond rfl (fun c3 => ?_) (fun c3 => ?_)
 ·skip
  have c3r := c3
  try simp only [Bool.not_eq_true', Bool.not_eq_false', Bool.not_true, Bool.not_false, decide_eq_true_eq, decide_eq_false_iff_not, Bool.and_eq_true, Bool.or_eq_false_iff] at c3
  refine kc_seq (kc_region ?_)
  refine kl_as rfl ?_
  refine kl_nil (kq_code ?_)
  refine kc_ret ?_
  exact kq_ret rfl rfl noHp (fr_no _) (by rw [nn (by assumption)]; exact OwnL.nil)
 ·skip
  have c3r := c3
  try simp only [Bool.not_eq_true', Bool.not_eq_false', Bool.not_true, Bool.not_false, decide_eq_true_eq, decide_eq_false_iff_not, Bool.and_eq_true, Bool.or_eq_false_iff] at c3
  refine kc_skipQ ?_
  refine kq_code ?_
  refine kc_seq (kc_region ?_)
  refine kl_bs0k (K := Hxs) RowV rfl (fun v4 H5 f6 o7 => ?_)
  refine kl_mv rfl ?_
  refine kl_apS rfl rfl o7 (by assumption) (fun _ _ h => h) (by simp; omega) (by decide) (fun v8 H9 o10 f11 => ?_)
  have f12 := f11 B f6 (Nat.le_refl _)
  refine kl_as rfl ?_
  refine kl_nil (kq_code ?_)
  refine kc_ret ?_
  exact kq_ret rfl rfl H9 f12 o10
theorem delF_ok {Hs Ks : Hp} {vs : Value} {gp : Nat} {capsp : Array Value} {imp : List Hp} [FnC Try.prog gp] (xs : List (List Int)) (p : List Int → Bool) (h0 : 0 < xs.length) (os : OwnL 22 1 Hs Ks RowV vs xs)
  (hp : ∀ (H : Hp) (u : Value) (r : List Int), r ∈ xs → Ints H u r → SpecP Try.prog gp (u :: capsp.toList) (H :: imp) (.bool (p r))) : SpecT Try.prog 121 [vs, .func (.func gp) #[] capsp] [Hs] (Ks :: imp) (fun vq L1 Ln _ => ∃ Hq, L1 = [Hq] ∧ Ln = [] ∧ OwnL 22 1 Hq Ks RowV vq (xs.filter (fun r => !(p r)))) := by
 have hlen := os.len
 refine specT_of Try.func121 rfl rfl rfl (fun B => ?_)
 refine kc_seq (kc_region ?_)
 refine kl_as rfl ?_
 refine kl_nil (kq_code (kc_seq (kc_region ?_)))
 refine kl_mv rfl ?_
 refine kl_mv rfl ?_
 refine kl_cmp Hs Ks (fun c1 => ?_)
 have h2 := OwnL.rowsK os c1
 refine kl_callP rfl rfl (ixf_row_ok xs p (by assumption) hp) ?_
 refine kl_as rfl ?_
 refine kl_nil (kq_code ?_)
 refine kc_seq ?_
 refine kc_seq (kc_region ?_)
 refine kl_mv rfl ?_
 refine kl_eql rfl rfl ?_
 refine kl_nil (kq_code ?_)
 refine kc_if rfl (fun c3 => ?_) (fun c3 => ?_)
 ·skip
  refine kc_seq (kc_region ?_)
  refine kl_mv rfl ?_
  refine kl_as rfl ?_
  refine kl_nil (kq_code ?_)
  refine kc_ret ?_
  exact kq_retT rfl rfl [Hs] [] noHp frn (fr_no _) ⟨Hs, rfl, rfl, OwnL.cast (delI_none (by assumption)) os⟩
 ·skip
  have hd0 := delI_0 c3
  refine kc_skipQ ?_
  refine kq_code ?_
  refine kc_seq ?_
  refine kc_seq (kc_region ?_)
  refine kl_mv rfl ?_
  refine kl_add rfl rfl (by omega) ?_
  refine kl_as rfl ?_
  refine kl_nil (kq_code ?_)
  refine kc_block ?_
  refine kc_loopL (A := Nat × Int × Int × List (List Int) × Hp) (fun zz => (zz.1 ≤ xs.length) ∧ (zz.2.2.1 = (zz.1 : Int) ∧ 0 ≤ zz.2.1 ∧ zz.2.1 < (zz.1 : Int) ∧ DelI p xs zz.2.2.2.1 zz.2.1.toNat zz.1) ∧ OwnL 22 1 zz.2.2.2.2 Ks RowV vs zz.2.2.2.1) (fun zz => xs.length - zz.1) (fun zz => [zz.2.2.2.2]) (fun zz => [(5, .int .i64 zz.2.1), (6, .int .i64 zz.2.2.1)]) ((Int.toNat (indexBy p xs) + 1), (indexBy p xs), ((indexBy p xs) + (1 : Int)), xs, Hs) (pc 0 rfl (pc 1 rfl (pc 4 rfl pn))) (pc 5 rfl (pc 6 rfl pn)) rfl ⟨(by omega), ⟨by dsimp only; omega, hd0.1, by dsimp only; omega, hd0.2.2⟩, os⟩ ?_
  rintro ⟨j, i, z, ys, H6⟩ hJ9
  obtain ⟨hk4, hi5, o7⟩ : (j ≤ xs.length) ∧ (z = (j : Int) ∧ 0 ≤ i ∧ i < (j : Int) ∧ DelI p xs ys i.toNat j) ∧ OwnL 22 1 H6 Ks RowV vs ys := hJ9
  change KC _ _ (_) [H6] _ ([(5, .int .i64 i), (6, .int .i64 z)] ++ _)
  have hz := hi5.1
  have hyl := hi5.2.2.2.l
  refine kc_seq ?_
  refine kc_seq (kc_region ?_)
  refine kl_mv rfl ?_
  refine kl_mv rfl ?_
  refine kl_lenL rfl o7 (fun l10 => ?_)
  refine kl_lss rfl rfl ?_
  refine kl_nil (kq_code ?_)
  refine kc_if rfl (fun c11 => ?_) (fun c11 => ?_)
  ·skip
   refine kc_skipQ ?_
   refine kq_code ?_
   refine kc_seq ?_
   refine kc_block ?_
   refine kc_seq (kc_region ?_)
   refine kl_mv rfl ?_
   refine kl_mv rfl ?_
   refine kl_ixL rfl rfl (by assumption) (by (first | omega | (have := hi5.2.2.2.l; have := hi5.2.2.2.ij; omega))) (by (first | omega | (have := hi5.2.2.2.l; have := hi5.2.2.2.ij; omega))) (fun p12 q13 => ?_)
   refine kl_ldLR rfl (by assumption) (by assumption) (by (first | omega | (have := hi5.2.2.2.l; have := hi5.2.2.2.ij; omega))) (fun u14 h15 => ?_)
   refine kl_as rfl ?_
   refine kl_nil (kq_code (kc_seq (kc_region ?_)))
   refine kl_mv rfl ?_
   refine kl_mv rfl ?_
   refine kl_callP rfl rfl (hp _ _ (ys.getD z.toNat []) (by rw [show z.toNat = j from by omega, hi5.2.2.2.at (by omega)]; exact getD_mem (by omega)) (by assumption)) ?_
   refine kl_not rfl ?_
   refine kl_nil (kq_code ?_)
   refine kc_cond rfl (fun c16 => ?_) (fun c16 => ?_)
   ·skip
    have c16r := c16
    try simp only [Bool.not_eq_true', Bool.not_eq_false', Bool.not_true, Bool.not_false, decide_eq_true_eq, decide_eq_false_iff_not, Bool.and_eq_true, Bool.or_eq_false_iff] at c16
    refine kc_seq (kc_region ?_)
    refine kl_mv rfl ?_
    refine kl_mv rfl ?_
    refine kl_mv rfl ?_
    refine kl_ixL rfl rfl (by assumption) (by (first | omega | (have := hi5.2.2.2.l; have := hi5.2.2.2.ij; omega))) (by (first | omega | (have := hi5.2.2.2.l; have := hi5.2.2.2.ij; omega))) (fun p17 q18 => ?_)
    refine kl_stL (ys.getD z.toNat []) rfl rfl (by assumption) o7 (by (first | omega | (have := hi5.2.2.2.l; have := hi5.2.2.2.ij; omega))) ⟨_, rfl, (by assumption)⟩ (Sl.oneCell (by assumption)) (Sl.cells (by assumption)) (fun H19 o20 f21 => ?_)
    refine kl_chg [H19] rfl ?_
    refine kl_nil (kq_code ?_)
    refine kc_region ?_
    refine kl_mv rfl ?_
    refine kl_add rfl rfl (by omega) ?_
    refine kl_as rfl ?_
    refine kl_nil (kq_code ?_)
    refine kc_region ?_
    refine kl_mv rfl ?_
    refine kl_add rfl rfl (by omega) ?_
    refine kl_as rfl ?_
    refine kl_nil ?_
    refine kq_take [H19] ?_
    refine kq_roundL ((j + 1), (i + (1 : Int)), (z + (1 : Int)), (ys.set i.toNat (ys.getD z.toNat [])), H19) (by omega) (⟨by omega, (by first | exact ⟨by dsimp only; omega, by dsimp only; omega, by dsimp only; omega, (by rw [show (i + 1).toNat = i.toNat + 1 from by omega]; have h9 := hi5.2.2.2.keep (by omega) (by rw [show j = z.toNat from by omega]; assumption); rw [show j = z.toNat from by omega] at h9 ⊢; exact h9)⟩ | exact ⟨by dsimp only; omega, by dsimp only; omega, by dsimp only; omega, hi5.2.2.2.skip (by omega) (by rw [show j = z.toNat from by omega]; assumption)⟩), o20⟩) (pc 5 rfl (pc 6 rfl pn)) (pc 0 rfl (pc 1 rfl (pc 4 rfl pn))) rfl (List.Sublist.refl _)
   ·skip
    have c16r := c16
    try simp only [Bool.not_eq_true', Bool.not_eq_false', Bool.not_true, Bool.not_false, decide_eq_true_eq, decide_eq_false_iff_not, Bool.and_eq_true, Bool.or_eq_false_iff] at c16
    refine kc_skipQ ?_
    refine kq_code ?_
    refine kc_region ?_
    refine kl_mv rfl ?_
    refine kl_add rfl rfl (by omega) ?_
    refine kl_as rfl ?_
    refine kl_nil ?_
    refine kq_take [H6] ?_
    refine kq_roundL ((j + 1), i, (z + (1 : Int)), ys, H6) (by omega) (⟨by omega, (by first | exact ⟨by dsimp only; omega, by dsimp only; omega, by dsimp only; omega, (by rw [show (i + 1).toNat = i.toNat + 1 from by omega]; have h9 := hi5.2.2.2.keep (by omega) (by rw [show j = z.toNat from by omega]; assumption); rw [show j = z.toNat from by omega] at h9 ⊢; exact h9)⟩ | exact ⟨by dsimp only; omega, by dsimp only; omega, by dsimp only; omega, hi5.2.2.2.skip (by omega) (by rw [show j = z.toNat from by omega]; assumption)⟩), o7⟩) (pc 5 rfl (pc 6 rfl pn)) (pc 0 rfl (pc 1 rfl (pc 4 rfl pn))) rfl (List.Sublist.refl _)
  ·skip
   refine kc_exit ?_
   refine kq_code ?_
   refine kc_seq (kc_region ?_)
   refine kl_mv rfl ?_
   refine kl_mv rfl ?_
   have e25 : i = (((Int.toNat i) : Nat) : Int) := by omega
   refine kl_tail (j := (Int.toNat i)) rfl (by rw [← e25]; rfl) o7 (by have := hi5.2.2.2.l; omega) (by (have := hi5.2.2.2.l; have := hi5.2.2.2.ij; omega)) (fun u23 h24 => ?_)
   refine kl_clrT ([] : List Int) rfl h24 o7 (by have := hi5.2.2.2.l; omega) (by (have := hi5.2.2.2.l; have := hi5.2.2.2.ij; omega)) rfl ⟨_, rfl, Sl.nil⟩ rfl (fun H26 o27 f28 => ?_)
   refine kl_nil (kq_code (kc_seq (kc_region ?_)))
   refine kl_mv rfl ?_
   refine kl_mv rfl ?_
   have e32 : i = (((Int.toNat i) : Nat) : Int) := by first | omega | (simp only [List.length_append, List.length_cons, List.length_nil]; omega)
   refine kl_slTakeL (i := (Int.toNat i)) rfl (by rw [← e32]; rfl) o27 (by (have := hi5.2.2.2.l; have := hi5.2.2.2.ij; simp; omega)) (fun u30 o31 => ?_)
   refine kl_as rfl ?_
   refine kl_nil (kq_code ?_)
   refine kc_ret ?_
   exact kq_retT rfl rfl [H26] [] noHp frn (fr_no _) ⟨H26, rfl, rfl, OwnL.cast (by have h9 := hi5.2.2.2; rw [List.take_append_of_le_length (by simp; omega), List.take_take, Nat.min_self]; exact h9.fin (by omega)) o31⟩
end Go.Proofs.Ytbbphbihgikmdaa
