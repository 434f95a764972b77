/- Walks of functions of the program: each returns what the plain function gives. Conditions: those that each statement names. -/
import Derived.Test.YtidllhcfcmjggaaGreatWswin
import Derived.Test.YtidllhcfcmjggaaGreatWwin
import Derived.Test.YtidllhcfcmjggaaGreatWgame
import Derived.Test.YtidllhcfcmjggaaGreatWclip
import Derived.Test.YtidllhcfcmjggaaGreatWfilt
import Derived.Test.YtidllhcfcmjggaaGreatWnx
import Derived.Test.YtidllhcfcmjggaaGreatWgm
import Derived.Test.YtidllhcfcmjggaaGreatClr
import Derived.Test.YtidllhcfcmjggaaGreatMap2
import Derived.Test.YtidllhcfcmjggaaGreatPureSt
namespace Go.Proofs.YtidllhcfcmjggaaGreat
open Go
set_option linter.unusedSimpArgs false
set_option linter.unusedVariables false
theorem cloneR_ok {Hxs : Hp} {vxs : Value} (xs : List (List Int)) (hb : xs.length ≤ 1048576) (hxs : Rows Hxs vxs xs) : Spec Tryz.prog 57 [vxs] [Hxs] ((fun Hq vq => OwnL 23 1 Hq Hxs RowV vq xs)) := by
 refine spec_of Tryz.func57 rfl rfl rfl (fun B => ?_)
 refine kc_seq (kc_region ?_)
 refine kl_as rfl ?_
 refine kl_nil (kq_code ?_)
 refine kc_seq ?_
 refine kc_seq (kc_region ?_)
 refine kl_mv rfl ?_
 refine kl_eqlnilX rfl rfl (by assumption) (fun bn nn nx => ?_)
 refine kl_nil (kq_code ?_)
 refine kc_cond rfl (fun c3 => ?_) (fun c3 => ?_)
 ·skip
  have c3r := c3
  try simp only [Bool.not_eq_true', Bool.not_eq_false', Bool.not_true, Bool.not_false, decide_eq_true_eq, decide_eq_false_iff_not, Bool.and_eq_true, Bool.or_eq_false_iff] at c3
  refine kc_seq (kc_region ?_)
  refine kl_as rfl ?_
  refine kl_nil (kq_code ?_)
  refine kc_ret ?_
  exact kq_ret rfl rfl noHp (fr_no _) (by rw [nn (by assumption)]; exact OwnL.nil)
 ·skip
  have c3r := c3
  try simp only [Bool.not_eq_true', Bool.not_eq_false', Bool.not_true, Bool.not_false, decide_eq_true_eq, decide_eq_false_iff_not, Bool.and_eq_true, Bool.or_eq_false_iff] at c3
  refine kc_skipQ ?_
  refine kq_code ?_
  refine kc_seq (kc_region ?_)
  refine kl_bs0k (K := Hxs) RowV rfl (fun v4 H5 f6 o7 => ?_)
  refine kl_mv rfl ?_
  refine kl_apS rfl rfl o7 (by assumption) (fun _ _ h => h) (by simp; omega) (by decide) (fun v8 H9 o10 f11 => ?_)
  have f12 := f11 B f6 (Nat.le_refl _)
  refine kl_as rfl ?_
  refine kl_nil (kq_code ?_)
  refine kc_ret ?_
  exact kq_ret rfl rfl H9 f12 o10
theorem delF_ok {Hs Ks : Hp} {vs : Value} {gp : Nat} {capsp : Array Value} {imp : List Hp} [FnC Tryz.prog gp] (xs : List (List Int)) (p : List Int → Bool) (h0 : 0 < xs.length) (os : OwnL 23 1 Hs Ks RowV vs xs)
  (hp : ∀ (H : Hp) (u : Value) (r : List Int), r ∈ xs → Ints H u r → SpecP Tryz.prog gp (u :: capsp.toList) (H :: imp) (.bool (p r))) : SpecT Tryz.prog 56 [vs, .func (.func gp) #[] capsp] [Hs] (Ks :: imp) (fun vq L1 Ln _ => ∃ Hq, L1 = [Hq] ∧ Ln = [] ∧ OwnL 23 1 Hq Ks RowV vq (xs.filter (fun r => !(p r)))) := by
 have hlen := os.len
 refine specT_of Tryz.func56 rfl rfl rfl (fun B => ?_)
 refine kc_seq (kc_region ?_)
 refine kl_as rfl ?_
 refine kl_nil (kq_code (kc_seq (kc_region ?_)))
 refine kl_mv rfl ?_
 refine kl_mv rfl ?_
 refine kl_cmp Hs Ks (fun c1 => ?_)
 have h2 := OwnL.rowsK os c1
 refine kl_callP rfl rfl (ixf_row_ok xs p (by assumption) hp) ?_
 refine kl_as rfl ?_
 refine kl_nil (kq_code ?_)
 refine kc_seq ?_
 refine kc_seq (kc_region ?_)
 refine kl_mv rfl ?_
 refine kl_eql rfl rfl ?_
 refine kl_nil (kq_code ?_)
 refine kc_if rfl (fun c3 => ?_) (fun c3 => ?_)
 ·skip
  refine kc_seq (kc_region ?_)
  refine kl_mv rfl ?_
  refine kl_as rfl ?_
  refine kl_nil (kq_code ?_)
  refine kc_ret ?_
  exact kq_retT rfl rfl [Hs] [] noHp frn (fr_no _) ⟨Hs, rfl, rfl, OwnL.cast (delI_none (by assumption)) os⟩
 ·skip
  have hd0 := delI_0 c3
  refine kc_skipQ ?_
  refine kq_code ?_
  refine kc_seq ?_
  refine kc_seq (kc_region ?_)
  refine kl_mv rfl ?_
  refine kl_add rfl rfl (by omega) ?_
  refine kl_as rfl ?_
  refine kl_nil (kq_code ?_)
  refine kc_block ?_
  refine kc_loopL (A := Nat × Int × Int × List (List Int) × Hp) (fun zz => (zz.1 ≤ xs.length) ∧ (zz.2.2.1 = (zz.1 : Int) ∧ 0 ≤ zz.2.1 ∧ zz.2.1 < (zz.1 : Int) ∧ DelI p xs zz.2.2.2.1 zz.2.1.toNat zz.1) ∧ OwnL 23 1 zz.2.2.2.2 Ks RowV vs zz.2.2.2.1) (fun zz => xs.length - zz.1) (fun zz => [zz.2.2.2.2]) (fun zz => [(5, .int .i64 zz.2.1), (6, .int .i64 zz.2.2.1)]) ((Int.toNat (indexBy p xs) + 1), (indexBy p xs), ((indexBy p xs) + (1 : Int)), xs, Hs) (pc 0 rfl (pc 1 rfl (pc 4 rfl pn))) (pc 5 rfl (pc 6 rfl pn)) rfl ⟨(by omega), ⟨by dsimp only; omega, hd0.1, by dsimp only; omega, hd0.2.2⟩, os⟩ ?_
  rintro ⟨j, i, z, ys, H6⟩ hJ9
  obtain ⟨hk4, hi5, o7⟩ : (j ≤ xs.length) ∧ (z = (j : Int) ∧ 0 ≤ i ∧ i < (j : Int) ∧ DelI p xs ys i.toNat j) ∧ OwnL 23 1 H6 Ks RowV vs ys := hJ9
  change KC _ _ (_) [H6] _ ([(5, .int .i64 i), (6, .int .i64 z)] ++ _)
  have hz := hi5.1
  have hyl := hi5.2.2.2.l
  refine kc_seq ?_
  refine kc_seq (kc_region ?_)
  refine kl_mv rfl ?_
  refine kl_mv rfl ?_
  refine kl_lenL rfl o7 (fun l10 => ?_)
  refine kl_lss rfl rfl ?_
  refine kl_nil (kq_code ?_)
  refine kc_if rfl (fun c11 => ?_) (fun c11 => ?_)
  ·skip
   refine kc_skipQ ?_
   refine kq_code ?_
   refine kc_seq ?_
   refine kc_block ?_
   refine kc_seq (kc_region ?_)
   refine kl_mv rfl ?_
   refine kl_mv rfl ?_
   refine kl_ixL rfl rfl (by assumption) (by (first | omega | (have := hi5.2.2.2.l; have := hi5.2.2.2.ij; omega))) (by (first | omega | (have := hi5.2.2.2.l; have := hi5.2.2.2.ij; omega))) (fun p12 q13 => ?_)
   refine kl_ldLR rfl (by assumption) (by assumption) (by (first | omega | (have := hi5.2.2.2.l; have := hi5.2.2.2.ij; omega))) (fun u14 h15 => ?_)
   refine kl_as rfl ?_
   refine kl_nil (kq_code (kc_seq (kc_region ?_)))
   refine kl_mv rfl ?_
   refine kl_mv rfl ?_
   refine kl_callP rfl rfl (hp _ _ (ys.getD z.toNat []) (by rw [show z.toNat = j from by omega, hi5.2.2.2.at (by omega)]; exact getD_mem (by omega)) (by assumption)) ?_
   refine kl_not rfl ?_
   refine kl_nil (kq_code ?_)
   refine kc_cond rfl (fun c16 => ?_) (fun c16 => ?_)
   ·skip
    have c16r := c16
    try simp only [Bool.not_eq_true', Bool.not_eq_false', Bool.not_true, Bool.not_false, decide_eq_true_eq, decide_eq_false_iff_not, Bool.and_eq_true, Bool.or_eq_false_iff] at c16
    refine kc_seq (kc_region ?_)
    refine kl_mv rfl ?_
    refine kl_mv rfl ?_
    refine kl_mv rfl ?_
    refine kl_ixL rfl rfl (by assumption) (by (first | omega | (have := hi5.2.2.2.l; have := hi5.2.2.2.ij; omega))) (by (first | omega | (have := hi5.2.2.2.l; have := hi5.2.2.2.ij; omega))) (fun p17 q18 => ?_)
    refine kl_stL (ys.getD z.toNat []) rfl rfl (by assumption) o7 (by (first | omega | (have := hi5.2.2.2.l; have := hi5.2.2.2.ij; omega))) ⟨_, rfl, (by assumption)⟩ (Sl.oneCell (by assumption)) (Sl.cells (by assumption)) (fun H19 o20 f21 => ?_)
    refine kl_chg [H19] rfl ?_
    refine kl_nil (kq_code ?_)
    refine kc_region ?_
    refine kl_mv rfl ?_
    refine kl_add rfl rfl (by omega) ?_
    refine kl_as rfl ?_
    refine kl_nil (kq_code ?_)
    refine kc_region ?_
    refine kl_mv rfl ?_
    refine kl_add rfl rfl (by omega) ?_
    refine kl_as rfl ?_
    refine kl_nil ?_
    refine kq_take [H19] ?_
    refine kq_roundL ((j + 1), (i + (1 : Int)), (z + (1 : Int)), (ys.set i.toNat (ys.getD z.toNat [])), H19) (by omega) (⟨by omega, (by first | exact ⟨by dsimp only; omega, by dsimp only; omega, by dsimp only; omega, (by rw [show (i + 1).toNat = i.toNat + 1 from by omega]; have h9 := hi5.2.2.2.keep (by omega) (by rw [show j = z.toNat from by omega]; assumption); rw [show j = z.toNat from by omega] at h9 ⊢; exact h9)⟩ | exact ⟨by dsimp only; omega, by dsimp only; omega, by dsimp only; omega, hi5.2.2.2.skip (by omega) (by rw [show j = z.toNat from by omega]; assumption)⟩), o20⟩) (pc 5 rfl (pc 6 rfl pn)) (pc 0 rfl (pc 1 rfl (pc 4 rfl pn))) rfl (List.Sublist.refl _)
   ·skip
    have c16r := c16
    try simp only [Bool.not_eq_true', Bool.not_eq_false', Bool.not_true, Bool.not_false, decide_eq_true_eq, decide_eq_false_iff_not, Bool.and_eq_true, Bool.or_eq_false_iff] at c16
    refine kc_skipQ ?_
    refine kq_code ?_
    refine kc_region ?_
    refine kl_mv rfl ?_
    refine kl_add rfl rfl (by omega) ?_
    refine kl_as rfl ?_
    refine kl_nil ?_
    refine kq_take [H6] ?_
    refine kq_roundL ((j + 1), i, (z + (1 : Int)), ys, H6) (by omega) (⟨by omega, (by first | exact ⟨by dsimp only; omega, by dsimp only; omega, by dsimp only; omega, (by rw [show (i + 1).toNat = i.toNat + 1 from by omega]; have h9 := hi5.2.2.2.keep (by omega) (by rw [show j = z.toNat from by omega]; assumption); rw [show j = z.toNat from by omega] at h9 ⊢; exact h9)⟩ | exact ⟨by dsimp only; omega, by dsimp only; omega, by dsimp only; omega, hi5.2.2.2.skip (by omega) (by rw [show j = z.toNat from by omega]; assumption)⟩), o7⟩) (pc 5 rfl (pc 6 rfl pn)) (pc 0 rfl (pc 1 rfl (pc 4 rfl pn))) rfl (List.Sublist.refl _)
  ·skip
   refine kc_exit ?_
   refine kq_code ?_
   refine kc_seq (kc_region ?_)
   refine kl_mv rfl ?_
   refine kl_mv rfl ?_
   have e25 : i = (((Int.toNat i) : Nat) : Int) := by omega
   refine kl_tail (j := (Int.toNat i)) rfl (by rw [← e25]; rfl) o7 (by have := hi5.2.2.2.l; omega) (by (have := hi5.2.2.2.l; have := hi5.2.2.2.ij; omega)) (fun u23 h24 => ?_)
   refine kl_clrT ([] : List Int) rfl h24 o7 (by have := hi5.2.2.2.l; omega) (by (have := hi5.2.2.2.l; have := hi5.2.2.2.ij; omega)) rfl ⟨_, rfl, Sl.nil⟩ rfl (fun H26 o27 f28 => ?_)
   refine kl_nil (kq_code (kc_seq (kc_region ?_)))
   refine kl_mv rfl ?_
   refine kl_mv rfl ?_
   have e32 : i = (((Int.toNat i) : Nat) : Int) := by first | omega | (simp only [List.length_append, List.length_cons, List.length_nil]; omega)
   refine kl_slTakeL (i := (Int.toNat i)) rfl (by rw [← e32]; rfl) o27 (by (have := hi5.2.2.2.l; have := hi5.2.2.2.ij; simp; omega)) (fun u30 o31 => ?_)
   refine kl_as rfl ?_
   refine kl_nil (kq_code ?_)
   refine kc_ret ?_
   exact kq_retT rfl rfl [H26] [] noHp frn (fr_no _) ⟨H26, rfl, rfl, OwnL.cast (by have h9 := hi5.2.2.2; rw [List.take_append_of_le_length (by simp; omega), List.take_take, Nat.min_self]; exact h9.fin (by omega)) o31⟩
theorem follows1_ok {Hr : Hp} {vr : Value} {Hpi : Hp} {ptrpi : Value} {Hpv : Hp} {ptrpv : Value} (r : List Int) (i : Int) (v : Int) (hr : 0 ≤ i ∧ i < (r.length : Int)) (hr : Ints Hr vr r) (api : At Hpi ptrpi [.int .i64 i]) (apv : At Hpv ptrpv [.int .i64 v]) : SpecP Tryz.prog 58 [vr, ptrpi, ptrpv] [Hr, Hpi, Hpv] (.bool (decide (r.getD i.toNat 0 ≠ v))) := by
 refine spec_of Tryz.func58 rfl rfl rfl (fun B => ?_)
 refine kc_seq (kc_region ?_)
 refine kl_as rfl ?_
 refine kl_nil (kq_code ?_)
 refine kc_seq ?_
 refine kc_draw 7 [true, true, true, true, true, true, true] (by kernel_rfl) (by kernel_rfl) ?_
 refine kl_mv rfl ?_
 refine kl_ld rfl (by assumption) ?_
 refine kl_ixI rfl rfl (by assumption) (by omega) (by omega) (fun p1 a2 => ?_)
 refine kl_ld rfl (by assumption) ?_
 refine kl_ld rfl (by assumption) ?_
 refine kl_neq rfl rfl ?_
 refine kl_as rfl ?_
 refine kl_nil (kq_code ?_)
 refine kc_ret ?_
 refine kq_retP rfl rfl (congrArg Value.bool ?_)
 rfl
abbrev followsSt (k : Nat) : Prop := ∀ {Hmd : Hp} {vmd : Value} {Hmc : Hp} {vmc : Value} {Hfa : Hp} {vfa : Value} {Hl : Hp} {vl : Value} (m : Mod) (fa : List Bool) (l : List (List Int)) (i : Int) (hM : MOk m) (hf : fa.length = m.doms.length) (hi : 0 ≤ i ∧ i + (k : Int) = m.doms.length) (hP : ∀ x ∈ l, x.length = m.doms.length ∧ Vals x) (hne : 0 < l.length) (hb : l.length ≤ 1048576) (hmd : Ints Hmd vmd m.doms) (hmc : Cons Hmc vmc m.cons) (hfa : Bools Hfa vfa fa) (hl : Rows Hl vl l), SpecP Tryz.prog 25 [.agg #[vmd, vmc], vfa, vl, .int .i64 i] [Hmd, Hmc, Hfa, Hl] (.bool (folB m fa k l))
theorem follows_step (k : Nat) (ih : ∀ j, j < k → followsSt j) : followsSt k := by
 intro Hmd vmd Hmc vmc Hfa vfa Hl vl m fa l i hM hf hi hP hne hb hmd hmc hfa hl
 refine spec_of Tryz.func25 rfl rfl rfl (fun B => ?_)
 refine kc_seq (kc_region ?_)
 refine kl_box rfl rfl (fun p1 H2 f3 a4 => ?_)
 refine kl_box rfl rfl (fun p5 H6 f7 a8 => ?_)
 refine kl_as rfl ?_
 refine kl_nil (kq_code ?_)
 refine kc_seq ?_
 refine kc_seq (kc_region ?_)
 refine kl_ld rfl (by assumption) ?_
 refine kl_fd rfl (by assumption) (fun p9 a10 => ?_)
 refine kl_ld rfl (by assumption) ?_
 refine kl_len rfl (by assumption) (fun l11 => ?_)
 refine kl_eql rfl rfl ?_
 refine kl_nil (kq_code ?_)
 refine kc_if rfl (fun c12 => ?_) (fun c12 => ?_)
 ·skip
  have hk0 : k = 0 := by omega
  subst hk0
  refine kc_seq (kc_region ?_)
  refine kl_mv rfl ?_
  refine kl_len rfl (by assumption) (fun l13 => ?_)
  refine kl_eql rfl rfl ?_
  refine kl_as rfl ?_
  refine kl_nil (kq_code ?_)
  refine kc_ret ?_
  refine kq_retP rfl rfl (congrArg Value.bool ?_)
  rfl
 ·skip
  obtain ⟨j, rfl⟩ : ∃ j, k = j + 1 := ⟨k - 1, by omega⟩
  have hn := hM.n
  have hii : Int.toNat i = m.doms.length - (j + 1) := by omega
  refine kc_skipQ ?_
  refine kq_code ?_
  refine kc_seq (kc_region ?_)
  refine kl_as rfl ?_
  refine kl_nil (kq_code ?_)
  refine kc_seq ?_
  refine kc_seq (kc_region ?_)
  refine kl_mv rfl ?_
  refine kl_len rfl (by assumption) (fun l14 => ?_)
  refine kl_mv rfl ?_
  refine kl_nil (kq_code ?_)
  refine kc_block ?_
  refine kc_loop0 (A := Nat × Int) (fun zz => (zz.1 ≤ l.length) ∧ (zz.2 = takM (l.take zz.1) i.toNat)) (fun zz => l.length - zz.1) (fun zz => [(25, .int .i64 (zz.1 : Int)), (9, .int .i64 zz.2)]) (0, (0 : Int)) (pc 1 rfl (pc 2 rfl (pc 4 rfl (pc 7 rfl (pc 8 rfl (pc 23 rfl (pc 24 rfl pn))))))) (pc 25 rfl (pc 9 rfl pn)) ⟨Nat.zero_le _, (takM_0 _).symm⟩ ?_
  rintro ⟨q, t⟩ hJ17
  obtain ⟨hk15, hi16⟩ : (q ≤ l.length) ∧ (t = takM (l.take q) i.toNat) := hJ17
  change KC _ _ (_) _ _ ([(25, .int .i64 (q : Int)), (9, .int .i64 t)] ++ _)
  refine kc_seq (kc_region ?_)
  refine kl_lss rfl rfl ?_
  refine kl_nil (kq_code ?_)
  refine kc_seq ?_
  refine kc_if rfl (fun c18 => ?_) (fun c18 => ?_)
  ·skip
   have hv := (by have h8 := hP _ (getD_mem (d := []) (by omega : q < l.length)); exact h8.2.at (k := i.toNat) (by omega))
   have hrl := (hP _ (getD_mem (d := []) (by omega : q < l.length))).1
   have hsl := shl_le hv
   refine kc_skipQ ?_
   refine kq_code ?_
   refine kc_seq ?_
   refine kc_block ?_
   refine kc_seq (kc_region ?_)
   refine kl_inS rfl rfl (by assumption) (by omega) (fun p19 u21 h22 a20 => ?_)
   refine kl_ld rfl (by assumption) ?_
   refine kl_as rfl ?_
   refine kl_nil (kq_code ?_)
   refine kc_region ?_
   refine kl_mv rfl ?_
   refine kl_mv rfl ?_
   refine kl_ld rfl (by assumption) ?_
   refine kl_ixI rfl rfl (by assumption) (by omega) (by omega) (fun p23 a24 => ?_)
   refine kl_ld rfl (by assumption) ?_
   refine kl_shl rfl rfl (by omega) ?_
   refine kl_or rfl rfl ?_
   refine kl_as rfl ?_
   refine kl_nil (kq_code ?_)
   refine kc_region ?_
   refine kl_inc rfl rfl (by omega) ?_
   refine kl_mv rfl ?_
   refine kl_nil ?_
   refine kq_round0 ((q + 1), (ior t (ishl (1 : Int) ((l.getD q []).getD i.toNat 0)))) (by omega) (⟨by omega, (takM_ior (by omega) hi16 hv)⟩) (pc 25 rfl (pc 9 rfl pn)) (pc 1 rfl (pc 2 rfl (pc 4 rfl (pc 7 rfl (pc 8 rfl (pc 23 rfl (pc 24 rfl pn))))))) (List.Sublist.refl _)
  ·skip
   refine kc_exit ?_
   refine kq_code ?_
   refine kc_seq ?_
   refine kc_seq (kc_region ?_)
   refine kl_mv rfl ?_
   refine kl_ld rfl (by assumption) ?_
   refine kl_ixB rfl rfl (by assumption) (by omega) (by omega) (fun p25 a26 => ?_)
   refine kl_ld rfl (by assumption) ?_
   refine kl_mv rfl ?_
   refine kl_join 8 49 (.bool ((fa.getD i.toNat false) && decide (t ≠ (m.doms.getD i.toNat 0)))) (pc 1 rfl (pc 2 rfl (pc 4 rfl (pc 7 rfl (pc 8 rfl (pc 9 rfl (pc 41 rfl pn))))))) (fun J32 => ?_) ?_
   ·rcases Bool.eq_false_or_eq_true (fa.getD i.toNat false) with g27 | g27
    ·skip
     have g27p := g27
     try simp only [Bool.not_eq_true', Bool.not_eq_false', decide_eq_true_eq, decide_eq_false_iff_not, Bool.and_eq_true, Bool.or_eq_false_iff, withinB_iff] at g27p
     refine kl_gT rfl rfl g27 ?_
     refine kl_mv rfl ?_
     refine kl_gT rfl rfl g27 ?_
     refine kl_fd rfl (by assumption) (fun p28 a29 => ?_)
     refine kl_gT rfl rfl g27 ?_
     refine kl_ld rfl (by assumption) ?_
     refine kl_gT rfl rfl g27 ?_
     refine kl_ld rfl (by assumption) ?_
     refine kl_gT rfl rfl g27 ?_
     refine kl_ixI rfl rfl (by assumption) (by omega) (by omega) (fun p30 a31 => ?_)
     refine kl_gT rfl rfl g27 ?_
     refine kl_ld rfl (by assumption) ?_
     refine kl_gT rfl rfl g27 ?_
     refine kl_neq rfl rfl ?_
     refine kl_andT rfl rfl g27 ?_
     exact J32 _ (pc 49 rfl (pc 1 rfl (pc 2 rfl (pc 4 rfl (pc 7 rfl (pc 8 rfl (pc 9 rfl (pc 41 rfl pn))))))))
    ·skip
     refine kl_gF rfl rfl g27 ?_
     refine kl_gF rfl rfl g27 ?_
     refine kl_gF rfl rfl g27 ?_
     refine kl_gF rfl rfl g27 ?_
     refine kl_gF rfl rfl g27 ?_
     refine kl_gF rfl rfl g27 ?_
     refine kl_gF rfl rfl g27 ?_
     refine kl_andF (decide (t ≠ (m.doms.getD i.toNat 0))) rfl rfl g27 ?_
     exact J32 _ (pc 49 rfl (pc 1 rfl (pc 2 rfl (pc 4 rfl (pc 7 rfl (pc 8 rfl (pc 9 rfl (pc 41 rfl pn))))))))
   refine kl_mv rfl ?_
   refine kl_join 11 61 (.bool (((fa.getD i.toNat false) && decide (t ≠ (m.doms.getD i.toNat 0))) || (!(fa.getD i.toNat false) && decide ((popI t) ≠ (1 : Int))))) (pc 1 rfl (pc 2 rfl (pc 4 rfl (pc 7 rfl (pc 8 rfl (pc 9 rfl (pc 50 rfl pn))))))) (fun J38 => ?_) ?_
   ·rcases Bool.eq_false_or_eq_true ((fa.getD i.toNat false) && decide (t ≠ (m.doms.getD i.toNat 0))) with g33 | g33
    ·skip
     refine kl_gF rfl rfl g33 ?_
     refine kl_gF rfl rfl g33 ?_
     refine kl_gF rfl rfl g33 ?_
     refine kl_gF rfl rfl g33 ?_
     refine kl_gF rfl rfl g33 ?_
     refine kl_gF rfl rfl g33 ?_
     refine kl_gU rfl rfl ?_
     refine kl_gU rfl rfl ?_
     refine kl_gU rfl rfl ?_
     refine kl_gF rfl rfl g33 ?_
     refine kl_orT (!(fa.getD i.toNat false) && decide ((popI t) ≠ (1 : Int))) rfl rfl g33 ?_
     exact J38 _ (pc 61 rfl (pc 1 rfl (pc 2 rfl (pc 4 rfl (pc 7 rfl (pc 8 rfl (pc 9 rfl (pc 50 rfl pn))))))))
    ·skip
     have g33p := g33
     try simp only [Bool.not_eq_true', Bool.not_eq_false', decide_eq_true_eq, decide_eq_false_iff_not, Bool.and_eq_true, Bool.or_eq_false_iff, withinB_iff] at g33p
     refine kl_gT rfl rfl g33 ?_
     refine kl_mv rfl ?_
     refine kl_gT rfl rfl g33 ?_
     refine kl_ld rfl (by assumption) ?_
     refine kl_gT rfl rfl g33 ?_
     refine kl_ixB rfl rfl (by assumption) (by omega) (by omega) (fun p34 a35 => ?_)
     refine kl_gT rfl rfl g33 ?_
     refine kl_ld rfl (by assumption) ?_
     refine kl_gT rfl rfl g33 ?_
     refine kl_not rfl ?_
     refine kl_gT rfl rfl g33 ?_
     refine kl_mv rfl ?_
     refine kl_join 4 60 (.bool (!(fa.getD i.toNat false) && decide ((popI t) ≠ (1 : Int)))) (pc 1 rfl (pc 2 rfl (pc 4 rfl (pc 7 rfl (pc 8 rfl (pc 9 rfl (pc 50 rfl (pc 56 rfl pn)))))))) (fun J37 => ?_) ?_
     ·rcases Bool.eq_false_or_eq_true (!(fa.getD i.toNat false)) with g36 | g36
      ·skip
       have g36p := g36
       try simp only [Bool.not_eq_true', Bool.not_eq_false', decide_eq_true_eq, decide_eq_false_iff_not, Bool.and_eq_true, Bool.or_eq_false_iff, withinB_iff] at g36p
       refine kl_gT rfl rfl g36 ?_
       refine kl_mv rfl ?_
       refine kl_gT rfl rfl g36 ?_
       refine kl_callP rfl rfl (size_ok t (by rw [hi16]; exact takM_in _ _)) ?_
       refine kl_gT rfl rfl g36 ?_
       refine kl_neq rfl rfl ?_
       refine kl_gT rfl rfl g33 ?_
       refine kl_andT rfl rfl g36 ?_
       exact J37 _ (pc 60 rfl (pc 1 rfl (pc 2 rfl (pc 4 rfl (pc 7 rfl (pc 8 rfl (pc 9 rfl (pc 50 rfl (pc 56 rfl pn)))))))))
      ·skip
       refine kl_gF rfl rfl g36 ?_
       refine kl_gF rfl rfl g36 ?_
       refine kl_gF rfl rfl g36 ?_
       refine kl_gT rfl rfl g33 ?_
       refine kl_andF (decide ((popI t) ≠ (1 : Int))) rfl rfl g36 ?_
       exact J37 _ (pc 60 rfl (pc 1 rfl (pc 2 rfl (pc 4 rfl (pc 7 rfl (pc 8 rfl (pc 9 rfl (pc 50 rfl (pc 56 rfl pn)))))))))
     refine kl_orF rfl rfl g33 ?_
     exact J38 _ (pc 61 rfl (pc 1 rfl (pc 2 rfl (pc 4 rfl (pc 7 rfl (pc 8 rfl (pc 9 rfl (pc 50 rfl pn))))))))
   refine kl_nil (kq_code ?_)
   refine kc_cond rfl (fun c39 => ?_) (fun c39 => ?_)
   ·skip
    have c39r := c39
    try simp only [Bool.not_eq_true', Bool.not_eq_false', Bool.not_true, Bool.not_false, decide_eq_true_eq, decide_eq_false_iff_not, Bool.and_eq_true, Bool.or_eq_false_iff] at c39
    refine kc_seq (kc_region ?_)
    refine kl_as rfl ?_
    refine kl_nil (kq_code ?_)
    refine kc_ret ?_
    refine kq_retP rfl rfl (congrArg Value.bool ?_)
    exact fol_no (t := t) hii (by rw [hi16, List.take_of_length_le (by omega)]) (by assumption)
   ·skip
    have c39r := c39
    try simp only [Bool.not_eq_true', Bool.not_eq_false', Bool.not_true, Bool.not_false, decide_eq_true_eq, decide_eq_false_iff_not, Bool.and_eq_true, Bool.or_eq_false_iff] at c39
    have ht : t = takM l i.toNat := (by rw [hi16, List.take_of_length_le (by omega)])
    have hcc := c39r
    refine kc_skipQ ?_
    refine kq_code ?_
    refine kc_seq ?_
    refine kc_seq (kc_region ?_)
    refine kl_mv rfl ?_
    refine kl_call rfl rfl (valuesOf_ok t (by rw [hi16]; exact takM_in _ _)) (fun v40 H41 f42 h43 => ?_)
    refine kl_len rfl (by assumption) (fun l44 => ?_)
    refine kl_mv rfl ?_
    refine kl_nil (kq_code ?_)
    refine kc_block ?_
    refine kc_loop0 (A := Nat) (fun zz => (zz ≤ (valsI t).length) ∧ (((valsI t).take zz).all (fun v => folB m fa j (l.filter (fun x => !(decide (x.getD i.toNat 0 ≠ v))))) = true)) (fun zz => (valsI t).length - zz) (fun zz => [(65, .int .i64 (zz : Int))]) (0) (pc 1 rfl (pc 2 rfl (pc 4 rfl (pc 7 rfl (pc 63 rfl (pc 64 rfl pn)))))) (pc 65 rfl pn) ⟨Nat.zero_le _, by simp⟩ ?_
    rintro q2 hJ47
    obtain ⟨hk45, hi46⟩ : (q2 ≤ (valsI t).length) ∧ (((valsI t).take q2).all (fun v => folB m fa j (l.filter (fun x => !(decide (x.getD i.toNat 0 ≠ v))))) = true) := hJ47
    change KC _ _ (_) _ _ ([(65, .int .i64 (q2 : Int))] ++ _)
    refine kc_seq (kc_region ?_)
    refine kl_lss rfl rfl ?_
    refine kl_nil (kq_code ?_)
    refine kc_seq ?_
    refine kc_if rfl (fun c48 => ?_) (fun c48 => ?_)
    ·skip
     have hnx := fol_ne ht (by omega : q2 < (valsI t).length)
     have hmv := valsI_mem (getD_mem (d := (0 : Int)) (by omega : q2 < (valsI t).length))
     refine kc_skipQ ?_
     refine kq_code ?_
     refine kc_seq ?_
     refine kc_block ?_
     refine kc_seq (kc_region ?_)
     refine kl_inI rfl rfl (by assumption) (by omega) (fun p49 a50 => ?_)
     refine kl_ld rfl (by assumption) ?_
     refine kl_alloc (cs := [.int .i64 (0 : Int)]) rfl (fun b51 hb52 => ?_)
     refine kl_stB rfl rfl rfl rfl rfl ?_
     refine kl_chg [sing b51 (.cells [.int .i64 ((valsI t).getD q2 0)].toArray 3 (0, 0))] rfl ?_
     refine kl_nil (kq_code (kc_seq (kc_region ?_)))
     refine kl_mv rfl ?_
     refine kl_callL rfl rfl (cloneR_ok l (by omega) (by assumption)) (fun v53 H54 f55 o56 => ?_)
     refine kl_frz (sing b51 (.cells [.int .i64 ((valsI t).getD q2 0)].toArray 3 (0, 0))) ?_
     have a57 : At (sing b51 (.cells [.int .i64 ((valsI t).getD q2 0)].toArray 3 (0, 0))) (.pointer (some ⟨b51, 0, none⟩)) [.int .i64 ((valsI t).getD q2 0)] := at_box
     refine kl_mkf rfl ?_
     refine kl_callT rfl rfl (delF_ok l (fun r => decide (r.getD (Int.toNat i) 0 ≠ ((valsI t).getD q2 0))) (by omega) o56 (fun _ _ r hm hu => follows1_ok r i ((valsI t).getD q2 0) (by have h8 := (hP r hm).1; omega) hu (by assumption) (by assumption))) (fun v58 L1 Ln K59 h60 g61 g62 => ?_)
     obtain ⟨H63, rfl, rfl, o64⟩ := h60
     refine kl_norm ?_
     refine kl_as rfl ?_
     refine kl_nil (kq_code (kc_seq (kc_region ?_)))
     refine kl_ldS rfl (by assumption) rfl ?_
     refine kl_mv rfl ?_
     refine kl_mv rfl ?_
     refine kl_ld rfl (by assumption) ?_
     refine kl_add rfl rfl (by omega) ?_
     refine kl_cmp H63 Hl (fun c65 => ?_)
     have h66 := OwnL.rowsK o64 c65
     refine kl_callP rfl rfl (ih j (by omega) m fa (l.filter (fun r => !(decide (r.getD (Int.toNat i) 0 ≠ ((valsI t).getD q2 0))))) (i + (1 : Int)) hM hf (by omega) (fun x hx => hP x (List.mem_filter.1 hx).1) hnx (Nat.le_trans (List.length_filter_le _ _) hb) (by assumption) (by assumption) (by assumption) (by assumption)) ?_
     refine kl_not rfl ?_
     refine kl_nil (kq_code ?_)
     refine kc_cond rfl (fun c67 => ?_) (fun c67 => ?_)
     ·skip
      have c67r := c67
      try simp only [Bool.not_eq_true', Bool.not_eq_false', Bool.not_true, Bool.not_false, decide_eq_true_eq, decide_eq_false_iff_not, Bool.and_eq_true, Bool.or_eq_false_iff] at c67
      refine kc_seq (kc_region ?_)
      refine kl_as rfl ?_
      refine kl_nil (kq_code ?_)
      refine kc_ret ?_
      refine kq_retP rfl rfl (congrArg Value.bool ?_)
      exact fol_at (q := q2) hii ht (by omega) (by assumption)
     ·skip
      have c67r := c67
      try simp only [Bool.not_eq_true', Bool.not_eq_false', Bool.not_true, Bool.not_false, decide_eq_true_eq, decide_eq_false_iff_not, Bool.and_eq_true, Bool.or_eq_false_iff] at c67
      refine kc_skipQ ?_
      refine kq_code ?_
      refine kc_region ?_
      refine kl_inc rfl rfl (by omega) ?_
      refine kl_mv rfl ?_
      refine kl_nil ?_
      refine kq_round0 ((q2 + 1)) (by omega) (⟨by omega, all_take_step (d := 0) (by omega) hi46 (by simpa using (by assumption : (!(folB m fa j (l.filter (fun r => !(decide (r.getD (Int.toNat i) 0 ≠ ((valsI t).getD q2 0))))))) = false))⟩) (pc 65 rfl pn) (pc 1 rfl (pc 2 rfl (pc 4 rfl (pc 7 rfl (pc 63 rfl (pc 64 rfl pn)))))) (.cons _ (List.Sublist.refl _))
    ·skip
     refine kc_exit ?_
     refine kq_code ?_
     refine kc_seq (kc_region ?_)
     refine kl_as rfl ?_
     refine kl_nil (kq_code ?_)
     refine kc_ret ?_
     refine kq_retP rfl rfl (congrArg Value.bool ?_)
     exact fol_yes (q := q2) hii ht hcc (by omega) hi46
theorem follows_ok (k : Nat) : followsSt k := by
 induction k using Nat.strongRecOn with
 | _ k ih => exact @follows_step k ih
theorem chkImp_ok {Hmd : Hp} {vmd : Value} {Hmc : Hp} {vmc : Value} {Hfa : Hp} {vfa : Value} {Hl : Hp} {vl : Value} (m : Mod) (fa : List Bool) (l : List (List Int)) (hb : l.length ≤ 1048576) (hmd : Ints Hmd vmd m.doms) (hmc : Cons Hmc vmc m.cons) (hfa : Bools Hfa vfa fa) (hl : Rows Hl vl l) : SpecP Tryz.prog 6 [.agg #[vmd, vmc], vfa, vl] [Hmd, Hmc, Hfa, Hl] (.bool (chkI m fa l)) := by
 refine spec_of Tryz.func6 rfl rfl rfl (fun B => ?_)
 refine kc_seq (kc_region ?_)
 refine kl_box rfl rfl (fun p1 H2 f3 a4 => ?_)
 refine kl_as rfl ?_
 refine kl_nil (kq_code ?_)
 refine kc_seq ?_
 refine kc_seq (kc_region ?_)
 refine kl_ldS rfl (by assumption) rfl ?_
 refine kl_mv rfl ?_
 refine kl_callP rfl rfl (gameOk_ok m fa (by assumption) (by assumption) (by assumption)) ?_
 refine kl_not rfl ?_
 refine kl_mv rfl ?_
 refine kl_join 4 17 (.bool (!(gOkB m fa) || decide ((l.length : Int) = (0 : Int)))) (pc 1 rfl (pc 2 rfl (pc 3 rfl (pc 6 rfl (pc 13 rfl pn))))) (fun J7 => ?_) ?_
 ·rcases Bool.eq_false_or_eq_true (!(gOkB m fa)) with g5 | g5
  ·skip
   refine kl_gF rfl rfl g5 ?_
   refine kl_gF rfl rfl g5 ?_
   refine kl_gF rfl rfl g5 ?_
   refine kl_orT (decide ((l.length : Int) = (0 : Int))) rfl rfl g5 ?_
   exact J7 _ (pc 17 rfl (pc 1 rfl (pc 2 rfl (pc 3 rfl (pc 6 rfl (pc 13 rfl pn))))))
  ·skip
   have g5p := g5
   try simp only [Bool.not_eq_true', Bool.not_eq_false', decide_eq_true_eq, decide_eq_false_iff_not, Bool.and_eq_true, Bool.or_eq_false_iff, withinB_iff] at g5p
   refine kl_gT rfl rfl g5 ?_
   refine kl_mv rfl ?_
   refine kl_gT rfl rfl g5 ?_
   refine kl_len rfl (by assumption) (fun l6 => ?_)
   refine kl_gT rfl rfl g5 ?_
   refine kl_eql rfl rfl ?_
   refine kl_orF rfl rfl g5 ?_
   exact J7 _ (pc 17 rfl (pc 1 rfl (pc 2 rfl (pc 3 rfl (pc 6 rfl (pc 13 rfl pn))))))
 refine kl_nil (kq_code ?_)
 refine kc_cond rfl (fun c8 => ?_) (fun c8 => ?_)
 ·skip
  have c8r := c8
  try simp only [Bool.not_eq_true', Bool.not_eq_false', Bool.not_true, Bool.not_false, decide_eq_true_eq, decide_eq_false_iff_not, Bool.and_eq_true, Bool.or_eq_false_iff] at c8
  refine kc_seq (kc_region ?_)
  refine kl_as rfl ?_
  refine kl_nil (kq_code ?_)
  refine kc_ret ?_
  refine kq_retP rfl rfl (congrArg Value.bool ?_)
  exact chkI_0 (by assumption)
 ·skip
  have c8r := c8
  try simp only [Bool.not_eq_true', Bool.not_eq_false', Bool.not_true, Bool.not_false, decide_eq_true_eq, decide_eq_false_iff_not, Bool.and_eq_true, Bool.or_eq_false_iff] at c8
  have hc0 := c8r
  obtain ⟨hg, hne, hM, hfl⟩ := chkI_ok hc0
  have hn := hM.n
  refine kc_skipQ ?_
  refine kq_code ?_
  refine kc_seq ?_
  refine kc_seq (kc_region ?_)
  refine kl_mv rfl ?_
  refine kl_len rfl (by assumption) (fun l9 => ?_)
  refine kl_mv rfl ?_
  refine kl_nil (kq_code ?_)
  refine kc_block ?_
  refine kc_loop0 (A := Nat) (fun zz => (zz ≤ l.length) ∧ (plTo (plI m l) zz = true)) (fun zz => l.length - zz) (fun zz => [(20, .int .i64 (zz : Int))]) (0) (pc 1 rfl (pc 2 rfl (pc 3 rfl (pc 18 rfl (pc 19 rfl pn))))) (pc 20 rfl pn) ⟨Nat.zero_le _, rfl⟩ ?_
  rintro k hJ12
  obtain ⟨hk10, hi11⟩ : (k ≤ l.length) ∧ (plTo (plI m l) k = true) := hJ12
  change KC _ _ (_) _ _ ([(20, .int .i64 (k : Int))] ++ _)
  refine kc_seq (kc_region ?_)
  refine kl_lss rfl rfl ?_
  refine kl_nil (kq_code ?_)
  refine kc_seq ?_
  refine kc_if rfl (fun c13 => ?_) (fun c13 => ?_)
  ·skip
   refine kc_skipQ ?_
   refine kq_code ?_
   refine kc_seq ?_
   refine kc_block ?_
   refine kc_seq (kc_region ?_)
   refine kl_mv rfl ?_
   refine kl_inS rfl rfl (by assumption) (by omega) (fun p14 u16 h17 a15 => ?_)
   refine kl_ld rfl (by assumption) ?_
   refine kl_as rfl ?_
   refine kl_as rfl ?_
   refine kl_nil (kq_code (kc_seq (kc_region ?_)))
   refine kl_mv rfl ?_
   refine kl_fd rfl (by assumption) (fun p18 a19 => ?_)
   refine kl_ld rfl (by assumption) ?_
   refine kl_len rfl (by assumption) (fun l20 => ?_)
   refine kl_callP rfl rfl (assigned_ok (l.getD k []) (m.doms.length : Int) (by assumption)) ?_
   refine kl_not rfl ?_
   refine kl_mv rfl ?_
   refine kl_join 5 36 (.bool (!(decide (((l.getD k []).length : Int) = (m.doms.length : Int)) && allInB (l.getD k []) 0 5) || !(isSolB m (l.getD k [])))) (pc 1 rfl (pc 2 rfl (pc 3 rfl (pc 7 rfl (pc 8 rfl (pc 18 rfl (pc 19 rfl (pc 20 rfl (pc 21 rfl (pc 22 rfl (pc 23 rfl (pc 24 rfl (pc 25 rfl (pc 26 rfl (pc 27 rfl (pc 28 rfl (pc 29 rfl (pc 30 rfl (pc 31 rfl pn))))))))))))))))))) (fun J22 => ?_) ?_
   ·rcases Bool.eq_false_or_eq_true (!(decide (((l.getD k []).length : Int) = (m.doms.length : Int)) && allInB (l.getD k []) 0 5)) with g21 | g21
    ·skip
     refine kl_gF rfl rfl g21 ?_
     refine kl_gF rfl rfl g21 ?_
     refine kl_gF rfl rfl g21 ?_
     refine kl_gF rfl rfl g21 ?_
     refine kl_orT (!(isSolB m (l.getD k []))) rfl rfl g21 ?_
     exact J22 _ (pc 36 rfl (pc 1 rfl (pc 2 rfl (pc 3 rfl (pc 7 rfl (pc 8 rfl (pc 18 rfl (pc 19 rfl (pc 20 rfl (pc 21 rfl (pc 22 rfl (pc 23 rfl (pc 24 rfl (pc 25 rfl (pc 26 rfl (pc 27 rfl (pc 28 rfl (pc 29 rfl (pc 30 rfl (pc 31 rfl pn))))))))))))))))))))
    ·skip
     have g21p := g21
     try simp only [Bool.not_eq_true', Bool.not_eq_false', decide_eq_true_eq, decide_eq_false_iff_not, Bool.and_eq_true, Bool.or_eq_false_iff, withinB_iff] at g21p
     try have hak := asg_ok (m := m) (x := l.getD k []) (by simpa using g21)
     refine kl_gT rfl rfl g21 ?_
     refine kl_ldS rfl (by assumption) rfl ?_
     refine kl_gT rfl rfl g21 ?_
     refine kl_mv rfl ?_
     refine kl_gT rfl rfl g21 ?_
     refine kl_callP rfl rfl (isSol_ok m (l.getD k []) hM hak.1 hak.2 (by assumption) (by assumption) (by assumption)) ?_
     refine kl_gT rfl rfl g21 ?_
     refine kl_not rfl ?_
     refine kl_orF rfl rfl g21 ?_
     exact J22 _ (pc 36 rfl (pc 1 rfl (pc 2 rfl (pc 3 rfl (pc 7 rfl (pc 8 rfl (pc 18 rfl (pc 19 rfl (pc 20 rfl (pc 21 rfl (pc 22 rfl (pc 23 rfl (pc 24 rfl (pc 25 rfl (pc 26 rfl (pc 27 rfl (pc 28 rfl (pc 29 rfl (pc 30 rfl (pc 31 rfl pn))))))))))))))))))))
   refine kl_mv rfl ?_
   refine kl_join 13 50 (.bool ((!(decide (((l.getD k []).length : Int) = (m.doms.length : Int)) && allInB (l.getD k []) 0 5) || !(isSolB m (l.getD k []))) || (decide ((0 : Int) < (k : Int)) && decide ((0 : Int) ≤ (lexC (l.getD ((k : Int) - (1 : Int)).toNat []) (l.getD k [])))))) (pc 1 rfl (pc 2 rfl (pc 3 rfl (pc 7 rfl (pc 8 rfl (pc 18 rfl (pc 19 rfl (pc 20 rfl (pc 21 rfl (pc 22 rfl (pc 23 rfl (pc 24 rfl (pc 25 rfl (pc 26 rfl (pc 27 rfl (pc 28 rfl (pc 29 rfl (pc 30 rfl (pc 31 rfl (pc 36 rfl (pc 37 rfl pn))))))))))))))))))))) (fun J30 => ?_) ?_
   ·rcases Bool.eq_false_or_eq_true (!(decide (((l.getD k []).length : Int) = (m.doms.length : Int)) && allInB (l.getD k []) 0 5) || !(isSolB m (l.getD k []))) with g23 | g23
    ·skip
     refine kl_gF rfl rfl g23 ?_
     refine kl_gF rfl rfl g23 ?_
     refine kl_gF rfl rfl g23 ?_
     refine kl_gU rfl rfl ?_
     refine kl_gU rfl rfl ?_
     refine kl_gU rfl rfl ?_
     refine kl_gU rfl rfl ?_
     refine kl_gU rfl rfl ?_
     refine kl_gU rfl rfl ?_
     refine kl_gU rfl rfl ?_
     refine kl_gU rfl rfl ?_
     refine kl_gF rfl rfl g23 ?_
     refine kl_orT (decide ((0 : Int) < (k : Int)) && decide ((0 : Int) ≤ (lexC (l.getD ((k : Int) - (1 : Int)).toNat []) (l.getD k [])))) rfl rfl g23 ?_
     exact J30 _ (pc 50 rfl (pc 1 rfl (pc 2 rfl (pc 3 rfl (pc 7 rfl (pc 8 rfl (pc 18 rfl (pc 19 rfl (pc 20 rfl (pc 21 rfl (pc 22 rfl (pc 23 rfl (pc 24 rfl (pc 25 rfl (pc 26 rfl (pc 27 rfl (pc 28 rfl (pc 29 rfl (pc 30 rfl (pc 31 rfl (pc 36 rfl (pc 37 rfl pn))))))))))))))))))))))
    ·skip
     have g23p := g23
     try simp only [Bool.not_eq_true', Bool.not_eq_false', decide_eq_true_eq, decide_eq_false_iff_not, Bool.and_eq_true, Bool.or_eq_false_iff, withinB_iff] at g23p
     try have hak := asg_ok (m := m) (x := l.getD k []) (by simpa using g23)
     try have hak2 := asg_ok (m := m) (x := l.getD k []) (by have h9 := g23; revert h9; unfold asgB; cases (decide (((l.getD k []).length : Int) = (m.doms.length : Int)) && allInB (l.getD k []) 0 5) <;> simp)
     refine kl_gT rfl rfl g23 ?_
     refine kl_mv rfl ?_
     refine kl_gT rfl rfl g23 ?_
     refine kl_gtr rfl rfl ?_
     refine kl_gT rfl rfl g23 ?_
     refine kl_mv rfl ?_
     refine kl_join 9 49 (.bool (decide ((0 : Int) < (k : Int)) && decide ((0 : Int) ≤ (lexC (l.getD ((k : Int) - (1 : Int)).toNat []) (l.getD k []))))) (pc 1 rfl (pc 2 rfl (pc 3 rfl (pc 7 rfl (pc 8 rfl (pc 18 rfl (pc 19 rfl (pc 20 rfl (pc 21 rfl (pc 22 rfl (pc 23 rfl (pc 24 rfl (pc 25 rfl (pc 26 rfl (pc 27 rfl (pc 28 rfl (pc 29 rfl (pc 30 rfl (pc 31 rfl (pc 36 rfl (pc 37 rfl (pc 38 rfl (pc 39 rfl (pc 40 rfl pn)))))))))))))))))))))))) (fun J29 => ?_) ?_
     ·rcases Bool.eq_false_or_eq_true (decide ((0 : Int) < (k : Int))) with g24 | g24
      ·skip
       have g24p := of_decide_eq_true g24
       try have hpl := pl_lenI hi11 (j := ((k : Int) - 1).toNat) (by omega)
       refine kl_gT rfl rfl g24 ?_
       refine kl_mv rfl ?_
       refine kl_gT rfl rfl g24 ?_
       refine kl_mv rfl ?_
       refine kl_gT rfl rfl g24 ?_
       refine kl_sub rfl rfl (by omega) ?_
       refine kl_gT rfl rfl g24 ?_
       refine kl_ixS rfl rfl (by assumption) (by omega) (by omega) (fun p25 u27 h28 a26 => ?_)
       refine kl_gT rfl rfl g24 ?_
       refine kl_ld rfl (by assumption) ?_
       refine kl_gT rfl rfl g24 ?_
       refine kl_mv rfl ?_
       refine kl_gT rfl rfl g24 ?_
       refine kl_callP rfl rfl (cmpL_ok (l.getD ((k : Int) - (1 : Int)).toNat []) (l.getD k []) (by rw [hpl.1, hak2.1]) (by assumption) (by assumption)) ?_
       refine kl_gT rfl rfl g24 ?_
       refine kl_geq rfl rfl ?_
       refine kl_gT rfl rfl g23 ?_
       refine kl_andT rfl rfl g24 ?_
       exact J29 _ (pc 49 rfl (pc 1 rfl (pc 2 rfl (pc 3 rfl (pc 7 rfl (pc 8 rfl (pc 18 rfl (pc 19 rfl (pc 20 rfl (pc 21 rfl (pc 22 rfl (pc 23 rfl (pc 24 rfl (pc 25 rfl (pc 26 rfl (pc 27 rfl (pc 28 rfl (pc 29 rfl (pc 30 rfl (pc 31 rfl (pc 36 rfl (pc 37 rfl (pc 38 rfl (pc 39 rfl (pc 40 rfl pn)))))))))))))))))))))))))
      ·skip
       refine kl_gF rfl rfl g24 ?_
       refine kl_gF rfl rfl g24 ?_
       refine kl_gF rfl rfl g24 ?_
       refine kl_gF rfl rfl g24 ?_
       refine kl_gF rfl rfl g24 ?_
       refine kl_gF rfl rfl g24 ?_
       refine kl_gF rfl rfl g24 ?_
       refine kl_gF rfl rfl g24 ?_
       refine kl_gT rfl rfl g23 ?_
       refine kl_andF (decide ((0 : Int) ≤ (lexC (l.getD ((k : Int) - (1 : Int)).toNat []) (l.getD k [])))) rfl rfl g24 ?_
       exact J29 _ (pc 49 rfl (pc 1 rfl (pc 2 rfl (pc 3 rfl (pc 7 rfl (pc 8 rfl (pc 18 rfl (pc 19 rfl (pc 20 rfl (pc 21 rfl (pc 22 rfl (pc 23 rfl (pc 24 rfl (pc 25 rfl (pc 26 rfl (pc 27 rfl (pc 28 rfl (pc 29 rfl (pc 30 rfl (pc 31 rfl (pc 36 rfl (pc 37 rfl (pc 38 rfl (pc 39 rfl (pc 40 rfl pn)))))))))))))))))))))))))
     refine kl_orF rfl rfl g23 ?_
     exact J30 _ (pc 50 rfl (pc 1 rfl (pc 2 rfl (pc 3 rfl (pc 7 rfl (pc 8 rfl (pc 18 rfl (pc 19 rfl (pc 20 rfl (pc 21 rfl (pc 22 rfl (pc 23 rfl (pc 24 rfl (pc 25 rfl (pc 26 rfl (pc 27 rfl (pc 28 rfl (pc 29 rfl (pc 30 rfl (pc 31 rfl (pc 36 rfl (pc 37 rfl pn))))))))))))))))))))))
   refine kl_nil (kq_code ?_)
   refine kc_cond rfl (fun c31 => ?_) (fun c31 => ?_)
   ·skip
    have c31r := c31
    try simp only [Bool.not_eq_true', Bool.not_eq_false', Bool.not_true, Bool.not_false, decide_eq_true_eq, decide_eq_false_iff_not, Bool.and_eq_true, Bool.or_eq_false_iff] at c31
    refine kc_seq (kc_region ?_)
    refine kl_as rfl ?_
    refine kl_nil (kq_code ?_)
    refine kc_ret ?_
    refine kq_retP rfl rfl (congrArg Value.bool ?_)
    exact chkI_at (k := k) (by omega) (by rw [plI_c (by assumption)]; rfl)
   ·skip
    have c31r := c31
    try simp only [Bool.not_eq_true', Bool.not_eq_false', Bool.not_true, Bool.not_false, decide_eq_true_eq, decide_eq_false_iff_not, Bool.and_eq_true, Bool.or_eq_false_iff] at c31
    refine kc_skipQ ?_
    refine kq_code ?_
    refine kc_region ?_
    refine kl_inc rfl rfl (by omega) ?_
    refine kl_mv rfl ?_
    refine kl_nil ?_
    refine kq_round0 ((k + 1)) (by omega) (⟨by omega, plTo_step hi11 (by rw [plI_c (by assumption)]; rfl)⟩) (pc 20 rfl pn) (pc 1 rfl (pc 2 rfl (pc 3 rfl (pc 18 rfl (pc 19 rfl pn))))) (List.Sublist.refl _)
  ·skip
   refine kc_exit ?_
   refine kq_code ?_
   refine kc_seq (kc_region ?_)
   refine kl_ldS rfl (by assumption) rfl ?_
   refine kl_mv rfl ?_
   refine kl_mv rfl ?_
   refine kl_callP rfl rfl (follows_ok m.doms.length m fa l (0 : Int) hM hfl (by omega) (pl_allI hi11 (by omega)) hne hb (by assumption) (by assumption) (by assumption) (by assumption)) ?_
   refine kl_as rfl ?_
   refine kl_nil (kq_code ?_)
   refine kc_ret ?_
   refine kq_retP rfl rfl (congrArg Value.bool ?_)
   exact chkI_end hc0 (by omega) hi11
abbrev playsSSt (k : Nat) : Prop := ∀ {Hmd : Hp} {vmd : Value} {Hmc : Hp} {vmc : Value} {Hfa : Hp} {vfa : Value} {Hx : Hp} {vx : Value} (m : Mod) (fa : List Bool) (x : List Int) (hM : MOk m) (hf : fa.length = m.doms.length) (hl : x.length + k = m.doms.length) (hX : Vals x) (hmd : Ints Hmd vmd m.doms) (hmc : Cons Hmc vmc m.cons) (hfa : Bools Hfa vfa fa) (hx : Ints Hx vx x), Spec Tryz.prog 38 [.agg #[vmd, vmc], vfa, vx] [Hmd, Hmc, Hfa, Hx] (fun Hq vq => MatR 23 3 encI Hq vq (playS m fa k x))
theorem playsS_step (k : Nat) (ih : ∀ j, j < k → playsSSt j) : playsSSt k := by
 intro Hmd vmd Hmc vmc Hfa vfa Hx vx m fa x hM hf hl hX hmd hmc hfa hx
 have hn := hM.n
 refine spec_of Tryz.func38 rfl rfl rfl (fun B => ?_)
 refine kc_seq (kc_region ?_)
 refine kl_box rfl rfl (fun p1 H2 f3 a4 => ?_)
 refine kl_as rfl ?_
 refine kl_nil (kq_code (kc_seq (kc_region ?_)))
 refine kl_mv rfl ?_
 refine kl_len rfl (by assumption) (fun l5 => ?_)
 refine kl_as rfl ?_
 refine kl_nil (kq_code ?_)
 refine kc_seq ?_
 refine kc_seq (kc_region ?_)
 refine kl_mv rfl ?_
 refine kl_fd rfl (by assumption) (fun p6 a7 => ?_)
 refine kl_ld rfl (by assumption) ?_
 refine kl_len rfl (by assumption) (fun l8 => ?_)
 refine kl_eql rfl rfl ?_
 refine kl_nil (kq_code ?_)
 refine kc_if rfl (fun c9 => ?_) (fun c9 => ?_)
 ·skip
  have hk0 : k = 0 := by omega
  subst hk0
  refine kc_seq (kc_region ?_)
  refine kl_mv rfl ?_
  refine kl_callL rfl rfl (copyInts_ok x (by omega) (by assumption)) (fun v10 H11 f12 o13 => ?_)
  refine kl_bsO (us := [v10]) rfl rfl rfl (by decide) (fun _ h => by rw [List.mem_singleton.1 h]; exact OwnL.cells o13) (fun v14 H15 f16 o17 => ?_)
  have o18 : Mat 23 3 encI H15 H11 v14 [v10] [x] := Mat.one o17 (OwnL.imap o13) (by omega) (OwnL.liq o13)
  refine kl_as rfl ?_
  refine kl_nil (kq_code ?_)
  refine kc_ret ?_
  refine kq_apart H15 H11 (fun c19 => ?_)
  have e9 : [x] = playS m fa 0 x := by rfl
  exact kq_ret rfl rfl (orHp H15 H11) (fr_or f16 f12) ⟨H15, H11, [v10], rfl, c19, (Mat.castX e9 o18)⟩
 ·skip
  obtain ⟨j, rfl⟩ : ∃ j, k = j + 1 := ⟨k - 1, by omega⟩
  have hn := hM.n
  refine kc_skipQ ?_
  refine kq_code ?_
  refine kc_seq (kc_region ?_)
  refine kl_bsO (us := []) rfl rfl rfl (by decide) (fun _ h => by cases h) (fun v20 H21 f22 o23 => ?_)
  refine kl_no ?_
  have o24 : Mat 23 3 encI H21 noHp v20 [] [] := Mat.nil o23
  refine kl_as rfl ?_
  refine kl_nil (kq_code (kc_seq (kc_region ?_)))
  refine kl_fd rfl (by assumption) (fun p26 a27 => ?_)
  refine kl_ld rfl (by assumption) ?_
  refine kl_mv rfl ?_
  refine kl_inI rfl rfl (by assumption) (by omega) (fun p28 a29 => ?_)
  refine kl_ld rfl (by assumption) ?_
  refine kl_call rfl rfl (domainValues_ok (m.doms.getD x.length 0)) (fun v30 H31 f32 h33 => ?_)
  refine kl_as rfl ?_
  refine kl_nil (kq_code ?_)
  refine kc_seq ?_
  refine kc_seq (kc_region ?_)
  refine kl_as rfl ?_
  refine kl_nil (kq_code ?_)
  refine kc_block ?_
  refine kc_loopL (A := Nat × List (List Int) × Value × Hp × List Value × Hp) (fun zz => (zz.1 ≤ (valsI (m.doms.getD x.length 0)).length) ∧ (PlI m fa j x zz.1 zz.2.1) ∧ Mat 23 3 encI zz.2.2.2.1 zz.2.2.2.2.2 zz.2.2.1 zz.2.2.2.2.1 zz.2.1 ∧ Fr B zz.2.2.2.2.2 ∧ Fr B zz.2.2.2.1) (fun zz => (valsI (m.doms.getD x.length 0)).length - zz.1) (fun zz => [zz.2.2.2.2.2, zz.2.2.2.1]) (fun zz => [(10, .int .i64 (zz.1 : Int)), (8, zz.2.2.1)]) (0, ([]), v20, H21, ([]), noHp) (pc 1 rfl (pc 2 rfl (pc 3 rfl (pc 7 rfl (pc 9 rfl pn))))) (pc 10 rfl (pc 8 rfl pn)) rfl ⟨Nat.zero_le _, pl_0, o24, (fr_no _), f22⟩ ?_
  rintro ⟨q, out, v38, H39, us40, K36⟩ hJ43
  obtain ⟨hk34, hi35, o37, f41, f42⟩ : (q ≤ (valsI (m.doms.getD x.length 0)).length) ∧ (PlI m fa j x q out) ∧ Mat 23 3 encI H39 K36 v38 us40 out ∧ Fr B K36 ∧ Fr B H39 := hJ43
  change KC _ _ (_) [K36, H39] _ ([(10, .int .i64 (q : Int)), (8, v38)] ++ _)
  refine kc_seq ?_
  refine kc_seq (kc_region ?_)
  refine kl_mv rfl ?_
  refine kl_mv rfl ?_
  refine kl_len rfl (by assumption) (fun l44 => ?_)
  refine kl_lss rfl rfl ?_
  refine kl_nil (kq_code ?_)
  refine kc_if rfl (fun c45 => ?_) (fun c45 => ?_)
  ·skip
   have hv := valsI_mem (getD_mem (d := (0 : Int)) (by omega : q < (valsI (m.doms.getD x.length 0)).length))
   have hpb := pl_b hi35 (by omega)
   have hpl := playS_len m fa j (x ++ [(valsI (m.doms.getD x.length 0)).getD q 0])
   have hp4 : 6 ^ j ≤ 1296 := pow6 (by omega)
   refine kc_skipQ ?_
   refine kq_code ?_
   refine kc_seq ?_
   refine kc_block ?_
   refine kc_seq ?_
   refine kc_tree (fun i => ([7] : List Nat).contains i) [] (by kernel_rfl) ?_
   refine kt_q 0 (List.nil_sublist _) rfl (by kernel_rfl) ?_
   refine kl_mv rfl ?_
   refine kl_nil (kq_q ?_)
   refine kt_q 2 (List.nil_sublist _) rfl (by kernel_rfl) ?_
   refine kl_mv rfl ?_
   refine kl_nil (kq_q ?_)
   refine kt_q 3 (List.nil_sublist _) rfl (by kernel_rfl) ?_
   refine kl_mv rfl ?_
   refine kl_nil (kq_q ?_)
   refine kt_q 4 (List.nil_sublist _) rfl (by kernel_rfl) ?_
   refine kl_inI rfl rfl (by assumption) (by omega) (fun p46 a47 => ?_)
   refine kl_nil (kq_q ?_)
   refine kt_q 5 (List.nil_sublist _) rfl (by kernel_rfl) ?_
   refine kl_ld rfl (by assumption) ?_
   refine kl_nil (kq_q ?_)
   refine kt_b 1 6 rfl rfl (by kernel_rfl) ?_ ?_
   ·skip
    refine kl_callL rfl rfl (copyInts_ok x (by omega) (by assumption)) (fun v48 H49 f50 o51 => ?_)
    refine kl_nil (kq_a (List.nil_sublist _) ?_)
    refine kt_a 6 rfl (by kernel_rfl) ?_
    refine kl_bs rfl rfl rfl (by decide) (ca rfl ca_nil) (fun v52 H53 f54 r55 s56 => ?_)
    have h57 : Ints H53 v52 [((valsI (m.doms.getD x.length 0)).getD q 0)] := litInts (xs := [((valsI (m.doms.getD x.length 0)).getD q 0)]) (by simpa using s56)
    refine kl_nil (kq_a (List.nil_sublist _) ?_)
    refine kt_a 7 rfl (by kernel_rfl) ?_
    refine kl_apL ((valsI (m.doms.getD x.length 0)).getD q 0) rfl rfl o51 (by assumption) rfl (oc rfl oc_nil) (by omega) (by decide) (fun v58 H59 o60 f61 => ?_)
    have f62 := f61 B f50 (Nat.le_refl _)
    refine kl_nil (kq_x rfl ?_)
    refine kt_q 8 (List.nil_sublist _) rfl (by kernel_rfl) ?_
    refine kl_as rfl ?_
    refine kl_nil (kq_q ?_)
    refine kt_end (by kernel_rfl) ?_
    refine kq_code ?_
    refine kc_seq (kc_region ?_)
    refine kl_mv rfl ?_
    refine kl_mv rfl ?_
    refine kl_inB rfl rfl (by assumption) (by omega) (fun p63 a64 => ?_)
    refine kl_ld rfl (by assumption) ?_
    refine kl_mv rfl ?_
    refine kl_join 5 52 (.bool ((fa.getD x.length false) || (winB m fa j (x ++ [((valsI (m.doms.getD x.length 0)).getD q 0)])))) (pc 1 rfl (pc 2 rfl (pc 3 rfl (pc 7 rfl (pc 8 rfl (pc 9 rfl (pc 10 rfl (pc 11 rfl (pc 29 rfl (pc 30 rfl (pc 31 rfl (pc 32 rfl (pc 35 rfl (pc 36 rfl (pc 37 rfl (pc 38 rfl (pc 39 rfl (pc 40 rfl (pc 41 rfl (pc 42 rfl (pc 43 rfl (pc 44 rfl (pc 45 rfl (pc 46 rfl (pc 47 rfl pn))))))))))))))))))))))))) (fun J66 => ?_) ?_
    ·rcases Bool.eq_false_or_eq_true (fa.getD x.length false) with g65 | g65
     ·skip
      refine kl_gF rfl rfl g65 ?_
      refine kl_gF rfl rfl g65 ?_
      refine kl_gF rfl rfl g65 ?_
      refine kl_gF rfl rfl g65 ?_
      refine kl_orT (winB m fa j (x ++ [((valsI (m.doms.getD x.length 0)).getD q 0)])) rfl rfl g65 ?_
      exact J66 _ (pc 52 rfl (pc 1 rfl (pc 2 rfl (pc 3 rfl (pc 7 rfl (pc 8 rfl (pc 9 rfl (pc 10 rfl (pc 11 rfl (pc 29 rfl (pc 30 rfl (pc 31 rfl (pc 32 rfl (pc 35 rfl (pc 36 rfl (pc 37 rfl (pc 38 rfl (pc 39 rfl (pc 40 rfl (pc 41 rfl (pc 42 rfl (pc 43 rfl (pc 44 rfl (pc 45 rfl (pc 46 rfl (pc 47 rfl pn))))))))))))))))))))))))))
     ·skip
      have g65p := g65
      try simp only [Bool.not_eq_true', Bool.not_eq_false', decide_eq_true_eq, decide_eq_false_iff_not, Bool.and_eq_true, Bool.or_eq_false_iff, withinB_iff] at g65p
      refine kl_gT rfl rfl g65 ?_
      refine kl_ldS rfl (by assumption) rfl ?_
      refine kl_gT rfl rfl g65 ?_
      refine kl_mv rfl ?_
      refine kl_gT rfl rfl g65 ?_
      refine kl_mv rfl ?_
      refine kl_gT rfl rfl g65 ?_
      refine kl_callP rfl rfl (wins_ok j m fa (x ++ [((valsI (m.doms.getD x.length 0)).getD q 0)]) hM hf (by simp; omega) (hX.snoc hv) (by assumption) (by assumption) (by assumption) (OwnL.ints o60)) ?_
      refine kl_orF rfl rfl g65 ?_
      exact J66 _ (pc 52 rfl (pc 1 rfl (pc 2 rfl (pc 3 rfl (pc 7 rfl (pc 8 rfl (pc 9 rfl (pc 10 rfl (pc 11 rfl (pc 29 rfl (pc 30 rfl (pc 31 rfl (pc 32 rfl (pc 35 rfl (pc 36 rfl (pc 37 rfl (pc 38 rfl (pc 39 rfl (pc 40 rfl (pc 41 rfl (pc 42 rfl (pc 43 rfl (pc 44 rfl (pc 45 rfl (pc 46 rfl (pc 47 rfl pn))))))))))))))))))))))))))
    refine kl_nil (kq_code ?_)
    refine kc_cond rfl (fun c67 => ?_) (fun c67 => ?_)
    ·skip
     have c67r := c67
     try simp only [Bool.not_eq_true', Bool.not_eq_false', Bool.not_true, Bool.not_false, decide_eq_true_eq, decide_eq_false_iff_not, Bool.and_eq_true, Bool.or_eq_false_iff] at c67
     refine kc_seq (kc_region ?_)
     refine kl_mv rfl ?_
     refine kl_ldS rfl (by assumption) rfl ?_
     refine kl_mv rfl ?_
     refine kl_mv rfl ?_
     refine kl_callL rfl rfl (ih j (by omega) m fa (x ++ [((valsI (m.doms.getD x.length 0)).getD q 0)]) hM hf (by simp; omega) (hX.snoc hv) (by assumption) (by assumption) (by assumption) (OwnL.ints o60)) (fun v68 H69 f70 h71 => ?_)
     obtain ⟨H72, K73, us74, rfl, a75, m76⟩ := h71
     refine kl_split H72 K73 a75 ?_
     have f78 := fr_l f70 m76.hlq
     have f79 := fr_r f70 m76.lq
     refine kl_frz H72 ?_
     refine kl_apart K36 K73 (fun a85 => ?_)
     refine kl_mtApp rfl rfl o37 m76 a85 (by omega) (by decide) (fun v80 H81 m82 f83 => ?_)
     have f84 := f83 B f42 (Nat.le_refl _)
     refine kl_mrg K36 K73 ?_
     refine kl_as rfl ?_
     refine kl_nil (kq_code (kc_seq (kc_region ?_)))
     refine kl_mv rfl ?_
     refine kl_mv rfl ?_
     refine kl_inB rfl rfl (by assumption) (by omega) (fun p86 a87 => ?_)
     refine kl_ld rfl (by assumption) ?_
     refine kl_not rfl ?_
     refine kl_nil (kq_code ?_)
     refine kc_cond rfl (fun c88 => ?_) (fun c88 => ?_)
     ·skip
      have c88r := c88
      try simp only [Bool.not_eq_true', Bool.not_eq_false', Bool.not_true, Bool.not_false, decide_eq_true_eq, decide_eq_false_iff_not, Bool.and_eq_true, Bool.or_eq_false_iff] at c88
      refine kc_seq (kc_region ?_)
      refine kl_mv rfl ?_
      refine kl_as rfl ?_
      refine kl_nil (kq_code ?_)
      refine kc_ret ?_
      refine kq_apart H81 (orHp K36 K73) (fun c89 => ?_)
      have e9 : (out ++ (playS m fa j (x ++ [((valsI (m.doms.getD x.length 0)).getD q 0)]))) = playS m fa (j + 1) x := by first | exact pl_end hi35 (by omega) | exact pl_hit hi35 (by omega) (by assumption) (by simpa using (by assumption : (!(fa.getD x.length false)) = true))
      exact kq_ret rfl rfl (orHp H81 (orHp K36 K73)) (fr_or f84 (fr_or f41 f79)) ⟨H81, (orHp K36 K73), (us40 ++ us74), rfl, c89, (Mat.castX e9 m82)⟩
     ·skip
      have c88r := c88
      try simp only [Bool.not_eq_true', Bool.not_eq_false', Bool.not_true, Bool.not_false, decide_eq_true_eq, decide_eq_false_iff_not, Bool.and_eq_true, Bool.or_eq_false_iff] at c88
      refine kc_skipQ ?_
      refine kq_code ?_
      refine kc_region ?_
      refine kl_mv rfl ?_
      refine kl_inc rfl rfl (by omega) ?_
      refine kl_as rfl ?_
      refine kl_nil ?_
      refine kq_take [(orHp K36 K73), H81] ?_
      refine kq_roundL ((q + 1), (out ++ (playS m fa j (x ++ [((valsI (m.doms.getD x.length 0)).getD q 0)]))), v80, H81, (us40 ++ us74), (orHp K36 K73)) (by omega) (⟨by omega, (by first | exact pl_T hi35 (by omega) (by simpa using (by assumption : (!(fa.getD x.length false)) = false)) | exact pl_F hi35 (by omega) (by assumption)), m82, (fr_or f41 f79), f84⟩) (pc 10 rfl (pc 8 rfl pn)) (pc 1 rfl (pc 2 rfl (pc 3 rfl (pc 7 rfl (pc 9 rfl pn))))) rfl (List.Sublist.refl _)
    ·skip
     have c67r := c67
     try simp only [Bool.not_eq_true', Bool.not_eq_false', Bool.not_true, Bool.not_false, decide_eq_true_eq, decide_eq_false_iff_not, Bool.and_eq_true, Bool.or_eq_false_iff] at c67
     refine kc_skipQ ?_
     refine kq_code ?_
     refine kc_region ?_
     refine kl_mv rfl ?_
     refine kl_inc rfl rfl (by omega) ?_
     refine kl_as rfl ?_
     refine kl_nil ?_
     refine kq_take [K36, H39] ?_
     refine kq_roundL ((q + 1), out, v38, H39, us40, K36) (by omega) (⟨by omega, (by first | exact pl_T hi35 (by omega) (by simpa using (by assumption : (!(fa.getD x.length false)) = false)) | exact pl_F hi35 (by omega) (by assumption)), o37, f41, f42⟩) (pc 10 rfl (pc 8 rfl pn)) (pc 1 rfl (pc 2 rfl (pc 3 rfl (pc 7 rfl (pc 9 rfl pn))))) rfl (List.Sublist.refl _)
   ·skip
    refine kl_bs rfl rfl rfl (by decide) (ca rfl ca_nil) (fun v90 H91 f92 r93 s94 => ?_)
    have h95 : Ints H91 v90 [((valsI (m.doms.getD x.length 0)).getD q 0)] := litInts (xs := [((valsI (m.doms.getD x.length 0)).getD q 0)]) (by simpa using s94)
    refine kl_nil (kq_a (List.nil_sublist _) ?_)
    refine kt_a 1 rfl (by kernel_rfl) ?_
    refine kl_callL rfl rfl (copyInts_ok x (by omega) (by assumption)) (fun v96 H97 f98 o99 => ?_)
    refine kl_nil (kq_a (List.nil_sublist _) ?_)
    refine kt_a 7 rfl (by kernel_rfl) ?_
    refine kl_apL ((valsI (m.doms.getD x.length 0)).getD q 0) rfl rfl o99 (by assumption) rfl (oc rfl oc_nil) (by omega) (by decide) (fun v100 H101 o102 f103 => ?_)
    have f104 := f103 B f98 (Nat.le_refl _)
    refine kl_nil (kq_x rfl ?_)
    refine kt_q 8 (List.nil_sublist _) rfl (by kernel_rfl) ?_
    refine kl_as rfl ?_
    refine kl_nil (kq_q ?_)
    refine kt_end (by kernel_rfl) ?_
    refine kq_code ?_
    refine kc_seq (kc_region ?_)
    refine kl_mv rfl ?_
    refine kl_mv rfl ?_
    refine kl_inB rfl rfl (by assumption) (by omega) (fun p105 a106 => ?_)
    refine kl_ld rfl (by assumption) ?_
    refine kl_mv rfl ?_
    refine kl_join 5 52 (.bool ((fa.getD x.length false) || (winB m fa j (x ++ [((valsI (m.doms.getD x.length 0)).getD q 0)])))) (pc 1 rfl (pc 2 rfl (pc 3 rfl (pc 7 rfl (pc 8 rfl (pc 9 rfl (pc 10 rfl (pc 11 rfl (pc 29 rfl (pc 30 rfl (pc 31 rfl (pc 32 rfl (pc 35 rfl (pc 36 rfl (pc 37 rfl (pc 38 rfl (pc 39 rfl (pc 40 rfl (pc 41 rfl (pc 42 rfl (pc 43 rfl (pc 44 rfl (pc 45 rfl (pc 46 rfl (pc 47 rfl pn))))))))))))))))))))))))) (fun J108 => ?_) ?_
    ·rcases Bool.eq_false_or_eq_true (fa.getD x.length false) with g107 | g107
     ·skip
      refine kl_gF rfl rfl g107 ?_
      refine kl_gF rfl rfl g107 ?_
      refine kl_gF rfl rfl g107 ?_
      refine kl_gF rfl rfl g107 ?_
      refine kl_orT (winB m fa j (x ++ [((valsI (m.doms.getD x.length 0)).getD q 0)])) rfl rfl g107 ?_
      exact J108 _ (pc 52 rfl (pc 1 rfl (pc 2 rfl (pc 3 rfl (pc 7 rfl (pc 8 rfl (pc 9 rfl (pc 10 rfl (pc 11 rfl (pc 29 rfl (pc 30 rfl (pc 31 rfl (pc 32 rfl (pc 35 rfl (pc 36 rfl (pc 37 rfl (pc 38 rfl (pc 39 rfl (pc 40 rfl (pc 41 rfl (pc 42 rfl (pc 43 rfl (pc 44 rfl (pc 45 rfl (pc 46 rfl (pc 47 rfl pn))))))))))))))))))))))))))
     ·skip
      have g107p := g107
      try simp only [Bool.not_eq_true', Bool.not_eq_false', decide_eq_true_eq, decide_eq_false_iff_not, Bool.and_eq_true, Bool.or_eq_false_iff, withinB_iff] at g107p
      refine kl_gT rfl rfl g107 ?_
      refine kl_ldS rfl (by assumption) rfl ?_
      refine kl_gT rfl rfl g107 ?_
      refine kl_mv rfl ?_
      refine kl_gT rfl rfl g107 ?_
      refine kl_mv rfl ?_
      refine kl_gT rfl rfl g107 ?_
      refine kl_callP rfl rfl (wins_ok j m fa (x ++ [((valsI (m.doms.getD x.length 0)).getD q 0)]) hM hf (by simp; omega) (hX.snoc hv) (by assumption) (by assumption) (by assumption) (OwnL.ints o102)) ?_
      refine kl_orF rfl rfl g107 ?_
      exact J108 _ (pc 52 rfl (pc 1 rfl (pc 2 rfl (pc 3 rfl (pc 7 rfl (pc 8 rfl (pc 9 rfl (pc 10 rfl (pc 11 rfl (pc 29 rfl (pc 30 rfl (pc 31 rfl (pc 32 rfl (pc 35 rfl (pc 36 rfl (pc 37 rfl (pc 38 rfl (pc 39 rfl (pc 40 rfl (pc 41 rfl (pc 42 rfl (pc 43 rfl (pc 44 rfl (pc 45 rfl (pc 46 rfl (pc 47 rfl pn))))))))))))))))))))))))))
    refine kl_nil (kq_code ?_)
    refine kc_cond rfl (fun c109 => ?_) (fun c109 => ?_)
    ·skip
     have c109r := c109
     try simp only [Bool.not_eq_true', Bool.not_eq_false', Bool.not_true, Bool.not_false, decide_eq_true_eq, decide_eq_false_iff_not, Bool.and_eq_true, Bool.or_eq_false_iff] at c109
     refine kc_seq (kc_region ?_)
     refine kl_mv rfl ?_
     refine kl_ldS rfl (by assumption) rfl ?_
     refine kl_mv rfl ?_
     refine kl_mv rfl ?_
     refine kl_callL rfl rfl (ih j (by omega) m fa (x ++ [((valsI (m.doms.getD x.length 0)).getD q 0)]) hM hf (by simp; omega) (hX.snoc hv) (by assumption) (by assumption) (by assumption) (OwnL.ints o102)) (fun v110 H111 f112 h113 => ?_)
     obtain ⟨H114, K115, us116, rfl, a117, m118⟩ := h113
     refine kl_split H114 K115 a117 ?_
     have f120 := fr_l f112 m118.hlq
     have f121 := fr_r f112 m118.lq
     refine kl_frz H114 ?_
     refine kl_apart K36 K115 (fun a127 => ?_)
     refine kl_mtApp rfl rfl o37 m118 a127 (by omega) (by decide) (fun v122 H123 m124 f125 => ?_)
     have f126 := f125 B f42 (Nat.le_refl _)
     refine kl_mrg K36 K115 ?_
     refine kl_as rfl ?_
     refine kl_nil (kq_code (kc_seq (kc_region ?_)))
     refine kl_mv rfl ?_
     refine kl_mv rfl ?_
     refine kl_inB rfl rfl (by assumption) (by omega) (fun p128 a129 => ?_)
     refine kl_ld rfl (by assumption) ?_
     refine kl_not rfl ?_
     refine kl_nil (kq_code ?_)
     refine kc_cond rfl (fun c130 => ?_) (fun c130 => ?_)
     ·skip
      have c130r := c130
      try simp only [Bool.not_eq_true', Bool.not_eq_false', Bool.not_true, Bool.not_false, decide_eq_true_eq, decide_eq_false_iff_not, Bool.and_eq_true, Bool.or_eq_false_iff] at c130
      refine kc_seq (kc_region ?_)
      refine kl_mv rfl ?_
      refine kl_as rfl ?_
      refine kl_nil (kq_code ?_)
      refine kc_ret ?_
      refine kq_apart H123 (orHp K36 K115) (fun c131 => ?_)
      have e9 : (out ++ (playS m fa j (x ++ [((valsI (m.doms.getD x.length 0)).getD q 0)]))) = playS m fa (j + 1) x := by first | exact pl_end hi35 (by omega) | exact pl_hit hi35 (by omega) (by assumption) (by simpa using (by assumption : (!(fa.getD x.length false)) = true))
      exact kq_ret rfl rfl (orHp H123 (orHp K36 K115)) (fr_or f126 (fr_or f41 f121)) ⟨H123, (orHp K36 K115), (us40 ++ us116), rfl, c131, (Mat.castX e9 m124)⟩
     ·skip
      have c130r := c130
      try simp only [Bool.not_eq_true', Bool.not_eq_false', Bool.not_true, Bool.not_false, decide_eq_true_eq, decide_eq_false_iff_not, Bool.and_eq_true, Bool.or_eq_false_iff] at c130
      refine kc_skipQ ?_
      refine kq_code ?_
      refine kc_region ?_
      refine kl_mv rfl ?_
      refine kl_inc rfl rfl (by omega) ?_
      refine kl_as rfl ?_
      refine kl_nil ?_
      refine kq_take [(orHp K36 K115), H123] ?_
      refine kq_roundL ((q + 1), (out ++ (playS m fa j (x ++ [((valsI (m.doms.getD x.length 0)).getD q 0)]))), v122, H123, (us40 ++ us116), (orHp K36 K115)) (by omega) (⟨by omega, (by first | exact pl_T hi35 (by omega) (by simpa using (by assumption : (!(fa.getD x.length false)) = false)) | exact pl_F hi35 (by omega) (by assumption)), m124, (fr_or f41 f121), f126⟩) (pc 10 rfl (pc 8 rfl pn)) (pc 1 rfl (pc 2 rfl (pc 3 rfl (pc 7 rfl (pc 9 rfl pn))))) rfl (List.Sublist.refl _)
    ·skip
     have c109r := c109
     try simp only [Bool.not_eq_true', Bool.not_eq_false', Bool.not_true, Bool.not_false, decide_eq_true_eq, decide_eq_false_iff_not, Bool.and_eq_true, Bool.or_eq_false_iff] at c109
     refine kc_skipQ ?_
     refine kq_code ?_
     refine kc_region ?_
     refine kl_mv rfl ?_
     refine kl_inc rfl rfl (by omega) ?_
     refine kl_as rfl ?_
     refine kl_nil ?_
     refine kq_take [K36, H39] ?_
     refine kq_roundL ((q + 1), out, v38, H39, us40, K36) (by omega) (⟨by omega, (by first | exact pl_T hi35 (by omega) (by simpa using (by assumption : (!(fa.getD x.length false)) = false)) | exact pl_F hi35 (by omega) (by assumption)), o37, f41, f42⟩) (pc 10 rfl (pc 8 rfl pn)) (pc 1 rfl (pc 2 rfl (pc 3 rfl (pc 7 rfl (pc 9 rfl pn))))) rfl (List.Sublist.refl _)
  ·skip
   refine kc_exit ?_
   refine kq_code ?_
   refine kc_seq (kc_region ?_)
   refine kl_mv rfl ?_
   refine kl_as rfl ?_
   refine kl_nil (kq_code ?_)
   refine kc_ret ?_
   refine kq_apart H39 K36 (fun c132 => ?_)
   have e9 : out = playS m fa (j + 1) x := by first | exact pl_end hi35 (by omega) | exact pl_hit hi35 (by omega) (by assumption) (by simpa using (by assumption : (!(fa.getD x.length false)) = true))
   exact kq_ret rfl rfl (orHp H39 K36) (fr_or f42 f41) ⟨H39, K36, us40, rfl, c132, (Mat.castX e9 o37)⟩
theorem playsS_ok (k : Nat) : playsSSt k := by
 induction k using Nat.strongRecOn with
 | _ k ih => exact @playsS_step k ih
abbrev playsISt (k : Nat) : Prop := ∀ {Hmd : Hp} {vmd : Value} {Hmc : Hp} {vmc : Value} {Hfa : Hp} {vfa : Value} {Hx : Hp} {vx : Value} (m : Mod) (fa : List Bool) (x : List Int) (hM : MOk m) (hf : fa.length = m.doms.length) (hl : x.length + k = m.doms.length) (hX : Vals x) (hw : winB m fa k x = true) (hmd : Ints Hmd vmd m.doms) (hmc : Cons Hmc vmc m.cons) (hfa : Bools Hfa vfa fa) (hx : Ints Hx vx x), Spec Tryz.prog 36 [.agg #[vmd, vmc], vfa, vx] [Hmd, Hmc, Hfa, Hx] (fun Hq vq => MatR 23 3 encI Hq vq (playS m fa k x))
theorem playsI_step (k : Nat) (ih : ∀ j, j < k → playsISt j) : playsISt k := by
 intro Hmd vmd Hmc vmc Hfa vfa Hx vx m fa x hM hf hl hX hw hmd hmc hfa hx
 have hn := hM.n
 refine spec_of Tryz.func36 rfl rfl rfl (fun B => ?_)
 refine kc_seq (kc_region ?_)
 refine kl_box rfl rfl (fun p1 H2 f3 a4 => ?_)
 refine kl_as rfl ?_
 refine kl_nil (kq_code (kc_seq (kc_region ?_)))
 refine kl_mv rfl ?_
 refine kl_len rfl (by assumption) (fun l5 => ?_)
 refine kl_as rfl ?_
 refine kl_nil (kq_code ?_)
 refine kc_seq ?_
 refine kc_seq (kc_region ?_)
 refine kl_mv rfl ?_
 refine kl_fd rfl (by assumption) (fun p6 a7 => ?_)
 refine kl_ld rfl (by assumption) ?_
 refine kl_len rfl (by assumption) (fun l8 => ?_)
 refine kl_eql rfl rfl ?_
 refine kl_nil (kq_code ?_)
 refine kc_if rfl (fun c9 => ?_) (fun c9 => ?_)
 ·skip
  have hk0 : k = 0 := by omega
  subst hk0
  refine kc_seq (kc_region ?_)
  refine kl_mv rfl ?_
  refine kl_callL rfl rfl (copied_ok x (by omega) (by assumption)) (fun v10 H11 f12 o13 => ?_)
  refine kl_bsO (us := [v10]) rfl rfl rfl (by decide) (fun _ h => by rw [List.mem_singleton.1 h]; exact OwnL.cells o13) (fun v14 H15 f16 o17 => ?_)
  have o18 : Mat 23 3 encI H15 H11 v14 [v10] [x] := Mat.one o17 (OwnL.imap o13) (by omega) (OwnL.liq o13)
  refine kl_as rfl ?_
  refine kl_nil (kq_code ?_)
  refine kc_ret ?_
  refine kq_apart H15 H11 (fun c19 => ?_)
  have e9 : [x] = playS m fa 0 x := by rfl
  exact kq_ret rfl rfl (orHp H15 H11) (fr_or f16 f12) ⟨H15, H11, [v10], rfl, c19, (Mat.castX e9 o18)⟩
 ·skip
  obtain ⟨j, rfl⟩ : ∃ j, k = j + 1 := ⟨k - 1, by omega⟩
  have hn := hM.n
  refine kc_skipQ ?_
  refine kq_code ?_
  refine kc_seq (kc_region ?_)
  refine kl_bsO (us := []) rfl rfl rfl (by decide) (fun _ h => by cases h) (fun v20 H21 f22 o23 => ?_)
  refine kl_no ?_
  have o24 : Mat 23 3 encI H21 noHp v20 [] [] := Mat.nil o23
  refine kl_as rfl ?_
  refine kl_nil (kq_code ?_)
  refine kc_seq ?_
  refine kc_seq (kc_region ?_)
  refine kl_fd rfl (by assumption) (fun p26 a27 => ?_)
  refine kl_ld rfl (by assumption) ?_
  refine kl_mv rfl ?_
  refine kl_inI rfl rfl (by assumption) (by omega) (fun p28 a29 => ?_)
  refine kl_ld rfl (by assumption) ?_
  refine kl_call rfl rfl (valuesOf_ok (m.doms.getD x.length 0) (hM.d (by omega))) (fun v30 H31 f32 h33 => ?_)
  refine kl_len rfl (by assumption) (fun l34 => ?_)
  refine kl_mv rfl ?_
  refine kl_nil (kq_code ?_)
  refine kc_block ?_
  refine kc_loopL (A := Nat × List (List Int) × Value × Hp × List Value × Hp) (fun zz => (zz.1 ≤ (valsI (m.doms.getD x.length 0)).length) ∧ (PlI m fa j x zz.1 zz.2.1) ∧ Mat 23 3 encI zz.2.2.2.1 zz.2.2.2.2.2 zz.2.2.1 zz.2.2.2.2.1 zz.2.1 ∧ Fr B zz.2.2.2.2.2 ∧ Fr B zz.2.2.2.1) (fun zz => (valsI (m.doms.getD x.length 0)).length - zz.1) (fun zz => [zz.2.2.2.2.2, zz.2.2.2.1]) (fun zz => [(29, .int .i64 (zz.1 : Int)), (8, zz.2.2.1)]) (0, ([]), v20, H21, ([]), noHp) (pc 1 rfl (pc 2 rfl (pc 3 rfl (pc 6 rfl (pc 7 rfl (pc 27 rfl (pc 28 rfl pn))))))) (pc 29 rfl (pc 8 rfl pn)) rfl ⟨Nat.zero_le _, pl_0, o24, (fr_no _), f22⟩ ?_
  rintro ⟨q, out, v39, H40, us41, K37⟩ hJ44
  obtain ⟨hk35, hi36, o38, f42, f43⟩ : (q ≤ (valsI (m.doms.getD x.length 0)).length) ∧ (PlI m fa j x q out) ∧ Mat 23 3 encI H40 K37 v39 us41 out ∧ Fr B K37 ∧ Fr B H40 := hJ44
  change KC _ _ (_) [K37, H40] _ ([(29, .int .i64 (q : Int)), (8, v39)] ++ _)
  refine kc_seq (kc_region ?_)
  refine kl_lss rfl rfl ?_
  refine kl_nil (kq_code ?_)
  refine kc_seq ?_
  refine kc_if rfl (fun c45 => ?_) (fun c45 => ?_)
  ·skip
   have hv := valsI_mem (getD_mem (d := (0 : Int)) (by omega : q < (valsI (m.doms.getD x.length 0)).length))
   have hpb := pl_b hi36 (by omega)
   have hpl := playS_len m fa j (x ++ [(valsI (m.doms.getD x.length 0)).getD q 0])
   have hp4 : 6 ^ j ≤ 1296 := pow6 (by omega)
   refine kc_skipQ ?_
   refine kq_code ?_
   refine kc_seq ?_
   refine kc_block ?_
   refine kc_seq (kc_region ?_)
   refine kl_inI rfl rfl (by assumption) (by omega) (fun p46 a47 => ?_)
   refine kl_ld rfl (by assumption) ?_
   refine kl_as rfl ?_
   refine kl_nil (kq_code ?_)
   refine kc_seq ?_
   refine kc_seq ?_
   refine kc_tree (fun i => ([5] : List Nat).contains i) [] (by kernel_rfl) ?_
   refine kt_q 0 (List.nil_sublist _) rfl (by kernel_rfl) ?_
   refine kl_ldS rfl (by assumption) rfl ?_
   refine kl_nil (kq_q ?_)
   refine kt_q 1 (List.nil_sublist _) rfl (by kernel_rfl) ?_
   refine kl_mv rfl ?_
   refine kl_nil (kq_q ?_)
   refine kt_q 2 (List.nil_sublist _) rfl (by kernel_rfl) ?_
   refine kl_mv rfl ?_
   refine kl_nil (kq_q ?_)
   refine kt_q 3 (List.nil_sublist _) rfl (by kernel_rfl) ?_
   refine kl_mv rfl ?_
   refine kl_nil (kq_q ?_)
   refine kt_a 4 rfl (by kernel_rfl) ?_
   refine kl_call rfl rfl (extended_ok x ((valsI (m.doms.getD x.length 0)).getD q 0) (by omega) (by assumption)) (fun v48 H49 f50 h51 => ?_)
   refine kl_nil (kq_a (List.nil_sublist _) ?_)
   refine kt_a 5 rfl (by kernel_rfl) ?_
   refine kl_callP rfl rfl (isTrue_ok j m fa (x ++ [((valsI (m.doms.getD x.length 0)).getD q 0)]) hM hf (by simp; omega) (hX.snoc hv) (by assumption) (by assumption) (by assumption) (by assumption)) ?_
   refine kl_nil (kq_x rfl ?_)
   refine kt_q 6 (List.nil_sublist _) rfl (by kernel_rfl) ?_
   refine kl_not rfl ?_
   refine kl_nil (kq_q ?_)
   refine kt_end (by kernel_rfl) ?_
   refine kq_code ?_
   refine kc_cond rfl (fun c52 => ?_) (fun c52 => ?_)
   ·skip
    have c52r := c52
    try simp only [Bool.not_eq_true', Bool.not_eq_false', Bool.not_true, Bool.not_false, decide_eq_true_eq, decide_eq_false_iff_not, Bool.and_eq_true, Bool.or_eq_false_iff] at c52
    refine kc_exit ?_
    refine kq_code ?_
    refine kc_region ?_
    refine kl_inc rfl rfl (by omega) ?_
    refine kl_mv rfl ?_
    refine kl_nil ?_
    refine kq_take [K37, H40] ?_
    refine kq_roundL ((q + 1), out, v39, H40, us41, K37) (by omega) (⟨by omega, (by first | exact pl_T hi36 (by omega) (by simpa using (by assumption : (!(fa.getD x.length false)) = false)) | exact pl_FI hi36 (by omega) hw (by assumption)), o38, f42, f43⟩) (pc 29 rfl (pc 8 rfl pn)) (pc 1 rfl (pc 2 rfl (pc 3 rfl (pc 6 rfl (pc 7 rfl (pc 27 rfl (pc 28 rfl pn))))))) rfl (List.Sublist.refl _)
   ·skip
    have c52r := c52
    try simp only [Bool.not_eq_true', Bool.not_eq_false', Bool.not_true, Bool.not_false, decide_eq_true_eq, decide_eq_false_iff_not, Bool.and_eq_true, Bool.or_eq_false_iff] at c52
    refine kc_skipQ ?_
    refine kq_code ?_
    refine kc_seq ?_
    refine kc_tree (fun i => ([7] : List Nat).contains i) [] (by kernel_rfl) ?_
    refine kt_q 0 (List.nil_sublist _) rfl (by kernel_rfl) ?_
    refine kl_mv rfl ?_
    refine kl_nil (kq_q ?_)
    refine kt_q 1 (List.nil_sublist _) rfl (by kernel_rfl) ?_
    refine kl_ldS rfl (by assumption) rfl ?_
    refine kl_nil (kq_q ?_)
    refine kt_q 2 (List.nil_sublist _) rfl (by kernel_rfl) ?_
    refine kl_mv rfl ?_
    refine kl_nil (kq_q ?_)
    refine kt_q 3 (List.nil_sublist _) rfl (by kernel_rfl) ?_
    refine kl_mv rfl ?_
    refine kl_nil (kq_q ?_)
    refine kt_q 4 (List.nil_sublist _) rfl (by kernel_rfl) ?_
    refine kl_mv rfl ?_
    refine kl_nil (kq_q ?_)
    refine kt_a 5 rfl (by kernel_rfl) ?_
    refine kl_call rfl rfl (extended_ok x ((valsI (m.doms.getD x.length 0)).getD q 0) (by omega) (by assumption)) (fun v53 H54 f55 h56 => ?_)
    refine kl_nil (kq_a (List.nil_sublist _) ?_)
    refine kt_a 6 rfl (by kernel_rfl) ?_
    refine kl_callL rfl rfl (ih j (by omega) m fa (x ++ [((valsI (m.doms.getD x.length 0)).getD q 0)]) hM hf (by simp; omega) (hX.snoc hv) (by simpa using (by assumption : (!(winB m fa j (x ++ [(valsI (m.doms.getD x.length 0)).getD q 0]))) = false)) (by assumption) (by assumption) (by assumption) (by assumption)) (fun v57 H58 f59 h60 => ?_)
    obtain ⟨H61, K62, us63, rfl, a64, m65⟩ := h60
    have f67 := fr_l f59 m65.hlq
    have f68 := fr_r f59 m65.lq
    refine kl_nil (kq_a (List.nil_sublist _) ?_)
    refine kt_split H61 K62 a64 ?_
    refine kt_frz H61 ?_
    refine kt_a 7 rfl (by kernel_rfl) ?_
    refine kl_apart K37 K62 (fun a75 => ?_)
    refine kl_mtApp rfl rfl o38 m65 a75 (by omega) (by decide) (fun v70 H71 m72 f73 => ?_)
    have f74 := f73 B f43 (Nat.le_refl _)
    refine kl_nil (kq_x rfl ?_)
    refine kt_mrg K37 K62 ?_
    refine kt_q 8 (List.nil_sublist _) rfl (by kernel_rfl) ?_
    refine kl_as rfl ?_
    refine kl_nil (kq_q ?_)
    refine kt_end (by kernel_rfl) ?_
    refine kq_code ?_
    refine kc_seq (kc_region ?_)
    refine kl_mv rfl ?_
    refine kl_mv rfl ?_
    refine kl_inB rfl rfl (by assumption) (by omega) (fun p76 a77 => ?_)
    refine kl_ld rfl (by assumption) ?_
    refine kl_not rfl ?_
    refine kl_nil (kq_code ?_)
    refine kc_cond rfl (fun c78 => ?_) (fun c78 => ?_)
    ·skip
     have c78r := c78
     try simp only [Bool.not_eq_true', Bool.not_eq_false', Bool.not_true, Bool.not_false, decide_eq_true_eq, decide_eq_false_iff_not, Bool.and_eq_true, Bool.or_eq_false_iff] at c78
     refine kc_exit ?_
     refine kq_code ?_
     refine kc_seq (kc_region ?_)
     refine kl_mv rfl ?_
     refine kl_as rfl ?_
     refine kl_nil (kq_code ?_)
     refine kc_ret ?_
     refine kq_apart H71 (orHp K37 K62) (fun c79 => ?_)
     have e9 : (out ++ (playS m fa j (x ++ [((valsI (m.doms.getD x.length 0)).getD q 0)]))) = playS m fa (j + 1) x := by first | exact pl_end hi36 (by omega) | exact pl_hit hi36 (by omega) (pl_orW (by assumption)) (by simpa using (by assumption : (!(fa.getD x.length false)) = true))
     exact kq_ret rfl rfl (orHp H71 (orHp K37 K62)) (fr_or f74 (fr_or f42 f68)) ⟨H71, (orHp K37 K62), (us41 ++ us63), rfl, c79, (Mat.castX e9 m72)⟩
    ·skip
     have c78r := c78
     try simp only [Bool.not_eq_true', Bool.not_eq_false', Bool.not_true, Bool.not_false, decide_eq_true_eq, decide_eq_false_iff_not, Bool.and_eq_true, Bool.or_eq_false_iff] at c78
     refine kc_skipQ ?_
     refine kq_code ?_
     refine kc_region ?_
     refine kl_inc rfl rfl (by omega) ?_
     refine kl_mv rfl ?_
     refine kl_nil ?_
     refine kq_take [(orHp K37 K62), H71] ?_
     refine kq_roundL ((q + 1), (out ++ (playS m fa j (x ++ [((valsI (m.doms.getD x.length 0)).getD q 0)]))), v70, H71, (us41 ++ us63), (orHp K37 K62)) (by omega) (⟨by omega, (by first | exact pl_T hi36 (by omega) (by simpa using (by assumption : (!(fa.getD x.length false)) = false)) | exact pl_FI hi36 (by omega) hw (by assumption)), m72, (fr_or f42 f68), f74⟩) (pc 29 rfl (pc 8 rfl pn)) (pc 1 rfl (pc 2 rfl (pc 3 rfl (pc 6 rfl (pc 7 rfl (pc 27 rfl (pc 28 rfl pn))))))) rfl (List.Sublist.refl _)
  ·skip
   refine kc_exit ?_
   refine kq_code ?_
   refine kc_seq (kc_region ?_)
   refine kl_mv rfl ?_
   refine kl_as rfl ?_
   refine kl_nil (kq_code ?_)
   refine kc_ret ?_
   refine kq_apart H40 K37 (fun c80 => ?_)
   have e9 : out = playS m fa (j + 1) x := by first | exact pl_end hi36 (by omega) | exact pl_hit hi36 (by omega) (pl_orW (by assumption)) (by simpa using (by assumption : (!(fa.getD x.length false)) = true))
   exact kq_ret rfl rfl (orHp H40 K37) (fr_or f43 f42) ⟨H40, K37, us41, rfl, c80, (Mat.castX e9 o38)⟩
theorem playsI_ok (k : Nat) : playsISt k := by
 induction k using Nat.strongRecOn with
 | _ k ih => exact @playsI_step k ih
theorem clipR_ok {Hxs : Hp} {vxs : Value} (xs : List (List Int)) (hxs : Rows Hxs vxs xs) : Spec Tryz.prog 35 [vxs] [Hxs] (fun _ vq => Rows Hxs vq xs ∧ ClipV vxs vq xs.length) := by
 refine spec_of Tryz.func35 rfl rfl rfl (fun B => ?_)
 refine kc_seq (kc_region ?_)
 refine kl_as rfl ?_
 refine kl_nil (kq_code (kc_seq (kc_region ?_)))
 refine kl_mv rfl ?_
 refine kl_mv rfl ?_
 refine kl_len rfl (by assumption) (fun l1 => ?_)
 refine kl_mv rfl ?_
 refine kl_len rfl (by assumption) (fun l2 => ?_)
 refine kl_clipV rfl rfl rfl (by assumption) (by omega) (fun u3 h4 h4v => ?_)
 refine kl_as rfl ?_
 refine kl_nil (kq_code ?_)
 refine kc_ret ?_
 exact kq_ret rfl rfl noHp (fr_no _) ⟨by assumption, by assumption⟩
theorem strI_ok {Hmd : Hp} {vmd : Value} {Hmc : Hp} {vmc : Value} {Hfa : Hp} {vfa : Value} (m : Mod) (fa : List Bool) (hmd : Ints Hmd vmd m.doms) (hmc : Cons Hmc vmc m.cons) (hfa : Bools Hfa vfa fa) : Spec Tryz.prog 11 [.agg #[vmd, vmc], vfa] [Hmd, Hmc, Hfa] ((fun Hq vq => ∃ u : Value, vq = .tuple #[u, .bool (strB m fa)] ∧ MatR 23 3 encI Hq u (strL m fa))) := by
 refine spec_of Tryz.func11 rfl rfl rfl (fun B => ?_)
 refine kc_seq (kc_region ?_)
 refine kl_box rfl rfl (fun p1 H2 f3 a4 => ?_)
 refine kl_as rfl ?_
 refine kl_as rfl ?_
 refine kl_nil (kq_code ?_)
 refine kc_seq ?_
 refine kc_seq (kc_region ?_)
 refine kl_ldS rfl (by assumption) rfl ?_
 refine kl_mv rfl ?_
 refine kl_callP rfl rfl (gameOk_ok m fa (by assumption) (by assumption) (by assumption)) ?_
 refine kl_not rfl ?_
 refine kl_mv rfl ?_
 refine kl_join 5 15 (.bool (!(gOkB m fa) || !(winB m fa m.doms.length []))) (pc 1 rfl (pc 2 rfl (pc 4 rfl (pc 5 rfl (pc 10 rfl pn))))) (fun J6 => ?_) ?_
 ·rcases Bool.eq_false_or_eq_true (!(gOkB m fa)) with g5 | g5
  ·skip
   refine kl_gF rfl rfl g5 ?_
   refine kl_gF rfl rfl g5 ?_
   refine kl_gF rfl rfl g5 ?_
   refine kl_gF rfl rfl g5 ?_
   refine kl_orT (!(winB m fa m.doms.length [])) rfl rfl g5 ?_
   exact J6 _ (pc 15 rfl (pc 1 rfl (pc 2 rfl (pc 4 rfl (pc 5 rfl (pc 10 rfl pn))))))
  ·skip
   have g5p := g5
   try simp only [Bool.not_eq_true', Bool.not_eq_false', decide_eq_true_eq, decide_eq_false_iff_not, Bool.and_eq_true, Bool.or_eq_false_iff, withinB_iff] at g5p
   obtain ⟨hM0, hfl0⟩ := gok_of (m := m) (fa := fa) (by simpa using g5)
   refine kl_gT rfl rfl g5 ?_
   refine kl_ldS rfl (by assumption) rfl ?_
   refine kl_gT rfl rfl g5 ?_
   refine kl_mv rfl ?_
   refine kl_gT rfl rfl g5 ?_
   refine kl_callP rfl rfl (isTrue_ok m.doms.length m fa [] hM0 hfl0 (by simp) vals_nil (by assumption) (by assumption) (by assumption) (Sl.nil (H := noHp))) ?_
   refine kl_gT rfl rfl g5 ?_
   refine kl_not rfl ?_
   refine kl_orF rfl rfl g5 ?_
   exact J6 _ (pc 15 rfl (pc 1 rfl (pc 2 rfl (pc 4 rfl (pc 5 rfl (pc 10 rfl pn))))))
 refine kl_nil (kq_code ?_)
 refine kc_cond rfl (fun c7 => ?_) (fun c7 => ?_)
 ·skip
  have c7r := c7
  try simp only [Bool.not_eq_true', Bool.not_eq_false', Bool.not_true, Bool.not_false, decide_eq_true_eq, decide_eq_false_iff_not, Bool.and_eq_true, Bool.or_eq_false_iff] at c7
  refine kc_seq (kc_region ?_)
  refine kl_as rfl ?_
  refine kl_as rfl ?_
  refine kl_nil (kq_code ?_)
  refine kc_ret ?_
  exact kq_ret2 rfl rfl rfl (orHp noHp noHp) (fr_or (fr_no _) (fr_no _)) ⟨_, tup2 rfl (congrArg Value.bool (str_no (strI_c m fa) (by assumption))), by rw [strL_no (str_no (strI_c m fa) (by assumption))]; exact ⟨noHp, noHp, [], rfl, fun _ => .inl rfl, Mat.nil OwnS.nil⟩⟩
 ·skip
  have c7r := c7
  try simp only [Bool.not_eq_true', Bool.not_eq_false', Bool.not_true, Bool.not_false, decide_eq_true_eq, decide_eq_false_iff_not, Bool.and_eq_true, Bool.or_eq_false_iff] at c7
  have hok := str_yes (strI_c m fa) c7r
  obtain ⟨hM, hfl, hw⟩ := str_ok hok
  refine kc_skipQ ?_
  refine kq_code ?_
  refine kc_seq (kc_region ?_)
  refine kl_ldS rfl (by assumption) rfl ?_
  refine kl_mv rfl ?_
  refine kl_callL rfl rfl (playsI_ok m.doms.length m fa [] hM hfl (by simp) vals_nil hw (by assumption) (by assumption) (by assumption) (Sl.nil (H := noHp))) (fun v8 H9 f10 h11 => ?_)
  obtain ⟨H12, K13, us14, rfl, a15, m16⟩ := h11
  refine kl_split H12 K13 a15 ?_
  have f18 := fr_l f10 m16.hlq
  have f19 := fr_r f10 m16.lq
  refine kl_apart H12 K13 (fun c26 => ?_)
  have h27 := MatR.rows ⟨H12, K13, us14, rfl, c26, m16⟩
  refine kl_call rfl rfl (clipR_ok (playS m fa m.doms.length []) h27) (fun v20 H21 f22 h23 => ?_)
  obtain ⟨_, h24⟩ := h23
  have m25 := Mat.clip m16 h24
  refine kl_as rfl ?_
  refine kl_as rfl ?_
  refine kl_nil (kq_code ?_)
  refine kc_ret ?_
  refine kq_apart H12 K13 (fun c28 => ?_)
  exact kq_ret2 rfl rfl rfl (orHp H12 K13) (fr_or f18 f19) ⟨_, tup2 rfl (congrArg Value.bool hok.symm), H12, K13, us14, rfl, c28, Mat.castX (strL_at hok).symm m25⟩
theorem strS_ok {Hmd : Hp} {vmd : Value} {Hmc : Hp} {vmc : Value} {Hfa : Hp} {vfa : Value} (m : Mod) (fa : List Bool) (hmd : Ints Hmd vmd m.doms) (hmc : Cons Hmc vmc m.cons) (hfa : Bools Hfa vfa fa) : Spec Tryz.prog 12 [.agg #[vmd, vmc], vfa] [Hmd, Hmc, Hfa] (fun Hq vq => ∃ uq0 : Value, vq = .tuple #[uq0, .bool (strB m fa)] ∧ Rows Hq uq0 (strL m fa)) := by
 refine spec_of Tryz.func12 rfl rfl rfl (fun B => ?_)
 refine kc_seq (kc_region ?_)
 refine kl_box rfl rfl (fun p1 H2 f3 a4 => ?_)
 refine kl_as rfl ?_
 refine kl_as rfl ?_
 refine kl_nil (kq_code ?_)
 refine kc_seq ?_
 refine kc_seq (kc_region ?_)
 refine kl_ldS rfl (by assumption) rfl ?_
 refine kl_mv rfl ?_
 refine kl_callP rfl rfl (siqt_ok m fa (by assumption) (by assumption) (by assumption)) ?_
 refine kl_not rfl ?_
 refine kl_mv rfl ?_
 refine kl_join 4 14 (.bool (!(qtrueB m fa) || (m.doms.contains 0))) (pc 1 rfl (pc 2 rfl (pc 4 rfl (pc 5 rfl (pc 10 rfl pn))))) (fun J8 => ?_) ?_
 ·rcases Bool.eq_false_or_eq_true (!(qtrueB m fa)) with g5 | g5
  ·skip
   refine kl_gF rfl rfl g5 ?_
   refine kl_gF rfl rfl g5 ?_
   refine kl_gF rfl rfl g5 ?_
   refine kl_orT (m.doms.contains 0) rfl rfl g5 ?_
   exact J8 _ (pc 14 rfl (pc 1 rfl (pc 2 rfl (pc 4 rfl (pc 5 rfl (pc 10 rfl pn))))))
  ·skip
   have g5p := g5
   try simp only [Bool.not_eq_true', Bool.not_eq_false', decide_eq_true_eq, decide_eq_false_iff_not, Bool.and_eq_true, Bool.or_eq_false_iff, withinB_iff] at g5p
   refine kl_gT rfl rfl g5 ?_
   refine kl_fd rfl (by assumption) (fun p6 a7 => ?_)
   refine kl_gT rfl rfl g5 ?_
   refine kl_ld rfl (by assumption) ?_
   refine kl_gT rfl rfl g5 ?_
   refine kl_callP rfl rfl (hasEmpty_ok m.doms (by assumption)) ?_
   refine kl_orF rfl rfl g5 ?_
   exact J8 _ (pc 14 rfl (pc 1 rfl (pc 2 rfl (pc 4 rfl (pc 5 rfl (pc 10 rfl pn))))))
 refine kl_nil (kq_code ?_)
 refine kc_cond rfl (fun c9 => ?_) (fun c9 => ?_)
 ·skip
  have c9r := c9
  try simp only [Bool.not_eq_true', Bool.not_eq_false', Bool.not_true, Bool.not_false, decide_eq_true_eq, decide_eq_false_iff_not, Bool.and_eq_true, Bool.or_eq_false_iff] at c9
  refine kc_seq (kc_region ?_)
  refine kl_as rfl ?_
  refine kl_as rfl ?_
  refine kl_nil (kq_code ?_)
  refine kc_ret ?_
  refine kq_ret2 rfl rfl rfl noHp (fr_no _) ⟨_, tup2 rfl (congrArg Value.bool (by exact str_no (strS_c m fa) (by assumption))), ?_⟩
  exact (by have e9 : strL m fa = [] := (by exact strL_no (str_no (strS_c m fa) (by assumption))); rw [e9]; exact Sl.nil)
 ·skip
  have c9r := c9
  try simp only [Bool.not_eq_true', Bool.not_eq_false', Bool.not_true, Bool.not_false, decide_eq_true_eq, decide_eq_false_iff_not, Bool.and_eq_true, Bool.or_eq_false_iff] at c9
  have hok := str_yes (strS_c m fa) c9r
  obtain ⟨hM, hfl, hw⟩ := str_ok hok
  refine kc_skipQ ?_
  refine kq_code ?_
  refine kc_seq (kc_region ?_)
  refine kl_ldS rfl (by assumption) rfl ?_
  refine kl_mv rfl ?_
  refine kl_bsI [] rfl rfl rfl (by decide) (fun v10 H11 f12 o13 => ?_)
  refine kl_callL rfl rfl (playsS_ok m.doms.length m fa ([]) hM hfl (by simp) vals_nil (by assumption) (by assumption) (by assumption) (OwnL.ints o13)) (fun v14 H15 f16 h17 => ?_)
  obtain ⟨H18, K19, us20, rfl, a21, m22⟩ := h17
  refine kl_split H18 K19 a21 ?_
  have f24 := fr_l f16 m22.hlq
  have f25 := fr_r f16 m22.lq
  refine kl_as rfl ?_
  refine kl_as rfl ?_
  refine kl_nil (kq_code ?_)
  refine kc_ret ?_
  refine kq_apart H18 K19 (fun c26 => ?_)
  refine kq_ret2 rfl rfl rfl (orHp H18 K19) (fr_or f24 f25) ⟨_, tup2 rfl (congrArg Value.bool (by exact hok.symm)), ?_⟩
  exact (by have e9 : strL m fa = (playS m fa m.doms.length ([])) := (by exact strL_at hok); rw [e9]; exact MatR.rows ⟨H18, K19, us20, rfl, c26, m22⟩)
theorem isSolI_ok {Hmd : Hp} {vmd : Value} {Hmc : Hp} {vmc : Value} {Hx : Hp} {vx : Value} (m : Mod) (x : List Int) (hmd : Ints Hmd vmd m.doms) (hmc : Cons Hmc vmc m.cons) (hx : Ints Hx vx x) : SpecP Tryz.prog 8 [.agg #[vmd, vmc], vx] [Hmd, Hmc, Hx] (.bool (isSolT m x)) := by
 refine spec_of Tryz.func8 rfl rfl rfl (fun B => ?_)
 refine kc_seq (kc_region ?_)
 refine kl_box rfl rfl (fun p1 H2 f3 a4 => ?_)
 refine kl_as rfl ?_
 refine kl_nil (kq_code (kc_seq (kc_region ?_)))
 refine kl_ldS rfl (by assumption) rfl ?_
 refine kl_callP rfl rfl (validMod_ok m (by assumption) (by assumption)) ?_
 refine kl_mv rfl ?_
 refine kl_join 6 13 (.bool ((validModB m) && (decide ((x.length : Int) = (m.doms.length : Int)) && allInB x 0 5))) (pc 1 rfl (pc 2 rfl (pc 4 rfl (pc 7 rfl pn)))) (fun J9 => ?_) ?_
 ·rcases Bool.eq_false_or_eq_true (validModB m) with g5 | g5
  ·skip
   have g5p := g5
   try simp only [Bool.not_eq_true', Bool.not_eq_false', decide_eq_true_eq, decide_eq_false_iff_not, Bool.and_eq_true, Bool.or_eq_false_iff, withinB_iff] at g5p
   refine kl_gT rfl rfl g5 ?_
   refine kl_mv rfl ?_
   refine kl_gT rfl rfl g5 ?_
   refine kl_fd rfl (by assumption) (fun p6 a7 => ?_)
   refine kl_gT rfl rfl g5 ?_
   refine kl_ld rfl (by assumption) ?_
   refine kl_gT rfl rfl g5 ?_
   refine kl_len rfl (by assumption) (fun l8 => ?_)
   refine kl_gT rfl rfl g5 ?_
   refine kl_callP rfl rfl (assigned_ok x (m.doms.length : Int) (by assumption)) ?_
   refine kl_andT rfl rfl g5 ?_
   exact J9 _ (pc 13 rfl (pc 1 rfl (pc 2 rfl (pc 4 rfl (pc 7 rfl pn)))))
  ·skip
   refine kl_gF rfl rfl g5 ?_
   refine kl_gF rfl rfl g5 ?_
   refine kl_gF rfl rfl g5 ?_
   refine kl_gF rfl rfl g5 ?_
   refine kl_gF rfl rfl g5 ?_
   refine kl_andF (decide ((x.length : Int) = (m.doms.length : Int)) && allInB x 0 5) rfl rfl g5 ?_
   exact J9 _ (pc 13 rfl (pc 1 rfl (pc 2 rfl (pc 4 rfl (pc 7 rfl pn)))))
 refine kl_mv rfl ?_
 refine kl_join 4 18 (.bool (((validModB m) && (decide ((x.length : Int) = (m.doms.length : Int)) && allInB x 0 5)) && (isSolB m x))) (pc 4 rfl (pc 14 rfl pn)) (fun J11 => ?_) ?_
 ·rcases Bool.eq_false_or_eq_true ((validModB m) && (decide ((x.length : Int) = (m.doms.length : Int)) && allInB x 0 5)) with g10 | g10
  ·skip
   have g10p := g10
   try simp only [Bool.not_eq_true', Bool.not_eq_false', decide_eq_true_eq, decide_eq_false_iff_not, Bool.and_eq_true, Bool.or_eq_false_iff, withinB_iff] at g10p
   have hM : MOk m := ⟨g10p.1⟩
   have hl : x.length = m.doms.length := (by have := g10p.2.1; omega)
   have hX : Vals x := vals_of g10p.2.2
   refine kl_gT rfl rfl g10 ?_
   refine kl_ldS rfl (by assumption) rfl ?_
   refine kl_gT rfl rfl g10 ?_
   refine kl_mv rfl ?_
   refine kl_gT rfl rfl g10 ?_
   refine kl_callP rfl rfl (isSol_ok m x hM hl hX (by assumption) (by assumption) (by assumption)) ?_
   refine kl_andT rfl rfl g10 ?_
   exact J11 _ (pc 18 rfl (pc 4 rfl (pc 14 rfl pn)))
  ·skip
   refine kl_gF rfl rfl g10 ?_
   refine kl_gF rfl rfl g10 ?_
   refine kl_gF rfl rfl g10 ?_
   refine kl_andF (isSolB m x) rfl rfl g10 ?_
   exact J11 _ (pc 18 rfl (pc 4 rfl (pc 14 rfl pn)))
 refine kl_as rfl ?_
 refine kl_nil (kq_code ?_)
 refine kc_ret ?_
 refine kq_retP rfl rfl (congrArg Value.bool ?_)
 rfl
theorem drawQt_ok {Hcode : Hp} {vcode : Value} (code : List Int) (hcode : Bytes Hcode vcode code) : Spec Tryz.prog 34 [vcode] [Hcode] (fun Hq vq => ∃ (mq : Mod) (fq : List Bool) (uq0a uq0b uq1 : Value), vq = .tuple #[.agg #[uq0a, uq0b], uq1] ∧ Ints Hq uq0a mq.doms ∧ Cons Hq uq0b mq.cons ∧ Bools Hq uq1 fq ∧ ModSm 100 mq ∧ fq.length ≤ 5) := by
 refine spec_ofR Tryz.func34 rfl rfl rfl (fun B => ?_)
 refine kc_seq (kc_region ?_)
 refine kl_alloc (cs := [.slice none 0 0, .slice none 0 0]) rfl (fun b1 hb2 => ?_)
 refine kl_as rfl ?_
 refine kl_nil (kq_code (kc_seq (kc_region ?_)))
 refine kl_mv rfl ?_
 refine kl_callT rfl rfl (newReader_ok code hcode) (fun v3 L1 Ln K7 h4 f5 f6 => ?_)
 obtain ⟨rfl, b8, v9, x10, rfl, rfl, h11⟩ := h4
 refine kl_norm ?_
 refine kl_as rfl ?_
 refine kl_nil (kq_code (kc_seq (kc_region ?_)))
 refine kl_mv rfl ?_
 refine kl_callT rfl rfl (gameModel_ok 0 (by omega) h11) (fun v12 L1 Ln K16 h13 f14 f15 => ?_)
 obtain ⟨q17, h18, rfl, H21, M23, v24, v25, z19, rfl, rfl, o22, o26, h20⟩ := h13
 have f27 := f14 _ (.head _)
 have f28 := f14 _ (.tail _ (.head _))
 have hd1 := h20.d1
 have hd4 := h20.d
 have hc1 := h20.c
 have hcc := h20.cc
 refine kl_norm ?_
 refine kl_alloc (cs := [.slice none 0 0, .slice none 0 0]) rfl (fun b29 hb30 => ?_)
 refine kl_stW (us := [v24, v25]) rfl rfl rfl rfl (oc (OwnL.oneCell (by assumption)) (oc (OwnL.oneCell (by assumption)) oc_nil)) rfl ?_
 refine kl_chg [sing b29 (.cells [v24, v25].toArray 26 (0, 0)), sing b8 (.cells [v9, .int .i64 (q17 : Int)].toArray 59 (0, 0)), H21, M23, sing b1 (.cells [.slice none 0 0, .slice none 0 0].toArray 26 (0, 0))] rfl ?_
 refine kl_nil (kq_code ?_)
 refine kc_seq ?_
 refine kc_tree (fun i => ([6] : List Nat).contains i) [sing b29 (.cells [v24, v25].toArray 26 (0, 0))] (by kernel_rfl) ?_
 refine kt_q 0 (.cons_cons _ (List.nil_sublist _)) rfl (by kernel_rfl) ?_
 refine kl_ldS rfl (at_box (T := 26) (cs := [v24, v25]) (off := 0) (fz := (0, 0))) rfl ?_
 refine kl_nil (kq_q ?_)
 refine kt_q 1 (.cons_cons _ (List.nil_sublist _)) rfl (by kernel_rfl) ?_
 refine kl_mv rfl ?_
 refine kl_nil (kq_q ?_)
 refine kt_q 2 (.cons_cons _ (List.nil_sublist _)) rfl (by kernel_rfl) ?_
 refine kl_fdV rfl ?_
 refine kl_nil (kq_q ?_)
 refine kt_q 3 (.cons_cons _ (List.nil_sublist _)) rfl (by kernel_rfl) ?_
 refine kl_ld rfl (at_box (T := 26) (cs := [v24, v25]) (off := 0) (fz := (0, 0))) ?_
 refine kl_nil (kq_q ?_)
 refine kt_q 4 (.cons_cons _ (List.nil_sublist _)) rfl (by kernel_rfl) ?_
 refine kl_lenL rfl o22 (fun l31 => ?_)
 refine kl_nil (kq_q ?_)
 refine kt_a 5 rfl (by kernel_rfl) ?_
 refine kl_callT rfl rfl (quantifiers_ok q17 (z19.doms.length : Int) (by first | assumption | omega) (by omega) h11) (fun v32 L1 Ln K36 h33 f34 f35 => ?_)
 obtain ⟨q37, h38, rfl, H41, z39, rfl, o42, h40⟩ := h33
 have f43 := f34 _ (.head _)
 refine kl_norm ?_
 refine kl_nil (kq_a (.cons _ (.cons _ (.cons_cons _ (List.nil_sublist _)))) ?_)
 refine kt_a 6 rfl (by kernel_rfl) ?_
 refine kl_stW (us := [v24, v25]) rfl rfl rfl rfl (oc (OwnL.oneCell (by assumption)) (oc (OwnL.oneCell (by assumption)) oc_nil)) rfl ?_
 refine kl_chg [sing b8 (.cells [v9, .int .i64 (q37 : Int)].toArray 59 (0, 0)), H41, sing b29 (.cells [v24, v25].toArray 26 (0, 0)), H21, M23, sing b1 (.cells [v24, v25].toArray 26 (0, 0))] rfl ?_
 refine kl_nil (kq_x rfl ?_)
 refine kt_q 7 (.cons _ (.cons _ (.cons_cons _ (List.nil_sublist _)))) rfl (by kernel_rfl) ?_
 refine kl_as rfl ?_
 refine kl_nil (kq_q ?_)
 refine kt_end (by kernel_rfl) ?_
 refine kq_code ?_
 refine kc_ret ?_
 refine kq_frz H21 ?_
 refine kq_frz M23 ?_
 refine kq_cmp M23 K16 (fun c44 => ?_)
 refine kq_frz H41 ?_
 refine kq_cmp (orHp M23 K16) H41 (fun c45 => ?_)
 refine kq_cmp H21 (orHp (orHp M23 K16) H41) (fun c46 => ?_)
 exact kq_retR (rss2 rfl (rs_agg rfl rfl) (rs_tmp rfl)) (orHp H21 (orHp (orHp M23 K16) H41)) (fr_or f27 (fr_or (fr_or f28 f15) f43)) ⟨(⟨z19.doms, z19.cons⟩ : Mod), z39, _, _, _, rfl, (Sl.mono (OwnL.ints o22) (fun b o h => orL b o h) (fun _ _ h => h)), (Cons.mono' (OwnL.consK o26 c44) (fun b o h => orC c46 b o (orL b o h))), (Sl.mono (OwnL.bools o42) (fun b o h => orC c46 b o (orC c45 b o h)) (fun _ _ h => h)), by exact ⟨by (constructor <;> dsimp only <;> first | omega | assumption), by assumption⟩⟩ .none
theorem equalInts_ok {Ha : Hp} {va : Value} {Hb : Hp} {vb : Value} (a : List Int) (b : List Int) (ha : Ints Ha va a) (hb : Ints Hb vb b) : SpecP Tryz.prog 39 [va, vb] [Ha, Hb] (.bool (decide (a = b))) := by
 refine spec_of Tryz.func39 rfl rfl rfl (fun B => ?_)
 refine kc_seq (kc_region ?_)
 refine kl_as rfl ?_
 refine kl_nil (kq_code ?_)
 refine kc_seq ?_
 refine kc_seq (kc_region ?_)
 refine kl_mv rfl ?_
 refine kl_len rfl (by assumption) (fun l1 => ?_)
 refine kl_mv rfl ?_
 refine kl_len rfl (by assumption) (fun l2 => ?_)
 refine kl_neq rfl rfl ?_
 refine kl_nil (kq_code ?_)
 refine kc_if rfl (fun c3 => ?_) (fun c3 => ?_)
 ·skip
  refine kc_seq (kc_region ?_)
  refine kl_as rfl ?_
  refine kl_nil (kq_code ?_)
  refine kc_ret ?_
  refine kq_retP rfl rfl (congrArg Value.bool ?_)
  exact eq_len (by assumption)
 ·skip
  refine kc_skipQ ?_
  refine kq_code ?_
  refine kc_seq ?_
  refine kc_seq (kc_region ?_)
  refine kl_as rfl ?_
  refine kl_nil (kq_code ?_)
  refine kc_block ?_
  refine kc_loop0 (A := Nat) (fun zz => (zz ≤ a.length) ∧ (a.take zz = b.take zz)) (fun zz => a.length - zz) (fun zz => [(5, .int .i64 (zz : Int))]) (0) (pc 0 rfl (pc 1 rfl pn)) (pc 5 rfl pn) ⟨Nat.zero_le _, by simp⟩ ?_
  rintro k hJ6
  obtain ⟨hk4, hi5⟩ : (k ≤ a.length) ∧ (a.take k = b.take k) := hJ6
  change KC _ _ (_) _ _ ([(5, .int .i64 (k : Int))] ++ _)
  refine kc_seq ?_
  refine kc_seq (kc_region ?_)
  refine kl_mv rfl ?_
  refine kl_mv rfl ?_
  refine kl_len rfl (by assumption) (fun l7 => ?_)
  refine kl_lss rfl rfl ?_
  refine kl_nil (kq_code ?_)
  refine kc_if rfl (fun c8 => ?_) (fun c8 => ?_)
  ·skip
   refine kc_skipQ ?_
   refine kq_code ?_
   refine kc_seq ?_
   refine kc_block ?_
   refine kc_seq ?_
   refine kc_draw 9 [true, true, true, true, true, true, true, true, true] (by kernel_rfl) (by kernel_rfl) ?_
   refine kl_mv rfl ?_
   refine kl_mv rfl ?_
   refine kl_inI rfl rfl (by assumption) (by omega) (fun p9 a10 => ?_)
   refine kl_ld rfl (by assumption) ?_
   refine kl_mv rfl ?_
   refine kl_mv rfl ?_
   refine kl_inI rfl rfl (by assumption) (by omega) (fun p11 a12 => ?_)
   refine kl_ld rfl (by assumption) ?_
   refine kl_neq rfl rfl ?_
   refine kl_nil (kq_code ?_)
   refine kc_if rfl (fun c13 => ?_) (fun c13 => ?_)
   ·skip
    refine kc_seq (kc_region ?_)
    refine kl_as rfl ?_
    refine kl_nil (kq_code ?_)
    refine kc_ret ?_
    refine kq_retP rfl rfl (congrArg Value.bool ?_)
    exact eq_at (k := k) 0 (by simpa using by assumption)
   ·skip
    refine kc_skipQ ?_
    refine kq_code ?_
    refine kc_region ?_
    refine kl_mv rfl ?_
    refine kl_inc rfl rfl (by omega) ?_
    refine kl_as rfl ?_
    refine kl_nil ?_
    refine kq_round0 ((k + 1)) (by omega) (⟨by omega, eq_step 0 (by omega) (by omega) hi5 (by first | exact Decidable.not_not.1 (by assumption) | (simpa using by assumption))⟩) (pc 5 rfl pn) (pc 0 rfl (pc 1 rfl pn)) (List.Sublist.refl _)
  ·skip
   refine kc_exit ?_
   refine kq_code ?_
   refine kc_seq (kc_region ?_)
   refine kl_as rfl ?_
   refine kl_nil (kq_code ?_)
   refine kc_ret ?_
   refine kq_retP rfl rfl (congrArg Value.bool ?_)
   exact eq_end (k := k) (by omega) (by omega) (by assumption)
theorem equalLists_ok {Ha : Hp} {va : Value} {Hb : Hp} {vb : Value} (a : List (List Int)) (b : List (List Int)) (ha : Rows Ha va a) (hb : Rows Hb vb b) : SpecP Tryz.prog 13 [va, vb] [Ha, Hb] (.bool (decide (a = b))) := by
 refine spec_of Tryz.func13 rfl rfl rfl (fun B => ?_)
 refine kc_seq (kc_region ?_)
 refine kl_as rfl ?_
 refine kl_nil (kq_code ?_)
 refine kc_seq ?_
 refine kc_seq (kc_region ?_)
 refine kl_mv rfl ?_
 refine kl_len rfl (by assumption) (fun l1 => ?_)
 refine kl_mv rfl ?_
 refine kl_len rfl (by assumption) (fun l2 => ?_)
 refine kl_neq rfl rfl ?_
 refine kl_nil (kq_code ?_)
 refine kc_if rfl (fun c3 => ?_) (fun c3 => ?_)
 ·skip
  refine kc_seq (kc_region ?_)
  refine kl_as rfl ?_
  refine kl_nil (kq_code ?_)
  refine kc_ret ?_
  refine kq_retP rfl rfl (congrArg Value.bool ?_)
  exact eq_len (by assumption)
 ·skip
  refine kc_skipQ ?_
  refine kq_code ?_
  refine kc_seq ?_
  refine kc_seq (kc_region ?_)
  refine kl_as rfl ?_
  refine kl_nil (kq_code ?_)
  refine kc_block ?_
  refine kc_loop0 (A := Nat) (fun zz => (zz ≤ a.length) ∧ (a.take zz = b.take zz)) (fun zz => a.length - zz) (fun zz => [(5, .int .i64 (zz : Int))]) (0) (pc 0 rfl (pc 1 rfl pn)) (pc 5 rfl pn) ⟨Nat.zero_le _, by simp⟩ ?_
  rintro k hJ6
  obtain ⟨hk4, hi5⟩ : (k ≤ a.length) ∧ (a.take k = b.take k) := hJ6
  change KC _ _ (_) _ _ ([(5, .int .i64 (k : Int))] ++ _)
  refine kc_seq ?_
  refine kc_seq (kc_region ?_)
  refine kl_mv rfl ?_
  refine kl_mv rfl ?_
  refine kl_len rfl (by assumption) (fun l7 => ?_)
  refine kl_lss rfl rfl ?_
  refine kl_nil (kq_code ?_)
  refine kc_if rfl (fun c8 => ?_) (fun c8 => ?_)
  ·skip
   refine kc_skipQ ?_
   refine kq_code ?_
   refine kc_seq ?_
   refine kc_block ?_
   refine kc_seq ?_
   refine kc_draw 10 [true, true, true, true, true, true, true, true, false, true] (by kernel_rfl) (by kernel_rfl) ?_
   refine kl_mv rfl ?_
   refine kl_mv rfl ?_
   refine kl_inS rfl rfl (by assumption) (by omega) (fun p9 u11 h12 a10 => ?_)
   refine kl_ld rfl (by assumption) ?_
   refine kl_mv rfl ?_
   refine kl_mv rfl ?_
   refine kl_inS rfl rfl (by assumption) (by omega) (fun p13 u15 h16 a14 => ?_)
   refine kl_ld rfl (by assumption) ?_
   refine kl_callP rfl rfl (equalInts_ok (a.getD k []) (b.getD k []) (by assumption) (by assumption)) ?_
   refine kl_not rfl ?_
   refine kl_nil (kq_code ?_)
   refine kc_cond rfl (fun c17 => ?_) (fun c17 => ?_)
   ·skip
    have c17r := c17
    try simp only [Bool.not_eq_true', Bool.not_eq_false', Bool.not_true, Bool.not_false, decide_eq_true_eq, decide_eq_false_iff_not, Bool.and_eq_true, Bool.or_eq_false_iff] at c17
    refine kc_seq (kc_region ?_)
    refine kl_as rfl ?_
    refine kl_nil (kq_code ?_)
    refine kc_ret ?_
    refine kq_retP rfl rfl (congrArg Value.bool ?_)
    exact eq_at (k := k) [] (by simpa using by assumption)
   ·skip
    have c17r := c17
    try simp only [Bool.not_eq_true', Bool.not_eq_false', Bool.not_true, Bool.not_false, decide_eq_true_eq, decide_eq_false_iff_not, Bool.and_eq_true, Bool.or_eq_false_iff] at c17
    refine kc_skipQ ?_
    refine kq_code ?_
    refine kc_region ?_
    refine kl_mv rfl ?_
    refine kl_inc rfl rfl (by omega) ?_
    refine kl_as rfl ?_
    refine kl_nil ?_
    refine kq_round0 ((k + 1)) (by omega) (⟨by omega, eq_step [] (by omega) (by omega) hi5 (by first | exact Decidable.not_not.1 (by assumption) | (simpa using by assumption))⟩) (pc 5 rfl pn) (pc 0 rfl (pc 1 rfl pn)) (List.Sublist.refl _)
  ·skip
   refine kc_exit ?_
   refine kq_code ?_
   refine kc_seq (kc_region ?_)
   refine kl_as rfl ?_
   refine kl_nil (kq_code ?_)
   refine kc_ret ?_
   refine kq_retP rfl rfl (congrArg Value.bool ?_)
   exact eq_end (k := k) (by omega) (by omega) (by assumption)
theorem drawStr_ok {Hcode : Hp} {vcode : Value} (code : List Int) (hcode : Bytes Hcode vcode code) : Spec Tryz.prog 10 [vcode] [Hcode] (fun Hq vq => ∃ (mq : Mod) (fq : List Bool) (uq0a uq0b uq1 : Value), vq = .tuple #[.agg #[uq0a, uq0b], uq1] ∧ Ints Hq uq0a mq.doms ∧ Cons Hq uq0b mq.cons ∧ Bools Hq uq1 fq ∧ ModSm 100 mq ∧ fq.length ≤ 5) := by
 refine spec_ofR Tryz.func10 rfl rfl rfl (fun B => ?_)
 refine kc_seq (kc_region ?_)
 refine kl_alloc (cs := [.slice none 0 0, .slice none 0 0]) rfl (fun b1 hb2 => ?_)
 refine kl_as rfl ?_
 refine kl_nil (kq_code (kc_seq (kc_region ?_)))
 refine kl_mv rfl ?_
 refine kl_call rfl rfl (drawQt_ok code hcode) (fun v3 H4 f5 h6 => ?_)
 obtain ⟨z9, z14, u10, u11, u15, rfl, h12, h13, h16, h8⟩ := h6
 refine kl_xt rfl rfl ?_
 refine kl_xt rfl rfl ?_
 refine kl_stW (us := [u10, u11]) rfl rfl rfl rfl (oc (Sl.oneCell (by assumption)) (oc (Sl.oneCell (by assumption)) oc_nil)) rfl ?_
 refine kl_chg [sing b1 (.cells [u10, u11].toArray 26 (0, 0))] rfl ?_
 refine kl_as rfl ?_
 refine kl_nil (kq_code ?_)
 refine kc_ret ?_
 refine kq_cmp H4 H4 (fun c17 => ?_)
 refine kq_cmp H4 (orHp H4 H4) (fun c18 => ?_)
 exact kq_retR (rss2 rfl (rs_agg rfl rfl) (rs_tmp rfl)) (orHp H4 (orHp H4 H4)) (fr_or f5 (fr_or f5 f5)) ⟨(⟨z9.doms, z9.cons⟩ : Mod), z14, _, _, _, rfl, (Sl.mono (by assumption) (fun b o h => orL b o h) (fun _ _ h => h)), (Cons.mono' (by assumption) (fun b o h => orC c18 b o (orL b o h))), (Sl.mono (by assumption) (fun b o h => orC c18 b o (orC c17 b o h)) (fun _ _ h => h)), by assumption⟩ .none
theorem lawFnSt_ok {Hcode : Hp} {vcode : Value} (code : List Int) (hcode : Bytes Hcode vcode code) : SpecP Tryz.prog 4 [vcode] [Hcode] (.bool true) := by
 refine spec_of Tryz.func4 rfl rfl rfl (fun B => ?_)
 refine kc_seq (kc_region ?_)
 refine kl_as rfl ?_
 refine kl_nil (kq_code ?_)
 refine kc_seq ?_
 refine kc_seq (kc_region ?_)
 refine kl_mv rfl ?_
 refine kl_len rfl (by assumption) (fun l1 => ?_)
 refine kl_gtr rfl rfl ?_
 refine kl_nil (kq_code ?_)
 refine kc_if rfl (fun c2 => ?_) (fun c2 => ?_)
 ·skip
  refine kc_seq (kc_region ?_)
  refine kl_as rfl ?_
  refine kl_nil (kq_code ?_)
  refine kc_ret ?_
  refine kq_retP rfl rfl (congrArg Value.bool ?_)
  first | exact str_fin hnone (by omega) | rfl | (simp; done)
 ·skip
  refine kc_skipQ ?_
  refine kq_code ?_
  refine kc_seq (kc_region ?_)
  refine kl_mv rfl ?_
  refine kl_call rfl rfl (drawStr_ok code hcode) (fun v3 H4 f5 h6 => ?_)
  obtain ⟨z9, z14, u10, u11, u15, rfl, h12, h13, h16, h8⟩ := h6
  have hd1 := h8.1.d1
  have hd4 := h8.1.d
  refine kl_mv rfl ?_
  refine kl_xt rfl rfl ?_
  refine kl_xt rfl rfl ?_
  refine kl_alloc (cs := [.slice none 0 0, .slice none 0 0]) rfl (fun b17 hb18 => ?_)
  refine kl_stW (us := [u10, u11]) rfl rfl rfl rfl (oc (Sl.oneCell (by assumption)) (oc (Sl.oneCell (by assumption)) oc_nil)) rfl ?_
  refine kl_chg [sing b17 (.cells [u10, u11].toArray 26 (0, 0))] rfl ?_
  refine kl_as rfl ?_
  refine kl_nil (kq_code (kc_seq (kc_region ?_)))
  refine kl_ldW rfl rfl ?_
  refine kl_mv rfl ?_
  refine kl_call rfl rfl ((strI_ok z9 z14 (by assumption) (by assumption) (by assumption)).mono (fun _ _ h => strI_rows h)) (fun v19 H20 f21 h22 => ?_)
  obtain ⟨u23, rfl, h24⟩ := h22
  refine kl_mv rfl ?_
  refine kl_xt rfl rfl ?_
  refine kl_xt rfl rfl ?_
  refine kl_as rfl ?_
  refine kl_as rfl ?_
  refine kl_nil (kq_code (kc_seq (kc_region ?_)))
  refine kl_ldW rfl rfl ?_
  refine kl_mv rfl ?_
  refine kl_call rfl rfl (strS_ok z9 z14 (by assumption) (by assumption) (by assumption)) (fun v25 H26 f27 h28 => ?_)
  obtain ⟨u29, rfl, h30⟩ := h28
  refine kl_mv rfl ?_
  refine kl_xt rfl rfl ?_
  refine kl_xt rfl rfl ?_
  refine kl_as rfl ?_
  refine kl_as rfl ?_
  refine kl_nil (kq_code ?_)
  refine kc_seq ?_
  refine kc_seq (kc_region ?_)
  refine kl_mv rfl ?_
  refine kl_mv rfl ?_
  refine kl_bne rfl rfl ?_
  refine kl_mv rfl ?_
  refine kl_join 5 40 (.bool (((strB z9 z14) != (strB z9 z14)) || !(decide ((strL z9 z14) = (strL z9 z14))))) (pc 2 rfl (pc 3 rfl (pc 4 rfl (pc 5 rfl (pc 6 rfl (pc 35 rfl pn)))))) (fun J32 => ?_) ?_
  ·rcases Bool.eq_false_or_eq_true ((strB z9 z14) != (strB z9 z14)) with g31 | g31
   ·skip
    refine kl_gF rfl rfl g31 ?_
    refine kl_gF rfl rfl g31 ?_
    refine kl_gF rfl rfl g31 ?_
    refine kl_gF rfl rfl g31 ?_
    refine kl_orT (!(decide ((strL z9 z14) = (strL z9 z14)))) rfl rfl g31 ?_
    exact J32 _ (pc 40 rfl (pc 2 rfl (pc 3 rfl (pc 4 rfl (pc 5 rfl (pc 6 rfl (pc 35 rfl pn)))))))
   ·skip
    have g31p := g31
    try simp only [Bool.not_eq_true', Bool.not_eq_false', decide_eq_true_eq, decide_eq_false_iff_not, Bool.and_eq_true, Bool.or_eq_false_iff, withinB_iff] at g31p
    refine kl_gT rfl rfl g31 ?_
    refine kl_mv rfl ?_
    refine kl_gT rfl rfl g31 ?_
    refine kl_mv rfl ?_
    refine kl_gT rfl rfl g31 ?_
    refine kl_callP rfl rfl (equalLists_ok (strL z9 z14) (strL z9 z14) (by assumption) (by assumption)) ?_
    refine kl_gT rfl rfl g31 ?_
    refine kl_not rfl ?_
    refine kl_orF rfl rfl g31 ?_
    exact J32 _ (pc 40 rfl (pc 2 rfl (pc 3 rfl (pc 4 rfl (pc 5 rfl (pc 6 rfl (pc 35 rfl pn)))))))
  refine kl_nil (kq_code ?_)
  refine kc_cond rfl (fun c33 => ?_) (fun c33 => ?_)
  ·skip
   have c33r := c33
   try simp only [Bool.not_eq_true', Bool.not_eq_false', Bool.not_true, Bool.not_false, decide_eq_true_eq, decide_eq_false_iff_not, Bool.and_eq_true, Bool.or_eq_false_iff] at c33
   exact absurd c33r (by simp)
  ·skip
   have c33r := c33
   try simp only [Bool.not_eq_true', Bool.not_eq_false', Bool.not_true, Bool.not_false, decide_eq_true_eq, decide_eq_false_iff_not, Bool.and_eq_true, Bool.or_eq_false_iff] at c33
   refine kc_skipQ ?_
   refine kq_code ?_
   refine kc_seq ?_
   refine kc_seq (kc_region ?_)
   refine kl_as rfl ?_
   refine kl_nil (kq_code ?_)
   refine kc_block ?_
   refine kc_loop0 (A := Nat) (fun zz => (zz ≤ (strL z9 z14).length)) (fun zz => (strL z9 z14).length - zz) (fun zz => [(9, .int .i64 (zz : Int))]) (0) (pc 3 rfl (pc 4 rfl (pc 5 rfl (pc 6 rfl pn)))) (pc 9 rfl pn) (Nat.zero_le _) ?_
   rintro k hJ36
   have hk34 : (k ≤ (strL z9 z14).length) := hJ36
   change KC _ _ (_) _ _ ([(9, .int .i64 (k : Int))] ++ _)
   refine kc_seq ?_
   refine kc_seq (kc_region ?_)
   refine kl_mv rfl ?_
   refine kl_mv rfl ?_
   refine kl_len rfl (by assumption) (fun l37 => ?_)
   refine kl_lss rfl rfl ?_
   refine kl_nil (kq_code ?_)
   refine kc_if rfl (fun c38 => ?_) (fun c38 => ?_)
   ·skip
    refine kc_skipQ ?_
    refine kq_code ?_
    refine kc_seq ?_
    refine kc_block ?_
    refine kc_seq ?_
    refine kc_tree (fun i => ([5] : List Nat).contains i) [sing b17 (.cells [u10, u11].toArray 26 (0, 0))] (by kernel_rfl) ?_
    refine kt_q 0 (.cons_cons _ (List.nil_sublist _)) rfl (by kernel_rfl) ?_
    refine kl_ldS rfl (at_box (T := 26) (cs := [u10, u11]) (off := 0) (fz := (0, 0))) rfl ?_
    refine kl_nil (kq_q ?_)
    refine kt_q 1 (.cons_cons _ (List.nil_sublist _)) rfl (by kernel_rfl) ?_
    refine kl_mv rfl ?_
    refine kl_nil (kq_q ?_)
    refine kt_q 2 (.cons_cons _ (List.nil_sublist _)) rfl (by kernel_rfl) ?_
    refine kl_mv rfl ?_
    refine kl_nil (kq_q ?_)
    refine kt_q 3 (.cons_cons _ (List.nil_sublist _)) rfl (by kernel_rfl) ?_
    refine kl_inS rfl rfl (by assumption) (by omega) (fun p39 u41 h42 a40 => ?_)
    refine kl_nil (kq_q ?_)
    refine kt_q 4 (.cons_cons _ (List.nil_sublist _)) rfl (by kernel_rfl) ?_
    refine kl_ld rfl (by assumption) ?_
    refine kl_nil (kq_q ?_)
    refine kt_a 5 rfl (by kernel_rfl) ?_
    refine kl_callP rfl rfl (isSolI_ok z9 ((strL z9 z14).getD k []) (by assumption) (by assumption) (by assumption)) ?_
    refine kl_nil (kq_x rfl ?_)
    refine kt_q 6 (.cons_cons _ (List.nil_sublist _)) rfl (by kernel_rfl) ?_
    refine kl_not rfl ?_
    refine kl_nil (kq_q ?_)
    refine kt_end (by kernel_rfl) ?_
    refine kq_code ?_
    refine kc_cond rfl (fun c43 => ?_) (fun c43 => ?_)
    ·skip
     have c43r := c43
     try simp only [Bool.not_eq_true', Bool.not_eq_false', Bool.not_true, Bool.not_false, decide_eq_true_eq, decide_eq_false_iff_not, Bool.and_eq_true, Bool.or_eq_false_iff] at c43
     exact absurd c43r (by rw [str_sol (by omega)]; simp)
    ·skip
     have c43r := c43
     try simp only [Bool.not_eq_true', Bool.not_eq_false', Bool.not_true, Bool.not_false, decide_eq_true_eq, decide_eq_false_iff_not, Bool.and_eq_true, Bool.or_eq_false_iff] at c43
     refine kc_skipQ ?_
     refine kq_code ?_
     refine kc_region ?_
     refine kl_mv rfl ?_
     refine kl_inc rfl rfl (by omega) ?_
     refine kl_as rfl ?_
     refine kl_nil ?_
     refine kq_round0 ((k + 1)) (by omega) (by omega) (pc 9 rfl pn) (pc 3 rfl (pc 4 rfl (pc 5 rfl (pc 6 rfl pn)))) (List.Sublist.refl _)
   ·skip
    refine kc_exit ?_
    refine kq_code ?_
    refine kc_seq (kc_region ?_)
    refine kl_as rfl ?_
    refine kl_nil (kq_code ?_)
    refine kc_seq ?_
    refine kc_seq (kc_region ?_)
    refine kl_as rfl ?_
    refine kl_nil (kq_code ?_)
    refine kc_block ?_
    refine kc_loop0 (A := Nat × Bool) (fun zz => (zz.1 ≤ z9.doms.length) ∧ (zz.2 = (z9.doms.take zz.1).all (fun d => decide (d ≠ 0)))) (fun zz => z9.doms.length - zz.1) (fun zz => [(11, .int .i64 (zz.1 : Int)), (10, .bool zz.2)]) (0, true) (pc 3 rfl (pc 4 rfl (pc 5 rfl (pc 6 rfl pn)))) (pc 11 rfl (pc 10 rfl pn)) ⟨Nat.zero_le _, (by simp)⟩ ?_
    rintro ⟨k2, b⟩ hJ46
    obtain ⟨hk44, hi45⟩ : (k2 ≤ z9.doms.length) ∧ (b = (z9.doms.take k2).all (fun d => decide (d ≠ 0))) := hJ46
    change KC _ _ (_) _ _ ([(11, .int .i64 (k2 : Int)), (10, .bool b)] ++ _)
    refine kc_seq ?_
    refine kc_seq (kc_region ?_)
    refine kl_mv rfl ?_
    refine kl_fdV rfl ?_
    refine kl_ldB rfl rfl ?_
    refine kl_len rfl (by assumption) (fun l47 => ?_)
    refine kl_lss rfl rfl ?_
    refine kl_nil (kq_code ?_)
    refine kc_if rfl (fun c48 => ?_) (fun c48 => ?_)
    ·skip
     refine kc_skipQ ?_
     refine kq_code ?_
     refine kc_seq ?_
     refine kc_block ?_
     refine kc_region ?_
     refine kl_mv rfl ?_
     refine kl_mv rfl ?_
     refine kl_join 7 69 (.bool (b && decide ((z9.doms.getD k2 0) ≠ (0 : Int)))) (pc 3 rfl (pc 4 rfl (pc 5 rfl (pc 6 rfl (pc 10 rfl (pc 11 rfl (pc 54 rfl (pc 55 rfl (pc 56 rfl (pc 57 rfl (pc 58 rfl (pc 61 rfl (pc 62 rfl pn))))))))))))) (fun J52 => ?_) ?_
     ·rcases Bool.eq_false_or_eq_true b with g49 | g49
      ·skip
       have g49p := g49
       try simp only [Bool.not_eq_true', Bool.not_eq_false', decide_eq_true_eq, decide_eq_false_iff_not, Bool.and_eq_true, Bool.or_eq_false_iff, withinB_iff] at g49p
       refine kl_gT rfl rfl g49 ?_
       refine kl_fdV rfl ?_
       refine kl_gT rfl rfl g49 ?_
       refine kl_ldB rfl rfl ?_
       refine kl_gT rfl rfl g49 ?_
       refine kl_mv rfl ?_
       refine kl_gT rfl rfl g49 ?_
       refine kl_inI rfl rfl (by assumption) (by omega) (fun p50 a51 => ?_)
       refine kl_gT rfl rfl g49 ?_
       refine kl_ld rfl (by assumption) ?_
       refine kl_gT rfl rfl g49 ?_
       refine kl_neq rfl rfl ?_
       refine kl_andT rfl rfl g49 ?_
       exact J52 _ (pc 69 rfl (pc 3 rfl (pc 4 rfl (pc 5 rfl (pc 6 rfl (pc 10 rfl (pc 11 rfl (pc 54 rfl (pc 55 rfl (pc 56 rfl (pc 57 rfl (pc 58 rfl (pc 61 rfl (pc 62 rfl pn))))))))))))))
      ·skip
       refine kl_gF rfl rfl g49 ?_
       refine kl_gF rfl rfl g49 ?_
       refine kl_gF rfl rfl g49 ?_
       refine kl_gF rfl rfl g49 ?_
       refine kl_gF rfl rfl g49 ?_
       refine kl_gF rfl rfl g49 ?_
       refine kl_andF (decide ((z9.doms.getD k2 0) ≠ (0 : Int))) rfl rfl g49 ?_
       exact J52 _ (pc 69 rfl (pc 3 rfl (pc 4 rfl (pc 5 rfl (pc 6 rfl (pc 10 rfl (pc 11 rfl (pc 54 rfl (pc 55 rfl (pc 56 rfl (pc 57 rfl (pc 58 rfl (pc 61 rfl (pc 62 rfl pn))))))))))))))
     refine kl_as rfl ?_
     refine kl_nil (kq_code ?_)
     refine kc_region ?_
     refine kl_mv rfl ?_
     refine kl_inc rfl rfl (by omega) ?_
     refine kl_as rfl ?_
     refine kl_nil ?_
     refine kq_round0 ((k2 + 1), (b && decide ((z9.doms.getD k2 0) ≠ (0 : Int)))) (by omega) (⟨by omega, (by rw [take_succ_getD 0 (by omega), List.all_append, ← hi45]; simp)⟩) (pc 11 rfl (pc 10 rfl pn)) (pc 3 rfl (pc 4 rfl (pc 5 rfl (pc 6 rfl pn)))) (List.Sublist.refl _)
    ·skip
     refine kc_exit ?_
     refine kq_code ?_
     refine kc_seq (kc_region ?_)
     refine kl_mv rfl ?_
     refine kl_mv rfl ?_
     refine kl_mv rfl ?_
     refine kl_join 4 76 (.bool (b && (qtrueB z9 z14))) (pc 3 rfl (pc 4 rfl (pc 5 rfl (pc 6 rfl (pc 70 rfl (pc 72 rfl pn)))))) (fun J54 => ?_) ?_
     ·rcases Bool.eq_false_or_eq_true b with g53 | g53
      ·skip
       have g53p := g53
       try simp only [Bool.not_eq_true', Bool.not_eq_false', decide_eq_true_eq, decide_eq_false_iff_not, Bool.and_eq_true, Bool.or_eq_false_iff, withinB_iff] at g53p
       refine kl_gT rfl rfl g53 ?_
       refine kl_ldW rfl rfl ?_
       refine kl_gT rfl rfl g53 ?_
       refine kl_mv rfl ?_
       refine kl_gT rfl rfl g53 ?_
       refine kl_callP rfl rfl (iqt_ok z9 z14 (by assumption) (by assumption) (by assumption)) ?_
       refine kl_andT rfl rfl g53 ?_
       exact J54 _ (pc 76 rfl (pc 3 rfl (pc 4 rfl (pc 5 rfl (pc 6 rfl (pc 70 rfl (pc 72 rfl pn)))))))
      ·skip
       refine kl_gF rfl rfl g53 ?_
       refine kl_gF rfl rfl g53 ?_
       refine kl_gF rfl rfl g53 ?_
       refine kl_andF (qtrueB z9 z14) rfl rfl g53 ?_
       exact J54 _ (pc 76 rfl (pc 3 rfl (pc 4 rfl (pc 5 rfl (pc 6 rfl (pc 70 rfl (pc 72 rfl pn)))))))
     refine kl_beq rfl rfl ?_
     refine kl_mv rfl ?_
     refine kl_join 9 87 (.bool (((strB z9 z14) == (b && (qtrueB z9 z14))) && (!(strB z9 z14) || (chkI z9 z14 (strL z9 z14))))) (pc 78 rfl pn) (fun J58 => ?_) ?_
     ·rcases Bool.eq_false_or_eq_true ((strB z9 z14) == (b && (qtrueB z9 z14))) with g55 | g55
      ·skip
       have g55p := g55
       try simp only [Bool.not_eq_true', Bool.not_eq_false', decide_eq_true_eq, decide_eq_false_iff_not, Bool.and_eq_true, Bool.or_eq_false_iff, withinB_iff] at g55p
       refine kl_gT rfl rfl g55 ?_
       refine kl_mv rfl ?_
       refine kl_gT rfl rfl g55 ?_
       refine kl_not rfl ?_
       refine kl_gT rfl rfl g55 ?_
       refine kl_mv rfl ?_
       refine kl_join 5 86 (.bool (!(strB z9 z14) || (chkI z9 z14 (strL z9 z14)))) (pc 78 rfl (pc 81 rfl pn)) (fun J57 => ?_) ?_
       ·rcases Bool.eq_false_or_eq_true (!(strB z9 z14)) with g56 | g56
        ·skip
         refine kl_gF rfl rfl g56 ?_
         refine kl_gF rfl rfl g56 ?_
         refine kl_gF rfl rfl g56 ?_
         refine kl_gF rfl rfl g56 ?_
         refine kl_gT rfl rfl g55 ?_
         refine kl_orT (chkI z9 z14 (strL z9 z14)) rfl rfl g56 ?_
         exact J57 _ (pc 86 rfl (pc 78 rfl (pc 81 rfl pn)))
        ·skip
         have g56p := g56
         try simp only [Bool.not_eq_true', Bool.not_eq_false', decide_eq_true_eq, decide_eq_false_iff_not, Bool.and_eq_true, Bool.or_eq_false_iff, withinB_iff] at g56p
         refine kl_gT rfl rfl g56 ?_
         refine kl_ldW rfl rfl ?_
         refine kl_gT rfl rfl g56 ?_
         refine kl_mv rfl ?_
         refine kl_gT rfl rfl g56 ?_
         refine kl_mv rfl ?_
         refine kl_gT rfl rfl g56 ?_
         refine kl_callP rfl rfl (chkImp_ok z9 z14 (strL z9 z14) (str_len _ _) (by assumption) (by assumption) (by assumption) (by assumption)) ?_
         refine kl_gT rfl rfl g55 ?_
         refine kl_orF rfl rfl g56 ?_
         exact J57 _ (pc 86 rfl (pc 78 rfl (pc 81 rfl pn)))
       refine kl_andT rfl rfl g55 ?_
       exact J58 _ (pc 87 rfl (pc 78 rfl pn))
      ·skip
       refine kl_gF rfl rfl g55 ?_
       refine kl_gF rfl rfl g55 ?_
       refine kl_gF rfl rfl g55 ?_
       refine kl_gU rfl rfl ?_
       refine kl_gU rfl rfl ?_
       refine kl_gU rfl rfl ?_
       refine kl_gU rfl rfl ?_
       refine kl_gF rfl rfl g55 ?_
       refine kl_andF (!(strB z9 z14) || (chkI z9 z14 (strL z9 z14))) rfl rfl g55 ?_
       exact J58 _ (pc 87 rfl (pc 78 rfl pn))
     refine kl_as rfl ?_
     refine kl_nil (kq_code ?_)
     refine kc_ret ?_
     refine kq_retP rfl rfl (congrArg Value.bool ?_)
     first | exact str_fin hi45 (by omega) | rfl | (simp; done)
end Go.Proofs.YtidllhcfcmjggaaGreat
