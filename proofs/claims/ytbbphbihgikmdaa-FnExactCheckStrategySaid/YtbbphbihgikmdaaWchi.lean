/- Walks of functions of the program: each returns what the plain function gives. Conditions: those that each statement names. -/
import Derived.Test.YtbbphbihgikmdaaWdf
import Derived.Test.YtbbphbihgikmdaaWgame
import Derived.Test.YtbbphbihgikmdaaWfilt
import Derived.Test.YtbbphbihgikmdaaWnx
namespace Go.Proofs.Ytbbphbihgikmdaa
open Go
set_option linter.unusedSimpArgs false
set_option linter.unusedVariables false
theorem follows1_ok {Hr : Hp} {vr : Value} {Hpi : Hp} {ptrpi : Value} {Hpv : Hp} {ptrpv : Value} (r : List Int) (i : Int) (v : Int) (hr : 0 ≤ i ∧ i < (r.length : Int)) (hr : Ints Hr vr r) (api : At Hpi ptrpi [.int .i64 i]) (apv : At Hpv ptrpv [.int .i64 v]) : SpecP Try.prog 123 [vr, ptrpi, ptrpv] [Hr, Hpi, Hpv] (.bool (decide (r.getD i.toNat 0 ≠ v))) := by
 refine spec_of Try.func123 rfl rfl rfl (fun B => ?_)
 refine kc_seq (kc_region ?_)
 refine kl_as rfl ?_
 refine kl_nil (kq_code ?_)
 refine kc_seq ?_
 refine kc_draw 7 [true, true, true, true, true, true, true] (by kernel_rfl) (by kernel_rfl) ?_
 refine kl_mv rfl ?_
 refine kl_ld rfl (by assumption) ?_
 refine kl_ixI rfl rfl (by assumption) (by omega) (by omega) (fun p1 a2 => ?_)
 refine kl_ld rfl (by assumption) ?_
 refine kl_ld rfl (by assumption) ?_
 refine kl_neq rfl rfl ?_
 refine kl_as rfl ?_
 refine kl_nil (kq_code ?_)
 refine kc_ret ?_
 refine kq_retP rfl rfl (congrArg Value.bool ?_)
 rfl
abbrev followsSt (k : Nat) : Prop := ∀ {Hmd : Hp} {vmd : Value} {Hmc : Hp} {vmc : Value} {Hfa : Hp} {vfa : Value} {Hl : Hp} {vl : Value} (m : Mod) (fa : List Bool) (l : List (List Int)) (i : Int) (hM : MOk m) (hf : fa.length = m.doms.length) (hi : 0 ≤ i ∧ i + (k : Int) = m.doms.length) (hP : ∀ x ∈ l, x.length = m.doms.length ∧ Vals x) (hne : 0 < l.length) (hb : l.length ≤ 1048576) (hmd : Ints Hmd vmd m.doms) (hmc : Cons Hmc vmc m.cons) (hfa : Bools Hfa vfa fa) (hl : Rows Hl vl l), SpecP Try.prog 66 [.agg #[vmd, vmc], vfa, vl, .int .i64 i] [Hmd, Hmc, Hfa, Hl] (.bool (folB m fa k l))
theorem follows_step (k : Nat) (ih : ∀ j, j < k → followsSt j) : followsSt k := by
 intro Hmd vmd Hmc vmc Hfa vfa Hl vl m fa l i hM hf hi hP hne hb hmd hmc hfa hl
 refine spec_of Try.func66 rfl rfl rfl (fun B => ?_)
 refine kc_seq (kc_region ?_)
 refine kl_box rfl rfl (fun p1 H2 f3 a4 => ?_)
 refine kl_box rfl rfl (fun p5 H6 f7 a8 => ?_)
 refine kl_as rfl ?_
 refine kl_nil (kq_code ?_)
 refine kc_seq ?_
 refine kc_seq (kc_region ?_)
 refine kl_ld rfl (by assumption) ?_
 refine kl_fd rfl (by assumption) (fun p9 a10 => ?_)
 refine kl_ld rfl (by assumption) ?_
 refine kl_len rfl (by assumption) (fun l11 => ?_)
 refine kl_eql rfl rfl ?_
 refine kl_nil (kq_code ?_)
 refine kc_if rfl (fun c12 => ?_) (fun c12 => ?_)
 ·skip
  have hk0 : k = 0 := by omega
  subst hk0
  refine kc_seq (kc_region ?_)
  refine kl_mv rfl ?_
  refine kl_len rfl (by assumption) (fun l13 => ?_)
  refine kl_eql rfl rfl ?_
  refine kl_as rfl ?_
  refine kl_nil (kq_code ?_)
  refine kc_ret ?_
  refine kq_retP rfl rfl (congrArg Value.bool ?_)
  rfl
 ·skip
  obtain ⟨j, rfl⟩ : ∃ j, k = j + 1 := ⟨k - 1, by omega⟩
  have hn := hM.n
  have hii : Int.toNat i = m.doms.length - (j + 1) := by omega
  refine kc_skipQ ?_
  refine kq_code ?_
  refine kc_seq (kc_region ?_)
  refine kl_as rfl ?_
  refine kl_nil (kq_code ?_)
  refine kc_seq ?_
  refine kc_seq (kc_region ?_)
  refine kl_mv rfl ?_
  refine kl_len rfl (by assumption) (fun l14 => ?_)
  refine kl_mv rfl ?_
  refine kl_nil (kq_code ?_)
  refine kc_block ?_
  refine kc_loop0 (A := Nat × Int) (fun zz => (zz.1 ≤ l.length) ∧ (zz.2 = takM (l.take zz.1) i.toNat)) (fun zz => l.length - zz.1) (fun zz => [(25, .int .i64 (zz.1 : Int)), (9, .int .i64 zz.2)]) (0, (0 : Int)) (pc 1 rfl (pc 2 rfl (pc 4 rfl (pc 7 rfl (pc 8 rfl (pc 23 rfl (pc 24 rfl pn))))))) (pc 25 rfl (pc 9 rfl pn)) ⟨Nat.zero_le _, (takM_0 _).symm⟩ ?_
  rintro ⟨q, t⟩ hJ17
  obtain ⟨hk15, hi16⟩ : (q ≤ l.length) ∧ (t = takM (l.take q) i.toNat) := hJ17
  change KC _ _ (_) _ _ ([(25, .int .i64 (q : Int)), (9, .int .i64 t)] ++ _)
  refine kc_seq (kc_region ?_)
  refine kl_lss rfl rfl ?_
  refine kl_nil (kq_code ?_)
  refine kc_seq ?_
  refine kc_if rfl (fun c18 => ?_) (fun c18 => ?_)
  ·skip
   have hv := (by have h8 := hP _ (getD_mem (d := []) (by omega : q < l.length)); exact h8.2.at (k := i.toNat) (by omega))
   have hrl := (hP _ (getD_mem (d := []) (by omega : q < l.length))).1
   have hsl := shl_le hv
   refine kc_skipQ ?_
   refine kq_code ?_
   refine kc_seq ?_
   refine kc_block ?_
   refine kc_seq (kc_region ?_)
   refine kl_inS rfl rfl (by assumption) (by omega) (fun p19 u21 h22 a20 => ?_)
   refine kl_ld rfl (by assumption) ?_
   refine kl_as rfl ?_
   refine kl_nil (kq_code ?_)
   refine kc_region ?_
   refine kl_mv rfl ?_
   refine kl_mv rfl ?_
   refine kl_ld rfl (by assumption) ?_
   refine kl_ixI rfl rfl (by assumption) (by omega) (by omega) (fun p23 a24 => ?_)
   refine kl_ld rfl (by assumption) ?_
   refine kl_shl rfl rfl (by omega) ?_
   refine kl_or rfl rfl ?_
   refine kl_as rfl ?_
   refine kl_nil (kq_code ?_)
   refine kc_region ?_
   refine kl_inc rfl rfl (by omega) ?_
   refine kl_mv rfl ?_
   refine kl_nil ?_
   refine kq_round0 ((q + 1), (ior t (ishl (1 : Int) ((l.getD q []).getD i.toNat 0)))) (by omega) (⟨by omega, (takM_ior (by omega) hi16 hv)⟩) (pc 25 rfl (pc 9 rfl pn)) (pc 1 rfl (pc 2 rfl (pc 4 rfl (pc 7 rfl (pc 8 rfl (pc 23 rfl (pc 24 rfl pn))))))) (List.Sublist.refl _)
  ·skip
   refine kc_exit ?_
   refine kq_code ?_
   refine kc_seq ?_
   refine kc_seq (kc_region ?_)
   refine kl_mv rfl ?_
   refine kl_ld rfl (by assumption) ?_
   refine kl_ixB rfl rfl (by assumption) (by omega) (by omega) (fun p25 a26 => ?_)
   refine kl_ld rfl (by assumption) ?_
   refine kl_mv rfl ?_
   refine kl_join 8 49 (.bool ((fa.getD i.toNat false) && decide (t ≠ (m.doms.getD i.toNat 0)))) (pc 1 rfl (pc 2 rfl (pc 4 rfl (pc 7 rfl (pc 8 rfl (pc 9 rfl (pc 41 rfl pn))))))) (fun J32 => ?_) ?_
   ·rcases Bool.eq_false_or_eq_true (fa.getD i.toNat false) with g27 | g27
    ·skip
     have g27p := g27
     try simp only [Bool.not_eq_true', Bool.not_eq_false', decide_eq_true_eq, decide_eq_false_iff_not, Bool.and_eq_true, Bool.or_eq_false_iff, withinB_iff] at g27p
     refine kl_gT rfl rfl g27 ?_
     refine kl_mv rfl ?_
     refine kl_gT rfl rfl g27 ?_
     refine kl_fd rfl (by assumption) (fun p28 a29 => ?_)
     refine kl_gT rfl rfl g27 ?_
     refine kl_ld rfl (by assumption) ?_
     refine kl_gT rfl rfl g27 ?_
     refine kl_ld rfl (by assumption) ?_
     refine kl_gT rfl rfl g27 ?_
     refine kl_ixI rfl rfl (by assumption) (by omega) (by omega) (fun p30 a31 => ?_)
     refine kl_gT rfl rfl g27 ?_
     refine kl_ld rfl (by assumption) ?_
     refine kl_gT rfl rfl g27 ?_
     refine kl_neq rfl rfl ?_
     refine kl_andT rfl rfl g27 ?_
     exact J32 _ (pc 49 rfl (pc 1 rfl (pc 2 rfl (pc 4 rfl (pc 7 rfl (pc 8 rfl (pc 9 rfl (pc 41 rfl pn))))))))
    ·skip
     refine kl_gF rfl rfl g27 ?_
     refine kl_gF rfl rfl g27 ?_
     refine kl_gF rfl rfl g27 ?_
     refine kl_gF rfl rfl g27 ?_
     refine kl_gF rfl rfl g27 ?_
     refine kl_gF rfl rfl g27 ?_
     refine kl_gF rfl rfl g27 ?_
     refine kl_andF (decide (t ≠ (m.doms.getD i.toNat 0))) rfl rfl g27 ?_
     exact J32 _ (pc 49 rfl (pc 1 rfl (pc 2 rfl (pc 4 rfl (pc 7 rfl (pc 8 rfl (pc 9 rfl (pc 41 rfl pn))))))))
   refine kl_mv rfl ?_
   refine kl_join 11 61 (.bool (((fa.getD i.toNat false) && decide (t ≠ (m.doms.getD i.toNat 0))) || (!(fa.getD i.toNat false) && decide ((popI t) ≠ (1 : Int))))) (pc 1 rfl (pc 2 rfl (pc 4 rfl (pc 7 rfl (pc 8 rfl (pc 9 rfl (pc 50 rfl pn))))))) (fun J38 => ?_) ?_
   ·rcases Bool.eq_false_or_eq_true ((fa.getD i.toNat false) && decide (t ≠ (m.doms.getD i.toNat 0))) with g33 | g33
    ·skip
     refine kl_gF rfl rfl g33 ?_
     refine kl_gF rfl rfl g33 ?_
     refine kl_gF rfl rfl g33 ?_
     refine kl_gF rfl rfl g33 ?_
     refine kl_gF rfl rfl g33 ?_
     refine kl_gF rfl rfl g33 ?_
     refine kl_gU rfl rfl ?_
     refine kl_gU rfl rfl ?_
     refine kl_gU rfl rfl ?_
     refine kl_gF rfl rfl g33 ?_
     refine kl_orT (!(fa.getD i.toNat false) && decide ((popI t) ≠ (1 : Int))) rfl rfl g33 ?_
     exact J38 _ (pc 61 rfl (pc 1 rfl (pc 2 rfl (pc 4 rfl (pc 7 rfl (pc 8 rfl (pc 9 rfl (pc 50 rfl pn))))))))
    ·skip
     have g33p := g33
     try simp only [Bool.not_eq_true', Bool.not_eq_false', decide_eq_true_eq, decide_eq_false_iff_not, Bool.and_eq_true, Bool.or_eq_false_iff, withinB_iff] at g33p
     refine kl_gT rfl rfl g33 ?_
     refine kl_mv rfl ?_
     refine kl_gT rfl rfl g33 ?_
     refine kl_ld rfl (by assumption) ?_
     refine kl_gT rfl rfl g33 ?_
     refine kl_ixB rfl rfl (by assumption) (by omega) (by omega) (fun p34 a35 => ?_)
     refine kl_gT rfl rfl g33 ?_
     refine kl_ld rfl (by assumption) ?_
     refine kl_gT rfl rfl g33 ?_
     refine kl_not rfl ?_
     refine kl_gT rfl rfl g33 ?_
     refine kl_mv rfl ?_
     refine kl_join 4 60 (.bool (!(fa.getD i.toNat false) && decide ((popI t) ≠ (1 : Int)))) (pc 1 rfl (pc 2 rfl (pc 4 rfl (pc 7 rfl (pc 8 rfl (pc 9 rfl (pc 50 rfl (pc 56 rfl pn)))))))) (fun J37 => ?_) ?_
     ·rcases Bool.eq_false_or_eq_true (!(fa.getD i.toNat false)) with g36 | g36
      ·skip
       have g36p := g36
       try simp only [Bool.not_eq_true', Bool.not_eq_false', decide_eq_true_eq, decide_eq_false_iff_not, Bool.and_eq_true, Bool.or_eq_false_iff, withinB_iff] at g36p
       refine kl_gT rfl rfl g36 ?_
       refine kl_mv rfl ?_
       refine kl_gT rfl rfl g36 ?_
       refine kl_callP rfl rfl (size_ok t (by rw [hi16]; exact takM_in _ _)) ?_
       refine kl_gT rfl rfl g36 ?_
       refine kl_neq rfl rfl ?_
       refine kl_gT rfl rfl g33 ?_
       refine kl_andT rfl rfl g36 ?_
       exact J37 _ (pc 60 rfl (pc 1 rfl (pc 2 rfl (pc 4 rfl (pc 7 rfl (pc 8 rfl (pc 9 rfl (pc 50 rfl (pc 56 rfl pn)))))))))
      ·skip
       refine kl_gF rfl rfl g36 ?_
       refine kl_gF rfl rfl g36 ?_
       refine kl_gF rfl rfl g36 ?_
       refine kl_gT rfl rfl g33 ?_
       refine kl_andF (decide ((popI t) ≠ (1 : Int))) rfl rfl g36 ?_
       exact J37 _ (pc 60 rfl (pc 1 rfl (pc 2 rfl (pc 4 rfl (pc 7 rfl (pc 8 rfl (pc 9 rfl (pc 50 rfl (pc 56 rfl pn)))))))))
     refine kl_orF rfl rfl g33 ?_
     exact J38 _ (pc 61 rfl (pc 1 rfl (pc 2 rfl (pc 4 rfl (pc 7 rfl (pc 8 rfl (pc 9 rfl (pc 50 rfl pn))))))))
   refine kl_nil (kq_code ?_)
   refine kc_cond rfl (fun c39 => ?_) (fun c39 => ?_)
   ·skip
    have c39r := c39
    try simp only [Bool.not_eq_true', Bool.not_eq_false', Bool.not_true, Bool.not_false, decide_eq_true_eq, decide_eq_false_iff_not, Bool.and_eq_true, Bool.or_eq_false_iff] at c39
    refine kc_seq (kc_region ?_)
    refine kl_as rfl ?_
    refine kl_nil (kq_code ?_)
    refine kc_ret ?_
    refine kq_retP rfl rfl (congrArg Value.bool ?_)
    exact fol_no (t := t) hii (by rw [hi16, List.take_of_length_le (by omega)]) (by assumption)
   ·skip
    have c39r := c39
    try simp only [Bool.not_eq_true', Bool.not_eq_false', Bool.not_true, Bool.not_false, decide_eq_true_eq, decide_eq_false_iff_not, Bool.and_eq_true, Bool.or_eq_false_iff] at c39
    have ht : t = takM l i.toNat := (by rw [hi16, List.take_of_length_le (by omega)])
    have hcc := c39r
    refine kc_skipQ ?_
    refine kq_code ?_
    refine kc_seq ?_
    refine kc_seq (kc_region ?_)
    refine kl_mv rfl ?_
    refine kl_call rfl rfl (valuesOf_ok t (by rw [hi16]; exact takM_in _ _)) (fun v40 H41 f42 h43 => ?_)
    refine kl_len rfl (by assumption) (fun l44 => ?_)
    refine kl_mv rfl ?_
    refine kl_nil (kq_code ?_)
    refine kc_block ?_
    refine kc_loop0 (A := Nat) (fun zz => (zz ≤ (valsI t).length) ∧ (((valsI t).take zz).all (fun v => folB m fa j (l.filter (fun x => !(decide (x.getD i.toNat 0 ≠ v))))) = true)) (fun zz => (valsI t).length - zz) (fun zz => [(65, .int .i64 (zz : Int))]) (0) (pc 1 rfl (pc 2 rfl (pc 4 rfl (pc 7 rfl (pc 63 rfl (pc 64 rfl pn)))))) (pc 65 rfl pn) ⟨Nat.zero_le _, by simp⟩ ?_
    rintro q2 hJ47
    obtain ⟨hk45, hi46⟩ : (q2 ≤ (valsI t).length) ∧ (((valsI t).take q2).all (fun v => folB m fa j (l.filter (fun x => !(decide (x.getD i.toNat 0 ≠ v))))) = true) := hJ47
    change KC _ _ (_) _ _ ([(65, .int .i64 (q2 : Int))] ++ _)
    refine kc_seq (kc_region ?_)
    refine kl_lss rfl rfl ?_
    refine kl_nil (kq_code ?_)
    refine kc_seq ?_
    refine kc_if rfl (fun c48 => ?_) (fun c48 => ?_)
    ·skip
     have hnx := fol_ne ht (by omega : q2 < (valsI t).length)
     have hmv := valsI_mem (getD_mem (d := (0 : Int)) (by omega : q2 < (valsI t).length))
     refine kc_skipQ ?_
     refine kq_code ?_
     refine kc_seq ?_
     refine kc_block ?_
     refine kc_seq (kc_region ?_)
     refine kl_inI rfl rfl (by assumption) (by omega) (fun p49 a50 => ?_)
     refine kl_ld rfl (by assumption) ?_
     refine kl_alloc (cs := [.int .i64 (0 : Int)]) rfl (fun b51 hb52 => ?_)
     refine kl_stB rfl rfl rfl rfl rfl ?_
     refine kl_chg [sing b51 (.cells [.int .i64 ((valsI t).getD q2 0)].toArray 3 (0, 0))] rfl ?_
     refine kl_nil (kq_code (kc_seq (kc_region ?_)))
     refine kl_mv rfl ?_
     refine kl_callL rfl rfl (cloneR_ok l (by omega) (by assumption)) (fun v53 H54 f55 o56 => ?_)
     refine kl_frz (sing b51 (.cells [.int .i64 ((valsI t).getD q2 0)].toArray 3 (0, 0))) ?_
     have a57 : At (sing b51 (.cells [.int .i64 ((valsI t).getD q2 0)].toArray 3 (0, 0))) (.pointer (some ⟨b51, 0, none⟩)) [.int .i64 ((valsI t).getD q2 0)] := at_box
     refine kl_mkf rfl ?_
     refine kl_callT rfl rfl (delF_ok l (fun r => decide (r.getD (Int.toNat i) 0 ≠ ((valsI t).getD q2 0))) (by omega) o56 (fun _ _ r hm hu => follows1_ok r i ((valsI t).getD q2 0) (by have h8 := (hP r hm).1; omega) hu (by assumption) (by assumption))) (fun v58 L1 Ln K59 h60 g61 g62 => ?_)
     obtain ⟨H63, rfl, rfl, o64⟩ := h60
     refine kl_norm ?_
     refine kl_as rfl ?_
     refine kl_nil (kq_code (kc_seq (kc_region ?_)))
     refine kl_ldS rfl (by assumption) rfl ?_
     refine kl_mv rfl ?_
     refine kl_mv rfl ?_
     refine kl_ld rfl (by assumption) ?_
     refine kl_add rfl rfl (by omega) ?_
     refine kl_cmp H63 Hl (fun c65 => ?_)
     have h66 := OwnL.rowsK o64 c65
     refine kl_callP rfl rfl (ih j (by omega) m fa (l.filter (fun r => !(decide (r.getD (Int.toNat i) 0 ≠ ((valsI t).getD q2 0))))) (i + (1 : Int)) hM hf (by omega) (fun x hx => hP x (List.mem_filter.1 hx).1) hnx (Nat.le_trans (List.length_filter_le _ _) hb) (by assumption) (by assumption) (by assumption) (by assumption)) ?_
     refine kl_not rfl ?_
     refine kl_nil (kq_code ?_)
     refine kc_cond rfl (fun c67 => ?_) (fun c67 => ?_)
     ·skip
      have c67r := c67
      try simp only [Bool.not_eq_true', Bool.not_eq_false', Bool.not_true, Bool.not_false, decide_eq_true_eq, decide_eq_false_iff_not, Bool.and_eq_true, Bool.or_eq_false_iff] at c67
      refine kc_seq (kc_region ?_)
      refine kl_as rfl ?_
      refine kl_nil (kq_code ?_)
      refine kc_ret ?_
      refine kq_retP rfl rfl (congrArg Value.bool ?_)
      exact fol_at (q := q2) hii ht (by omega) (by assumption)
     ·skip
      have c67r := c67
      try simp only [Bool.not_eq_true', Bool.not_eq_false', Bool.not_true, Bool.not_false, decide_eq_true_eq, decide_eq_false_iff_not, Bool.and_eq_true, Bool.or_eq_false_iff] at c67
      refine kc_skipQ ?_
      refine kq_code ?_
      refine kc_region ?_
      refine kl_inc rfl rfl (by omega) ?_
      refine kl_mv rfl ?_
      refine kl_nil ?_
      refine kq_round0 ((q2 + 1)) (by omega) (⟨by omega, all_take_step (d := 0) (by omega) hi46 (by simpa using (by assumption : (!(folB m fa j (l.filter (fun r => !(decide (r.getD (Int.toNat i) 0 ≠ ((valsI t).getD q2 0))))))) = false))⟩) (pc 65 rfl pn) (pc 1 rfl (pc 2 rfl (pc 4 rfl (pc 7 rfl (pc 63 rfl (pc 64 rfl pn)))))) (.cons _ (List.Sublist.refl _))
    ·skip
     refine kc_exit ?_
     refine kq_code ?_
     refine kc_seq (kc_region ?_)
     refine kl_as rfl ?_
     refine kl_nil (kq_code ?_)
     refine kc_ret ?_
     refine kq_retP rfl rfl (congrArg Value.bool ?_)
     exact fol_yes (q := q2) hii ht hcc (by omega) hi46
theorem follows_ok (k : Nat) : followsSt k := by
 induction k using Nat.strongRecOn with
 | _ k ih => exact @follows_step k ih
theorem chkImp_ok {Hmd : Hp} {vmd : Value} {Hmc : Hp} {vmc : Value} {Hfa : Hp} {vfa : Value} {Hl : Hp} {vl : Value} (m : Mod) (fa : List Bool) (l : List (List Int)) (hb : l.length ≤ 1048576) (hmd : Ints Hmd vmd m.doms) (hmc : Cons Hmc vmc m.cons) (hfa : Bools Hfa vfa fa) (hl : Rows Hl vl l) : SpecP Try.prog 23 [.agg #[vmd, vmc], vfa, vl] [Hmd, Hmc, Hfa, Hl] (.bool (chkI m fa l)) := by
 refine spec_of Try.func23 rfl rfl rfl (fun B => ?_)
 refine kc_seq (kc_region ?_)
 refine kl_box rfl rfl (fun p1 H2 f3 a4 => ?_)
 refine kl_as rfl ?_
 refine kl_nil (kq_code ?_)
 refine kc_seq ?_
 refine kc_seq (kc_region ?_)
 refine kl_ldS rfl (by assumption) rfl ?_
 refine kl_mv rfl ?_
 refine kl_callP rfl rfl (gameOk_ok m fa (by assumption) (by assumption) (by assumption)) ?_
 refine kl_not rfl ?_
 refine kl_mv rfl ?_
 refine kl_join 4 17 (.bool (!(gOkB m fa) || decide ((l.length : Int) = (0 : Int)))) (pc 1 rfl (pc 2 rfl (pc 3 rfl (pc 6 rfl (pc 13 rfl pn))))) (fun J7 => ?_) ?_
 ·rcases Bool.eq_false_or_eq_true (!(gOkB m fa)) with g5 | g5
  ·skip
   refine kl_gF rfl rfl g5 ?_
   refine kl_gF rfl rfl g5 ?_
   refine kl_gF rfl rfl g5 ?_
   refine kl_orT (decide ((l.length : Int) = (0 : Int))) rfl rfl g5 ?_
   exact J7 _ (pc 17 rfl (pc 1 rfl (pc 2 rfl (pc 3 rfl (pc 6 rfl (pc 13 rfl pn))))))
  ·skip
   have g5p := g5
   try simp only [Bool.not_eq_true', Bool.not_eq_false', decide_eq_true_eq, decide_eq_false_iff_not, Bool.and_eq_true, Bool.or_eq_false_iff, withinB_iff] at g5p
   refine kl_gT rfl rfl g5 ?_
   refine kl_mv rfl ?_
   refine kl_gT rfl rfl g5 ?_
   refine kl_len rfl (by assumption) (fun l6 => ?_)
   refine kl_gT rfl rfl g5 ?_
   refine kl_eql rfl rfl ?_
   refine kl_orF rfl rfl g5 ?_
   exact J7 _ (pc 17 rfl (pc 1 rfl (pc 2 rfl (pc 3 rfl (pc 6 rfl (pc 13 rfl pn))))))
 refine kl_nil (kq_code ?_)
 refine kc_cond rfl (fun c8 => ?_) (fun c8 => ?_)
 ·skip
  have c8r := c8
  try simp only [Bool.not_eq_true', Bool.not_eq_false', Bool.not_true, Bool.not_false, decide_eq_true_eq, decide_eq_false_iff_not, Bool.and_eq_true, Bool.or_eq_false_iff] at c8
  refine kc_seq (kc_region ?_)
  refine kl_as rfl ?_
  refine kl_nil (kq_code ?_)
  refine kc_ret ?_
  refine kq_retP rfl rfl (congrArg Value.bool ?_)
  exact chkI_0 (by assumption)
 ·skip
  have c8r := c8
  try simp only [Bool.not_eq_true', Bool.not_eq_false', Bool.not_true, Bool.not_false, decide_eq_true_eq, decide_eq_false_iff_not, Bool.and_eq_true, Bool.or_eq_false_iff] at c8
  have hc0 := c8r
  obtain ⟨hg, hne, hM, hfl⟩ := chkI_ok hc0
  have hn := hM.n
  refine kc_skipQ ?_
  refine kq_code ?_
  refine kc_seq ?_
  refine kc_seq (kc_region ?_)
  refine kl_mv rfl ?_
  refine kl_len rfl (by assumption) (fun l9 => ?_)
  refine kl_mv rfl ?_
  refine kl_nil (kq_code ?_)
  refine kc_block ?_
  refine kc_loop0 (A := Nat) (fun zz => (zz ≤ l.length) ∧ (plTo (plI m l) zz = true)) (fun zz => l.length - zz) (fun zz => [(20, .int .i64 (zz : Int))]) (0) (pc 1 rfl (pc 2 rfl (pc 3 rfl (pc 18 rfl (pc 19 rfl pn))))) (pc 20 rfl pn) ⟨Nat.zero_le _, rfl⟩ ?_
  rintro k hJ12
  obtain ⟨hk10, hi11⟩ : (k ≤ l.length) ∧ (plTo (plI m l) k = true) := hJ12
  change KC _ _ (_) _ _ ([(20, .int .i64 (k : Int))] ++ _)
  refine kc_seq (kc_region ?_)
  refine kl_lss rfl rfl ?_
  refine kl_nil (kq_code ?_)
  refine kc_seq ?_
  refine kc_if rfl (fun c13 => ?_) (fun c13 => ?_)
  ·skip
   refine kc_skipQ ?_
   refine kq_code ?_
   refine kc_seq ?_
   refine kc_block ?_
   refine kc_seq (kc_region ?_)
   refine kl_mv rfl ?_
   refine kl_inS rfl rfl (by assumption) (by omega) (fun p14 u16 h17 a15 => ?_)
   refine kl_ld rfl (by assumption) ?_
   refine kl_as rfl ?_
   refine kl_as rfl ?_
   refine kl_nil (kq_code (kc_seq (kc_region ?_)))
   refine kl_mv rfl ?_
   refine kl_fd rfl (by assumption) (fun p18 a19 => ?_)
   refine kl_ld rfl (by assumption) ?_
   refine kl_len rfl (by assumption) (fun l20 => ?_)
   refine kl_callP rfl rfl (assigned_ok (l.getD k []) (m.doms.length : Int) (by assumption)) ?_
   refine kl_not rfl ?_
   refine kl_mv rfl ?_
   refine kl_join 5 36 (.bool (!(decide (((l.getD k []).length : Int) = (m.doms.length : Int)) && allInB (l.getD k []) 0 5) || !(isSolB m (l.getD k [])))) (pc 1 rfl (pc 2 rfl (pc 3 rfl (pc 7 rfl (pc 8 rfl (pc 18 rfl (pc 19 rfl (pc 20 rfl (pc 21 rfl (pc 22 rfl (pc 23 rfl (pc 24 rfl (pc 25 rfl (pc 26 rfl (pc 27 rfl (pc 28 rfl (pc 29 rfl (pc 30 rfl (pc 31 rfl pn))))))))))))))))))) (fun J22 => ?_) ?_
   ·rcases Bool.eq_false_or_eq_true (!(decide (((l.getD k []).length : Int) = (m.doms.length : Int)) && allInB (l.getD k []) 0 5)) with g21 | g21
    ·skip
     refine kl_gF rfl rfl g21 ?_
     refine kl_gF rfl rfl g21 ?_
     refine kl_gF rfl rfl g21 ?_
     refine kl_gF rfl rfl g21 ?_
     refine kl_orT (!(isSolB m (l.getD k []))) rfl rfl g21 ?_
     exact J22 _ (pc 36 rfl (pc 1 rfl (pc 2 rfl (pc 3 rfl (pc 7 rfl (pc 8 rfl (pc 18 rfl (pc 19 rfl (pc 20 rfl (pc 21 rfl (pc 22 rfl (pc 23 rfl (pc 24 rfl (pc 25 rfl (pc 26 rfl (pc 27 rfl (pc 28 rfl (pc 29 rfl (pc 30 rfl (pc 31 rfl pn))))))))))))))))))))
    ·skip
     have g21p := g21
     try simp only [Bool.not_eq_true', Bool.not_eq_false', decide_eq_true_eq, decide_eq_false_iff_not, Bool.and_eq_true, Bool.or_eq_false_iff, withinB_iff] at g21p
     try have hak := asg_ok (m := m) (x := l.getD k []) (by simpa using g21)
     refine kl_gT rfl rfl g21 ?_
     refine kl_ldS rfl (by assumption) rfl ?_
     refine kl_gT rfl rfl g21 ?_
     refine kl_mv rfl ?_
     refine kl_gT rfl rfl g21 ?_
     refine kl_callP rfl rfl (isSol_ok m (l.getD k []) hM hak.1 hak.2 (by assumption) (by assumption) (by assumption)) ?_
     refine kl_gT rfl rfl g21 ?_
     refine kl_not rfl ?_
     refine kl_orF rfl rfl g21 ?_
     exact J22 _ (pc 36 rfl (pc 1 rfl (pc 2 rfl (pc 3 rfl (pc 7 rfl (pc 8 rfl (pc 18 rfl (pc 19 rfl (pc 20 rfl (pc 21 rfl (pc 22 rfl (pc 23 rfl (pc 24 rfl (pc 25 rfl (pc 26 rfl (pc 27 rfl (pc 28 rfl (pc 29 rfl (pc 30 rfl (pc 31 rfl pn))))))))))))))))))))
   refine kl_mv rfl ?_
   refine kl_join 13 50 (.bool ((!(decide (((l.getD k []).length : Int) = (m.doms.length : Int)) && allInB (l.getD k []) 0 5) || !(isSolB m (l.getD k []))) || (decide ((0 : Int) < (k : Int)) && decide ((0 : Int) ≤ (lexC (l.getD ((k : Int) - (1 : Int)).toNat []) (l.getD k [])))))) (pc 1 rfl (pc 2 rfl (pc 3 rfl (pc 7 rfl (pc 8 rfl (pc 18 rfl (pc 19 rfl (pc 20 rfl (pc 21 rfl (pc 22 rfl (pc 23 rfl (pc 24 rfl (pc 25 rfl (pc 26 rfl (pc 27 rfl (pc 28 rfl (pc 29 rfl (pc 30 rfl (pc 31 rfl (pc 36 rfl (pc 37 rfl pn))))))))))))))))))))) (fun J30 => ?_) ?_
   ·rcases Bool.eq_false_or_eq_true (!(decide (((l.getD k []).length : Int) = (m.doms.length : Int)) && allInB (l.getD k []) 0 5) || !(isSolB m (l.getD k []))) with g23 | g23
    ·skip
     refine kl_gF rfl rfl g23 ?_
     refine kl_gF rfl rfl g23 ?_
     refine kl_gF rfl rfl g23 ?_
     refine kl_gU rfl rfl ?_
     refine kl_gU rfl rfl ?_
     refine kl_gU rfl rfl ?_
     refine kl_gU rfl rfl ?_
     refine kl_gU rfl rfl ?_
     refine kl_gU rfl rfl ?_
     refine kl_gU rfl rfl ?_
     refine kl_gU rfl rfl ?_
     refine kl_gF rfl rfl g23 ?_
     refine kl_orT (decide ((0 : Int) < (k : Int)) && decide ((0 : Int) ≤ (lexC (l.getD ((k : Int) - (1 : Int)).toNat []) (l.getD k [])))) rfl rfl g23 ?_
     exact J30 _ (pc 50 rfl (pc 1 rfl (pc 2 rfl (pc 3 rfl (pc 7 rfl (pc 8 rfl (pc 18 rfl (pc 19 rfl (pc 20 rfl (pc 21 rfl (pc 22 rfl (pc 23 rfl (pc 24 rfl (pc 25 rfl (pc 26 rfl (pc 27 rfl (pc 28 rfl (pc 29 rfl (pc 30 rfl (pc 31 rfl (pc 36 rfl (pc 37 rfl pn))))))))))))))))))))))
    ·skip
     have g23p := g23
     try simp only [Bool.not_eq_true', Bool.not_eq_false', decide_eq_true_eq, decide_eq_false_iff_not, Bool.and_eq_true, Bool.or_eq_false_iff, withinB_iff] at g23p
     try have hak := asg_ok (m := m) (x := l.getD k []) (by simpa using g23)
     try have hak2 := asg_ok (m := m) (x := l.getD k []) (by have h9 := g23; revert h9; unfold asgB; cases (decide (((l.getD k []).length : Int) = (m.doms.length : Int)) && allInB (l.getD k []) 0 5) <;> simp)
     refine kl_gT rfl rfl g23 ?_
     refine kl_mv rfl ?_
     refine kl_gT rfl rfl g23 ?_
     refine kl_gtr rfl rfl ?_
     refine kl_gT rfl rfl g23 ?_
     refine kl_mv rfl ?_
     refine kl_join 9 49 (.bool (decide ((0 : Int) < (k : Int)) && decide ((0 : Int) ≤ (lexC (l.getD ((k : Int) - (1 : Int)).toNat []) (l.getD k []))))) (pc 1 rfl (pc 2 rfl (pc 3 rfl (pc 7 rfl (pc 8 rfl (pc 18 rfl (pc 19 rfl (pc 20 rfl (pc 21 rfl (pc 22 rfl (pc 23 rfl (pc 24 rfl (pc 25 rfl (pc 26 rfl (pc 27 rfl (pc 28 rfl (pc 29 rfl (pc 30 rfl (pc 31 rfl (pc 36 rfl (pc 37 rfl (pc 38 rfl (pc 39 rfl (pc 40 rfl pn)))))))))))))))))))))))) (fun J29 => ?_) ?_
     ·rcases Bool.eq_false_or_eq_true (decide ((0 : Int) < (k : Int))) with g24 | g24
      ·skip
       have g24p := of_decide_eq_true g24
       try have hpl := pl_lenI hi11 (j := ((k : Int) - 1).toNat) (by omega)
       refine kl_gT rfl rfl g24 ?_
       refine kl_mv rfl ?_
       refine kl_gT rfl rfl g24 ?_
       refine kl_mv rfl ?_
       refine kl_gT rfl rfl g24 ?_
       refine kl_sub rfl rfl (by omega) ?_
       refine kl_gT rfl rfl g24 ?_
       refine kl_ixS rfl rfl (by assumption) (by omega) (by omega) (fun p25 u27 h28 a26 => ?_)
       refine kl_gT rfl rfl g24 ?_
       refine kl_ld rfl (by assumption) ?_
       refine kl_gT rfl rfl g24 ?_
       refine kl_mv rfl ?_
       refine kl_gT rfl rfl g24 ?_
       refine kl_callP rfl rfl (cmpL_ok (l.getD ((k : Int) - (1 : Int)).toNat []) (l.getD k []) (by rw [hpl.1, hak2.1]) (by assumption) (by assumption)) ?_
       refine kl_gT rfl rfl g24 ?_
       refine kl_geq rfl rfl ?_
       refine kl_gT rfl rfl g23 ?_
       refine kl_andT rfl rfl g24 ?_
       exact J29 _ (pc 49 rfl (pc 1 rfl (pc 2 rfl (pc 3 rfl (pc 7 rfl (pc 8 rfl (pc 18 rfl (pc 19 rfl (pc 20 rfl (pc 21 rfl (pc 22 rfl (pc 23 rfl (pc 24 rfl (pc 25 rfl (pc 26 rfl (pc 27 rfl (pc 28 rfl (pc 29 rfl (pc 30 rfl (pc 31 rfl (pc 36 rfl (pc 37 rfl (pc 38 rfl (pc 39 rfl (pc 40 rfl pn)))))))))))))))))))))))))
      ·skip
       refine kl_gF rfl rfl g24 ?_
       refine kl_gF rfl rfl g24 ?_
       refine kl_gF rfl rfl g24 ?_
       refine kl_gF rfl rfl g24 ?_
       refine kl_gF rfl rfl g24 ?_
       refine kl_gF rfl rfl g24 ?_
       refine kl_gF rfl rfl g24 ?_
       refine kl_gF rfl rfl g24 ?_
       refine kl_gT rfl rfl g23 ?_
       refine kl_andF (decide ((0 : Int) ≤ (lexC (l.getD ((k : Int) - (1 : Int)).toNat []) (l.getD k [])))) rfl rfl g24 ?_
       exact J29 _ (pc 49 rfl (pc 1 rfl (pc 2 rfl (pc 3 rfl (pc 7 rfl (pc 8 rfl (pc 18 rfl (pc 19 rfl (pc 20 rfl (pc 21 rfl (pc 22 rfl (pc 23 rfl (pc 24 rfl (pc 25 rfl (pc 26 rfl (pc 27 rfl (pc 28 rfl (pc 29 rfl (pc 30 rfl (pc 31 rfl (pc 36 rfl (pc 37 rfl (pc 38 rfl (pc 39 rfl (pc 40 rfl pn)))))))))))))))))))))))))
     refine kl_orF rfl rfl g23 ?_
     exact J30 _ (pc 50 rfl (pc 1 rfl (pc 2 rfl (pc 3 rfl (pc 7 rfl (pc 8 rfl (pc 18 rfl (pc 19 rfl (pc 20 rfl (pc 21 rfl (pc 22 rfl (pc 23 rfl (pc 24 rfl (pc 25 rfl (pc 26 rfl (pc 27 rfl (pc 28 rfl (pc 29 rfl (pc 30 rfl (pc 31 rfl (pc 36 rfl (pc 37 rfl pn))))))))))))))))))))))
   refine kl_nil (kq_code ?_)
   refine kc_cond rfl (fun c31 => ?_) (fun c31 => ?_)
   ·skip
    have c31r := c31
    try simp only [Bool.not_eq_true', Bool.not_eq_false', Bool.not_true, Bool.not_false, decide_eq_true_eq, decide_eq_false_iff_not, Bool.and_eq_true, Bool.or_eq_false_iff] at c31
    refine kc_seq (kc_region ?_)
    refine kl_as rfl ?_
    refine kl_nil (kq_code ?_)
    refine kc_ret ?_
    refine kq_retP rfl rfl (congrArg Value.bool ?_)
    exact chkI_at (k := k) (by omega) (by rw [plI_c (by assumption)]; rfl)
   ·skip
    have c31r := c31
    try simp only [Bool.not_eq_true', Bool.not_eq_false', Bool.not_true, Bool.not_false, decide_eq_true_eq, decide_eq_false_iff_not, Bool.and_eq_true, Bool.or_eq_false_iff] at c31
    refine kc_skipQ ?_
    refine kq_code ?_
    refine kc_region ?_
    refine kl_inc rfl rfl (by omega) ?_
    refine kl_mv rfl ?_
    refine kl_nil ?_
    refine kq_round0 ((k + 1)) (by omega) (⟨by omega, plTo_step hi11 (by rw [plI_c (by assumption)]; rfl)⟩) (pc 20 rfl pn) (pc 1 rfl (pc 2 rfl (pc 3 rfl (pc 18 rfl (pc 19 rfl pn))))) (List.Sublist.refl _)
  ·skip
   refine kc_exit ?_
   refine kq_code ?_
   refine kc_seq (kc_region ?_)
   refine kl_ldS rfl (by assumption) rfl ?_
   refine kl_mv rfl ?_
   refine kl_mv rfl ?_
   refine kl_callP rfl rfl (follows_ok m.doms.length m fa l (0 : Int) hM hfl (by omega) (pl_allI hi11 (by omega)) hne hb (by assumption) (by assumption) (by assumption) (by assumption)) ?_
   refine kl_as rfl ?_
   refine kl_nil (kq_code ?_)
   refine kc_ret ?_
   refine kq_retP rfl rfl (congrArg Value.bool ?_)
   exact chkI_end hc0 (by omega) hi11
end Go.Proofs.Ytbbphbihgikmdaa
