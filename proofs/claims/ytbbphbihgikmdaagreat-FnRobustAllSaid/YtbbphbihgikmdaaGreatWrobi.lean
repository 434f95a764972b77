/- Walks of functions of the program: each returns what the plain function gives. Conditions: those that each statement names. -/
import Derived.Test.YtbbphbihgikmdaaGreatWrep
import Derived.Test.YtbbphbihgikmdaaGreatWfilt
import Derived.Test.YtbbphbihgikmdaaGreatWwin
namespace Go.Proofs.YtbbphbihgikmdaaGreat
open Go
set_option linter.unusedSimpArgs false
set_option linter.unusedVariables false
theorem robI_ok {Hmd : Hp} {vmd : Value} {Hmc : Hp} {vmc : Value} (m : Mod) (k : Int) (hmd : Ints Hmd vmd m.doms) (hmc : Cons Hmc vmc m.cons) : Spec Tryz.prog 19 [.agg #[vmd, vmc], .int .i64 k] [Hmd, Hmc] (fun Hq vq => ∃ uq0 : Value, vq = .tuple #[uq0, .bool ((robB m k).2)] ∧ Ints Hq uq0 ((robB m k).1)) := by
 refine spec_ofR Tryz.func19 rfl rfl rfl (fun B => ?_)
 refine kc_seq (kc_region ?_)
 refine kl_box rfl rfl (fun p1 H2 f3 a4 => ?_)
 refine kl_alloc (cs := [.slice none 0 0]) rfl (fun b5 hb6 => ?_)
 refine kl_alloc (cs := [.bool false]) rfl (fun b7 hb8 => ?_)
 refine kl_nil (kq_code ?_)
 refine kc_seq ?_
 refine kc_seq (kc_region ?_)
 refine kl_ldS rfl (by assumption) rfl ?_
 refine kl_callP rfl rfl (validMod_ok m (by assumption) (by assumption)) ?_
 refine kl_not rfl ?_
 refine kl_mv rfl ?_
 refine kl_join 7 18 (.bool (!(validModB m) || !(withinB k (0 : Int) (m.doms.length : Int)))) (pc 1 rfl (pc 2 rfl (pc 4 rfl (pc 5 rfl (pc 11 rfl pn))))) (fun J13 => ?_) ?_
 ·rcases Bool.eq_false_or_eq_true (!(validModB m)) with g9 | g9
  ·skip
   refine kl_gF rfl rfl g9 ?_
   refine kl_gF rfl rfl g9 ?_
   refine kl_gF rfl rfl g9 ?_
   refine kl_gF rfl rfl g9 ?_
   refine kl_gF rfl rfl g9 ?_
   refine kl_gF rfl rfl g9 ?_
   refine kl_orT (!(withinB k (0 : Int) (m.doms.length : Int))) rfl rfl g9 ?_
   exact J13 _ (pc 18 rfl (pc 1 rfl (pc 2 rfl (pc 4 rfl (pc 5 rfl (pc 11 rfl pn))))))
  ·skip
   have g9p := g9
   try simp only [Bool.not_eq_true', Bool.not_eq_false', decide_eq_true_eq, decide_eq_false_iff_not, Bool.and_eq_true, Bool.or_eq_false_iff, withinB_iff] at g9p
   refine kl_gT rfl rfl g9 ?_
   refine kl_mv rfl ?_
   refine kl_gT rfl rfl g9 ?_
   refine kl_fd rfl (by assumption) (fun p10 a11 => ?_)
   refine kl_gT rfl rfl g9 ?_
   refine kl_ld rfl (by assumption) ?_
   refine kl_gT rfl rfl g9 ?_
   refine kl_len rfl (by assumption) (fun l12 => ?_)
   refine kl_gT rfl rfl g9 ?_
   refine kl_callP rfl rfl (within_ok k (0 : Int) (m.doms.length : Int)) ?_
   refine kl_gT rfl rfl g9 ?_
   refine kl_not rfl ?_
   refine kl_orF rfl rfl g9 ?_
   exact J13 _ (pc 18 rfl (pc 1 rfl (pc 2 rfl (pc 4 rfl (pc 5 rfl (pc 11 rfl pn))))))
 refine kl_nil (kq_code ?_)
 refine kc_cond rfl (fun c14 => ?_) (fun c14 => ?_)
 ·skip
  have c14r := c14
  try simp only [Bool.not_eq_true', Bool.not_eq_false', Bool.not_true, Bool.not_false, decide_eq_true_eq, decide_eq_false_iff_not, Bool.and_eq_true, Bool.or_eq_false_iff] at c14
  refine kc_seq (kc_region ?_)
  refine kl_stB rfl rfl rfl rfl rfl ?_
  refine kl_chg [sing b7 (.cells [.bool false].toArray 4 (0, 0)), sing b5 (.cells [.slice none 0 0].toArray 22 (0, 0))] rfl ?_
  refine kl_stB rfl rfl rfl rfl rfl ?_
  refine kl_chg [sing b7 (.cells [.bool false].toArray 4 (0, 0)), sing b5 (.cells [.slice none 0 0].toArray 22 (0, 0))] rfl ?_
  refine kl_nil (kq_code ?_)
  refine kc_ret ?_
  exact kq_retR (rss2 rfl (rs_cell rfl) (rs_cell rfl)) noHp (fr_no _) ⟨.slice none 0 0, by rw [rob_no (by assumption)], by rw [rob_no (by assumption)]; exact Sl.nil⟩ .none
 ·skip
  have c14r := c14
  try simp only [Bool.not_eq_true', Bool.not_eq_false', Bool.not_true, Bool.not_false, decide_eq_true_eq, decide_eq_false_iff_not, Bool.and_eq_true, Bool.or_eq_false_iff] at c14
  have hg := rob_ok c14r
  obtain ⟨hM, hk0, hkn, hrb⟩ := hg
  have hn := hM.n
  refine kc_skipQ ?_
  refine kq_code ?_
  refine kc_seq (kc_region ?_)
  refine kl_bs rfl rfl rfl (by decide) (ca rfl ca_nil) (fun v15 H16 f17 r18 s19 => ?_)
  have h20 : Bools H16 v15 [true] := litBools (xs := [true]) (by simpa using s19)
  refine kl_fd rfl (by assumption) (fun p21 a22 => ?_)
  refine kl_ld rfl (by assumption) ?_
  refine kl_len rfl (by assumption) (fun l23 => ?_)
  refine kl_call rfl rfl (repeat_bool_ok ([true]) m.doms.length rfl (by omega) (by assumption)) (fun v24 H25 f26 h27 => ?_)
  refine kl_alloc (cs := [.slice none 0 0]) rfl (fun b28 hb29 => ?_)
  refine kl_stB rfl rfl rfl (Sl.oneCell (by assumption)) (Sl.cells (by assumption)) ?_
  refine kl_chg [sing b28 (.cells [v24].toArray 83 (0, 0)), sing b7 (.cells [.bool false].toArray 4 (0, 0)), sing b5 (.cells [.slice none 0 0].toArray 22 (0, 0))] rfl ?_
  refine kl_nil (kq_code ?_)
  refine kc_seq ?_
  refine kc_seq (kc_region ?_)
  refine kl_fd rfl (by assumption) (fun p30 a31 => ?_)
  refine kl_ld rfl (by assumption) ?_
  refine kl_mv rfl ?_
  have e34 : k = (((Int.toNat k) : Nat) : Int) := by omega
  refine kl_slTake (i := (Int.toNat k)) rfl (by rw [← e34]; rfl) (by assumption) (by omega) (fun u32 h33 => ?_)
  refine kl_call rfl rfl (tuples_ok (m.doms.take (Int.toNat k)) (by assumption)) (fun v35 H36 f37 h38 => ?_)
  obtain ⟨p39, rfl, a40⟩ := h38
  refine kl_nil (kq_code ?_)
  refine kc_block ?_
  refine kc_noO ?_
  refine kc_range (A := Value × Value × Hp) (fun zz => [zz.2.2, sing b28 (.cells [v24].toArray 83 (0, 0)), sing b7 (.cells [zz.2.1].toArray 4 (0, 0)), sing b5 (.cells [zz.1].toArray 22 (0, 0))]) (fun n zz => (((tupL (m.doms.take k.toNat)).take n).any (robP m k.toNat) = false) ∧ zz.1 = .slice none 0 0 ∧ zz.2.1 = .bool false ∧ zz.2.2 = noHp) ((fun cc zz => cc = .ret ∧ ∃ x, OwnL 3 1 zz.2.2 noHp IntV zz.1 x ∧ Fr B zz.2.2 ∧ zz.2.1 = .bool true ∧ robF m k.toNat = some x)) (.slice none 0 0, .bool false, noHp) rfl (tuples_it (m.doms.take (Int.toNat k)) (fun d hd => hM.dok.d d (List.mem_of_mem_take hd)) (by simp; omega) a40 (by assumption)) (pc 2 rfl (pc 4 rfl (pc 5 rfl (pc 6 rfl pn)))) rfl rfl ⟨(by simp), rfl, rfl, rfl⟩ ?_ ?_ ?_
  ·skip
   rintro l42 m43 D44 r45 H46 v47 n ⟨vr0, vr1, Hr⟩ hk48 hJ49 h50
   obtain ⟨hi41, rfl, rfl, rfl⟩ : (((tupL (m.doms.take k.toNat)).take n).any (robP m k.toNat) = false) ∧ vr0 = .slice none 0 0 ∧ vr1 = .bool false ∧ Hr = noHp := hJ49
   have hb := mem_tupL.1 (getD_mem (d := []) hk48)
   obtain ⟨x, hx⟩ : ∃ x, (tupL (m.doms.take k.toNat)).getD n [] = x := ⟨_, rfl⟩
   rw [hx] at h50 hb
   have hX := hb.vals
   have hxl : x.length = k.toNat := (by rw [hb.1, List.length_take]; omega)
   change KC _ _ _ (rdy l42 r45 :: [noHp, sing b28 (.cells [v24].toArray 83 (0, 0)), sing b7 (.cells [.bool false].toArray 4 (0, 0)), sing b5 (.cells [.slice none 0 0].toArray 22 (0, 0))]) _ _
   refine kc_region ?_
   refine kl_as rfl ?_
   refine kl_nil ?_
   refine kq_begin (r := r45) ?_
   refine kc_block ?_
   refine kc_seq (kc_region ?_)
   refine kl_ldS rfl (by assumption) rfl ?_
   refine kl_ldB rfl rfl ?_
   refine kl_mv rfl ?_
   refine kl_callP rfl rfl (isTrue_ok (m.doms.length - k.toNat) m (List.replicate m.doms.length (([true]).getD 0 false)) x hM (by simp) (by rw [hxl]; omega) hX (by assumption) (by assumption) (by assumption) (by assumption)) ?_
   refine kl_nil (kq_code ?_)
   refine kc_cond rfl (fun c52 => ?_) (fun c52 => ?_)
   ·skip
    have c52r := c52
    try simp only [Bool.not_eq_true', Bool.not_eq_false', Bool.not_true, Bool.not_false, decide_eq_true_eq, decide_eq_false_iff_not, Bool.and_eq_true, Bool.or_eq_false_iff] at c52
    refine kc_seq (kc_region ?_)
    refine kl_mv rfl ?_
    refine kl_callL rfl rfl (copied_ok x (by omega) (by assumption)) (fun v53 H54 f55 o56 => ?_)
    refine kl_stB rfl rfl rfl (OwnL.oneCell (by assumption)) (OwnL.cells (by assumption)) ?_
    refine kl_chg [H54, bsy l42 r45, noHp, sing b28 (.cells [v24].toArray 83 (0, 0)), sing b7 (.cells [.bool false].toArray 4 (0, 0)), sing b5 (.cells [v53].toArray 22 (0, 0))] rfl ?_
    refine kl_stB rfl rfl rfl rfl rfl ?_
    refine kl_chg [H54, bsy l42 r45, noHp, sing b28 (.cells [v24].toArray 83 (0, 0)), sing b7 (.cells [.bool true].toArray 4 (0, 0)), sing b5 (.cells [v53].toArray 22 (0, 0))] rfl ?_
    refine kl_nil (kq_code ?_)
    refine kc_ret ?_
    refine kq_take [bsy l42 r45, H54, sing b28 (.cells [v24].toArray 83 (0, 0)), sing b7 (.cells [.bool true].toArray 4 (0, 0)), sing b5 (.cells [v53].toArray 22 (0, 0))] ?_
    refine kq_blk ?_
    refine kq_rret (show Value × Value × Hp from (v53, .bool true, H54)) ?_ rfl inferInstance (List.Sublist.refl _)
    exact ⟨rfl, _, o56, f55, rfl, (by rw [← hx]; exact rob_hit hk48 hi41 (by rw [hx]; assumption))⟩
   ·skip
    have c52r := c52
    try simp only [Bool.not_eq_true', Bool.not_eq_false', Bool.not_true, Bool.not_false, decide_eq_true_eq, decide_eq_false_iff_not, Bool.and_eq_true, Bool.or_eq_false_iff] at c52
    refine kc_skipQ ?_
    refine kq_take [bsy l42 r45, noHp, sing b28 (.cells [v24].toArray 83 (0, 0)), sing b7 (.cells [.bool false].toArray 4 (0, 0)), sing b5 (.cells [.slice none 0 0].toArray 22 (0, 0))] ?_
    exact kq_rend (invx := fun cc zz => cc = .ret ∧ ∃ x, OwnL 3 1 zz.2.2 noHp IntV zz.1 x ∧ Fr B zz.2.2 ∧ zz.2.1 = .bool true ∧ robF m k.toNat = some x) (.slice none 0 0, .bool false, noHp) ⟨(any_take_step (d := []) hk48 hi41 (by rw [hx]; assumption)), rfl, rfl, rfl⟩ rfl inferInstance (List.Sublist.refl _)
  ·skip
   rintro D57 ⟨vr0, vr1, Hr⟩ hD58 hJ59
   obtain ⟨hi41, rfl, rfl, rfl⟩ : (((tupL (m.doms.take k.toNat)).take ((tupL (m.doms.take (Int.toNat k))).length)).any (robP m k.toNat) = false) ∧ vr0 = .slice none 0 0 ∧ vr1 = .bool false ∧ Hr = noHp := hJ59
   change KQ _ _ ([noHp, sing b28 (.cells [v24].toArray 83 (0, 0)), sing b7 (.cells [.bool false].toArray 4 (0, 0)), sing b5 (.cells [.slice none 0 0].toArray 22 (0, 0))]) _ _
   refine kq_code ?_
   refine kc_seq (kc_region ?_)
   refine kl_stB rfl rfl rfl rfl rfl ?_
   refine kl_chg [noHp, sing b28 (.cells [v24].toArray 83 (0, 0)), sing b7 (.cells [.bool false].toArray 4 (0, 0)), sing b5 (.cells [.slice none 0 0].toArray 22 (0, 0))] rfl ?_
   refine kl_stB rfl rfl rfl rfl rfl ?_
   refine kl_chg [noHp, sing b28 (.cells [v24].toArray 83 (0, 0)), sing b7 (.cells [.bool false].toArray 4 (0, 0)), sing b5 (.cells [.slice none 0 0].toArray 22 (0, 0))] rfl ?_
   refine kl_nil (kq_code ?_)
   refine kc_ret ?_
   exact kq_retR (rss2 rfl (rs_cell rfl) (rs_cell rfl)) noHp (fr_no _) ⟨.slice none 0 0, by rw [(show robB m k = ([], false) from (by rw [hrb, rob_miss hi41]; rfl))], by rw [(show robB m k = ([], false) from (by rw [hrb, rob_miss hi41]; rfl))]; exact Sl.nil⟩ (df1 hD58)
  ·skip
   rintro D57 _ ⟨vr0, vr1, Hr⟩ hD58 ⟨rfl, x, how, hfr, hvb, hhit⟩
   change KC _ _ _ ([Hr, sing b28 (.cells [v24].toArray 83 (0, 0)), sing b7 (.cells [vr1].toArray 4 (0, 0)), sing b5 (.cells [vr0].toArray 22 (0, 0))]) _ _
   refine kc_ret ?_
   have hvb : vr1 = .bool true := hvb
   exact kq_retR (rss2 rfl (rs_cell rfl) (rs_cell rfl)) Hr hfr ⟨vr0, by rw [hvb, hrb, hhit]; rfl, by rw [hrb, hhit]; exact OwnL.ints how⟩ (df1 hD58)
end Go.Proofs.YtbbphbihgikmdaaGreat
