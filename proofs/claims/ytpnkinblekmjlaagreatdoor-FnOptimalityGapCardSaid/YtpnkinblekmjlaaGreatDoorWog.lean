/- Walks of functions of the program: each returns what the plain function gives. Conditions: those that each statement names. -/
import Derived.Test.YtpnkinblekmjlaaGreatDoorWtzo
import Derived.Test.YtpnkinblekmjlaaGreatDoorWgame
import Derived.Test.YtpnkinblekmjlaaGreatDoorWis
import Derived.Test.YtpnkinblekmjlaaGreatDoorWssat
import Derived.Test.YtpnkinblekmjlaaGreatDoorWsgame
namespace Go.Proofs.YtpnkinblekmjlaaGreatDoor
open Go
set_option linter.unusedSimpArgs false
set_option linter.unusedVariables false
theorem gapImp_ok {Hmd : Hp} {vmd : Value} {Hmc : Hp} {vmc : Value} {Hobj : Hp} {vobj : Value} {Hx : Hp} {vx : Value} {Ht : Hp} (m : Mod) (obj : List Int) (x : List Int) (hmd : Ints Hmd vmd m.doms) (hmc : Cons Hmc vmc m.cons) (hobj : Ints Hobj vobj obj) (hx : Ints Hx vx x) (htab : At Ht (.pointer (some ⟨1, 0, none⟩)) tabV) : SpecP Tryz.prog 10 [.agg #[vmd, vmc], vobj, vx] [Hmd, Hmc, Hobj, Hx, Ht] (.tuple #[.int .i64 ((gapI m obj x).1), .bool ((gapI m obj x).2)]) := by
 refine spec_of Tryz.func10 rfl rfl rfl (fun B => ?_)
 refine kc_seq (kc_region ?_)
 refine kl_box rfl rfl (fun p1 H2 f3 a4 => ?_)
 refine kl_as rfl ?_
 refine kl_as rfl ?_
 refine kl_nil (kq_code ?_)
 refine kc_seq ?_
 refine kc_seq (kc_region ?_)
 refine kl_ldS rfl (by assumption) rfl ?_
 refine kl_mv rfl ?_
 refine kl_callP rfl rfl (objectiveOk_ok m obj (by assumption) (by assumption) (by assumption)) ?_
 refine kl_not rfl ?_
 refine kl_mv rfl ?_
 refine kl_join 5 17 (.bool (!(objOkB m obj) || !(isSolT m x))) (pc 1 rfl (pc 2 rfl (pc 3 rfl (pc 6 rfl (pc 7 rfl (pc 12 rfl pn)))))) (fun J6 => ?_) ?_
 ·rcases Bool.eq_false_or_eq_true (!(objOkB m obj)) with g5 | g5
  ·skip
   refine kl_gF rfl rfl g5 ?_
   refine kl_gF rfl rfl g5 ?_
   refine kl_gF rfl rfl g5 ?_
   refine kl_gF rfl rfl g5 ?_
   refine kl_orT (!(isSolT m x)) rfl rfl g5 ?_
   exact J6 _ (pc 17 rfl (pc 1 rfl (pc 2 rfl (pc 3 rfl (pc 6 rfl (pc 7 rfl (pc 12 rfl pn)))))))
  ·skip
   have g5p := g5
   try simp only [Bool.not_eq_true', Bool.not_eq_false', decide_eq_true_eq, decide_eq_false_iff_not, Bool.and_eq_true, Bool.or_eq_false_iff, withinB_iff] at g5p
   refine kl_gT rfl rfl g5 ?_
   refine kl_ldS rfl (by assumption) rfl ?_
   refine kl_gT rfl rfl g5 ?_
   refine kl_mv rfl ?_
   refine kl_gT rfl rfl g5 ?_
   refine kl_callP rfl rfl (isSolI_ok m x (by assumption) (by assumption) (by assumption)) ?_
   refine kl_gT rfl rfl g5 ?_
   refine kl_not rfl ?_
   refine kl_orF rfl rfl g5 ?_
   exact J6 _ (pc 17 rfl (pc 1 rfl (pc 2 rfl (pc 3 rfl (pc 6 rfl (pc 7 rfl (pc 12 rfl pn)))))))
 refine kl_nil (kq_code ?_)
 refine kc_cond rfl (fun c7 => ?_) (fun c7 => ?_)
 ·skip
  have c7r := c7
  try simp only [Bool.not_eq_true', Bool.not_eq_false', Bool.not_true, Bool.not_false, decide_eq_true_eq, decide_eq_false_iff_not, Bool.and_eq_true, Bool.or_eq_false_iff] at c7
  refine kc_seq (kc_region ?_)
  refine kl_as rfl ?_
  refine kl_as rfl ?_
  refine kl_nil (kq_code ?_)
  refine kc_ret ?_
  refine kq_ret2 rfl rfl rfl noHp (fr_no _) (tup2 (congrArg (Value.int .i64) ?_) (congrArg Value.bool ?_))
  ·rw [gap_no (by assumption)]
  ·rw [gap_no (by assumption)]
 ·skip
  have c7r := c7
  try simp only [Bool.not_eq_true', Bool.not_eq_false', Bool.not_true, Bool.not_false, decide_eq_true_eq, decide_eq_false_iff_not, Bool.and_eq_true, Bool.or_eq_false_iff] at c7
  have hc := c7r
  have hg := gap_g hc
  have hM := hg.2.1
  have hn := hM.n
  have hnz := no_zero hM hg.2.2.2.2.1 (k := 0) (by omega)
  have hpl := (propOk hM hM.dok).ok.l
  have hol := hg.2.2.1
  have hxl := hg.2.2.2.2.2.1
  have hdl := dot_le hg.2.2.2.1 hg.2.2.2.2.2.2 x.length (by omega) (Nat.le_refl _)
  have hll := low_in hg.2.2.2.1 (by omega) (propD hM hnz.2.2.1) obj.length (by omega)
  refine kc_skipQ ?_
  refine kq_code ?_
  refine kc_seq ?_
  refine kc_tree (fun i => ([8] : List Nat).contains i) [] (by kernel_rfl) ?_
  refine kt_q 0 (List.nil_sublist _) rfl (by kernel_rfl) ?_
  refine kl_mv rfl ?_
  refine kl_nil (kq_q ?_)
  refine kt_q 1 (List.nil_sublist _) rfl (by kernel_rfl) ?_
  refine kl_mv rfl ?_
  refine kl_nil (kq_q ?_)
  refine kt_q 3 (List.nil_sublist _) rfl (by kernel_rfl) ?_
  refine kl_ldS rfl (by assumption) rfl ?_
  refine kl_nil (kq_q ?_)
  refine kt_q 4 (List.nil_sublist _) rfl (by kernel_rfl) ?_
  refine kl_fd rfl (by assumption) (fun p8 a9 => ?_)
  refine kl_nil (kq_q ?_)
  refine kt_q 5 (List.nil_sublist _) rfl (by kernel_rfl) ?_
  refine kl_ld rfl (by assumption) ?_
  refine kl_nil (kq_q ?_)
  refine kt_q 7 (List.nil_sublist _) rfl (by kernel_rfl) ?_
  refine kl_mv rfl ?_
  refine kl_nil (kq_q ?_)
  refine kt_a 2 rfl (by kernel_rfl) ?_
  refine kl_callP rfl rfl (weighted_ok obj x hg.2.2.2.1 hg.2.2.2.2.2.2 (by omega) (by omega) (by assumption) (by assumption)) ?_
  refine kl_nil (kq_a (List.nil_sublist _) ?_)
  refine kt_a 6 rfl (by kernel_rfl) ?_
  refine kl_call rfl rfl (propagate_ok m m.doms hM hM.dok (by assumption) (by assumption) (by assumption)) (fun v10 H11 f12 h13 => ?_)
  refine kl_nil (kq_a (List.nil_sublist _) ?_)
  refine kt_a 8 rfl (by kernel_rfl) ?_
  refine kl_callP rfl rfl (lowest_ok (prop m m.doms) obj (by omega) (by omega) hg.2.2.2.1 (propD hM hnz.2.2.1) (by assumption) (by assumption) htab) ?_
  refine kl_nil (kq_x rfl ?_)
  refine kt_q 9 (List.nil_sublist _) rfl (by kernel_rfl) ?_
  refine kl_sub rfl rfl (by omega) ?_
  refine kl_nil (kq_q ?_)
  refine kt_q 10 (List.nil_sublist _) rfl (by kernel_rfl) ?_
  refine kl_as rfl ?_
  refine kl_nil (kq_q ?_)
  refine kt_q 11 (List.nil_sublist _) rfl (by kernel_rfl) ?_
  refine kl_as rfl ?_
  refine kl_nil (kq_q ?_)
  refine kt_end (by kernel_rfl) ?_
  refine kq_code ?_
  refine kc_ret ?_
  refine kq_ret2 rfl rfl rfl noHp (fr_no _) (tup2 (congrArg (Value.int .i64) ?_) (congrArg Value.bool ?_))
  ·rw [gap_yes (by assumption)]
  ·rw [gap_yes (by assumption)]
theorem lbS_ok {Hmd : Hp} {vmd : Value} {Hmc : Hp} {vmc : Value} {Hobj : Hp} {vobj : Value} (m : Mod) (obj : List Int) (hmd : Ints Hmd vmd m.doms) (hmc : Cons Hmc vmc m.cons) (hobj : Ints Hobj vobj obj) : SpecP Tryz.prog 23 [.agg #[vmd, vmc], vobj] [Hmd, Hmc, Hobj] (.tuple #[.int .i64 ((lbI m obj).1), .bool ((lbI m obj).2)]) := by
 refine spec_of Tryz.func23 rfl rfl rfl (fun B => ?_)
 refine kc_seq (kc_region ?_)
 refine kl_box rfl rfl (fun p1 H2 f3 a4 => ?_)
 refine kl_as rfl ?_
 refine kl_as rfl ?_
 refine kl_nil (kq_code ?_)
 refine kc_seq ?_
 refine kc_seq (kc_region ?_)
 refine kl_ldS rfl (by assumption) rfl ?_
 refine kl_callP rfl rfl (svalidMod_ok m (by assumption) (by assumption)) ?_
 refine kl_not rfl ?_
 refine kl_mv rfl ?_
 refine kl_join 5 19 (.bool (!(validModB m) || !(objOkS m obj))) (pc 1 rfl (pc 2 rfl (pc 4 rfl (pc 5 rfl (pc 14 rfl pn))))) (fun J6 => ?_) ?_
 ·rcases Bool.eq_false_or_eq_true (!(validModB m)) with g5 | g5
  ·skip
   refine kl_gF rfl rfl g5 ?_
   refine kl_gF rfl rfl g5 ?_
   refine kl_gF rfl rfl g5 ?_
   refine kl_gF rfl rfl g5 ?_
   refine kl_orT (!(objOkS m obj)) rfl rfl g5 ?_
   exact J6 _ (pc 19 rfl (pc 1 rfl (pc 2 rfl (pc 4 rfl (pc 5 rfl (pc 14 rfl pn))))))
  ·skip
   have g5p := g5
   try simp only [Bool.not_eq_true', Bool.not_eq_false', decide_eq_true_eq, decide_eq_false_iff_not, Bool.and_eq_true, Bool.or_eq_false_iff, withinB_iff] at g5p
   refine kl_gT rfl rfl g5 ?_
   refine kl_ldS rfl (by assumption) rfl ?_
   refine kl_gT rfl rfl g5 ?_
   refine kl_mv rfl ?_
   refine kl_gT rfl rfl g5 ?_
   refine kl_callP rfl rfl (validObjective_ok m obj (by assumption) (by assumption) (by assumption)) ?_
   refine kl_gT rfl rfl g5 ?_
   refine kl_not rfl ?_
   refine kl_orF rfl rfl g5 ?_
   exact J6 _ (pc 19 rfl (pc 1 rfl (pc 2 rfl (pc 4 rfl (pc 5 rfl (pc 14 rfl pn))))))
 refine kl_nil (kq_code ?_)
 refine kc_cond rfl (fun c7 => ?_) (fun c7 => ?_)
 ·skip
  have c7r := c7
  try simp only [Bool.not_eq_true', Bool.not_eq_false', Bool.not_true, Bool.not_false, decide_eq_true_eq, decide_eq_false_iff_not, Bool.and_eq_true, Bool.or_eq_false_iff] at c7
  refine kc_seq (kc_region ?_)
  refine kl_as rfl ?_
  refine kl_as rfl ?_
  refine kl_nil (kq_code ?_)
  refine kc_ret ?_
  refine kq_ret2 rfl rfl rfl noHp (fr_no _) (tup2 (congrArg (Value.int .i64) ?_) (congrArg Value.bool ?_))
  ·rw [lb_no (by assumption)]
  ·rw [lb_no (by assumption)]
 ·skip
  have c7r := c7
  try simp only [Bool.not_eq_true', Bool.not_eq_false', Bool.not_true, Bool.not_false, decide_eq_true_eq, decide_eq_false_iff_not, Bool.and_eq_true, Bool.or_eq_false_iff] at c7
  have hc := c7r
  have hg := lb_ok hc
  have hM := hg.1
  have hn := hM.n
  have hpl := (propOk hM hM.dok).ok.l
  have hol := hg.2.1
  refine kc_skipQ ?_
  refine kq_code ?_
  refine kc_seq (kc_region ?_)
  refine kl_ldS rfl (by assumption) rfl ?_
  refine kl_fd rfl (by assumption) (fun p8 a9 => ?_)
  refine kl_ld rfl (by assumption) ?_
  refine kl_call rfl rfl (fixS_ok m m.doms hM hM.dok (by assumption) (by assumption) (by assumption)) (fun v10 H11 f12 h13 => ?_)
  refine kl_as rfl ?_
  refine kl_nil (kq_code ?_)
  refine kc_seq ?_
  refine kc_seq (kc_region ?_)
  refine kl_mv rfl ?_
  refine kl_callP rfl rfl (hasEmpty_ok (prop m m.doms) (by assumption)) ?_
  refine kl_nil (kq_code ?_)
  refine kc_cond rfl (fun c14 => ?_) (fun c14 => ?_)
  ·skip
   have c14r := c14
   try simp only [Bool.not_eq_true', Bool.not_eq_false', Bool.not_true, Bool.not_false, decide_eq_true_eq, decide_eq_false_iff_not, Bool.and_eq_true, Bool.or_eq_false_iff] at c14
   refine kc_seq (kc_region ?_)
   refine kl_as rfl ?_
   refine kl_as rfl ?_
   refine kl_nil (kq_code ?_)
   refine kc_ret ?_
   refine kq_ret2 rfl rfl rfl noHp (fr_no _) (tup2 (congrArg (Value.int .i64) ?_) (congrArg Value.bool ?_))
   ·rw [lb_0 hc (by assumption)]
   ·rw [lb_0 hc (by assumption)]
  ·skip
   have c14r := c14
   try simp only [Bool.not_eq_true', Bool.not_eq_false', Bool.not_true, Bool.not_false, decide_eq_true_eq, decide_eq_false_iff_not, Bool.and_eq_true, Bool.or_eq_false_iff] at c14
   have h0 : (prop m m.doms).contains 0 = false := (by simpa using c14r)
   have hD := propD hM h0
   refine kc_skipQ ?_
   refine kq_code ?_
   refine kc_seq (kc_region ?_)
   refine kl_as rfl ?_
   refine kl_nil (kq_code ?_)
   refine kc_seq ?_
   refine kc_seq (kc_region ?_)
   refine kl_as rfl ?_
   refine kl_nil (kq_code ?_)
   refine kc_block ?_
   refine kc_loop0 (A := Nat × Int) (fun zz => (zz.1 ≤ (prop m m.doms).length) ∧ (zz.2 = lowT (prop m m.doms) obj zz.1)) (fun zz => (prop m m.doms).length - zz.1) (fun zz => [(8, .int .i64 (zz.1 : Int)), (7, .int .i64 zz.2)]) (0, (0 : Int)) (pc 1 rfl (pc 4 rfl (pc 5 rfl (pc 6 rfl pn)))) (pc 8 rfl (pc 7 rfl pn)) ⟨Nat.zero_le _, rfl⟩ ?_
   rintro ⟨k, s⟩ hJ17
   obtain ⟨hk15, hi16⟩ : (k ≤ (prop m m.doms).length) ∧ (s = lowT (prop m m.doms) obj k) := hJ17
   change KC _ _ (_) _ _ ([(8, .int .i64 (k : Int)), (7, .int .i64 s)] ++ _)
   refine kc_seq ?_
   refine kc_seq (kc_region ?_)
   refine kl_mv rfl ?_
   refine kl_mv rfl ?_
   refine kl_len rfl (by assumption) (fun l18 => ?_)
   refine kl_lss rfl rfl ?_
   refine kl_nil (kq_code ?_)
   refine kc_if rfl (fun c19 => ?_) (fun c19 => ?_)
   ·skip
    have hdk := hD k (by omega)
    have hme := mul_ends hg.2.2 (by omega : k < obj.length) hdk
    have hli := low_in hg.2.2 (by omega) hD k (by omega)
    rw [← hi16] at hli
    refine kc_skipQ ?_
    refine kq_code ?_
    refine kc_seq ?_
    refine kc_block ?_
    refine kc_seq (kc_region ?_)
    refine kl_mv rfl ?_
    refine kl_mv rfl ?_
    refine kl_inI rfl rfl (by assumption) (by omega) (fun p20 a21 => ?_)
    refine kl_ld rfl (by assumption) ?_
    refine kl_call rfl rfl (domainValues_ok ((prop m m.doms).getD k 0)) (fun v22 H23 f24 h25 => ?_)
    refine kl_as rfl ?_
    refine kl_nil (kq_code (kc_seq (kc_region ?_)))
    refine kl_mv rfl ?_
    refine kl_inI (i := 0) rfl rfl (by assumption) (by omega) (fun p26 a27 => ?_)
    refine kl_ld rfl (by assumption) ?_
    refine kl_as rfl ?_
    refine kl_nil (kq_code ?_)
    refine kc_seq ?_
    refine kc_seq (kc_region ?_)
    refine kl_mv rfl ?_
    refine kl_mv rfl ?_
    refine kl_inI rfl rfl (by assumption) (by omega) (fun p28 a29 => ?_)
    refine kl_ld rfl (by assumption) ?_
    refine kl_lss rfl rfl ?_
    refine kl_nil (kq_code ?_)
    refine kc_if rfl (fun c30 => ?_) (fun c30 => ?_)
    ·skip
     refine kc_region ?_
     refine kl_mv rfl ?_
     refine kl_mv rfl ?_
     refine kl_len rfl (by assumption) (fun l31 => ?_)
     refine kl_sub rfl rfl (by omega) ?_
     refine kl_ixI rfl rfl (by assumption) (by omega) (by omega) (fun p32 a33 => ?_)
     refine kl_ld rfl (by assumption) ?_
     refine kl_as rfl ?_
     refine kl_nil (kq_code ?_)
     refine kc_region ?_
     refine kl_mv rfl ?_
     refine kl_mv rfl ?_
     refine kl_mv rfl ?_
     refine kl_inI rfl rfl (by assumption) (by omega) (fun p34 a35 => ?_)
     refine kl_ld rfl (by assumption) ?_
     refine kl_mv rfl ?_
     refine kl_mul rfl rfl (by omega) ?_
     refine kl_add rfl rfl (by omega) ?_
     refine kl_as rfl ?_
     refine kl_nil (kq_code ?_)
     refine kc_region ?_
     refine kl_mv rfl ?_
     refine kl_inc rfl rfl (by omega) ?_
     refine kl_as rfl ?_
     refine kl_nil ?_
     refine kq_round0 ((k + 1), (s + ((obj.getD k 0) * ((valsI ((prop m m.doms).getD k 0)).getD (((valsI ((prop m m.doms).getD k 0)).length : Int) - (1 : Int)).toNat 0)))) (by omega) (⟨by omega, (by first | exact low_Ts hi16 (by assumption) | exact low_Fs hi16 (by assumption))⟩) (pc 8 rfl (pc 7 rfl pn)) (pc 1 rfl (pc 4 rfl (pc 5 rfl (pc 6 rfl pn)))) (List.Sublist.refl _)
    ·skip
     refine kc_skipQ ?_
     refine kq_code ?_
     refine kc_region ?_
     refine kl_mv rfl ?_
     refine kl_mv rfl ?_
     refine kl_mv rfl ?_
     refine kl_inI rfl rfl (by assumption) (by omega) (fun p36 a37 => ?_)
     refine kl_ld rfl (by assumption) ?_
     refine kl_mv rfl ?_
     refine kl_mul rfl rfl (by omega) ?_
     refine kl_add rfl rfl (by omega) ?_
     refine kl_as rfl ?_
     refine kl_nil (kq_code ?_)
     refine kc_region ?_
     refine kl_mv rfl ?_
     refine kl_inc rfl rfl (by omega) ?_
     refine kl_as rfl ?_
     refine kl_nil ?_
     refine kq_round0 ((k + 1), (s + ((obj.getD k 0) * ((valsI ((prop m m.doms).getD k 0)).getD 0 0)))) (by omega) (⟨by omega, (by first | exact low_Ts hi16 (by assumption) | exact low_Fs hi16 (by assumption))⟩) (pc 8 rfl (pc 7 rfl pn)) (pc 1 rfl (pc 4 rfl (pc 5 rfl (pc 6 rfl pn)))) (List.Sublist.refl _)
   ·skip
    refine kc_exit ?_
    refine kq_code ?_
    refine kc_seq (kc_region ?_)
    refine kl_mv rfl ?_
    refine kl_as rfl ?_
    refine kl_as rfl ?_
    refine kl_nil (kq_code ?_)
    refine kc_ret ?_
    refine kq_ret2 rfl rfl rfl noHp (fr_no _) (tup2 (congrArg (Value.int .i64) ?_) (congrArg Value.bool ?_))
    ·rw [lb_1 hc h0, show (prop m m.doms).length = k from by omega]; exact hi16
    ·rw [lb_1 hc h0]
theorem gapRef_ok {Hmd : Hp} {vmd : Value} {Hmc : Hp} {vmc : Value} {Hobj : Hp} {vobj : Value} {Hx : Hp} {vx : Value} (m : Mod) (obj : List Int) (x : List Int) (hmd : Ints Hmd vmd m.doms) (hmc : Cons Hmc vmc m.cons) (hobj : Ints Hobj vobj obj) (hx : Ints Hx vx x) : SpecP Tryz.prog 7 [.agg #[vmd, vmc], vobj, vx] [Hmd, Hmc, Hobj, Hx] (.tuple #[.int .i64 ((gapI m obj x).1), .bool ((gapI m obj x).2)]) := by
 refine spec_of Tryz.func7 rfl rfl rfl (fun B => ?_)
 refine kc_seq (kc_region ?_)
 refine kl_box rfl rfl (fun p1 H2 f3 a4 => ?_)
 refine kl_as rfl ?_
 refine kl_as rfl ?_
 refine kl_nil (kq_code ?_)
 refine kc_seq ?_
 refine kc_seq (kc_region ?_)
 refine kl_ldS rfl (by assumption) rfl ?_
 refine kl_callP rfl rfl (svalidMod_ok m (by assumption) (by assumption)) ?_
 refine kl_not rfl ?_
 refine kl_mv rfl ?_
 refine kl_join 5 18 (.bool (!(validModB m) || !(objOkS m obj))) (pc 1 rfl (pc 2 rfl (pc 3 rfl (pc 6 rfl (pc 7 rfl (pc 13 rfl pn)))))) (fun J6 => ?_) ?_
 ·rcases Bool.eq_false_or_eq_true (!(validModB m)) with g5 | g5
  ·skip
   refine kl_gF rfl rfl g5 ?_
   refine kl_gF rfl rfl g5 ?_
   refine kl_gF rfl rfl g5 ?_
   refine kl_gF rfl rfl g5 ?_
   refine kl_orT (!(objOkS m obj)) rfl rfl g5 ?_
   exact J6 _ (pc 18 rfl (pc 1 rfl (pc 2 rfl (pc 3 rfl (pc 6 rfl (pc 7 rfl (pc 13 rfl pn)))))))
  ·skip
   have g5p := g5
   try simp only [Bool.not_eq_true', Bool.not_eq_false', decide_eq_true_eq, decide_eq_false_iff_not, Bool.and_eq_true, Bool.or_eq_false_iff, withinB_iff] at g5p
   refine kl_gT rfl rfl g5 ?_
   refine kl_ldS rfl (by assumption) rfl ?_
   refine kl_gT rfl rfl g5 ?_
   refine kl_mv rfl ?_
   refine kl_gT rfl rfl g5 ?_
   refine kl_callP rfl rfl (validObjective_ok m obj (by assumption) (by assumption) (by assumption)) ?_
   refine kl_gT rfl rfl g5 ?_
   refine kl_not rfl ?_
   refine kl_orF rfl rfl g5 ?_
   exact J6 _ (pc 18 rfl (pc 1 rfl (pc 2 rfl (pc 3 rfl (pc 6 rfl (pc 7 rfl (pc 13 rfl pn)))))))
 refine kl_mv rfl ?_
 refine kl_join 7 26 (.bool ((!(validModB m) || !(objOkS m obj)) || decide ((x.length : Int) ≠ (m.doms.length : Int)))) (pc 1 rfl (pc 2 rfl (pc 3 rfl (pc 6 rfl (pc 7 rfl (pc 19 rfl pn)))))) (fun J12 => ?_) ?_
 ·rcases Bool.eq_false_or_eq_true (!(validModB m) || !(objOkS m obj)) with g7 | g7
  ·skip
   refine kl_gF rfl rfl g7 ?_
   refine kl_gF rfl rfl g7 ?_
   refine kl_gF rfl rfl g7 ?_
   refine kl_gF rfl rfl g7 ?_
   refine kl_gF rfl rfl g7 ?_
   refine kl_gF rfl rfl g7 ?_
   refine kl_orT (decide ((x.length : Int) ≠ (m.doms.length : Int))) rfl rfl g7 ?_
   exact J12 _ (pc 26 rfl (pc 1 rfl (pc 2 rfl (pc 3 rfl (pc 6 rfl (pc 7 rfl (pc 19 rfl pn)))))))
  ·skip
   have g7p := g7
   try simp only [Bool.not_eq_true', Bool.not_eq_false', decide_eq_true_eq, decide_eq_false_iff_not, Bool.and_eq_true, Bool.or_eq_false_iff, withinB_iff] at g7p
   refine kl_gT rfl rfl g7 ?_
   refine kl_mv rfl ?_
   refine kl_gT rfl rfl g7 ?_
   refine kl_len rfl (by assumption) (fun l8 => ?_)
   refine kl_gT rfl rfl g7 ?_
   refine kl_fd rfl (by assumption) (fun p9 a10 => ?_)
   refine kl_gT rfl rfl g7 ?_
   refine kl_ld rfl (by assumption) ?_
   refine kl_gT rfl rfl g7 ?_
   refine kl_len rfl (by assumption) (fun l11 => ?_)
   refine kl_gT rfl rfl g7 ?_
   refine kl_neq rfl rfl ?_
   refine kl_orF rfl rfl g7 ?_
   exact J12 _ (pc 26 rfl (pc 1 rfl (pc 2 rfl (pc 3 rfl (pc 6 rfl (pc 7 rfl (pc 19 rfl pn)))))))
 refine kl_mv rfl ?_
 refine kl_join 5 32 (.bool (((!(validModB m) || !(objOkS m obj)) || decide ((x.length : Int) ≠ (m.doms.length : Int))) || !(isSolS m x))) (pc 1 rfl (pc 2 rfl (pc 3 rfl (pc 6 rfl (pc 7 rfl (pc 27 rfl pn)))))) (fun J14 => ?_) ?_
 ·rcases Bool.eq_false_or_eq_true ((!(validModB m) || !(objOkS m obj)) || decide ((x.length : Int) ≠ (m.doms.length : Int))) with g13 | g13
  ·skip
   refine kl_gF rfl rfl g13 ?_
   refine kl_gF rfl rfl g13 ?_
   refine kl_gF rfl rfl g13 ?_
   refine kl_gF rfl rfl g13 ?_
   refine kl_orT (!(isSolS m x)) rfl rfl g13 ?_
   exact J14 _ (pc 32 rfl (pc 1 rfl (pc 2 rfl (pc 3 rfl (pc 6 rfl (pc 7 rfl (pc 27 rfl pn)))))))
  ·skip
   have g13p := g13
   try simp only [Bool.not_eq_true', Bool.not_eq_false', decide_eq_true_eq, decide_eq_false_iff_not, Bool.and_eq_true, Bool.or_eq_false_iff, withinB_iff] at g13p
   have hsm : MOk m := ⟨g13p.1.1⟩
   have hsl : x.length = m.doms.length := (by have h9 := g13p.2; omega)
   refine kl_gT rfl rfl g13 ?_
   refine kl_ldS rfl (by assumption) rfl ?_
   refine kl_gT rfl rfl g13 ?_
   refine kl_mv rfl ?_
   refine kl_gT rfl rfl g13 ?_
   refine kl_callP rfl rfl (sisSol_ok m x hsm hsl (by assumption) (by assumption) (by assumption)) ?_
   refine kl_gT rfl rfl g13 ?_
   refine kl_not rfl ?_
   refine kl_orF rfl rfl g13 ?_
   exact J14 _ (pc 32 rfl (pc 1 rfl (pc 2 rfl (pc 3 rfl (pc 6 rfl (pc 7 rfl (pc 27 rfl pn)))))))
 refine kl_nil (kq_code ?_)
 refine kc_cond rfl (fun c15 => ?_) (fun c15 => ?_)
 ·skip
  have c15r := c15
  try simp only [Bool.not_eq_true', Bool.not_eq_false', Bool.not_true, Bool.not_false, decide_eq_true_eq, decide_eq_false_iff_not, Bool.and_eq_true, Bool.or_eq_false_iff] at c15
  refine kc_seq (kc_region ?_)
  refine kl_as rfl ?_
  refine kl_as rfl ?_
  refine kl_nil (kq_code ?_)
  refine kc_ret ?_
  refine kq_ret2 rfl rfl rfl noHp (fr_no _) (tup2 (congrArg (Value.int .i64) ?_) (congrArg Value.bool ?_))
  ·rw [gap_no' (by assumption)]
  ·rw [gap_no' (by assumption)]
 ·skip
  have c15r := c15
  try simp only [Bool.not_eq_true', Bool.not_eq_false', Bool.not_true, Bool.not_false, decide_eq_true_eq, decide_eq_false_iff_not, Bool.and_eq_true, Bool.or_eq_false_iff] at c15
  have hc := gap_c' c15r
  have hg := gap_g hc
  have hM := hg.2.1
  have hn := hM.n
  have hpl := (propOk hM hM.dok).ok.l
  have hol := hg.2.2.1
  have hxl := hg.2.2.2.2.2.1
  have hnz := no_zero hM hg.2.2.2.2.1 (k := 0) (by omega)
  have hdl := dot_le hg.2.2.2.1 hg.2.2.2.2.2.2 x.length (by omega) (Nat.le_refl _)
  have hll := low_in hg.2.2.2.1 (by omega) (propD hM hnz.2.2.1) obj.length (by omega)
  have hle := lb_sol hc
  refine kc_skipQ ?_
  refine kq_code ?_
  refine kc_seq (kc_region ?_)
  refine kl_ldS rfl (by assumption) rfl ?_
  refine kl_mv rfl ?_
  refine kl_callP rfl rfl (lbS_ok m obj (by assumption) (by assumption) (by assumption)) ?_
  refine kl_mv rfl ?_
  refine kl_xt rfl rfl ?_
  refine kl_xt rfl rfl ?_
  refine kl_as rfl ?_
  refine kl_as rfl ?_
  refine kl_nil (kq_code (kc_seq (kc_region ?_)))
  refine kl_mv rfl ?_
  refine kl_mv rfl ?_
  refine kl_callP rfl rfl (svalue_ok obj x hg.2.2.2.1 hg.2.2.2.2.2.2 (by omega) (by omega) (by assumption) (by assumption)) ?_
  refine kl_mv rfl ?_
  refine kl_sub rfl rfl (by omega) ?_
  refine kl_as rfl ?_
  refine kl_as rfl ?_
  refine kl_nil (kq_code ?_)
  refine kc_ret ?_
  refine kq_ret2 rfl rfl rfl noHp (fr_no _) (tup2 (congrArg (Value.int .i64) ?_) (congrArg Value.bool ?_))
  ·rw [gap_yes hc, hle]
  ·rw [gap_yes hc]
end Go.Proofs.YtpnkinblekmjlaaGreatDoor
