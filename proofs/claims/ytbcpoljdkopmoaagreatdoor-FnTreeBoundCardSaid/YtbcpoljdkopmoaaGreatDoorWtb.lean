/- Walks of functions of the program: each returns what the plain function gives. Conditions: those that each statement names. -/
import Derived.Test.YtbcpoljdkopmoaaGreatDoorWtzo
import Derived.Test.YtbcpoljdkopmoaaGreatDoorWfix
import Derived.Test.YtbcpoljdkopmoaaGreatDoorWgame
import Derived.Test.YtbcpoljdkopmoaaGreatDoorPureP
namespace Go.Proofs.YtbcpoljdkopmoaaGreatDoor
open Go
set_option linter.unusedSimpArgs false
set_option linter.unusedVariables false
theorem open1_ok (d : Int) (hb : 0 ≤ d ∧ d ≤ 63) : SpecP Tryz.prog 61 [.int .i64 d] [] (.bool (decide ((1 : Int) < popI d))) := by
 refine spec_of Tryz.func61 rfl rfl rfl (fun B => ?_)
 refine kc_seq (kc_region ?_)
 refine kl_as rfl ?_
 refine kl_nil (kq_code (kc_seq (kc_region ?_)))
 refine kl_mv rfl ?_
 refine kl_callP rfl rfl (size_ok d hb) ?_
 refine kl_gtr rfl rfl ?_
 refine kl_as rfl ?_
 refine kl_nil (kq_code ?_)
 refine kc_ret ?_
 refine kq_retP rfl rfl (congrArg Value.bool ?_)
 rfl
theorem openI_ok {Hds : Hp} {vds : Value} (ds : List Int) (hD : DomV ds) (hds : Ints Hds vds ds) : SpecP Tryz.prog 31 [vds] [Hds] (.int .i64 (opI ds)) := by
 refine spec_of Tryz.func31 rfl rfl rfl (fun B => ?_)
 refine kc_seq (kc_region ?_)
 refine kl_as rfl ?_
 refine kl_nil (kq_code (kc_seq (kc_region ?_)))
 refine kl_mv rfl ?_
 refine kl_callP rfl rfl (ixf_int_ok ds (fun x0 => decide ((1 : Int) < popI x0)) (by assumption) (fun x0 hmx0 => open1_ok x0 (hD _ hmx0))) ?_
 refine kl_as rfl ?_
 refine kl_nil (kq_code ?_)
 refine kc_ret ?_
 refine kq_retP rfl rfl (congrArg (Value.int .i64) ?_)
 rfl
theorem limited_ok {Hds : Hp} {vds : Value} (ds : List Int) (i : Int) (d : Int) (hb : ds.length ≤ 1000) (hi : 0 ≤ i ∧ i < (ds.length : Int)) (hds : Ints Hds vds ds) : Spec Tryz.prog 34 [vds, .int .i64 i, .int .i64 d] [Hds] (fun Hq vq => Ints Hq vq (ds.set i.toNat (iand (ds.getD i.toNat 0) d))) := by
 refine spec_of Tryz.func34 rfl rfl rfl (fun B => ?_)
 refine kc_seq (kc_region ?_)
 refine kl_as rfl ?_
 refine kl_nil (kq_code (kc_seq (kc_region ?_)))
 refine kl_mv rfl ?_
 refine kl_callL rfl rfl (copied_ok ds (by omega) (by assumption)) (fun v1 H2 f3 o4 => ?_)
 refine kl_as rfl ?_
 refine kl_nil (kq_code (kc_seq (kc_region ?_)))
 refine kl_mv rfl ?_
 refine kl_mv rfl ?_
 refine kl_ixL rfl rfl (by assumption) (by omega) (by omega) (fun p5 q6 => ?_)
 refine kl_ldLI rfl (by assumption) (by assumption) (by omega) ?_
 refine kl_mv rfl ?_
 refine kl_and rfl rfl ?_
 refine kl_ixL rfl rfl (by assumption) (by omega) (by omega) (fun p7 q8 => ?_)
 refine kl_stL (iand (ds.getD i.toNat 0) d) rfl rfl (by assumption) o4 (by omega) rfl rfl rfl (fun H9 o10 f11 => ?_)
 have f12 := f11 _ f3
 refine kl_nil (kq_code (kc_seq (kc_region ?_)))
 refine kl_mv rfl ?_
 refine kl_as rfl ?_
 refine kl_nil (kq_code ?_)
 refine kc_ret ?_
 exact kq_ret rfl rfl H9 f12 (OwnL.ints o10)
abbrev treeBSt (k : Nat) : Prop := ∀ {Hmd : Hp} {vmd : Value} {Hmc : Hp} {vmc : Value} {Hds : Hp} {vds : Value} {Hobj : Hp} {vobj : Value} {Ht : Hp} (m : Mod) (ds : List Int) (obj : List Int) (dp : Int) (hM : MOk m) (hd : DOk m.doms.length ds) (ho : obj.length = m.doms.length) (hO : Coef obj) (hk : dp = (k : Int)) (hk4 : dp ≤ 4) (hmd : Ints Hmd vmd m.doms) (hmc : Cons Hmc vmc m.cons) (hds : Ints Hds vds ds) (hobj : Ints Hobj vobj obj) (htab : At Ht (.pointer (some ⟨1, 0, none⟩)) tabV), SpecP Tryz.prog 16 [.agg #[vmd, vmc], vds, vobj, .int .i64 dp] [Hmd, Hmc, Hds, Hobj, Ht] (.tuple #[.int .i64 ((minF (tbL m obj k ds)).1), .bool ((minF (tbL m obj k ds)).2)])
theorem treeB_step (k : Nat) (ih : ∀ j, j < k → treeBSt j) : treeBSt k := by
 intro Hmd vmd Hmc vmc Hds vds Hobj vobj Ht m ds obj dp hM hd ho hO hk hk4 hmd hmc hds hobj htab
 have hn := hM.n
 have hp := propOk hM hd
 have hpl := hp.ok.l
 refine spec_of Tryz.func16 rfl rfl rfl (fun B => ?_)
 refine kc_seq (kc_region ?_)
 refine kl_box rfl rfl (fun p1 H2 f3 a4 => ?_)
 refine kl_as rfl ?_
 refine kl_as rfl ?_
 refine kl_nil (kq_code (kc_seq (kc_region ?_)))
 refine kl_ldS rfl (by assumption) rfl ?_
 refine kl_mv rfl ?_
 refine kl_call rfl rfl (propagate_ok m ds hM hd (by assumption) (by assumption) (by assumption)) (fun v5 H6 f7 h8 => ?_)
 refine kl_as rfl ?_
 refine kl_nil (kq_code ?_)
 refine kc_seq ?_
 refine kc_seq (kc_region ?_)
 refine kl_mv rfl ?_
 refine kl_inI (i := 0) rfl rfl (by assumption) (by omega) (fun p9 a10 => ?_)
 refine kl_ld rfl (by assumption) ?_
 refine kl_eql rfl rfl ?_
 refine kl_nil (kq_code ?_)
 refine kc_if rfl (fun c11 => ?_) (fun c11 => ?_)
 ·skip
  have hz := (prop_first hM hd).1 c11
  refine kc_seq (kc_region ?_)
  refine kl_as rfl ?_
  refine kl_as rfl ?_
  refine kl_nil (kq_code ?_)
  refine kc_ret ?_
  refine kq_ret2 rfl rfl rfl noHp (fr_no _) (tup2 (congrArg (Value.int .i64) ?_) (congrArg Value.bool ?_))
  ·rw [tb_0 hz]; rfl
  ·rw [tb_0 hz]; rfl
 ·skip
  have hz : (prop m ds).contains 0 = false := (Bool.eq_false_iff.2 (fun h => c11 ((prop_first hM hd).2 h)))
  have hD := prop_at hM hd hz
  refine kc_skipQ ?_
  refine kq_code ?_
  refine kc_seq (kc_region ?_)
  refine kl_mv rfl ?_
  refine kl_callP rfl rfl (openI_ok (prop m ds) hp.ok.d (by assumption)) ?_
  refine kl_as rfl ?_
  refine kl_nil (kq_code ?_)
  refine kc_seq ?_
  refine kc_seq (kc_region ?_)
  refine kl_mv rfl ?_
  refine kl_lss rfl rfl ?_
  refine kl_mv rfl ?_
  refine kl_join 3 31 (.bool (decide ((opI (prop m ds)) < (0 : Int)) || decide (dp = (0 : Int)))) (pc 1 rfl (pc 2 rfl (pc 3 rfl (pc 4 rfl (pc 8 rfl (pc 9 rfl (pc 10 rfl (pc 28 rfl pn)))))))) (fun J13 => ?_) ?_
  ·rcases Bool.eq_false_or_eq_true (decide ((opI (prop m ds)) < (0 : Int))) with g12 | g12
   ·skip
    refine kl_gF rfl rfl g12 ?_
    refine kl_gF rfl rfl g12 ?_
    refine kl_orT (decide (dp = (0 : Int))) rfl rfl g12 ?_
    exact J13 _ (pc 31 rfl (pc 1 rfl (pc 2 rfl (pc 3 rfl (pc 4 rfl (pc 8 rfl (pc 9 rfl (pc 10 rfl (pc 28 rfl pn)))))))))
   ·skip
    have g12p := of_decide_eq_false g12
    refine kl_gT rfl rfl g12 ?_
    refine kl_mv rfl ?_
    refine kl_gT rfl rfl g12 ?_
    refine kl_eql rfl rfl ?_
    refine kl_orF rfl rfl g12 ?_
    exact J13 _ (pc 31 rfl (pc 1 rfl (pc 2 rfl (pc 3 rfl (pc 4 rfl (pc 8 rfl (pc 9 rfl (pc 10 rfl (pc 28 rfl pn)))))))))
  refine kl_nil (kq_code ?_)
  refine kc_cond rfl (fun c14 => ?_) (fun c14 => ?_)
  ·skip
   have c14r := c14
   try simp only [Bool.not_eq_true', Bool.not_eq_false', Bool.not_true, Bool.not_false, decide_eq_true_eq, decide_eq_false_iff_not, Bool.and_eq_true, Bool.or_eq_false_iff] at c14
   refine kc_seq (kc_region ?_)
   refine kl_mv rfl ?_
   refine kl_mv rfl ?_
   refine kl_callP rfl rfl (lowest_ok (prop m ds) obj (by omega) (by omega) hO hD (by assumption) (by assumption) htab) ?_
   refine kl_as rfl ?_
   refine kl_as rfl ?_
   refine kl_nil (kq_code ?_)
   refine kc_ret ?_
   refine kq_ret2 rfl rfl rfl noHp (fr_no _) (tup2 (congrArg (Value.int .i64) ?_) (congrArg Value.bool ?_))
   ·rw [tb_leaf hz (by rw [← hk]; assumption)]; rfl
   ·rw [tb_leaf hz (by rw [← hk]; assumption)]; rfl
  ·skip
   have c14r := c14
   try simp only [Bool.not_eq_true', Bool.not_eq_false', Bool.not_true, Bool.not_false, decide_eq_true_eq, decide_eq_false_iff_not, Bool.and_eq_true, Bool.or_eq_false_iff] at c14
   have hcc := c14r
   simp only [Bool.or_eq_false_iff, decide_eq_false_iff_not] at hcc
   obtain ⟨j, rfl⟩ : ∃ j, k = j + 1 := ⟨k - 1, by omega⟩
   have hop := hcc.1
   have hoi := op_in hop
   have hdk := hD (Int.toNat (opI (prop m ds))) (by omega)
   have hdk2 : 0 ≤ (prop m ds).getD (Int.toNat (opI (prop m ds))) 0 ∧ (prop m ds).getD (Int.toNat (opI (prop m ds))) 0 ≤ 63 := by omega
   refine kc_skipQ ?_
   refine kq_code ?_
   refine kc_seq (kc_region ?_)
   refine kl_as rfl ?_
   refine kl_as rfl ?_
   refine kl_nil (kq_code ?_)
   refine kc_seq ?_
   refine kc_seq (kc_region ?_)
   refine kl_mv rfl ?_
   refine kl_mv rfl ?_
   refine kl_ixI rfl rfl (by assumption) (by omega) (by omega) (fun p15 a16 => ?_)
   refine kl_ld rfl (by assumption) ?_
   refine kl_call rfl rfl (valuesOf_ok ((prop m ds).getD (opI (prop m ds)).toNat 0) hdk2) (fun v17 H18 f19 h20 => ?_)
   refine kl_len rfl (by assumption) (fun l21 => ?_)
   refine kl_mv rfl ?_
   refine kl_nil (kq_code ?_)
   refine kc_block ?_
   refine kc_loop0 (A := Nat × Int × Bool) (fun zz => (zz.1 ≤ (valsI ((prop m ds).getD (opI (prop m ds)).toNat 0)).length) ∧ ((zz.2.1, zz.2.2) = minF (tbTo m obj j (prop m ds) (Int.toNat (opI (prop m ds))) zz.1))) (fun zz => (valsI ((prop m ds).getD (opI (prop m ds)).toNat 0)).length - zz.1) (fun zz => [(41, .int .i64 (zz.1 : Int)), (11, .int .i64 zz.2.1), (12, .bool zz.2.2)]) (0, (0 : Int), false) (pc 1 rfl (pc 2 rfl (pc 3 rfl (pc 4 rfl (pc 8 rfl (pc 9 rfl (pc 10 rfl (pc 39 rfl (pc 40 rfl pn))))))))) (pc 41 rfl (pc 11 rfl (pc 12 rfl pn))) ⟨Nat.zero_le _, rfl⟩ ?_
   rintro ⟨i, b, s⟩ hJ24
   obtain ⟨hk22, hi23⟩ : (i ≤ (valsI ((prop m ds).getD (opI (prop m ds)).toNat 0)).length) ∧ ((b, s) = minF (tbTo m obj j (prop m ds) (Int.toNat (opI (prop m ds))) i)) := hJ24
   change KC _ _ (_) _ _ ([(41, .int .i64 (i : Int)), (11, .int .i64 b), (12, .bool s)] ++ _)
   refine kc_seq (kc_region ?_)
   refine kl_lss rfl rfl ?_
   refine kl_nil (kq_code ?_)
   refine kc_seq ?_
   refine kc_if rfl (fun c25 => ?_) (fun c25 => ?_)
   ·skip
    have hv := getD_mem (d := (0 : Int)) (by omega : i < (valsI ((prop m ds).getD (Int.toNat (opI (prop m ds))) 0)).length)
    have hvv := valsI_mem hv
    have hle := lim_eq hdk2 hv
    refine kc_skipQ ?_
    refine kq_code ?_
    refine kc_seq ?_
    refine kc_block ?_
    refine kc_seq (kc_region ?_)
    refine kl_inI rfl rfl (by assumption) (by omega) (fun p26 a27 => ?_)
    refine kl_ld rfl (by assumption) ?_
    refine kl_as rfl ?_
    refine kl_nil (kq_code ?_)
    refine kc_seq ?_
    refine kc_tree (fun i => ([9] : List Nat).contains i) [] (by kernel_rfl) ?_
    refine kt_q 0 (List.nil_sublist _) rfl (by kernel_rfl) ?_
    refine kl_ldS rfl (by assumption) rfl ?_
    refine kl_nil (kq_q ?_)
    refine kt_q 1 (List.nil_sublist _) rfl (by kernel_rfl) ?_
    refine kl_mv rfl ?_
    refine kl_nil (kq_q ?_)
    refine kt_q 2 (List.nil_sublist _) rfl (by kernel_rfl) ?_
    refine kl_mv rfl ?_
    refine kl_nil (kq_q ?_)
    refine kt_q 3 (List.nil_sublist _) rfl (by kernel_rfl) ?_
    refine kl_mv rfl ?_
    refine kl_nil (kq_q ?_)
    refine kt_q 4 (List.nil_sublist _) rfl (by kernel_rfl) ?_
    refine kl_shl rfl rfl (by omega) ?_
    refine kl_nil (kq_q ?_)
    refine kt_q 6 (List.nil_sublist _) rfl (by kernel_rfl) ?_
    refine kl_mv rfl ?_
    refine kl_nil (kq_q ?_)
    refine kt_q 7 (List.nil_sublist _) rfl (by kernel_rfl) ?_
    refine kl_mv rfl ?_
    refine kl_nil (kq_q ?_)
    refine kt_q 8 (List.nil_sublist _) rfl (by kernel_rfl) ?_
    refine kl_sub rfl rfl (by omega) ?_
    refine kl_nil (kq_q ?_)
    refine kt_a 5 rfl (by kernel_rfl) ?_
    refine kl_call rfl rfl (limited_ok (prop m ds) (opI (prop m ds)) (ishl (1 : Int) ((valsI ((prop m ds).getD (opI (prop m ds)).toNat 0)).getD i 0)) (by omega) (by omega) (by assumption)) (fun v28 H29 f30 h31 => ?_)
    refine kl_nil (kq_a (List.nil_sublist _) ?_)
    refine kt_a 9 rfl (by kernel_rfl) ?_
    refine kl_callP rfl rfl (ih j (by omega) m ((prop m ds).set (opI (prop m ds)).toNat (iand ((prop m ds).getD (opI (prop m ds)).toNat 0) (ishl (1 : Int) ((valsI ((prop m ds).getD (opI (prop m ds)).toNat 0)).getD i 0)))) obj (dp - (1 : Int)) hM (by rw [hle]; exact set_ok hp.ok hvv) ho hO (by omega) (by omega) (by assumption) (by assumption) (by assumption) (by assumption) htab) ?_
    refine kl_nil (kq_x rfl ?_)
    refine kt_q 10 (List.nil_sublist _) rfl (by kernel_rfl) ?_
    refine kl_mv rfl ?_
    refine kl_nil (kq_q ?_)
    refine kt_q 11 (List.nil_sublist _) rfl (by kernel_rfl) ?_
    refine kl_xt rfl rfl ?_
    refine kl_nil (kq_q ?_)
    refine kt_q 12 (List.nil_sublist _) rfl (by kernel_rfl) ?_
    refine kl_xt rfl rfl ?_
    refine kl_nil (kq_q ?_)
    refine kt_q 13 (List.nil_sublist _) rfl (by kernel_rfl) ?_
    refine kl_as rfl ?_
    refine kl_nil (kq_q ?_)
    refine kt_q 14 (List.nil_sublist _) rfl (by kernel_rfl) ?_
    refine kl_as rfl ?_
    refine kl_nil (kq_q ?_)
    refine kt_end (by kernel_rfl) ?_
    refine kq_code ?_
    refine kc_seq (kc_region ?_)
    refine kl_mv rfl ?_
    refine kl_mv rfl ?_
    refine kl_join 8 67 (.bool (((minF (tbL m obj j ((prop m ds).set (opI (prop m ds)).toNat (iand ((prop m ds).getD (opI (prop m ds)).toNat 0) (ishl (1 : Int) ((valsI ((prop m ds).getD (opI (prop m ds)).toNat 0)).getD i 0)))))).2) && (!s || decide (((minF (tbL m obj j ((prop m ds).set (opI (prop m ds)).toNat (iand ((prop m ds).getD (opI (prop m ds)).toNat 0) (ishl (1 : Int) ((valsI ((prop m ds).getD (opI (prop m ds)).toNat 0)).getD i 0)))))).1) < b)))) (pc 1 rfl (pc 2 rfl (pc 3 rfl (pc 4 rfl (pc 8 rfl (pc 9 rfl (pc 10 rfl (pc 11 rfl (pc 12 rfl (pc 14 rfl (pc 15 rfl (pc 16 rfl (pc 39 rfl (pc 40 rfl (pc 41 rfl (pc 42 rfl (pc 43 rfl (pc 44 rfl (pc 45 rfl (pc 46 rfl (pc 47 rfl (pc 48 rfl (pc 49 rfl (pc 50 rfl (pc 51 rfl (pc 52 rfl (pc 53 rfl (pc 54 rfl (pc 55 rfl (pc 56 rfl (pc 57 rfl (pc 58 rfl (pc 59 rfl pn))))))))))))))))))))))))))))))))) (fun J35 => ?_) ?_
    ·rcases Bool.eq_false_or_eq_true ((minF (tbL m obj j ((prop m ds).set (opI (prop m ds)).toNat (iand ((prop m ds).getD (opI (prop m ds)).toNat 0) (ishl (1 : Int) ((valsI ((prop m ds).getD (opI (prop m ds)).toNat 0)).getD i 0)))))).2) with g32 | g32
     ·skip
      have g32p := g32
      try simp only [Bool.not_eq_true', Bool.not_eq_false', decide_eq_true_eq, decide_eq_false_iff_not, Bool.and_eq_true, Bool.or_eq_false_iff, withinB_iff] at g32p
      refine kl_gT rfl rfl g32 ?_
      refine kl_mv rfl ?_
      refine kl_gT rfl rfl g32 ?_
      refine kl_not rfl ?_
      refine kl_gT rfl rfl g32 ?_
      refine kl_mv rfl ?_
      refine kl_join 4 66 (.bool (!s || decide (((minF (tbL m obj j ((prop m ds).set (opI (prop m ds)).toNat (iand ((prop m ds).getD (opI (prop m ds)).toNat 0) (ishl (1 : Int) ((valsI ((prop m ds).getD (opI (prop m ds)).toNat 0)).getD i 0)))))).1) < b))) (pc 1 rfl (pc 2 rfl (pc 3 rfl (pc 4 rfl (pc 8 rfl (pc 9 rfl (pc 10 rfl (pc 11 rfl (pc 12 rfl (pc 14 rfl (pc 15 rfl (pc 16 rfl (pc 39 rfl (pc 40 rfl (pc 41 rfl (pc 42 rfl (pc 43 rfl (pc 44 rfl (pc 45 rfl (pc 46 rfl (pc 47 rfl (pc 48 rfl (pc 49 rfl (pc 50 rfl (pc 51 rfl (pc 52 rfl (pc 53 rfl (pc 54 rfl (pc 55 rfl (pc 56 rfl (pc 57 rfl (pc 58 rfl (pc 59 rfl (pc 60 rfl (pc 61 rfl (pc 62 rfl pn)))))))))))))))))))))))))))))))))))) (fun J34 => ?_) ?_
      ·rcases Bool.eq_false_or_eq_true (!s) with g33 | g33
       ·skip
        refine kl_gF rfl rfl g33 ?_
        refine kl_gF rfl rfl g33 ?_
        refine kl_gF rfl rfl g33 ?_
        refine kl_gT rfl rfl g32 ?_
        refine kl_orT (decide (((minF (tbL m obj j ((prop m ds).set (opI (prop m ds)).toNat (iand ((prop m ds).getD (opI (prop m ds)).toNat 0) (ishl (1 : Int) ((valsI ((prop m ds).getD (opI (prop m ds)).toNat 0)).getD i 0)))))).1) < b)) rfl rfl g33 ?_
        exact J34 _ (pc 66 rfl (pc 1 rfl (pc 2 rfl (pc 3 rfl (pc 4 rfl (pc 8 rfl (pc 9 rfl (pc 10 rfl (pc 11 rfl (pc 12 rfl (pc 14 rfl (pc 15 rfl (pc 16 rfl (pc 39 rfl (pc 40 rfl (pc 41 rfl (pc 42 rfl (pc 43 rfl (pc 44 rfl (pc 45 rfl (pc 46 rfl (pc 47 rfl (pc 48 rfl (pc 49 rfl (pc 50 rfl (pc 51 rfl (pc 52 rfl (pc 53 rfl (pc 54 rfl (pc 55 rfl (pc 56 rfl (pc 57 rfl (pc 58 rfl (pc 59 rfl (pc 60 rfl (pc 61 rfl (pc 62 rfl pn)))))))))))))))))))))))))))))))))))))
       ·skip
        have g33p := g33
        try simp only [Bool.not_eq_true', Bool.not_eq_false', decide_eq_true_eq, decide_eq_false_iff_not, Bool.and_eq_true, Bool.or_eq_false_iff, withinB_iff] at g33p
        refine kl_gT rfl rfl g33 ?_
        refine kl_mv rfl ?_
        refine kl_gT rfl rfl g33 ?_
        refine kl_mv rfl ?_
        refine kl_gT rfl rfl g33 ?_
        refine kl_lss rfl rfl ?_
        refine kl_gT rfl rfl g32 ?_
        refine kl_orF rfl rfl g33 ?_
        exact J34 _ (pc 66 rfl (pc 1 rfl (pc 2 rfl (pc 3 rfl (pc 4 rfl (pc 8 rfl (pc 9 rfl (pc 10 rfl (pc 11 rfl (pc 12 rfl (pc 14 rfl (pc 15 rfl (pc 16 rfl (pc 39 rfl (pc 40 rfl (pc 41 rfl (pc 42 rfl (pc 43 rfl (pc 44 rfl (pc 45 rfl (pc 46 rfl (pc 47 rfl (pc 48 rfl (pc 49 rfl (pc 50 rfl (pc 51 rfl (pc 52 rfl (pc 53 rfl (pc 54 rfl (pc 55 rfl (pc 56 rfl (pc 57 rfl (pc 58 rfl (pc 59 rfl (pc 60 rfl (pc 61 rfl (pc 62 rfl pn)))))))))))))))))))))))))))))))))))))
      refine kl_andT rfl rfl g32 ?_
      exact J35 _ (pc 67 rfl (pc 1 rfl (pc 2 rfl (pc 3 rfl (pc 4 rfl (pc 8 rfl (pc 9 rfl (pc 10 rfl (pc 11 rfl (pc 12 rfl (pc 14 rfl (pc 15 rfl (pc 16 rfl (pc 39 rfl (pc 40 rfl (pc 41 rfl (pc 42 rfl (pc 43 rfl (pc 44 rfl (pc 45 rfl (pc 46 rfl (pc 47 rfl (pc 48 rfl (pc 49 rfl (pc 50 rfl (pc 51 rfl (pc 52 rfl (pc 53 rfl (pc 54 rfl (pc 55 rfl (pc 56 rfl (pc 57 rfl (pc 58 rfl (pc 59 rfl pn))))))))))))))))))))))))))))))))))
     ·skip
      refine kl_gF rfl rfl g32 ?_
      refine kl_gF rfl rfl g32 ?_
      refine kl_gF rfl rfl g32 ?_
      refine kl_gU rfl rfl ?_
      refine kl_gU rfl rfl ?_
      refine kl_gU rfl rfl ?_
      refine kl_gF rfl rfl g32 ?_
      refine kl_andF (!s || decide (((minF (tbL m obj j ((prop m ds).set (opI (prop m ds)).toNat (iand ((prop m ds).getD (opI (prop m ds)).toNat 0) (ishl (1 : Int) ((valsI ((prop m ds).getD (opI (prop m ds)).toNat 0)).getD i 0)))))).1) < b)) rfl rfl g32 ?_
      exact J35 _ (pc 67 rfl (pc 1 rfl (pc 2 rfl (pc 3 rfl (pc 4 rfl (pc 8 rfl (pc 9 rfl (pc 10 rfl (pc 11 rfl (pc 12 rfl (pc 14 rfl (pc 15 rfl (pc 16 rfl (pc 39 rfl (pc 40 rfl (pc 41 rfl (pc 42 rfl (pc 43 rfl (pc 44 rfl (pc 45 rfl (pc 46 rfl (pc 47 rfl (pc 48 rfl (pc 49 rfl (pc 50 rfl (pc 51 rfl (pc 52 rfl (pc 53 rfl (pc 54 rfl (pc 55 rfl (pc 56 rfl (pc 57 rfl (pc 58 rfl (pc 59 rfl pn))))))))))))))))))))))))))))))))))
    refine kl_nil (kq_code ?_)
    refine kc_cond rfl (fun c36 => ?_) (fun c36 => ?_)
    ·skip
     have c36r := c36
     try simp only [Bool.not_eq_true', Bool.not_eq_false', Bool.not_true, Bool.not_false, decide_eq_true_eq, decide_eq_false_iff_not, Bool.and_eq_true, Bool.or_eq_false_iff] at c36
     refine kc_region ?_
     refine kl_mv rfl ?_
     refine kl_as rfl ?_
     refine kl_as rfl ?_
     refine kl_nil (kq_code ?_)
     refine kc_region ?_
     refine kl_inc rfl rfl (by omega) ?_
     refine kl_mv rfl ?_
     refine kl_nil ?_
     refine kq_round0 ((i + 1), ((minF (tbL m obj j ((prop m ds).set (opI (prop m ds)).toNat (iand ((prop m ds).getD (opI (prop m ds)).toNat 0) (ishl (1 : Int) ((valsI ((prop m ds).getD (opI (prop m ds)).toNat 0)).getD i 0)))))).1), true) (by omega) (⟨by omega, (by rw [tbTo_succ (by omega)]; first | exact step_T (r := minF (tbL m obj j ((prop m ds).set (Int.toNat (opI (prop m ds))) (iand ((prop m ds).getD (Int.toNat (opI (prop m ds))) 0) (ishl (1 : Int) ((valsI ((prop m ds).getD (Int.toNat (opI (prop m ds))) 0)).getD i 0)))))) hi23 (by rw [hle]) (by assumption) | exact step_F (r := minF (tbL m obj j ((prop m ds).set (Int.toNat (opI (prop m ds))) (iand ((prop m ds).getD (Int.toNat (opI (prop m ds))) 0) (ishl (1 : Int) ((valsI ((prop m ds).getD (Int.toNat (opI (prop m ds))) 0)).getD i 0)))))) hi23 (by rw [hle]) (by assumption))⟩) (pc 41 rfl (pc 11 rfl (pc 12 rfl pn))) (pc 1 rfl (pc 2 rfl (pc 3 rfl (pc 4 rfl (pc 8 rfl (pc 9 rfl (pc 10 rfl (pc 39 rfl (pc 40 rfl pn))))))))) (List.Sublist.refl _)
    ·skip
     have c36r := c36
     try simp only [Bool.not_eq_true', Bool.not_eq_false', Bool.not_true, Bool.not_false, decide_eq_true_eq, decide_eq_false_iff_not, Bool.and_eq_true, Bool.or_eq_false_iff] at c36
     refine kc_skipQ ?_
     refine kq_code ?_
     refine kc_region ?_
     refine kl_inc rfl rfl (by omega) ?_
     refine kl_mv rfl ?_
     refine kl_nil ?_
     refine kq_round0 ((i + 1), b, s) (by omega) (⟨by omega, (by rw [tbTo_succ (by omega)]; first | exact step_T (r := minF (tbL m obj j ((prop m ds).set (Int.toNat (opI (prop m ds))) (iand ((prop m ds).getD (Int.toNat (opI (prop m ds))) 0) (ishl (1 : Int) ((valsI ((prop m ds).getD (Int.toNat (opI (prop m ds))) 0)).getD i 0)))))) hi23 (by rw [hle]) (by assumption) | exact step_F (r := minF (tbL m obj j ((prop m ds).set (Int.toNat (opI (prop m ds))) (iand ((prop m ds).getD (Int.toNat (opI (prop m ds))) 0) (ishl (1 : Int) ((valsI ((prop m ds).getD (Int.toNat (opI (prop m ds))) 0)).getD i 0)))))) hi23 (by rw [hle]) (by assumption))⟩) (pc 41 rfl (pc 11 rfl (pc 12 rfl pn))) (pc 1 rfl (pc 2 rfl (pc 3 rfl (pc 4 rfl (pc 8 rfl (pc 9 rfl (pc 10 rfl (pc 39 rfl (pc 40 rfl pn))))))))) (List.Sublist.refl _)
   ·skip
    refine kc_exit ?_
    refine kq_code ?_
    refine kc_seq (kc_region ?_)
    refine kl_mv rfl ?_
    refine kl_mv rfl ?_
    refine kl_as rfl ?_
    refine kl_as rfl ?_
    refine kl_nil (kq_code ?_)
    refine kc_ret ?_
    refine kq_ret2 rfl rfl rfl noHp (fr_no _) (tup2 (congrArg (Value.int .i64) ?_) (congrArg Value.bool ?_))
    ·(have h := hi23; rw [tb_all hz hop (by omega)] at h; rw [← h])
    ·(have h := hi23; rw [tb_all hz hop (by omega)] at h; rw [← h])
theorem treeB_ok (k : Nat) : treeBSt k := by
 induction k using Nat.strongRecOn with
 | _ k ih => exact @treeB_step k ih
theorem treeBI_ok {Hmd : Hp} {vmd : Value} {Hmc : Hp} {vmc : Value} {Hobj : Hp} {vobj : Value} {Ht : Hp} (m : Mod) (obj : List Int) (dp : Int) (hmd : Ints Hmd vmd m.doms) (hmc : Cons Hmc vmc m.cons) (hobj : Ints Hobj vobj obj) (htab : At Ht (.pointer (some ⟨1, 0, none⟩)) tabV) : SpecP Tryz.prog 5 [.agg #[vmd, vmc], vobj, .int .i64 dp] [Hmd, Hmc, Hobj, Ht] (.tuple #[.int .i64 ((tbI m obj dp).1), .bool ((tbI m obj dp).2)]) := by
 refine spec_of Tryz.func5 rfl rfl rfl (fun B => ?_)
 refine kc_seq (kc_region ?_)
 refine kl_box rfl rfl (fun p1 H2 f3 a4 => ?_)
 refine kl_as rfl ?_
 refine kl_as rfl ?_
 refine kl_nil (kq_code ?_)
 refine kc_seq ?_
 refine kc_seq (kc_region ?_)
 refine kl_ldS rfl (by assumption) rfl ?_
 refine kl_mv rfl ?_
 refine kl_callP rfl rfl (objectiveOk_ok m obj (by assumption) (by assumption) (by assumption)) ?_
 refine kl_not rfl ?_
 refine kl_mv rfl ?_
 refine kl_join 4 16 (.bool (!(objOkB m obj) || !(withinB dp (0 : Int) (4 : Int)))) (pc 1 rfl (pc 2 rfl (pc 3 rfl (pc 6 rfl (pc 7 rfl (pc 12 rfl pn)))))) (fun J6 => ?_) ?_
 ·rcases Bool.eq_false_or_eq_true (!(objOkB m obj)) with g5 | g5
  ·skip
   refine kl_gF rfl rfl g5 ?_
   refine kl_gF rfl rfl g5 ?_
   refine kl_gF rfl rfl g5 ?_
   refine kl_orT (!(withinB dp (0 : Int) (4 : Int))) rfl rfl g5 ?_
   exact J6 _ (pc 16 rfl (pc 1 rfl (pc 2 rfl (pc 3 rfl (pc 6 rfl (pc 7 rfl (pc 12 rfl pn)))))))
  ·skip
   have g5p := g5
   try simp only [Bool.not_eq_true', Bool.not_eq_false', decide_eq_true_eq, decide_eq_false_iff_not, Bool.and_eq_true, Bool.or_eq_false_iff, withinB_iff] at g5p
   refine kl_gT rfl rfl g5 ?_
   refine kl_mv rfl ?_
   refine kl_gT rfl rfl g5 ?_
   refine kl_callP rfl rfl (within_ok dp (0 : Int) (4 : Int)) ?_
   refine kl_gT rfl rfl g5 ?_
   refine kl_not rfl ?_
   refine kl_orF rfl rfl g5 ?_
   exact J6 _ (pc 16 rfl (pc 1 rfl (pc 2 rfl (pc 3 rfl (pc 6 rfl (pc 7 rfl (pc 12 rfl pn)))))))
 refine kl_nil (kq_code ?_)
 refine kc_cond rfl (fun c7 => ?_) (fun c7 => ?_)
 ·skip
  have c7r := c7
  try simp only [Bool.not_eq_true', Bool.not_eq_false', Bool.not_true, Bool.not_false, decide_eq_true_eq, decide_eq_false_iff_not, Bool.and_eq_true, Bool.or_eq_false_iff] at c7
  refine kc_seq (kc_region ?_)
  refine kl_as rfl ?_
  refine kl_as rfl ?_
  refine kl_nil (kq_code ?_)
  refine kc_ret ?_
  refine kq_ret2 rfl rfl rfl noHp (fr_no _) (tup2 (congrArg (Value.int .i64) ?_) (congrArg Value.bool ?_))
  ·rw [tbI_no (by assumption)]
  ·rw [tbI_no (by assumption)]
 ·skip
  have c7r := c7
  try simp only [Bool.not_eq_true', Bool.not_eq_false', Bool.not_true, Bool.not_false, decide_eq_true_eq, decide_eq_false_iff_not, Bool.and_eq_true, Bool.or_eq_false_iff] at c7
  have hc := c7r
  have hg := tbI_ok hc
  refine kc_skipQ ?_
  refine kq_code ?_
  refine kc_seq (kc_region ?_)
  refine kl_ldS rfl (by assumption) rfl ?_
  refine kl_fd rfl (by assumption) (fun p8 a9 => ?_)
  refine kl_ld rfl (by assumption) ?_
  refine kl_mv rfl ?_
  refine kl_mv rfl ?_
  refine kl_callP rfl rfl (treeB_ok dp.toNat m m.doms obj dp hg.1 hg.1.dok hg.2.1 hg.2.2.1 (by omega) (by omega) (by assumption) (by assumption) (by assumption) (by assumption) htab) ?_
  refine kl_xt rfl rfl ?_
  refine kl_xt rfl rfl ?_
  refine kl_as rfl ?_
  refine kl_as rfl ?_
  refine kl_nil (kq_code ?_)
  refine kc_ret ?_
  refine kq_ret2 rfl rfl rfl noHp (fr_no _) (tup2 (congrArg (Value.int .i64) ?_) (congrArg Value.bool ?_))
  ·rw [tbI_yes hc]
  ·rw [tbI_yes hc]
end Go.Proofs.YtbcpoljdkopmoaaGreatDoor
