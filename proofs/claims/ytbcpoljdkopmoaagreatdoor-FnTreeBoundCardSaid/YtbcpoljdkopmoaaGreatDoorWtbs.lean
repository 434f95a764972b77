/- Walks of functions of the program: each returns what the plain function gives. Conditions: those that each statement names. -/
import Derived.Test.YtbcpoljdkopmoaaGreatDoorWtzo
import Derived.Test.YtbcpoljdkopmoaaGreatDoorWsfix
import Derived.Test.YtbcpoljdkopmoaaGreatDoorWsgame
import Derived.Test.YtbcpoljdkopmoaaGreatDoorPureP
namespace Go.Proofs.YtbcpoljdkopmoaaGreatDoor
open Go
set_option linter.unusedSimpArgs false
set_option linter.unusedVariables false
theorem domBound_ok {Hobj : Hp} {vobj : Value} {Hds : Hp} {vds : Value} (obj : List Int) (ds : List Int) (hl : obj.length = ds.length) (h4 : ds.length ≤ 4) (hO : Coef obj) (hD : ∀ i, i < ds.length → 1 ≤ ds.getD i 0 ∧ ds.getD i 0 ≤ 63) (hobj : Ints Hobj vobj obj) (hds : Ints Hds vds ds) : SpecP Tryz.prog 41 [vobj, vds] [Hobj, Hds] (.int .i64 (lowT ds obj ds.length)) := by
 refine spec_of Tryz.func41 rfl rfl rfl (fun B => ?_)
 refine kc_seq (kc_region ?_)
 refine kl_as rfl ?_
 refine kl_nil (kq_code (kc_seq (kc_region ?_)))
 refine kl_as rfl ?_
 refine kl_nil (kq_code ?_)
 refine kc_seq ?_
 refine kc_seq (kc_region ?_)
 refine kl_as rfl ?_
 refine kl_nil (kq_code ?_)
 refine kc_block ?_
 refine kc_loop0 (A := Nat × Int) (fun zz => (zz.1 ≤ ds.length) ∧ (zz.2 = lowT ds obj zz.1)) (fun zz => ds.length - zz.1) (fun zz => [(6, .int .i64 (zz.1 : Int)), (5, .int .i64 zz.2)]) (0, (0 : Int)) (pc 0 rfl (pc 1 rfl (pc 4 rfl pn))) (pc 6 rfl (pc 5 rfl pn)) ⟨Nat.zero_le _, rfl⟩ ?_
 rintro ⟨k, s⟩ hJ3
 obtain ⟨hk1, hi2⟩ : (k ≤ ds.length) ∧ (s = lowT ds obj k) := hJ3
 change KC _ _ (_) _ _ ([(6, .int .i64 (k : Int)), (5, .int .i64 s)] ++ _)
 refine kc_seq ?_
 refine kc_seq (kc_region ?_)
 refine kl_mv rfl ?_
 refine kl_mv rfl ?_
 refine kl_len rfl (by assumption) (fun l4 => ?_)
 refine kl_lss rfl rfl ?_
 refine kl_nil (kq_code ?_)
 refine kc_if rfl (fun c5 => ?_) (fun c5 => ?_)
 ·skip
  have hdk := hD k (by omega)
  have hme := mul_ends hO (by omega : k < obj.length) hdk
  have hli := low_in hO hl hD k (by omega)
  rw [← hi2] at hli
  refine kc_skipQ ?_
  refine kq_code ?_
  refine kc_seq ?_
  refine kc_block ?_
  refine kc_seq (kc_region ?_)
  refine kl_mv rfl ?_
  refine kl_mv rfl ?_
  refine kl_inI rfl rfl (by assumption) (by omega) (fun p6 a7 => ?_)
  refine kl_ld rfl (by assumption) ?_
  refine kl_call rfl rfl (domainValues_ok (ds.getD k 0)) (fun v8 H9 f10 h11 => ?_)
  refine kl_as rfl ?_
  refine kl_nil (kq_code (kc_seq (kc_region ?_)))
  refine kl_mv rfl ?_
  refine kl_inI (i := 0) rfl rfl (by assumption) (by omega) (fun p12 a13 => ?_)
  refine kl_ld rfl (by assumption) ?_
  refine kl_as rfl ?_
  refine kl_nil (kq_code ?_)
  refine kc_seq ?_
  refine kc_seq (kc_region ?_)
  refine kl_mv rfl ?_
  refine kl_mv rfl ?_
  refine kl_inI rfl rfl (by assumption) (by omega) (fun p14 a15 => ?_)
  refine kl_ld rfl (by assumption) ?_
  refine kl_lss rfl rfl ?_
  refine kl_nil (kq_code ?_)
  refine kc_if rfl (fun c16 => ?_) (fun c16 => ?_)
  ·skip
   refine kc_region ?_
   refine kl_mv rfl ?_
   refine kl_mv rfl ?_
   refine kl_len rfl (by assumption) (fun l17 => ?_)
   refine kl_sub rfl rfl (by omega) ?_
   refine kl_ixI rfl rfl (by assumption) (by omega) (by omega) (fun p18 a19 => ?_)
   refine kl_ld rfl (by assumption) ?_
   refine kl_as rfl ?_
   refine kl_nil (kq_code ?_)
   refine kc_region ?_
   refine kl_mv rfl ?_
   refine kl_mv rfl ?_
   refine kl_mv rfl ?_
   refine kl_inI rfl rfl (by assumption) (by omega) (fun p20 a21 => ?_)
   refine kl_ld rfl (by assumption) ?_
   refine kl_mv rfl ?_
   refine kl_mul rfl rfl (by omega) ?_
   refine kl_add rfl rfl (by omega) ?_
   refine kl_as rfl ?_
   refine kl_nil (kq_code ?_)
   refine kc_region ?_
   refine kl_mv rfl ?_
   refine kl_inc rfl rfl (by omega) ?_
   refine kl_as rfl ?_
   refine kl_nil ?_
   refine kq_round0 ((k + 1), (s + ((obj.getD k 0) * ((valsI (ds.getD k 0)).getD (((valsI (ds.getD k 0)).length : Int) - (1 : Int)).toNat 0)))) (by omega) (⟨by omega, (by first | exact low_Ts hi2 (by assumption) | exact low_Fs hi2 (by assumption))⟩) (pc 6 rfl (pc 5 rfl pn)) (pc 0 rfl (pc 1 rfl (pc 4 rfl pn))) (List.Sublist.refl _)
  ·skip
   refine kc_skipQ ?_
   refine kq_code ?_
   refine kc_region ?_
   refine kl_mv rfl ?_
   refine kl_mv rfl ?_
   refine kl_mv rfl ?_
   refine kl_inI rfl rfl (by assumption) (by omega) (fun p22 a23 => ?_)
   refine kl_ld rfl (by assumption) ?_
   refine kl_mv rfl ?_
   refine kl_mul rfl rfl (by omega) ?_
   refine kl_add rfl rfl (by omega) ?_
   refine kl_as rfl ?_
   refine kl_nil (kq_code ?_)
   refine kc_region ?_
   refine kl_mv rfl ?_
   refine kl_inc rfl rfl (by omega) ?_
   refine kl_as rfl ?_
   refine kl_nil ?_
   refine kq_round0 ((k + 1), (s + ((obj.getD k 0) * ((valsI (ds.getD k 0)).getD 0 0)))) (by omega) (⟨by omega, (by first | exact low_Ts hi2 (by assumption) | exact low_Fs hi2 (by assumption))⟩) (pc 6 rfl (pc 5 rfl pn)) (pc 0 rfl (pc 1 rfl (pc 4 rfl pn))) (List.Sublist.refl _)
 ·skip
  refine kc_exit ?_
  refine kq_code ?_
  refine kc_seq (kc_region ?_)
  refine kl_mv rfl ?_
  refine kl_as rfl ?_
  refine kl_nil (kq_code ?_)
  refine kc_ret ?_
  refine kq_retP rfl rfl (congrArg (Value.int .i64) ?_)
  rw [show ds.length = k from by omega]; exact hi2
abbrev visitSt (k : Nat) : Prop := ∀ {b : Nat} {Hmd Hmc Ho Hds : Hp} {vmd vmc vo vds : Value} (m : Mod) (ds obj : List Int) (dp lo : Int) (sm : Bool) (hM : MOk m) (hd : DOk m.doms.length ds) (ho : obj.length = m.doms.length) (hO : Coef obj) (hk : dp = (k : Int)) (hk4 : dp ≤ 4)
  (hmd : Ints Hmd vmd m.doms) (hmc : Cons Hmc vmc m.cons) (hob : Ints Ho vo obj) (hds : Ints Hds vds ds),
  SpecT Tryz.prog 20 [.pointer (some ⟨b, 0, none⟩), vds, .int .i64 dp] [sing b (.cells [vmd, vmc, vo, .int .i64 lo, .bool sm].toArray 47 (0, 0))] [Hmd, Hmc, Ho, Hds] (fun vq L1 Ln _ => vq = .tuple #[] ∧ Ln = [] ∧ ∃ (lo2 : Int) (sm2 : Bool), L1 = [sing b (.cells [vmd, vmc, vo, .int .i64 lo2, .bool sm2].toArray 47 (0, 0))] ∧ (lo2, sm2) = (tbL m obj k ds).foldl putB (lo, sm))
theorem visit_step (k : Nat) (ih : ∀ j, j < k → visitSt j) : visitSt k := by
 intro b Hmd Hmc Ho Hds vmd vmc vo vds m ds obj dp lo sm hM hd ho hO hk hk4 hmd hmc hob hds
 have hn := hM.n
 have hp := propOk hM hd
 have hpl := hp.ok.l
 refine specT_of Tryz.func20 rfl rfl rfl (fun B => ?_)
 refine kc_seq (kc_region ?_)
 refine kl_mv rfl ?_
 refine kl_nilchk rfl ?_
 refine kl_fdV rfl ?_
 refine kl_ldSL rfl (At.take 2 (at_box (T := 47) (cs := [vmd, vmc, vo, .int .i64 lo, .bool sm]) (off := 0) (fz := (0, 0)))) rfl ?_
 refine kl_mv rfl ?_
 refine kl_call rfl rfl (fixS_ok m ds hM hd (by assumption) (by assumption) (by assumption)) (fun v1 H2 f3 h4 => ?_)
 refine kl_as rfl ?_
 refine kl_nil (kq_code ?_)
 refine kc_seq ?_
 refine kc_seq (kc_region ?_)
 refine kl_mv rfl ?_
 refine kl_callP rfl rfl (hasEmpty_ok (prop m ds) (by assumption)) ?_
 refine kl_nil (kq_code ?_)
 refine kc_cond rfl (fun c5 => ?_) (fun c5 => ?_)
 ·skip
  have c5r := c5
  try simp only [Bool.not_eq_true', Bool.not_eq_false', Bool.not_true, Bool.not_false, decide_eq_true_eq, decide_eq_false_iff_not, Bool.and_eq_true, Bool.or_eq_false_iff] at c5
  have hz : (prop m ds).contains 0 = true := c5r
  refine kc_ret ?_
  exact kq_retT0 rfl [sing b (.cells [vmd, vmc, vo, .int .i64 lo, .bool sm].toArray 47 (0, 0))] [] noHp frn (fr_no _) ⟨rfl, rfl, lo, sm, rfl, (by rw [tb_0 hz]; rfl)⟩
 ·skip
  have c5r := c5
  try simp only [Bool.not_eq_true', Bool.not_eq_false', Bool.not_true, Bool.not_false, decide_eq_true_eq, decide_eq_false_iff_not, Bool.and_eq_true, Bool.or_eq_false_iff] at c5
  have hz : (prop m ds).contains 0 = false := (by simpa using c5r)
  have hD := prop_at hM hd hz
  refine kc_skipQ ?_
  refine kq_code ?_
  refine kc_seq (kc_region ?_)
  refine kl_as rfl ?_
  refine kl_nil (kq_code ?_)
  refine kc_seq ?_
  refine kc_block ?_
  refine kc_loop0 (A := Nat) (fun zz => (zz ≤ (prop m ds).length) ∧ (∀ j, j < zz → (valsI ((prop m ds).getD j 0)).length = 1)) (fun zz => (prop m ds).length - zz) (fun zz => [(7, .int .i64 (zz : Int))]) (0) (pc 0 rfl (pc 2 rfl (pc 6 rfl pn))) (pc 7 rfl pn) ⟨Nat.zero_le _, (fun _ h => absurd h (Nat.not_lt_zero _))⟩ ?_
  rintro i hJ8
  obtain ⟨hk6, hi7⟩ : (i ≤ (prop m ds).length) ∧ (∀ j, j < i → (valsI ((prop m ds).getD j 0)).length = 1) := hJ8
  change KC _ _ (_) _ _ ([(7, .int .i64 (i : Int))] ++ _)
  refine kc_seq ?_
  refine kc_seq (kc_region ?_)
  refine kl_mv rfl ?_
  refine kl_mv rfl ?_
  refine kl_len rfl (by assumption) (fun l9 => ?_)
  refine kl_lss rfl rfl ?_
  refine kl_mv rfl ?_
  refine kl_join 8 32 (.bool (decide ((i : Int) < ((prop m ds).length : Int)) && decide (((valsI ((prop m ds).getD i 0)).length : Int) = (1 : Int)))) (pc 0 rfl (pc 2 rfl (pc 6 rfl (pc 7 rfl (pc 20 rfl (pc 21 rfl (pc 22 rfl (pc 23 rfl (pc 24 rfl pn))))))))) (fun J18 => ?_) ?_
  ·rcases Bool.eq_false_or_eq_true (decide ((i : Int) < ((prop m ds).length : Int))) with g10 | g10
   ·skip
    have g10p := of_decide_eq_true g10
    refine kl_gT rfl rfl g10 ?_
    refine kl_mv rfl ?_
    refine kl_gT rfl rfl g10 ?_
    refine kl_mv rfl ?_
    refine kl_gT rfl rfl g10 ?_
    refine kl_inI rfl rfl (by assumption) (by first | omega | (simp; omega)) (fun p11 a12 => ?_)
    refine kl_gT rfl rfl g10 ?_
    refine kl_ld rfl (by assumption) ?_
    refine kl_gT rfl rfl g10 ?_
    refine kl_call rfl rfl (domainValues_ok ((prop m ds).getD i 0)) (fun v13 H14 f15 h16 => ?_)
    refine kl_gT rfl rfl g10 ?_
    refine kl_len rfl (by assumption) (fun l17 => ?_)
    refine kl_gT rfl rfl g10 ?_
    refine kl_eql rfl rfl ?_
    refine kl_andT rfl rfl g10 ?_
    exact kl_fg (List.Sublist.refl _) (J18 _ (pc 32 rfl (pc 0 rfl (pc 2 rfl (pc 6 rfl (pc 7 rfl (pc 20 rfl (pc 21 rfl (pc 22 rfl (pc 23 rfl (pc 24 rfl pn)))))))))))
   ·skip
    refine kl_gF rfl rfl g10 ?_
    refine kl_gF rfl rfl g10 ?_
    refine kl_gF rfl rfl g10 ?_
    refine kl_gF rfl rfl g10 ?_
    refine kl_gF rfl rfl g10 ?_
    refine kl_gF rfl rfl g10 ?_
    refine kl_gF rfl rfl g10 ?_
    refine kl_andF (decide (((valsI ((prop m ds).getD i 0)).length : Int) = (1 : Int))) rfl rfl g10 ?_
    exact J18 _ (pc 32 rfl (pc 0 rfl (pc 2 rfl (pc 6 rfl (pc 7 rfl (pc 20 rfl (pc 21 rfl (pc 22 rfl (pc 23 rfl (pc 24 rfl pn))))))))))
  refine kl_nil (kq_code ?_)
  refine kc_cond rfl (fun c19 => ?_) (fun c19 => ?_)
  ·skip
   have c19r := c19
   try simp only [Bool.not_eq_true', Bool.not_eq_false', Bool.not_true, Bool.not_false, decide_eq_true_eq, decide_eq_false_iff_not, Bool.and_eq_true, Bool.or_eq_false_iff] at c19
   have hgo := br_go c19r
   refine kc_skipQ ?_
   refine kq_code ?_
   refine kc_block ?_
   refine kc_region ?_
   refine kl_mv rfl ?_
   refine kl_inc rfl rfl (by omega) ?_
   refine kl_as rfl ?_
   refine kl_nil ?_
   refine kq_round0 ((i + 1)) (by (have := hgo.1; omega)) (⟨(by have := hgo.1; omega), (by intro j hj; rcases Nat.lt_succ_iff_lt_or_eq.1 hj with h9 | h9; (exact hi7 j h9); (subst h9; have := hgo.2; omega))⟩) (pc 7 rfl pn) (pc 0 rfl (pc 2 rfl (pc 6 rfl pn))) (List.Sublist.refl _)
  ·skip
   have c19r := c19
   try simp only [Bool.not_eq_true', Bool.not_eq_false', Bool.not_true, Bool.not_false, decide_eq_true_eq, decide_eq_false_iff_not, Bool.and_eq_true, Bool.or_eq_false_iff] at c19
   have hex := br_exit c19r
   refine kc_exit ?_
   refine kq_code ?_
   refine kc_seq ?_
   refine kc_seq (kc_region ?_)
   refine kl_mv rfl ?_
   refine kl_mv rfl ?_
   refine kl_len rfl (by assumption) (fun l20 => ?_)
   refine kl_eql rfl rfl ?_
   refine kl_mv rfl ?_
   refine kl_join 3 42 (.bool (decide ((i : Int) = ((prop m ds).length : Int)) || decide (dp = (0 : Int)))) (pc 0 rfl (pc 2 rfl (pc 6 rfl (pc 7 rfl (pc 39 rfl pn))))) (fun J22 => ?_) ?_
   ·rcases Bool.eq_false_or_eq_true (decide ((i : Int) = ((prop m ds).length : Int))) with g21 | g21
    ·skip
     refine kl_gF rfl rfl g21 ?_
     refine kl_gF rfl rfl g21 ?_
     refine kl_orT (decide (dp = (0 : Int))) rfl rfl g21 ?_
     exact J22 _ (pc 42 rfl (pc 0 rfl (pc 2 rfl (pc 6 rfl (pc 7 rfl (pc 39 rfl pn))))))
    ·skip
     have g21p := of_decide_eq_false g21
     refine kl_gT rfl rfl g21 ?_
     refine kl_mv rfl ?_
     refine kl_gT rfl rfl g21 ?_
     refine kl_eql rfl rfl ?_
     refine kl_orF rfl rfl g21 ?_
     exact J22 _ (pc 42 rfl (pc 0 rfl (pc 2 rfl (pc 6 rfl (pc 7 rfl (pc 39 rfl pn))))))
   refine kl_nil (kq_code ?_)
   refine kc_cond rfl (fun c23 => ?_) (fun c23 => ?_)
   ·skip
    have c23r := c23
    try simp only [Bool.not_eq_true', Bool.not_eq_false', Bool.not_true, Bool.not_false, decide_eq_true_eq, decide_eq_false_iff_not, Bool.and_eq_true, Bool.or_eq_false_iff] at c23
    have hlf := vi_leaf hD hk hi7 c23r hex
    have hlw : lowT (prop m ds) obj (prop m ds).length = lowT (prop m ds) obj obj.length := (by rw [hpl, ho])
    refine kc_seq (kc_region ?_)
    refine kl_mv rfl ?_
    refine kl_nilchk rfl ?_
    refine kl_fdV rfl ?_
    refine kl_ldB rfl rfl ?_
    refine kl_mv rfl ?_
    refine kl_callP rfl rfl (domBound_ok obj (prop m ds) (by omega) (by omega) hO hD (by assumption) (by assumption)) ?_
    refine kl_as rfl ?_
    refine kl_nil (kq_code ?_)
    refine kc_seq ?_
    refine kc_seq (kc_region ?_)
    refine kl_mv rfl ?_
    refine kl_nilchk rfl ?_
    refine kl_fdV rfl ?_
    refine kl_ldB rfl rfl ?_
    refine kl_not rfl ?_
    refine kl_mv rfl ?_
    refine kl_join 7 61 (.bool (!sm || decide ((lowT (prop m ds) obj (prop m ds).length) < lo))) (pc 0 rfl (pc 2 rfl (pc 6 rfl (pc 7 rfl (pc 8 rfl (pc 54 rfl pn)))))) (fun J25 => ?_) ?_
    ·rcases Bool.eq_false_or_eq_true (!sm) with g24 | g24
     ·skip
      refine kl_gF rfl rfl g24 ?_
      refine kl_gF rfl rfl g24 ?_
      refine kl_gF rfl rfl g24 ?_
      refine kl_gF rfl rfl g24 ?_
      refine kl_gF rfl rfl g24 ?_
      refine kl_gF rfl rfl g24 ?_
      refine kl_orT (decide ((lowT (prop m ds) obj (prop m ds).length) < lo)) rfl rfl g24 ?_
      exact J25 _ (pc 61 rfl (pc 0 rfl (pc 2 rfl (pc 6 rfl (pc 7 rfl (pc 8 rfl (pc 54 rfl pn)))))))
     ·skip
      have g24p := g24
      try simp only [Bool.not_eq_true', Bool.not_eq_false', decide_eq_true_eq, decide_eq_false_iff_not, Bool.and_eq_true, Bool.or_eq_false_iff, withinB_iff] at g24p
      refine kl_gT rfl rfl g24 ?_
      refine kl_mv rfl ?_
      refine kl_gT rfl rfl g24 ?_
      refine kl_mv rfl ?_
      refine kl_gT rfl rfl g24 ?_
      refine kl_nilchk rfl ?_
      refine kl_gT rfl rfl g24 ?_
      refine kl_fdV rfl ?_
      refine kl_gT rfl rfl g24 ?_
      refine kl_ldB rfl rfl ?_
      refine kl_gT rfl rfl g24 ?_
      refine kl_lss rfl rfl ?_
      refine kl_orF rfl rfl g24 ?_
      exact J25 _ (pc 61 rfl (pc 0 rfl (pc 2 rfl (pc 6 rfl (pc 7 rfl (pc 8 rfl (pc 54 rfl pn)))))))
    refine kl_nil (kq_code ?_)
    refine kc_cond rfl (fun c26 => ?_) (fun c26 => ?_)
    ·skip
     have c26r := c26
     try simp only [Bool.not_eq_true', Bool.not_eq_false', Bool.not_true, Bool.not_false, decide_eq_true_eq, decide_eq_false_iff_not, Bool.and_eq_true, Bool.or_eq_false_iff] at c26
     refine kc_region ?_
     refine kl_mv rfl ?_
     refine kl_mv rfl ?_
     refine kl_nilchk rfl ?_
     refine kl_fdV rfl ?_
     refine kl_stB rfl rfl rfl rfl rfl ?_
     refine kl_chg [sing b (.cells [vmd, vmc, vo, .int .i64 (lowT (prop m ds) obj (prop m ds).length), .bool sm].toArray 47 (0, 0))] rfl ?_
     refine kl_nil (kq_code (kc_seq (kc_region ?_)))
     refine kl_mv rfl ?_
     refine kl_nilchk rfl ?_
     refine kl_fdV rfl ?_
     refine kl_stB rfl rfl rfl rfl rfl ?_
     refine kl_chg [sing b (.cells [vmd, vmc, vo, .int .i64 (lowT (prop m ds) obj (prop m ds).length), .bool true].toArray 47 (0, 0))] rfl ?_
     refine kl_nil (kq_code ?_)
     refine kc_ret ?_
     exact kq_retT0 rfl [sing b (.cells [vmd, vmc, vo, .int .i64 (lowT (prop m ds) obj (prop m ds).length), .bool true].toArray 47 (0, 0))] [] noHp frn (fr_no _) ⟨rfl, rfl, (lowT (prop m ds) obj (prop m ds).length), true, rfl, (by rw [tb_leaf hz hlf]; exact put_T hlw (by assumption))⟩
    ·skip
     have c26r := c26
     try simp only [Bool.not_eq_true', Bool.not_eq_false', Bool.not_true, Bool.not_false, decide_eq_true_eq, decide_eq_false_iff_not, Bool.and_eq_true, Bool.or_eq_false_iff] at c26
     refine kc_skipQ ?_
     refine kq_code ?_
     refine kc_seq (kc_region ?_)
     refine kl_mv rfl ?_
     refine kl_nilchk rfl ?_
     refine kl_fdV rfl ?_
     refine kl_stB rfl rfl rfl rfl rfl ?_
     refine kl_chg [sing b (.cells [vmd, vmc, vo, .int .i64 lo, .bool true].toArray 47 (0, 0))] rfl ?_
     refine kl_nil (kq_code ?_)
     refine kc_ret ?_
     exact kq_retT0 rfl [sing b (.cells [vmd, vmc, vo, .int .i64 lo, .bool true].toArray 47 (0, 0))] [] noHp frn (fr_no _) ⟨rfl, rfl, lo, true, rfl, (by rw [tb_leaf hz hlf]; exact put_F hlw (by assumption))⟩
   ·skip
    have c23r := c23
    try simp only [Bool.not_eq_true', Bool.not_eq_false', Bool.not_true, Bool.not_false, decide_eq_true_eq, decide_eq_false_iff_not, Bool.and_eq_true, Bool.or_eq_false_iff] at c23
    have hcc := c23r
    simp only [Bool.or_eq_false_iff, decide_eq_false_iff_not] at hcc
    obtain ⟨j, rfl⟩ : ∃ j, k = j + 1 := ⟨k - 1, by omega⟩
    have hi0 : i < (prop m ds).length := (by omega)
    have hne1 : (valsI ((prop m ds).getD i 0)).length ≠ 1 := (by rcases hex with h9 | h9 <;> omega)
    have hopI := op_at hD hi0 hi7 hne1
    refine kc_skipQ ?_
    refine kq_code ?_
    refine kc_seq (kc_region ?_)
    refine kl_mv rfl ?_
    refine kl_mv rfl ?_
    refine kl_inI rfl rfl (by assumption) (by first | omega | (simp; omega)) (fun p27 a28 => ?_)
    refine kl_ld rfl (by assumption) ?_
    refine kl_call rfl rfl (domainValues_ok ((prop m ds).getD i 0)) (fun v29 H30 f31 h32 => ?_)
    refine kl_as rfl ?_
    refine kl_nil (kq_code (kc_seq (kc_region ?_)))
    refine kl_as rfl ?_
    refine kl_nil (kq_code ?_)
    refine kc_block ?_
    refine kc_loopL (A := Nat × Int × Bool) (fun zz => (zz.1 ≤ (valsI ((prop m ds).getD i 0)).length) ∧ ((zz.2.1, zz.2.2) = (tbTo m obj j (prop m ds) i zz.1).foldl putB (lo, sm))) (fun zz => (valsI ((prop m ds).getD i 0)).length - zz.1) (fun zz => [sing b (.cells [vmd, vmc, vo, .int .i64 zz.2.1, .bool zz.2.2].toArray 47 (0, 0))]) (fun zz => [(10, .int .i64 (zz.1 : Int))]) (0, lo, sm) (pc 0 rfl (pc 2 rfl (pc 6 rfl (pc 7 rfl (pc 9 rfl pn))))) (pc 10 rfl pn) rfl ⟨Nat.zero_le _, rfl⟩ ?_
    rintro ⟨q, lo1, sm1⟩ hJ35
    obtain ⟨hk33, hi34⟩ : (q ≤ (valsI ((prop m ds).getD i 0)).length) ∧ ((lo1, sm1) = (tbTo m obj j (prop m ds) i q).foldl putB (lo, sm)) := hJ35
    change KC _ _ (_) [sing b (.cells [vmd, vmc, vo, .int .i64 lo1, .bool sm1].toArray 47 (0, 0))] _ ([(10, .int .i64 (q : Int))] ++ _)
    refine kc_seq ?_
    refine kc_seq (kc_region ?_)
    refine kl_mv rfl ?_
    refine kl_mv rfl ?_
    refine kl_len rfl (by assumption) (fun l36 => ?_)
    refine kl_lss rfl rfl ?_
    refine kl_nil (kq_code ?_)
    refine kc_if rfl (fun c37 => ?_) (fun c37 => ?_)
    ·skip
     have hv := getD_mem (d := (0 : Int)) (by omega : q < (valsI ((prop m ds).getD i 0)).length)
     have hvv := valsI_mem hv
     refine kc_skipQ ?_
     refine kq_code ?_
     refine kc_seq ?_
     refine kc_block ?_
     refine kc_seq (kc_region ?_)
     refine kl_mv rfl ?_
     refine kl_callL rfl rfl (copyInts_ok (prop m ds) (by omega) (by assumption)) (fun v38 H39 f40 o41 => ?_)
     refine kl_as rfl ?_
     refine kl_nil (kq_code (kc_seq (kc_region ?_)))
     refine kl_mv rfl ?_
     refine kl_mv rfl ?_
     refine kl_mv rfl ?_
     refine kl_mv rfl ?_
     refine kl_inI rfl rfl (by assumption) (by first | omega | (simp; omega)) (fun p42 a43 => ?_)
     refine kl_ld rfl (by assumption) ?_
     refine kl_shl rfl rfl (by omega) ?_
     refine kl_ixLn rfl rfl (by assumption) (by first | omega | (simp; omega)) (fun p44 q45 => ?_)
     refine kl_stL (ishl (1 : Int) ((valsI ((prop m ds).getD i 0)).getD q 0)) rfl rfl (by assumption) o41 (by first | omega | (simp; omega)) rfl rfl rfl (fun H46 o47 f48 => ?_)
     have f49 := f48 _ f40
     refine kl_chg [H46, sing b (.cells [vmd, vmc, vo, .int .i64 lo1, .bool sm1].toArray 47 (0, 0))] rfl ?_
     refine kl_nil (kq_code ?_)
     refine kc_region ?_
     refine kl_mv rfl ?_
     refine kl_mv rfl ?_
     refine kl_mv rfl ?_
     refine kl_sub rfl rfl (by omega) ?_
     refine kl_callT rfl rfl (ih j (by omega) m ((prop m ds).set i (ishl (1 : Int) ((valsI ((prop m ds).getD i 0)).getD q 0))) obj (dp - (1 : Int)) lo1 sm1 hM (set_ok hp.ok hvv) ho hO (by omega) (by omega) hmd hmc hob (OwnL.ints o47)) (fun v50 L1 Ln K51 h52 g53 g54 => ?_)
     obtain ⟨rfl, rfl, n55, s56, rfl, h57⟩ := h52
     refine kl_norm ?_
     refine kl_nil (kq_code ?_)
     refine kc_region ?_
     refine kl_mv rfl ?_
     refine kl_inc rfl rfl (by omega) ?_
     refine kl_as rfl ?_
     refine kl_nil ?_
     refine kq_take [sing b (.cells [vmd, vmc, vo, .int .i64 n55, .bool s56].toArray 47 (0, 0))] ?_
     refine kq_roundL ((q + 1), n55, s56) (by omega) (⟨by omega, (by rw [tbTo_succ (by omega), List.foldl_append, ← hi34]; assumption)⟩) (pc 10 rfl pn) (pc 0 rfl (pc 2 rfl (pc 6 rfl (pc 7 rfl (pc 9 rfl pn))))) rfl (List.Sublist.refl _)
    ·skip
     refine kc_exit ?_
     exact kq_retT0 rfl [sing b (.cells [vmd, vmc, vo, .int .i64 lo1, .bool sm1].toArray 47 (0, 0))] [] noHp frn (fr_no _) ⟨rfl, rfl, lo1, sm1, rfl, (by have h := hi34; rw [tb_allS hz hopI (by omega)] at h; exact h)⟩
theorem visit_ok (k : Nat) : visitSt k := by
 induction k using Nat.strongRecOn with
 | _ k ih => exact @visit_step k ih
theorem treeBS_ok {Hmd : Hp} {vmd : Value} {Hmc : Hp} {vmc : Value} {Hobj : Hp} {vobj : Value} (m : Mod) (obj : List Int) (dp : Int) (hmd : Ints Hmd vmd m.doms) (hmc : Cons Hmc vmc m.cons) (hobj : Ints Hobj vobj obj) : SpecP Tryz.prog 6 [.agg #[vmd, vmc], vobj, .int .i64 dp] [Hmd, Hmc, Hobj] (.tuple #[.int .i64 ((tbI m obj dp).1), .bool ((tbI m obj dp).2)]) := by
 refine spec_of Tryz.func6 rfl rfl rfl (fun B => ?_)
 refine kc_seq (kc_region ?_)
 refine kl_box rfl rfl (fun p1 H2 f3 a4 => ?_)
 refine kl_as rfl ?_
 refine kl_as rfl ?_
 refine kl_nil (kq_code ?_)
 refine kc_seq ?_
 refine kc_seq (kc_region ?_)
 refine kl_ldS rfl (by assumption) rfl ?_
 refine kl_callP rfl rfl (svalidMod_ok m (by assumption) (by assumption)) ?_
 refine kl_not rfl ?_
 refine kl_mv rfl ?_
 refine kl_join 5 17 (.bool (!(validModB m) || !(objOkS m obj))) (pc 1 rfl (pc 2 rfl (pc 3 rfl (pc 6 rfl (pc 7 rfl (pc 12 rfl pn)))))) (fun J6 => ?_) ?_
 ·rcases Bool.eq_false_or_eq_true (!(validModB m)) with g5 | g5
  ·skip
   refine kl_gF rfl rfl g5 ?_
   refine kl_gF rfl rfl g5 ?_
   refine kl_gF rfl rfl g5 ?_
   refine kl_gF rfl rfl g5 ?_
   refine kl_orT (!(objOkS m obj)) rfl rfl g5 ?_
   exact J6 _ (pc 17 rfl (pc 1 rfl (pc 2 rfl (pc 3 rfl (pc 6 rfl (pc 7 rfl (pc 12 rfl pn)))))))
  ·skip
   have g5p := g5
   try simp only [Bool.not_eq_true', Bool.not_eq_false', decide_eq_true_eq, decide_eq_false_iff_not, Bool.and_eq_true, Bool.or_eq_false_iff, withinB_iff] at g5p
   refine kl_gT rfl rfl g5 ?_
   refine kl_ldS rfl (by assumption) rfl ?_
   refine kl_gT rfl rfl g5 ?_
   refine kl_mv rfl ?_
   refine kl_gT rfl rfl g5 ?_
   refine kl_callP rfl rfl (validObjective_ok m obj (by assumption) (by assumption) (by assumption)) ?_
   refine kl_gT rfl rfl g5 ?_
   refine kl_not rfl ?_
   refine kl_orF rfl rfl g5 ?_
   exact J6 _ (pc 17 rfl (pc 1 rfl (pc 2 rfl (pc 3 rfl (pc 6 rfl (pc 7 rfl (pc 12 rfl pn)))))))
 refine kl_mv rfl ?_
 refine kl_join 4 22 (.bool ((!(validModB m) || !(objOkS m obj)) || !(withinB dp (0 : Int) (4 : Int)))) (pc 1 rfl (pc 2 rfl (pc 3 rfl (pc 6 rfl (pc 7 rfl (pc 18 rfl pn)))))) (fun J8 => ?_) ?_
 ·rcases Bool.eq_false_or_eq_true (!(validModB m) || !(objOkS m obj)) with g7 | g7
  ·skip
   refine kl_gF rfl rfl g7 ?_
   refine kl_gF rfl rfl g7 ?_
   refine kl_gF rfl rfl g7 ?_
   refine kl_orT (!(withinB dp (0 : Int) (4 : Int))) rfl rfl g7 ?_
   exact J8 _ (pc 22 rfl (pc 1 rfl (pc 2 rfl (pc 3 rfl (pc 6 rfl (pc 7 rfl (pc 18 rfl pn)))))))
  ·skip
   have g7p := g7
   try simp only [Bool.not_eq_true', Bool.not_eq_false', decide_eq_true_eq, decide_eq_false_iff_not, Bool.and_eq_true, Bool.or_eq_false_iff, withinB_iff] at g7p
   refine kl_gT rfl rfl g7 ?_
   refine kl_mv rfl ?_
   refine kl_gT rfl rfl g7 ?_
   refine kl_callP rfl rfl (inRange_ok dp (0 : Int) (4 : Int)) ?_
   refine kl_gT rfl rfl g7 ?_
   refine kl_not rfl ?_
   refine kl_orF rfl rfl g7 ?_
   exact J8 _ (pc 22 rfl (pc 1 rfl (pc 2 rfl (pc 3 rfl (pc 6 rfl (pc 7 rfl (pc 18 rfl pn)))))))
 refine kl_nil (kq_code ?_)
 refine kc_cond rfl (fun c9 => ?_) (fun c9 => ?_)
 ·skip
  have c9r := c9
  try simp only [Bool.not_eq_true', Bool.not_eq_false', Bool.not_true, Bool.not_false, decide_eq_true_eq, decide_eq_false_iff_not, Bool.and_eq_true, Bool.or_eq_false_iff] at c9
  refine kc_seq (kc_region ?_)
  refine kl_as rfl ?_
  refine kl_as rfl ?_
  refine kl_nil (kq_code ?_)
  refine kc_ret ?_
  refine kq_ret2 rfl rfl rfl noHp (fr_no _) (tup2 (congrArg (Value.int .i64) ?_) (congrArg Value.bool ?_))
  ·rw [tbI_no (by rw [← tbI_s]; assumption)]
  ·rw [tbI_no (by rw [← tbI_s]; assumption)]
 ·skip
  have c9r := c9
  try simp only [Bool.not_eq_true', Bool.not_eq_false', Bool.not_true, Bool.not_false, decide_eq_true_eq, decide_eq_false_iff_not, Bool.and_eq_true, Bool.or_eq_false_iff] at c9
  have hc : (!(objOkB m obj) || !(withinB dp 0 4)) = false := (by rw [← tbI_s]; exact c9r)
  have hg := tbI_ok hc
  refine kc_skipQ ?_
  refine kq_code ?_
  refine kc_seq (kc_region ?_)
  refine kl_ldS rfl (by assumption) rfl ?_
  refine kl_mv rfl ?_
  refine kl_bdA [(0, [vmd, vmc]), (1, [vobj])] [vmd, vmc, vobj, .int .i64 (0 : Int), .bool false] rfl (cpa rfl (cpa (Sl.cells (by assumption)) cpa_nil)) rfl ?_
  refine kl_boxL (cs := [vmd, vmc, vobj, .int .i64 (0 : Int), .bool false]) rfl rfl (fun b10 hb11 => ?_)
  refine kl_as rfl ?_
  refine kl_nil (kq_code (kc_seq (kc_region ?_)))
  refine kl_mv rfl ?_
  refine kl_fd rfl (by assumption) (fun p12 a13 => ?_)
  refine kl_ld rfl (by assumption) ?_
  refine kl_mv rfl ?_
  refine kl_callT rfl rfl (visit_ok dp.toNat m m.doms obj dp (0 : Int) false hg.1 hg.1.dok hg.2.1 hg.2.2.1 (by omega) (by omega) (by assumption) (by assumption) (by assumption) (by assumption)) (fun v14 L1 Ln K15 h16 g17 g18 => ?_)
  obtain ⟨rfl, rfl, n19, s20, rfl, h21⟩ := h16
  refine kl_norm ?_
  refine kl_nil (kq_code ?_)
  refine kc_seq ?_
  refine kc_draw 10 [true, true, true, true, true, true, true, true, true, true] (by kernel_rfl) (by kernel_rfl) ?_
  refine kl_mv rfl ?_
  refine kl_nilchk rfl ?_
  refine kl_fdV rfl ?_
  refine kl_ldB rfl rfl ?_
  refine kl_mv rfl ?_
  refine kl_nilchk rfl ?_
  refine kl_fdV rfl ?_
  refine kl_ldB rfl rfl ?_
  refine kl_as rfl ?_
  refine kl_as rfl ?_
  refine kl_nil (kq_code ?_)
  refine kc_ret ?_
  refine kq_ret2 rfl rfl rfl noHp (fr_no _) (tup2 (congrArg (Value.int .i64) ?_) (congrArg Value.bool ?_))
  ·(rw [tbI_yes hc]; unfold minF; have h := h21; rw [← h])
  ·(rw [tbI_yes hc]; unfold minF; have h := h21; rw [← h])
end Go.Proofs.YtbcpoljdkopmoaaGreatDoor
