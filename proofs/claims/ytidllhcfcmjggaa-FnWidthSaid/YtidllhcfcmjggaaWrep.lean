/- Walks of functions of the program: each returns what the plain function gives. Conditions: those that each statement names. -/
import Derived.Test.YtidllhcfcmjggaaTys
import Derived.Test.YtidllhcfcmjggaaTab
import Derived.Test.YtidllhcfcmjggaaCpy
import Derived.Test.YtidllhcfcmjggaaPureB
namespace Go.Proofs.Ytidllhcfcmjggaa
open Go
set_option linter.unusedSimpArgs false
set_option linter.unusedVariables false
theorem mul64_ok (x : Int) (y : Int) (hx : x = 1) (hy : 0 ≤ y ∧ y ≤ 15) : SpecP Try.prog 94 [.int .u64 x, .int .u64 y] [] (.tuple #[.int .u64 (0 : Int), .int .u64 y]) := by
 subst hx
 refine spec_of Try.func94 rfl rfl rfl (fun B => ?_)
 refine kc_seq (kc_region ?_)
 refine kl_as rfl ?_
 refine kl_as rfl ?_
 refine kl_nil (kq_code (kc_seq (kc_region ?_)))
 refine kl_mv rfl ?_
 refine kl_andK rfl rfl ?_
 refine kl_as rfl ?_
 refine kl_nil (kq_code (kc_seq (kc_region ?_)))
 refine kl_mv rfl ?_
 refine kl_shrK rfl rfl (by omega) ?_
 refine kl_as rfl ?_
 refine kl_nil (kq_code (kc_seq (kc_region ?_)))
 refine kl_mv rfl ?_
 refine kl_andK rfl rfl ?_
 refine kl_as rfl ?_
 refine kl_nil (kq_code (kc_seq (kc_region ?_)))
 refine kl_mv rfl ?_
 refine kl_shrK rfl rfl (by omega) ?_
 refine kl_as rfl ?_
 refine kl_nil (kq_code (kc_seq (kc_region ?_)))
 refine kl_mv rfl ?_
 refine kl_mv rfl ?_
 refine kl_mulK rfl rfl ?_
 refine kl_as rfl ?_
 refine kl_nil (kq_code (kc_seq (kc_region ?_)))
 refine kl_mv rfl ?_
 refine kl_mv rfl ?_
 refine kl_mulK rfl rfl ?_
 refine kl_mv rfl ?_
 refine kl_shrK rfl rfl (by omega) ?_
 refine kl_addK rfl rfl ?_
 refine kl_as rfl ?_
 refine kl_nil (kq_code (kc_seq (kc_region ?_)))
 refine kl_mv rfl ?_
 refine kl_andK rfl rfl ?_
 refine kl_as rfl ?_
 refine kl_nil (kq_code (kc_seq (kc_region ?_)))
 refine kl_mv rfl ?_
 refine kl_shrK rfl rfl (by omega) ?_
 refine kl_as rfl ?_
 refine kl_nil (kq_code (kc_seq (kc_region ?_)))
 refine kl_mv rfl ?_
 refine kl_mv rfl ?_
 refine kl_mv rfl ?_
 refine kl_mulK rfl rfl ?_
 refine kl_addK rfl rfl ?_
 refine kl_as rfl ?_
 refine kl_nil (kq_code (kc_seq (kc_region ?_)))
 refine kl_mv rfl ?_
 refine kl_mv rfl ?_
 refine kl_mulK rfl rfl ?_
 refine kl_mv rfl ?_
 refine kl_addK rfl rfl ?_
 refine kl_mv rfl ?_
 refine kl_shrK rfl rfl (by omega) ?_
 refine kl_addK rfl rfl ?_
 refine kl_as rfl ?_
 refine kl_nil (kq_code (kc_seq (kc_region ?_)))
 refine kl_mv rfl ?_
 refine kl_mv rfl ?_
 refine kl_mulK rfl rfl ?_
 refine kl_as rfl ?_
 refine kl_nil (kq_code ?_)
 refine kc_ret ?_
 refine kq_ret2 rfl rfl rfl noHp (fr_no _) (tup2 (congrArg (Value.int .u64) ?_) (congrArg (Value.int .u64) ?_))
 ·(obtain ⟨n, rfl⟩ := Int.eq_ofNat_of_zero_le hy.1; have hn : n < 16 := (by omega); clear hy; revert n; decide +kernel)
 ·(obtain ⟨n, rfl⟩ := Int.eq_ofNat_of_zero_le hy.1; have hn : n < 16 := (by omega); clear hy; revert n; decide +kernel)
theorem mulB_ok (x : Int) (y : Int) (hx : x = 1) (hy : 0 ≤ y ∧ y ≤ 15) : SpecP Try.prog 70 [.int .u64 x, .int .u64 y] [] (.tuple #[.int .u64 (0 : Int), .int .u64 y]) := by
 refine spec_of Try.func70 rfl rfl rfl (fun B => ?_)
 refine kc_seq (kc_region ?_)
 refine kl_as rfl ?_
 refine kl_as rfl ?_
 refine kl_nil (kq_code ?_)
 refine kc_seq ?_
 refine kc_condF ?_
 refine kc_skipQ ?_
 refine kq_code ?_
 refine kc_seq (kc_region ?_)
 refine kl_mv rfl ?_
 refine kl_mv rfl ?_
 refine kl_callP rfl rfl (mul64_ok x y (by omega) (by omega)) ?_
 refine kl_mv rfl ?_
 refine kl_xt rfl rfl ?_
 refine kl_xt rfl rfl ?_
 refine kl_as rfl ?_
 refine kl_as rfl ?_
 refine kl_nil (kq_code (kc_seq (kc_region ?_)))
 refine kl_mv rfl ?_
 refine kl_mv rfl ?_
 refine kl_as rfl ?_
 refine kl_as rfl ?_
 refine kl_nil (kq_code ?_)
 refine kc_ret ?_
 refine kq_ret2 rfl rfl rfl noHp (fr_no _) (tup2 (congrArg (Value.int .u64) ?_) (congrArg (Value.int .u64) ?_))
 ·rfl
 ·rfl
theorem repeat_int_ok {Hx : Hp} {vx : Value} (x : List Int) (c : Nat) (hx0 : x.length = 1) (hc : 1 ≤ c ∧ c ≤ 15) (hx : Ints Hx vx x) : Spec Try.prog 36 [vx, .int .i64 (c : Int)] [Hx] (fun Hq vq => Ints Hq vq (List.replicate c (x.getD 0 (0 : Int)))) := by
 have hx1 := rep_one (d := (0 : Int)) hx0
 refine spec_of Try.func36 rfl rfl rfl (fun B => ?_)
 refine kc_seq (kc_region ?_)
 refine kl_as rfl ?_
 refine kl_nil (kq_code ?_)
 refine kc_seq ?_
 refine kc_seq (kc_region ?_)
 refine kl_mv rfl ?_
 refine kl_lss rfl rfl ?_
 refine kl_nil (kq_code ?_)
 refine kc_if rfl (fun c1 => ?_) (fun c1 => ?_)
 ·skip
  exfalso; omega
 ·skip
  refine kc_skipQ ?_
  refine kq_code ?_
  refine kc_seq (kc_region ?_)
  refine kl_mv rfl ?_
  refine kl_len rfl (by assumption) (fun l2 => ?_)
  refine kl_cvu rfl (by omega) ?_
  refine kl_mv rfl ?_
  refine kl_cvu rfl (by omega) ?_
  refine kl_callP rfl rfl (mulB_ok (x.length : Int) (c : Int) (by rw [hx0]; rfl) (by omega)) ?_
  refine kl_mv rfl ?_
  refine kl_xt rfl rfl ?_
  refine kl_xt rfl rfl ?_
  refine kl_as rfl ?_
  refine kl_as rfl ?_
  refine kl_nil (kq_code ?_)
  refine kc_seq ?_
  refine kc_seq (kc_region ?_)
  refine kl_mv rfl ?_
  refine kl_gtrK rfl rfl ?_
  refine kl_mv rfl ?_
  refine kl_join 3 26 (.bool (decide ((0 : Int) < (0 : Int)) || decide ((9223372036854775807 : Int) < (c : Int)))) (pc 0 rfl (pc 4 rfl (pc 6 rfl (pc 23 rfl pn)))) (fun J4 => ?_) ?_
  ·rcases Bool.eq_false_or_eq_true (decide ((0 : Int) < (0 : Int))) with g3 | g3
   ·skip
    refine kl_gF rfl rfl g3 ?_
    refine kl_gF rfl rfl g3 ?_
    refine kl_orT (decide ((9223372036854775807 : Int) < (c : Int))) rfl rfl g3 ?_
    exact J4 _ (pc 26 rfl (pc 0 rfl (pc 4 rfl (pc 6 rfl (pc 23 rfl pn)))))
   ·skip
    have g3p := of_decide_eq_false g3
    refine kl_gT rfl rfl g3 ?_
    refine kl_mv rfl ?_
    refine kl_gT rfl rfl g3 ?_
    refine kl_gtrK rfl rfl ?_
    refine kl_orF rfl rfl g3 ?_
    exact J4 _ (pc 26 rfl (pc 0 rfl (pc 4 rfl (pc 6 rfl (pc 23 rfl pn)))))
  refine kl_nil (kq_code ?_)
  refine kc_cond rfl (fun c5 => ?_) (fun c5 => ?_)
  ·skip
   have c5r := c5
   try simp only [Bool.not_eq_true', Bool.not_eq_false', Bool.not_true, Bool.not_false, decide_eq_true_eq, decide_eq_false_iff_not, Bool.and_eq_true, Bool.or_eq_false_iff] at c5
   exact absurd c5r (by simp; omega)
  ·skip
   have c5r := c5
   try simp only [Bool.not_eq_true', Bool.not_eq_false', Bool.not_true, Bool.not_false, decide_eq_true_eq, decide_eq_false_iff_not, Bool.and_eq_true, Bool.or_eq_false_iff] at c5
   refine kc_skipQ ?_
   refine kq_code ?_
   refine kc_seq (kc_region ?_)
   refine kl_mv rfl ?_
   refine kl_cvi rfl (by omega) ?_
   have e10 : (c : Int) = (((Int.toNat (c : Int)) : Nat) : Int) := by omega
   refine kl_mkL (R := IntV) (n := (Int.toNat (c : Int))) (0 : Int) (by rw [← e10]; rfl) (by rw [← e10]; rfl) (by omega) (by decide) (by exact rfl) (fun v6 H7 f8 o9 => ?_)
   refine kl_as rfl ?_
   refine kl_nil (kq_code (kc_seq (kc_region ?_)))
   refine kl_mv rfl ?_
   refine kl_mv rfl ?_
   refine kl_cpS rfl rfl o9 (by assumption) (fun _ _ h => h) (by (first | omega | (simp; omega))) (by (first | omega | (simp; omega))) (by (first | omega | (simp; omega))) (fun H11 o12 f13 => ?_)
   have f14 := f13 _ f8
   refine kl_chg [H11] rfl ?_
   refine kl_as rfl ?_
   refine kl_nil (kq_code ?_)
   refine kc_seq ?_
   refine kc_block ?_
   refine kc_loopL (A := Nat × List Int × Hp) (fun zz => (1 ≤ zz.1 ∧ zz.1 ≤ c) ∧ (zz.2.1 = List.replicate zz.1 (x.getD 0 (0 : Int)) ++ List.replicate (c - zz.1) (0 : Int)) ∧ OwnL 3 1 zz.2.2 noHp IntV v6 zz.2.1 ∧ Fr B zz.2.2) (fun zz => c - zz.1) (fun zz => [zz.2.2]) (fun zz => [(8, .int .i64 (zz.1 : Int))]) (x.length, (x ++ (List.replicate (Int.toNat (c : Int)) (0 : Int)).drop x.length), H11) (pc 4 rfl (pc 7 rfl pn)) (pc 8 rfl pn) rfl ⟨(by rw [hx0]; exact ⟨Nat.le_refl _, hc.1⟩), (by simp only [hx0, Int.toNat_natCast]; exact rep_init hx1 hc.1), o12, f14⟩ ?_
   rintro ⟨k, ns, H17⟩ hJ20
   obtain ⟨hk15, hi16, o18, f19⟩ : (1 ≤ k ∧ k ≤ c) ∧ (ns = List.replicate k (x.getD 0 (0 : Int)) ++ List.replicate (c - k) (0 : Int)) ∧ OwnL 3 1 H17 noHp IntV v6 ns ∧ Fr B H17 := hJ20
   change KC _ _ (_) [H17] _ ([(8, .int .i64 (k : Int))] ++ _)
   have hnl : ns.length = c := (by rw [hi16]; simp; omega)
   refine kc_seq ?_
   refine kc_seq (kc_region ?_)
   refine kl_mv rfl ?_
   refine kl_mv rfl ?_
   refine kl_lenL rfl o18 (fun l21 => ?_)
   refine kl_lss rfl rfl ?_
   refine kl_nil (kq_code ?_)
   refine kc_if rfl (fun c22 => ?_) (fun c22 => ?_)
   ·skip
    refine kc_skipQ ?_
    refine kq_code ?_
    refine kc_block ?_
    refine kc_tree (fun i => ([] : List Nat).contains i) [] (by kernel_rfl) ?_
    refine kt_q 0 (List.nil_sublist _) rfl (by kernel_rfl) ?_
    refine kl_mv rfl ?_
    refine kl_nil (kq_q ?_)
    refine kt_q 1 (List.nil_sublist _) rfl (by kernel_rfl) ?_
    refine kl_mv rfl ?_
    refine kl_nil (kq_q ?_)
    refine kt_q 2 (List.nil_sublist _) rfl (by kernel_rfl) ?_
    refine kl_mv rfl ?_
    refine kl_nil (kq_q ?_)
    refine kt_q 3 (List.nil_sublist _) rfl (by kernel_rfl) ?_
    refine kl_tail (j := k) rfl rfl o18 (by have := congrArg List.length hi16; simp at this; omega) (by (have := congrArg List.length hi16; simp at this; omega)) (fun u23 h24 => ?_)
    refine kl_nil (kq_q ?_)
    refine kt_q 4 (List.nil_sublist _) rfl (by kernel_rfl) ?_
    refine kl_mv rfl ?_
    refine kl_nil (kq_q ?_)
    refine kt_q 5 (List.nil_sublist _) rfl (by kernel_rfl) ?_
    refine kl_mv rfl ?_
    refine kl_nil (kq_q ?_)
    refine kt_q 6 (List.nil_sublist _) rfl (by kernel_rfl) ?_
    refine kl_head (i := k) rfl rfl o18 (by have := congrArg List.length hi16; simp at this; omega) (by (have := congrArg List.length hi16; simp at this; omega)) (fun u25 h26 => ?_)
    refine kl_nil (kq_q ?_)
    refine kt_a 7 rfl (by kernel_rfl) ?_
    refine kl_cpT rfl rfl h24 h26 o18 (by omega) (by (have := congrArg List.length hi16; simp at this; omega)) (fun H27 o28 f29 => ?_)
    have f30 := f29 _ f19
    refine kl_chg [H27] rfl ?_
    refine kl_nil (kq_a (List.nil_sublist _) ?_)
    refine kt_q 8 (List.nil_sublist _) rfl (by kernel_rfl) ?_
    refine kl_addN rfl rfl (by omega) ?_
    refine kl_nil (kq_q ?_)
    refine kt_q 9 (List.nil_sublist _) rfl (by kernel_rfl) ?_
    refine kl_as rfl ?_
    refine kl_nil (kq_q ?_)
    refine kt_end (by kernel_rfl) ?_
    refine kq_take [H27] ?_
    refine kq_roundL ((k + min k (ns.length - k)), (ns.take k ++ ns.take (min k (ns.length - k)) ++ ns.drop (k + (min k (ns.length - k)))), H27) (by omega) (⟨by omega, rep_step hi16 hk15.2, o28, f30⟩) (pc 8 rfl pn) (pc 4 rfl (pc 7 rfl pn)) rfl (List.Sublist.refl _)
   ·skip
    refine kc_exit ?_
    refine kq_code ?_
    refine kc_seq (kc_region ?_)
    refine kl_mv rfl ?_
    refine kl_as rfl ?_
    refine kl_nil (kq_code ?_)
    refine kc_ret ?_
    have e9 : ns = List.replicate c (x.getD 0 (0 : Int)) := by exact rep_end hi16 (by omega)
    exact kq_ret rfl rfl H17 f19 (e9 ▸ OwnL.ints o18)
end Go.Proofs.Ytidllhcfcmjggaa
