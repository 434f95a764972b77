/- Walks of functions of the program: each returns what the plain function gives. Conditions: those that each statement names. -/
import Derived.Test.YtiilanckbocifaaTys
import Derived.Test.YtiilanckbocifaaRdr
import Derived.Test.YtiilanckbocifaaPureQ
namespace Go.Proofs.Ytiilanckbocifaa
open Go
set_option linter.unusedSimpArgs false
set_option linter.unusedVariables false
theorem pick_ok {br : Nat} {vbr : Value} {Hr : Hp} {bsr : List Int} (pr : Nat) (n : Int) (hp : pr + (1) ≤ 1000000) (hr : Bytes Hr vbr bsr) : SpecT Try.prog 53 [.pointer (some ⟨br, 0, none⟩), .int .i64 n] [sing br (.cells [vbr, .int .i64 (pr : Int)].toArray 73 (0, 0))] [Hr] (fun vq L1 Ln Kq => ∃ q : Nat, q ≤ pr + (1) ∧ L1 = [sing br (.cells [vbr, .int .i64 (q : Int)].toArray 73 (0, 0))] ∧ Ln = [] ∧ ∃ z : Int, vq = .int .i64 z ∧ (0 ≤ z ∧ (z < n ∨ z = 0))) := by
 refine specT_of Try.func53 rfl rfl rfl (fun B => ?_)
 refine kc_seq (kc_region (kl_as rfl (kl_nil (kq_code (kc_seq (kc_region (kl_mv rfl (kl_mv rfl (kl_nilchk rfl ?_)))))))))
 refine kl_fdV rfl (kl_ldB rfl rfl (kl_inc rfl rfl (by omega) ?_))
 refine kl_nilchk rfl ?_
 refine kl_fdV rfl (kl_stB rfl rfl rfl rfl rfl ?_)
 refine kl_chg [sing br (.cells [vbr, .int .i64 ((pr + 1 : Nat) : Int)].toArray 73 (0, 0))] rfl ?_
 refine kl_nil (kq_code (kc_seq (kc_seq (kc_region (kl_mv rfl (kl_lss rfl rfl ?_))))))
 refine kl_mv rfl (kl_join 7 24 (.bool (decide (n < (1 : Int)) || decide ((bsr.length : Int) = (0 : Int)))) (pc 0 rfl (pc 1 rfl (pc 4 rfl (pc 17 rfl pn)))) (fun J3 => ?_) ?_)
 ·rcases Bool.eq_false_or_eq_true (decide (n < (1 : Int))) with g1 | g1
  ·skip
   refine kl_gF rfl rfl g1 (kl_gF rfl rfl g1 (kl_gF rfl rfl g1 (kl_gF rfl rfl g1 (kl_gF rfl rfl g1 (kl_gF rfl rfl g1 (kl_orT (decide ((bsr.length : Int) = (0 : Int))) rfl rfl g1 ?_))))))
   exact J3 _ (pc 24 rfl (pc 0 rfl (pc 1 rfl (pc 4 rfl (pc 17 rfl pn)))))
  ·skip
   have g1p := of_decide_eq_false g1
   refine kl_gT rfl rfl g1 (kl_mv rfl (kl_gT rfl rfl g1 (kl_nilchk rfl ?_)))
   refine kl_gT rfl rfl g1 (kl_fdV rfl (kl_gT rfl rfl g1 (kl_ldB rfl rfl (kl_gT rfl rfl g1 (kl_len rfl (by assumption) (fun l2 => ?_))))))
   refine kl_gT rfl rfl g1 (kl_eql rfl rfl ?_)
   refine kl_orF rfl rfl g1 ?_
   exact J3 _ (pc 24 rfl (pc 0 rfl (pc 1 rfl (pc 4 rfl (pc 17 rfl pn)))))
 refine kl_nil (kq_code (kc_cond rfl (fun c4 => ?_) (fun c4 => ?_)))
 ·skip
  have c4r := c4
  try simp only [smpC, decide_eq_true_eq, decide_eq_false_iff_not] at c4
  refine kc_seq (kc_region (kl_as rfl (kl_nil (kq_code (kc_ret ?_)))))
  exact kq_retT rfl rfl [sing br (.cells [vbr, .int .i64 ((pr + 1 : Nat) : Int)].toArray 73 (0, 0))] [] noHp frn (fr_no _) ⟨(pr + 1), by omega, rfl, rfl, _, rfl, by omega⟩
 ·skip
  have c4r := c4
  try simp only [smpC, decide_eq_true_eq, decide_eq_false_iff_not] at c4
  refine kc_skipQ (kq_code (kc_seq (kc_region (kl_mv rfl (kl_nilchk rfl ?_)))))
  refine kl_fdV rfl (kl_ldB rfl rfl (kl_sub rfl rfl (by omega) ?_))
  refine kl_as rfl (kl_nil (kq_code (kc_seq (kc_seq (kc_region (kl_mv rfl (kl_mv rfl (kl_nilchk rfl ?_))))))))
  refine kl_fdV rfl (kl_ldB rfl rfl (kl_len rfl (by assumption) (fun l5 => ?_)))
  refine kl_lss rfl rfl ?_
  refine kl_nil (kq_code (kc_if rfl (fun c6 => ?_) (fun c6 => ?_)))
  ·skip
   refine kc_seq (kc_region (kl_mv rfl (kl_nilchk rfl ?_)))
   refine kl_fdV rfl (kl_ldB rfl rfl (kl_mv rfl (kl_ixY rfl rfl (by assumption) (by omega) (by omega) (fun p7 a8 hb9 => ?_))))
   refine kl_ld rfl (by assumption) (kl_cvi rfl (by omega) ?_)
   refine kl_mv rfl ?_
   have h10 := tmod_in (m := (bsr.getD (((pr + 1 : Nat) : Int) - (1 : Int)).toNat 0)) (k := n) (by omega) (by omega)
   refine kl_rem rfl rfl (by omega) ?_
   refine kl_as rfl (kl_nil (kq_code (kc_ret ?_)))
   exact kq_retT rfl rfl [sing br (.cells [vbr, .int .i64 ((pr + 1 : Nat) : Int)].toArray 73 (0, 0))] [] noHp frn (fr_no _) ⟨(pr + 1), by omega, rfl, rfl, _, rfl, by omega⟩
  ·skip
   refine kc_skipQ (kq_code (kc_seq (kc_draw 46 [true, true, true, true, true, true, true, true, true, true, true, true, true, true, true, true, true, true, true, true, true, true, true, true, true, true, true, true, true, true, true, true, true, true, true, true, true, true, true, true, true, true, true, true, true, true] (by kernel_rfl) (by kernel_rfl) ?_)))
   refine kl_mv rfl (kl_nilchk rfl ?_)
   refine kl_fdV rfl (kl_ldB rfl rfl (kl_mv rfl (kl_mv rfl (kl_nilchk rfl ?_))))
   refine kl_fdV rfl (kl_ldB rfl rfl (kl_len rfl (by assumption) (fun l11 => ?_)))
   have h12 := tmod_in (m := (((pr + 1 : Nat) : Int) - (1 : Int))) (k := (bsr.length : Int)) (by omega) (by omega)
   refine kl_rem rfl rfl (by omega) ?_
   refine kl_ixY rfl rfl (by assumption) (by omega) (by omega) (fun p13 a14 hb15 => ?_)
   refine kl_ld rfl (by assumption) (kl_cvi rfl (by omega) ?_)
   refine kl_mul rfl rfl (by omega) ?_
   refine kl_mv rfl (kl_nilchk rfl ?_)
   refine kl_fdV rfl (kl_ldB rfl rfl (kl_mv rfl (kl_mul rfl rfl (by omega) ?_)))
   refine kl_add rfl rfl (by omega) ?_
   refine kl_mv rfl (kl_nilchk rfl ?_)
   refine kl_fdV rfl (kl_ldB rfl rfl (kl_len rfl (by assumption) (fun l16 => ?_)))
   have h17 := tmod_in (m := (((((pr + 1 : Nat) : Int) - (1 : Int)) * (7 : Int)) + (3 : Int))) (k := (bsr.length : Int)) (by omega) (by omega)
   refine kl_rem rfl rfl (by omega) ?_
   refine kl_ixY rfl rfl (by assumption) (by omega) (by omega) (fun p18 a19 hb20 => ?_)
   refine kl_ld rfl (by assumption) (kl_cvi rfl (by omega) ?_)
   refine kl_mul rfl rfl (by omega) ?_
   refine kl_add rfl rfl (by omega) ?_
   refine kl_mv rfl (kl_mul rfl rfl (by omega) ?_)
   refine kl_add rfl rfl (by omega) ?_
   refine kl_mv rfl (kl_mv rfl (kl_nilchk rfl ?_))
   refine kl_fdV rfl (kl_ldB rfl rfl (kl_len rfl (by assumption) (fun l21 => ?_)))
   have h22 := tdiv_in (m := (((pr + 1 : Nat) : Int) - (1 : Int))) (k := (bsr.length : Int)) (by omega) (by omega)
   refine kl_quo rfl rfl (by omega) (by omega) ?_
   refine kl_mul rfl rfl (by omega) ?_
   refine kl_add rfl rfl (by omega) ?_
   refine kl_as rfl (kl_nil (kq_code (kc_seq (kc_region (kl_mv rfl (kl_mv rfl ?_))))))
   have h23 := tdiv_in (m := (((((bsr.getD (Int.tmod (((pr + 1 : Nat) : Int) - (1 : Int)) (bsr.length : Int)).toNat 0) * (131 : Int)) + ((bsr.getD (Int.tmod (((((pr + 1 : Nat) : Int) - (1 : Int)) * (7 : Int)) + (3 : Int)) (bsr.length : Int)).toNat 0) * (1117 : Int))) + ((((pr + 1 : Nat) : Int) - (1 : Int)) * (29 : Int))) + ((Int.tdiv (((pr + 1 : Nat) : Int) - (1 : Int)) (bsr.length : Int)) * (53 : Int)))) (k := (64 : Int)) (by omega) (by omega)
   refine kl_quo rfl rfl (by omega) (by omega) ?_
   have h24 := ixor_le (a := (((((bsr.getD (Int.tmod (((pr + 1 : Nat) : Int) - (1 : Int)) (bsr.length : Int)).toNat 0) * (131 : Int)) + ((bsr.getD (Int.tmod (((((pr + 1 : Nat) : Int) - (1 : Int)) * (7 : Int)) + (3 : Int)) (bsr.length : Int)).toNat 0) * (1117 : Int))) + ((((pr + 1 : Nat) : Int) - (1 : Int)) * (29 : Int))) + ((Int.tdiv (((pr + 1 : Nat) : Int) - (1 : Int)) (bsr.length : Int)) * (53 : Int)))) (b := (Int.tdiv (((((bsr.getD (Int.tmod (((pr + 1 : Nat) : Int) - (1 : Int)) (bsr.length : Int)).toNat 0) * (131 : Int)) + ((bsr.getD (Int.tmod (((((pr + 1 : Nat) : Int) - (1 : Int)) * (7 : Int)) + (3 : Int)) (bsr.length : Int)).toNat 0) * (1117 : Int))) + ((((pr + 1 : Nat) : Int) - (1 : Int)) * (29 : Int))) + ((Int.tdiv (((pr + 1 : Nat) : Int) - (1 : Int)) (bsr.length : Int)) * (53 : Int))) (64 : Int))) (by omega) (by omega)
   refine kl_xor rfl rfl ?_
   refine kl_as rfl (kl_nil (kq_code (kc_seq (kc_region (kl_mv rfl (kl_mv rfl ?_))))))
   have h25 := tmod_in (m := (ixor (((((bsr.getD (Int.tmod (((pr + 1 : Nat) : Int) - (1 : Int)) (bsr.length : Int)).toNat 0) * (131 : Int)) + ((bsr.getD (Int.tmod (((((pr + 1 : Nat) : Int) - (1 : Int)) * (7 : Int)) + (3 : Int)) (bsr.length : Int)).toNat 0) * (1117 : Int))) + ((((pr + 1 : Nat) : Int) - (1 : Int)) * (29 : Int))) + ((Int.tdiv (((pr + 1 : Nat) : Int) - (1 : Int)) (bsr.length : Int)) * (53 : Int))) (Int.tdiv (((((bsr.getD (Int.tmod (((pr + 1 : Nat) : Int) - (1 : Int)) (bsr.length : Int)).toNat 0) * (131 : Int)) + ((bsr.getD (Int.tmod (((((pr + 1 : Nat) : Int) - (1 : Int)) * (7 : Int)) + (3 : Int)) (bsr.length : Int)).toNat 0) * (1117 : Int))) + ((((pr + 1 : Nat) : Int) - (1 : Int)) * (29 : Int))) + ((Int.tdiv (((pr + 1 : Nat) : Int) - (1 : Int)) (bsr.length : Int)) * (53 : Int))) (64 : Int)))) (k := n) (by omega) (by omega)
   refine kl_rem rfl rfl (by omega) ?_
   refine kl_as rfl (kl_nil (kq_code (kc_ret ?_)))
   exact kq_retT rfl rfl [sing br (.cells [vbr, .int .i64 ((pr + 1 : Nat) : Int)].toArray 73 (0, 0))] [] noHp frn (fr_no _) ⟨(pr + 1), by omega, rfl, rfl, _, rfl, by omega⟩
theorem one_ok {br : Nat} {vbr : Value} {Hr : Hp} {bsr : List Int} {Hxs : Hp} {vxs : Value} (pr : Nat) (xs : List Int) (hl : 1 ≤ xs.length) (hp : pr + (1) ≤ 1000000) (hr : Bytes Hr vbr bsr) (hxs : Ints Hxs vxs xs) : SpecT Try.prog 56 [.pointer (some ⟨br, 0, none⟩), vxs] [sing br (.cells [vbr, .int .i64 (pr : Int)].toArray 73 (0, 0))] [Hr, Hxs] (fun vq L1 Ln Kq => ∃ q : Nat, q ≤ pr + (1) ∧ L1 = [sing br (.cells [vbr, .int .i64 (q : Int)].toArray 73 (0, 0))] ∧ Ln = [] ∧ ∃ z : Int, vq = .int .i64 z ∧ z ∈ xs) := by
 refine specT_of Try.func56 rfl rfl rfl (fun B => ?_)
 refine kc_seq (kc_region (kl_as rfl (kl_nil (kq_code (kc_seq (kc_region (kl_mv rfl (kl_mv rfl (kl_mv rfl (kl_len rfl (by assumption) (fun l1 => ?_)))))))))))
 refine kl_callT rfl rfl (pick_ok pr (xs.length : Int) (by omega) hr) (fun v2 L1 Ln K6 h3 f4 f5 => ?_)
 obtain ⟨q7, h8, rfl, rfl, z9, rfl, h10⟩ := h3
 refine kl_norm ?_
 refine kl_ixI rfl rfl (by assumption) (by omega) (by omega) (fun p13 a14 => ?_)
 refine kl_ld rfl (by assumption) (kl_as rfl (kl_nil (kq_code (kc_ret ?_))))
 exact kq_retT rfl rfl [sing br (.cells [vbr, .int .i64 (q7 : Int)].toArray 73 (0, 0))] [] noHp frn (fr_no _) ⟨q7, by omega, rfl, rfl, _, rfl, by exact getD_mem (by omega)⟩
end Go.Proofs.Ytiilanckbocifaa
