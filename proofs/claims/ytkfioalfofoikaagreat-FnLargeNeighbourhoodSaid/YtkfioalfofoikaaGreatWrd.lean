/- Walks of functions of the program: each returns what the plain function gives. Conditions: those that each statement names. -/
import Derived.Test.YtkfioalfofoikaaGreatTys
import Derived.Test.YtkfioalfofoikaaGreatRdr
import Derived.Test.YtkfioalfofoikaaGreatPureQ
import Derived.Test.YtkfioalfofoikaaGreatWssat
import Derived.Test.YtkfioalfofoikaaGreatPureY
namespace Go.Proofs.YtkfioalfofoikaaGreat
open Go
set_option linter.unusedSimpArgs false
set_option linter.unusedVariables false
theorem newReader_ok {Hcode : Hp} {vcode : Value} (code : List Int) (hcode : Bytes Hcode vcode code) : SpecT Tryz.prog 45 [vcode] [] [Hcode] (fun vq L1 Ln Kq => L1 = [] ∧ ∃ (b : Nat) (vb : Value) (bs : List Int), vq = .pointer (some ⟨b, 0, none⟩) ∧ Ln = [sing b (.cells [vb, .int .i64 ((0 : Nat) : Int)].toArray 92 (0, 0))] ∧ Bytes Hcode vb bs) := by
 refine specT_of Tryz.func45 rfl rfl rfl (fun B => ?_)
 refine kc_seq (kc_region (kl_as rfl (kl_nil (kq_code (kc_seq (kc_seq (kc_region (kl_mv rfl (kl_len rfl (by assumption) (fun l1 => ?_))))))))))
 refine kl_gtr rfl rfl ?_
 refine kl_nil (kq_code (kc_if rfl (fun c2 => ?_) (fun c2 => ?_)))
 ·skip
  refine kc_region (kl_mv rfl (kl_slTake (i := 2000) rfl rfl (by assumption) (by omega) (fun u3 h4 => ?_)))
  refine kl_as rfl (kl_nil (kq_code (kc_seq (kc_region (kl_mv rfl (kl_bd rfl (cp (Sl.cells (by assumption)) cp_nil) rfl ?_))))))
  refine kl_boxL (cs := [u3, .int .i64 (0 : Int)]) rfl rfl (fun b5 hb6 => ?_)
  refine kl_as rfl (kl_nil (kq_code (kc_ret ?_)))
  exact kq_retT rfl rfl [] [sing b5 (.cells [u3, .int .i64 (0 : Int)].toArray 92 (0, 0))] noHp (fr1 (fr_sing hb6)) (fr_no _) ⟨rfl, b5, _, _, rfl, rfl, h4⟩
 ·skip
  refine kc_skipQ (kq_code (kc_seq (kc_region (kl_mv rfl (kl_bd rfl (cp (Sl.cells (by assumption)) cp_nil) rfl ?_)))))
  refine kl_boxL (cs := [vcode, .int .i64 (0 : Int)]) rfl rfl (fun b7 hb8 => ?_)
  refine kl_as rfl (kl_nil (kq_code (kc_ret ?_)))
  exact kq_retT rfl rfl [] [sing b7 (.cells [vcode, .int .i64 (0 : Int)].toArray 92 (0, 0))] noHp (fr1 (fr_sing hb8)) (fr_no _) ⟨rfl, b7, _, _, rfl, rfl, hcode⟩
theorem pick_ok {br : Nat} {vbr : Value} {Hr : Hp} {bsr : List Int} (pr : Nat) (n : Int) (hp : pr + (1) ≤ 1000000) (hr : Bytes Hr vbr bsr) : SpecT Tryz.prog 83 [.pointer (some ⟨br, 0, none⟩), .int .i64 n] [sing br (.cells [vbr, .int .i64 (pr : Int)].toArray 92 (0, 0))] [Hr] (fun vq L1 Ln Kq => ∃ q : Nat, q ≤ pr + (1) ∧ L1 = [sing br (.cells [vbr, .int .i64 (q : Int)].toArray 92 (0, 0))] ∧ Ln = [] ∧ ∃ z : Int, vq = .int .i64 z ∧ (0 ≤ z ∧ (z < n ∨ z = 0))) := by
 refine specT_of Tryz.func83 rfl rfl rfl (fun B => ?_)
 refine kc_seq (kc_region (kl_as rfl (kl_nil (kq_code (kc_seq (kc_region (kl_mv rfl (kl_mv rfl (kl_nilchk rfl ?_)))))))))
 refine kl_fdV rfl (kl_ldB rfl rfl (kl_inc rfl rfl (by omega) ?_))
 refine kl_nilchk rfl ?_
 refine kl_fdV rfl (kl_stB rfl rfl rfl rfl rfl ?_)
 refine kl_chg [sing br (.cells [vbr, .int .i64 ((pr + 1 : Nat) : Int)].toArray 92 (0, 0))] rfl ?_
 refine kl_nil (kq_code (kc_seq (kc_seq (kc_region (kl_mv rfl (kl_lss rfl rfl ?_))))))
 refine kl_mv rfl (kl_join 7 24 (.bool (decide (n < (1 : Int)) || decide ((bsr.length : Int) = (0 : Int)))) (pc 0 rfl (pc 1 rfl (pc 4 rfl (pc 17 rfl pn)))) (fun J3 => ?_) ?_)
 ·rcases Bool.eq_false_or_eq_true (decide (n < (1 : Int))) with g1 | g1
  ·skip
   refine kl_gF rfl rfl g1 (kl_gF rfl rfl g1 (kl_gF rfl rfl g1 (kl_gF rfl rfl g1 (kl_gF rfl rfl g1 (kl_gF rfl rfl g1 (kl_orT (decide ((bsr.length : Int) = (0 : Int))) rfl rfl g1 ?_))))))
   exact J3 _ (pc 24 rfl (pc 0 rfl (pc 1 rfl (pc 4 rfl (pc 17 rfl pn)))))
  ·skip
   have g1p := of_decide_eq_false g1
   refine kl_gT rfl rfl g1 (kl_mv rfl (kl_gT rfl rfl g1 (kl_nilchk rfl ?_)))
   refine kl_gT rfl rfl g1 (kl_fdV rfl (kl_gT rfl rfl g1 (kl_ldB rfl rfl (kl_gT rfl rfl g1 (kl_len rfl (by assumption) (fun l2 => ?_))))))
   refine kl_gT rfl rfl g1 (kl_eql rfl rfl ?_)
   refine kl_orF rfl rfl g1 ?_
   exact J3 _ (pc 24 rfl (pc 0 rfl (pc 1 rfl (pc 4 rfl (pc 17 rfl pn)))))
 refine kl_nil (kq_code (kc_cond rfl (fun c4 => ?_) (fun c4 => ?_)))
 ·skip
  have c4r := c4
  try simp only [smpC, decide_eq_true_eq, decide_eq_false_iff_not] at c4
  refine kc_seq (kc_region (kl_as rfl (kl_nil (kq_code (kc_ret ?_)))))
  exact kq_retT rfl rfl [sing br (.cells [vbr, .int .i64 ((pr + 1 : Nat) : Int)].toArray 92 (0, 0))] [] noHp frn (fr_no _) ⟨(pr + 1), by omega, rfl, rfl, _, rfl, by omega⟩
 ·skip
  have c4r := c4
  try simp only [smpC, decide_eq_true_eq, decide_eq_false_iff_not] at c4
  refine kc_skipQ (kq_code (kc_seq (kc_region (kl_mv rfl (kl_nilchk rfl ?_)))))
  refine kl_fdV rfl (kl_ldB rfl rfl (kl_sub rfl rfl (by omega) ?_))
  refine kl_as rfl (kl_nil (kq_code (kc_seq (kc_seq (kc_region (kl_mv rfl (kl_mv rfl (kl_nilchk rfl ?_))))))))
  refine kl_fdV rfl (kl_ldB rfl rfl (kl_len rfl (by assumption) (fun l5 => ?_)))
  refine kl_lss rfl rfl ?_
  refine kl_nil (kq_code (kc_if rfl (fun c6 => ?_) (fun c6 => ?_)))
  ·skip
   refine kc_seq (kc_region (kl_mv rfl (kl_nilchk rfl ?_)))
   refine kl_fdV rfl (kl_ldB rfl rfl (kl_mv rfl (kl_ixY rfl rfl (by assumption) (by omega) (by omega) (fun p7 a8 hb9 => ?_))))
   refine kl_ld rfl (by assumption) (kl_cvi rfl (by omega) ?_)
   refine kl_mv rfl ?_
   have h10 := tmod_in (m := (bsr.getD (((pr + 1 : Nat) : Int) - (1 : Int)).toNat 0)) (k := n) (by omega) (by omega)
   refine kl_rem rfl rfl (by omega) ?_
   refine kl_as rfl (kl_nil (kq_code (kc_ret ?_)))
   exact kq_retT rfl rfl [sing br (.cells [vbr, .int .i64 ((pr + 1 : Nat) : Int)].toArray 92 (0, 0))] [] noHp frn (fr_no _) ⟨(pr + 1), by omega, rfl, rfl, _, rfl, by omega⟩
  ·skip
   refine kc_skipQ (kq_code (kc_seq (kc_draw 46 [true, true, true, true, true, true, true, true, true, true, true, true, true, true, true, true, true, true, true, true, true, true, true, true, true, true, true, true, true, true, true, true, true, true, true, true, true, true, true, true, true, true, true, true, true, true] (by kernel_rfl) (by kernel_rfl) ?_)))
   refine kl_mv rfl (kl_nilchk rfl ?_)
   refine kl_fdV rfl (kl_ldB rfl rfl (kl_mv rfl (kl_mv rfl (kl_nilchk rfl ?_))))
   refine kl_fdV rfl (kl_ldB rfl rfl (kl_len rfl (by assumption) (fun l11 => ?_)))
   have h12 := tmod_in (m := (((pr + 1 : Nat) : Int) - (1 : Int))) (k := (bsr.length : Int)) (by omega) (by omega)
   refine kl_rem rfl rfl (by omega) ?_
   refine kl_ixY rfl rfl (by assumption) (by omega) (by omega) (fun p13 a14 hb15 => ?_)
   refine kl_ld rfl (by assumption) (kl_cvi rfl (by omega) ?_)
   refine kl_mul rfl rfl (by omega) ?_
   refine kl_mv rfl (kl_nilchk rfl ?_)
   refine kl_fdV rfl (kl_ldB rfl rfl (kl_mv rfl (kl_mul rfl rfl (by omega) ?_)))
   refine kl_add rfl rfl (by omega) ?_
   refine kl_mv rfl (kl_nilchk rfl ?_)
   refine kl_fdV rfl (kl_ldB rfl rfl (kl_len rfl (by assumption) (fun l16 => ?_)))
   have h17 := tmod_in (m := (((((pr + 1 : Nat) : Int) - (1 : Int)) * (7 : Int)) + (3 : Int))) (k := (bsr.length : Int)) (by omega) (by omega)
   refine kl_rem rfl rfl (by omega) ?_
   refine kl_ixY rfl rfl (by assumption) (by omega) (by omega) (fun p18 a19 hb20 => ?_)
   refine kl_ld rfl (by assumption) (kl_cvi rfl (by omega) ?_)
   refine kl_mul rfl rfl (by omega) ?_
   refine kl_add rfl rfl (by omega) ?_
   refine kl_mv rfl (kl_mul rfl rfl (by omega) ?_)
   refine kl_add rfl rfl (by omega) ?_
   refine kl_mv rfl (kl_mv rfl (kl_nilchk rfl ?_))
   refine kl_fdV rfl (kl_ldB rfl rfl (kl_len rfl (by assumption) (fun l21 => ?_)))
   have h22 := tdiv_in (m := (((pr + 1 : Nat) : Int) - (1 : Int))) (k := (bsr.length : Int)) (by omega) (by omega)
   refine kl_quo rfl rfl (by omega) (by omega) ?_
   refine kl_mul rfl rfl (by omega) ?_
   refine kl_add rfl rfl (by omega) ?_
   refine kl_as rfl (kl_nil (kq_code (kc_seq (kc_region (kl_mv rfl (kl_mv rfl ?_))))))
   have h23 := tdiv_in (m := (((((bsr.getD (Int.tmod (((pr + 1 : Nat) : Int) - (1 : Int)) (bsr.length : Int)).toNat 0) * (131 : Int)) + ((bsr.getD (Int.tmod (((((pr + 1 : Nat) : Int) - (1 : Int)) * (7 : Int)) + (3 : Int)) (bsr.length : Int)).toNat 0) * (1117 : Int))) + ((((pr + 1 : Nat) : Int) - (1 : Int)) * (29 : Int))) + ((Int.tdiv (((pr + 1 : Nat) : Int) - (1 : Int)) (bsr.length : Int)) * (53 : Int)))) (k := (64 : Int)) (by omega) (by omega)
   refine kl_quo rfl rfl (by omega) (by omega) ?_
   have h24 := ixor_le (a := (((((bsr.getD (Int.tmod (((pr + 1 : Nat) : Int) - (1 : Int)) (bsr.length : Int)).toNat 0) * (131 : Int)) + ((bsr.getD (Int.tmod (((((pr + 1 : Nat) : Int) - (1 : Int)) * (7 : Int)) + (3 : Int)) (bsr.length : Int)).toNat 0) * (1117 : Int))) + ((((pr + 1 : Nat) : Int) - (1 : Int)) * (29 : Int))) + ((Int.tdiv (((pr + 1 : Nat) : Int) - (1 : Int)) (bsr.length : Int)) * (53 : Int)))) (b := (Int.tdiv (((((bsr.getD (Int.tmod (((pr + 1 : Nat) : Int) - (1 : Int)) (bsr.length : Int)).toNat 0) * (131 : Int)) + ((bsr.getD (Int.tmod (((((pr + 1 : Nat) : Int) - (1 : Int)) * (7 : Int)) + (3 : Int)) (bsr.length : Int)).toNat 0) * (1117 : Int))) + ((((pr + 1 : Nat) : Int) - (1 : Int)) * (29 : Int))) + ((Int.tdiv (((pr + 1 : Nat) : Int) - (1 : Int)) (bsr.length : Int)) * (53 : Int))) (64 : Int))) (by omega) (by omega)
   refine kl_xor rfl rfl ?_
   refine kl_as rfl (kl_nil (kq_code (kc_seq (kc_region (kl_mv rfl (kl_mv rfl ?_))))))
   have h25 := tmod_in (m := (ixor (((((bsr.getD (Int.tmod (((pr + 1 : Nat) : Int) - (1 : Int)) (bsr.length : Int)).toNat 0) * (131 : Int)) + ((bsr.getD (Int.tmod (((((pr + 1 : Nat) : Int) - (1 : Int)) * (7 : Int)) + (3 : Int)) (bsr.length : Int)).toNat 0) * (1117 : Int))) + ((((pr + 1 : Nat) : Int) - (1 : Int)) * (29 : Int))) + ((Int.tdiv (((pr + 1 : Nat) : Int) - (1 : Int)) (bsr.length : Int)) * (53 : Int))) (Int.tdiv (((((bsr.getD (Int.tmod (((pr + 1 : Nat) : Int) - (1 : Int)) (bsr.length : Int)).toNat 0) * (131 : Int)) + ((bsr.getD (Int.tmod (((((pr + 1 : Nat) : Int) - (1 : Int)) * (7 : Int)) + (3 : Int)) (bsr.length : Int)).toNat 0) * (1117 : Int))) + ((((pr + 1 : Nat) : Int) - (1 : Int)) * (29 : Int))) + ((Int.tdiv (((pr + 1 : Nat) : Int) - (1 : Int)) (bsr.length : Int)) * (53 : Int))) (64 : Int)))) (k := n) (by omega) (by omega)
   refine kl_rem rfl rfl (by omega) ?_
   refine kl_as rfl (kl_nil (kq_code (kc_ret ?_)))
   exact kq_retT rfl rfl [sing br (.cells [vbr, .int .i64 ((pr + 1 : Nat) : Int)].toArray 92 (0, 0))] [] noHp frn (fr_no _) ⟨(pr + 1), by omega, rfl, rfl, _, rfl, by omega⟩
theorem one_ok {br : Nat} {vbr : Value} {Hr : Hp} {bsr : List Int} {Hxs : Hp} {vxs : Value} (pr : Nat) (xs : List Int) (hl : 1 ≤ xs.length) (hp : pr + (1) ≤ 1000000) (hr : Bytes Hr vbr bsr) (hxs : Ints Hxs vxs xs) : SpecT Tryz.prog 49 [.pointer (some ⟨br, 0, none⟩), vxs] [sing br (.cells [vbr, .int .i64 (pr : Int)].toArray 92 (0, 0))] [Hr, Hxs] (fun vq L1 Ln Kq => ∃ q : Nat, q ≤ pr + (1) ∧ L1 = [sing br (.cells [vbr, .int .i64 (q : Int)].toArray 92 (0, 0))] ∧ Ln = [] ∧ ∃ z : Int, vq = .int .i64 z ∧ z ∈ xs) := by
 refine specT_of Tryz.func49 rfl rfl rfl (fun B => ?_)
 refine kc_seq (kc_region (kl_as rfl (kl_nil (kq_code (kc_seq (kc_region (kl_mv rfl (kl_mv rfl (kl_mv rfl (kl_len rfl (by assumption) (fun l1 => ?_)))))))))))
 refine kl_callT rfl rfl (pick_ok pr (xs.length : Int) (by omega) hr) (fun v2 L1 Ln K6 h3 f4 f5 => ?_)
 obtain ⟨q7, h8, rfl, rfl, z9, rfl, h10⟩ := h3
 refine kl_norm ?_
 refine kl_ixI rfl rfl (by assumption) (by omega) (by omega) (fun p13 a14 => ?_)
 refine kl_ld rfl (by assumption) (kl_as rfl (kl_nil (kq_code (kc_ret ?_))))
 exact kq_retT rfl rfl [sing br (.cells [vbr, .int .i64 (q7 : Int)].toArray 92 (0, 0))] [] noHp frn (fr_no _) ⟨q7, by omega, rfl, rfl, _, rfl, by exact getD_mem (by omega)⟩
theorem domainRange_ok (lo : Int) (hi : Int) : Spec Tryz.prog 143 [.int .i64 lo, .int .i64 hi] [] (fun Hq vq => ∃ z : Int, vq = .int .i64 z ∧ True) := by
 refine spec_of Tryz.func143 rfl rfl rfl (fun B => ?_)
 refine kc_seq (kc_region (kl_as rfl (kl_nil (kq_code (kc_seq (kc_region (kl_as rfl (kl_nil (kq_code (kc_seq (kc_seq (kc_region (kl_as rfl (kl_nil (kq_code ?_)))))))))))))))
 refine kc_block (kc_loop0 (A := Nat × Int) (fun zz => (zz.1 ≤ 6) ∧ (0 ≤ zz.2 ∧ zz.2 ≤ 32 * (zz.1 : Int))) (fun zz => 6 - zz.1) (fun zz => [(6, .int .i64 (zz.1 : Int)), (5, .int .i64 zz.2)]) (0, (0 : Int)) (pc 0 rfl (pc 1 rfl (pc 4 rfl pn))) (pc 6 rfl (pc 5 rfl pn)) ⟨Nat.zero_le _, by constructor <;> dsimp only <;> omega⟩ ?_)
 rintro ⟨k, d⟩ hJ3
 obtain ⟨hk1, hi2⟩ : (k ≤ 6) ∧ (0 ≤ d ∧ d ≤ 32 * (k : Int)) := hJ3
 change KC _ _ (_) _ _ ([(6, .int .i64 (k : Int)), (5, .int .i64 d)] ++ _)
 refine kc_seq (kc_seq (kc_region (kl_mv rfl (kl_leq rfl rfl ?_))))
 refine kl_nil (kq_code (kc_if rfl (fun c4 => ?_) (fun c4 => ?_)))
 ·skip
  have hsl := shl_le (v := (k : Int)) (by omega)
  refine kc_skipQ (kq_code (kc_seq (kc_block (kc_seq (kc_region (kl_mv rfl (kl_mv rfl (kl_geq rfl rfl ?_))))))))
  refine kl_mv rfl (kl_join 4 18 (.bool (decide (lo ≤ (k : Int)) && decide ((k : Int) ≤ hi))) (pc 0 rfl (pc 1 rfl (pc 4 rfl (pc 5 rfl (pc 6 rfl (pc 7 rfl (pc 8 rfl (pc 11 rfl (pc 12 rfl (pc 13 rfl (pc 14 rfl pn))))))))))) (fun J6 => ?_) ?_)
  ·rcases Bool.eq_false_or_eq_true (decide (lo ≤ (k : Int))) with g5 | g5
   ·skip
    have g5p := of_decide_eq_true g5
    refine kl_gT rfl rfl g5 (kl_mv rfl (kl_gT rfl rfl g5 (kl_mv rfl (kl_gT rfl rfl g5 (kl_leq rfl rfl ?_)))))
    refine kl_andT rfl rfl g5 ?_
    exact J6 _ (pc 18 rfl (pc 0 rfl (pc 1 rfl (pc 4 rfl (pc 5 rfl (pc 6 rfl (pc 7 rfl (pc 8 rfl (pc 11 rfl (pc 12 rfl (pc 13 rfl (pc 14 rfl pn))))))))))))
   ·skip
    refine kl_gF rfl rfl g5 (kl_gF rfl rfl g5 (kl_gF rfl rfl g5 (kl_andF (decide ((k : Int) ≤ hi)) rfl rfl g5 ?_)))
    exact J6 _ (pc 18 rfl (pc 0 rfl (pc 1 rfl (pc 4 rfl (pc 5 rfl (pc 6 rfl (pc 7 rfl (pc 8 rfl (pc 11 rfl (pc 12 rfl (pc 13 rfl (pc 14 rfl pn))))))))))))
  refine kl_nil (kq_code (kc_cond rfl (fun c7 => ?_) (fun c7 => ?_)))
  ·skip
   have c7r := c7
   try simp only [smpC, decide_eq_true_eq, decide_eq_false_iff_not] at c7
   have hsl := shl_le (v := (k : Int)) (by omega)
   refine kc_region (kl_mv rfl (kl_mv rfl (kl_shl rfl rfl (by omega) ?_)))
   refine kl_add rfl rfl (by omega) ?_
   refine kl_as rfl (kl_nil (kq_code (kc_region (kl_mv rfl (kl_inc rfl rfl (by omega) ?_)))))
   refine kl_as rfl (kl_nil (kq_round0 ((k + 1), (d + (ishl (1 : Int) (k : Int)))) (by omega) (⟨by omega, (by have hsl := shl_le (v := (k : Int)) (by omega); constructor <;> dsimp only <;> omega)⟩) (pc 6 rfl (pc 5 rfl pn)) (pc 0 rfl (pc 1 rfl (pc 4 rfl pn))) (List.Sublist.refl _)))
  ·skip
   have c7r := c7
   try simp only [smpC, decide_eq_true_eq, decide_eq_false_iff_not] at c7
   refine kc_skipQ (kq_code (kc_region (kl_mv rfl (kl_inc rfl rfl (by omega) ?_))))
   refine kl_as rfl (kl_nil (kq_round0 ((k + 1), d) (by omega) (⟨by omega, (by have hsl := shl_le (v := (k : Int)) (by omega); constructor <;> dsimp only <;> omega)⟩) (pc 6 rfl (pc 5 rfl pn)) (pc 0 rfl (pc 1 rfl (pc 4 rfl pn))) (List.Sublist.refl _)))
 ·skip
  refine kc_exit (kq_code (kc_seq (kc_region (kl_mv rfl (kl_as rfl (kl_nil (kq_code (kc_ret ?_))))))))
  exact kq_retP rfl rfl ⟨_, rfl, by trivial⟩
theorem randomDomain_ok {br : Nat} {vbr : Value} {Hr : Hp} {bsr : List Int} (pr : Nat) (hp : pr + (3) ≤ 1000000) (hr : Bytes Hr vbr bsr) : SpecT Tryz.prog 115 [.pointer (some ⟨br, 0, none⟩)] [sing br (.cells [vbr, .int .i64 (pr : Int)].toArray 92 (0, 0))] [Hr] (fun vq L1 Ln Kq => ∃ q : Nat, q ≤ pr + (3) ∧ L1 = [sing br (.cells [vbr, .int .i64 (q : Int)].toArray 92 (0, 0))] ∧ Ln = [] ∧ ∃ z : Int, vq = .int .i64 z ∧ True) := by
 refine specT_of Tryz.func115 rfl rfl rfl (fun B => ?_)
 refine kc_seq (kc_region (kl_as rfl (kl_nil (kq_code (kc_seq (kc_seq (kc_region (kl_mv rfl (kl_callT rfl rfl (pick_ok pr (4 : Int) (by omega) hr) (fun v1 L1 Ln K5 h2 f3 f4 => ?_))))))))))
 obtain ⟨q6, h7, rfl, rfl, z8, rfl, h9⟩ := h2
 refine kl_norm ?_
 refine kl_nil (kq_code (kc_block (kc_seq (kc_region (kl_eql rfl rfl ?_)))))
 refine kl_as rfl (kl_nil (kq_code (kc_if rfl (fun c12 => ?_) (fun c12 => ?_))))
 ·skip
  refine kc_seq (kc_region (kl_as rfl (kl_nil (kq_code (kc_ret ?_)))))
  exact kq_retT rfl rfl [sing br (.cells [vbr, .int .i64 (q6 : Int)].toArray 92 (0, 0))] [] noHp frn (fr_no _) ⟨q6, by omega, rfl, rfl, _, rfl, by trivial⟩
 ·skip
  refine kc_seq (kc_region (kl_eql rfl rfl ?_))
  refine kl_as rfl (kl_nil (kq_code (kc_if rfl (fun c13 => ?_) (fun c13 => ?_))))
  ·skip
   refine kc_seq (kc_region (kl_mv rfl (kl_callT rfl rfl (pick_ok q6 (3 : Int) (by omega) hr) (fun v14 L1 Ln K18 h15 f16 f17 => ?_))))
   obtain ⟨q19, h20, rfl, rfl, z21, rfl, h22⟩ := h15
   refine kl_norm ?_
   refine kl_mv rfl (kl_callT rfl rfl (pick_ok q19 (4 : Int) (by omega) hr) (fun v25 L1 Ln K29 h26 f27 f28 => ?_))
   obtain ⟨q30, h31, rfl, rfl, z32, rfl, h33⟩ := h26
   refine kl_norm ?_
   refine kl_add rfl rfl (by omega) ?_
   refine kl_call rfl rfl (domainRange_ok z21 ((2 : Int) + z32)) (fun v36 H37 f38 h39 => ?_)
   obtain ⟨z40, rfl, h41⟩ := h39
   refine kl_as rfl (kl_nil (kq_code (kc_ret ?_)))
   exact kq_retT rfl rfl [sing br (.cells [vbr, .int .i64 (q30 : Int)].toArray 92 (0, 0))] [] noHp frn (fr_no _) ⟨q30, by omega, rfl, rfl, _, rfl, by trivial⟩
  ·skip
   refine kc_seq (kc_region (kl_eql rfl rfl ?_))
   refine kl_as rfl (kl_nil (kq_code (kc_if rfl (fun c42 => ?_) (fun c42 => ?_))))
   ·skip
    refine kc_seq (kc_region (kl_mv rfl (kl_callT rfl rfl (pick_ok q6 (6 : Int) (by omega) hr) (fun v43 L1 Ln K47 h44 f45 f46 => ?_))))
    obtain ⟨q48, h49, rfl, rfl, z50, rfl, h51⟩ := h44
    refine kl_norm ?_
    refine kl_shl rfl rfl (by omega) ?_
    refine kl_as rfl (kl_nil (kq_code (kc_ret ?_)))
    exact kq_retT rfl rfl [sing br (.cells [vbr, .int .i64 (q48 : Int)].toArray 92 (0, 0))] [] noHp frn (fr_no _) ⟨q48, by omega, rfl, rfl, _, rfl, by trivial⟩
   ·skip
    refine kc_skipQ (kq_code (kc_seq (kc_region (kl_mv rfl (kl_callT rfl rfl (pick_ok q6 (63 : Int) (by omega) hr) (fun v54 L1 Ln K58 h55 f56 f57 => ?_))))))
    obtain ⟨q59, h60, rfl, rfl, z61, rfl, h62⟩ := h55
    refine kl_norm ?_
    refine kl_add rfl rfl (by omega) ?_
    refine kl_as rfl (kl_nil (kq_code (kc_ret ?_)))
    exact kq_retT rfl rfl [sing br (.cells [vbr, .int .i64 (q59 : Int)].toArray 92 (0, 0))] [] noHp frn (fr_no _) ⟨q59, by omega, rfl, rfl, _, rfl, by trivial⟩
theorem someVars_ok {br : Nat} {vbr : Value} {Hr : Hp} {bsr : List Int} (pr : Nat) (n : Int) (k : Int) (hn : 1 ≤ n ∧ n ≤ 4) (hk : 1 ≤ k) (hp : pr + (4) ≤ 1000000) (hr : Bytes Hr vbr bsr) : SpecT Tryz.prog 144 [.pointer (some ⟨br, 0, none⟩), .int .i64 n, .int .i64 k] [sing br (.cells [vbr, .int .i64 (pr : Int)].toArray 92 (0, 0))] [Hr] (fun vq L1 Ln Kq => ∃ q : Nat, q ≤ pr + (4) ∧ L1 = [sing br (.cells [vbr, .int .i64 (q : Int)].toArray 92 (0, 0))] ∧ ∃ (Hq : Hp) (xq : List Int), Ln = [Hq] ∧ OwnL 3 1 Hq noHp IntV vq xq ∧ (xq.length : Int) = min k n) := by
 refine specT_of Tryz.func144 rfl rfl rfl (fun B => ?_)
 refine kc_seq (kc_region (kl_as rfl (kl_nil (kq_code (kc_seq (kc_region (kl_bsI [] rfl rfl rfl (by decide) (fun v1 H2 f3 o4 => ?_))))))))
 refine kl_as rfl (kl_nil (kq_code (kc_seq (kc_seq (kc_region (kl_as rfl (kl_nil (kq_code (kc_block (kc_loopL (A := Nat × List Int × Value × Hp × Nat) (fun zz => (zz.1 ≤ n.toNat) ∧ (zz.2.1.length = zz.1) ∧ OwnL 3 1 zz.2.2.2.1 noHp IntV zz.2.2.1 zz.2.1 ∧ Fr B zz.2.2.2.1 ∧ zz.2.2.2.2 ≤ pr + zz.1) (fun zz => n.toNat - zz.1) (fun zz => [zz.2.2.2.1, sing br (.cells [vbr, .int .i64 (zz.2.2.2.2 : Int)].toArray 92 (0, 0))]) (fun zz => [(8, .int .i64 (zz.1 : Int)), (7, zz.2.2.1)]) (0, ([]), v1, H2, pr) (pc 0 rfl (pc 1 rfl (pc 2 rfl (pc 6 rfl pn)))) (pc 8 rfl (pc 7 rfl pn)) rfl ⟨Nat.zero_le _, rfl, o4, f3, (by first | omega | (dsimp only; omega))⟩ ?_))))))))))
 rintro ⟨i, out, v10, H7, q11⟩ hJ13
 obtain ⟨hk5, hi6, o8, f9, hq12⟩ : (i ≤ n.toNat) ∧ (out.length = i) ∧ OwnL 3 1 H7 noHp IntV v10 out ∧ Fr B H7 ∧ q11 ≤ pr + i := hJ13
 change KC _ _ (_) [H7, sing br (.cells [vbr, .int .i64 (q11 : Int)].toArray 92 (0, 0))] _ ([(8, .int .i64 (i : Int)), (7, v10)] ++ _)
 refine kc_seq (kc_seq (kc_region (kl_mv rfl (kl_mv rfl (kl_lss rfl rfl ?_)))))
 refine kl_nil (kq_code (kc_if rfl (fun c14 => ?_) (fun c14 => ?_)))
 ·skip
  refine kc_skipQ (kq_code (kc_seq (kc_block (kc_seq (kc_region (kl_mv rfl (kl_callT rfl rfl (pick_ok q11 (2 : Int) (by omega) hr) (fun v15 L1 Ln K19 h16 f17 f18 => ?_))))))))
  obtain ⟨q20, h21, rfl, rfl, z22, rfl, h23⟩ := h16
  refine kl_norm ?_
  refine kl_eql rfl rfl ?_
  refine kl_nil (kq_code (kc_if rfl (fun c26 => ?_) (fun c26 => ?_)))
  ·skip
   refine kc_region (kl_mv rfl (kl_mv rfl (kl_bs rfl rfl rfl (by decide) (ca rfl ca_nil) (fun v27 H28 f29 r30 s31 => ?_))))
   have h32 : Ints H28 v27 [(i : Int)] := litInts (xs := [(i : Int)]) (by simpa using s31)
   refine kl_apL (i : Int) rfl rfl o8 (by assumption) rfl (oc rfl oc_nil) (by simp; omega) (by decide) (fun v33 H34 o35 f36 => ?_)
   have f37 := f36 B f9 (Nat.le_refl _)
   refine kl_as rfl (kl_nil (kq_code (kc_region (kl_mv rfl (kl_inc rfl rfl (by omega) ?_)))))
   refine kl_as rfl (kl_nil (kq_take [H34, sing br (.cells [vbr, .int .i64 (q20 : Int)].toArray 92 (0, 0))] ?_))
   refine kq_roundL ((i + 1), (out ++ [(i : Int)]), v33, H34, q20) (by omega) (⟨by omega, (by simp; omega), o35, f37, (by first | omega | (dsimp only; omega))⟩) (pc 8 rfl (pc 7 rfl pn)) (pc 0 rfl (pc 1 rfl (pc 2 rfl (pc 6 rfl pn)))) rfl (List.Sublist.refl _)
  ·skip
   refine kc_region (kl_mv rfl (kl_bsI [(i : Int)] rfl rfl rfl (by decide) (fun v38 H39 f40 o41 => ?_)))
   refine kl_mv rfl (kl_frz H7 ?_)
   have h42 := OwnL.ints o8
   refine kl_apS rfl rfl o41 (by assumption) (fun _ _ h => h) (by simp; omega) (by decide) (fun v43 H44 o45 f46 => ?_)
   have f47 := f46 B f40 (Nat.le_refl _)
   refine kl_as rfl (kl_nil (kq_code (kc_region (kl_mv rfl (kl_inc rfl rfl (by omega) ?_)))))
   refine kl_as rfl (kl_nil (kq_take [H44, sing br (.cells [vbr, .int .i64 (q20 : Int)].toArray 92 (0, 0))] ?_))
   refine kq_roundL ((i + 1), ([(i : Int)] ++ out), v43, H44, q20) (by omega) (⟨by omega, (by simp; omega), o45, f47, (by first | omega | (dsimp only; omega))⟩) (pc 8 rfl (pc 7 rfl pn)) (pc 0 rfl (pc 1 rfl (pc 2 rfl (pc 6 rfl pn)))) rfl (List.Sublist.refl _)
 ·skip
  refine kc_exit (kq_code (kc_seq (kc_seq (kc_region (kl_mv rfl (kl_mv rfl (kl_gtr rfl rfl ?_)))))))
  refine kl_nil (kq_code (kc_if rfl (fun c48 => ?_) (fun c48 => ?_)))
  ·skip
   refine kc_region (kl_mv rfl (kl_as rfl (kl_nil (kq_code (kc_seq (kc_region (kl_mv rfl (kl_mv rfl ?_))))))))
   have e51 : n = (((Int.toNat n) : Nat) : Int) := by first | omega | (simp only [List.length_append, List.length_cons, List.length_nil]; omega)
   refine kl_slTakeL (i := (Int.toNat n)) rfl (by rw [← e51]; rfl) o8 (by simp; omega) (fun u49 o50 => ?_)
   refine kl_as rfl (kl_nil (kq_code (kc_ret ?_)))
   exact kq_retT rfl rfl [sing br (.cells [vbr, .int .i64 (q11 : Int)].toArray 92 (0, 0))] [H7] noHp (fr1 f9) (fr_no _) ⟨q11, by omega, rfl, H7, (out.take (Int.toNat n)), rfl, o50, by (simp; omega)⟩
  ·skip
   refine kc_skipQ (kq_code (kc_seq (kc_region (kl_mv rfl (kl_mv rfl ?_)))))
   have e54 : k = (((Int.toNat k) : Nat) : Int) := by first | omega | (simp only [List.length_append, List.length_cons, List.length_nil]; omega)
   refine kl_slTakeL (i := (Int.toNat k)) rfl (by rw [← e54]; rfl) o8 (by simp; omega) (fun u52 o53 => ?_)
   refine kl_as rfl (kl_nil (kq_code (kc_ret ?_)))
   exact kq_retT rfl rfl [sing br (.cells [vbr, .int .i64 (q11 : Int)].toArray 92 (0, 0))] [H7] noHp (fr1 f9) (fr_no _) ⟨q11, by omega, rfl, H7, (out.take (Int.toNat k)), rfl, o53, by (simp; omega)⟩
theorem randomRow_ok {br : Nat} {vbr : Value} {Hr : Hp} {bsr : List Int} (pr : Nat) (k : Int) (hk : 0 ≤ k ∧ k ≤ 12) (hp : pr + (12) ≤ 1000000) (hr : Bytes Hr vbr bsr) : SpecT Tryz.prog 85 [.pointer (some ⟨br, 0, none⟩), .int .i64 k] [sing br (.cells [vbr, .int .i64 (pr : Int)].toArray 92 (0, 0))] [Hr] (fun vq L1 Ln Kq => ∃ q : Nat, q ≤ pr + (12) ∧ L1 = [sing br (.cells [vbr, .int .i64 (q : Int)].toArray 92 (0, 0))] ∧ ∃ (Hq : Hp) (xq : List Int), Ln = [Hq] ∧ OwnL 3 1 Hq noHp IntV vq xq ∧ (xq.length : Int) = k) := by
 refine specT_of Tryz.func85 rfl rfl rfl (fun B => ?_)
 refine kc_seq (kc_region (kl_as rfl (kl_nil (kq_code (kc_seq (kc_region (kl_bsI [] rfl rfl rfl (by decide) (fun v1 H2 f3 o4 => ?_))))))))
 refine kl_as rfl (kl_nil (kq_code (kc_seq (kc_seq (kc_region (kl_as rfl (kl_nil (kq_code (kc_block (kc_loopL (A := Nat × List Int × Value × Hp × Nat) (fun zz => (zz.1 ≤ k.toNat) ∧ (zz.2.1.length = zz.1) ∧ OwnL 3 1 zz.2.2.2.1 noHp IntV zz.2.2.1 zz.2.1 ∧ Fr B zz.2.2.2.1 ∧ zz.2.2.2.2 ≤ pr + zz.1) (fun zz => k.toNat - zz.1) (fun zz => [zz.2.2.2.1, sing br (.cells [vbr, .int .i64 (zz.2.2.2.2 : Int)].toArray 92 (0, 0))]) (fun zz => [(6, .int .i64 (zz.1 : Int)), (5, zz.2.2.1)]) (0, ([]), v1, H2, pr) (pc 0 rfl (pc 1 rfl (pc 4 rfl pn))) (pc 6 rfl (pc 5 rfl pn)) rfl ⟨Nat.zero_le _, rfl, o4, f3, (by first | omega | (dsimp only; omega))⟩ ?_))))))))))
 rintro ⟨i, out, v10, H7, q11⟩ hJ13
 obtain ⟨hk5, hi6, o8, f9, hq12⟩ : (i ≤ k.toNat) ∧ (out.length = i) ∧ OwnL 3 1 H7 noHp IntV v10 out ∧ Fr B H7 ∧ q11 ≤ pr + i := hJ13
 change KC _ _ (_) [H7, sing br (.cells [vbr, .int .i64 (q11 : Int)].toArray 92 (0, 0))] _ ([(6, .int .i64 (i : Int)), (5, v10)] ++ _)
 refine kc_seq (kc_seq (kc_region (kl_mv rfl (kl_mv rfl (kl_lss rfl rfl ?_)))))
 refine kl_nil (kq_code (kc_if rfl (fun c14 => ?_) (fun c14 => ?_)))
 ·skip
  refine kc_skipQ (kq_code (kc_seq (kc_block (kc_region (kl_mv rfl (kl_mv rfl (kl_callT rfl rfl (pick_ok q11 (6 : Int) (by omega) hr) (fun v15 L1 Ln K19 h16 f17 f18 => ?_))))))))
  obtain ⟨q20, h21, rfl, rfl, z22, rfl, h23⟩ := h16
  refine kl_norm ?_
  refine kl_bs rfl rfl rfl (by decide) (ca rfl ca_nil) (fun v26 H27 f28 r29 s30 => ?_)
  have h31 : Ints H27 v26 [z22] := litInts (xs := [z22]) (by simpa using s30)
  refine kl_apL z22 rfl rfl o8 (by assumption) rfl (oc rfl oc_nil) (by omega) (by decide) (fun v32 H33 o34 f35 => ?_)
  have f36 := f35 B f9 (Nat.le_refl _)
  refine kl_as rfl (kl_nil (kq_code (kc_region (kl_mv rfl (kl_inc rfl rfl (by omega) ?_)))))
  refine kl_as rfl (kl_nil (kq_take [H33, sing br (.cells [vbr, .int .i64 (q20 : Int)].toArray 92 (0, 0))] ?_))
  refine kq_roundL ((i + 1), (out ++ [z22]), v32, H33, q20) (by omega) (⟨by omega, (by simp; omega), o34, f36, (by first | omega | (dsimp only; omega))⟩) (pc 6 rfl (pc 5 rfl pn)) (pc 0 rfl (pc 1 rfl (pc 4 rfl pn))) rfl (List.Sublist.refl _)
 ·skip
  refine kc_exit (kq_code (kc_seq (kc_region (kl_mv rfl (kl_as rfl (kl_nil (kq_code (kc_ret ?_))))))))
  exact kq_retT rfl rfl [sing br (.cells [vbr, .int .i64 (q11 : Int)].toArray 92 (0, 0))] [H7] noHp (fr1 f9) (fr_no _) ⟨q11, by omega, rfl, H7, out, rfl, o8, by omega⟩
theorem randomAutomaton_ok {br : Nat} {vbr : Value} {Hr : Hp} {bsr : List Int} (pr : Nat) (n : Int) (hn : 1 ≤ n ∧ n ≤ 4) (hp : pr + (12 * n.toNat) ≤ 1000000) (hr : Bytes Hr vbr bsr) : SpecT Tryz.prog 145 [.pointer (some ⟨br, 0, none⟩), .int .i64 n] [sing br (.cells [vbr, .int .i64 (pr : Int)].toArray 92 (0, 0))] [Hr] (fun vq L1 Ln Kq => ∃ q : Nat, q ≤ pr + (12 * n.toNat) ∧ L1 = [sing br (.cells [vbr, .int .i64 (q : Int)].toArray 92 (0, 0))] ∧ ∃ (Hq : Hp) (xq : List (List Int)), Ln = [Hq] ∧ OwnL 22 1 Hq Kq RowV vq xq ∧ ((xq.length : Int) = n ∧ ∀ r ∈ xq, r.length ≤ 12)) := by
 refine specT_of Tryz.func145 rfl rfl rfl (fun B => ?_)
 refine kc_seq (kc_region (kl_as rfl (kl_nil (kq_code (kc_seq (kc_region (kl_bs0 RowV rfl (fun v1 H2 f3 o4 => ?_))))))))
 refine kl_as rfl (kl_nil (kq_code (kc_seq (kc_seq (kc_region (kl_as rfl (kl_nil (kq_code (kc_block (kc_loopK (A := Nat × List (List Int) × Value × Hp × Hp × Nat) (fun zz => (zz.1 ≤ n.toNat) ∧ (zz.2.1.length = zz.1 ∧ ∀ r ∈ zz.2.1, r.length ≤ 12) ∧ Fr B zz.2.2.2.2.1 ∧ OwnL 22 1 zz.2.2.2.1 zz.2.2.2.2.1 RowV zz.2.2.1 zz.2.1 ∧ Fr B zz.2.2.2.1 ∧ zz.2.2.2.2.2 ≤ pr + 12 * zz.1) (fun zz => n.toNat - zz.1) (fun zz => zz.2.2.2.2.1) (fun zz => [zz.2.2.2.1, sing br (.cells [vbr, .int .i64 (zz.2.2.2.2.2 : Int)].toArray 92 (0, 0))]) (fun zz => [(6, .int .i64 (zz.1 : Int)), (5, zz.2.2.1)]) (0, ([]), v1, H2, noHp, pr) (pc 0 rfl (pc 1 rfl (pc 4 rfl pn))) (pc 6 rfl (pc 5 rfl pn)) rfl ⟨Nat.zero_le _, ⟨rfl, all_nil⟩, (fr_no _), o4, f3, (by first | omega | (dsimp only; omega))⟩ ?_))))))))))
 rintro ⟨i, out, v10, H7, K11, q13⟩ hJ15
 obtain ⟨hk5, hi6, f12, o8, f9, hq14⟩ : (i ≤ n.toNat) ∧ (out.length = i ∧ ∀ r ∈ out, r.length ≤ 12) ∧ Fr B K11 ∧ OwnL 22 1 H7 K11 RowV v10 out ∧ Fr B H7 ∧ q13 ≤ pr + 12 * i := hJ15
 change KC _ _ (K11 :: _) [H7, sing br (.cells [vbr, .int .i64 (q13 : Int)].toArray 92 (0, 0))] _ ([(6, .int .i64 (i : Int)), (5, v10)] ++ _)
 refine kc_seq (kc_seq (kc_region (kl_mv rfl (kl_mv rfl (kl_lss rfl rfl ?_)))))
 refine kl_nil (kq_code (kc_if rfl (fun c16 => ?_) (fun c16 => ?_)))
 ·skip
  refine kc_skipQ (kq_code (kc_seq (kc_block (kc_seq (kc_region (kl_bsI [] rfl rfl rfl (by decide) (fun v17 H18 f19 o20 => ?_)))))))
  refine kl_as rfl (kl_nil (kq_code (kc_seq (kc_seq (kc_region (kl_as rfl (kl_nil (kq_code (kc_block (kc_loopL (A := Nat × List Int × Value × Hp × Nat) (fun zz => (zz.1 ≤ 6) ∧ (zz.2.1.length = zz.1) ∧ OwnL 3 1 zz.2.2.2.1 noHp IntV zz.2.2.1 zz.2.1 ∧ Fr B zz.2.2.2.1 ∧ zz.2.2.2.2 ≤ q13 + 2 * zz.1) (fun zz => 6 - zz.1) (fun zz => [zz.2.2.2.1, H7, sing br (.cells [vbr, .int .i64 (zz.2.2.2.2 : Int)].toArray 92 (0, 0))]) (fun zz => [(8, .int .i64 (zz.1 : Int)), (7, zz.2.2.1)]) (0, ([]), v17, H18, q13) (pc 0 rfl (pc 1 rfl (pc 4 rfl (pc 5 rfl (pc 6 rfl (pc 11 rfl (pc 12 rfl (pc 13 rfl (pc 16 rfl pn))))))))) (pc 8 rfl (pc 7 rfl pn)) rfl ⟨Nat.zero_le _, rfl, o20, f19, (by first | omega | (dsimp only; omega))⟩ ?_))))))))))
  rintro ⟨j, row, v26, H23, q27⟩ hJ29
  obtain ⟨hk21, hi22, o24, f25, hq28⟩ : (j ≤ 6) ∧ (row.length = j) ∧ OwnL 3 1 H23 noHp IntV v26 row ∧ Fr B H23 ∧ q27 ≤ q13 + 2 * j := hJ29
  change KC _ _ (_) [H23, H7, sing br (.cells [vbr, .int .i64 (q27 : Int)].toArray 92 (0, 0))] _ ([(8, .int .i64 (j : Int)), (7, v26)] ++ _)
  refine kc_seq (kc_seq (kc_region (kl_mv rfl (kl_leq rfl rfl ?_))))
  refine kl_nil (kq_code (kc_if rfl (fun c30 => ?_) (fun c30 => ?_)))
  ·skip
   refine kc_skipQ (kq_code (kc_seq (kc_block (kc_region (kl_mv rfl (kl_mv rfl (kl_mv rfl (kl_add rfl rfl (by omega) ?_))))))))
   refine kl_callT rfl rfl (pick_ok q27 (n + (1 : Int)) (by omega) hr) (fun v31 L1 Ln K35 h32 f33 f34 => ?_)
   obtain ⟨q36, h37, rfl, rfl, z38, rfl, h39⟩ := h32
   refine kl_norm ?_
   refine kl_mv rfl (kl_callT rfl rfl (pick_ok q36 (2 : Int) (by omega) hr) (fun v42 L1 Ln K46 h43 f44 f45 => ?_))
   obtain ⟨q47, h48, rfl, rfl, z49, rfl, h50⟩ := h43
   refine kl_norm ?_
   refine kl_sub rfl rfl (by omega) ?_
   refine kl_bs rfl rfl rfl (by decide) (ca rfl ca_nil) (fun v53 H54 f55 r56 s57 => ?_)
   have h58 : Ints H54 v53 [(z38 - z49)] := litInts (xs := [(z38 - z49)]) (by simpa using s57)
   refine kl_apL (z38 - z49) rfl rfl o24 (by assumption) rfl (oc rfl oc_nil) (by omega) (by decide) (fun v59 H60 o61 f62 => ?_)
   have f63 := f62 B f25 (Nat.le_refl _)
   refine kl_as rfl (kl_nil (kq_code (kc_region (kl_mv rfl (kl_inc rfl rfl (by omega) ?_)))))
   refine kl_as rfl (kl_nil (kq_take [H60, H7, sing br (.cells [vbr, .int .i64 (q47 : Int)].toArray 92 (0, 0))] ?_))
   refine kq_roundL ((j + 1), (row ++ [(z38 - z49)]), v59, H60, q47) (by omega) (⟨by omega, (by simp; omega), o61, f63, (by first | omega | (dsimp only; omega))⟩) (pc 8 rfl (pc 7 rfl pn)) (pc 0 rfl (pc 1 rfl (pc 4 rfl (pc 5 rfl (pc 6 rfl (pc 11 rfl (pc 12 rfl (pc 13 rfl (pc 16 rfl pn))))))))) rfl (List.Sublist.refl _)
  ·skip
   refine kc_exit (kq_code (kc_seq (kc_seq (kc_region (kl_as rfl (kl_nil (kq_code (kc_block (kc_loopL (A := Nat × List Int × Hp) (fun zz => (zz.1 ≤ 6) ∧ (zz.2.1.length = 6) ∧ OwnL 3 1 zz.2.2 noHp IntV v26 zz.2.1 ∧ Fr B zz.2.2) (fun zz => 6 - zz.1) (fun zz => [zz.2.2, H7, sing br (.cells [vbr, .int .i64 (q27 : Int)].toArray 92 (0, 0))]) (fun zz => [(9, .int .i64 (zz.1 : Int))]) (0, row, H23) (pc 0 rfl (pc 1 rfl (pc 4 rfl (pc 5 rfl (pc 6 rfl (pc 7 rfl (pc 8 rfl (pc 11 rfl (pc 12 rfl (pc 13 rfl (pc 16 rfl (pc 17 rfl (pc 18 rfl pn))))))))))))) (pc 9 rfl pn) rfl ⟨Nat.zero_le _, (by dsimp only; omega), o24, f25⟩ ?_)))))))))
   rintro ⟨k, row2, H66⟩ hJ69
   obtain ⟨hk64, hi65, o67, f68⟩ : (k ≤ 6) ∧ (row2.length = 6) ∧ OwnL 3 1 H66 noHp IntV v26 row2 ∧ Fr B H66 := hJ69
   change KC _ _ (_) [H66, H7, sing br (.cells [vbr, .int .i64 (q27 : Int)].toArray 92 (0, 0))] _ ([(9, .int .i64 (k : Int))] ++ _)
   refine kc_seq (kc_seq (kc_region (kl_mv rfl (kl_leq rfl rfl ?_))))
   refine kl_nil (kq_code (kc_if rfl (fun c70 => ?_) (fun c70 => ?_)))
   ·skip
    refine kc_skipQ (kq_code (kc_seq (kc_block (kc_seq (kc_region (kl_mv rfl (kl_mv rfl (kl_ixLn rfl rfl (by assumption) (by omega) (fun p71 q72 => ?_)))))))))
    refine kl_ldLI rfl (by assumption) (by assumption) (by omega) ?_
    refine kl_mv rfl (kl_geq rfl rfl ?_)
    refine kl_nil (kq_code (kc_if rfl (fun c73 => ?_) (fun c73 => ?_)))
    ·skip
     refine kc_region (kl_mv rfl (kl_mv rfl (kl_mv rfl (kl_sub rfl rfl (by omega) ?_))))
     refine kl_ixLn rfl rfl (by assumption) (by omega) (fun p74 q75 => ?_)
     refine kl_stL (n - (1 : Int)) rfl rfl (by assumption) o67 (by omega) rfl rfl rfl (fun H76 o77 f78 => ?_)
     have f79 := f78 _ f68
     refine kl_chg [H76, H7, sing br (.cells [vbr, .int .i64 (q27 : Int)].toArray 92 (0, 0))] rfl ?_
     refine kl_nil (kq_code (kc_region (kl_mv rfl (kl_inc rfl rfl (by omega) ?_))))
     refine kl_as rfl (kl_nil (kq_take [H76, H7, sing br (.cells [vbr, .int .i64 (q27 : Int)].toArray 92 (0, 0))] ?_))
     refine kq_roundL ((k + 1), (row2.set k (n - (1 : Int))), H76) (by omega) (⟨by omega, (by first | omega | (simp; omega)), o77, f79⟩) (pc 9 rfl pn) (pc 0 rfl (pc 1 rfl (pc 4 rfl (pc 5 rfl (pc 6 rfl (pc 7 rfl (pc 8 rfl (pc 11 rfl (pc 12 rfl (pc 13 rfl (pc 16 rfl (pc 17 rfl (pc 18 rfl pn))))))))))))) rfl (List.Sublist.refl _)
    ·skip
     refine kc_skipQ (kq_code (kc_region (kl_mv rfl (kl_inc rfl rfl (by omega) ?_))))
     refine kl_as rfl (kl_nil (kq_take [H66, H7, sing br (.cells [vbr, .int .i64 (q27 : Int)].toArray 92 (0, 0))] ?_))
     refine kq_roundL ((k + 1), row2, H66) (by omega) (⟨by omega, (by first | omega | (simp; omega)), o67, f68⟩) (pc 9 rfl pn) (pc 0 rfl (pc 1 rfl (pc 4 rfl (pc 5 rfl (pc 6 rfl (pc 7 rfl (pc 8 rfl (pc 11 rfl (pc 12 rfl (pc 13 rfl (pc 16 rfl (pc 17 rfl (pc 18 rfl pn))))))))))))) rfl (List.Sublist.refl _)
   ·skip
    refine kc_exit (kq_code (kc_region (kl_mv rfl (kl_mv rfl (kl_bs rfl rfl rfl (by decide) (ca (by first | exact Sl.cells (by assumption) | exact OwnL.cells (by assumption)) ca_nil) (fun v80 H81 f82 r83 s84 => ?_))))))
    refine kl_frz H66 ?_
    have h85 := OwnL.ints o67
    refine kl_cmp K11 H66 (fun c86 => ?_)
    have o87 := OwnL.mono (K' := orHp K11 H66) o8 orL
    refine kl_apL row2 rfl rfl o87 (by assumption) ⟨_, rfl, Sl.mono (by assumption) (orC c86) (fun _ _ h => h)⟩ (oc (OwnL.oneCell (by assumption)) oc_nil) (by omega) (by decide) (fun v88 H89 o90 f91 => ?_)
    have f92 := f91 B f9 (Nat.le_refl _)
    refine kl_as rfl (kl_nil (kq_code (kc_region (kl_mv rfl (kl_inc rfl rfl (by omega) ?_)))))
    refine kl_as rfl (kl_nil (kq_take [H89, sing br (.cells [vbr, .int .i64 (q27 : Int)].toArray 92 (0, 0))] ?_))
    refine kq_roundK ((i + 1), (out ++ [row2]), v88, H89, (orHp K11 H66), q27) (by omega) (⟨by omega, ⟨by simp; omega, all_snoc hi6.2 (by first | omega | (simp; omega))⟩, (fr_or f12 f68), o90, f92, (by first | omega | (dsimp only; omega))⟩) (pc 6 rfl (pc 5 rfl pn)) (pc 0 rfl (pc 1 rfl (pc 4 rfl pn))) rfl (List.Sublist.refl _)
 ·skip
  refine kc_exit (kq_code (kc_seq (kc_region (kl_mv rfl (kl_as rfl (kl_nil (kq_code (kc_ret ?_))))))))
  exact kq_retT rfl rfl [sing br (.cells [vbr, .int .i64 (q13 : Int)].toArray 92 (0, 0))] [H7] K11 (fr1 f9) f12 ⟨q13, by omega, rfl, H7, out, rfl, o8, by exact ⟨by omega, hi6.2⟩⟩
theorem randomConstraint_ok {br : Nat} {vbr : Value} {Hr : Hp} {bsr : List Int} (pr : Nat) (n : Int) (hn : 1 ≤ n ∧ n ≤ 4) (hp : pr + (100) ≤ 1000000) (hr : Bytes Hr vbr bsr) : SpecT Tryz.prog 116 [.pointer (some ⟨br, 0, none⟩), .int .i64 n] [sing br (.cells [vbr, .int .i64 (pr : Int)].toArray 92 (0, 0))] [Hr] (fun vq L1 Ln Kq => ∃ q : Nat, q ≤ pr + (100) ∧ L1 = [sing br (.cells [vbr, .int .i64 (q : Int)].toArray 92 (0, 0))] ∧ ∃ cq : Con, Ln = [] ∧ ConR Kq vq cq ∧ ConSm 50 cq) := by
 refine specT_of Tryz.func116 rfl rfl rfl (fun B => ?_)
 refine kc_seq (kc_region (kl_alloc (cs := [.int .i64 (0 : Int), .slice none 0 0, .slice none 0 0, .int .i64 (0 : Int), .slice none 0 0]) rfl (fun b1 hb2 => ?_)))
 refine kl_nil (kq_code (kc_seq (kc_region (kl_mv rfl (kl_mv rfl (kl_callT rfl rfl (pick_ok pr n (by omega) hr) (fun v3 L1 Ln K7 h4 f5 f6 => ?_)))))))
 obtain ⟨q8, h9, rfl, rfl, z10, rfl, h11⟩ := h4
 refine kl_norm ?_
 refine kl_add rfl rfl (by omega) ?_
 refine kl_as rfl (kl_nil (kq_code (kc_seq (kc_region (kl_mv rfl (kl_callT rfl rfl (pick_ok q8 (9 : Int) (by omega) hr) (fun v14 L1 Ln K18 h15 f16 f17 => ?_)))))))
 obtain ⟨q19, h20, rfl, rfl, z21, rfl, h22⟩ := h15
 refine kl_norm ?_
 refine kl_add rfl rfl (by omega) ?_
 refine kl_mv rfl (kl_mv rfl (kl_mv rfl (kl_callT rfl rfl (someVars_ok q19 n ((1 : Int) + z10) (by first | assumption | omega) (by first | assumption | omega) (by omega) hr) (fun v25 L1 Ln K29 h26 f27 f28 => ?_))))
 obtain ⟨q30, h31, rfl, H34, z32, rfl, o35, h33⟩ := h26
 have f36 := f27 _ (.head _)
 refine kl_norm ?_
 refine kl_bd rfl (cp rfl (cp (OwnL.cells (by assumption)) cp_nil)) rfl ?_
 refine kl_alloc (cs := [.int .i64 (0 : Int), .slice none 0 0, .slice none 0 0, .int .i64 (0 : Int), .slice none 0 0]) rfl (fun b37 hb38 => ?_)
 refine kl_stW (us := [.int .i64 ((1 : Int) + z21), v25, .slice none 0 0, .int .i64 (0 : Int), .slice none 0 0]) rfl rfl rfl rfl (oc rfl (oc (OwnL.oneCell (by assumption)) (oc rfl (oc rfl (oc rfl oc_nil))))) rfl ?_
 refine kl_chg [sing b37 (.cells [.int .i64 ((1 : Int) + z21), v25, .slice none 0 0, .int .i64 (0 : Int), .slice none 0 0].toArray 76 (0, 0)), sing br (.cells [vbr, .int .i64 (q30 : Int)].toArray 92 (0, 0)), H34, sing b1 (.cells [.int .i64 (0 : Int), .slice none 0 0, .slice none 0 0, .int .i64 (0 : Int), .slice none 0 0].toArray 76 (0, 0))] rfl ?_
 refine kl_nil (kq_code (kc_seq (kc_seq (kc_region (kl_mv rfl (kl_lss rfl rfl ?_))))))
 refine kl_mv rfl (kl_join 9 33 (.bool (decide (n < (2 : Int)) && (decide (((1 : Int) + z21) = (2 : Int)) || decide (((1 : Int) + z21) = (4 : Int))))) (pc 0 rfl (pc 1 rfl (pc 4 rfl (pc 5 rfl (pc 6 rfl (pc 24 rfl pn)))))) (fun J42 => ?_) ?_)
 ·rcases Bool.eq_false_or_eq_true (decide (n < (2 : Int))) with g39 | g39
  ·skip
   have g39p := of_decide_eq_true g39
   refine kl_gT rfl rfl g39 (kl_fdV rfl (kl_gT rfl rfl g39 (kl_ldB rfl rfl (kl_gT rfl rfl g39 (kl_eql rfl rfl ?_)))))
   refine kl_gT rfl rfl g39 (kl_mv rfl (kl_join 4 32 (.bool (decide (((1 : Int) + z21) = (2 : Int)) || decide (((1 : Int) + z21) = (4 : Int)))) (pc 0 rfl (pc 1 rfl (pc 4 rfl (pc 5 rfl (pc 6 rfl (pc 24 rfl (pc 28 rfl pn))))))) (fun J41 => ?_) ?_))
   ·rcases Bool.eq_false_or_eq_true (decide (((1 : Int) + z21) = (2 : Int))) with g40 | g40
    ·skip
     refine kl_gF rfl rfl g40 (kl_gF rfl rfl g40 (kl_gF rfl rfl g40 (kl_gT rfl rfl g39 (kl_orT (decide (((1 : Int) + z21) = (4 : Int))) rfl rfl g40 ?_))))
     exact J41 _ (pc 32 rfl (pc 0 rfl (pc 1 rfl (pc 4 rfl (pc 5 rfl (pc 6 rfl (pc 24 rfl (pc 28 rfl pn))))))))
    ·skip
     have g40p := of_decide_eq_false g40
     refine kl_gT rfl rfl g40 (kl_fdV rfl (kl_gT rfl rfl g40 (kl_ldB rfl rfl (kl_gT rfl rfl g40 (kl_eql rfl rfl ?_)))))
     refine kl_gT rfl rfl g39 (kl_orF rfl rfl g40 ?_)
     exact J41 _ (pc 32 rfl (pc 0 rfl (pc 1 rfl (pc 4 rfl (pc 5 rfl (pc 6 rfl (pc 24 rfl (pc 28 rfl pn))))))))
   refine kl_andT rfl rfl g39 ?_
   exact J42 _ (pc 33 rfl (pc 0 rfl (pc 1 rfl (pc 4 rfl (pc 5 rfl (pc 6 rfl (pc 24 rfl pn)))))))
  ·skip
   refine kl_gF rfl rfl g39 (kl_gF rfl rfl g39 (kl_gF rfl rfl g39 (kl_gF rfl rfl g39 (kl_gU rfl rfl (kl_gU rfl rfl (kl_gU rfl rfl (kl_gF rfl rfl g39 (kl_andF (decide (((1 : Int) + z21) = (2 : Int)) || decide (((1 : Int) + z21) = (4 : Int))) rfl rfl g39 ?_))))))))
   exact J42 _ (pc 33 rfl (pc 0 rfl (pc 1 rfl (pc 4 rfl (pc 5 rfl (pc 6 rfl (pc 24 rfl pn)))))))
 refine kl_nil (kq_code (kc_cond rfl (fun c43 => ?_) (fun c43 => ?_)))
 ·skip
  have c43r := c43
  try simp only [smpC, decide_eq_true_eq, decide_eq_false_iff_not] at c43
  refine kc_region (kl_fdV rfl (kl_stB rfl rfl rfl rfl rfl ?_))
  refine kl_chg [sing b37 (.cells [.int .i64 (5 : Int), v25, .slice none 0 0, .int .i64 (0 : Int), .slice none 0 0].toArray 76 (0, 0)), sing br (.cells [vbr, .int .i64 (q30 : Int)].toArray 92 (0, 0)), H34, sing b1 (.cells [.int .i64 (0 : Int), .slice none 0 0, .slice none 0 0, .int .i64 (0 : Int), .slice none 0 0].toArray 76 (0, 0))] rfl ?_
  refine kl_nil (kq_code (kc_seq (kc_region (kl_fdV rfl (kl_ldB rfl rfl (kl_lenL rfl o35 (fun l44 => ?_)))))))
  refine kl_as rfl (kl_nil (kq_code (kc_seq (kc_seq (kc_region (kl_fdV rfl (kl_ldB rfl rfl (kl_nil (kq_code (kc_block (kc_seq (kc_region ?_))))))))))))
  refine kl_eql rfl rfl ?_
  refine kl_as rfl (kl_nil (kq_code (kc_if rfl (fun c45 => ?_) (fun c45 => ?_))))
  ·skip
   refine kc_seq (kc_seq (kc_region (kl_as rfl (kl_nil (kq_code (kc_block (kc_no ?_)))))))
   refine kc_loopL (A := Nat × List Int × Value × Hp × Nat) (fun zz => (zz.1 ≤ z32.length) ∧ (zz.2.1.length = zz.1) ∧ OwnL 3 1 zz.2.2.2.1 noHp IntV zz.2.2.1 zz.2.1 ∧ Fr B zz.2.2.2.1 ∧ zz.2.2.2.2 ≤ q30 + zz.1) (fun zz => z32.length - zz.1) (fun zz => [zz.2.2.2.1, sing b37 (.cells [.int .i64 (5 : Int), v25, zz.2.2.1, .int .i64 (0 : Int), .slice none 0 0].toArray 76 (0, 0)), sing br (.cells [vbr, .int .i64 (zz.2.2.2.2 : Int)].toArray 92 (0, 0)), H34, sing b1 (.cells [.int .i64 (0 : Int), .slice none 0 0, .slice none 0 0, .int .i64 (0 : Int), .slice none 0 0].toArray 76 (0, 0))]) (fun zz => [(7, .int .i64 (zz.1 : Int))]) (0, [], .slice none 0 0, noHp, q30) (pc 0 rfl (pc 4 rfl (pc 5 rfl (pc 6 rfl pn)))) (pc 7 rfl pn) rfl ⟨Nat.zero_le _, rfl, OwnL.nil, (fr_no _), (by first | omega | (dsimp only; omega))⟩ ?_
   rintro ⟨i, out, v51, H48, q53⟩ hJ55
   obtain ⟨hk46, hi47, o49, f50, hq54⟩ : (i ≤ z32.length) ∧ (out.length = i) ∧ OwnL 3 1 H48 noHp IntV v51 out ∧ Fr B H48 ∧ q53 ≤ q30 + i := hJ55
   change KC _ _ (_) [H48, sing b37 (.cells [.int .i64 (5 : Int), v25, v51, .int .i64 (0 : Int), .slice none 0 0].toArray 76 (0, 0)), sing br (.cells [vbr, .int .i64 (q53 : Int)].toArray 92 (0, 0)), H34, sing b1 (.cells [.int .i64 (0 : Int), .slice none 0 0, .slice none 0 0, .int .i64 (0 : Int), .slice none 0 0].toArray 76 (0, 0))] _ ([(7, .int .i64 (i : Int))] ++ _)
   refine kc_seq (kc_seq (kc_region (kl_mv rfl (kl_mv rfl (kl_lss rfl rfl ?_)))))
   refine kl_nil (kq_code (kc_if rfl (fun c56 => ?_) (fun c56 => ?_)))
   ·skip
    refine kc_skipQ (kq_code (kc_seq (kc_block (kc_tree (fun i => ([6, 8] : List Nat).contains i) [sing b37 (.cells [.int .i64 (5 : Int), v25, v51, .int .i64 (0 : Int), .slice none 0 0].toArray 76 (0, 0))] (by kernel_rfl) ?_))))
    refine kt_q 0 (.cons _ (.cons_cons _ (List.nil_sublist _))) rfl (by kernel_rfl) (kl_fdV rfl (kl_nil (kq_q (kt_q 1 (.cons _ (.cons_cons _ (List.nil_sublist _))) rfl (by kernel_rfl) (kl_ld rfl (at_box (T := 76) (cs := [.int .i64 (5 : Int), v25, v51, .int .i64 (0 : Int), .slice none 0 0]) (off := 2) (fz := (0, 0))) (kl_nil (kq_q (kt_q 2 (.cons _ (.cons_cons _ (List.nil_sublist _))) rfl (by kernel_rfl) ?_))))))))
    refine kl_mv rfl (kl_nil (kq_q (kt_a 3 rfl (by kernel_rfl) (kl_bs rfl rfl rfl (by decide) (ca rfl (ca rfl (ca rfl (ca rfl (ca rfl (ca rfl ca_nil)))))) (fun v57 H58 f59 r60 s61 => ?_)))))
    have h62 : Ints H58 v57 [(1 : Int), (1 : Int), (-1 : Int), (2 : Int), (-3 : Int), (0 : Int)] := litInts (xs := [(1 : Int), (1 : Int), (-1 : Int), (2 : Int), (-3 : Int), (0 : Int)]) (by simpa using s61)
    refine kl_nil (kq_a (.cons _ (.cons_cons _ (List.nil_sublist _))) (kt_a 4 rfl (by kernel_rfl) (kl_callT rfl rfl (one_ok q53 ([(1 : Int), (1 : Int), (-1 : Int), (2 : Int), (-3 : Int), (0 : Int)]) (by first | (simp; done) | omega) (by omega) hr (by assumption)) (fun v63 L1 Ln K67 h64 f65 f66 => ?_))))
    obtain ⟨q68, h69, rfl, rfl, z70, rfl, h71⟩ := h64
    refine kl_norm ?_
    refine kl_nil (kq_a (.cons _ (.cons _ (.cons_cons _ (List.nil_sublist _)))) (kt_a 5 rfl (by kernel_rfl) (kl_bs rfl rfl rfl (by decide) (ca rfl ca_nil) (fun v74 H75 f76 r77 s78 => ?_))))
    have h79 : Ints H75 v74 [z70] := litInts (xs := [z70]) (by simpa using s78)
    refine kl_nil (kq_a (.cons _ (.cons _ (.cons_cons _ (List.nil_sublist _)))) (kt_a 6 rfl (by kernel_rfl) (kl_apL z70 rfl rfl o49 (by assumption) rfl (oc rfl oc_nil) (by omega) (by decide) (fun v80 H81 o82 f83 => ?_))))
    have f84 := f83 B f50 (Nat.le_refl _)
    refine kl_nil (kq_x rfl (kt_q 7 (.cons _ (.cons _ (.cons_cons _ (List.nil_sublist _)))) rfl (by kernel_rfl) (kl_fdV rfl (kl_nil (kq_q (kt_a 8 rfl (by kernel_rfl) (kl_stB rfl rfl rfl (OwnL.oneCell (by assumption)) (OwnL.cells (by assumption)) ?_)))))))
    refine kl_chg [sing br (.cells [vbr, .int .i64 (q68 : Int)].toArray 92 (0, 0)), H81, sing b37 (.cells [.int .i64 (5 : Int), v25, v80, .int .i64 (0 : Int), .slice none 0 0].toArray 76 (0, 0)), H34, sing b1 (.cells [.int .i64 (0 : Int), .slice none 0 0, .slice none 0 0, .int .i64 (0 : Int), .slice none 0 0].toArray 76 (0, 0))] rfl ?_
    refine kl_nil (kq_x rfl (kt_end (by kernel_rfl) ?_))
    refine kq_code (kc_region (kl_mv rfl (kl_inc rfl rfl (by omega) ?_)))
    refine kl_as rfl (kl_nil (kq_take [H81, sing b37 (.cells [.int .i64 (5 : Int), v25, v80, .int .i64 (0 : Int), .slice none 0 0].toArray 76 (0, 0)), sing br (.cells [vbr, .int .i64 (q68 : Int)].toArray 92 (0, 0)), H34, sing b1 (.cells [.int .i64 (0 : Int), .slice none 0 0, .slice none 0 0, .int .i64 (0 : Int), .slice none 0 0].toArray 76 (0, 0))] ?_))
    refine kq_roundL ((i + 1), (out ++ [z70]), v80, H81, q68) (by omega) (⟨by omega, (by simp; omega), o82, f84, (by first | omega | (dsimp only; omega))⟩) (pc 7 rfl pn) (pc 0 rfl (pc 4 rfl (pc 5 rfl (pc 6 rfl pn)))) rfl (List.Sublist.refl _)
   ·skip
    refine kc_exit (kq_code (kc_region (kl_mv rfl (kl_callT rfl rfl (pick_ok q53 (14 : Int) (by omega) hr) (fun v85 L1 Ln K89 h86 f87 f88 => ?_)))))
    obtain ⟨q90, h91, rfl, rfl, z92, rfl, h93⟩ := h86
    refine kl_norm ?_
    refine kl_sub rfl rfl (by omega) ?_
    refine kl_fdV rfl (kl_stB rfl rfl rfl rfl rfl ?_)
    refine kl_chg [sing br (.cells [vbr, .int .i64 (q90 : Int)].toArray 92 (0, 0)), H48, sing b37 (.cells [.int .i64 (5 : Int), v25, v51, .int .i64 (z92 - (4 : Int)), .slice none 0 0].toArray 76 (0, 0)), H34, sing b1 (.cells [.int .i64 (0 : Int), .slice none 0 0, .slice none 0 0, .int .i64 (0 : Int), .slice none 0 0].toArray 76 (0, 0))] rfl ?_
    refine kl_nil (kq_code (kc_seq (kc_region (kl_ldW rfl rfl (kl_stW (us := [.int .i64 (5 : Int), v25, v51, .int .i64 (z92 - (4 : Int)), .slice none 0 0]) rfl rfl rfl rfl (oc rfl (oc (OwnL.oneCell (by assumption)) (oc (OwnL.oneCell (by assumption)) (oc rfl (oc rfl oc_nil))))) rfl ?_)))))
    refine kl_chg [sing br (.cells [vbr, .int .i64 (q90 : Int)].toArray 92 (0, 0)), H48, sing b37 (.cells [.int .i64 (5 : Int), v25, v51, .int .i64 (z92 - (4 : Int)), .slice none 0 0].toArray 76 (0, 0)), H34, sing b1 (.cells [.int .i64 (5 : Int), v25, v51, .int .i64 (z92 - (4 : Int)), .slice none 0 0].toArray 76 (0, 0))] rfl ?_
    refine kl_nil (kq_code (kc_ret (kq_frz H34 ?_)))
    refine kq_frz H48 ?_
    refine kq_cmp H48 noHp (fun c96 => ?_)
    refine kq_cmp H34 (orHp H48 noHp) (fun c97 => ?_)
    exact kq_retTC rfl rfl rfl [sing br (.cells [vbr, .int .i64 (q90 : Int)].toArray 92 (0, 0))] [] (orHp H34 (orHp H48 noHp)) frn (fr_or f36 (fr_or f50 (fr_no _))) ⟨q90, by omega, rfl, ⟨(5 : Int), z32, out, (z92 - (4 : Int)), []⟩, rfl, ⟨_, rfl, _, _, _, rfl, (Sl.mono (OwnL.ints o35) (fun b o h => orL b o h) (fun _ _ h => h)), (Sl.mono (OwnL.ints o49) (fun b o h => orC c97 b o (orL b o h)) (fun _ _ h => h)), (Sl.mono Sl.nil (fun b o h => orC c97 b o (orC c96 b o h)) (fun _ _ h => h))⟩, by (constructor <;> dsimp only <;> first | omega | exact all_nil | assumption | (simp; done) | (simp; omega) | (simp only [List.length_cons, List.length_nil]; omega))⟩
  ·skip
   refine kc_seq (kc_region (kl_eql rfl rfl ?_))
   refine kl_as rfl (kl_nil (kq_code (kc_if rfl (fun c98 => ?_) (fun c98 => ?_))))
   ·skip
    refine kc_seq (kc_region (kl_mv rfl (kl_mv rfl (kl_callT rfl rfl (someVars_ok q30 n (2 : Int) (by first | assumption | omega) (by first | assumption | omega) (by omega) hr) (fun v99 L1 Ln K103 h100 f101 f102 => ?_)))))
    obtain ⟨q104, h105, rfl, H108, z106, rfl, o109, h107⟩ := h100
    have f110 := f101 _ (.head _)
    refine kl_norm ?_
    refine kl_fdV rfl (kl_stB rfl rfl rfl (OwnL.oneCell (by assumption)) (OwnL.cells (by assumption)) ?_)
    refine kl_chg [sing br (.cells [vbr, .int .i64 (q104 : Int)].toArray 92 (0, 0)), H108, sing b37 (.cells [.int .i64 (5 : Int), v99, .slice none 0 0, .int .i64 (0 : Int), .slice none 0 0].toArray 76 (0, 0)), H34, sing b1 (.cells [.int .i64 (0 : Int), .slice none 0 0, .slice none 0 0, .int .i64 (0 : Int), .slice none 0 0].toArray 76 (0, 0))] rfl ?_
    refine kl_nil (kq_code (kc_region (kl_mv rfl (kl_callT rfl rfl (pick_ok q104 (5 : Int) (by omega) hr) (fun v111 L1 Ln K115 h112 f113 f114 => ?_)))))
    obtain ⟨q116, h117, rfl, rfl, z118, rfl, h119⟩ := h112
    refine kl_norm ?_
    refine kl_sub rfl rfl (by omega) ?_
    refine kl_bs rfl rfl rfl (by decide) (ca rfl ca_nil) (fun v122 H123 f124 r125 s126 => ?_)
    have h127 : Ints H123 v122 [(z118 - (2 : Int))] := litInts (xs := [(z118 - (2 : Int))]) (by simpa using s126)
    refine kl_fdV rfl (kl_stB rfl rfl rfl (Sl.oneCell (by assumption)) (Sl.cells (by assumption)) ?_)
    refine kl_chg [sing br (.cells [vbr, .int .i64 (q116 : Int)].toArray 92 (0, 0)), H108, sing b37 (.cells [.int .i64 (5 : Int), v99, v122, .int .i64 (0 : Int), .slice none 0 0].toArray 76 (0, 0)), H34, sing b1 (.cells [.int .i64 (0 : Int), .slice none 0 0, .slice none 0 0, .int .i64 (0 : Int), .slice none 0 0].toArray 76 (0, 0))] rfl ?_
    refine kl_nil (kq_code (kc_seq (kc_region (kl_ldW rfl rfl (kl_stW (us := [.int .i64 (5 : Int), v99, v122, .int .i64 (0 : Int), .slice none 0 0]) rfl rfl rfl rfl (oc rfl (oc (OwnL.oneCell (by assumption)) (oc (Sl.oneCell (by assumption)) (oc rfl (oc rfl oc_nil))))) rfl ?_)))))
    refine kl_chg [sing br (.cells [vbr, .int .i64 (q116 : Int)].toArray 92 (0, 0)), H108, sing b37 (.cells [.int .i64 (5 : Int), v99, v122, .int .i64 (0 : Int), .slice none 0 0].toArray 76 (0, 0)), H34, sing b1 (.cells [.int .i64 (5 : Int), v99, v122, .int .i64 (0 : Int), .slice none 0 0].toArray 76 (0, 0))] rfl ?_
    refine kl_nil (kq_code (kc_ret (kq_frz H108 ?_)))
    refine kq_cmp H123 noHp (fun c128 => ?_)
    refine kq_cmp H108 (orHp H123 noHp) (fun c129 => ?_)
    exact kq_retTC rfl rfl rfl [sing br (.cells [vbr, .int .i64 (q116 : Int)].toArray 92 (0, 0))] [] (orHp H108 (orHp H123 noHp)) frn (fr_or f110 (fr_or f124 (fr_no _))) ⟨q116, by omega, rfl, ⟨(5 : Int), z106, ([(z118 - (2 : Int))]), (0 : Int), []⟩, rfl, ⟨_, rfl, _, _, _, rfl, (Sl.mono (OwnL.ints o109) (fun b o h => orL b o h) (fun _ _ h => h)), (Sl.mono (by assumption) (fun b o h => orC c129 b o (orL b o h)) (fun _ _ h => h)), (Sl.mono Sl.nil (fun b o h => orC c129 b o (orC c128 b o h)) (fun _ _ h => h))⟩, by (constructor <;> dsimp only <;> first | omega | exact all_nil | assumption | (simp; done) | (simp; omega) | (simp only [List.length_cons, List.length_nil]; omega))⟩
   ·skip
    refine kc_seq (kc_region (kl_eql rfl rfl ?_))
    refine kl_as rfl (kl_nil (kq_code (kc_if rfl (fun c130 => ?_) (fun c130 => ?_))))
    ·skip
     refine kc_seq (kc_region (kl_mv rfl (kl_mv rfl (kl_callT rfl rfl (someVars_ok q30 n (2 : Int) (by first | assumption | omega) (by first | assumption | omega) (by omega) hr) (fun v131 L1 Ln K135 h132 f133 f134 => ?_)))))
     obtain ⟨q136, h137, rfl, H140, z138, rfl, o141, h139⟩ := h132
     have f142 := f133 _ (.head _)
     refine kl_norm ?_
     refine kl_fdV rfl (kl_stB rfl rfl rfl (OwnL.oneCell (by assumption)) (OwnL.cells (by assumption)) ?_)
     refine kl_chg [sing br (.cells [vbr, .int .i64 (q136 : Int)].toArray 92 (0, 0)), H140, sing b37 (.cells [.int .i64 (5 : Int), v131, .slice none 0 0, .int .i64 (0 : Int), .slice none 0 0].toArray 76 (0, 0)), H34, sing b1 (.cells [.int .i64 (0 : Int), .slice none 0 0, .slice none 0 0, .int .i64 (0 : Int), .slice none 0 0].toArray 76 (0, 0))] rfl ?_
     refine kl_nil (kq_code (kc_region (kl_mv rfl (kl_mv rfl (kl_callT rfl rfl (pick_ok q136 (6 : Int) (by omega) hr) (fun v143 L1 Ln K147 h144 f145 f146 => ?_))))))
     obtain ⟨q148, h149, rfl, rfl, z150, rfl, h151⟩ := h144
     refine kl_norm ?_
     refine kl_add rfl rfl (by omega) ?_
     refine kl_callT rfl rfl (randomRow_ok q148 ((1 : Int) + z150) (by first | assumption | omega) (by omega) hr) (fun v154 L1 Ln K158 h155 f156 f157 => ?_)
     obtain ⟨q159, h160, rfl, H163, z161, rfl, o164, h162⟩ := h155
     have f165 := f156 _ (.head _)
     refine kl_norm ?_
     refine kl_fdV rfl (kl_stB rfl rfl rfl (OwnL.oneCell (by assumption)) (OwnL.cells (by assumption)) ?_)
     refine kl_chg [sing br (.cells [vbr, .int .i64 (q159 : Int)].toArray 92 (0, 0)), H163, H140, sing b37 (.cells [.int .i64 (5 : Int), v131, v154, .int .i64 (0 : Int), .slice none 0 0].toArray 76 (0, 0)), H34, sing b1 (.cells [.int .i64 (0 : Int), .slice none 0 0, .slice none 0 0, .int .i64 (0 : Int), .slice none 0 0].toArray 76 (0, 0))] rfl ?_
     refine kl_nil (kq_code (kc_seq (kc_region (kl_ldW rfl rfl (kl_stW (us := [.int .i64 (5 : Int), v131, v154, .int .i64 (0 : Int), .slice none 0 0]) rfl rfl rfl rfl (oc rfl (oc (OwnL.oneCell (by assumption)) (oc (OwnL.oneCell (by assumption)) (oc rfl (oc rfl oc_nil))))) rfl ?_)))))
     refine kl_chg [sing br (.cells [vbr, .int .i64 (q159 : Int)].toArray 92 (0, 0)), H163, H140, sing b37 (.cells [.int .i64 (5 : Int), v131, v154, .int .i64 (0 : Int), .slice none 0 0].toArray 76 (0, 0)), H34, sing b1 (.cells [.int .i64 (5 : Int), v131, v154, .int .i64 (0 : Int), .slice none 0 0].toArray 76 (0, 0))] rfl ?_
     refine kl_nil (kq_code (kc_ret (kq_frz H140 ?_)))
     refine kq_frz H163 ?_
     refine kq_cmp H163 noHp (fun c166 => ?_)
     refine kq_cmp H140 (orHp H163 noHp) (fun c167 => ?_)
     exact kq_retTC rfl rfl rfl [sing br (.cells [vbr, .int .i64 (q159 : Int)].toArray 92 (0, 0))] [] (orHp H140 (orHp H163 noHp)) frn (fr_or f142 (fr_or f165 (fr_no _))) ⟨q159, by omega, rfl, ⟨(5 : Int), z138, z161, (0 : Int), []⟩, rfl, ⟨_, rfl, _, _, _, rfl, (Sl.mono (OwnL.ints o141) (fun b o h => orL b o h) (fun _ _ h => h)), (Sl.mono (OwnL.ints o164) (fun b o h => orC c167 b o (orL b o h)) (fun _ _ h => h)), (Sl.mono Sl.nil (fun b o h => orC c167 b o (orC c166 b o h)) (fun _ _ h => h))⟩, by (constructor <;> dsimp only <;> first | omega | exact all_nil | assumption | (simp; done) | (simp; omega) | (simp only [List.length_cons, List.length_nil]; omega))⟩
    ·skip
     refine kc_seq (kc_region (kl_eql rfl rfl ?_))
     refine kl_as rfl (kl_nil (kq_code (kc_if rfl (fun c168 => ?_) (fun c168 => ?_))))
     ·skip
      refine kc_seq (kc_region (kl_mv rfl (kl_callT rfl rfl (pick_ok q30 (6 : Int) (by omega) hr) (fun v169 L1 Ln K173 h170 f171 f172 => ?_))))
      obtain ⟨q174, h175, rfl, rfl, z176, rfl, h177⟩ := h170
      refine kl_norm ?_
      refine kl_add rfl rfl (by omega) ?_
      refine kl_as rfl (kl_nil (kq_code (kc_block (kc_no ?_))))
      refine kc_loopK (A := Int × List (List Int) × Value × Hp × Hp × Nat) (fun zz => (0 ≤ zz.1 ∧ zz.1 ≤ 6 ∧ zz.2.1.length + zz.1.toNat ≤ 6 ∧ ∀ r ∈ zz.2.1, r.length ≤ 12) ∧ Fr B zz.2.2.2.2.1 ∧ OwnL 22 1 zz.2.2.2.1 zz.2.2.2.2.1 RowV zz.2.2.1 zz.2.1 ∧ Fr B zz.2.2.2.1 ∧ zz.2.2.2.2.2 ≤ q174 + 12 * (6 - zz.1).toNat) (fun zz => zz.1.toNat) (fun zz => zz.2.2.2.2.1) (fun zz => [zz.2.2.2.1, sing br (.cells [vbr, .int .i64 (zz.2.2.2.2.2 : Int)].toArray 92 (0, 0)), sing b37 (.cells [.int .i64 (5 : Int), v25, .slice none 0 0, .int .i64 (0 : Int), zz.2.2.1].toArray 76 (0, 0)), H34, sing b1 (.cells [.int .i64 (0 : Int), .slice none 0 0, .slice none 0 0, .int .i64 (0 : Int), .slice none 0 0].toArray 76 (0, 0))]) (fun zz => [(8, .int .i64 zz.1)]) (((1 : Int) + z176), [], .slice none 0 0, noHp, noHp, q174) (pc 0 rfl (pc 4 rfl (pc 5 rfl (pc 6 rfl pn)))) (pc 8 rfl pn) rfl ⟨⟨by dsimp only; omega, by dsimp only; omega, by dsimp only; simp; omega, all_nil⟩, (fr_no _), OwnL.nil, (fr_no _), (by first | omega | (dsimp only; omega))⟩ ?_
      rintro ⟨i, out, v185, H182, K186, q189⟩ hJ191
      obtain ⟨hi181, f187, o183, f184, hq190⟩ : (0 ≤ i ∧ i ≤ 6 ∧ out.length + i.toNat ≤ 6 ∧ ∀ r ∈ out, r.length ≤ 12) ∧ Fr B K186 ∧ OwnL 22 1 H182 K186 RowV v185 out ∧ Fr B H182 ∧ q189 ≤ q174 + 12 * (6 - i).toNat := hJ191
      change KC _ _ (K186 :: _) [H182, sing br (.cells [vbr, .int .i64 (q189 : Int)].toArray 92 (0, 0)), sing b37 (.cells [.int .i64 (5 : Int), v25, .slice none 0 0, .int .i64 (0 : Int), v185].toArray 76 (0, 0)), H34, sing b1 (.cells [.int .i64 (0 : Int), .slice none 0 0, .slice none 0 0, .int .i64 (0 : Int), .slice none 0 0].toArray 76 (0, 0))] _ ([(8, .int .i64 i)] ++ _)
      have hall := hi181.2.2.2
      refine kc_seq (kc_seq (kc_region (kl_mv rfl (kl_gtr rfl rfl ?_))))
      refine kl_nil (kq_code (kc_if rfl (fun c192 => ?_) (fun c192 => ?_)))
      ·skip
       refine kc_skipQ (kq_code (kc_seq (kc_block (kc_tree (fun i => ([6, 8] : List Nat).contains i) [sing b37 (.cells [.int .i64 (5 : Int), v25, .slice none 0 0, .int .i64 (0 : Int), v185].toArray 76 (0, 0))] (by kernel_rfl) ?_))))
       refine kt_q 0 (.cons _ (.cons _ (.cons_cons _ (List.nil_sublist _)))) rfl (by kernel_rfl) (kl_fdV rfl (kl_nil (kq_q (kt_q 1 (.cons _ (.cons _ (.cons_cons _ (List.nil_sublist _)))) rfl (by kernel_rfl) (kl_ld rfl (at_box (T := 76) (cs := [.int .i64 (5 : Int), v25, .slice none 0 0, .int .i64 (0 : Int), v185]) (off := 4) (fz := (0, 0))) (kl_nil (kq_q (kt_q 2 (.cons _ (.cons _ (.cons_cons _ (List.nil_sublist _)))) rfl (by kernel_rfl) ?_))))))))
       refine kl_mv rfl (kl_nil (kq_q (kt_q 3 (.cons _ (.cons _ (.cons_cons _ (List.nil_sublist _)))) rfl (by kernel_rfl) (kl_mv rfl (kl_nil (kq_q (kt_a 4 rfl (by kernel_rfl) (kl_callT rfl rfl (randomRow_ok q189 (z32.length : Int) (by first | assumption | omega) (by omega) hr) (fun v193 L1 Ln K197 h194 f195 f196 => ?_)))))))))
       obtain ⟨q198, h199, rfl, H202, z200, rfl, o203, h201⟩ := h194
       have f204 := f195 _ (.head _)
       refine kl_norm ?_
       refine kl_nil (kq_a (.cons _ (.cons _ (.cons _ (.cons_cons _ (List.nil_sublist _))))) (kt_a 5 rfl (by kernel_rfl) (kl_bs rfl rfl rfl (by decide) (ca (by first | exact Sl.cells (by assumption) | exact OwnL.cells (by assumption)) ca_nil) (fun v205 H206 f207 r208 s209 => ?_))))
       refine kl_nil (kq_a (.cons _ (.cons _ (.cons _ (.cons_cons _ (List.nil_sublist _))))) (kt_frz H202 ?_))
       have h210 := OwnL.ints o203
       refine kt_a 6 rfl (by kernel_rfl) (kl_cmp K186 H202 (fun c211 => ?_))
       have o212 := OwnL.mono (K' := orHp K186 H202) o183 orL
       refine kl_apL z200 rfl rfl o212 (by assumption) ⟨_, rfl, Sl.mono (by assumption) (orC c211) (fun _ _ h => h)⟩ (oc (Sl.oneCell (by assumption)) oc_nil) (by omega) (by decide) (fun v213 H214 o215 f216 => ?_)
       have f217 := f216 B f184 (Nat.le_refl _)
       refine kl_nil (kq_x rfl (kt_q 7 (.cons _ (.cons _ (.cons_cons _ (List.nil_sublist _)))) rfl (by kernel_rfl) (kl_fdV rfl (kl_nil (kq_q (kt_a 8 rfl (by kernel_rfl) (kl_stB rfl rfl rfl (OwnL.oneCell (by assumption)) (OwnL.cells (by assumption)) ?_)))))))
       refine kl_chg [sing br (.cells [vbr, .int .i64 (q198 : Int)].toArray 92 (0, 0)), H214, sing b37 (.cells [.int .i64 (5 : Int), v25, .slice none 0 0, .int .i64 (0 : Int), v213].toArray 76 (0, 0)), H34, sing b1 (.cells [.int .i64 (0 : Int), .slice none 0 0, .slice none 0 0, .int .i64 (0 : Int), .slice none 0 0].toArray 76 (0, 0))] rfl ?_
       refine kl_nil (kq_x rfl (kt_end (by kernel_rfl) ?_))
       refine kq_code (kc_region (kl_mv rfl (kl_sub rfl rfl (by omega) ?_)))
       refine kl_as rfl (kl_nil (kq_take [H214, sing br (.cells [vbr, .int .i64 (q198 : Int)].toArray 92 (0, 0)), sing b37 (.cells [.int .i64 (5 : Int), v25, .slice none 0 0, .int .i64 (0 : Int), v213].toArray 76 (0, 0)), H34, sing b1 (.cells [.int .i64 (0 : Int), .slice none 0 0, .slice none 0 0, .int .i64 (0 : Int), .slice none 0 0].toArray 76 (0, 0))] ?_))
       refine kq_roundK ((i - (1 : Int)), (out ++ [z200]), v213, H214, (orHp K186 H202), q198) (by (dsimp only; omega)) (⟨⟨by dsimp only; omega, by dsimp only; omega, by simp; omega, all_snoc hi181.2.2.2 (by omega)⟩, (fr_or f187 f204), o215, f217, (by first | omega | (dsimp only; omega))⟩) (pc 8 rfl pn) (pc 0 rfl (pc 4 rfl (pc 5 rfl (pc 6 rfl pn)))) rfl (List.Sublist.refl _)
      ·skip
       refine kc_exit (kq_code (kc_seq (kc_region (kl_ldW rfl rfl (kl_stW (us := [.int .i64 (5 : Int), v25, .slice none 0 0, .int .i64 (0 : Int), v185]) rfl rfl rfl rfl (oc rfl (oc (OwnL.oneCell (by assumption)) (oc rfl (oc rfl (oc (OwnL.oneCell (by assumption)) oc_nil))))) rfl ?_)))))
       refine kl_chg [H182, sing br (.cells [vbr, .int .i64 (q189 : Int)].toArray 92 (0, 0)), sing b37 (.cells [.int .i64 (5 : Int), v25, .slice none 0 0, .int .i64 (0 : Int), v185].toArray 76 (0, 0)), H34, sing b1 (.cells [.int .i64 (5 : Int), v25, .slice none 0 0, .int .i64 (0 : Int), v185].toArray 76 (0, 0))] rfl ?_
       refine kl_nil (kq_code (kc_ret (kq_frz H34 ?_)))
       refine kq_frz H182 ?_
       refine kq_cmp H182 K186 (fun c218 => ?_)
       refine kq_cmp noHp (orHp H182 K186) (fun c219 => ?_)
       refine kq_cmp H34 (orHp noHp (orHp H182 K186)) (fun c220 => ?_)
       exact kq_retTC rfl rfl rfl [sing br (.cells [vbr, .int .i64 (q189 : Int)].toArray 92 (0, 0))] [] (orHp H34 (orHp noHp (orHp H182 K186))) frn (fr_or f36 (fr_or (fr_no _) (fr_or f184 f187))) ⟨q189, by omega, rfl, ⟨(5 : Int), z32, [], (0 : Int), out⟩, rfl, ⟨_, rfl, _, _, _, rfl, (Sl.mono (OwnL.ints o35) (fun b o h => orL b o h) (fun _ _ h => h)), (Sl.mono Sl.nil (fun b o h => orC c220 b o (orL b o h)) (fun _ _ h => h)), (Rows.mono' (OwnL.rowsK o183 c218) (fun b o h => orC c220 b o (orC c219 b o h)))⟩, by (constructor <;> dsimp only <;> first | omega | exact all_nil | assumption | (simp; done) | (simp; omega) | (simp only [List.length_cons, List.length_nil]; omega))⟩
     ·skip
      refine kc_seq (kc_region (kl_eql rfl rfl ?_))
      refine kl_as rfl (kl_nil (kq_code (kc_if rfl (fun c221 => ?_) (fun c221 => ?_))))
      ·skip
       refine kc_seq (kc_region (kl_mv rfl (kl_callT rfl rfl (pick_ok q30 (6 : Int) (by omega) hr) (fun v222 L1 Ln K226 h223 f224 f225 => ?_))))
       obtain ⟨q227, h228, rfl, rfl, z229, rfl, h230⟩ := h223
       refine kl_norm ?_
       refine kl_bs rfl rfl rfl (by decide) (ca rfl ca_nil) (fun v233 H234 f235 r236 s237 => ?_)
       have h238 : Ints H234 v233 [z229] := litInts (xs := [z229]) (by simpa using s237)
       refine kl_fdV rfl (kl_stB rfl rfl rfl (Sl.oneCell (by assumption)) (Sl.cells (by assumption)) ?_)
       refine kl_chg [sing br (.cells [vbr, .int .i64 (q227 : Int)].toArray 92 (0, 0)), sing b37 (.cells [.int .i64 (5 : Int), v25, v233, .int .i64 (0 : Int), .slice none 0 0].toArray 76 (0, 0)), H34, sing b1 (.cells [.int .i64 (0 : Int), .slice none 0 0, .slice none 0 0, .int .i64 (0 : Int), .slice none 0 0].toArray 76 (0, 0))] rfl ?_
       refine kl_nil (kq_code (kc_region (kl_mv rfl (kl_callT rfl rfl (pick_ok q227 (4 : Int) (by omega) hr) (fun v239 L1 Ln K243 h240 f241 f242 => ?_)))))
       obtain ⟨q244, h245, rfl, rfl, z246, rfl, h247⟩ := h240
       refine kl_norm ?_
       refine kl_fdV rfl (kl_stB rfl rfl rfl rfl rfl ?_)
       refine kl_chg [sing br (.cells [vbr, .int .i64 (q244 : Int)].toArray 92 (0, 0)), sing b37 (.cells [.int .i64 (5 : Int), v25, v233, .int .i64 z246, .slice none 0 0].toArray 76 (0, 0)), H34, sing b1 (.cells [.int .i64 (0 : Int), .slice none 0 0, .slice none 0 0, .int .i64 (0 : Int), .slice none 0 0].toArray 76 (0, 0))] rfl ?_
       refine kl_nil (kq_code (kc_seq (kc_region (kl_ldW rfl rfl (kl_stW (us := [.int .i64 (5 : Int), v25, v233, .int .i64 z246, .slice none 0 0]) rfl rfl rfl rfl (oc rfl (oc (OwnL.oneCell (by assumption)) (oc (Sl.oneCell (by assumption)) (oc rfl (oc rfl oc_nil))))) rfl ?_)))))
       refine kl_chg [sing br (.cells [vbr, .int .i64 (q244 : Int)].toArray 92 (0, 0)), sing b37 (.cells [.int .i64 (5 : Int), v25, v233, .int .i64 z246, .slice none 0 0].toArray 76 (0, 0)), H34, sing b1 (.cells [.int .i64 (5 : Int), v25, v233, .int .i64 z246, .slice none 0 0].toArray 76 (0, 0))] rfl ?_
       refine kl_nil (kq_code (kc_ret (kq_frz H34 ?_)))
       refine kq_cmp H234 noHp (fun c250 => ?_)
       refine kq_cmp H34 (orHp H234 noHp) (fun c251 => ?_)
       exact kq_retTC rfl rfl rfl [sing br (.cells [vbr, .int .i64 (q244 : Int)].toArray 92 (0, 0))] [] (orHp H34 (orHp H234 noHp)) frn (fr_or f36 (fr_or f235 (fr_no _))) ⟨q244, by omega, rfl, ⟨(5 : Int), z32, ([z229]), z246, []⟩, rfl, ⟨_, rfl, _, _, _, rfl, (Sl.mono (OwnL.ints o35) (fun b o h => orL b o h) (fun _ _ h => h)), (Sl.mono (by assumption) (fun b o h => orC c251 b o (orL b o h)) (fun _ _ h => h)), (Sl.mono Sl.nil (fun b o h => orC c251 b o (orC c250 b o h)) (fun _ _ h => h))⟩, by (constructor <;> dsimp only <;> first | omega | exact all_nil | assumption | (simp; done) | (simp; omega) | (simp only [List.length_cons, List.length_nil]; omega))⟩
      ·skip
       refine kc_seq (kc_region (kl_eql rfl rfl ?_))
       refine kl_as rfl (kl_nil (kq_code (kc_if rfl (fun c252 => ?_) (fun c252 => ?_))))
       ·skip
        refine kc_seq (kc_seq (kc_region (kl_as rfl (kl_nil (kq_code (kc_block (kc_no ?_)))))))
        refine kc_loopL (A := Nat × List Int × Value × Hp × Nat) (fun zz => (zz.1 ≤ 8) ∧ (zz.2.1.length = zz.1) ∧ OwnL 3 1 zz.2.2.2.1 noHp IntV zz.2.2.1 zz.2.1 ∧ Fr B zz.2.2.2.1 ∧ zz.2.2.2.2 ≤ q30 + zz.1) (fun zz => 8 - zz.1) (fun zz => [zz.2.2.2.1, sing b37 (.cells [.int .i64 (5 : Int), v25, zz.2.2.1, .int .i64 (0 : Int), .slice none 0 0].toArray 76 (0, 0)), sing br (.cells [vbr, .int .i64 (zz.2.2.2.2 : Int)].toArray 92 (0, 0)), H34, sing b1 (.cells [.int .i64 (0 : Int), .slice none 0 0, .slice none 0 0, .int .i64 (0 : Int), .slice none 0 0].toArray 76 (0, 0))]) (fun zz => [(9, .int .i64 (zz.1 : Int))]) (0, [], .slice none 0 0, noHp, q30) (pc 0 rfl (pc 4 rfl (pc 5 rfl (pc 6 rfl pn)))) (pc 9 rfl pn) rfl ⟨Nat.zero_le _, rfl, OwnL.nil, (fr_no _), (by first | omega | (dsimp only; omega))⟩ ?_
        rintro ⟨i, out, v258, H255, q260⟩ hJ262
        obtain ⟨hk253, hi254, o256, f257, hq261⟩ : (i ≤ 8) ∧ (out.length = i) ∧ OwnL 3 1 H255 noHp IntV v258 out ∧ Fr B H255 ∧ q260 ≤ q30 + i := hJ262
        change KC _ _ (_) [H255, sing b37 (.cells [.int .i64 (5 : Int), v25, v258, .int .i64 (0 : Int), .slice none 0 0].toArray 76 (0, 0)), sing br (.cells [vbr, .int .i64 (q260 : Int)].toArray 92 (0, 0)), H34, sing b1 (.cells [.int .i64 (0 : Int), .slice none 0 0, .slice none 0 0, .int .i64 (0 : Int), .slice none 0 0].toArray 76 (0, 0))] _ ([(9, .int .i64 (i : Int))] ++ _)
        refine kc_seq (kc_seq (kc_region (kl_mv rfl (kl_mv rfl (kl_mul rfl rfl (by omega) ?_)))))
        refine kl_lss rfl rfl ?_
        refine kl_nil (kq_code (kc_if rfl (fun c263 => ?_) (fun c263 => ?_)))
        ·skip
         refine kc_skipQ (kq_code (kc_seq (kc_block (kc_tree (fun i => ([5, 7] : List Nat).contains i) [sing b37 (.cells [.int .i64 (5 : Int), v25, v258, .int .i64 (0 : Int), .slice none 0 0].toArray 76 (0, 0))] (by kernel_rfl) ?_))))
         refine kt_q 0 (.cons _ (.cons_cons _ (List.nil_sublist _))) rfl (by kernel_rfl) (kl_fdV rfl (kl_nil (kq_q (kt_q 1 (.cons _ (.cons_cons _ (List.nil_sublist _))) rfl (by kernel_rfl) (kl_ld rfl (at_box (T := 76) (cs := [.int .i64 (5 : Int), v25, v258, .int .i64 (0 : Int), .slice none 0 0]) (off := 2) (fz := (0, 0))) (kl_nil (kq_q (kt_q 2 (.cons _ (.cons_cons _ (List.nil_sublist _))) rfl (by kernel_rfl) ?_))))))))
         refine kl_mv rfl (kl_nil (kq_q (kt_a 3 rfl (by kernel_rfl) (kl_callT rfl rfl (pick_ok q260 (4 : Int) (by omega) hr) (fun v264 L1 Ln K268 h265 f266 f267 => ?_)))))
         obtain ⟨q269, h270, rfl, rfl, z271, rfl, h272⟩ := h265
         refine kl_norm ?_
         refine kl_nil (kq_a (.cons _ (.cons _ (.cons_cons _ (List.nil_sublist _)))) (kt_a 4 rfl (by kernel_rfl) (kl_bs rfl rfl rfl (by decide) (ca rfl ca_nil) (fun v275 H276 f277 r278 s279 => ?_))))
         have h280 : Ints H276 v275 [z271] := litInts (xs := [z271]) (by simpa using s279)
         refine kl_nil (kq_a (.cons _ (.cons _ (.cons_cons _ (List.nil_sublist _)))) (kt_a 5 rfl (by kernel_rfl) (kl_apL z271 rfl rfl o256 (by assumption) rfl (oc rfl oc_nil) (by omega) (by decide) (fun v281 H282 o283 f284 => ?_))))
         have f285 := f284 B f257 (Nat.le_refl _)
         refine kl_nil (kq_x rfl (kt_q 6 (.cons _ (.cons _ (.cons_cons _ (List.nil_sublist _)))) rfl (by kernel_rfl) (kl_fdV rfl (kl_nil (kq_q (kt_a 7 rfl (by kernel_rfl) (kl_stB rfl rfl rfl (OwnL.oneCell (by assumption)) (OwnL.cells (by assumption)) ?_)))))))
         refine kl_chg [sing br (.cells [vbr, .int .i64 (q269 : Int)].toArray 92 (0, 0)), H282, sing b37 (.cells [.int .i64 (5 : Int), v25, v281, .int .i64 (0 : Int), .slice none 0 0].toArray 76 (0, 0)), H34, sing b1 (.cells [.int .i64 (0 : Int), .slice none 0 0, .slice none 0 0, .int .i64 (0 : Int), .slice none 0 0].toArray 76 (0, 0))] rfl ?_
         refine kl_nil (kq_x rfl (kt_end (by kernel_rfl) ?_))
         refine kq_code (kc_region (kl_mv rfl (kl_inc rfl rfl (by omega) ?_)))
         refine kl_as rfl (kl_nil (kq_take [H282, sing b37 (.cells [.int .i64 (5 : Int), v25, v281, .int .i64 (0 : Int), .slice none 0 0].toArray 76 (0, 0)), sing br (.cells [vbr, .int .i64 (q269 : Int)].toArray 92 (0, 0)), H34, sing b1 (.cells [.int .i64 (0 : Int), .slice none 0 0, .slice none 0 0, .int .i64 (0 : Int), .slice none 0 0].toArray 76 (0, 0))] ?_))
         refine kq_roundL ((i + 1), (out ++ [z271]), v281, H282, q269) (by omega) (⟨by omega, (by simp; omega), o283, f285, (by first | omega | (dsimp only; omega))⟩) (pc 9 rfl pn) (pc 0 rfl (pc 4 rfl (pc 5 rfl (pc 6 rfl pn)))) rfl (List.Sublist.refl _)
        ·skip
         refine kc_exit (kq_code (kc_region (kl_mv rfl (kl_callT rfl rfl (pick_ok q260 (4 : Int) (by omega) hr) (fun v286 L1 Ln K290 h287 f288 f289 => ?_)))))
         obtain ⟨q291, h292, rfl, rfl, z293, rfl, h294⟩ := h287
         refine kl_norm ?_
         refine kl_add rfl rfl (by omega) ?_
         refine kl_fdV rfl (kl_stB rfl rfl rfl rfl rfl ?_)
         refine kl_chg [sing br (.cells [vbr, .int .i64 (q291 : Int)].toArray 92 (0, 0)), H255, sing b37 (.cells [.int .i64 (5 : Int), v25, v258, .int .i64 ((1 : Int) + z293), .slice none 0 0].toArray 76 (0, 0)), H34, sing b1 (.cells [.int .i64 (0 : Int), .slice none 0 0, .slice none 0 0, .int .i64 (0 : Int), .slice none 0 0].toArray 76 (0, 0))] rfl ?_
         refine kl_nil (kq_code (kc_seq (kc_region (kl_ldW rfl rfl (kl_stW (us := [.int .i64 (5 : Int), v25, v258, .int .i64 ((1 : Int) + z293), .slice none 0 0]) rfl rfl rfl rfl (oc rfl (oc (OwnL.oneCell (by assumption)) (oc (OwnL.oneCell (by assumption)) (oc rfl (oc rfl oc_nil))))) rfl ?_)))))
         refine kl_chg [sing br (.cells [vbr, .int .i64 (q291 : Int)].toArray 92 (0, 0)), H255, sing b37 (.cells [.int .i64 (5 : Int), v25, v258, .int .i64 ((1 : Int) + z293), .slice none 0 0].toArray 76 (0, 0)), H34, sing b1 (.cells [.int .i64 (5 : Int), v25, v258, .int .i64 ((1 : Int) + z293), .slice none 0 0].toArray 76 (0, 0))] rfl ?_
         refine kl_nil (kq_code (kc_ret (kq_frz H34 ?_)))
         refine kq_frz H255 ?_
         refine kq_cmp H255 noHp (fun c297 => ?_)
         refine kq_cmp H34 (orHp H255 noHp) (fun c298 => ?_)
         exact kq_retTC rfl rfl rfl [sing br (.cells [vbr, .int .i64 (q291 : Int)].toArray 92 (0, 0))] [] (orHp H34 (orHp H255 noHp)) frn (fr_or f36 (fr_or f257 (fr_no _))) ⟨q291, by omega, rfl, ⟨(5 : Int), z32, out, ((1 : Int) + z293), []⟩, rfl, ⟨_, rfl, _, _, _, rfl, (Sl.mono (OwnL.ints o35) (fun b o h => orL b o h) (fun _ _ h => h)), (Sl.mono (OwnL.ints o256) (fun b o h => orC c298 b o (orL b o h)) (fun _ _ h => h)), (Sl.mono Sl.nil (fun b o h => orC c298 b o (orC c297 b o h)) (fun _ _ h => h))⟩, by (constructor <;> dsimp only <;> first | omega | exact all_nil | assumption | (simp; done) | (simp; omega) | (simp only [List.length_cons, List.length_nil]; omega))⟩
       ·skip
        refine kc_seq (kc_region (kl_eql rfl rfl ?_))
        refine kl_as rfl (kl_nil (kq_code (kc_if rfl (fun c299 => ?_) (fun c299 => ?_))))
        ·skip
         refine kc_seq (kc_region (kl_mv rfl (kl_mv rfl (kl_callT rfl rfl (pick_ok q30 (3 : Int) (by omega) hr) (fun v300 L1 Ln K304 h301 f302 f303 => ?_)))))
         obtain ⟨q305, h306, rfl, rfl, z307, rfl, h308⟩ := h301
         refine kl_norm ?_
         refine kl_add rfl rfl (by omega) ?_
         refine kl_callT rfl rfl (randomAutomaton_ok q305 ((1 : Int) + z307) (by first | assumption | omega) (by omega) hr) (fun v311 L1 Ln K315 h312 f313 f314 => ?_)
         obtain ⟨q316, h317, rfl, H320, z318, rfl, o321, h319⟩ := h312
         have f322 := f313 _ (.head _)
         have h319a := h319.1
         have h319b := h319.2
         refine kl_norm ?_
         refine kl_fdV rfl (kl_stB rfl rfl rfl (OwnL.oneCell (by assumption)) (OwnL.cells (by assumption)) ?_)
         refine kl_chg [sing br (.cells [vbr, .int .i64 (q316 : Int)].toArray 92 (0, 0)), H320, sing b37 (.cells [.int .i64 (5 : Int), v25, .slice none 0 0, .int .i64 (0 : Int), v311].toArray 76 (0, 0)), H34, sing b1 (.cells [.int .i64 (0 : Int), .slice none 0 0, .slice none 0 0, .int .i64 (0 : Int), .slice none 0 0].toArray 76 (0, 0))] rfl ?_
         refine kl_nil (kq_code (kc_region (kl_fdV rfl (kl_ldB rfl rfl (kl_lenL rfl o321 (fun l323 => ?_))))))
         refine kl_sub rfl rfl (by omega) ?_
         refine kl_bs rfl rfl rfl (by decide) (ca rfl ca_nil) (fun v324 H325 f326 r327 s328 => ?_)
         have h329 : Ints H325 v324 [((z318.length : Int) - (1 : Int))] := litInts (xs := [((z318.length : Int) - (1 : Int))]) (by simpa using s328)
         refine kl_fdV rfl (kl_stB rfl rfl rfl (Sl.oneCell (by assumption)) (Sl.cells (by assumption)) ?_)
         refine kl_chg [sing br (.cells [vbr, .int .i64 (q316 : Int)].toArray 92 (0, 0)), H320, sing b37 (.cells [.int .i64 (5 : Int), v25, v324, .int .i64 (0 : Int), v311].toArray 76 (0, 0)), H34, sing b1 (.cells [.int .i64 (0 : Int), .slice none 0 0, .slice none 0 0, .int .i64 (0 : Int), .slice none 0 0].toArray 76 (0, 0))] rfl ?_
         refine kl_nil (kq_code (kc_seq (kc_region (kl_ldW rfl rfl (kl_stW (us := [.int .i64 (5 : Int), v25, v324, .int .i64 (0 : Int), v311]) rfl rfl rfl rfl (oc rfl (oc (OwnL.oneCell (by assumption)) (oc (Sl.oneCell (by assumption)) (oc rfl (oc (OwnL.oneCell (by assumption)) oc_nil))))) rfl ?_)))))
         refine kl_chg [sing br (.cells [vbr, .int .i64 (q316 : Int)].toArray 92 (0, 0)), H320, sing b37 (.cells [.int .i64 (5 : Int), v25, v324, .int .i64 (0 : Int), v311].toArray 76 (0, 0)), H34, sing b1 (.cells [.int .i64 (5 : Int), v25, v324, .int .i64 (0 : Int), v311].toArray 76 (0, 0))] rfl ?_
         refine kl_nil (kq_code (kc_ret (kq_frz H34 ?_)))
         refine kq_frz H320 ?_
         refine kq_cmp H320 K315 (fun c330 => ?_)
         refine kq_cmp H325 (orHp H320 K315) (fun c331 => ?_)
         refine kq_cmp H34 (orHp H325 (orHp H320 K315)) (fun c332 => ?_)
         exact kq_retTC rfl rfl rfl [sing br (.cells [vbr, .int .i64 (q316 : Int)].toArray 92 (0, 0))] [] (orHp H34 (orHp H325 (orHp H320 K315))) frn (fr_or f36 (fr_or f326 (fr_or f322 f314))) ⟨q316, by omega, rfl, ⟨(5 : Int), z32, ([((z318.length : Int) - (1 : Int))]), (0 : Int), z318⟩, rfl, ⟨_, rfl, _, _, _, rfl, (Sl.mono (OwnL.ints o35) (fun b o h => orL b o h) (fun _ _ h => h)), (Sl.mono (by assumption) (fun b o h => orC c332 b o (orL b o h)) (fun _ _ h => h)), (Rows.mono' (OwnL.rowsK o321 c330) (fun b o h => orC c332 b o (orC c331 b o h)))⟩, by (constructor <;> dsimp only <;> first | omega | exact all_nil | assumption | (simp; done) | (simp; omega) | (simp only [List.length_cons, List.length_nil]; omega))⟩
        ·skip
         refine kc_skipQ (kq_code (kc_seq (kc_region (kl_ldW rfl rfl (kl_stW (us := [.int .i64 (5 : Int), v25, .slice none 0 0, .int .i64 (0 : Int), .slice none 0 0]) rfl rfl rfl rfl (oc rfl (oc (OwnL.oneCell (by assumption)) (oc rfl (oc rfl (oc rfl oc_nil))))) rfl ?_)))))
         refine kl_chg [sing b37 (.cells [.int .i64 (5 : Int), v25, .slice none 0 0, .int .i64 (0 : Int), .slice none 0 0].toArray 76 (0, 0)), sing br (.cells [vbr, .int .i64 (q30 : Int)].toArray 92 (0, 0)), H34, sing b1 (.cells [.int .i64 (5 : Int), v25, .slice none 0 0, .int .i64 (0 : Int), .slice none 0 0].toArray 76 (0, 0))] rfl ?_
         refine kl_nil (kq_code (kc_ret (kq_frz H34 ?_)))
         refine kq_cmp noHp noHp (fun c333 => ?_)
         refine kq_cmp H34 (orHp noHp noHp) (fun c334 => ?_)
         exact kq_retTC rfl rfl rfl [sing br (.cells [vbr, .int .i64 (q30 : Int)].toArray 92 (0, 0))] [] (orHp H34 (orHp noHp noHp)) frn (fr_or f36 (fr_or (fr_no _) (fr_no _))) ⟨q30, by omega, rfl, ⟨(5 : Int), z32, [], (0 : Int), []⟩, rfl, ⟨_, rfl, _, _, _, rfl, (Sl.mono (OwnL.ints o35) (fun b o h => orL b o h) (fun _ _ h => h)), (Sl.mono Sl.nil (fun b o h => orC c334 b o (orL b o h)) (fun _ _ h => h)), (Sl.mono Sl.nil (fun b o h => orC c334 b o (orC c333 b o h)) (fun _ _ h => h))⟩, by (constructor <;> dsimp only <;> first | omega | exact all_nil | assumption | (simp; done) | (simp; omega) | (simp only [List.length_cons, List.length_nil]; omega))⟩
 ·skip
  have c43r := c43
  try simp only [smpC, decide_eq_true_eq, decide_eq_false_iff_not] at c43
  refine kc_skipQ (kq_code (kc_seq (kc_region (kl_fdV rfl (kl_ldB rfl rfl (kl_lenL rfl o35 (fun l335 => ?_)))))))
  refine kl_as rfl (kl_nil (kq_code (kc_seq (kc_seq (kc_region (kl_fdV rfl (kl_ldB rfl rfl (kl_nil (kq_code (kc_block (kc_seq (kc_region ?_))))))))))))
  refine kl_eql rfl rfl ?_
  refine kl_as rfl (kl_nil (kq_code (kc_if rfl (fun c336 => ?_) (fun c336 => ?_))))
  ·skip
   refine kc_seq (kc_seq (kc_region (kl_as rfl (kl_nil (kq_code (kc_block (kc_no ?_)))))))
   refine kc_loopL (A := Nat × List Int × Value × Hp × Nat) (fun zz => (zz.1 ≤ z32.length) ∧ (zz.2.1.length = zz.1) ∧ OwnL 3 1 zz.2.2.2.1 noHp IntV zz.2.2.1 zz.2.1 ∧ Fr B zz.2.2.2.1 ∧ zz.2.2.2.2 ≤ q30 + zz.1) (fun zz => z32.length - zz.1) (fun zz => [zz.2.2.2.1, sing b37 (.cells [.int .i64 ((1 : Int) + z21), v25, zz.2.2.1, .int .i64 (0 : Int), .slice none 0 0].toArray 76 (0, 0)), sing br (.cells [vbr, .int .i64 (zz.2.2.2.2 : Int)].toArray 92 (0, 0)), H34, sing b1 (.cells [.int .i64 (0 : Int), .slice none 0 0, .slice none 0 0, .int .i64 (0 : Int), .slice none 0 0].toArray 76 (0, 0))]) (fun zz => [(7, .int .i64 (zz.1 : Int))]) (0, [], .slice none 0 0, noHp, q30) (pc 0 rfl (pc 4 rfl (pc 5 rfl (pc 6 rfl pn)))) (pc 7 rfl pn) rfl ⟨Nat.zero_le _, rfl, OwnL.nil, (fr_no _), (by first | omega | (dsimp only; omega))⟩ ?_
   rintro ⟨i, out, v342, H339, q344⟩ hJ346
   obtain ⟨hk337, hi338, o340, f341, hq345⟩ : (i ≤ z32.length) ∧ (out.length = i) ∧ OwnL 3 1 H339 noHp IntV v342 out ∧ Fr B H339 ∧ q344 ≤ q30 + i := hJ346
   change KC _ _ (_) [H339, sing b37 (.cells [.int .i64 ((1 : Int) + z21), v25, v342, .int .i64 (0 : Int), .slice none 0 0].toArray 76 (0, 0)), sing br (.cells [vbr, .int .i64 (q344 : Int)].toArray 92 (0, 0)), H34, sing b1 (.cells [.int .i64 (0 : Int), .slice none 0 0, .slice none 0 0, .int .i64 (0 : Int), .slice none 0 0].toArray 76 (0, 0))] _ ([(7, .int .i64 (i : Int))] ++ _)
   refine kc_seq (kc_seq (kc_region (kl_mv rfl (kl_mv rfl (kl_lss rfl rfl ?_)))))
   refine kl_nil (kq_code (kc_if rfl (fun c347 => ?_) (fun c347 => ?_)))
   ·skip
    refine kc_skipQ (kq_code (kc_seq (kc_block (kc_tree (fun i => ([6, 8] : List Nat).contains i) [sing b37 (.cells [.int .i64 ((1 : Int) + z21), v25, v342, .int .i64 (0 : Int), .slice none 0 0].toArray 76 (0, 0))] (by kernel_rfl) ?_))))
    refine kt_q 0 (.cons _ (.cons_cons _ (List.nil_sublist _))) rfl (by kernel_rfl) (kl_fdV rfl (kl_nil (kq_q (kt_q 1 (.cons _ (.cons_cons _ (List.nil_sublist _))) rfl (by kernel_rfl) (kl_ld rfl (at_box (T := 76) (cs := [.int .i64 ((1 : Int) + z21), v25, v342, .int .i64 (0 : Int), .slice none 0 0]) (off := 2) (fz := (0, 0))) (kl_nil (kq_q (kt_q 2 (.cons _ (.cons_cons _ (List.nil_sublist _))) rfl (by kernel_rfl) ?_))))))))
    refine kl_mv rfl (kl_nil (kq_q (kt_a 3 rfl (by kernel_rfl) (kl_bs rfl rfl rfl (by decide) (ca rfl (ca rfl (ca rfl (ca rfl (ca rfl (ca rfl ca_nil)))))) (fun v348 H349 f350 r351 s352 => ?_)))))
    have h353 : Ints H349 v348 [(1 : Int), (1 : Int), (-1 : Int), (2 : Int), (-3 : Int), (0 : Int)] := litInts (xs := [(1 : Int), (1 : Int), (-1 : Int), (2 : Int), (-3 : Int), (0 : Int)]) (by simpa using s352)
    refine kl_nil (kq_a (.cons _ (.cons_cons _ (List.nil_sublist _))) (kt_a 4 rfl (by kernel_rfl) (kl_callT rfl rfl (one_ok q344 ([(1 : Int), (1 : Int), (-1 : Int), (2 : Int), (-3 : Int), (0 : Int)]) (by first | (simp; done) | omega) (by omega) hr (by assumption)) (fun v354 L1 Ln K358 h355 f356 f357 => ?_))))
    obtain ⟨q359, h360, rfl, rfl, z361, rfl, h362⟩ := h355
    refine kl_norm ?_
    refine kl_nil (kq_a (.cons _ (.cons _ (.cons_cons _ (List.nil_sublist _)))) (kt_a 5 rfl (by kernel_rfl) (kl_bs rfl rfl rfl (by decide) (ca rfl ca_nil) (fun v365 H366 f367 r368 s369 => ?_))))
    have h370 : Ints H366 v365 [z361] := litInts (xs := [z361]) (by simpa using s369)
    refine kl_nil (kq_a (.cons _ (.cons _ (.cons_cons _ (List.nil_sublist _)))) (kt_a 6 rfl (by kernel_rfl) (kl_apL z361 rfl rfl o340 (by assumption) rfl (oc rfl oc_nil) (by omega) (by decide) (fun v371 H372 o373 f374 => ?_))))
    have f375 := f374 B f341 (Nat.le_refl _)
    refine kl_nil (kq_x rfl (kt_q 7 (.cons _ (.cons _ (.cons_cons _ (List.nil_sublist _)))) rfl (by kernel_rfl) (kl_fdV rfl (kl_nil (kq_q (kt_a 8 rfl (by kernel_rfl) (kl_stB rfl rfl rfl (OwnL.oneCell (by assumption)) (OwnL.cells (by assumption)) ?_)))))))
    refine kl_chg [sing br (.cells [vbr, .int .i64 (q359 : Int)].toArray 92 (0, 0)), H372, sing b37 (.cells [.int .i64 ((1 : Int) + z21), v25, v371, .int .i64 (0 : Int), .slice none 0 0].toArray 76 (0, 0)), H34, sing b1 (.cells [.int .i64 (0 : Int), .slice none 0 0, .slice none 0 0, .int .i64 (0 : Int), .slice none 0 0].toArray 76 (0, 0))] rfl ?_
    refine kl_nil (kq_x rfl (kt_end (by kernel_rfl) ?_))
    refine kq_code (kc_region (kl_mv rfl (kl_inc rfl rfl (by omega) ?_)))
    refine kl_as rfl (kl_nil (kq_take [H372, sing b37 (.cells [.int .i64 ((1 : Int) + z21), v25, v371, .int .i64 (0 : Int), .slice none 0 0].toArray 76 (0, 0)), sing br (.cells [vbr, .int .i64 (q359 : Int)].toArray 92 (0, 0)), H34, sing b1 (.cells [.int .i64 (0 : Int), .slice none 0 0, .slice none 0 0, .int .i64 (0 : Int), .slice none 0 0].toArray 76 (0, 0))] ?_))
    refine kq_roundL ((i + 1), (out ++ [z361]), v371, H372, q359) (by omega) (⟨by omega, (by simp; omega), o373, f375, (by first | omega | (dsimp only; omega))⟩) (pc 7 rfl pn) (pc 0 rfl (pc 4 rfl (pc 5 rfl (pc 6 rfl pn)))) rfl (List.Sublist.refl _)
   ·skip
    refine kc_exit (kq_code (kc_region (kl_mv rfl (kl_callT rfl rfl (pick_ok q344 (14 : Int) (by omega) hr) (fun v376 L1 Ln K380 h377 f378 f379 => ?_)))))
    obtain ⟨q381, h382, rfl, rfl, z383, rfl, h384⟩ := h377
    refine kl_norm ?_
    refine kl_sub rfl rfl (by omega) ?_
    refine kl_fdV rfl (kl_stB rfl rfl rfl rfl rfl ?_)
    refine kl_chg [sing br (.cells [vbr, .int .i64 (q381 : Int)].toArray 92 (0, 0)), H339, sing b37 (.cells [.int .i64 ((1 : Int) + z21), v25, v342, .int .i64 (z383 - (4 : Int)), .slice none 0 0].toArray 76 (0, 0)), H34, sing b1 (.cells [.int .i64 (0 : Int), .slice none 0 0, .slice none 0 0, .int .i64 (0 : Int), .slice none 0 0].toArray 76 (0, 0))] rfl ?_
    refine kl_nil (kq_code (kc_seq (kc_region (kl_ldW rfl rfl (kl_stW (us := [.int .i64 ((1 : Int) + z21), v25, v342, .int .i64 (z383 - (4 : Int)), .slice none 0 0]) rfl rfl rfl rfl (oc rfl (oc (OwnL.oneCell (by assumption)) (oc (OwnL.oneCell (by assumption)) (oc rfl (oc rfl oc_nil))))) rfl ?_)))))
    refine kl_chg [sing br (.cells [vbr, .int .i64 (q381 : Int)].toArray 92 (0, 0)), H339, sing b37 (.cells [.int .i64 ((1 : Int) + z21), v25, v342, .int .i64 (z383 - (4 : Int)), .slice none 0 0].toArray 76 (0, 0)), H34, sing b1 (.cells [.int .i64 ((1 : Int) + z21), v25, v342, .int .i64 (z383 - (4 : Int)), .slice none 0 0].toArray 76 (0, 0))] rfl ?_
    refine kl_nil (kq_code (kc_ret (kq_frz H34 ?_)))
    refine kq_frz H339 ?_
    refine kq_cmp H339 noHp (fun c387 => ?_)
    refine kq_cmp H34 (orHp H339 noHp) (fun c388 => ?_)
    exact kq_retTC rfl rfl rfl [sing br (.cells [vbr, .int .i64 (q381 : Int)].toArray 92 (0, 0))] [] (orHp H34 (orHp H339 noHp)) frn (fr_or f36 (fr_or f341 (fr_no _))) ⟨q381, by omega, rfl, ⟨((1 : Int) + z21), z32, out, (z383 - (4 : Int)), []⟩, rfl, ⟨_, rfl, _, _, _, rfl, (Sl.mono (OwnL.ints o35) (fun b o h => orL b o h) (fun _ _ h => h)), (Sl.mono (OwnL.ints o340) (fun b o h => orC c388 b o (orL b o h)) (fun _ _ h => h)), (Sl.mono Sl.nil (fun b o h => orC c388 b o (orC c387 b o h)) (fun _ _ h => h))⟩, by (constructor <;> dsimp only <;> first | omega | exact all_nil | assumption | (simp; done) | (simp; omega) | (simp only [List.length_cons, List.length_nil]; omega))⟩
  ·skip
   refine kc_seq (kc_region (kl_eql rfl rfl ?_))
   refine kl_as rfl (kl_nil (kq_code (kc_if rfl (fun c389 => ?_) (fun c389 => ?_))))
   ·skip
    refine kc_seq (kc_region (kl_mv rfl (kl_mv rfl (kl_callT rfl rfl (someVars_ok q30 n (2 : Int) (by first | assumption | omega) (by first | assumption | omega) (by omega) hr) (fun v390 L1 Ln K394 h391 f392 f393 => ?_)))))
    obtain ⟨q395, h396, rfl, H399, z397, rfl, o400, h398⟩ := h391
    have f401 := f392 _ (.head _)
    refine kl_norm ?_
    refine kl_fdV rfl (kl_stB rfl rfl rfl (OwnL.oneCell (by assumption)) (OwnL.cells (by assumption)) ?_)
    refine kl_chg [sing br (.cells [vbr, .int .i64 (q395 : Int)].toArray 92 (0, 0)), H399, sing b37 (.cells [.int .i64 ((1 : Int) + z21), v390, .slice none 0 0, .int .i64 (0 : Int), .slice none 0 0].toArray 76 (0, 0)), H34, sing b1 (.cells [.int .i64 (0 : Int), .slice none 0 0, .slice none 0 0, .int .i64 (0 : Int), .slice none 0 0].toArray 76 (0, 0))] rfl ?_
    refine kl_nil (kq_code (kc_region (kl_mv rfl (kl_callT rfl rfl (pick_ok q395 (5 : Int) (by omega) hr) (fun v402 L1 Ln K406 h403 f404 f405 => ?_)))))
    obtain ⟨q407, h408, rfl, rfl, z409, rfl, h410⟩ := h403
    refine kl_norm ?_
    refine kl_sub rfl rfl (by omega) ?_
    refine kl_bs rfl rfl rfl (by decide) (ca rfl ca_nil) (fun v413 H414 f415 r416 s417 => ?_)
    have h418 : Ints H414 v413 [(z409 - (2 : Int))] := litInts (xs := [(z409 - (2 : Int))]) (by simpa using s417)
    refine kl_fdV rfl (kl_stB rfl rfl rfl (Sl.oneCell (by assumption)) (Sl.cells (by assumption)) ?_)
    refine kl_chg [sing br (.cells [vbr, .int .i64 (q407 : Int)].toArray 92 (0, 0)), H399, sing b37 (.cells [.int .i64 ((1 : Int) + z21), v390, v413, .int .i64 (0 : Int), .slice none 0 0].toArray 76 (0, 0)), H34, sing b1 (.cells [.int .i64 (0 : Int), .slice none 0 0, .slice none 0 0, .int .i64 (0 : Int), .slice none 0 0].toArray 76 (0, 0))] rfl ?_
    refine kl_nil (kq_code (kc_seq (kc_region (kl_ldW rfl rfl (kl_stW (us := [.int .i64 ((1 : Int) + z21), v390, v413, .int .i64 (0 : Int), .slice none 0 0]) rfl rfl rfl rfl (oc rfl (oc (OwnL.oneCell (by assumption)) (oc (Sl.oneCell (by assumption)) (oc rfl (oc rfl oc_nil))))) rfl ?_)))))
    refine kl_chg [sing br (.cells [vbr, .int .i64 (q407 : Int)].toArray 92 (0, 0)), H399, sing b37 (.cells [.int .i64 ((1 : Int) + z21), v390, v413, .int .i64 (0 : Int), .slice none 0 0].toArray 76 (0, 0)), H34, sing b1 (.cells [.int .i64 ((1 : Int) + z21), v390, v413, .int .i64 (0 : Int), .slice none 0 0].toArray 76 (0, 0))] rfl ?_
    refine kl_nil (kq_code (kc_ret (kq_frz H399 ?_)))
    refine kq_cmp H414 noHp (fun c419 => ?_)
    refine kq_cmp H399 (orHp H414 noHp) (fun c420 => ?_)
    exact kq_retTC rfl rfl rfl [sing br (.cells [vbr, .int .i64 (q407 : Int)].toArray 92 (0, 0))] [] (orHp H399 (orHp H414 noHp)) frn (fr_or f401 (fr_or f415 (fr_no _))) ⟨q407, by omega, rfl, ⟨((1 : Int) + z21), z397, ([(z409 - (2 : Int))]), (0 : Int), []⟩, rfl, ⟨_, rfl, _, _, _, rfl, (Sl.mono (OwnL.ints o400) (fun b o h => orL b o h) (fun _ _ h => h)), (Sl.mono (by assumption) (fun b o h => orC c420 b o (orL b o h)) (fun _ _ h => h)), (Sl.mono Sl.nil (fun b o h => orC c420 b o (orC c419 b o h)) (fun _ _ h => h))⟩, by (constructor <;> dsimp only <;> first | omega | exact all_nil | assumption | (simp; done) | (simp; omega) | (simp only [List.length_cons, List.length_nil]; omega))⟩
   ·skip
    refine kc_seq (kc_region (kl_eql rfl rfl ?_))
    refine kl_as rfl (kl_nil (kq_code (kc_if rfl (fun c421 => ?_) (fun c421 => ?_))))
    ·skip
     refine kc_seq (kc_region (kl_mv rfl (kl_mv rfl (kl_callT rfl rfl (someVars_ok q30 n (2 : Int) (by first | assumption | omega) (by first | assumption | omega) (by omega) hr) (fun v422 L1 Ln K426 h423 f424 f425 => ?_)))))
     obtain ⟨q427, h428, rfl, H431, z429, rfl, o432, h430⟩ := h423
     have f433 := f424 _ (.head _)
     refine kl_norm ?_
     refine kl_fdV rfl (kl_stB rfl rfl rfl (OwnL.oneCell (by assumption)) (OwnL.cells (by assumption)) ?_)
     refine kl_chg [sing br (.cells [vbr, .int .i64 (q427 : Int)].toArray 92 (0, 0)), H431, sing b37 (.cells [.int .i64 ((1 : Int) + z21), v422, .slice none 0 0, .int .i64 (0 : Int), .slice none 0 0].toArray 76 (0, 0)), H34, sing b1 (.cells [.int .i64 (0 : Int), .slice none 0 0, .slice none 0 0, .int .i64 (0 : Int), .slice none 0 0].toArray 76 (0, 0))] rfl ?_
     refine kl_nil (kq_code (kc_region (kl_mv rfl (kl_mv rfl (kl_callT rfl rfl (pick_ok q427 (6 : Int) (by omega) hr) (fun v434 L1 Ln K438 h435 f436 f437 => ?_))))))
     obtain ⟨q439, h440, rfl, rfl, z441, rfl, h442⟩ := h435
     refine kl_norm ?_
     refine kl_add rfl rfl (by omega) ?_
     refine kl_callT rfl rfl (randomRow_ok q439 ((1 : Int) + z441) (by first | assumption | omega) (by omega) hr) (fun v445 L1 Ln K449 h446 f447 f448 => ?_)
     obtain ⟨q450, h451, rfl, H454, z452, rfl, o455, h453⟩ := h446
     have f456 := f447 _ (.head _)
     refine kl_norm ?_
     refine kl_fdV rfl (kl_stB rfl rfl rfl (OwnL.oneCell (by assumption)) (OwnL.cells (by assumption)) ?_)
     refine kl_chg [sing br (.cells [vbr, .int .i64 (q450 : Int)].toArray 92 (0, 0)), H454, H431, sing b37 (.cells [.int .i64 ((1 : Int) + z21), v422, v445, .int .i64 (0 : Int), .slice none 0 0].toArray 76 (0, 0)), H34, sing b1 (.cells [.int .i64 (0 : Int), .slice none 0 0, .slice none 0 0, .int .i64 (0 : Int), .slice none 0 0].toArray 76 (0, 0))] rfl ?_
     refine kl_nil (kq_code (kc_seq (kc_region (kl_ldW rfl rfl (kl_stW (us := [.int .i64 ((1 : Int) + z21), v422, v445, .int .i64 (0 : Int), .slice none 0 0]) rfl rfl rfl rfl (oc rfl (oc (OwnL.oneCell (by assumption)) (oc (OwnL.oneCell (by assumption)) (oc rfl (oc rfl oc_nil))))) rfl ?_)))))
     refine kl_chg [sing br (.cells [vbr, .int .i64 (q450 : Int)].toArray 92 (0, 0)), H454, H431, sing b37 (.cells [.int .i64 ((1 : Int) + z21), v422, v445, .int .i64 (0 : Int), .slice none 0 0].toArray 76 (0, 0)), H34, sing b1 (.cells [.int .i64 ((1 : Int) + z21), v422, v445, .int .i64 (0 : Int), .slice none 0 0].toArray 76 (0, 0))] rfl ?_
     refine kl_nil (kq_code (kc_ret (kq_frz H431 ?_)))
     refine kq_frz H454 ?_
     refine kq_cmp H454 noHp (fun c457 => ?_)
     refine kq_cmp H431 (orHp H454 noHp) (fun c458 => ?_)
     exact kq_retTC rfl rfl rfl [sing br (.cells [vbr, .int .i64 (q450 : Int)].toArray 92 (0, 0))] [] (orHp H431 (orHp H454 noHp)) frn (fr_or f433 (fr_or f456 (fr_no _))) ⟨q450, by omega, rfl, ⟨((1 : Int) + z21), z429, z452, (0 : Int), []⟩, rfl, ⟨_, rfl, _, _, _, rfl, (Sl.mono (OwnL.ints o432) (fun b o h => orL b o h) (fun _ _ h => h)), (Sl.mono (OwnL.ints o455) (fun b o h => orC c458 b o (orL b o h)) (fun _ _ h => h)), (Sl.mono Sl.nil (fun b o h => orC c458 b o (orC c457 b o h)) (fun _ _ h => h))⟩, by (constructor <;> dsimp only <;> first | omega | exact all_nil | assumption | (simp; done) | (simp; omega) | (simp only [List.length_cons, List.length_nil]; omega))⟩
    ·skip
     refine kc_seq (kc_region (kl_eql rfl rfl ?_))
     refine kl_as rfl (kl_nil (kq_code (kc_if rfl (fun c459 => ?_) (fun c459 => ?_))))
     ·skip
      refine kc_seq (kc_region (kl_mv rfl (kl_callT rfl rfl (pick_ok q30 (6 : Int) (by omega) hr) (fun v460 L1 Ln K464 h461 f462 f463 => ?_))))
      obtain ⟨q465, h466, rfl, rfl, z467, rfl, h468⟩ := h461
      refine kl_norm ?_
      refine kl_add rfl rfl (by omega) ?_
      refine kl_as rfl (kl_nil (kq_code (kc_block (kc_no ?_))))
      refine kc_loopK (A := Int × List (List Int) × Value × Hp × Hp × Nat) (fun zz => (0 ≤ zz.1 ∧ zz.1 ≤ 6 ∧ zz.2.1.length + zz.1.toNat ≤ 6 ∧ ∀ r ∈ zz.2.1, r.length ≤ 12) ∧ Fr B zz.2.2.2.2.1 ∧ OwnL 22 1 zz.2.2.2.1 zz.2.2.2.2.1 RowV zz.2.2.1 zz.2.1 ∧ Fr B zz.2.2.2.1 ∧ zz.2.2.2.2.2 ≤ q465 + 12 * (6 - zz.1).toNat) (fun zz => zz.1.toNat) (fun zz => zz.2.2.2.2.1) (fun zz => [zz.2.2.2.1, sing br (.cells [vbr, .int .i64 (zz.2.2.2.2.2 : Int)].toArray 92 (0, 0)), sing b37 (.cells [.int .i64 ((1 : Int) + z21), v25, .slice none 0 0, .int .i64 (0 : Int), zz.2.2.1].toArray 76 (0, 0)), H34, sing b1 (.cells [.int .i64 (0 : Int), .slice none 0 0, .slice none 0 0, .int .i64 (0 : Int), .slice none 0 0].toArray 76 (0, 0))]) (fun zz => [(8, .int .i64 zz.1)]) (((1 : Int) + z467), [], .slice none 0 0, noHp, noHp, q465) (pc 0 rfl (pc 4 rfl (pc 5 rfl (pc 6 rfl pn)))) (pc 8 rfl pn) rfl ⟨⟨by dsimp only; omega, by dsimp only; omega, by dsimp only; simp; omega, all_nil⟩, (fr_no _), OwnL.nil, (fr_no _), (by first | omega | (dsimp only; omega))⟩ ?_
      rintro ⟨i, out, v476, H473, K477, q480⟩ hJ482
      obtain ⟨hi472, f478, o474, f475, hq481⟩ : (0 ≤ i ∧ i ≤ 6 ∧ out.length + i.toNat ≤ 6 ∧ ∀ r ∈ out, r.length ≤ 12) ∧ Fr B K477 ∧ OwnL 22 1 H473 K477 RowV v476 out ∧ Fr B H473 ∧ q480 ≤ q465 + 12 * (6 - i).toNat := hJ482
      change KC _ _ (K477 :: _) [H473, sing br (.cells [vbr, .int .i64 (q480 : Int)].toArray 92 (0, 0)), sing b37 (.cells [.int .i64 ((1 : Int) + z21), v25, .slice none 0 0, .int .i64 (0 : Int), v476].toArray 76 (0, 0)), H34, sing b1 (.cells [.int .i64 (0 : Int), .slice none 0 0, .slice none 0 0, .int .i64 (0 : Int), .slice none 0 0].toArray 76 (0, 0))] _ ([(8, .int .i64 i)] ++ _)
      have hall := hi472.2.2.2
      refine kc_seq (kc_seq (kc_region (kl_mv rfl (kl_gtr rfl rfl ?_))))
      refine kl_nil (kq_code (kc_if rfl (fun c483 => ?_) (fun c483 => ?_)))
      ·skip
       refine kc_skipQ (kq_code (kc_seq (kc_block (kc_tree (fun i => ([6, 8] : List Nat).contains i) [sing b37 (.cells [.int .i64 ((1 : Int) + z21), v25, .slice none 0 0, .int .i64 (0 : Int), v476].toArray 76 (0, 0))] (by kernel_rfl) ?_))))
       refine kt_q 0 (.cons _ (.cons _ (.cons_cons _ (List.nil_sublist _)))) rfl (by kernel_rfl) (kl_fdV rfl (kl_nil (kq_q (kt_q 1 (.cons _ (.cons _ (.cons_cons _ (List.nil_sublist _)))) rfl (by kernel_rfl) (kl_ld rfl (at_box (T := 76) (cs := [.int .i64 ((1 : Int) + z21), v25, .slice none 0 0, .int .i64 (0 : Int), v476]) (off := 4) (fz := (0, 0))) (kl_nil (kq_q (kt_q 2 (.cons _ (.cons _ (.cons_cons _ (List.nil_sublist _)))) rfl (by kernel_rfl) ?_))))))))
       refine kl_mv rfl (kl_nil (kq_q (kt_q 3 (.cons _ (.cons _ (.cons_cons _ (List.nil_sublist _)))) rfl (by kernel_rfl) (kl_mv rfl (kl_nil (kq_q (kt_a 4 rfl (by kernel_rfl) (kl_callT rfl rfl (randomRow_ok q480 (z32.length : Int) (by first | assumption | omega) (by omega) hr) (fun v484 L1 Ln K488 h485 f486 f487 => ?_)))))))))
       obtain ⟨q489, h490, rfl, H493, z491, rfl, o494, h492⟩ := h485
       have f495 := f486 _ (.head _)
       refine kl_norm ?_
       refine kl_nil (kq_a (.cons _ (.cons _ (.cons _ (.cons_cons _ (List.nil_sublist _))))) (kt_a 5 rfl (by kernel_rfl) (kl_bs rfl rfl rfl (by decide) (ca (by first | exact Sl.cells (by assumption) | exact OwnL.cells (by assumption)) ca_nil) (fun v496 H497 f498 r499 s500 => ?_))))
       refine kl_nil (kq_a (.cons _ (.cons _ (.cons _ (.cons_cons _ (List.nil_sublist _))))) (kt_frz H493 ?_))
       have h501 := OwnL.ints o494
       refine kt_a 6 rfl (by kernel_rfl) (kl_cmp K477 H493 (fun c502 => ?_))
       have o503 := OwnL.mono (K' := orHp K477 H493) o474 orL
       refine kl_apL z491 rfl rfl o503 (by assumption) ⟨_, rfl, Sl.mono (by assumption) (orC c502) (fun _ _ h => h)⟩ (oc (Sl.oneCell (by assumption)) oc_nil) (by omega) (by decide) (fun v504 H505 o506 f507 => ?_)
       have f508 := f507 B f475 (Nat.le_refl _)
       refine kl_nil (kq_x rfl (kt_q 7 (.cons _ (.cons _ (.cons_cons _ (List.nil_sublist _)))) rfl (by kernel_rfl) (kl_fdV rfl (kl_nil (kq_q (kt_a 8 rfl (by kernel_rfl) (kl_stB rfl rfl rfl (OwnL.oneCell (by assumption)) (OwnL.cells (by assumption)) ?_)))))))
       refine kl_chg [sing br (.cells [vbr, .int .i64 (q489 : Int)].toArray 92 (0, 0)), H505, sing b37 (.cells [.int .i64 ((1 : Int) + z21), v25, .slice none 0 0, .int .i64 (0 : Int), v504].toArray 76 (0, 0)), H34, sing b1 (.cells [.int .i64 (0 : Int), .slice none 0 0, .slice none 0 0, .int .i64 (0 : Int), .slice none 0 0].toArray 76 (0, 0))] rfl ?_
       refine kl_nil (kq_x rfl (kt_end (by kernel_rfl) ?_))
       refine kq_code (kc_region (kl_mv rfl (kl_sub rfl rfl (by omega) ?_)))
       refine kl_as rfl (kl_nil (kq_take [H505, sing br (.cells [vbr, .int .i64 (q489 : Int)].toArray 92 (0, 0)), sing b37 (.cells [.int .i64 ((1 : Int) + z21), v25, .slice none 0 0, .int .i64 (0 : Int), v504].toArray 76 (0, 0)), H34, sing b1 (.cells [.int .i64 (0 : Int), .slice none 0 0, .slice none 0 0, .int .i64 (0 : Int), .slice none 0 0].toArray 76 (0, 0))] ?_))
       refine kq_roundK ((i - (1 : Int)), (out ++ [z491]), v504, H505, (orHp K477 H493), q489) (by (dsimp only; omega)) (⟨⟨by dsimp only; omega, by dsimp only; omega, by simp; omega, all_snoc hi472.2.2.2 (by omega)⟩, (fr_or f478 f495), o506, f508, (by first | omega | (dsimp only; omega))⟩) (pc 8 rfl pn) (pc 0 rfl (pc 4 rfl (pc 5 rfl (pc 6 rfl pn)))) rfl (List.Sublist.refl _)
      ·skip
       refine kc_exit (kq_code (kc_seq (kc_region (kl_ldW rfl rfl (kl_stW (us := [.int .i64 ((1 : Int) + z21), v25, .slice none 0 0, .int .i64 (0 : Int), v476]) rfl rfl rfl rfl (oc rfl (oc (OwnL.oneCell (by assumption)) (oc rfl (oc rfl (oc (OwnL.oneCell (by assumption)) oc_nil))))) rfl ?_)))))
       refine kl_chg [H473, sing br (.cells [vbr, .int .i64 (q480 : Int)].toArray 92 (0, 0)), sing b37 (.cells [.int .i64 ((1 : Int) + z21), v25, .slice none 0 0, .int .i64 (0 : Int), v476].toArray 76 (0, 0)), H34, sing b1 (.cells [.int .i64 ((1 : Int) + z21), v25, .slice none 0 0, .int .i64 (0 : Int), v476].toArray 76 (0, 0))] rfl ?_
       refine kl_nil (kq_code (kc_ret (kq_frz H34 ?_)))
       refine kq_frz H473 ?_
       refine kq_cmp H473 K477 (fun c509 => ?_)
       refine kq_cmp noHp (orHp H473 K477) (fun c510 => ?_)
       refine kq_cmp H34 (orHp noHp (orHp H473 K477)) (fun c511 => ?_)
       exact kq_retTC rfl rfl rfl [sing br (.cells [vbr, .int .i64 (q480 : Int)].toArray 92 (0, 0))] [] (orHp H34 (orHp noHp (orHp H473 K477))) frn (fr_or f36 (fr_or (fr_no _) (fr_or f475 f478))) ⟨q480, by omega, rfl, ⟨((1 : Int) + z21), z32, [], (0 : Int), out⟩, rfl, ⟨_, rfl, _, _, _, rfl, (Sl.mono (OwnL.ints o35) (fun b o h => orL b o h) (fun _ _ h => h)), (Sl.mono Sl.nil (fun b o h => orC c511 b o (orL b o h)) (fun _ _ h => h)), (Rows.mono' (OwnL.rowsK o474 c509) (fun b o h => orC c511 b o (orC c510 b o h)))⟩, by (constructor <;> dsimp only <;> first | omega | exact all_nil | assumption | (simp; done) | (simp; omega) | (simp only [List.length_cons, List.length_nil]; omega))⟩
     ·skip
      refine kc_seq (kc_region (kl_eql rfl rfl ?_))
      refine kl_as rfl (kl_nil (kq_code (kc_if rfl (fun c512 => ?_) (fun c512 => ?_))))
      ·skip
       refine kc_seq (kc_region (kl_mv rfl (kl_callT rfl rfl (pick_ok q30 (6 : Int) (by omega) hr) (fun v513 L1 Ln K517 h514 f515 f516 => ?_))))
       obtain ⟨q518, h519, rfl, rfl, z520, rfl, h521⟩ := h514
       refine kl_norm ?_
       refine kl_bs rfl rfl rfl (by decide) (ca rfl ca_nil) (fun v524 H525 f526 r527 s528 => ?_)
       have h529 : Ints H525 v524 [z520] := litInts (xs := [z520]) (by simpa using s528)
       refine kl_fdV rfl (kl_stB rfl rfl rfl (Sl.oneCell (by assumption)) (Sl.cells (by assumption)) ?_)
       refine kl_chg [sing br (.cells [vbr, .int .i64 (q518 : Int)].toArray 92 (0, 0)), sing b37 (.cells [.int .i64 ((1 : Int) + z21), v25, v524, .int .i64 (0 : Int), .slice none 0 0].toArray 76 (0, 0)), H34, sing b1 (.cells [.int .i64 (0 : Int), .slice none 0 0, .slice none 0 0, .int .i64 (0 : Int), .slice none 0 0].toArray 76 (0, 0))] rfl ?_
       refine kl_nil (kq_code (kc_region (kl_mv rfl (kl_callT rfl rfl (pick_ok q518 (4 : Int) (by omega) hr) (fun v530 L1 Ln K534 h531 f532 f533 => ?_)))))
       obtain ⟨q535, h536, rfl, rfl, z537, rfl, h538⟩ := h531
       refine kl_norm ?_
       refine kl_fdV rfl (kl_stB rfl rfl rfl rfl rfl ?_)
       refine kl_chg [sing br (.cells [vbr, .int .i64 (q535 : Int)].toArray 92 (0, 0)), sing b37 (.cells [.int .i64 ((1 : Int) + z21), v25, v524, .int .i64 z537, .slice none 0 0].toArray 76 (0, 0)), H34, sing b1 (.cells [.int .i64 (0 : Int), .slice none 0 0, .slice none 0 0, .int .i64 (0 : Int), .slice none 0 0].toArray 76 (0, 0))] rfl ?_
       refine kl_nil (kq_code (kc_seq (kc_region (kl_ldW rfl rfl (kl_stW (us := [.int .i64 ((1 : Int) + z21), v25, v524, .int .i64 z537, .slice none 0 0]) rfl rfl rfl rfl (oc rfl (oc (OwnL.oneCell (by assumption)) (oc (Sl.oneCell (by assumption)) (oc rfl (oc rfl oc_nil))))) rfl ?_)))))
       refine kl_chg [sing br (.cells [vbr, .int .i64 (q535 : Int)].toArray 92 (0, 0)), sing b37 (.cells [.int .i64 ((1 : Int) + z21), v25, v524, .int .i64 z537, .slice none 0 0].toArray 76 (0, 0)), H34, sing b1 (.cells [.int .i64 ((1 : Int) + z21), v25, v524, .int .i64 z537, .slice none 0 0].toArray 76 (0, 0))] rfl ?_
       refine kl_nil (kq_code (kc_ret (kq_frz H34 ?_)))
       refine kq_cmp H525 noHp (fun c541 => ?_)
       refine kq_cmp H34 (orHp H525 noHp) (fun c542 => ?_)
       exact kq_retTC rfl rfl rfl [sing br (.cells [vbr, .int .i64 (q535 : Int)].toArray 92 (0, 0))] [] (orHp H34 (orHp H525 noHp)) frn (fr_or f36 (fr_or f526 (fr_no _))) ⟨q535, by omega, rfl, ⟨((1 : Int) + z21), z32, ([z520]), z537, []⟩, rfl, ⟨_, rfl, _, _, _, rfl, (Sl.mono (OwnL.ints o35) (fun b o h => orL b o h) (fun _ _ h => h)), (Sl.mono (by assumption) (fun b o h => orC c542 b o (orL b o h)) (fun _ _ h => h)), (Sl.mono Sl.nil (fun b o h => orC c542 b o (orC c541 b o h)) (fun _ _ h => h))⟩, by (constructor <;> dsimp only <;> first | omega | exact all_nil | assumption | (simp; done) | (simp; omega) | (simp only [List.length_cons, List.length_nil]; omega))⟩
      ·skip
       refine kc_seq (kc_region (kl_eql rfl rfl ?_))
       refine kl_as rfl (kl_nil (kq_code (kc_if rfl (fun c543 => ?_) (fun c543 => ?_))))
       ·skip
        refine kc_seq (kc_seq (kc_region (kl_as rfl (kl_nil (kq_code (kc_block (kc_no ?_)))))))
        refine kc_loopL (A := Nat × List Int × Value × Hp × Nat) (fun zz => (zz.1 ≤ 8) ∧ (zz.2.1.length = zz.1) ∧ OwnL 3 1 zz.2.2.2.1 noHp IntV zz.2.2.1 zz.2.1 ∧ Fr B zz.2.2.2.1 ∧ zz.2.2.2.2 ≤ q30 + zz.1) (fun zz => 8 - zz.1) (fun zz => [zz.2.2.2.1, sing b37 (.cells [.int .i64 ((1 : Int) + z21), v25, zz.2.2.1, .int .i64 (0 : Int), .slice none 0 0].toArray 76 (0, 0)), sing br (.cells [vbr, .int .i64 (zz.2.2.2.2 : Int)].toArray 92 (0, 0)), H34, sing b1 (.cells [.int .i64 (0 : Int), .slice none 0 0, .slice none 0 0, .int .i64 (0 : Int), .slice none 0 0].toArray 76 (0, 0))]) (fun zz => [(9, .int .i64 (zz.1 : Int))]) (0, [], .slice none 0 0, noHp, q30) (pc 0 rfl (pc 4 rfl (pc 5 rfl (pc 6 rfl pn)))) (pc 9 rfl pn) rfl ⟨Nat.zero_le _, rfl, OwnL.nil, (fr_no _), (by first | omega | (dsimp only; omega))⟩ ?_
        rintro ⟨i, out, v549, H546, q551⟩ hJ553
        obtain ⟨hk544, hi545, o547, f548, hq552⟩ : (i ≤ 8) ∧ (out.length = i) ∧ OwnL 3 1 H546 noHp IntV v549 out ∧ Fr B H546 ∧ q551 ≤ q30 + i := hJ553
        change KC _ _ (_) [H546, sing b37 (.cells [.int .i64 ((1 : Int) + z21), v25, v549, .int .i64 (0 : Int), .slice none 0 0].toArray 76 (0, 0)), sing br (.cells [vbr, .int .i64 (q551 : Int)].toArray 92 (0, 0)), H34, sing b1 (.cells [.int .i64 (0 : Int), .slice none 0 0, .slice none 0 0, .int .i64 (0 : Int), .slice none 0 0].toArray 76 (0, 0))] _ ([(9, .int .i64 (i : Int))] ++ _)
        refine kc_seq (kc_seq (kc_region (kl_mv rfl (kl_mv rfl (kl_mul rfl rfl (by omega) ?_)))))
        refine kl_lss rfl rfl ?_
        refine kl_nil (kq_code (kc_if rfl (fun c554 => ?_) (fun c554 => ?_)))
        ·skip
         refine kc_skipQ (kq_code (kc_seq (kc_block (kc_tree (fun i => ([5, 7] : List Nat).contains i) [sing b37 (.cells [.int .i64 ((1 : Int) + z21), v25, v549, .int .i64 (0 : Int), .slice none 0 0].toArray 76 (0, 0))] (by kernel_rfl) ?_))))
         refine kt_q 0 (.cons _ (.cons_cons _ (List.nil_sublist _))) rfl (by kernel_rfl) (kl_fdV rfl (kl_nil (kq_q (kt_q 1 (.cons _ (.cons_cons _ (List.nil_sublist _))) rfl (by kernel_rfl) (kl_ld rfl (at_box (T := 76) (cs := [.int .i64 ((1 : Int) + z21), v25, v549, .int .i64 (0 : Int), .slice none 0 0]) (off := 2) (fz := (0, 0))) (kl_nil (kq_q (kt_q 2 (.cons _ (.cons_cons _ (List.nil_sublist _))) rfl (by kernel_rfl) ?_))))))))
         refine kl_mv rfl (kl_nil (kq_q (kt_a 3 rfl (by kernel_rfl) (kl_callT rfl rfl (pick_ok q551 (4 : Int) (by omega) hr) (fun v555 L1 Ln K559 h556 f557 f558 => ?_)))))
         obtain ⟨q560, h561, rfl, rfl, z562, rfl, h563⟩ := h556
         refine kl_norm ?_
         refine kl_nil (kq_a (.cons _ (.cons _ (.cons_cons _ (List.nil_sublist _)))) (kt_a 4 rfl (by kernel_rfl) (kl_bs rfl rfl rfl (by decide) (ca rfl ca_nil) (fun v566 H567 f568 r569 s570 => ?_))))
         have h571 : Ints H567 v566 [z562] := litInts (xs := [z562]) (by simpa using s570)
         refine kl_nil (kq_a (.cons _ (.cons _ (.cons_cons _ (List.nil_sublist _)))) (kt_a 5 rfl (by kernel_rfl) (kl_apL z562 rfl rfl o547 (by assumption) rfl (oc rfl oc_nil) (by omega) (by decide) (fun v572 H573 o574 f575 => ?_))))
         have f576 := f575 B f548 (Nat.le_refl _)
         refine kl_nil (kq_x rfl (kt_q 6 (.cons _ (.cons _ (.cons_cons _ (List.nil_sublist _)))) rfl (by kernel_rfl) (kl_fdV rfl (kl_nil (kq_q (kt_a 7 rfl (by kernel_rfl) (kl_stB rfl rfl rfl (OwnL.oneCell (by assumption)) (OwnL.cells (by assumption)) ?_)))))))
         refine kl_chg [sing br (.cells [vbr, .int .i64 (q560 : Int)].toArray 92 (0, 0)), H573, sing b37 (.cells [.int .i64 ((1 : Int) + z21), v25, v572, .int .i64 (0 : Int), .slice none 0 0].toArray 76 (0, 0)), H34, sing b1 (.cells [.int .i64 (0 : Int), .slice none 0 0, .slice none 0 0, .int .i64 (0 : Int), .slice none 0 0].toArray 76 (0, 0))] rfl ?_
         refine kl_nil (kq_x rfl (kt_end (by kernel_rfl) ?_))
         refine kq_code (kc_region (kl_mv rfl (kl_inc rfl rfl (by omega) ?_)))
         refine kl_as rfl (kl_nil (kq_take [H573, sing b37 (.cells [.int .i64 ((1 : Int) + z21), v25, v572, .int .i64 (0 : Int), .slice none 0 0].toArray 76 (0, 0)), sing br (.cells [vbr, .int .i64 (q560 : Int)].toArray 92 (0, 0)), H34, sing b1 (.cells [.int .i64 (0 : Int), .slice none 0 0, .slice none 0 0, .int .i64 (0 : Int), .slice none 0 0].toArray 76 (0, 0))] ?_))
         refine kq_roundL ((i + 1), (out ++ [z562]), v572, H573, q560) (by omega) (⟨by omega, (by simp; omega), o574, f576, (by first | omega | (dsimp only; omega))⟩) (pc 9 rfl pn) (pc 0 rfl (pc 4 rfl (pc 5 rfl (pc 6 rfl pn)))) rfl (List.Sublist.refl _)
        ·skip
         refine kc_exit (kq_code (kc_region (kl_mv rfl (kl_callT rfl rfl (pick_ok q551 (4 : Int) (by omega) hr) (fun v577 L1 Ln K581 h578 f579 f580 => ?_)))))
         obtain ⟨q582, h583, rfl, rfl, z584, rfl, h585⟩ := h578
         refine kl_norm ?_
         refine kl_add rfl rfl (by omega) ?_
         refine kl_fdV rfl (kl_stB rfl rfl rfl rfl rfl ?_)
         refine kl_chg [sing br (.cells [vbr, .int .i64 (q582 : Int)].toArray 92 (0, 0)), H546, sing b37 (.cells [.int .i64 ((1 : Int) + z21), v25, v549, .int .i64 ((1 : Int) + z584), .slice none 0 0].toArray 76 (0, 0)), H34, sing b1 (.cells [.int .i64 (0 : Int), .slice none 0 0, .slice none 0 0, .int .i64 (0 : Int), .slice none 0 0].toArray 76 (0, 0))] rfl ?_
         refine kl_nil (kq_code (kc_seq (kc_region (kl_ldW rfl rfl (kl_stW (us := [.int .i64 ((1 : Int) + z21), v25, v549, .int .i64 ((1 : Int) + z584), .slice none 0 0]) rfl rfl rfl rfl (oc rfl (oc (OwnL.oneCell (by assumption)) (oc (OwnL.oneCell (by assumption)) (oc rfl (oc rfl oc_nil))))) rfl ?_)))))
         refine kl_chg [sing br (.cells [vbr, .int .i64 (q582 : Int)].toArray 92 (0, 0)), H546, sing b37 (.cells [.int .i64 ((1 : Int) + z21), v25, v549, .int .i64 ((1 : Int) + z584), .slice none 0 0].toArray 76 (0, 0)), H34, sing b1 (.cells [.int .i64 ((1 : Int) + z21), v25, v549, .int .i64 ((1 : Int) + z584), .slice none 0 0].toArray 76 (0, 0))] rfl ?_
         refine kl_nil (kq_code (kc_ret (kq_frz H34 ?_)))
         refine kq_frz H546 ?_
         refine kq_cmp H546 noHp (fun c588 => ?_)
         refine kq_cmp H34 (orHp H546 noHp) (fun c589 => ?_)
         exact kq_retTC rfl rfl rfl [sing br (.cells [vbr, .int .i64 (q582 : Int)].toArray 92 (0, 0))] [] (orHp H34 (orHp H546 noHp)) frn (fr_or f36 (fr_or f548 (fr_no _))) ⟨q582, by omega, rfl, ⟨((1 : Int) + z21), z32, out, ((1 : Int) + z584), []⟩, rfl, ⟨_, rfl, _, _, _, rfl, (Sl.mono (OwnL.ints o35) (fun b o h => orL b o h) (fun _ _ h => h)), (Sl.mono (OwnL.ints o547) (fun b o h => orC c589 b o (orL b o h)) (fun _ _ h => h)), (Sl.mono Sl.nil (fun b o h => orC c589 b o (orC c588 b o h)) (fun _ _ h => h))⟩, by (constructor <;> dsimp only <;> first | omega | exact all_nil | assumption | (simp; done) | (simp; omega) | (simp only [List.length_cons, List.length_nil]; omega))⟩
       ·skip
        refine kc_seq (kc_region (kl_eql rfl rfl ?_))
        refine kl_as rfl (kl_nil (kq_code (kc_if rfl (fun c590 => ?_) (fun c590 => ?_))))
        ·skip
         refine kc_seq (kc_region (kl_mv rfl (kl_mv rfl (kl_callT rfl rfl (pick_ok q30 (3 : Int) (by omega) hr) (fun v591 L1 Ln K595 h592 f593 f594 => ?_)))))
         obtain ⟨q596, h597, rfl, rfl, z598, rfl, h599⟩ := h592
         refine kl_norm ?_
         refine kl_add rfl rfl (by omega) ?_
         refine kl_callT rfl rfl (randomAutomaton_ok q596 ((1 : Int) + z598) (by first | assumption | omega) (by omega) hr) (fun v602 L1 Ln K606 h603 f604 f605 => ?_)
         obtain ⟨q607, h608, rfl, H611, z609, rfl, o612, h610⟩ := h603
         have f613 := f604 _ (.head _)
         have h610a := h610.1
         have h610b := h610.2
         refine kl_norm ?_
         refine kl_fdV rfl (kl_stB rfl rfl rfl (OwnL.oneCell (by assumption)) (OwnL.cells (by assumption)) ?_)
         refine kl_chg [sing br (.cells [vbr, .int .i64 (q607 : Int)].toArray 92 (0, 0)), H611, sing b37 (.cells [.int .i64 ((1 : Int) + z21), v25, .slice none 0 0, .int .i64 (0 : Int), v602].toArray 76 (0, 0)), H34, sing b1 (.cells [.int .i64 (0 : Int), .slice none 0 0, .slice none 0 0, .int .i64 (0 : Int), .slice none 0 0].toArray 76 (0, 0))] rfl ?_
         refine kl_nil (kq_code (kc_region (kl_fdV rfl (kl_ldB rfl rfl (kl_lenL rfl o612 (fun l614 => ?_))))))
         refine kl_sub rfl rfl (by omega) ?_
         refine kl_bs rfl rfl rfl (by decide) (ca rfl ca_nil) (fun v615 H616 f617 r618 s619 => ?_)
         have h620 : Ints H616 v615 [((z609.length : Int) - (1 : Int))] := litInts (xs := [((z609.length : Int) - (1 : Int))]) (by simpa using s619)
         refine kl_fdV rfl (kl_stB rfl rfl rfl (Sl.oneCell (by assumption)) (Sl.cells (by assumption)) ?_)
         refine kl_chg [sing br (.cells [vbr, .int .i64 (q607 : Int)].toArray 92 (0, 0)), H611, sing b37 (.cells [.int .i64 ((1 : Int) + z21), v25, v615, .int .i64 (0 : Int), v602].toArray 76 (0, 0)), H34, sing b1 (.cells [.int .i64 (0 : Int), .slice none 0 0, .slice none 0 0, .int .i64 (0 : Int), .slice none 0 0].toArray 76 (0, 0))] rfl ?_
         refine kl_nil (kq_code (kc_seq (kc_region (kl_ldW rfl rfl (kl_stW (us := [.int .i64 ((1 : Int) + z21), v25, v615, .int .i64 (0 : Int), v602]) rfl rfl rfl rfl (oc rfl (oc (OwnL.oneCell (by assumption)) (oc (Sl.oneCell (by assumption)) (oc rfl (oc (OwnL.oneCell (by assumption)) oc_nil))))) rfl ?_)))))
         refine kl_chg [sing br (.cells [vbr, .int .i64 (q607 : Int)].toArray 92 (0, 0)), H611, sing b37 (.cells [.int .i64 ((1 : Int) + z21), v25, v615, .int .i64 (0 : Int), v602].toArray 76 (0, 0)), H34, sing b1 (.cells [.int .i64 ((1 : Int) + z21), v25, v615, .int .i64 (0 : Int), v602].toArray 76 (0, 0))] rfl ?_
         refine kl_nil (kq_code (kc_ret (kq_frz H34 ?_)))
         refine kq_frz H611 ?_
         refine kq_cmp H611 K606 (fun c621 => ?_)
         refine kq_cmp H616 (orHp H611 K606) (fun c622 => ?_)
         refine kq_cmp H34 (orHp H616 (orHp H611 K606)) (fun c623 => ?_)
         exact kq_retTC rfl rfl rfl [sing br (.cells [vbr, .int .i64 (q607 : Int)].toArray 92 (0, 0))] [] (orHp H34 (orHp H616 (orHp H611 K606))) frn (fr_or f36 (fr_or f617 (fr_or f613 f605))) ⟨q607, by omega, rfl, ⟨((1 : Int) + z21), z32, ([((z609.length : Int) - (1 : Int))]), (0 : Int), z609⟩, rfl, ⟨_, rfl, _, _, _, rfl, (Sl.mono (OwnL.ints o35) (fun b o h => orL b o h) (fun _ _ h => h)), (Sl.mono (by assumption) (fun b o h => orC c623 b o (orL b o h)) (fun _ _ h => h)), (Rows.mono' (OwnL.rowsK o612 c621) (fun b o h => orC c623 b o (orC c622 b o h)))⟩, by (constructor <;> dsimp only <;> first | omega | exact all_nil | assumption | (simp; done) | (simp; omega) | (simp only [List.length_cons, List.length_nil]; omega))⟩
        ·skip
         refine kc_skipQ (kq_code (kc_seq (kc_region (kl_ldW rfl rfl (kl_stW (us := [.int .i64 ((1 : Int) + z21), v25, .slice none 0 0, .int .i64 (0 : Int), .slice none 0 0]) rfl rfl rfl rfl (oc rfl (oc (OwnL.oneCell (by assumption)) (oc rfl (oc rfl (oc rfl oc_nil))))) rfl ?_)))))
         refine kl_chg [sing b37 (.cells [.int .i64 ((1 : Int) + z21), v25, .slice none 0 0, .int .i64 (0 : Int), .slice none 0 0].toArray 76 (0, 0)), sing br (.cells [vbr, .int .i64 (q30 : Int)].toArray 92 (0, 0)), H34, sing b1 (.cells [.int .i64 ((1 : Int) + z21), v25, .slice none 0 0, .int .i64 (0 : Int), .slice none 0 0].toArray 76 (0, 0))] rfl ?_
         refine kl_nil (kq_code (kc_ret (kq_frz H34 ?_)))
         refine kq_cmp noHp noHp (fun c624 => ?_)
         refine kq_cmp H34 (orHp noHp noHp) (fun c625 => ?_)
         exact kq_retTC rfl rfl rfl [sing br (.cells [vbr, .int .i64 (q30 : Int)].toArray 92 (0, 0))] [] (orHp H34 (orHp noHp noHp)) frn (fr_or f36 (fr_or (fr_no _) (fr_no _))) ⟨q30, by omega, rfl, ⟨((1 : Int) + z21), z32, [], (0 : Int), []⟩, rfl, ⟨_, rfl, _, _, _, rfl, (Sl.mono (OwnL.ints o35) (fun b o h => orL b o h) (fun _ _ h => h)), (Sl.mono Sl.nil (fun b o h => orC c625 b o (orL b o h)) (fun _ _ h => h)), (Sl.mono Sl.nil (fun b o h => orC c625 b o (orC c624 b o h)) (fun _ _ h => h))⟩, by (constructor <;> dsimp only <;> first | omega | exact all_nil | assumption | (simp; done) | (simp; omega) | (simp only [List.length_cons, List.length_nil]; omega))⟩
theorem damage_ok {br : Nat} {vbr : Value} {Hr : Hp} {bsr : List Int} {Hcv : Hp} {vcv : Value} {Hca : Hp} {vca : Value} {Hcr : Hp} {vcr : Value} (pr : Nat) (c : Con) (hc : ConSm 50 c) (hp : pr + (3) ≤ 1000000) (hr : Bytes Hr vbr bsr) (hcv : Ints Hcv vcv c.vars) (hca : Ints Hca vca c.args) (hcr : Rows Hcr vcr c.rows) : SpecT Tryz.prog 84 [.pointer (some ⟨br, 0, none⟩), .agg #[.int .i64 c.kind, vcv, vca, .int .i64 c.bound, vcr]] [sing br (.cells [vbr, .int .i64 (pr : Int)].toArray 92 (0, 0))] [Hr, Hcv, Hca, Hcr] (fun vq L1 Ln Kq => ∃ q : Nat, q ≤ pr + (3) ∧ L1 = [sing br (.cells [vbr, .int .i64 (q : Int)].toArray 92 (0, 0))] ∧ ∃ cq : Con, Ln = [] ∧ ConR (orHp Kq (orHp Hcv (orHp Hca Hcr))) vq cq ∧ ConSm 100 cq) := by
 refine specT_of Tryz.func84 rfl rfl rfl (fun B => ?_)
 refine kc_seq (kc_region (kl_boxL (cs := [.int .i64 c.kind, vcv, vca, .int .i64 c.bound, vcr]) rfl rfl (fun b1 hb2 => ?_)))
 refine kl_alloc (cs := [.int .i64 (0 : Int), .slice none 0 0, .slice none 0 0, .int .i64 (0 : Int), .slice none 0 0]) rfl (fun b3 hb4 => ?_)
 refine kl_nil (kq_code (kc_seq (kc_seq (kc_region (kl_mv rfl (kl_callT rfl rfl (pick_ok pr (5 : Int) (by omega) hr) (fun v5 L1 Ln K9 h6 f7 f8 => ?_)))))))
 obtain ⟨q10, h11, rfl, rfl, z12, rfl, h13⟩ := h6
 refine kl_norm ?_
 refine kl_nil (kq_code (kc_block (kc_seq (kc_region (kl_eql rfl rfl ?_)))))
 refine kl_as rfl (kl_nil (kq_code (kc_if rfl (fun c16 => ?_) (fun c16 => ?_))))
 ·skip
  refine kc_region (kl_mv rfl (kl_bs rfl rfl rfl (by decide) (ca rfl (ca rfl (ca rfl (ca rfl ca_nil)))) (fun v17 H18 f19 r20 s21 => ?_)))
  have h22 : Ints H18 v17 [(0 : Int), (10 : Int), (1 : Int), (5 : Int)] := litInts (xs := [(0 : Int), (10 : Int), (1 : Int), (5 : Int)]) (by simpa using s21)
  refine kl_callT rfl rfl (one_ok q10 ([(0 : Int), (10 : Int), (1 : Int), (5 : Int)]) (by first | (simp; done) | omega) (by omega) hr (by assumption)) (fun v23 L1 Ln K27 h24 f25 f26 => ?_)
  obtain ⟨q28, h29, rfl, rfl, z30, rfl, h31⟩ := h24
  refine kl_norm ?_
  refine kl_fdV rfl (kl_stB rfl rfl rfl rfl rfl ?_)
  refine kl_chg [sing br (.cells [vbr, .int .i64 (q28 : Int)].toArray 92 (0, 0)), sing b3 (.cells [.int .i64 (0 : Int), .slice none 0 0, .slice none 0 0, .int .i64 (0 : Int), .slice none 0 0].toArray 76 (0, 0)), sing b1 (.cells [.int .i64 z30, vcv, vca, .int .i64 c.bound, vcr].toArray 76 (0, 0))] rfl ?_
  refine kl_nil (kq_code (kc_seq (kc_region (kl_ldW rfl rfl (kl_stW (us := [.int .i64 z30, vcv, vca, .int .i64 c.bound, vcr]) rfl rfl rfl rfl (oc rfl (oc (Sl.oneCell (by assumption)) (oc (Sl.oneCell (by assumption)) (oc rfl (oc (Sl.oneCell (by assumption)) oc_nil))))) rfl ?_)))))
  refine kl_chg [sing br (.cells [vbr, .int .i64 (q28 : Int)].toArray 92 (0, 0)), sing b3 (.cells [.int .i64 z30, vcv, vca, .int .i64 c.bound, vcr].toArray 76 (0, 0)), sing b1 (.cells [.int .i64 z30, vcv, vca, .int .i64 c.bound, vcr].toArray 76 (0, 0))] rfl ?_
  refine kl_nil (kq_code (kc_ret (kq_cmp Hca Hcr (fun c34 => ?_))))
  refine kq_cmp Hcv (orHp Hca Hcr) (fun c35 => ?_)
  refine kq_cmp noHp (orHp Hcv (orHp Hca Hcr)) (fun c36 => ?_)
  exact kq_retTC rfl rfl rfl [sing br (.cells [vbr, .int .i64 (q28 : Int)].toArray 92 (0, 0))] [] noHp frn (fr_no _) ⟨q28, by omega, rfl, ⟨z30, c.vars, c.args, c.bound, c.rows⟩, rfl, ⟨_, rfl, _, _, _, rfl, (Sl.mono (by assumption) (fun b o h => orC c36 b o (orL b o h)) (fun _ _ h => h)), (Sl.mono (by assumption) (fun b o h => orC c36 b o (orC c35 b o (orL b o h))) (fun _ _ h => h)), (Rows.mono' (by assumption) (fun b o h => orC c36 b o (orC c35 b o (orC c34 b o h))))⟩, by (have h1 := hc.v1; have h2 := hc.v; have h3 := hc.a; have h4 := hc.r; have h5 := hc.rr; constructor <;> dsimp only <;> first | omega | assumption | (simp; done) | (simp; omega))⟩
 ·skip
  refine kc_seq (kc_region (kl_eql rfl rfl ?_))
  refine kl_as rfl (kl_nil (kq_code (kc_if rfl (fun c37 => ?_) (fun c37 => ?_))))
  ·skip
   refine kc_tree (fun i => ([8, 10] : List Nat).contains i) [sing b1 (.cells [.int .i64 c.kind, vcv, vca, .int .i64 c.bound, vcr].toArray 76 (0, 0))] (by kernel_rfl) ?_
   refine kt_q 0 (.cons _ (.cons _ (.cons_cons _ (List.nil_sublist _)))) rfl (by kernel_rfl) (kl_fdV rfl (kl_nil (kq_q (kt_q 1 (.cons _ (.cons _ (.cons_cons _ (List.nil_sublist _)))) rfl (by kernel_rfl) (kl_ld rfl (at_box (T := 76) (cs := [.int .i64 c.kind, vcv, vca, .int .i64 c.bound, vcr]) (off := 1) (fz := (0, 0))) (kl_nil (kq_q (kt_q 3 (.cons _ (.cons _ (.cons_cons _ (List.nil_sublist _)))) rfl (by kernel_rfl) ?_))))))))
   refine kl_fdV rfl (kl_nil (kq_q (kt_q 4 (.cons _ (.cons _ (.cons_cons _ (List.nil_sublist _)))) rfl (by kernel_rfl) (kl_ld rfl (at_box (T := 76) (cs := [.int .i64 c.kind, vcv, vca, .int .i64 c.bound, vcr]) (off := 1) (fz := (0, 0))) (kl_nil (kq_q (kt_q 5 (.cons _ (.cons _ (.cons_cons _ (List.nil_sublist _)))) rfl (by kernel_rfl) (kl_inI (i := 0) rfl rfl (by assumption) (by (have h1 := hc.v1; omega)) (fun p38 a39 => ?_)))))))))
   refine kl_nil (kq_q (kt_q 6 (.cons _ (.cons _ (.cons_cons _ (List.nil_sublist _)))) rfl (by kernel_rfl) (kl_ld rfl (by assumption) (kl_nil (kq_q (kt_b 2 7 rfl rfl (by kernel_rfl) ?_ ?_))))))
   ·skip
    refine kl_callL rfl rfl (copyInts_ok c.vars (by have h1 := hc.v; have h2 := hc.a; omega) (by assumption)) (fun v40 H41 f42 o43 => ?_)
    refine kl_nil (kq_a (.cons _ (.cons _ (.cons _ (.cons_cons _ (List.nil_sublist _))))) (kt_a 7 rfl (by kernel_rfl) (kl_bs rfl rfl rfl (by decide) (ca rfl ca_nil) (fun v44 H45 f46 r47 s48 => ?_))))
    have h49 : Ints H45 v44 [(c.vars.getD 0 0)] := litInts (xs := [(c.vars.getD 0 0)]) (by simpa using s48)
    refine kl_nil (kq_a (.cons _ (.cons _ (.cons _ (.cons_cons _ (List.nil_sublist _))))) (kt_a 8 rfl (by kernel_rfl) (kl_apL (c.vars.getD 0 0) rfl rfl o43 (by assumption) rfl (oc rfl oc_nil) (by (have h1 := hc.v; have h2 := hc.a; omega)) (by decide) (fun v50 H51 o52 f53 => ?_))))
    have f54 := f53 B f42 (Nat.le_refl _)
    refine kl_nil (kq_x rfl (kt_q 9 (.cons _ (.cons _ (.cons _ (.cons_cons _ (List.nil_sublist _))))) rfl (by kernel_rfl) (kl_fdV rfl (kl_nil (kq_q (kt_a 10 rfl (by kernel_rfl) (kl_stB rfl rfl rfl (OwnL.oneCell (by assumption)) (OwnL.cells (by assumption)) ?_)))))))
    refine kl_chg [H51, sing br (.cells [vbr, .int .i64 (q10 : Int)].toArray 92 (0, 0)), sing b3 (.cells [.int .i64 (0 : Int), .slice none 0 0, .slice none 0 0, .int .i64 (0 : Int), .slice none 0 0].toArray 76 (0, 0)), sing b1 (.cells [.int .i64 c.kind, v50, vca, .int .i64 c.bound, vcr].toArray 76 (0, 0))] rfl ?_
    refine kl_nil (kq_x rfl (kt_end (by kernel_rfl) ?_))
    refine kq_code (kc_seq (kc_region (kl_ldW rfl rfl (kl_stW (us := [.int .i64 c.kind, v50, vca, .int .i64 c.bound, vcr]) rfl rfl rfl rfl (oc rfl (oc (OwnL.oneCell (by assumption)) (oc (Sl.oneCell (by assumption)) (oc rfl (oc (Sl.oneCell (by assumption)) oc_nil))))) rfl ?_))))
    refine kl_chg [H51, sing br (.cells [vbr, .int .i64 (q10 : Int)].toArray 92 (0, 0)), sing b3 (.cells [.int .i64 c.kind, v50, vca, .int .i64 c.bound, vcr].toArray 76 (0, 0)), sing b1 (.cells [.int .i64 c.kind, v50, vca, .int .i64 c.bound, vcr].toArray 76 (0, 0))] rfl ?_
    refine kl_nil (kq_code (kc_ret (kq_frz H51 ?_)))
    refine kq_cmp Hca Hcr (fun c55 => ?_)
    refine kq_cmp Hcv (orHp Hca Hcr) (fun c56 => ?_)
    refine kq_cmp H51 (orHp Hcv (orHp Hca Hcr)) (fun c57 => ?_)
    exact kq_retTC rfl rfl rfl [sing br (.cells [vbr, .int .i64 (q10 : Int)].toArray 92 (0, 0))] [] H51 frn f54 ⟨q10, by omega, rfl, ⟨c.kind, (c.vars ++ [(c.vars.getD 0 0)]), c.args, c.bound, c.rows⟩, rfl, ⟨_, rfl, _, _, _, rfl, (Sl.mono (OwnL.ints o52) (fun b o h => orL b o h) (fun _ _ h => h)), (Sl.mono (by assumption) (fun b o h => orC c57 b o (orC c56 b o (orL b o h))) (fun _ _ h => h)), (Rows.mono' (by assumption) (fun b o h => orC c57 b o (orC c56 b o (orC c55 b o h))))⟩, by (have h1 := hc.v1; have h2 := hc.v; have h3 := hc.a; have h4 := hc.r; have h5 := hc.rr; constructor <;> dsimp only <;> first | omega | assumption | (simp; done) | (simp; omega))⟩
   ·skip
    refine kl_bs rfl rfl rfl (by decide) (ca rfl ca_nil) (fun v58 H59 f60 r61 s62 => ?_)
    have h63 : Ints H59 v58 [(c.vars.getD 0 0)] := litInts (xs := [(c.vars.getD 0 0)]) (by simpa using s62)
    refine kl_nil (kq_a (.cons _ (.cons _ (.cons_cons _ (List.nil_sublist _)))) (kt_a 2 rfl (by kernel_rfl) (kl_callL rfl rfl (copyInts_ok c.vars (by have h1 := hc.v; have h2 := hc.a; omega) (by assumption)) (fun v64 H65 f66 o67 => ?_))))
    refine kl_nil (kq_a (.cons _ (.cons _ (.cons _ (.cons_cons _ (List.nil_sublist _))))) (kt_a 8 rfl (by kernel_rfl) (kl_apL (c.vars.getD 0 0) rfl rfl o67 (by assumption) rfl (oc rfl oc_nil) (by (have h1 := hc.v; have h2 := hc.a; omega)) (by decide) (fun v68 H69 o70 f71 => ?_))))
    have f72 := f71 B f66 (Nat.le_refl _)
    refine kl_nil (kq_x rfl (kt_q 9 (.cons _ (.cons _ (.cons _ (.cons_cons _ (List.nil_sublist _))))) rfl (by kernel_rfl) (kl_fdV rfl (kl_nil (kq_q (kt_a 10 rfl (by kernel_rfl) (kl_stB rfl rfl rfl (OwnL.oneCell (by assumption)) (OwnL.cells (by assumption)) ?_)))))))
    refine kl_chg [H69, sing br (.cells [vbr, .int .i64 (q10 : Int)].toArray 92 (0, 0)), sing b3 (.cells [.int .i64 (0 : Int), .slice none 0 0, .slice none 0 0, .int .i64 (0 : Int), .slice none 0 0].toArray 76 (0, 0)), sing b1 (.cells [.int .i64 c.kind, v68, vca, .int .i64 c.bound, vcr].toArray 76 (0, 0))] rfl ?_
    refine kl_nil (kq_x rfl (kt_end (by kernel_rfl) ?_))
    refine kq_code (kc_seq (kc_region (kl_ldW rfl rfl (kl_stW (us := [.int .i64 c.kind, v68, vca, .int .i64 c.bound, vcr]) rfl rfl rfl rfl (oc rfl (oc (OwnL.oneCell (by assumption)) (oc (Sl.oneCell (by assumption)) (oc rfl (oc (Sl.oneCell (by assumption)) oc_nil))))) rfl ?_))))
    refine kl_chg [H69, sing br (.cells [vbr, .int .i64 (q10 : Int)].toArray 92 (0, 0)), sing b3 (.cells [.int .i64 c.kind, v68, vca, .int .i64 c.bound, vcr].toArray 76 (0, 0)), sing b1 (.cells [.int .i64 c.kind, v68, vca, .int .i64 c.bound, vcr].toArray 76 (0, 0))] rfl ?_
    refine kl_nil (kq_code (kc_ret (kq_frz H69 ?_)))
    refine kq_cmp Hca Hcr (fun c73 => ?_)
    refine kq_cmp Hcv (orHp Hca Hcr) (fun c74 => ?_)
    refine kq_cmp H69 (orHp Hcv (orHp Hca Hcr)) (fun c75 => ?_)
    exact kq_retTC rfl rfl rfl [sing br (.cells [vbr, .int .i64 (q10 : Int)].toArray 92 (0, 0))] [] H69 frn f72 ⟨q10, by omega, rfl, ⟨c.kind, (c.vars ++ [(c.vars.getD 0 0)]), c.args, c.bound, c.rows⟩, rfl, ⟨_, rfl, _, _, _, rfl, (Sl.mono (OwnL.ints o70) (fun b o h => orL b o h) (fun _ _ h => h)), (Sl.mono (by assumption) (fun b o h => orC c75 b o (orC c74 b o (orL b o h))) (fun _ _ h => h)), (Rows.mono' (by assumption) (fun b o h => orC c75 b o (orC c74 b o (orC c73 b o h))))⟩, by (have h1 := hc.v1; have h2 := hc.v; have h3 := hc.a; have h4 := hc.r; have h5 := hc.rr; constructor <;> dsimp only <;> first | omega | assumption | (simp; done) | (simp; omega))⟩
  ·skip
   refine kc_seq (kc_region (kl_eql rfl rfl ?_))
   refine kl_as rfl (kl_nil (kq_code (kc_if rfl (fun c76 => ?_) (fun c76 => ?_))))
   ·skip
    refine kc_region (kl_fdV rfl (kl_ldB rfl rfl (kl_callL rfl rfl (copyInts_ok c.args (by have h1 := hc.v; have h2 := hc.a; omega) (by assumption)) (fun v77 H78 f79 o80 => ?_))))
    refine kl_bs rfl rfl rfl (by decide) (ca rfl ca_nil) (fun v81 H82 f83 r84 s85 => ?_)
    have h86 : Ints H82 v81 [(1 : Int)] := litInts (xs := [(1 : Int)]) (by simpa using s85)
    refine kl_apL (1 : Int) rfl rfl o80 (by assumption) rfl (oc rfl oc_nil) (by (have h1 := hc.v; have h2 := hc.a; omega)) (by decide) (fun v87 H88 o89 f90 => ?_)
    have f91 := f90 B f79 (Nat.le_refl _)
    refine kl_fdV rfl (kl_stB rfl rfl rfl (OwnL.oneCell (by assumption)) (OwnL.cells (by assumption)) ?_)
    refine kl_chg [H88, sing br (.cells [vbr, .int .i64 (q10 : Int)].toArray 92 (0, 0)), sing b3 (.cells [.int .i64 (0 : Int), .slice none 0 0, .slice none 0 0, .int .i64 (0 : Int), .slice none 0 0].toArray 76 (0, 0)), sing b1 (.cells [.int .i64 c.kind, vcv, v87, .int .i64 c.bound, vcr].toArray 76 (0, 0))] rfl ?_
    refine kl_nil (kq_code (kc_seq (kc_region (kl_ldW rfl rfl (kl_stW (us := [.int .i64 c.kind, vcv, v87, .int .i64 c.bound, vcr]) rfl rfl rfl rfl (oc rfl (oc (Sl.oneCell (by assumption)) (oc (OwnL.oneCell (by assumption)) (oc rfl (oc (Sl.oneCell (by assumption)) oc_nil))))) rfl ?_)))))
    refine kl_chg [H88, sing br (.cells [vbr, .int .i64 (q10 : Int)].toArray 92 (0, 0)), sing b3 (.cells [.int .i64 c.kind, vcv, v87, .int .i64 c.bound, vcr].toArray 76 (0, 0)), sing b1 (.cells [.int .i64 c.kind, vcv, v87, .int .i64 c.bound, vcr].toArray 76 (0, 0))] rfl ?_
    refine kl_nil (kq_code (kc_ret (kq_frz H88 ?_)))
    refine kq_cmp Hca Hcr (fun c92 => ?_)
    refine kq_cmp Hcv (orHp Hca Hcr) (fun c93 => ?_)
    refine kq_cmp H88 (orHp Hcv (orHp Hca Hcr)) (fun c94 => ?_)
    exact kq_retTC rfl rfl rfl [sing br (.cells [vbr, .int .i64 (q10 : Int)].toArray 92 (0, 0))] [] H88 frn f91 ⟨q10, by omega, rfl, ⟨c.kind, c.vars, (c.args ++ [(1 : Int)]), c.bound, c.rows⟩, rfl, ⟨_, rfl, _, _, _, rfl, (Sl.mono (by assumption) (fun b o h => orC c94 b o (orL b o h)) (fun _ _ h => h)), (Sl.mono (OwnL.ints o89) (fun b o h => orL b o h) (fun _ _ h => h)), (Rows.mono' (by assumption) (fun b o h => orC c94 b o (orC c93 b o (orC c92 b o h))))⟩, by (have h1 := hc.v1; have h2 := hc.v; have h3 := hc.a; have h4 := hc.r; have h5 := hc.rr; constructor <;> dsimp only <;> first | omega | assumption | (simp; done) | (simp; omega))⟩
   ·skip
    refine kc_seq (kc_region (kl_eql rfl rfl ?_))
    refine kl_as rfl (kl_nil (kq_code (kc_if rfl (fun c95 => ?_) (fun c95 => ?_))))
    ·skip
     refine kc_region (kl_mv rfl (kl_bs rfl rfl rfl (by decide) (ca rfl (ca rfl (ca rfl ca_nil))) (fun v96 H97 f98 r99 s100 => ?_)))
     have h101 : Ints H97 v96 [(-1000 : Int), (1000 : Int), (5 : Int)] := litInts (xs := [(-1000 : Int), (1000 : Int), (5 : Int)]) (by simpa using s100)
     refine kl_callT rfl rfl (one_ok q10 ([(-1000 : Int), (1000 : Int), (5 : Int)]) (by first | (simp; done) | omega) (by omega) hr (by assumption)) (fun v102 L1 Ln K106 h103 f104 f105 => ?_)
     obtain ⟨q107, h108, rfl, rfl, z109, rfl, h110⟩ := h103
     refine kl_norm ?_
     refine kl_fdV rfl (kl_stB rfl rfl rfl rfl rfl ?_)
     refine kl_chg [sing br (.cells [vbr, .int .i64 (q107 : Int)].toArray 92 (0, 0)), sing b3 (.cells [.int .i64 (0 : Int), .slice none 0 0, .slice none 0 0, .int .i64 (0 : Int), .slice none 0 0].toArray 76 (0, 0)), sing b1 (.cells [.int .i64 c.kind, vcv, vca, .int .i64 z109, vcr].toArray 76 (0, 0))] rfl ?_
     refine kl_nil (kq_code (kc_seq (kc_region (kl_ldW rfl rfl (kl_stW (us := [.int .i64 c.kind, vcv, vca, .int .i64 z109, vcr]) rfl rfl rfl rfl (oc rfl (oc (Sl.oneCell (by assumption)) (oc (Sl.oneCell (by assumption)) (oc rfl (oc (Sl.oneCell (by assumption)) oc_nil))))) rfl ?_)))))
     refine kl_chg [sing br (.cells [vbr, .int .i64 (q107 : Int)].toArray 92 (0, 0)), sing b3 (.cells [.int .i64 c.kind, vcv, vca, .int .i64 z109, vcr].toArray 76 (0, 0)), sing b1 (.cells [.int .i64 c.kind, vcv, vca, .int .i64 z109, vcr].toArray 76 (0, 0))] rfl ?_
     refine kl_nil (kq_code (kc_ret (kq_cmp Hca Hcr (fun c113 => ?_))))
     refine kq_cmp Hcv (orHp Hca Hcr) (fun c114 => ?_)
     refine kq_cmp noHp (orHp Hcv (orHp Hca Hcr)) (fun c115 => ?_)
     exact kq_retTC rfl rfl rfl [sing br (.cells [vbr, .int .i64 (q107 : Int)].toArray 92 (0, 0))] [] noHp frn (fr_no _) ⟨q107, by omega, rfl, ⟨c.kind, c.vars, c.args, z109, c.rows⟩, rfl, ⟨_, rfl, _, _, _, rfl, (Sl.mono (by assumption) (fun b o h => orC c115 b o (orL b o h)) (fun _ _ h => h)), (Sl.mono (by assumption) (fun b o h => orC c115 b o (orC c114 b o (orL b o h))) (fun _ _ h => h)), (Rows.mono' (by assumption) (fun b o h => orC c115 b o (orC c114 b o (orC c113 b o h))))⟩, by (have h1 := hc.v1; have h2 := hc.v; have h3 := hc.a; have h4 := hc.r; have h5 := hc.rr; constructor <;> dsimp only <;> first | omega | assumption | (simp; done) | (simp; omega))⟩
    ·skip
     refine kc_region (kl_mv rfl (kl_bs rfl rfl rfl (by decide) (ca rfl (ca rfl ca_nil)) (fun v116 H117 f118 r119 s120 => ?_)))
     have h121 : Ints H117 v116 [(-1 : Int), (4 : Int)] := litInts (xs := [(-1 : Int), (4 : Int)]) (by simpa using s120)
     refine kl_callT rfl rfl (one_ok q10 ([(-1 : Int), (4 : Int)]) (by first | (simp; done) | omega) (by omega) hr (by assumption)) (fun v122 L1 Ln K126 h123 f124 f125 => ?_)
     obtain ⟨q127, h128, rfl, rfl, z129, rfl, h130⟩ := h123
     refine kl_norm ?_
     refine kl_bs rfl rfl rfl (by decide) (ca rfl ca_nil) (fun v133 H134 f135 r136 s137 => ?_)
     have h138 : Ints H134 v133 [z129] := litInts (xs := [z129]) (by simpa using s137)
     refine kl_fdV rfl (kl_stB rfl rfl rfl (Sl.oneCell (by assumption)) (Sl.cells (by assumption)) ?_)
     refine kl_chg [sing br (.cells [vbr, .int .i64 (q127 : Int)].toArray 92 (0, 0)), sing b3 (.cells [.int .i64 (0 : Int), .slice none 0 0, .slice none 0 0, .int .i64 (0 : Int), .slice none 0 0].toArray 76 (0, 0)), sing b1 (.cells [.int .i64 c.kind, v133, vca, .int .i64 c.bound, vcr].toArray 76 (0, 0))] rfl ?_
     refine kl_nil (kq_code (kc_seq (kc_region (kl_ldW rfl rfl (kl_stW (us := [.int .i64 c.kind, v133, vca, .int .i64 c.bound, vcr]) rfl rfl rfl rfl (oc rfl (oc (Sl.oneCell (by assumption)) (oc (Sl.oneCell (by assumption)) (oc rfl (oc (Sl.oneCell (by assumption)) oc_nil))))) rfl ?_)))))
     refine kl_chg [sing br (.cells [vbr, .int .i64 (q127 : Int)].toArray 92 (0, 0)), sing b3 (.cells [.int .i64 c.kind, v133, vca, .int .i64 c.bound, vcr].toArray 76 (0, 0)), sing b1 (.cells [.int .i64 c.kind, v133, vca, .int .i64 c.bound, vcr].toArray 76 (0, 0))] rfl ?_
     refine kl_nil (kq_code (kc_ret (kq_cmp Hca Hcr (fun c139 => ?_))))
     refine kq_cmp Hcv (orHp Hca Hcr) (fun c140 => ?_)
     refine kq_cmp H134 (orHp Hcv (orHp Hca Hcr)) (fun c141 => ?_)
     exact kq_retTC rfl rfl rfl [sing br (.cells [vbr, .int .i64 (q127 : Int)].toArray 92 (0, 0))] [] H134 frn f135 ⟨q127, by omega, rfl, ⟨c.kind, ([z129]), c.args, c.bound, c.rows⟩, rfl, ⟨_, rfl, _, _, _, rfl, (Sl.mono (by assumption) (fun b o h => orL b o h) (fun _ _ h => h)), (Sl.mono (by assumption) (fun b o h => orC c141 b o (orC c140 b o (orL b o h))) (fun _ _ h => h)), (Rows.mono' (by assumption) (fun b o h => orC c141 b o (orC c140 b o (orC c139 b o h))))⟩, by (have h1 := hc.v1; have h2 := hc.v; have h3 := hc.a; have h4 := hc.r; have h5 := hc.rr; constructor <;> dsimp only <;> first | omega | assumption | (simp; done) | (simp; omega))⟩
theorem randomModel_ok {br : Nat} {vbr : Value} {Hr : Hp} {bsr : List Int} (pr : Nat) (hp : pr + (500) ≤ 1000000) (hr : Bytes Hr vbr bsr) : SpecT Tryz.prog 82 [.pointer (some ⟨br, 0, none⟩)] [sing br (.cells [vbr, .int .i64 (pr : Int)].toArray 92 (0, 0))] [Hr] (fun vq L1 Ln Kq => ∃ q : Nat, q ≤ pr + (500) ∧ L1 = [sing br (.cells [vbr, .int .i64 (q : Int)].toArray 92 (0, 0))] ∧ ∃ (Hq Mq : Hp) (va vc : Value) (mq : Mod), vq = .agg #[va, vc] ∧ Ln = [Hq, Mq] ∧ OwnL 3 1 Hq noHp IntV va mq.doms ∧ OwnL 76 5 Mq Kq ConV vc mq.cons ∧ ModSm 50 mq) := by
 refine specT_of Tryz.func82 rfl rfl rfl (fun B => ?_)
 refine kc_seq (kc_region (kl_alloc (cs := [.slice none 0 0, .slice none 0 0]) rfl (fun b1 hb2 => ?_)))
 refine kl_nil (kq_code (kc_seq (kc_region (kl_bd rfl cp_nil rfl ?_))))
 refine kl_alloc (cs := [.slice none 0 0, .slice none 0 0]) rfl (fun b3 hb4 => ?_)
 refine kl_stW (us := [.slice none 0 0, .slice none 0 0]) rfl rfl rfl rfl (oc rfl (oc rfl oc_nil)) rfl ?_
 refine kl_chg [sing b3 (.cells [.slice none 0 0, .slice none 0 0].toArray 31 (0, 0)), sing b1 (.cells [.slice none 0 0, .slice none 0 0].toArray 31 (0, 0)), sing br (.cells [vbr, .int .i64 (pr : Int)].toArray 92 (0, 0))] rfl ?_
 refine kl_nil (kq_code (kc_seq (kc_seq (kc_region (kl_mv rfl (kl_callT rfl rfl (pick_ok pr (4 : Int) (by omega) hr) (fun v5 L1 Ln K9 h6 f7 f8 => ?_)))))))
 obtain ⟨q10, h11, rfl, rfl, z12, rfl, h13⟩ := h6
 refine kl_norm ?_
 refine kl_add rfl rfl (by omega) ?_
 refine kl_as rfl (kl_nil (kq_code (kc_block (kc_no ?_))))
 refine kc_loopL (A := Int × List Int × Value × Hp × Nat) (fun zz => (0 ≤ zz.1 ∧ zz.1 ≤ 4 ∧ zz.2.1.length + zz.1.toNat ≤ 4 ∧ 1 ≤ zz.2.1.length + zz.1.toNat) ∧ OwnL 3 1 zz.2.2.2.1 noHp IntV zz.2.2.1 zz.2.1 ∧ Fr B zz.2.2.2.1 ∧ zz.2.2.2.2 ≤ q10 + 3 * (4 - zz.1).toNat) (fun zz => zz.1.toNat) (fun zz => [zz.2.2.2.1, sing br (.cells [vbr, .int .i64 (zz.2.2.2.2 : Int)].toArray 92 (0, 0)), sing b3 (.cells [zz.2.2.1, .slice none 0 0].toArray 31 (0, 0)), sing b1 (.cells [.slice none 0 0, .slice none 0 0].toArray 31 (0, 0))]) (fun zz => [(4, .int .i64 zz.1)]) (((1 : Int) + z12), [], .slice none 0 0, noHp, q10) (pc 0 rfl (pc 2 rfl (pc 3 rfl pn))) (pc 4 rfl pn) rfl ⟨⟨by dsimp only; omega, by dsimp only; omega, by dsimp only; simp; omega, by dsimp only; simp; omega⟩, OwnL.nil, (fr_no _), (by first | omega | (dsimp only; omega))⟩ ?_
 rintro ⟨k, ds, v21, H18, q23⟩ hJ25
 obtain ⟨hi17, o19, f20, hq24⟩ : (0 ≤ k ∧ k ≤ 4 ∧ ds.length + k.toNat ≤ 4 ∧ 1 ≤ ds.length + k.toNat) ∧ OwnL 3 1 H18 noHp IntV v21 ds ∧ Fr B H18 ∧ q23 ≤ q10 + 3 * (4 - k).toNat := hJ25
 change KC _ _ (_) [H18, sing br (.cells [vbr, .int .i64 (q23 : Int)].toArray 92 (0, 0)), sing b3 (.cells [v21, .slice none 0 0].toArray 31 (0, 0)), sing b1 (.cells [.slice none 0 0, .slice none 0 0].toArray 31 (0, 0))] _ ([(4, .int .i64 k)] ++ _)
 refine kc_seq (kc_seq (kc_region (kl_mv rfl (kl_gtr rfl rfl ?_))))
 refine kl_nil (kq_code (kc_if rfl (fun c26 => ?_) (fun c26 => ?_)))
 ·skip
  refine kc_skipQ (kq_code (kc_seq (kc_block (kc_tree (fun i => ([5, 7] : List Nat).contains i) [sing b3 (.cells [v21, .slice none 0 0].toArray 31 (0, 0))] (by kernel_rfl) ?_))))
  refine kt_q 0 (.cons _ (.cons _ (.cons_cons _ (List.nil_sublist _)))) rfl (by kernel_rfl) (kl_fdV rfl (kl_nil (kq_q (kt_q 1 (.cons _ (.cons _ (.cons_cons _ (List.nil_sublist _)))) rfl (by kernel_rfl) (kl_ld rfl (at_box (T := 31) (cs := [v21, .slice none 0 0]) (off := 0) (fz := (0, 0))) (kl_nil (kq_q (kt_q 2 (.cons _ (.cons _ (.cons_cons _ (List.nil_sublist _)))) rfl (by kernel_rfl) (kl_mv rfl ?_)))))))))
  refine kl_nil (kq_q (kt_a 3 rfl (by kernel_rfl) (kl_callT rfl rfl (randomDomain_ok q23 (by omega) hr) (fun v27 L1 Ln K31 h28 f29 f30 => ?_))))
  obtain ⟨q32, h33, rfl, rfl, z34, rfl, h35⟩ := h28
  refine kl_norm ?_
  refine kl_nil (kq_a (.cons _ (.cons _ (.cons_cons _ (List.nil_sublist _)))) (kt_a 4 rfl (by kernel_rfl) (kl_bs rfl rfl rfl (by decide) (ca rfl ca_nil) (fun v38 H39 f40 r41 s42 => ?_))))
  have h43 : Ints H39 v38 [z34] := litInts (xs := [z34]) (by simpa using s42)
  refine kl_nil (kq_a (.cons _ (.cons _ (.cons_cons _ (List.nil_sublist _)))) (kt_a 5 rfl (by kernel_rfl) (kl_apL z34 rfl rfl o19 (by assumption) rfl (oc rfl oc_nil) (by omega) (by decide) (fun v44 H45 o46 f47 => ?_))))
  have f48 := f47 B f20 (Nat.le_refl _)
  refine kl_nil (kq_x rfl (kt_q 6 (.cons _ (.cons _ (.cons_cons _ (List.nil_sublist _)))) rfl (by kernel_rfl) (kl_fdV rfl (kl_nil (kq_q (kt_a 7 rfl (by kernel_rfl) (kl_stB rfl rfl rfl (OwnL.oneCell (by assumption)) (OwnL.cells (by assumption)) ?_)))))))
  refine kl_chg [sing br (.cells [vbr, .int .i64 (q32 : Int)].toArray 92 (0, 0)), H45, sing b3 (.cells [v44, .slice none 0 0].toArray 31 (0, 0)), sing b1 (.cells [.slice none 0 0, .slice none 0 0].toArray 31 (0, 0))] rfl ?_
  refine kl_nil (kq_x rfl (kt_end (by kernel_rfl) ?_))
  refine kq_code (kc_region (kl_mv rfl (kl_sub rfl rfl (by omega) ?_)))
  refine kl_as rfl (kl_nil (kq_take [H45, sing br (.cells [vbr, .int .i64 (q32 : Int)].toArray 92 (0, 0)), sing b3 (.cells [v44, .slice none 0 0].toArray 31 (0, 0)), sing b1 (.cells [.slice none 0 0, .slice none 0 0].toArray 31 (0, 0))] ?_))
  refine kq_roundL ((k - (1 : Int)), (ds ++ [z34]), v44, H45, q32) (by (dsimp only; omega)) (⟨⟨by dsimp only; omega, by dsimp only; omega, by simp; omega, by simp; omega⟩, o46, f48, (by first | omega | (dsimp only; omega))⟩) (pc 4 rfl pn) (pc 0 rfl (pc 2 rfl (pc 3 rfl pn))) rfl (List.Sublist.refl _)
 ·skip
  refine kc_exit (kq_code (kc_seq (kc_seq (kc_region (kl_mv rfl (kl_callT rfl rfl (pick_ok q23 (5 : Int) (by omega) hr) (fun v49 L1 Ln K53 h50 f51 f52 => ?_)))))))
  obtain ⟨q54, h55, rfl, rfl, z56, rfl, h57⟩ := h50
  refine kl_norm ?_
  refine kl_as rfl (kl_nil (kq_code (kc_block (kc_no ?_))))
  refine kc_loopK (A := Int × List Con × Value × Hp × Hp × Nat) (fun zz => (0 ≤ zz.1 ∧ zz.1 ≤ 4 ∧ zz.2.1.length + zz.1.toNat ≤ 4 ∧ ∀ c ∈ zz.2.1, ConSm 50 c) ∧ Fr B zz.2.2.2.2.1 ∧ OwnL 76 5 zz.2.2.2.1 zz.2.2.2.2.1 ConV zz.2.2.1 zz.2.1 ∧ Fr B zz.2.2.2.1 ∧ zz.2.2.2.2.2 ≤ q54 + 100 * (4 - zz.1).toNat) (fun zz => zz.1.toNat) (fun zz => zz.2.2.2.2.1) (fun zz => [zz.2.2.2.1, sing br (.cells [vbr, .int .i64 (zz.2.2.2.2.2 : Int)].toArray 92 (0, 0)), H18, sing b3 (.cells [v21, zz.2.2.1].toArray 31 (0, 0)), sing b1 (.cells [.slice none 0 0, .slice none 0 0].toArray 31 (0, 0))]) (fun zz => [(5, .int .i64 zz.1)]) (z56, [], .slice none 0 0, noHp, noHp, q54) (pc 0 rfl (pc 2 rfl (pc 3 rfl pn))) (pc 5 rfl pn) rfl ⟨⟨by dsimp only; omega, by dsimp only; omega, by dsimp only; simp; omega, all_nil⟩, (fr_no _), OwnL.nil, (fr_no _), (by first | omega | (dsimp only; omega))⟩ ?_
  rintro ⟨k, cs, v65, H62, K66, q69⟩ hJ71
  obtain ⟨hi61, f67, o63, f64, hq70⟩ : (0 ≤ k ∧ k ≤ 4 ∧ cs.length + k.toNat ≤ 4 ∧ ∀ c ∈ cs, ConSm 50 c) ∧ Fr B K66 ∧ OwnL 76 5 H62 K66 ConV v65 cs ∧ Fr B H62 ∧ q69 ≤ q54 + 100 * (4 - k).toNat := hJ71
  change KC _ _ (K66 :: _) [H62, sing br (.cells [vbr, .int .i64 (q69 : Int)].toArray 92 (0, 0)), H18, sing b3 (.cells [v21, v65].toArray 31 (0, 0)), sing b1 (.cells [.slice none 0 0, .slice none 0 0].toArray 31 (0, 0))] _ ([(5, .int .i64 k)] ++ _)
  have hall := hi61.2.2.2
  refine kc_seq (kc_seq (kc_region (kl_mv rfl (kl_gtr rfl rfl ?_))))
  refine kl_nil (kq_code (kc_if rfl (fun c72 => ?_) (fun c72 => ?_)))
  ·skip
   refine kc_skipQ (kq_code (kc_seq (kc_block (kc_tree (fun i => ([8, 10] : List Nat).contains i) [sing b3 (.cells [v21, v65].toArray 31 (0, 0))] (by kernel_rfl) ?_))))
   refine kt_q 0 (.cons _ (.cons _ (.cons _ (.cons_cons _ (List.nil_sublist _))))) rfl (by kernel_rfl) (kl_fdV rfl (kl_nil (kq_q (kt_q 1 (.cons _ (.cons _ (.cons _ (.cons_cons _ (List.nil_sublist _))))) rfl (by kernel_rfl) (kl_ld rfl (at_box (T := 31) (cs := [v21, v65]) (off := 1) (fz := (0, 0))) (kl_nil (kq_q (kt_q 2 (.cons _ (.cons _ (.cons _ (.cons_cons _ (List.nil_sublist _))))) rfl (by kernel_rfl) ?_))))))))
   refine kl_mv rfl (kl_nil (kq_q (kt_q 3 (.cons _ (.cons _ (.cons _ (.cons_cons _ (List.nil_sublist _))))) rfl (by kernel_rfl) (kl_fdV rfl (kl_nil (kq_q (kt_q 4 (.cons _ (.cons _ (.cons _ (.cons_cons _ (List.nil_sublist _))))) rfl (by kernel_rfl) (kl_ld rfl (at_box (T := 31) (cs := [v21, v65]) (off := 0) (fz := (0, 0))) (kl_nil (kq_q (kt_q 5 (.cons _ (.cons _ (.cons _ (.cons_cons _ (List.nil_sublist _))))) rfl (by kernel_rfl) ?_)))))))))))
   refine kl_lenL rfl o19 (fun l73 => ?_)
   refine kl_nil (kq_q (kt_a 6 rfl (by kernel_rfl) (kl_callT rfl rfl (randomConstraint_ok q69 (ds.length : Int) (by first | assumption | omega) (by omega) hr) (fun v74 L1 Ln K78 h75 f76 f77 => ?_))))
   obtain ⟨q79, h80, rfl, z81, rfl, h85, h82⟩ := h75
   obtain ⟨_, rfl, h89⟩ := h85
   have h89' := h89
   obtain ⟨u86, u87, u88, rfl, h90, h91, h92⟩ := h89
   refine kl_norm ?_
   refine kl_nil (kq_a (.cons _ (.cons _ (.cons _ (.cons_cons _ (List.nil_sublist _))))) (kt_a 7 rfl (by kernel_rfl) (kl_bsK rfl (fun v93 H94 f95 r96 => ?_))))
   refine kl_nil (kq_a (.cons _ (.cons _ (.cons _ (.cons_cons _ (List.nil_sublist _))))) (kt_a 8 rfl (by kernel_rfl) (kl_cmp K66 K78 (fun c97 => ?_))))
   have o98 := OwnL.mono (K' := orHp K66 K78) o63 orL
   refine kl_apL z81 rfl rfl o98 r96 (RMono.mono (orC c97) (by assumption)) (oc rfl (oc (Sl.oneCell (by assumption)) (oc (Sl.oneCell (by assumption)) (oc rfl (oc (Sl.oneCell (by assumption)) oc_nil))))) (by omega) (by decide) (fun v99 H100 o101 f102 => ?_)
   have f103 := f102 B f64 (Nat.le_refl _)
   refine kl_nil (kq_x rfl (kt_q 9 (.cons _ (.cons _ (.cons _ (.cons_cons _ (List.nil_sublist _))))) rfl (by kernel_rfl) (kl_fdV rfl (kl_nil (kq_q (kt_a 10 rfl (by kernel_rfl) (kl_stB rfl rfl rfl (OwnL.oneCell (by assumption)) (OwnL.cells (by assumption)) ?_)))))))
   refine kl_chg [sing br (.cells [vbr, .int .i64 (q79 : Int)].toArray 92 (0, 0)), H100, H18, sing b3 (.cells [v21, v99].toArray 31 (0, 0)), sing b1 (.cells [.slice none 0 0, .slice none 0 0].toArray 31 (0, 0))] rfl ?_
   refine kl_nil (kq_x rfl (kt_end (by kernel_rfl) ?_))
   refine kq_code (kc_region (kl_mv rfl (kl_sub rfl rfl (by omega) ?_)))
   refine kl_as rfl (kl_nil (kq_take [H100, sing br (.cells [vbr, .int .i64 (q79 : Int)].toArray 92 (0, 0)), H18, sing b3 (.cells [v21, v99].toArray 31 (0, 0)), sing b1 (.cells [.slice none 0 0, .slice none 0 0].toArray 31 (0, 0))] ?_))
   refine kq_roundK ((k - (1 : Int)), (cs ++ [z81]), v99, H100, (orHp K66 K78), q79) (by (dsimp only; omega)) (⟨⟨by dsimp only; omega, by dsimp only; omega, by simp; omega, all_snoc hi61.2.2.2 (by assumption)⟩, (fr_or f67 f77), o101, f103, (by first | omega | (dsimp only; omega))⟩) (pc 5 rfl pn) (pc 0 rfl (pc 2 rfl (pc 3 rfl pn))) rfl (List.Sublist.refl _)
  ·skip
   refine kc_exit (kq_code (kc_seq (kc_region (kl_ldW rfl rfl (kl_stW (us := [v21, v65]) rfl rfl rfl rfl (oc (OwnL.oneCell (by assumption)) (oc (OwnL.oneCell (by assumption)) oc_nil)) rfl ?_)))))
   refine kl_chg [H62, sing br (.cells [vbr, .int .i64 (q69 : Int)].toArray 92 (0, 0)), H18, sing b3 (.cells [v21, v65].toArray 31 (0, 0)), sing b1 (.cells [v21, v65].toArray 31 (0, 0))] rfl ?_
   refine kl_nil (kq_code (kc_ret ?_))
   exact kq_retTC rfl rfl rfl [sing br (.cells [vbr, .int .i64 (q69 : Int)].toArray 92 (0, 0))] [H18, H62] K66 (frc f20 (fr1 f64)) f67 ⟨q69, by omega, rfl, H18, H62, _, _, (⟨ds, cs⟩ : Mod), rfl, rfl, o19, o63, by (constructor <;> dsimp only <;> first | omega | assumption | (simp; done) | (simp; omega))⟩
theorem anyModel_ok {br : Nat} {vbr : Value} {Hr : Hp} {bsr : List Int} (pr : Nat) (hp : pr + (600) ≤ 1000000) (hr : Bytes Hr vbr bsr) : SpecT Tryz.prog 46 [.pointer (some ⟨br, 0, none⟩)] [sing br (.cells [vbr, .int .i64 (pr : Int)].toArray 92 (0, 0))] [Hr] (fun vq L1 Ln Kq => ∃ q : Nat, q ≤ pr + (600) ∧ L1 = [sing br (.cells [vbr, .int .i64 (q : Int)].toArray 92 (0, 0))] ∧ ∃ (Hq Mq : Hp) (va vc : Value) (mq : Mod), vq = .agg #[va, vc] ∧ Ln = [Hq, Mq] ∧ OwnL 3 1 Hq noHp IntV va mq.doms ∧ OwnL 76 5 Mq Kq ConV vc mq.cons ∧ ModSm 100 mq) := by
 refine specT_of Tryz.func46 rfl rfl rfl (fun B => ?_)
 refine kc_seq (kc_region (kl_alloc (cs := [.slice none 0 0, .slice none 0 0]) rfl (fun b1 hb2 => ?_)))
 refine kl_nil (kq_code (kc_seq (kc_region (kl_mv rfl (kl_callT rfl rfl (randomModel_ok pr (by omega) hr) (fun v3 L1 Ln K7 h4 f5 f6 => ?_))))))
 obtain ⟨q8, h9, rfl, H12, M14, v15, v16, z10, rfl, rfl, o13, o17, h11⟩ := h4
 have f18 := f5 _ (.head _)
 have f19 := f5 _ (.tail _ (.head _))
 have hd1 := h11.d1
 have hd4 := h11.d
 have hc1 := h11.c
 have hcc := h11.cc
 refine kl_norm ?_
 refine kl_alloc (cs := [.slice none 0 0, .slice none 0 0]) rfl (fun b20 hb21 => ?_)
 refine kl_stW (us := [v15, v16]) rfl rfl rfl rfl (oc (OwnL.oneCell (by assumption)) (oc (OwnL.oneCell (by assumption)) oc_nil)) rfl ?_
 refine kl_chg [sing b20 (.cells [v15, v16].toArray 31 (0, 0)), sing br (.cells [vbr, .int .i64 (q8 : Int)].toArray 92 (0, 0)), H12, M14, sing b1 (.cells [.slice none 0 0, .slice none 0 0].toArray 31 (0, 0))] rfl ?_
 refine kl_nil (kq_code (kc_seq (kc_seq (kc_region (kl_mv rfl (kl_callT rfl rfl (pick_ok q8 (16 : Int) (by omega) hr) (fun v22 L1 Ln K26 h23 f24 f25 => ?_)))))))
 obtain ⟨q27, h28, rfl, rfl, z29, rfl, h30⟩ := h23
 refine kl_norm ?_
 refine kl_nil (kq_code (kc_block (kc_seq (kc_region (kl_eql rfl rfl ?_)))))
 refine kl_as rfl (kl_nil (kq_code (kc_if rfl (fun c33 => ?_) (fun c33 => ?_))))
 ·skip
  refine kc_tree (fun i => ([11] : List Nat).contains i) [sing b20 (.cells [v15, v16].toArray 31 (0, 0))] (by kernel_rfl) ?_
  refine kt_q 0 (.cons _ (.cons_cons _ (List.nil_sublist _))) rfl (by kernel_rfl) (kl_fdV rfl (kl_nil (kq_q (kt_q 1 (.cons _ (.cons_cons _ (List.nil_sublist _))) rfl (by kernel_rfl) (kl_ld rfl (at_box (T := 31) (cs := [v15, v16]) (off := 0) (fz := (0, 0))) (kl_nil (kq_q (kt_q 2 (.cons _ (.cons_cons _ (List.nil_sublist _))) rfl (by kernel_rfl) (kl_mv rfl (kl_nil (kq_q ?_)))))))))))
  refine kt_q 3 (.cons _ (.cons_cons _ (List.nil_sublist _))) rfl (by kernel_rfl) (kl_fdV rfl (kl_nil (kq_q (kt_q 4 (.cons _ (.cons_cons _ (List.nil_sublist _))) rfl (by kernel_rfl) (kl_ld rfl (at_box (T := 31) (cs := [v15, v16]) (off := 0) (fz := (0, 0))) (kl_nil (kq_q (kt_q 5 (.cons _ (.cons_cons _ (List.nil_sublist _))) rfl (by kernel_rfl) (kl_lenL rfl o13 (fun l34 => ?_))))))))))
  refine kl_nil (kq_q (kt_q 7 (.cons _ (.cons_cons _ (List.nil_sublist _))) rfl (by kernel_rfl) (kl_mv rfl (kl_nil (kq_q (kt_b 6 8 rfl rfl (by kernel_rfl) ?_ ?_))))))
  ·skip
   refine kl_callT rfl rfl (pick_ok q27 (z10.doms.length : Int) (by omega) hr) (fun v35 L1 Ln K39 h36 f37 f38 => ?_)
   obtain ⟨q40, h41, rfl, rfl, z42, rfl, h43⟩ := h36
   refine kl_norm ?_
   refine kl_nil (kq_a (.cons _ (.cons_cons _ (List.nil_sublist _))) (kt_a 8 rfl (by kernel_rfl) (kl_bs rfl rfl rfl (by decide) (ca rfl (ca rfl (ca rfl ca_nil))) (fun v46 H47 f48 r49 s50 => ?_))))
   have h51 : Ints H47 v46 [(-1 : Int), (64 : Int), (0 : Int)] := litInts (xs := [(-1 : Int), (64 : Int), (0 : Int)]) (by simpa using s50)
   refine kl_nil (kq_a (.cons _ (.cons_cons _ (List.nil_sublist _))) (kt_a 9 rfl (by kernel_rfl) (kl_callT rfl rfl (one_ok q40 ([(-1 : Int), (64 : Int), (0 : Int)]) (by simp) (by omega) hr (by assumption)) (fun v52 L1 Ln K56 h53 f54 f55 => ?_))))
   obtain ⟨q57, h58, rfl, rfl, z59, rfl, h60⟩ := h53
   refine kl_norm ?_
   refine kl_nil (kq_a (.cons _ (.cons_cons _ (List.nil_sublist _))) (kt_q 10 (.cons _ (.cons_cons _ (List.nil_sublist _))) rfl (by kernel_rfl) (kl_ixL rfl rfl (by assumption) (by omega) (by omega) (fun p63 q64 => ?_))))
   refine kl_nil (kq_q (kt_a 11 rfl (by kernel_rfl) (kl_stL z59 rfl rfl (by assumption) o13 (by omega) rfl rfl rfl (fun H65 o66 f67 => ?_))))
   have f68 := f67 _ f18
   refine kl_chg [sing br (.cells [vbr, .int .i64 (q57 : Int)].toArray 92 (0, 0)), sing b20 (.cells [v15, v16].toArray 31 (0, 0)), H65, M14, sing b1 (.cells [.slice none 0 0, .slice none 0 0].toArray 31 (0, 0))] rfl ?_
   refine kl_nil (kq_x rfl (kt_end (by kernel_rfl) ?_))
   refine kq_code (kc_seq (kc_region (kl_ldW rfl rfl (kl_stW (us := [v15, v16]) rfl rfl rfl rfl (oc (OwnL.oneCell (by assumption)) (oc (OwnL.oneCell (by assumption)) oc_nil)) rfl ?_))))
   refine kl_chg [sing br (.cells [vbr, .int .i64 (q57 : Int)].toArray 92 (0, 0)), sing b20 (.cells [v15, v16].toArray 31 (0, 0)), H65, M14, sing b1 (.cells [v15, v16].toArray 31 (0, 0))] rfl ?_
   refine kl_nil (kq_code (kc_ret ?_))
   exact kq_retTC rfl rfl rfl [sing br (.cells [vbr, .int .i64 (q57 : Int)].toArray 92 (0, 0))] [H65, M14] K7 (frc f68 (fr1 f19)) f6 ⟨q57, by omega, rfl, H65, M14, _, _, (⟨(z10.doms.set z42.toNat z59), z10.cons⟩ : Mod), rfl, rfl, o66, o17, by (constructor <;> dsimp only <;> first | omega | assumption | exact all_mono (by assumption) | exact all_set (all_mono (by assumption)) (by assumption) | (simp; done) | (simp only [List.length_set]; omega) | (simp; omega))⟩
  ·skip
   refine kl_bs rfl rfl rfl (by decide) (ca rfl (ca rfl (ca rfl ca_nil))) (fun v69 H70 f71 r72 s73 => ?_)
   have h74 : Ints H70 v69 [(-1 : Int), (64 : Int), (0 : Int)] := litInts (xs := [(-1 : Int), (64 : Int), (0 : Int)]) (by simpa using s73)
   refine kl_nil (kq_a (.cons _ (.cons_cons _ (List.nil_sublist _))) (kt_a 6 rfl (by kernel_rfl) (kl_callT rfl rfl (pick_ok q27 (z10.doms.length : Int) (by omega) hr) (fun v75 L1 Ln K79 h76 f77 f78 => ?_))))
   obtain ⟨q80, h81, rfl, rfl, z82, rfl, h83⟩ := h76
   refine kl_norm ?_
   refine kl_nil (kq_a (.cons _ (.cons_cons _ (List.nil_sublist _))) (kt_a 9 rfl (by kernel_rfl) (kl_callT rfl rfl (one_ok q80 ([(-1 : Int), (64 : Int), (0 : Int)]) (by simp) (by omega) hr (by assumption)) (fun v86 L1 Ln K90 h87 f88 f89 => ?_))))
   obtain ⟨q91, h92, rfl, rfl, z93, rfl, h94⟩ := h87
   refine kl_norm ?_
   refine kl_nil (kq_a (.cons _ (.cons_cons _ (List.nil_sublist _))) (kt_q 10 (.cons _ (.cons_cons _ (List.nil_sublist _))) rfl (by kernel_rfl) (kl_ixL rfl rfl (by assumption) (by omega) (by omega) (fun p97 q98 => ?_))))
   refine kl_nil (kq_q (kt_a 11 rfl (by kernel_rfl) (kl_stL z93 rfl rfl (by assumption) o13 (by omega) rfl rfl rfl (fun H99 o100 f101 => ?_))))
   have f102 := f101 _ f18
   refine kl_chg [sing br (.cells [vbr, .int .i64 (q91 : Int)].toArray 92 (0, 0)), sing b20 (.cells [v15, v16].toArray 31 (0, 0)), H99, M14, sing b1 (.cells [.slice none 0 0, .slice none 0 0].toArray 31 (0, 0))] rfl ?_
   refine kl_nil (kq_x rfl (kt_end (by kernel_rfl) ?_))
   refine kq_code (kc_seq (kc_region (kl_ldW rfl rfl (kl_stW (us := [v15, v16]) rfl rfl rfl rfl (oc (OwnL.oneCell (by assumption)) (oc (OwnL.oneCell (by assumption)) oc_nil)) rfl ?_))))
   refine kl_chg [sing br (.cells [vbr, .int .i64 (q91 : Int)].toArray 92 (0, 0)), sing b20 (.cells [v15, v16].toArray 31 (0, 0)), H99, M14, sing b1 (.cells [v15, v16].toArray 31 (0, 0))] rfl ?_
   refine kl_nil (kq_code (kc_ret ?_))
   exact kq_retTC rfl rfl rfl [sing br (.cells [vbr, .int .i64 (q91 : Int)].toArray 92 (0, 0))] [H99, M14] K7 (frc f102 (fr1 f19)) f6 ⟨q91, by omega, rfl, H99, M14, _, _, (⟨(z10.doms.set z82.toNat z93), z10.cons⟩ : Mod), rfl, rfl, o100, o17, by (constructor <;> dsimp only <;> first | omega | assumption | exact all_mono (by assumption) | exact all_set (all_mono (by assumption)) (by assumption) | (simp; done) | (simp only [List.length_set]; omega) | (simp; omega))⟩
 ·skip
  refine kc_seq (kc_region (kl_eql rfl rfl ?_))
  refine kl_as rfl (kl_nil (kq_code (kc_if rfl (fun c103 => ?_) (fun c103 => ?_))))
  ·skip
   refine kc_seq (kc_region (kl_fdV rfl (kl_ldB rfl rfl (kl_lenL rfl o17 (fun l104 => ?_)))))
   refine kl_gtr rfl rfl ?_
   refine kl_nil (kq_code (kc_if rfl (fun c105 => ?_) (fun c105 => ?_)))
   ·skip
    refine kc_seq (kc_region (kl_mv rfl (kl_fdV rfl (kl_ldB rfl rfl (kl_lenL rfl o17 (fun l106 => ?_))))))
    refine kl_callT rfl rfl (pick_ok q27 (z10.cons.length : Int) (by omega) hr) (fun v107 L1 Ln K111 h108 f109 f110 => ?_)
    obtain ⟨q112, h113, rfl, rfl, z114, rfl, h115⟩ := h108
    refine kl_norm ?_
    refine kl_as rfl (kl_nil (kq_code (kc_tree (fun i => ([11] : List Nat).contains i) [sing b20 (.cells [v15, v16].toArray 31 (0, 0)), M14] (by kernel_rfl) ?_)))
    refine kt_q 0 (.cons _ (.cons_cons _ (.cons _ (.cons_cons _ (List.nil_sublist _))))) rfl (by kernel_rfl) (kl_fdV rfl (kl_nil (kq_q (kt_q 1 (.cons _ (.cons_cons _ (.cons _ (.cons_cons _ (List.nil_sublist _))))) rfl (by kernel_rfl) (kl_ld rfl (at_box (T := 31) (cs := [v15, v16]) (off := 1) (fz := (0, 0))) (kl_nil (kq_q (kt_q 2 (.cons _ (.cons_cons _ (.cons _ (.cons_cons _ (List.nil_sublist _))))) rfl (by kernel_rfl) ?_))))))))
    refine kl_mv rfl (kl_nil (kq_q (kt_q 3 (.cons _ (.cons_cons _ (.cons _ (.cons_cons _ (List.nil_sublist _))))) rfl (by kernel_rfl) (kl_mv rfl (kl_nil (kq_q (kt_q 4 (.cons _ (.cons_cons _ (.cons _ (.cons_cons _ (List.nil_sublist _))))) rfl (by kernel_rfl) (kl_fdV rfl (kl_nil (kq_q (kt_q 5 (.cons _ (.cons_cons _ (.cons _ (.cons_cons _ (List.nil_sublist _))))) rfl (by kernel_rfl) ?_)))))))))))
    refine kl_ld rfl (at_box (T := 31) (cs := [v15, v16]) (off := 1) (fz := (0, 0))) (kl_nil (kq_q (kt_q 6 (.cons _ (.cons_cons _ (.cons _ (.cons_cons _ (List.nil_sublist _))))) rfl (by kernel_rfl) (kl_mv rfl (kl_nil (kq_q (kt_q 7 (.cons _ (.cons_cons _ (.cons _ (.cons_cons _ (List.nil_sublist _))))) rfl (by kernel_rfl) (kl_ixL rfl rfl (by assumption) (by omega) (by omega) (fun p118 q119 => ?_)))))))))
    refine kl_nil (kq_q (kt_q 8 (.cons _ (.cons_cons _ (.cons _ (.cons_cons _ (List.nil_sublist _))))) rfl (by kernel_rfl) ?_))
    obtain ⟨u120, u121, u122, h123, h124, h125, h126⟩ := OwnL.at5 o17 (by assumption) (by omega : z114.toNat < z10.cons.length)
    refine kl_ldS rfl h123 rfl ?_
    refine kl_nil (kq_q (kt_a 9 rfl (by kernel_rfl) (kl_callT rfl rfl (damage_ok q112 (z10.cons.getD z114.toNat nilCon) (hcc _ (getD_mem (by omega))) (by omega) hr (by assumption) (by assumption) (by assumption)) (fun v127 L1 Ln K131 h128 f129 f130 => ?_))))
    obtain ⟨q132, h133, rfl, z134, rfl, h138, h135⟩ := h128
    obtain ⟨_, rfl, h142⟩ := h138
    have h142' := h142
    obtain ⟨u139, u140, u141, rfl, h143, h144, h145⟩ := h142
    refine kl_norm ?_
    refine kl_nil (kq_a (.cons _ (.cons_cons _ (.cons _ (.cons_cons _ (List.nil_sublist _))))) (kt_q 10 (.cons _ (.cons_cons _ (.cons _ (.cons_cons _ (List.nil_sublist _))))) rfl (by kernel_rfl) (kl_ixL rfl rfl (by assumption) (by omega) (by omega) (fun p146 q147 => ?_))))
    refine kl_nil (kq_q (kt_a 11 rfl (by kernel_rfl) (kl_cmp K7 (orHp K131 (orHp K7 (orHp K7 K7))) (fun c152 => ?_))))
    have o153 := OwnL.mono (K' := orHp K7 (orHp K131 (orHp K7 (orHp K7 K7)))) o17 orL
    refine kl_stLk (us := [.int .i64 z134.kind, u139, u140, .int .i64 z134.bound, u141]) z134 rfl rfl (by assumption) o153 (by omega) (RMono.mono (orC c152) (by assumption)) rfl (oc rfl (oc (Sl.oneCell (by assumption)) (oc (Sl.oneCell (by assumption)) (oc rfl (oc (Sl.oneCell (by assumption)) oc_nil))))) rfl (fun H148 o149 f150 => ?_)
    have f151 := f150 _ f19
    refine kl_chg [sing br (.cells [vbr, .int .i64 (q132 : Int)].toArray 92 (0, 0)), sing b20 (.cells [v15, v16].toArray 31 (0, 0)), H12, H148, sing b1 (.cells [.slice none 0 0, .slice none 0 0].toArray 31 (0, 0))] rfl ?_
    refine kl_nil (kq_x rfl (kt_end (by kernel_rfl) ?_))
    refine kq_code (kc_seq (kc_region (kl_ldW rfl rfl (kl_stW (us := [v15, v16]) rfl rfl rfl rfl (oc (OwnL.oneCell (by assumption)) (oc (OwnL.oneCell (by assumption)) oc_nil)) rfl ?_))))
    refine kl_chg [sing br (.cells [vbr, .int .i64 (q132 : Int)].toArray 92 (0, 0)), sing b20 (.cells [v15, v16].toArray 31 (0, 0)), H12, H148, sing b1 (.cells [v15, v16].toArray 31 (0, 0))] rfl ?_
    refine kl_nil (kq_code (kc_ret ?_))
    exact kq_retTC rfl rfl rfl [sing br (.cells [vbr, .int .i64 (q132 : Int)].toArray 92 (0, 0))] [H12, H148] (orHp K7 (orHp K131 (orHp K7 (orHp K7 K7)))) (frc f18 (fr1 f151)) (fr_or f6 (fr_or f130 (fr_or f6 (fr_or f6 f6)))) ⟨q132, by omega, rfl, H12, H148, _, _, (⟨z10.doms, (z10.cons.set z114.toNat z134)⟩ : Mod), rfl, rfl, o13, o149, by (constructor <;> dsimp only <;> first | omega | assumption | exact all_mono (by assumption) | exact all_set (all_mono (by assumption)) (by assumption) | (simp; done) | (simp only [List.length_set]; omega) | (simp; omega))⟩
   ·skip
    refine kc_skipQ (kq_code (kc_seq (kc_region (kl_ldW rfl rfl (kl_stW (us := [v15, v16]) rfl rfl rfl rfl (oc (OwnL.oneCell (by assumption)) (oc (OwnL.oneCell (by assumption)) oc_nil)) rfl ?_)))))
    refine kl_chg [sing br (.cells [vbr, .int .i64 (q27 : Int)].toArray 92 (0, 0)), sing b20 (.cells [v15, v16].toArray 31 (0, 0)), H12, M14, sing b1 (.cells [v15, v16].toArray 31 (0, 0))] rfl ?_
    refine kl_nil (kq_code (kc_ret ?_))
    exact kq_retTC rfl rfl rfl [sing br (.cells [vbr, .int .i64 (q27 : Int)].toArray 92 (0, 0))] [H12, M14] K7 (frc f18 (fr1 f19)) f6 ⟨q27, by omega, rfl, H12, M14, _, _, (⟨z10.doms, z10.cons⟩ : Mod), rfl, rfl, o13, o17, by (constructor <;> dsimp only <;> first | omega | assumption | exact all_mono (by assumption) | exact all_set (all_mono (by assumption)) (by assumption) | (simp; done) | (simp only [List.length_set]; omega) | (simp; omega))⟩
  ·skip
   refine kc_skipQ (kq_code (kc_seq (kc_region (kl_ldW rfl rfl (kl_stW (us := [v15, v16]) rfl rfl rfl rfl (oc (OwnL.oneCell (by assumption)) (oc (OwnL.oneCell (by assumption)) oc_nil)) rfl ?_)))))
   refine kl_chg [sing br (.cells [vbr, .int .i64 (q27 : Int)].toArray 92 (0, 0)), sing b20 (.cells [v15, v16].toArray 31 (0, 0)), H12, M14, sing b1 (.cells [v15, v16].toArray 31 (0, 0))] rfl ?_
   refine kl_nil (kq_code (kc_ret ?_))
   exact kq_retTC rfl rfl rfl [sing br (.cells [vbr, .int .i64 (q27 : Int)].toArray 92 (0, 0))] [H12, M14] K7 (frc f18 (fr1 f19)) f6 ⟨q27, by omega, rfl, H12, M14, _, _, (⟨z10.doms, z10.cons⟩ : Mod), rfl, rfl, o13, o17, by (constructor <;> dsimp only <;> first | omega | assumption | exact all_mono (by assumption) | exact all_set (all_mono (by assumption)) (by assumption) | (simp; done) | (simp only [List.length_set]; omega) | (simp; omega))⟩
theorem objective_ok {br : Nat} {vbr : Value} {Hr : Hp} {bsr : List Int} (pr : Nat) (n : Int) (hn : 0 ≤ n ∧ n ≤ 4) (hp : pr + (6) ≤ 1000000) (hr : Bytes Hr vbr bsr) : SpecT Tryz.prog 47 [.pointer (some ⟨br, 0, none⟩), .int .i64 n] [sing br (.cells [vbr, .int .i64 (pr : Int)].toArray 92 (0, 0))] [Hr] (fun vq L1 Ln Kq => ∃ q : Nat, q ≤ pr + (6) ∧ L1 = [sing br (.cells [vbr, .int .i64 (q : Int)].toArray 92 (0, 0))] ∧ ∃ (Hq : Hp) (xq : List Int), Ln = [Hq] ∧ OwnL 3 1 Hq noHp IntV vq xq ∧ ((xq.length : Int) = n → Coef xq) ∧ xq.length ≤ 5) := by
 refine specT_of Tryz.func47 rfl rfl rfl (fun B => ?_)
 refine kc_seq (kc_region (kl_as rfl (kl_nil (kq_code (kc_seq (kc_region (kl_bsI [] rfl rfl rfl (by decide) (fun v1 H2 f3 o4 => ?_))))))))
 refine kl_as rfl (kl_nil (kq_code (kc_seq (kc_seq (kc_region (kl_as rfl (kl_nil (kq_code (kc_block (kc_loopL (A := Nat × List Int × Value × Hp × Nat) (fun zz => (zz.1 ≤ n.toNat) ∧ (zz.2.1.length = zz.1 ∧ Coef zz.2.1) ∧ OwnL 3 1 zz.2.2.2.1 noHp IntV zz.2.2.1 zz.2.1 ∧ Fr B zz.2.2.2.1 ∧ zz.2.2.2.2 ≤ pr + zz.1) (fun zz => n.toNat - zz.1) (fun zz => [zz.2.2.2.1, sing br (.cells [vbr, .int .i64 (zz.2.2.2.2 : Int)].toArray 92 (0, 0))]) (fun zz => [(6, .int .i64 (zz.1 : Int)), (5, zz.2.2.1)]) (0, ([]), v1, H2, pr) (pc 0 rfl (pc 1 rfl (pc 4 rfl pn))) (pc 6 rfl (pc 5 rfl pn)) rfl ⟨Nat.zero_le _, ⟨rfl, all_nil⟩, o4, f3, (by first | omega | (dsimp only; omega))⟩ ?_))))))))))
 rintro ⟨i, out, v10, H7, q11⟩ hJ13
 obtain ⟨hk5, hi6, o8, f9, hq12⟩ : (i ≤ n.toNat) ∧ (out.length = i ∧ Coef out) ∧ OwnL 3 1 H7 noHp IntV v10 out ∧ Fr B H7 ∧ q11 ≤ pr + i := hJ13
 change KC _ _ (_) [H7, sing br (.cells [vbr, .int .i64 (q11 : Int)].toArray 92 (0, 0))] _ ([(6, .int .i64 (i : Int)), (5, v10)] ++ _)
 refine kc_seq (kc_seq (kc_region (kl_mv rfl (kl_mv rfl (kl_lss rfl rfl ?_)))))
 refine kl_nil (kq_code (kc_if rfl (fun c14 => ?_) (fun c14 => ?_)))
 ·skip
  refine kc_skipQ (kq_code (kc_seq (kc_block (kc_region (kl_mv rfl (kl_mv rfl (kl_bs rfl rfl rfl (by decide) (ca rfl (ca rfl (ca rfl (ca rfl (ca rfl (ca rfl ca_nil)))))) (fun v15 H16 f17 r18 s19 => ?_))))))))
  have h20 : Ints H16 v15 [(1 : Int), (0 : Int), (-1 : Int), (2 : Int), (-9 : Int), (9 : Int)] := litInts (xs := [(1 : Int), (0 : Int), (-1 : Int), (2 : Int), (-9 : Int), (9 : Int)]) (by simpa using s19)
  refine kl_callT rfl rfl (one_ok q11 ([(1 : Int), (0 : Int), (-1 : Int), (2 : Int), (-9 : Int), (9 : Int)]) (by simp) (by omega) hr (by assumption)) (fun v21 L1 Ln K25 h22 f23 f24 => ?_)
  obtain ⟨q26, h27, rfl, rfl, z28, rfl, h29⟩ := h22
  have ho9 := obj_one h29
  refine kl_norm ?_
  refine kl_bs rfl rfl rfl (by decide) (ca rfl ca_nil) (fun v32 H33 f34 r35 s36 => ?_)
  have h37 : Ints H33 v32 [z28] := litInts (xs := [z28]) (by simpa using s36)
  refine kl_apL z28 rfl rfl o8 (by assumption) rfl (oc rfl oc_nil) (by omega) (by decide) (fun v38 H39 o40 f41 => ?_)
  have f42 := f41 B f9 (Nat.le_refl _)
  refine kl_as rfl (kl_nil (kq_code (kc_region (kl_mv rfl (kl_inc rfl rfl (by omega) ?_)))))
  refine kl_as rfl (kl_nil (kq_take [H39, sing br (.cells [vbr, .int .i64 (q26 : Int)].toArray 92 (0, 0))] ?_))
  refine kq_roundL ((i + 1), (out ++ [z28]), v38, H39, q26) (by omega) (⟨by omega, ⟨by simp; omega, all_snoc hi6.2 ho9⟩, o40, f42, (by first | omega | (dsimp only; omega))⟩) (pc 6 rfl (pc 5 rfl pn)) (pc 0 rfl (pc 1 rfl (pc 4 rfl pn))) rfl (List.Sublist.refl _)
 ·skip
  refine kc_exit (kq_code (kc_seq (kc_seq (kc_region (kl_mv rfl (kl_callT rfl rfl (pick_ok q11 (14 : Int) (by omega) hr) (fun v43 L1 Ln K47 h44 f45 f46 => ?_)))))))
  obtain ⟨q48, h49, rfl, rfl, z50, rfl, h51⟩ := h44
  refine kl_norm ?_
  refine kl_eql rfl rfl ?_
  refine kl_nil (kq_code (kc_if rfl (fun c54 => ?_) (fun c54 => ?_)))
  ·skip
   refine kc_seq (kc_region (kl_mv rfl (kl_bs rfl rfl rfl (by decide) (ca rfl ca_nil) (fun v55 H56 f57 r58 s59 => ?_))))
   have h60 : Ints H56 v55 [(10 : Int)] := litInts (xs := [(10 : Int)]) (by simpa using s59)
   refine kl_apL (10 : Int) rfl rfl o8 (by assumption) rfl (oc rfl oc_nil) (by omega) (by decide) (fun v61 H62 o63 f64 => ?_)
   have f65 := f64 B f9 (Nat.le_refl _)
   refine kl_as rfl (kl_nil (kq_code (kc_ret ?_)))
   exact kq_retT rfl rfl [sing br (.cells [vbr, .int .i64 (q48 : Int)].toArray 92 (0, 0))] [H62] noHp (fr1 f65) (fr_no _) ⟨q48, by omega, rfl, H62, (out ++ [(10 : Int)]), rfl, o63, by first | exact ⟨fun _ => hi6.2, by omega⟩ | exact ⟨fun h => by have h8 := hi6.1; simp at h; omega, by simp; omega⟩⟩
  ·skip
   refine kc_skipQ (kq_code (kc_seq (kc_region (kl_mv rfl (kl_as rfl (kl_nil (kq_code (kc_ret ?_))))))))
   exact kq_retT rfl rfl [sing br (.cells [vbr, .int .i64 (q48 : Int)].toArray 92 (0, 0))] [H7] noHp (fr1 f9) (fr_no _) ⟨q48, by omega, rfl, H7, out, rfl, o8, by first | exact ⟨fun _ => hi6.2, by omega⟩ | exact ⟨fun h => by have h8 := hi6.1; simp at h; omega, by simp; omega⟩⟩
end Go.Proofs.YtkfioalfofoikaaGreat
