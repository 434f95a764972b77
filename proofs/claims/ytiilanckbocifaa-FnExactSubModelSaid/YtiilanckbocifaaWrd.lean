/- Walks of functions of the program: each returns what the plain function gives. Conditions: those that each statement names. -/
import Derived.Test.YtiilanckbocifaaTys
import Derived.Test.YtiilanckbocifaaRdr
import Derived.Test.YtiilanckbocifaaPureQ
namespace Go.Proofs.Ytiilanckbocifaa
open Go
set_option linter.unusedSimpArgs false
set_option linter.unusedVariables false
theorem newReader_ok {Hcode : Hp} {vcode : Value} (code : List Int) (hcode : Bytes Hcode vcode code) : SpecT Try.prog 22 [vcode] [] [Hcode] (fun vq L1 Ln Kq => L1 = [] ∧ ∃ (b : Nat) (vb : Value) (bs : List Int), vq = .pointer (some ⟨b, 0, none⟩) ∧ Ln = [sing b (.cells [vb, .int .i64 ((0 : Nat) : Int)].toArray 73 (0, 0))] ∧ Bytes Hcode vb bs) := by
 refine specT_of Try.func22 rfl rfl rfl (fun B => ?_)
 refine kc_seq (kc_region (kl_as rfl (kl_nil (kq_code (kc_seq (kc_seq (kc_region (kl_mv rfl (kl_len rfl (by assumption) (fun l1 => ?_))))))))))
 refine kl_gtr rfl rfl ?_
 refine kl_nil (kq_code (kc_if rfl (fun c2 => ?_) (fun c2 => ?_)))
 ·skip
  refine kc_region (kl_mv rfl (kl_slTake (i := 2000) rfl rfl (by assumption) (by omega) (fun u3 h4 => ?_)))
  refine kl_as rfl (kl_nil (kq_code (kc_seq (kc_region (kl_mv rfl (kl_bd rfl (cp (Sl.cells (by assumption)) cp_nil) rfl ?_))))))
  refine kl_boxL (cs := [u3, .int .i64 (0 : Int)]) rfl rfl (fun b5 hb6 => ?_)
  refine kl_as rfl (kl_nil (kq_code (kc_ret ?_)))
  exact kq_retT rfl rfl [] [sing b5 (.cells [u3, .int .i64 (0 : Int)].toArray 73 (0, 0))] noHp (fr1 (fr_sing hb6)) (fr_no _) ⟨rfl, b5, _, _, rfl, rfl, h4⟩
 ·skip
  refine kc_skipQ (kq_code (kc_seq (kc_region (kl_mv rfl (kl_bd rfl (cp (Sl.cells (by assumption)) cp_nil) rfl ?_)))))
  refine kl_boxL (cs := [vcode, .int .i64 (0 : Int)]) rfl rfl (fun b7 hb8 => ?_)
  refine kl_as rfl (kl_nil (kq_code (kc_ret ?_)))
  exact kq_retT rfl rfl [] [sing b7 (.cells [vcode, .int .i64 (0 : Int)].toArray 73 (0, 0))] noHp (fr1 (fr_sing hb8)) (fr_no _) ⟨rfl, b7, _, _, rfl, rfl, hcode⟩
theorem pick_ok {br : Nat} {vbr : Value} {Hr : Hp} {bsr : List Int} (pr : Nat) (n : Int) (hp : pr + (1) ≤ 1000000) (hr : Bytes Hr vbr bsr) : SpecT Try.prog 53 [.pointer (some ⟨br, 0, none⟩), .int .i64 n] [sing br (.cells [vbr, .int .i64 (pr : Int)].toArray 73 (0, 0))] [Hr] (fun vq L1 Ln Kq => ∃ q : Nat, q ≤ pr + (1) ∧ L1 = [sing br (.cells [vbr, .int .i64 (q : Int)].toArray 73 (0, 0))] ∧ Ln = [] ∧ ∃ z : Int, vq = .int .i64 z ∧ (0 ≤ z ∧ (z < n ∨ z = 0))) := by
 refine specT_of Try.func53 rfl rfl rfl (fun B => ?_)
 refine kc_seq (kc_region (kl_as rfl (kl_nil (kq_code (kc_seq (kc_region (kl_mv rfl (kl_mv rfl (kl_nilchk rfl ?_)))))))))
 refine kl_fdV rfl (kl_ldB rfl rfl (kl_inc rfl rfl (by omega) ?_))
 refine kl_nilchk rfl ?_
 refine kl_fdV rfl (kl_stB rfl rfl rfl rfl rfl ?_)
 refine kl_chg [sing br (.cells [vbr, .int .i64 ((pr + 1 : Nat) : Int)].toArray 73 (0, 0))] rfl ?_
 refine kl_nil (kq_code (kc_seq (kc_seq (kc_region (kl_mv rfl (kl_lss rfl rfl ?_))))))
 refine kl_mv rfl (kl_join 7 24 (.bool (decide (n < (1 : Int)) || decide ((bsr.length : Int) = (0 : Int)))) (pc 0 rfl (pc 1 rfl (pc 4 rfl (pc 17 rfl pn)))) (fun J3 => ?_) ?_)
 ·rcases Bool.eq_false_or_eq_true (decide (n < (1 : Int))) with g1 | g1
  ·skip
   refine kl_gF rfl rfl g1 (kl_gF rfl rfl g1 (kl_gF rfl rfl g1 (kl_gF rfl rfl g1 (kl_gF rfl rfl g1 (kl_gF rfl rfl g1 (kl_orT (decide ((bsr.length : Int) = (0 : Int))) rfl rfl g1 ?_))))))
   exact J3 _ (pc 24 rfl (pc 0 rfl (pc 1 rfl (pc 4 rfl (pc 17 rfl pn)))))
  ·skip
   have g1p := of_decide_eq_false g1
   refine kl_gT rfl rfl g1 (kl_mv rfl (kl_gT rfl rfl g1 (kl_nilchk rfl ?_)))
   refine kl_gT rfl rfl g1 (kl_fdV rfl (kl_gT rfl rfl g1 (kl_ldB rfl rfl (kl_gT rfl rfl g1 (kl_len rfl (by assumption) (fun l2 => ?_))))))
   refine kl_gT rfl rfl g1 (kl_eql rfl rfl ?_)
   refine kl_orF rfl rfl g1 ?_
   exact J3 _ (pc 24 rfl (pc 0 rfl (pc 1 rfl (pc 4 rfl (pc 17 rfl pn)))))
 refine kl_nil (kq_code (kc_cond rfl (fun c4 => ?_) (fun c4 => ?_)))
 ·skip
  have c4r := c4
  try simp only [smpC, decide_eq_true_eq, decide_eq_false_iff_not] at c4
  refine kc_seq (kc_region (kl_as rfl (kl_nil (kq_code (kc_ret ?_)))))
  exact kq_retT rfl rfl [sing br (.cells [vbr, .int .i64 ((pr + 1 : Nat) : Int)].toArray 73 (0, 0))] [] noHp frn (fr_no _) ⟨(pr + 1), by omega, rfl, rfl, _, rfl, by omega⟩
 ·skip
  have c4r := c4
  try simp only [smpC, decide_eq_true_eq, decide_eq_false_iff_not] at c4
  refine kc_skipQ (kq_code (kc_seq (kc_region (kl_mv rfl (kl_nilchk rfl ?_)))))
  refine kl_fdV rfl (kl_ldB rfl rfl (kl_sub rfl rfl (by omega) ?_))
  refine kl_as rfl (kl_nil (kq_code (kc_seq (kc_seq (kc_region (kl_mv rfl (kl_mv rfl (kl_nilchk rfl ?_))))))))
  refine kl_fdV rfl (kl_ldB rfl rfl (kl_len rfl (by assumption) (fun l5 => ?_)))
  refine kl_lss rfl rfl ?_
  refine kl_nil (kq_code (kc_if rfl (fun c6 => ?_) (fun c6 => ?_)))
  ·skip
   refine kc_seq (kc_region (kl_mv rfl (kl_nilchk rfl ?_)))
   refine kl_fdV rfl (kl_ldB rfl rfl (kl_mv rfl (kl_ixY rfl rfl (by assumption) (by omega) (by omega) (fun p7 a8 hb9 => ?_))))
   refine kl_ld rfl (by assumption) (kl_cvi rfl (by omega) ?_)
   refine kl_mv rfl ?_
   have h10 := tmod_in (m := (bsr.getD (((pr + 1 : Nat) : Int) - (1 : Int)).toNat 0)) (k := n) (by omega) (by omega)
   refine kl_rem rfl rfl (by omega) ?_
   refine kl_as rfl (kl_nil (kq_code (kc_ret ?_)))
   exact kq_retT rfl rfl [sing br (.cells [vbr, .int .i64 ((pr + 1 : Nat) : Int)].toArray 73 (0, 0))] [] noHp frn (fr_no _) ⟨(pr + 1), by omega, rfl, rfl, _, rfl, by omega⟩
  ·skip
   refine kc_skipQ (kq_code (kc_seq (kc_draw 46 [true, true, true, true, true, true, true, true, true, true, true, true, true, true, true, true, true, true, true, true, true, true, true, true, true, true, true, true, true, true, true, true, true, true, true, true, true, true, true, true, true, true, true, true, true, true] (by kernel_rfl) (by kernel_rfl) ?_)))
   refine kl_mv rfl (kl_nilchk rfl ?_)
   refine kl_fdV rfl (kl_ldB rfl rfl (kl_mv rfl (kl_mv rfl (kl_nilchk rfl ?_))))
   refine kl_fdV rfl (kl_ldB rfl rfl (kl_len rfl (by assumption) (fun l11 => ?_)))
   have h12 := tmod_in (m := (((pr + 1 : Nat) : Int) - (1 : Int))) (k := (bsr.length : Int)) (by omega) (by omega)
   refine kl_rem rfl rfl (by omega) ?_
   refine kl_ixY rfl rfl (by assumption) (by omega) (by omega) (fun p13 a14 hb15 => ?_)
   refine kl_ld rfl (by assumption) (kl_cvi rfl (by omega) ?_)
   refine kl_mul rfl rfl (by omega) ?_
   refine kl_mv rfl (kl_nilchk rfl ?_)
   refine kl_fdV rfl (kl_ldB rfl rfl (kl_mv rfl (kl_mul rfl rfl (by omega) ?_)))
   refine kl_add rfl rfl (by omega) ?_
   refine kl_mv rfl (kl_nilchk rfl ?_)
   refine kl_fdV rfl (kl_ldB rfl rfl (kl_len rfl (by assumption) (fun l16 => ?_)))
   have h17 := tmod_in (m := (((((pr + 1 : Nat) : Int) - (1 : Int)) * (7 : Int)) + (3 : Int))) (k := (bsr.length : Int)) (by omega) (by omega)
   refine kl_rem rfl rfl (by omega) ?_
   refine kl_ixY rfl rfl (by assumption) (by omega) (by omega) (fun p18 a19 hb20 => ?_)
   refine kl_ld rfl (by assumption) (kl_cvi rfl (by omega) ?_)
   refine kl_mul rfl rfl (by omega) ?_
   refine kl_add rfl rfl (by omega) ?_
   refine kl_mv rfl (kl_mul rfl rfl (by omega) ?_)
   refine kl_add rfl rfl (by omega) ?_
   refine kl_mv rfl (kl_mv rfl (kl_nilchk rfl ?_))
   refine kl_fdV rfl (kl_ldB rfl rfl (kl_len rfl (by assumption) (fun l21 => ?_)))
   have h22 := tdiv_in (m := (((pr + 1 : Nat) : Int) - (1 : Int))) (k := (bsr.length : Int)) (by omega) (by omega)
   refine kl_quo rfl rfl (by omega) (by omega) ?_
   refine kl_mul rfl rfl (by omega) ?_
   refine kl_add rfl rfl (by omega) ?_
   refine kl_as rfl (kl_nil (kq_code (kc_seq (kc_region (kl_mv rfl (kl_mv rfl ?_))))))
   have h23 := tdiv_in (m := (((((bsr.getD (Int.tmod (((pr + 1 : Nat) : Int) - (1 : Int)) (bsr.length : Int)).toNat 0) * (131 : Int)) + ((bsr.getD (Int.tmod (((((pr + 1 : Nat) : Int) - (1 : Int)) * (7 : Int)) + (3 : Int)) (bsr.length : Int)).toNat 0) * (1117 : Int))) + ((((pr + 1 : Nat) : Int) - (1 : Int)) * (29 : Int))) + ((Int.tdiv (((pr + 1 : Nat) : Int) - (1 : Int)) (bsr.length : Int)) * (53 : Int)))) (k := (64 : Int)) (by omega) (by omega)
   refine kl_quo rfl rfl (by omega) (by omega) ?_
   have h24 := ixor_le (a := (((((bsr.getD (Int.tmod (((pr + 1 : Nat) : Int) - (1 : Int)) (bsr.length : Int)).toNat 0) * (131 : Int)) + ((bsr.getD (Int.tmod (((((pr + 1 : Nat) : Int) - (1 : Int)) * (7 : Int)) + (3 : Int)) (bsr.length : Int)).toNat 0) * (1117 : Int))) + ((((pr + 1 : Nat) : Int) - (1 : Int)) * (29 : Int))) + ((Int.tdiv (((pr + 1 : Nat) : Int) - (1 : Int)) (bsr.length : Int)) * (53 : Int)))) (b := (Int.tdiv (((((bsr.getD (Int.tmod (((pr + 1 : Nat) : Int) - (1 : Int)) (bsr.length : Int)).toNat 0) * (131 : Int)) + ((bsr.getD (Int.tmod (((((pr + 1 : Nat) : Int) - (1 : Int)) * (7 : Int)) + (3 : Int)) (bsr.length : Int)).toNat 0) * (1117 : Int))) + ((((pr + 1 : Nat) : Int) - (1 : Int)) * (29 : Int))) + ((Int.tdiv (((pr + 1 : Nat) : Int) - (1 : Int)) (bsr.length : Int)) * (53 : Int))) (64 : Int))) (by omega) (by omega)
   refine kl_xor rfl rfl ?_
   refine kl_as rfl (kl_nil (kq_code (kc_seq (kc_region (kl_mv rfl (kl_mv rfl ?_))))))
   have h25 := tmod_in (m := (ixor (((((bsr.getD (Int.tmod (((pr + 1 : Nat) : Int) - (1 : Int)) (bsr.length : Int)).toNat 0) * (131 : Int)) + ((bsr.getD (Int.tmod (((((pr + 1 : Nat) : Int) - (1 : Int)) * (7 : Int)) + (3 : Int)) (bsr.length : Int)).toNat 0) * (1117 : Int))) + ((((pr + 1 : Nat) : Int) - (1 : Int)) * (29 : Int))) + ((Int.tdiv (((pr + 1 : Nat) : Int) - (1 : Int)) (bsr.length : Int)) * (53 : Int))) (Int.tdiv (((((bsr.getD (Int.tmod (((pr + 1 : Nat) : Int) - (1 : Int)) (bsr.length : Int)).toNat 0) * (131 : Int)) + ((bsr.getD (Int.tmod (((((pr + 1 : Nat) : Int) - (1 : Int)) * (7 : Int)) + (3 : Int)) (bsr.length : Int)).toNat 0) * (1117 : Int))) + ((((pr + 1 : Nat) : Int) - (1 : Int)) * (29 : Int))) + ((Int.tdiv (((pr + 1 : Nat) : Int) - (1 : Int)) (bsr.length : Int)) * (53 : Int))) (64 : Int)))) (k := n) (by omega) (by omega)
   refine kl_rem rfl rfl (by omega) ?_
   refine kl_as rfl (kl_nil (kq_code (kc_ret ?_)))
   exact kq_retT rfl rfl [sing br (.cells [vbr, .int .i64 ((pr + 1 : Nat) : Int)].toArray 73 (0, 0))] [] noHp frn (fr_no _) ⟨(pr + 1), by omega, rfl, rfl, _, rfl, by omega⟩
theorem one_ok {br : Nat} {vbr : Value} {Hr : Hp} {bsr : List Int} {Hxs : Hp} {vxs : Value} (pr : Nat) (xs : List Int) (hl : 1 ≤ xs.length) (hp : pr + (1) ≤ 1000000) (hr : Bytes Hr vbr bsr) (hxs : Ints Hxs vxs xs) : SpecT Try.prog 56 [.pointer (some ⟨br, 0, none⟩), vxs] [sing br (.cells [vbr, .int .i64 (pr : Int)].toArray 73 (0, 0))] [Hr, Hxs] (fun vq L1 Ln Kq => ∃ q : Nat, q ≤ pr + (1) ∧ L1 = [sing br (.cells [vbr, .int .i64 (q : Int)].toArray 73 (0, 0))] ∧ Ln = [] ∧ ∃ z : Int, vq = .int .i64 z ∧ z ∈ xs) := by
 refine specT_of Try.func56 rfl rfl rfl (fun B => ?_)
 refine kc_seq (kc_region (kl_as rfl (kl_nil (kq_code (kc_seq (kc_region (kl_mv rfl (kl_mv rfl (kl_mv rfl (kl_len rfl (by assumption) (fun l1 => ?_)))))))))))
 refine kl_callT rfl rfl (pick_ok pr (xs.length : Int) (by omega) hr) (fun v2 L1 Ln K6 h3 f4 f5 => ?_)
 obtain ⟨q7, h8, rfl, rfl, z9, rfl, h10⟩ := h3
 refine kl_norm ?_
 refine kl_ixI rfl rfl (by assumption) (by omega) (by omega) (fun p13 a14 => ?_)
 refine kl_ld rfl (by assumption) (kl_as rfl (kl_nil (kq_code (kc_ret ?_))))
 exact kq_retT rfl rfl [sing br (.cells [vbr, .int .i64 (q7 : Int)].toArray 73 (0, 0))] [] noHp frn (fr_no _) ⟨q7, by omega, rfl, rfl, _, rfl, by exact getD_mem (by omega)⟩
theorem domainRange_ok (lo : Int) (hi : Int) : Spec Try.prog 86 [.int .i64 lo, .int .i64 hi] [] (fun Hq vq => ∃ z : Int, vq = .int .i64 z ∧ True) := by
 refine spec_of Try.func86 rfl rfl rfl (fun B => ?_)
 refine kc_seq (kc_region (kl_as rfl (kl_nil (kq_code (kc_seq (kc_region (kl_as rfl (kl_nil (kq_code (kc_seq (kc_seq (kc_region (kl_as rfl (kl_nil (kq_code ?_)))))))))))))))
 refine kc_block (kc_loop0 (A := Nat × Int) (fun zz => (zz.1 ≤ 6) ∧ (0 ≤ zz.2 ∧ zz.2 ≤ 32 * (zz.1 : Int))) (fun zz => 6 - zz.1) (fun zz => [(6, .int .i64 (zz.1 : Int)), (5, .int .i64 zz.2)]) (0, (0 : Int)) (pc 0 rfl (pc 1 rfl (pc 4 rfl pn))) (pc 6 rfl (pc 5 rfl pn)) ⟨Nat.zero_le _, by constructor <;> dsimp only <;> omega⟩ ?_)
 rintro ⟨k, d⟩ hJ3
 obtain ⟨hk1, hi2⟩ : (k ≤ 6) ∧ (0 ≤ d ∧ d ≤ 32 * (k : Int)) := hJ3
 change KC _ _ (_) _ _ ([(6, .int .i64 (k : Int)), (5, .int .i64 d)] ++ _)
 refine kc_seq (kc_seq (kc_region (kl_mv rfl (kl_leq rfl rfl ?_))))
 refine kl_nil (kq_code (kc_if rfl (fun c4 => ?_) (fun c4 => ?_)))
 ·skip
  have hsl := shl_le (v := (k : Int)) (by omega)
  refine kc_skipQ (kq_code (kc_seq (kc_block (kc_seq (kc_region (kl_mv rfl (kl_mv rfl (kl_geq rfl rfl ?_))))))))
  refine kl_mv rfl (kl_join 4 18 (.bool (decide (lo ≤ (k : Int)) && decide ((k : Int) ≤ hi))) (pc 0 rfl (pc 1 rfl (pc 4 rfl (pc 5 rfl (pc 6 rfl (pc 7 rfl (pc 8 rfl (pc 11 rfl (pc 12 rfl (pc 13 rfl (pc 14 rfl pn))))))))))) (fun J6 => ?_) ?_)
  ·rcases Bool.eq_false_or_eq_true (decide (lo ≤ (k : Int))) with g5 | g5
   ·skip
    have g5p := of_decide_eq_true g5
    refine kl_gT rfl rfl g5 (kl_mv rfl (kl_gT rfl rfl g5 (kl_mv rfl (kl_gT rfl rfl g5 (kl_leq rfl rfl ?_)))))
    refine kl_andT rfl rfl g5 ?_
    exact J6 _ (pc 18 rfl (pc 0 rfl (pc 1 rfl (pc 4 rfl (pc 5 rfl (pc 6 rfl (pc 7 rfl (pc 8 rfl (pc 11 rfl (pc 12 rfl (pc 13 rfl (pc 14 rfl pn))))))))))))
   ·skip
    refine kl_gF rfl rfl g5 (kl_gF rfl rfl g5 (kl_gF rfl rfl g5 (kl_andF (decide ((k : Int) ≤ hi)) rfl rfl g5 ?_)))
    exact J6 _ (pc 18 rfl (pc 0 rfl (pc 1 rfl (pc 4 rfl (pc 5 rfl (pc 6 rfl (pc 7 rfl (pc 8 rfl (pc 11 rfl (pc 12 rfl (pc 13 rfl (pc 14 rfl pn))))))))))))
  refine kl_nil (kq_code (kc_cond rfl (fun c7 => ?_) (fun c7 => ?_)))
  ·skip
   have c7r := c7
   try simp only [smpC, decide_eq_true_eq, decide_eq_false_iff_not] at c7
   have hsl := shl_le (v := (k : Int)) (by omega)
   refine kc_region (kl_mv rfl (kl_mv rfl (kl_shl rfl rfl (by omega) ?_)))
   refine kl_add rfl rfl (by omega) ?_
   refine kl_as rfl (kl_nil (kq_code (kc_region (kl_mv rfl (kl_inc rfl rfl (by omega) ?_)))))
   refine kl_as rfl (kl_nil (kq_round0 ((k + 1), (d + (ishl (1 : Int) (k : Int)))) (by omega) (⟨by omega, (by have hsl := shl_le (v := (k : Int)) (by omega); constructor <;> dsimp only <;> omega)⟩) (pc 6 rfl (pc 5 rfl pn)) (pc 0 rfl (pc 1 rfl (pc 4 rfl pn))) (List.Sublist.refl _)))
  ·skip
   have c7r := c7
   try simp only [smpC, decide_eq_true_eq, decide_eq_false_iff_not] at c7
   refine kc_skipQ (kq_code (kc_region (kl_mv rfl (kl_inc rfl rfl (by omega) ?_))))
   refine kl_as rfl (kl_nil (kq_round0 ((k + 1), d) (by omega) (⟨by omega, (by have hsl := shl_le (v := (k : Int)) (by omega); constructor <;> dsimp only <;> omega)⟩) (pc 6 rfl (pc 5 rfl pn)) (pc 0 rfl (pc 1 rfl (pc 4 rfl pn))) (List.Sublist.refl _)))
 ·skip
  refine kc_exit (kq_code (kc_seq (kc_region (kl_mv rfl (kl_as rfl (kl_nil (kq_code (kc_ret ?_))))))))
  exact kq_retP rfl rfl ⟨_, rfl, by trivial⟩
theorem randomDomain_ok {br : Nat} {vbr : Value} {Hr : Hp} {bsr : List Int} (pr : Nat) (hp : pr + (3) ≤ 1000000) (hr : Bytes Hr vbr bsr) : SpecT Try.prog 54 [.pointer (some ⟨br, 0, none⟩)] [sing br (.cells [vbr, .int .i64 (pr : Int)].toArray 73 (0, 0))] [Hr] (fun vq L1 Ln Kq => ∃ q : Nat, q ≤ pr + (3) ∧ L1 = [sing br (.cells [vbr, .int .i64 (q : Int)].toArray 73 (0, 0))] ∧ Ln = [] ∧ ∃ z : Int, vq = .int .i64 z ∧ True) := by
 refine specT_of Try.func54 rfl rfl rfl (fun B => ?_)
 refine kc_seq (kc_region (kl_as rfl (kl_nil (kq_code (kc_seq (kc_seq (kc_region (kl_mv rfl (kl_callT rfl rfl (pick_ok pr (4 : Int) (by omega) hr) (fun v1 L1 Ln K5 h2 f3 f4 => ?_))))))))))
 obtain ⟨q6, h7, rfl, rfl, z8, rfl, h9⟩ := h2
 refine kl_norm ?_
 refine kl_nil (kq_code (kc_block (kc_seq (kc_region (kl_eql rfl rfl ?_)))))
 refine kl_as rfl (kl_nil (kq_code (kc_if rfl (fun c12 => ?_) (fun c12 => ?_))))
 ·skip
  refine kc_seq (kc_region (kl_as rfl (kl_nil (kq_code (kc_ret ?_)))))
  exact kq_retT rfl rfl [sing br (.cells [vbr, .int .i64 (q6 : Int)].toArray 73 (0, 0))] [] noHp frn (fr_no _) ⟨q6, by omega, rfl, rfl, _, rfl, by trivial⟩
 ·skip
  refine kc_seq (kc_region (kl_eql rfl rfl ?_))
  refine kl_as rfl (kl_nil (kq_code (kc_if rfl (fun c13 => ?_) (fun c13 => ?_))))
  ·skip
   refine kc_seq (kc_region (kl_mv rfl (kl_callT rfl rfl (pick_ok q6 (3 : Int) (by omega) hr) (fun v14 L1 Ln K18 h15 f16 f17 => ?_))))
   obtain ⟨q19, h20, rfl, rfl, z21, rfl, h22⟩ := h15
   refine kl_norm ?_
   refine kl_mv rfl (kl_callT rfl rfl (pick_ok q19 (4 : Int) (by omega) hr) (fun v25 L1 Ln K29 h26 f27 f28 => ?_))
   obtain ⟨q30, h31, rfl, rfl, z32, rfl, h33⟩ := h26
   refine kl_norm ?_
   refine kl_add rfl rfl (by omega) ?_
   refine kl_call rfl rfl (domainRange_ok z21 ((2 : Int) + z32)) (fun v36 H37 f38 h39 => ?_)
   obtain ⟨z40, rfl, h41⟩ := h39
   refine kl_as rfl (kl_nil (kq_code (kc_ret ?_)))
   exact kq_retT rfl rfl [sing br (.cells [vbr, .int .i64 (q30 : Int)].toArray 73 (0, 0))] [] noHp frn (fr_no _) ⟨q30, by omega, rfl, rfl, _, rfl, by trivial⟩
  ·skip
   refine kc_seq (kc_region (kl_eql rfl rfl ?_))
   refine kl_as rfl (kl_nil (kq_code (kc_if rfl (fun c42 => ?_) (fun c42 => ?_))))
   ·skip
    refine kc_seq (kc_region (kl_mv rfl (kl_callT rfl rfl (pick_ok q6 (6 : Int) (by omega) hr) (fun v43 L1 Ln K47 h44 f45 f46 => ?_))))
    obtain ⟨q48, h49, rfl, rfl, z50, rfl, h51⟩ := h44
    refine kl_norm ?_
    refine kl_shl rfl rfl (by omega) ?_
    refine kl_as rfl (kl_nil (kq_code (kc_ret ?_)))
    exact kq_retT rfl rfl [sing br (.cells [vbr, .int .i64 (q48 : Int)].toArray 73 (0, 0))] [] noHp frn (fr_no _) ⟨q48, by omega, rfl, rfl, _, rfl, by trivial⟩
   ·skip
    refine kc_skipQ (kq_code (kc_seq (kc_region (kl_mv rfl (kl_callT rfl rfl (pick_ok q6 (63 : Int) (by omega) hr) (fun v54 L1 Ln K58 h55 f56 f57 => ?_))))))
    obtain ⟨q59, h60, rfl, rfl, z61, rfl, h62⟩ := h55
    refine kl_norm ?_
    refine kl_add rfl rfl (by omega) ?_
    refine kl_as rfl (kl_nil (kq_code (kc_ret ?_)))
    exact kq_retT rfl rfl [sing br (.cells [vbr, .int .i64 (q59 : Int)].toArray 73 (0, 0))] [] noHp frn (fr_no _) ⟨q59, by omega, rfl, rfl, _, rfl, by trivial⟩
theorem someVars_ok {br : Nat} {vbr : Value} {Hr : Hp} {bsr : List Int} (pr : Nat) (n : Int) (k : Int) (hn : 1 ≤ n ∧ n ≤ 4) (hk : 1 ≤ k) (hp : pr + (4) ≤ 1000000) (hr : Bytes Hr vbr bsr) : SpecT Try.prog 87 [.pointer (some ⟨br, 0, none⟩), .int .i64 n, .int .i64 k] [sing br (.cells [vbr, .int .i64 (pr : Int)].toArray 73 (0, 0))] [Hr] (fun vq L1 Ln Kq => ∃ q : Nat, q ≤ pr + (4) ∧ L1 = [sing br (.cells [vbr, .int .i64 (q : Int)].toArray 73 (0, 0))] ∧ ∃ (Hq : Hp) (xq : List Int), Ln = [Hq] ∧ OwnL 3 1 Hq noHp IntV vq xq ∧ (xq.length : Int) = min k n) := by
 refine specT_of Try.func87 rfl rfl rfl (fun B => ?_)
 refine kc_seq (kc_region (kl_as rfl (kl_nil (kq_code (kc_seq (kc_region (kl_bsI [] rfl rfl rfl (by decide) (fun v1 H2 f3 o4 => ?_))))))))
 refine kl_as rfl (kl_nil (kq_code (kc_seq (kc_seq (kc_region (kl_as rfl (kl_nil (kq_code (kc_block (kc_loopL (A := Nat × List Int × Value × Hp × Nat) (fun zz => (zz.1 ≤ n.toNat) ∧ (zz.2.1.length = zz.1) ∧ OwnL 3 1 zz.2.2.2.1 noHp IntV zz.2.2.1 zz.2.1 ∧ Fr B zz.2.2.2.1 ∧ zz.2.2.2.2 ≤ pr + zz.1) (fun zz => n.toNat - zz.1) (fun zz => [zz.2.2.2.1, sing br (.cells [vbr, .int .i64 (zz.2.2.2.2 : Int)].toArray 73 (0, 0))]) (fun zz => [(8, .int .i64 (zz.1 : Int)), (7, zz.2.2.1)]) (0, ([]), v1, H2, pr) (pc 0 rfl (pc 1 rfl (pc 2 rfl (pc 6 rfl pn)))) (pc 8 rfl (pc 7 rfl pn)) rfl ⟨Nat.zero_le _, rfl, o4, f3, (by first | omega | (dsimp only; omega))⟩ ?_))))))))))
 rintro ⟨i, out, v10, H7, q11⟩ hJ13
 obtain ⟨hk5, hi6, o8, f9, hq12⟩ : (i ≤ n.toNat) ∧ (out.length = i) ∧ OwnL 3 1 H7 noHp IntV v10 out ∧ Fr B H7 ∧ q11 ≤ pr + i := hJ13
 change KC _ _ (_) [H7, sing br (.cells [vbr, .int .i64 (q11 : Int)].toArray 73 (0, 0))] _ ([(8, .int .i64 (i : Int)), (7, v10)] ++ _)
 refine kc_seq (kc_seq (kc_region (kl_mv rfl (kl_mv rfl (kl_lss rfl rfl ?_)))))
 refine kl_nil (kq_code (kc_if rfl (fun c14 => ?_) (fun c14 => ?_)))
 ·skip
  refine kc_skipQ (kq_code (kc_seq (kc_block (kc_seq (kc_region (kl_mv rfl (kl_callT rfl rfl (pick_ok q11 (2 : Int) (by omega) hr) (fun v15 L1 Ln K19 h16 f17 f18 => ?_))))))))
  obtain ⟨q20, h21, rfl, rfl, z22, rfl, h23⟩ := h16
  refine kl_norm ?_
  refine kl_eql rfl rfl ?_
  refine kl_nil (kq_code (kc_if rfl (fun c26 => ?_) (fun c26 => ?_)))
  ·skip
   refine kc_region (kl_mv rfl (kl_mv rfl (kl_bs rfl rfl rfl (by decide) (ca rfl ca_nil) (fun v27 H28 f29 r30 s31 => ?_))))
   have h32 : Ints H28 v27 [(i : Int)] := litInts (xs := [(i : Int)]) (by simpa using s31)
   refine kl_apL (i : Int) rfl rfl o8 (by assumption) rfl (oc rfl oc_nil) (by simp; omega) (by decide) (fun v33 H34 o35 f36 => ?_)
   have f37 := f36 B f9 (Nat.le_refl _)
   refine kl_as rfl (kl_nil (kq_code (kc_region (kl_mv rfl (kl_inc rfl rfl (by omega) ?_)))))
   refine kl_as rfl (kl_nil (kq_take [H34, sing br (.cells [vbr, .int .i64 (q20 : Int)].toArray 73 (0, 0))] ?_))
   refine kq_roundL ((i + 1), (out ++ [(i : Int)]), v33, H34, q20) (by omega) (⟨by omega, (by simp; omega), o35, f37, (by first | omega | (dsimp only; omega))⟩) (pc 8 rfl (pc 7 rfl pn)) (pc 0 rfl (pc 1 rfl (pc 2 rfl (pc 6 rfl pn)))) rfl (List.Sublist.refl _)
  ·skip
   refine kc_region (kl_mv rfl (kl_bsI [(i : Int)] rfl rfl rfl (by decide) (fun v38 H39 f40 o41 => ?_)))
   refine kl_mv rfl (kl_frz H7 ?_)
   have h42 := OwnL.ints o8
   refine kl_apS rfl rfl o41 (by assumption) (fun _ _ h => h) (by simp; omega) (by decide) (fun v43 H44 o45 f46 => ?_)
   have f47 := f46 B f40 (Nat.le_refl _)
   refine kl_as rfl (kl_nil (kq_code (kc_region (kl_mv rfl (kl_inc rfl rfl (by omega) ?_)))))
   refine kl_as rfl (kl_nil (kq_take [H44, sing br (.cells [vbr, .int .i64 (q20 : Int)].toArray 73 (0, 0))] ?_))
   refine kq_roundL ((i + 1), ([(i : Int)] ++ out), v43, H44, q20) (by omega) (⟨by omega, (by simp; omega), o45, f47, (by first | omega | (dsimp only; omega))⟩) (pc 8 rfl (pc 7 rfl pn)) (pc 0 rfl (pc 1 rfl (pc 2 rfl (pc 6 rfl pn)))) rfl (List.Sublist.refl _)
 ·skip
  refine kc_exit (kq_code (kc_seq (kc_seq (kc_region (kl_mv rfl (kl_mv rfl (kl_gtr rfl rfl ?_)))))))
  refine kl_nil (kq_code (kc_if rfl (fun c48 => ?_) (fun c48 => ?_)))
  ·skip
   refine kc_region (kl_mv rfl (kl_as rfl (kl_nil (kq_code (kc_seq (kc_region (kl_mv rfl (kl_mv rfl ?_))))))))
   have e51 : n = (((Int.toNat n) : Nat) : Int) := by first | omega | (simp only [List.length_append, List.length_cons, List.length_nil]; omega)
   refine kl_slTakeL (i := (Int.toNat n)) rfl (by rw [← e51]; rfl) o8 (by simp; omega) (fun u49 o50 => ?_)
   refine kl_as rfl (kl_nil (kq_code (kc_ret ?_)))
   exact kq_retT rfl rfl [sing br (.cells [vbr, .int .i64 (q11 : Int)].toArray 73 (0, 0))] [H7] noHp (fr1 f9) (fr_no _) ⟨q11, by omega, rfl, H7, (out.take (Int.toNat n)), rfl, o50, by (simp; omega)⟩
  ·skip
   refine kc_skipQ (kq_code (kc_seq (kc_region (kl_mv rfl (kl_mv rfl ?_)))))
   have e54 : k = (((Int.toNat k) : Nat) : Int) := by first | omega | (simp only [List.length_append, List.length_cons, List.length_nil]; omega)
   refine kl_slTakeL (i := (Int.toNat k)) rfl (by rw [← e54]; rfl) o8 (by simp; omega) (fun u52 o53 => ?_)
   refine kl_as rfl (kl_nil (kq_code (kc_ret ?_)))
   exact kq_retT rfl rfl [sing br (.cells [vbr, .int .i64 (q11 : Int)].toArray 73 (0, 0))] [H7] noHp (fr1 f9) (fr_no _) ⟨q11, by omega, rfl, H7, (out.take (Int.toNat k)), rfl, o53, by (simp; omega)⟩
theorem randomRow_ok {br : Nat} {vbr : Value} {Hr : Hp} {bsr : List Int} (pr : Nat) (k : Int) (hk : 0 ≤ k ∧ k ≤ 12) (hp : pr + (12) ≤ 1000000) (hr : Bytes Hr vbr bsr) : SpecT Try.prog 88 [.pointer (some ⟨br, 0, none⟩), .int .i64 k] [sing br (.cells [vbr, .int .i64 (pr : Int)].toArray 73 (0, 0))] [Hr] (fun vq L1 Ln Kq => ∃ q : Nat, q ≤ pr + (12) ∧ L1 = [sing br (.cells [vbr, .int .i64 (q : Int)].toArray 73 (0, 0))] ∧ ∃ (Hq : Hp) (xq : List Int), Ln = [Hq] ∧ OwnL 3 1 Hq noHp IntV vq xq ∧ (xq.length : Int) = k) := by
 refine specT_of Try.func88 rfl rfl rfl (fun B => ?_)
 refine kc_seq (kc_region (kl_as rfl (kl_nil (kq_code (kc_seq (kc_region (kl_bsI [] rfl rfl rfl (by decide) (fun v1 H2 f3 o4 => ?_))))))))
 refine kl_as rfl (kl_nil (kq_code (kc_seq (kc_seq (kc_region (kl_as rfl (kl_nil (kq_code (kc_block (kc_loopL (A := Nat × List Int × Value × Hp × Nat) (fun zz => (zz.1 ≤ k.toNat) ∧ (zz.2.1.length = zz.1) ∧ OwnL 3 1 zz.2.2.2.1 noHp IntV zz.2.2.1 zz.2.1 ∧ Fr B zz.2.2.2.1 ∧ zz.2.2.2.2 ≤ pr + zz.1) (fun zz => k.toNat - zz.1) (fun zz => [zz.2.2.2.1, sing br (.cells [vbr, .int .i64 (zz.2.2.2.2 : Int)].toArray 73 (0, 0))]) (fun zz => [(6, .int .i64 (zz.1 : Int)), (5, zz.2.2.1)]) (0, ([]), v1, H2, pr) (pc 0 rfl (pc 1 rfl (pc 4 rfl pn))) (pc 6 rfl (pc 5 rfl pn)) rfl ⟨Nat.zero_le _, rfl, o4, f3, (by first | omega | (dsimp only; omega))⟩ ?_))))))))))
 rintro ⟨i, out, v10, H7, q11⟩ hJ13
 obtain ⟨hk5, hi6, o8, f9, hq12⟩ : (i ≤ k.toNat) ∧ (out.length = i) ∧ OwnL 3 1 H7 noHp IntV v10 out ∧ Fr B H7 ∧ q11 ≤ pr + i := hJ13
 change KC _ _ (_) [H7, sing br (.cells [vbr, .int .i64 (q11 : Int)].toArray 73 (0, 0))] _ ([(6, .int .i64 (i : Int)), (5, v10)] ++ _)
 refine kc_seq (kc_seq (kc_region (kl_mv rfl (kl_mv rfl (kl_lss rfl rfl ?_)))))
 refine kl_nil (kq_code (kc_if rfl (fun c14 => ?_) (fun c14 => ?_)))
 ·skip
  refine kc_skipQ (kq_code (kc_seq (kc_block (kc_region (kl_mv rfl (kl_mv rfl (kl_callT rfl rfl (pick_ok q11 (6 : Int) (by omega) hr) (fun v15 L1 Ln K19 h16 f17 f18 => ?_))))))))
  obtain ⟨q20, h21, rfl, rfl, z22, rfl, h23⟩ := h16
  refine kl_norm ?_
  refine kl_bs rfl rfl rfl (by decide) (ca rfl ca_nil) (fun v26 H27 f28 r29 s30 => ?_)
  have h31 : Ints H27 v26 [z22] := litInts (xs := [z22]) (by simpa using s30)
  refine kl_apL z22 rfl rfl o8 (by assumption) rfl (oc rfl oc_nil) (by omega) (by decide) (fun v32 H33 o34 f35 => ?_)
  have f36 := f35 B f9 (Nat.le_refl _)
  refine kl_as rfl (kl_nil (kq_code (kc_region (kl_mv rfl (kl_inc rfl rfl (by omega) ?_)))))
  refine kl_as rfl (kl_nil (kq_take [H33, sing br (.cells [vbr, .int .i64 (q20 : Int)].toArray 73 (0, 0))] ?_))
  refine kq_roundL ((i + 1), (out ++ [z22]), v32, H33, q20) (by omega) (⟨by omega, (by simp; omega), o34, f36, (by first | omega | (dsimp only; omega))⟩) (pc 6 rfl (pc 5 rfl pn)) (pc 0 rfl (pc 1 rfl (pc 4 rfl pn))) rfl (List.Sublist.refl _)
 ·skip
  refine kc_exit (kq_code (kc_seq (kc_region (kl_mv rfl (kl_as rfl (kl_nil (kq_code (kc_ret ?_))))))))
  exact kq_retT rfl rfl [sing br (.cells [vbr, .int .i64 (q11 : Int)].toArray 73 (0, 0))] [H7] noHp (fr1 f9) (fr_no _) ⟨q11, by omega, rfl, H7, out, rfl, o8, by omega⟩
end Go.Proofs.Ytiilanckbocifaa
