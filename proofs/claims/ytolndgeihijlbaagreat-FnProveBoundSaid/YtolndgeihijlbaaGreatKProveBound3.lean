/- Parts of the proof: a logic of partial frames, plain functions, walks of the program's functions. Conditions: those that each statement names. -/
import Derived.Test.YtolndgeihijlbaaGreatKProveBound2
namespace Go.Proofs.YtolndgeihijlbaaGreat
open Go
set_option linter.unusedSimpArgs false
set_option linter.unusedVariables false
section
theorem newReader_ok {Hcode : Hp} {vcode : Value} (code : List Int) (hcode : Bytes Hcode vcode code) : SpecT Tryz.prog 28 [vcode] [] [Hcode] (fun vq L1 Ln Kq => L1 = [] ∧ ∃ (b : Nat) (vb : Value) (bs : List Int), vq = .pointer (some ⟨b, 0, none⟩) ∧ Ln = [bxS b [vb, .int .i64 ((0 : Nat) : Int)] 84] ∧ Bytes Hcode vb bs) := by
 refine specT_of Tryz.func28 rfl rfl rfl (fun B => ?_)
 refine cS (cr (sg rfl (ln (qc (cS (cS (cr (mv rfl (le9 rfl ‹_› (fun l1 => ?_))))))))))
 refine kl_gtr rfl rfl ?_
 refine ln (qc (ci9 rfl (fun c2 => ?_) (fun c2 => ?_)))
 ·refine cr (mv rfl (kl_slTake (i := 2000) rfl rfl ‹_› (by omega) (fun u3 h4 => ?_)))
  refine sg rfl (ln (qc (cS (cr (mv rfl (kl_bd rfl (cp (Sl.cells ‹_›) cp_nil) rfl ?_))))))
  refine kl_boxL (cs := [u3, .int .i64 (0 : Int)]) rfl rfl (fun b5 hb6 => ?_)
  refine sg rfl (ln (qc (rt ?_)))
  exact kq_retT rfl rfl [] [bxS b5 [u3, .int .i64 (0 : Int)] 84] noHp (fr1 (fr_sing hb6)) (fr_no _) ⟨rfl, b5, _, _, rfl, rfl, h4⟩
 ·refine sk (qc (cS (cr (mv rfl (kl_bd rfl (cp (Sl.cells ‹_›) cp_nil) rfl ?_)))))
  refine kl_boxL (cs := [vcode, .int .i64 (0 : Int)]) rfl rfl (fun b7 hb8 => ?_)
  refine sg rfl (ln (qc (rt ?_)))
  exact kq_retT rfl rfl [] [bxS b7 [vcode, .int .i64 (0 : Int)] 84] noHp (fr1 (fr_sing hb8)) (fr_no _) ⟨rfl, b7, _, _, rfl, rfl, hcode⟩
theorem pick_ok {br : Nat} {vbr : Value} {Hr : Hp} {bsr : List Int} (pr : Nat) (n : Int) (hp : pr + (1) ≤ 1000000) (hr : Bytes Hr vbr bsr) : SpecT Tryz.prog 31 [.pointer (some ⟨br, 0, none⟩), .int .i64 n] [bxS br [vbr, .int .i64 (pr : Int)] 84] [Hr] (fun vq L1 Ln Kq => ∃ q : Nat, q ≤ pr + (1) ∧ L1 = [bxS br [vbr, .int .i64 (q : Int)] 84] ∧ Ln = [] ∧ ∃ z : Int, vq = .int .i64 z ∧ (0 ≤ z ∧ (z < n ∨ z = 0))) := by
 refine specT_of Tryz.func31 rfl rfl rfl (fun B => ?_)
 refine cS (cr (sg rfl (ln (qc (cS (cr (mv rfl (mv rfl (kl_nilchk rfl ?_)))))))))
 refine fV rfl (lB rfl rfl (ic9 rfl rfl (by omega) ?_))
 refine kl_nilchk rfl ?_
 refine fV rfl (sB rfl rfl rfl rfl rfl ?_)
 refine cg [bxS br [vbr, .int .i64 ((pr + 1 : Nat) : Int)] 84] rfl ?_
 refine ln (qc (cS (cS (cr (mv rfl (ls9 rfl rfl ?_))))))
 refine mv rfl (jn 7 24 (.bool (decide (n < (1 : Int)) || decide ((bsr.length : Int) = (0 : Int)))) (pk [0, 1, 4, 17] rfl) (fun J3 => ?_) ?_)
 ·rcases Bool.eq_false_or_eq_true (decide (n < (1 : Int))) with g1 | g1
  ·refine gF rfl rfl g1 (gF rfl rfl g1 (gF rfl rfl g1 (gF rfl rfl g1 (gF rfl rfl g1 (gF rfl rfl g1 (oT (decide ((bsr.length : Int) = (0 : Int))) rfl rfl g1 ?_))))))
   exact J3 _ (pk [24, 0, 1, 4, 17] rfl)
  ·have g1p := of_decide_eq_false g1
   refine gT rfl rfl g1 (mv rfl (gT rfl rfl g1 (kl_nilchk rfl ?_)))
   refine gT rfl rfl g1 (fV rfl (gT rfl rfl g1 (lB rfl rfl (gT rfl rfl g1 (le9 rfl ‹_› (fun l2 => ?_))))))
   refine gT rfl rfl g1 (eq9 rfl rfl ?_)
   refine oF rfl rfl g1 ?_
   exact J3 _ (pk [24, 0, 1, 4, 17] rfl)
 refine ln (qc (cd9 rfl (fun c4 => ?_) (fun c4 => ?_)))
 ·have c4r := c4
  try simp only [smpE] at c4
  refine cS (cr (sg rfl (ln (qc (rt ?_)))))
  exact kq_retT rfl rfl [bxS br [vbr, .int .i64 ((pr + 1 : Nat) : Int)] 84] [] noHp frn (fr_no _) ⟨(pr + 1), by omega, rfl, rfl, _, rfl, by omega⟩
 ·have c4r := c4
  try simp only [smpE] at c4
  refine sk (qc (cS (cr (mv rfl (kl_nilchk rfl ?_)))))
  refine fV rfl (lB rfl rfl (sb9 rfl rfl (by omega) ?_))
  refine sg rfl (ln (qc (cS (cS (cr (mv rfl (mv rfl (kl_nilchk rfl ?_))))))))
  refine fV rfl (lB rfl rfl (le9 rfl ‹_› (fun l5 => ?_)))
  refine ls9 rfl rfl ?_
  refine ln (qc (ci9 rfl (fun c6 => ?_) (fun c6 => ?_)))
  ·refine cS (cr (mv rfl (kl_nilchk rfl ?_)))
   refine fV rfl (lB rfl rfl (mv rfl (kl_ixY rfl rfl ‹_› (by omega) (by omega) (fun p7 a8 hb9 => ?_))))
   refine ld rfl ‹_› (kl_cvi rfl (by omega) ?_)
   refine mv rfl ?_
   have h10 := tmod_in (m := (bsr.getD (((pr + 1 : Nat) : Int) - (1 : Int)).toNat 0)) (k := n) (by omega) (by omega)
   refine kl_rem rfl rfl (by omega) ?_
   refine sg rfl (ln (qc (rt ?_)))
   exact kq_retT rfl rfl [bxS br [vbr, .int .i64 ((pr + 1 : Nat) : Int)] 84] [] noHp frn (fr_no _) ⟨(pr + 1), by omega, rfl, rfl, _, rfl, by omega⟩
  ·refine sk (qc (cS (kc_draw 46 [true, true, true, true, true, true, true, true, true, true, true, true, true, true, true, true, true, true, true, true, true, true, true, true, true, true, true, true, true, true, true, true, true, true, true, true, true, true, true, true, true, true, true, true, true, true] (by kernel_rfl) (by kernel_rfl) ?_)))
   refine mv rfl (kl_nilchk rfl ?_)
   refine fV rfl (lB rfl rfl (mv rfl (mv rfl (kl_nilchk rfl ?_))))
   refine fV rfl (lB rfl rfl (le9 rfl ‹_› (fun l11 => ?_)))
   have h12 := tmod_in (m := (((pr + 1 : Nat) : Int) - (1 : Int))) (k := (bsr.length : Int)) (by omega) (by omega)
   refine kl_rem rfl rfl (by omega) ?_
   refine kl_ixY rfl rfl ‹_› (by omega) (by omega) (fun p13 a14 hb15 => ?_)
   refine ld rfl ‹_› (kl_cvi rfl (by omega) ?_)
   refine kl_mul rfl rfl (by omega) ?_
   refine mv rfl (kl_nilchk rfl ?_)
   refine fV rfl (lB rfl rfl (mv rfl (kl_mul rfl rfl (by omega) ?_)))
   refine ad9 rfl rfl (by omega) ?_
   refine mv rfl (kl_nilchk rfl ?_)
   refine fV rfl (lB rfl rfl (le9 rfl ‹_› (fun l16 => ?_)))
   have h17 := tmod_in (m := (((((pr + 1 : Nat) : Int) - (1 : Int)) * (7 : Int)) + (3 : Int))) (k := (bsr.length : Int)) (by omega) (by omega)
   refine kl_rem rfl rfl (by omega) ?_
   refine kl_ixY rfl rfl ‹_› (by omega) (by omega) (fun p18 a19 hb20 => ?_)
   refine ld rfl ‹_› (kl_cvi rfl (by omega) ?_)
   refine kl_mul rfl rfl (by omega) ?_
   refine ad9 rfl rfl (by omega) ?_
   refine mv rfl (kl_mul rfl rfl (by omega) ?_)
   refine ad9 rfl rfl (by omega) ?_
   refine mv rfl (mv rfl (kl_nilchk rfl ?_))
   refine fV rfl (lB rfl rfl (le9 rfl ‹_› (fun l21 => ?_)))
   have h22 := tdiv_in (m := (((pr + 1 : Nat) : Int) - (1 : Int))) (k := (bsr.length : Int)) (by omega) (by omega)
   refine kl_quo rfl rfl (by omega) (by omega) ?_
   refine kl_mul rfl rfl (by omega) ?_
   refine ad9 rfl rfl (by omega) ?_
   refine sg rfl (ln (qc (cS (cr (mv rfl (mv rfl ?_))))))
   have h23 := tdiv_in (m := (((((bsr.getD (Int.tmod (((pr + 1 : Nat) : Int) - (1 : Int)) (bsr.length : Int)).toNat 0) * (131 : Int)) + ((bsr.getD (Int.tmod (((((pr + 1 : Nat) : Int) - (1 : Int)) * (7 : Int)) + (3 : Int)) (bsr.length : Int)).toNat 0) * (1117 : Int))) + ((((pr + 1 : Nat) : Int) - (1 : Int)) * (29 : Int))) + ((Int.tdiv (((pr + 1 : Nat) : Int) - (1 : Int)) (bsr.length : Int)) * (53 : Int)))) (k := (64 : Int)) (by omega) (by omega)
   refine kl_quo rfl rfl (by omega) (by omega) ?_
   have h24 := ixor_le (a := (((((bsr.getD (Int.tmod (((pr + 1 : Nat) : Int) - (1 : Int)) (bsr.length : Int)).toNat 0) * (131 : Int)) + ((bsr.getD (Int.tmod (((((pr + 1 : Nat) : Int) - (1 : Int)) * (7 : Int)) + (3 : Int)) (bsr.length : Int)).toNat 0) * (1117 : Int))) + ((((pr + 1 : Nat) : Int) - (1 : Int)) * (29 : Int))) + ((Int.tdiv (((pr + 1 : Nat) : Int) - (1 : Int)) (bsr.length : Int)) * (53 : Int)))) (b := (Int.tdiv (((((bsr.getD (Int.tmod (((pr + 1 : Nat) : Int) - (1 : Int)) (bsr.length : Int)).toNat 0) * (131 : Int)) + ((bsr.getD (Int.tmod (((((pr + 1 : Nat) : Int) - (1 : Int)) * (7 : Int)) + (3 : Int)) (bsr.length : Int)).toNat 0) * (1117 : Int))) + ((((pr + 1 : Nat) : Int) - (1 : Int)) * (29 : Int))) + ((Int.tdiv (((pr + 1 : Nat) : Int) - (1 : Int)) (bsr.length : Int)) * (53 : Int))) (64 : Int))) (by omega) (by omega)
   refine kl_xor rfl rfl ?_
   refine sg rfl (ln (qc (cS (cr (mv rfl (mv rfl ?_))))))
   have h25 := tmod_in (m := (ixor (((((bsr.getD (Int.tmod (((pr + 1 : Nat) : Int) - (1 : Int)) (bsr.length : Int)).toNat 0) * (131 : Int)) + ((bsr.getD (Int.tmod (((((pr + 1 : Nat) : Int) - (1 : Int)) * (7 : Int)) + (3 : Int)) (bsr.length : Int)).toNat 0) * (1117 : Int))) + ((((pr + 1 : Nat) : Int) - (1 : Int)) * (29 : Int))) + ((Int.tdiv (((pr + 1 : Nat) : Int) - (1 : Int)) (bsr.length : Int)) * (53 : Int))) (Int.tdiv (((((bsr.getD (Int.tmod (((pr + 1 : Nat) : Int) - (1 : Int)) (bsr.length : Int)).toNat 0) * (131 : Int)) + ((bsr.getD (Int.tmod (((((pr + 1 : Nat) : Int) - (1 : Int)) * (7 : Int)) + (3 : Int)) (bsr.length : Int)).toNat 0) * (1117 : Int))) + ((((pr + 1 : Nat) : Int) - (1 : Int)) * (29 : Int))) + ((Int.tdiv (((pr + 1 : Nat) : Int) - (1 : Int)) (bsr.length : Int)) * (53 : Int))) (64 : Int)))) (k := n) (by omega) (by omega)
   refine kl_rem rfl rfl (by omega) ?_
   refine sg rfl (ln (qc (rt ?_)))
   exact kq_retT rfl rfl [bxS br [vbr, .int .i64 ((pr + 1 : Nat) : Int)] 84] [] noHp frn (fr_no _) ⟨(pr + 1), by omega, rfl, rfl, _, rfl, by omega⟩
theorem one_ok {br : Nat} {vbr : Value} {Hr : Hp} {bsr : List Int} {Hxs : Hp} {vxs : Value} (pr : Nat) (xs : List Int) (hl : 1 ≤ xs.length) (hp : pr + (1) ≤ 1000000) (hr : Bytes Hr vbr bsr) (hxs : Ints Hxs vxs xs) : SpecT Tryz.prog 36 [.pointer (some ⟨br, 0, none⟩), vxs] [bxS br [vbr, .int .i64 (pr : Int)] 84] [Hr, Hxs] (fun vq L1 Ln Kq => ∃ q : Nat, q ≤ pr + (1) ∧ L1 = [bxS br [vbr, .int .i64 (q : Int)] 84] ∧ Ln = [] ∧ ∃ z : Int, vq = .int .i64 z ∧ z ∈ xs) := by
 refine specT_of Tryz.func36 rfl rfl rfl (fun B => ?_)
 refine cS (cr (sg rfl (ln (qc (cS (cr (mv rfl (mv rfl (mv rfl (le9 rfl ‹_› (fun l1 => ?_)))))))))))
 refine cT rfl rfl (pick_ok pr (xs.length : Int) (by omega) hr) (fun v2 L1 Ln K6 h3 f4 f5 => ?_)
 obtain ⟨q7, h8, rfl, rfl, z9, rfl, h10⟩ := h3
 refine nm ?_
 refine kl_ixI rfl rfl ‹_› (by omega) (by omega) (fun p13 a14 => ?_)
 refine ld rfl ‹_› (sg rfl (ln (qc (rt ?_))))
 exact kq_retT rfl rfl [bxS br [vbr, .int .i64 (q7 : Int)] 84] [] noHp frn (fr_no _) ⟨q7, by omega, rfl, rfl, _, rfl, by exact getD_mem (by omega)⟩
theorem domainRange_ok (lo : Int) (hi : Int) : Spec Tryz.prog 104 [.int .i64 lo, .int .i64 hi] [] (fun Hq vq => ∃ z : Int, vq = .int .i64 z ∧ True) := by
 refine spec_of Tryz.func104 rfl rfl rfl (fun B => ?_)
 refine cS (cr (sg rfl (ln (qc (cS (cr (sg rfl (ln (qc (cS (cS (cr (sg rfl (ln (qc ?_)))))))))))))))
 refine bl (kc_loop0 (A := Nat × Int) (fun zz => (zz.1 ≤ 6) ∧ (0 ≤ zz.2 ∧ zz.2 ≤ 32 * (zz.1 : Int))) (fun zz => 6 - zz.1) (fun zz => [(6, .int .i64 (zz.1 : Int)), (5, .int .i64 zz.2)]) (0, (0 : Int)) (pk [0, 1, 4] rfl) (pk [6, 5] rfl) ⟨Nat.zero_le _, by constructor <;> dsimp only <;> omega⟩ ?_)
 rintro ⟨k, d⟩ hJ3
 obtain ⟨hk1, hi2⟩ : (k ≤ 6) ∧ (0 ≤ d ∧ d ≤ 32 * (k : Int)) := hJ3
 change KC _ _ (_) _ _ ([(6, .int .i64 (k : Int)), (5, .int .i64 d)] ++ _)
 refine cS (cS (cr (mv rfl (kl_leq rfl rfl ?_))))
 refine ln (qc (ci9 rfl (fun c4 => ?_) (fun c4 => ?_)))
 ·have hsl := shl_le (v := (k : Int)) (by omega)
  refine sk (qc (cS (bl (cS (cr (mv rfl (mv rfl (kl_geq rfl rfl ?_))))))))
  refine mv rfl (jn 4 18 (.bool (decide (lo ≤ (k : Int)) && decide ((k : Int) ≤ hi))) (pk [0, 1, 4, 5, 6, 7, 8, 11, 12, 13, 14] rfl) (fun J6 => ?_) ?_)
  ·rcases Bool.eq_false_or_eq_true (decide (lo ≤ (k : Int))) with g5 | g5
   ·have g5p := of_decide_eq_true g5
    refine gT rfl rfl g5 (mv rfl (gT rfl rfl g5 (mv rfl (gT rfl rfl g5 (kl_leq rfl rfl ?_)))))
    refine aT rfl rfl g5 ?_
    exact J6 _ (pk [18, 0, 1, 4, 5, 6, 7, 8, 11, 12, 13, 14] rfl)
   ·refine gF rfl rfl g5 (gF rfl rfl g5 (gF rfl rfl g5 (aF (decide ((k : Int) ≤ hi)) rfl rfl g5 ?_)))
    exact J6 _ (pk [18, 0, 1, 4, 5, 6, 7, 8, 11, 12, 13, 14] rfl)
  refine ln (qc (cd9 rfl (fun c7 => ?_) (fun c7 => ?_)))
  ·have c7r := c7
   try simp only [smpE] at c7
   have hsl := shl_le (v := (k : Int)) (by omega)
   refine cr (mv rfl (mv rfl (kl_shl rfl rfl (by omega) ?_)))
   refine ad9 rfl rfl (by omega) ?_
   refine sg rfl (ln (qc (cr (mv rfl (ic9 rfl rfl (by omega) ?_)))))
   refine sg rfl (ln (kq_round0 ((k + 1), (d + (ishl (1 : Int) (k : Int)))) (by omega) (⟨by omega, (by have hsl := shl_le (v := (k : Int)) (by omega); constructor <;> dsimp only <;> omega)⟩) (pk [6, 5] rfl) (pk [0, 1, 4] rfl) slr9))
  ·have c7r := c7
   try simp only [smpE] at c7
   refine sk (qc (cr (mv rfl (ic9 rfl rfl (by omega) ?_))))
   refine sg rfl (ln (kq_round0 ((k + 1), d) (by omega) (⟨by omega, (by have hsl := shl_le (v := (k : Int)) (by omega); constructor <;> dsimp only <;> omega)⟩) (pk [6, 5] rfl) (pk [0, 1, 4] rfl) slr9))
 ·refine ex9 (qc (cS (cr (mv rfl (sg rfl (ln (qc (rt ?_))))))))
  exact kq_retP rfl rfl ⟨_, rfl, by trivial⟩
theorem randomDomain_ok {br : Nat} {vbr : Value} {Hr : Hp} {bsr : List Int} (pr : Nat) (hp : pr + (3) ≤ 1000000) (hr : Bytes Hr vbr bsr) : SpecT Tryz.prog 146 [.pointer (some ⟨br, 0, none⟩)] [bxS br [vbr, .int .i64 (pr : Int)] 84] [Hr] (fun vq L1 Ln Kq => ∃ q : Nat, q ≤ pr + (3) ∧ L1 = [bxS br [vbr, .int .i64 (q : Int)] 84] ∧ Ln = [] ∧ ∃ z : Int, vq = .int .i64 z ∧ True) := by
 refine specT_of Tryz.func146 rfl rfl rfl (fun B => ?_)
 refine cS (cr (sg rfl (ln (qc (cS (cS (cr (mv rfl (cT rfl rfl (pick_ok pr (4 : Int) (by omega) hr) (fun v1 L1 Ln K5 h2 f3 f4 => ?_))))))))))
 obtain ⟨q6, h7, rfl, rfl, z8, rfl, h9⟩ := h2
 refine nm ?_
 refine ln (qc (bl (cS (cr (eq9 rfl rfl ?_)))))
 refine sg rfl (ln (qc (ci9 rfl (fun c12 => ?_) (fun c12 => ?_))))
 ·refine cS (cr (sg rfl (ln (qc (rt ?_)))))
  exact kq_retT rfl rfl [bxS br [vbr, .int .i64 (q6 : Int)] 84] [] noHp frn (fr_no _) ⟨q6, by omega, rfl, rfl, _, rfl, by trivial⟩
 ·refine cS (cr (eq9 rfl rfl ?_))
  refine sg rfl (ln (qc (ci9 rfl (fun c13 => ?_) (fun c13 => ?_))))
  ·refine cS (cr (mv rfl (cT rfl rfl (pick_ok q6 (3 : Int) (by omega) hr) (fun v14 L1 Ln K18 h15 f16 f17 => ?_))))
   obtain ⟨q19, h20, rfl, rfl, z21, rfl, h22⟩ := h15
   refine nm ?_
   refine mv rfl (cT rfl rfl (pick_ok q19 (4 : Int) (by omega) hr) (fun v25 L1 Ln K29 h26 f27 f28 => ?_))
   obtain ⟨q30, h31, rfl, rfl, z32, rfl, h33⟩ := h26
   refine nm ?_
   refine ad9 rfl rfl (by omega) ?_
   refine kl_call rfl rfl (domainRange_ok z21 ((2 : Int) + z32)) (fun v36 H37 f38 h39 => ?_)
   obtain ⟨z40, rfl, h41⟩ := h39
   refine sg rfl (ln (qc (rt ?_)))
   exact kq_retT rfl rfl [bxS br [vbr, .int .i64 (q30 : Int)] 84] [] noHp frn (fr_no _) ⟨q30, by omega, rfl, rfl, _, rfl, by trivial⟩
  ·refine cS (cr (eq9 rfl rfl ?_))
   refine sg rfl (ln (qc (ci9 rfl (fun c42 => ?_) (fun c42 => ?_))))
   ·refine cS (cr (mv rfl (cT rfl rfl (pick_ok q6 (6 : Int) (by omega) hr) (fun v43 L1 Ln K47 h44 f45 f46 => ?_))))
    obtain ⟨q48, h49, rfl, rfl, z50, rfl, h51⟩ := h44
    refine nm ?_
    refine kl_shl rfl rfl (by omega) ?_
    refine sg rfl (ln (qc (rt ?_)))
    exact kq_retT rfl rfl [bxS br [vbr, .int .i64 (q48 : Int)] 84] [] noHp frn (fr_no _) ⟨q48, by omega, rfl, rfl, _, rfl, by trivial⟩
   ·refine sk (qc (cS (cr (mv rfl (cT rfl rfl (pick_ok q6 (63 : Int) (by omega) hr) (fun v54 L1 Ln K58 h55 f56 f57 => ?_))))))
    obtain ⟨q59, h60, rfl, rfl, z61, rfl, h62⟩ := h55
    refine nm ?_
    refine ad9 rfl rfl (by omega) ?_
    refine sg rfl (ln (qc (rt ?_)))
    exact kq_retT rfl rfl [bxS br [vbr, .int .i64 (q59 : Int)] 84] [] noHp frn (fr_no _) ⟨q59, by omega, rfl, rfl, _, rfl, by trivial⟩
theorem someVars_ok {br : Nat} {vbr : Value} {Hr : Hp} {bsr : List Int} (pr : Nat) (n : Int) (k : Int) (hn : 1 ≤ n ∧ n ≤ 4) (hk : 1 ≤ k) (hp : pr + (4) ≤ 1000000) (hr : Bytes Hr vbr bsr) : SpecT Tryz.prog 147 [.pointer (some ⟨br, 0, none⟩), .int .i64 n, .int .i64 k] [bxS br [vbr, .int .i64 (pr : Int)] 84] [Hr] (fun vq L1 Ln Kq => ∃ q : Nat, q ≤ pr + (4) ∧ L1 = [bxS br [vbr, .int .i64 (q : Int)] 84] ∧ ∃ (Hq : Hp) (xq : List Int), Ln = [Hq] ∧ OwnL 3 1 Hq noHp IntV vq xq ∧ (xq.length : Int) = min k n) := by
 refine specT_of Tryz.func147 rfl rfl rfl (fun B => ?_)
 refine cS (cr (sg rfl (ln (qc (cS (cr (kl_bsI [] rfl rfl rfl (by decide) (fun v1 H2 f3 o4 => ?_))))))))
 refine sg rfl (ln (qc (cS (cS (cr (sg rfl (ln (qc (bl (kc_loopL (A := Nat × List Int × Value × Hp × Nat) (fun zz => (zz.1 ≤ n.toNat) ∧ (zz.2.1.length = zz.1) ∧ OwnL 3 1 zz.2.2.2.1 noHp IntV zz.2.2.1 zz.2.1 ∧ Fr B zz.2.2.2.1 ∧ zz.2.2.2.2 ≤ pr + zz.1) (fun zz => n.toNat - zz.1) (fun zz => [zz.2.2.2.1, bxS br [vbr, .int .i64 (zz.2.2.2.2 : Int)] 84]) (fun zz => [(8, .int .i64 (zz.1 : Int)), (7, zz.2.2.1)]) (0, ([]), v1, H2, pr) (pk [0, 1, 2, 6] rfl) (pk [8, 7] rfl) rfl ⟨Nat.zero_le _, rfl, o4, f3, (by first | omega | (dsimp only; omega))⟩ ?_))))))))))
 rintro ⟨i, out, v10, H7, q11⟩ hJ13
 obtain ⟨hk5, hi6, o8, f9, hq12⟩ : (i ≤ n.toNat) ∧ (out.length = i) ∧ OwnL 3 1 H7 noHp IntV v10 out ∧ Fr B H7 ∧ q11 ≤ pr + i := hJ13
 change KC _ _ (_) [H7, bxS br [vbr, .int .i64 (q11 : Int)] 84] _ ([(8, .int .i64 (i : Int)), (7, v10)] ++ _)
 refine cS (cS (cr (mv rfl (mv rfl (ls9 rfl rfl ?_)))))
 refine ln (qc (ci9 rfl (fun c14 => ?_) (fun c14 => ?_)))
 ·refine sk (qc (cS (bl (cS (cr (mv rfl (cT rfl rfl (pick_ok q11 (2 : Int) (by omega) hr) (fun v15 L1 Ln K19 h16 f17 f18 => ?_))))))))
  obtain ⟨q20, h21, rfl, rfl, z22, rfl, h23⟩ := h16
  refine nm ?_
  refine eq9 rfl rfl ?_
  refine ln (qc (ci9 rfl (fun c26 => ?_) (fun c26 => ?_)))
  ·refine cr (mv rfl (mv rfl (bs9 rfl rfl rfl (by decide) (ca rfl ca_nil) (fun v27 H28 f29 r30 s31 => ?_))))
   have h32 : Ints H28 v27 [(i : Int)] := litInts (xs := [(i : Int)]) (by simpa using s31)
   refine aL9 (i : Int) rfl rfl o8 ‹_› rfl (oc rfl oc_nil) (by simp; omega) (by decide) (fun v33 H34 o35 f36 => ?_)
   have f37 := f36 B f9 (Nat.le_refl _)
   refine sg rfl (ln (qc (cr (mv rfl (ic9 rfl rfl (by omega) ?_)))))
   refine sg rfl (ln (tk [H34, bxS br [vbr, .int .i64 (q20 : Int)] 84] ?_))
   refine rL ((i + 1), (out ++ [(i : Int)]), v33, H34, q20) (by omega) (⟨by omega, (by simp; omega), o35, f37, (by first | omega | (dsimp only; omega))⟩) (pk [8, 7] rfl) (pk [0, 1, 2, 6] rfl) rfl slr9
  ·refine cr (mv rfl (kl_bsI [(i : Int)] rfl rfl rfl (by decide) (fun v38 H39 f40 o41 => ?_)))
   refine mv rfl (fZ H7 ?_)
   have h42 := OwnL.ints o8
   refine kl_apS rfl rfl o41 ‹_› (fun _ _ h => h) (by simp; omega) (by decide) (fun v43 H44 o45 f46 => ?_)
   have f47 := f46 B f40 (Nat.le_refl _)
   refine sg rfl (ln (qc (cr (mv rfl (ic9 rfl rfl (by omega) ?_)))))
   refine sg rfl (ln (tk [H44, bxS br [vbr, .int .i64 (q20 : Int)] 84] ?_))
   refine rL ((i + 1), ([(i : Int)] ++ out), v43, H44, q20) (by omega) (⟨by omega, (by simp; omega), o45, f47, (by first | omega | (dsimp only; omega))⟩) (pk [8, 7] rfl) (pk [0, 1, 2, 6] rfl) rfl slr9
 ·refine ex9 (qc (cS (cS (cr (mv rfl (mv rfl (kl_gtr rfl rfl ?_)))))))
  refine ln (qc (ci9 rfl (fun c48 => ?_) (fun c48 => ?_)))
  ·refine cr (mv rfl (sg rfl (ln (qc (cS (cr (mv rfl (mv rfl ?_))))))))
   have e51 : n = (((Int.toNat n) : Nat) : Int) := by first | omega | (simp only [List.length_append, List.length_cons, List.length_nil]; omega)
   refine kl_slTakeL (i := (Int.toNat n)) rfl (by rw [← e51]; rfl) o8 (by simp; omega) (fun u49 o50 => ?_)
   refine sg rfl (ln (qc (rt ?_)))
   exact kq_retT rfl rfl [bxS br [vbr, .int .i64 (q11 : Int)] 84] [H7] noHp (fr1 f9) (fr_no _) ⟨q11, by omega, rfl, H7, (out.take (Int.toNat n)), rfl, o50, by (simp; omega)⟩
  ·refine sk (qc (cS (cr (mv rfl (mv rfl ?_)))))
   have e54 : k = (((Int.toNat k) : Nat) : Int) := by first | omega | (simp only [List.length_append, List.length_cons, List.length_nil]; omega)
   refine kl_slTakeL (i := (Int.toNat k)) rfl (by rw [← e54]; rfl) o8 (by simp; omega) (fun u52 o53 => ?_)
   refine sg rfl (ln (qc (rt ?_)))
   exact kq_retT rfl rfl [bxS br [vbr, .int .i64 (q11 : Int)] 84] [H7] noHp (fr1 f9) (fr_no _) ⟨q11, by omega, rfl, H7, (out.take (Int.toNat k)), rfl, o53, by (simp; omega)⟩
theorem randomRow_ok {br : Nat} {vbr : Value} {Hr : Hp} {bsr : List Int} (pr : Nat) (k : Int) (hk : 0 ≤ k ∧ k ≤ 12) (hp : pr + (12) ≤ 1000000) (hr : Bytes Hr vbr bsr) : SpecT Tryz.prog 148 [.pointer (some ⟨br, 0, none⟩), .int .i64 k] [bxS br [vbr, .int .i64 (pr : Int)] 84] [Hr] (fun vq L1 Ln Kq => ∃ q : Nat, q ≤ pr + (12) ∧ L1 = [bxS br [vbr, .int .i64 (q : Int)] 84] ∧ ∃ (Hq : Hp) (xq : List Int), Ln = [Hq] ∧ OwnL 3 1 Hq noHp IntV vq xq ∧ (xq.length : Int) = k) := by
 refine specT_of Tryz.func148 rfl rfl rfl (fun B => ?_)
 refine cS (cr (sg rfl (ln (qc (cS (cr (kl_bsI [] rfl rfl rfl (by decide) (fun v1 H2 f3 o4 => ?_))))))))
 refine sg rfl (ln (qc (cS (cS (cr (sg rfl (ln (qc (bl (kc_loopL (A := Nat × List Int × Value × Hp × Nat) (fun zz => (zz.1 ≤ k.toNat) ∧ (zz.2.1.length = zz.1) ∧ OwnL 3 1 zz.2.2.2.1 noHp IntV zz.2.2.1 zz.2.1 ∧ Fr B zz.2.2.2.1 ∧ zz.2.2.2.2 ≤ pr + zz.1) (fun zz => k.toNat - zz.1) (fun zz => [zz.2.2.2.1, bxS br [vbr, .int .i64 (zz.2.2.2.2 : Int)] 84]) (fun zz => [(6, .int .i64 (zz.1 : Int)), (5, zz.2.2.1)]) (0, ([]), v1, H2, pr) (pk [0, 1, 4] rfl) (pk [6, 5] rfl) rfl ⟨Nat.zero_le _, rfl, o4, f3, (by first | omega | (dsimp only; omega))⟩ ?_))))))))))
 rintro ⟨i, out, v10, H7, q11⟩ hJ13
 obtain ⟨hk5, hi6, o8, f9, hq12⟩ : (i ≤ k.toNat) ∧ (out.length = i) ∧ OwnL 3 1 H7 noHp IntV v10 out ∧ Fr B H7 ∧ q11 ≤ pr + i := hJ13
 change KC _ _ (_) [H7, bxS br [vbr, .int .i64 (q11 : Int)] 84] _ ([(6, .int .i64 (i : Int)), (5, v10)] ++ _)
 refine cS (cS (cr (mv rfl (mv rfl (ls9 rfl rfl ?_)))))
 refine ln (qc (ci9 rfl (fun c14 => ?_) (fun c14 => ?_)))
 ·refine sk (qc (cS (bl (cr (mv rfl (mv rfl (cT rfl rfl (pick_ok q11 (6 : Int) (by omega) hr) (fun v15 L1 Ln K19 h16 f17 f18 => ?_))))))))
  obtain ⟨q20, h21, rfl, rfl, z22, rfl, h23⟩ := h16
  refine nm ?_
  refine bs9 rfl rfl rfl (by decide) (ca rfl ca_nil) (fun v26 H27 f28 r29 s30 => ?_)
  have h31 : Ints H27 v26 [z22] := litInts (xs := [z22]) (by simpa using s30)
  refine aL9 z22 rfl rfl o8 ‹_› rfl (oc rfl oc_nil) (by omega) (by decide) (fun v32 H33 o34 f35 => ?_)
  have f36 := f35 B f9 (Nat.le_refl _)
  refine sg rfl (ln (qc (cr (mv rfl (ic9 rfl rfl (by omega) ?_)))))
  refine sg rfl (ln (tk [H33, bxS br [vbr, .int .i64 (q20 : Int)] 84] ?_))
  refine rL ((i + 1), (out ++ [z22]), v32, H33, q20) (by omega) (⟨by omega, (by simp; omega), o34, f36, (by first | omega | (dsimp only; omega))⟩) (pk [6, 5] rfl) (pk [0, 1, 4] rfl) rfl slr9
 ·refine ex9 (qc (cS (cr (mv rfl (sg rfl (ln (qc (rt ?_))))))))
  exact kq_retT rfl rfl [bxS br [vbr, .int .i64 (q11 : Int)] 84] [H7] noHp (fr1 f9) (fr_no _) ⟨q11, by omega, rfl, H7, out, rfl, o8, by omega⟩
end
section
theorem inRange_ok (n : Int) (lo : Int) (hi : Int) : SpecP Tryz.prog 39 [.int .i64 n, .int .i64 lo, .int .i64 hi] [] (.bool (withinB n lo hi)) := by
 refine spec_of Tryz.func39 rfl rfl rfl (fun B => ?_)
 refine cS (cr (sg rfl (ln (qc (cS (cr (mv rfl (mv rfl (kl_geq rfl rfl ?_)))))))))
 refine mv rfl (jn 4 14 (.bool (decide (lo ≤ n) && decide (n ≤ hi))) (pk [6, 10] rfl) (fun J2 => ?_) ?_)
 ·rcases Bool.eq_false_or_eq_true (decide (lo ≤ n)) with g1 | g1
  ·have g1p := of_decide_eq_true g1
   refine gT rfl rfl g1 (mv rfl (gT rfl rfl g1 (mv rfl (gT rfl rfl g1 (kl_leq rfl rfl ?_)))))
   refine aT rfl rfl g1 ?_
   exact J2 _ (pk [14, 6, 10] rfl)
  ·refine gF rfl rfl g1 (gF rfl rfl g1 (gF rfl rfl g1 (aF (decide (n ≤ hi)) rfl rfl g1 ?_)))
   exact J2 _ (pk [14, 6, 10] rfl)
 refine sg rfl (ln (qc (rt (kq_retP rfl rfl (congrArg Value.bool ?_)))))
 rfl
theorem validDomain_ok (d : Int) : SpecP Tryz.prog 67 [.int .i64 d] [] (.bool (validDomB d)) := by
 refine spec_of Tryz.func67 rfl rfl rfl (fun B => ?_)
 refine cS (cr (sg rfl (ln (qc (cS (cr (mv rfl (cP rfl rfl (inRange_ok d (0 : Int) (63 : Int)) ?_))))))))
 refine sg rfl (ln (qc (rt (kq_retP rfl rfl (congrArg Value.bool ?_)))))
 rfl
theorem allInRange_ok {Hxs : Hp} {vxs : Value} (xs : List Int) (lo : Int) (hi : Int) (hxs : Ints Hxs vxs xs) : SpecP Tryz.prog 69 [vxs, .int .i64 lo, .int .i64 hi] [Hxs] (.bool (allInB xs lo hi)) := by
 refine spec_of Tryz.func69 rfl rfl rfl (fun B => ?_)
 refine cS (cr (sg rfl (ln (qc (cS (cS (cr (sg rfl (ln (qc (bl (kc_loop0 (A := Nat) (fun zz => (zz ≤ xs.length) ∧ ((xs.take zz).all (fun n => withinB n lo hi) = true)) (fun zz => xs.length - zz) (fun zz => [(7, .int .i64 (zz : Int))]) (0) (pk [0, 1, 2] rfl) (pc 7 rfl pn) ⟨Nat.zero_le _, by simp⟩ ?_))))))))))))
 rintro k hJ3
 obtain ⟨hk1, hi2⟩ : (k ≤ xs.length) ∧ ((xs.take k).all (fun n => withinB n lo hi) = true) := hJ3
 change KC _ _ (_) _ _ ([(7, .int .i64 (k : Int))] ++ _)
 refine cS (cS (cr (mv rfl (mv rfl (le9 rfl ‹_› (fun l4 => ?_))))))
 refine ls9 rfl rfl ?_
 refine ln (qc (ci9 rfl (fun c5 => ?_) (fun c5 => ?_)))
 ·refine sk (qc (cS (bl (cS (cr (mv rfl (mv rfl (kl_inI rfl rfl ‹_› (by omega) (fun p6 a7 => ?_)))))))))
  refine ld rfl ‹_› (mv rfl (mv rfl (cP rfl rfl (inRange_ok (xs.getD k 0) lo hi) ?_)))
  refine nt9 rfl (ln (qc (cd9 rfl (fun c8 => ?_) (fun c8 => ?_))))
  ·have c8r := c8
   try simp only [smpE] at c8
   refine cS (cr (sg rfl (ln (qc (rt (kq_retP rfl rfl (congrArg Value.bool ?_)))))))
   exact (all_false (d := 0) (k := k) (by omega) ‹_›).symm
  ·have c8r := c8
   try simp only [smpE] at c8
   refine sk (qc (cr (mv rfl (ic9 rfl rfl (by omega) ?_))))
   refine sg rfl (ln (kq_round0 ((k + 1)) (by omega) (⟨by omega, all_take_step (d := 0) (by omega) hi2 ‹_›⟩) (pc 7 rfl pn) (pk [0, 1, 2] rfl) slr9))
 ·refine ex9 (qc (cS (cr (sg rfl (ln (qc (rt (kq_retP rfl rfl (congrArg Value.bool ?_)))))))))
  rw [List.take_of_length_le (by omega)] at *; exact (by assumption : allInB xs lo hi = true).symm
theorem sdistinct_ok {Hxs : Hp} {vxs : Value} (xs : List Int) (hxs : Ints Hxs vxs xs) : SpecP Tryz.prog 106 [vxs] [Hxs] (.bool (distinctB xs)) := by
 refine spec_of Tryz.func106 rfl rfl rfl (fun B => ?_)
 refine cS (cr (sg rfl (ln (qc (cS (cS (cr (sg rfl (ln (qc (bl (kc_loop0 (A := Nat) (fun zz => (zz ≤ xs.length) ∧ ((xs.take zz).Nodup)) (fun zz => xs.length - zz) (fun zz => [(3, .int .i64 (zz : Int))]) (0) (pc 0 rfl pn) (pc 3 rfl pn) ⟨Nat.zero_le _, by simp⟩ ?_))))))))))))
 rintro k hJ3
 obtain ⟨hk1, hi2⟩ : (k ≤ xs.length) ∧ ((xs.take k).Nodup) := hJ3
 change KC _ _ (_) _ _ ([(3, .int .i64 (k : Int))] ++ _)
 refine cS (cS (cr (mv rfl (mv rfl (le9 rfl ‹_› (fun l4 => ?_))))))
 refine ls9 rfl rfl ?_
 refine ln (qc (ci9 rfl (fun c5 => ?_) (fun c5 => ?_)))
 ·refine sk (qc (cS (bl (cS (cr (sg rfl (ln (qc (bl (kc_loop0 (A := Nat) (fun zz => (zz ≤ k) ∧ ((xs.take zz).all (fun y => decide (xs.getD k 0 ≠ y)) = true)) (fun zz => k - zz) (fun zz => [(4, .int .i64 (zz : Int))]) (0) (pk [0, 3, 5, 6, 7, 8] rfl) (pc 4 rfl pn) ⟨Nat.zero_le _, by simp⟩ ?_))))))))))
  rintro j hJ8
  obtain ⟨hk6, hi7⟩ : (j ≤ k) ∧ ((xs.take j).all (fun y => decide (xs.getD k 0 ≠ y)) = true) := hJ8
  change KC _ _ (_) _ _ ([(4, .int .i64 (j : Int))] ++ _)
  refine cS (cS (cr (mv rfl (mv rfl (ls9 rfl rfl ?_)))))
  refine ln (qc (ci9 rfl (fun c9 => ?_) (fun c9 => ?_)))
  ·refine sk (qc (cS (bl (cS (kc_draw 9 [true, true, true, true, true, true, true, true, true] (by kernel_rfl) (by kernel_rfl) ?_)))))
   refine mv rfl (mv rfl (kl_inI rfl rfl ‹_› (by omega) (fun p10 a11 => ?_)))
   refine ld rfl ‹_› (mv rfl (mv rfl (kl_inI rfl rfl ‹_› (by omega) (fun p12 a13 => ?_))))
   refine ld rfl ‹_› (eq9 rfl rfl ?_)
   refine ln (qc (ci9 rfl (fun c14 => ?_) (fun c14 => ?_)))
   ·refine cS (cr (sg rfl (ln (qc (rt (kq_retP rfl rfl (congrArg Value.bool ?_)))))))
    exact (decide_eq_false (nodup_not (k := k) (by omega) (mem_take_of (k := j) (by omega) (by omega) ‹_›))).symm
   ·refine sk (qc (cr (mv rfl (ic9 rfl rfl (by omega) ?_))))
    refine sg rfl (ln (kq_round0 ((j + 1)) (by omega) (⟨by omega, all_take_step (d := 0) (by omega) hi7 (by simpa using by assumption)⟩) (pc 4 rfl pn) (pk [0, 3, 5, 6, 7, 8] rfl) slr9))
  ·refine ex9 (qc (cr (mv rfl (ic9 rfl rfl (by omega) ?_))))
   refine sg rfl (ln (kq_round0 ((k + 1)) (by omega) (⟨by omega, (nodup_take_succ (by omega)).2 ⟨hi2, not_mem_k2 (j := j) (by omega) ‹_›⟩⟩) (pc 3 rfl pn) (pc 0 rfl pn) slr9))
 ·refine ex9 (qc (cS (cr (sg rfl (ln (qc (rt (kq_retP rfl rfl (congrArg Value.bool ?_)))))))))
  simp only [distinctB]; rw [List.take_of_length_le (by omega)] at *; exact (decide_eq_true ‹_›).symm
theorem validRows_ok {Hrows : Hp} {vrows : Value} (rows : List (List Int)) (n : Int) (lo : Int) (hi : Int) (hrows : Rows Hrows vrows rows) : SpecP Tryz.prog 107 [vrows, .int .i64 n, .int .i64 lo, .int .i64 hi] [Hrows] (.bool (rowsInB rows n lo hi)) := by
 refine spec_of Tryz.func107 rfl rfl rfl (fun B => ?_)
 refine cS (cr (sg rfl (ln (qc (cS (cS (cr (sg rfl (ln (qc (bl (kc_loop0 (A := Nat) (fun zz => (zz ≤ rows.length) ∧ ((rows.take zz).all (fun r => decide ((r.length : Int) = n) && allInB r lo hi) = true)) (fun zz => rows.length - zz) (fun zz => [(9, .int .i64 (zz : Int))]) (0) (pk [0, 1, 2, 3] rfl) (pc 9 rfl pn) ⟨Nat.zero_le _, by simp⟩ ?_))))))))))))
 rintro k hJ3
 obtain ⟨hk1, hi2⟩ : (k ≤ rows.length) ∧ ((rows.take k).all (fun r => decide ((r.length : Int) = n) && allInB r lo hi) = true) := hJ3
 change KC _ _ (_) _ _ ([(9, .int .i64 (k : Int))] ++ _)
 refine cS (cS (cr (mv rfl (mv rfl (le9 rfl ‹_› (fun l4 => ?_))))))
 refine ls9 rfl rfl ?_
 refine ln (qc (ci9 rfl (fun c5 => ?_) (fun c5 => ?_)))
 ·refine sk (qc (cS (bl (cS (cr (mv rfl (mv rfl (kl_inS rfl rfl ‹_› (by omega) (fun p6 u8 h9 a7 => ?_)))))))))
  refine ld rfl ‹_› (le9 rfl ‹_› (fun l10 => ?_))
  refine mv rfl (kl_neq rfl rfl ?_)
  refine mv rfl (jn 9 32 (.bool (decide (((rows.getD k []).length : Int) ≠ n) || !(allInB (rows.getD k []) lo hi))) (pk [0, 1, 2, 3, 9, 10, 11, 12, 13, 16, 17, 18, 19, 20, 21, 22, 23] rfl) (fun J16 => ?_) ?_)
  ·rcases Bool.eq_false_or_eq_true (decide (((rows.getD k []).length : Int) ≠ n)) with g11 | g11
   ·refine gF rfl rfl g11 (gF rfl rfl g11 (gF rfl rfl g11 (gF rfl rfl g11 (gF rfl rfl g11 (gF rfl rfl g11 (gF rfl rfl g11 (gF rfl rfl g11 (oT (!(allInB (rows.getD k []) lo hi)) rfl rfl g11 ?_))))))))
    exact J16 _ (pk [32, 0, 1, 2, 3, 9, 10, 11, 12, 13, 16, 17, 18, 19, 20, 21, 22, 23] rfl)
   ·have g11p := of_decide_eq_false g11
    refine gT rfl rfl g11 (mv rfl (gT rfl rfl g11 (mv rfl (gT rfl rfl g11 (kl_inS rfl rfl ‹_› (by omega) (fun p12 u14 h15 a13 => ?_))))))
    refine gT rfl rfl g11 (ld rfl ‹_› (gT rfl rfl g11 (mv rfl (gT rfl rfl g11 (mv rfl (gT rfl rfl g11 (cP rfl rfl (allInRange_ok (rows.getD k []) lo hi ‹_›) ?_)))))))
    refine gT rfl rfl g11 (nt9 rfl (oF rfl rfl g11 ?_))
    exact J16 _ (pk [32, 0, 1, 2, 3, 9, 10, 11, 12, 13, 16, 17, 18, 19, 20, 21, 22, 23] rfl)
  refine ln (qc (cd9 rfl (fun c17 => ?_) (fun c17 => ?_)))
  ·have c17r := c17
   try simp only [smpE] at c17
   refine cS (cr (sg rfl (ln (qc (rt (kq_retP rfl rfl (congrArg Value.bool ?_)))))))
   exact (by simp only [rowsInB]; rw [all_false (k := k) (d := []) (by omega) (rowBad ‹_›)]; simp)
  ·have c17r := c17
   try simp only [smpE] at c17
   refine sk (qc (cr (mv rfl (ic9 rfl rfl (by omega) ?_))))
   refine sg rfl (ln (kq_round0 ((k + 1)) (by omega) (⟨by omega, all_take_step (d := []) (by omega) hi2 (rowGood ‹_›)⟩) (pc 9 rfl pn) (pk [0, 1, 2, 3] rfl) slr9))
 ·refine ex9 (qc (cS (cr (mv rfl (le9 rfl ‹_› (fun l18 => ?_))))))
  refine cP rfl rfl (inRange_ok (rows.length : Int) (1 : Int) (8 : Int)) ?_
  refine sg rfl (ln (qc (rt (kq_retP rfl rfl (congrArg Value.bool ?_)))))
  rw [List.take_of_length_le (by omega)] at *; simp only [rowsInB]; simp [*]
theorem svalidCon_ok {Hcv : Hp} {vcv : Value} {Hca : Hp} {vca : Value} {Hcr : Hp} {vcr : Value} (c : Con) (n : Int) (hn : -9223372036854775807 ≤ n ∧ n ≤ 9223372036854775807) (hcv : Ints Hcv vcv c.vars) (hca : Ints Hca vca c.args) (hcr : Rows Hcr vcr c.rows) : SpecP Tryz.prog 68 [.agg #[.int .i64 c.kind, vcv, vca, .int .i64 c.bound, vcr], .int .i64 n] [Hcv, Hca, Hcr] (.bool (validConS c n)) := by
 refine spec_of Tryz.func68 rfl rfl rfl (fun B => ?_)
 refine cS (cr (kl_box rfl rfl (fun p1 H2 f3 a4 => ?_)))
 refine sg rfl (ln (qc (cS (cr (fd9 rfl ‹_› (fun p5 a6 => ?_))))))
 refine ld rfl ‹_› (le9 rfl ‹_› (fun l7 => ?_))
 refine sg rfl (ln (qc (cS (cS (cr (mv rfl (mv rfl (cP rfl rfl (inRange_ok (c.vars.length : Int) (1 : Int) n) ?_))))))))
 refine nt9 rfl (mv rfl (jn 7 20 (.bool (!(withinB (c.vars.length : Int) (1 : Int) n) || !(allInB c.vars (0 : Int) (n - (1 : Int))))) (pk [2, 4, 5, 13] rfl) (fun J11 => ?_) ?_))
 ·rcases Bool.eq_false_or_eq_true (!(withinB (c.vars.length : Int) (1 : Int) n)) with g8 | g8
  ·refine gF rfl rfl g8 (gF rfl rfl g8 (gF rfl rfl g8 (gF rfl rfl g8 (gF rfl rfl g8 (gF rfl rfl g8 (oT (!(allInB c.vars (0 : Int) (n - (1 : Int)))) rfl rfl g8 ?_))))))
   exact J11 _ (pk [20, 2, 4, 5, 13] rfl)
  ·have g8p := g8
   try simp only [smpD] at g8p
   refine gT rfl rfl g8 (fd9 rfl ‹_› (fun p9 a10 => ?_))
   refine gT rfl rfl g8 (ld rfl ‹_› (gT rfl rfl g8 (mv rfl (gT rfl rfl g8 (sb9 rfl rfl (by omega) ?_)))))
   refine gT rfl rfl g8 (cP rfl rfl (allInRange_ok c.vars (0 : Int) (n - (1 : Int)) ‹_›) ?_)
   refine gT rfl rfl g8 (nt9 rfl (oF rfl rfl g8 ?_))
   exact J11 _ (pk [20, 2, 4, 5, 13] rfl)
 refine mv rfl (jn 5 26 (.bool ((!(withinB (c.vars.length : Int) (1 : Int) n) || !(allInB c.vars (0 : Int) (n - (1 : Int)))) || !(distinctB c.vars))) (pk [2, 4, 5, 21] rfl) (fun J15 => ?_) ?_)
 ·rcases Bool.eq_false_or_eq_true (!(withinB (c.vars.length : Int) (1 : Int) n) || !(allInB c.vars (0 : Int) (n - (1 : Int)))) with g12 | g12
  ·refine gF rfl rfl g12 (gF rfl rfl g12 (gF rfl rfl g12 (gF rfl rfl g12 (oT (!(distinctB c.vars)) rfl rfl g12 ?_))))
   exact J15 _ (pk [26, 2, 4, 5, 21] rfl)
  ·have g12p := g12
   try simp only [smpD] at g12p
   refine gT rfl rfl g12 (fd9 rfl ‹_› (fun p13 a14 => ?_))
   refine gT rfl rfl g12 (ld rfl ‹_› (gT rfl rfl g12 (cP rfl rfl (sdistinct_ok c.vars ‹_›) ?_)))
   refine gT rfl rfl g12 (nt9 rfl (oF rfl rfl g12 ?_))
   exact J15 _ (pk [26, 2, 4, 5, 21] rfl)
 refine ln (qc (cd9 rfl (fun c16 => ?_) (fun c16 => ?_)))
 ·have c16r := c16
  try simp only [smpE] at c16
  refine cS (cr (sg rfl (ln (qc (rt (kq_retP rfl rfl (congrArg Value.bool ?_)))))))
  exact conS_no ‹_›
 ·have c16r := c16
  try simp only [smpE] at c16
  refine sk (qc (cS (cS (cr (fd9 rfl ‹_› (fun p17 a18 => ?_))))))
  refine ld rfl ‹_› (ln (qc (bl (cS (cr (eq9 rfl rfl ?_))))))
  refine sg rfl (ln (qc (ci9 rfl (fun c19 => ?_) (fun c19 => ?_))))
  ·refine cS (cr (fd9 rfl ‹_› (fun p20 a21 => ?_)))
   refine ld rfl ‹_› (le9 rfl ‹_› (fun l22 => ?_))
   refine mv rfl (eq9 rfl rfl ?_)
   refine mv rfl (jn 4 40 (.bool (decide ((c.args.length : Int) = (c.vars.length : Int)) && (allInB c.args (-9 : Int) (9 : Int)))) (pk [2, 4, 36] rfl) (fun J26 => ?_) ?_)
   ·rcases Bool.eq_false_or_eq_true (decide ((c.args.length : Int) = (c.vars.length : Int))) with g23 | g23
    ·have g23p := of_decide_eq_true g23
     refine gT rfl rfl g23 (fd9 rfl ‹_› (fun p24 a25 => ?_))
     refine gT rfl rfl g23 (ld rfl ‹_› (gT rfl rfl g23 (cP rfl rfl (allInRange_ok c.args (-9 : Int) (9 : Int) ‹_›) ?_)))
     refine aT rfl rfl g23 ?_
     exact J26 _ (pk [40, 2, 4, 36] rfl)
    ·refine gF rfl rfl g23 (gF rfl rfl g23 (gF rfl rfl g23 (aF (allInB c.args (-9 : Int) (9 : Int)) rfl rfl g23 ?_)))
     exact J26 _ (pk [40, 2, 4, 36] rfl)
   refine mv rfl (jn 4 45 (.bool ((decide ((c.args.length : Int) = (c.vars.length : Int)) && (allInB c.args (-9 : Int) (9 : Int))) && (withinB c.bound (-999 : Int) (999 : Int)))) (pk [2, 4, 41] rfl) (fun J30 => ?_) ?_)
   ·rcases Bool.eq_false_or_eq_true (decide ((c.args.length : Int) = (c.vars.length : Int)) && (allInB c.args (-9 : Int) (9 : Int))) with g27 | g27
    ·have g27p := g27
     try simp only [smpD] at g27p
     refine gT rfl rfl g27 (fd9 rfl ‹_› (fun p28 a29 => ?_))
     refine gT rfl rfl g27 (ld rfl ‹_› (gT rfl rfl g27 (cP rfl rfl (inRange_ok c.bound (-999 : Int) (999 : Int)) ?_)))
     refine aT rfl rfl g27 ?_
     exact J30 _ (pk [45, 2, 4, 41] rfl)
    ·refine gF rfl rfl g27 (gF rfl rfl g27 (gF rfl rfl g27 (aF (withinB c.bound (-999 : Int) (999 : Int)) rfl rfl g27 ?_)))
     exact J30 _ (pk [45, 2, 4, 41] rfl)
   refine mv rfl (jn 5 51 (.bool (((decide ((c.args.length : Int) = (c.vars.length : Int)) && (allInB c.args (-9 : Int) (9 : Int))) && (withinB c.bound (-999 : Int) (999 : Int))) && decide ((c.rows.length : Int) = (0 : Int)))) (pk [4, 46] rfl) (fun J35 => ?_) ?_)
   ·rcases Bool.eq_false_or_eq_true ((decide ((c.args.length : Int) = (c.vars.length : Int)) && (allInB c.args (-9 : Int) (9 : Int))) && (withinB c.bound (-999 : Int) (999 : Int))) with g31 | g31
    ·have g31p := g31
     try simp only [smpD] at g31p
     refine gT rfl rfl g31 (fd9 rfl ‹_› (fun p32 a33 => ?_))
     refine gT rfl rfl g31 (ld rfl ‹_› (gT rfl rfl g31 (le9 rfl ‹_› (fun l34 => ?_))))
     refine gT rfl rfl g31 (eq9 rfl rfl ?_)
     refine aT rfl rfl g31 ?_
     exact J35 _ (pk [51, 4, 46] rfl)
    ·refine gF rfl rfl g31 (gF rfl rfl g31 (gF rfl rfl g31 (gF rfl rfl g31 (aF (decide ((c.rows.length : Int) = (0 : Int))) rfl rfl g31 ?_))))
     exact J35 _ (pk [51, 4, 46] rfl)
   refine sg rfl (ln (qc (rt (kq_retP rfl rfl (congrArg Value.bool ?_)))))
   exact conS_yes ‹_› (by first | (exfalso; omega) | (simp only [fitsB, *]; first | rfl | (simp; done) | (simp; ac_rfl)))
  ·refine cS (cr (eq9 rfl rfl ?_))
   refine sg rfl (ln (qc (ci9 rfl (fun c36 => ?_) (fun c36 => ?_))))
   ·refine cS (cr (mv rfl (eq9 rfl rfl ?_)))
    refine mv rfl (jn 5 61 (.bool (decide ((c.vars.length : Int) = (2 : Int)) && decide ((c.args.length : Int) = (1 : Int)))) (pk [2, 4, 56] rfl) (fun J41 => ?_) ?_)
    ·rcases Bool.eq_false_or_eq_true (decide ((c.vars.length : Int) = (2 : Int))) with g37 | g37
     ·have g37p := of_decide_eq_true g37
      refine gT rfl rfl g37 (fd9 rfl ‹_› (fun p38 a39 => ?_))
      refine gT rfl rfl g37 (ld rfl ‹_› (gT rfl rfl g37 (le9 rfl ‹_› (fun l40 => ?_))))
      refine gT rfl rfl g37 (eq9 rfl rfl ?_)
      refine aT rfl rfl g37 ?_
      exact J41 _ (pk [61, 2, 4, 56] rfl)
     ·refine gF rfl rfl g37 (gF rfl rfl g37 (gF rfl rfl g37 (gF rfl rfl g37 (aF (decide ((c.args.length : Int) = (1 : Int))) rfl rfl g37 ?_))))
      exact J41 _ (pk [61, 2, 4, 56] rfl)
    refine mv rfl (jn 4 66 (.bool ((decide ((c.vars.length : Int) = (2 : Int)) && decide ((c.args.length : Int) = (1 : Int))) && (allInB c.args (-9 : Int) (9 : Int)))) (pk [2, 4, 62] rfl) (fun J45 => ?_) ?_)
    ·rcases Bool.eq_false_or_eq_true (decide ((c.vars.length : Int) = (2 : Int)) && decide ((c.args.length : Int) = (1 : Int))) with g42 | g42
     ·have g42p := g42
      try simp only [smpD] at g42p
      refine gT rfl rfl g42 (fd9 rfl ‹_› (fun p43 a44 => ?_))
      refine gT rfl rfl g42 (ld rfl ‹_› (gT rfl rfl g42 (cP rfl rfl (allInRange_ok c.args (-9 : Int) (9 : Int) ‹_›) ?_)))
      refine aT rfl rfl g42 ?_
      exact J45 _ (pk [66, 2, 4, 62] rfl)
     ·refine gF rfl rfl g42 (gF rfl rfl g42 (gF rfl rfl g42 (aF (allInB c.args (-9 : Int) (9 : Int)) rfl rfl g42 ?_)))
      exact J45 _ (pk [66, 2, 4, 62] rfl)
    refine mv rfl (jn 4 71 (.bool (((decide ((c.vars.length : Int) = (2 : Int)) && decide ((c.args.length : Int) = (1 : Int))) && (allInB c.args (-9 : Int) (9 : Int))) && decide (c.bound = (0 : Int)))) (pk [2, 4, 67] rfl) (fun J49 => ?_) ?_)
    ·rcases Bool.eq_false_or_eq_true ((decide ((c.vars.length : Int) = (2 : Int)) && decide ((c.args.length : Int) = (1 : Int))) && (allInB c.args (-9 : Int) (9 : Int))) with g46 | g46
     ·have g46p := g46
      try simp only [smpD] at g46p
      refine gT rfl rfl g46 (fd9 rfl ‹_› (fun p47 a48 => ?_))
      refine gT rfl rfl g46 (ld rfl ‹_› (gT rfl rfl g46 (eq9 rfl rfl ?_)))
      refine aT rfl rfl g46 ?_
      exact J49 _ (pk [71, 2, 4, 67] rfl)
     ·refine gF rfl rfl g46 (gF rfl rfl g46 (gF rfl rfl g46 (aF (decide (c.bound = (0 : Int))) rfl rfl g46 ?_)))
      exact J49 _ (pk [71, 2, 4, 67] rfl)
    refine mv rfl (jn 5 77 (.bool ((((decide ((c.vars.length : Int) = (2 : Int)) && decide ((c.args.length : Int) = (1 : Int))) && (allInB c.args (-9 : Int) (9 : Int))) && decide (c.bound = (0 : Int))) && decide ((c.rows.length : Int) = (0 : Int)))) (pk [4, 72] rfl) (fun J54 => ?_) ?_)
    ·rcases Bool.eq_false_or_eq_true (((decide ((c.vars.length : Int) = (2 : Int)) && decide ((c.args.length : Int) = (1 : Int))) && (allInB c.args (-9 : Int) (9 : Int))) && decide (c.bound = (0 : Int))) with g50 | g50
     ·have g50p := g50
      try simp only [smpD] at g50p
      refine gT rfl rfl g50 (fd9 rfl ‹_› (fun p51 a52 => ?_))
      refine gT rfl rfl g50 (ld rfl ‹_› (gT rfl rfl g50 (le9 rfl ‹_› (fun l53 => ?_))))
      refine gT rfl rfl g50 (eq9 rfl rfl ?_)
      refine aT rfl rfl g50 ?_
      exact J54 _ (pk [77, 4, 72] rfl)
     ·refine gF rfl rfl g50 (gF rfl rfl g50 (gF rfl rfl g50 (gF rfl rfl g50 (aF (decide ((c.rows.length : Int) = (0 : Int))) rfl rfl g50 ?_))))
      exact J54 _ (pk [77, 4, 72] rfl)
    refine sg rfl (ln (qc (rt (kq_retP rfl rfl (congrArg Value.bool ?_)))))
    exact conS_yes ‹_› (by first | (exfalso; omega) | (simp only [fitsB, *]; first | rfl | (simp; done) | (simp; ac_rfl)))
   ·refine cS (cS (cr (eq9 rfl rfl ?_)))
    refine sg rfl (ln (qc (ci9 rfl (fun c55 => ?_) (fun c55 => ?_))))
    ·refine sk (qc (ci9 rfl (fun c56 => ?_) (fun c56 => ?_)))
     ·refine cS (cr (fd9 rfl ‹_› (fun p57 a58 => ?_)))
      refine ld rfl ‹_› (le9 rfl ‹_› (fun l59 => ?_))
      refine eq9 rfl rfl ?_
      refine mv rfl (jn 4 89 (.bool (decide ((c.args.length : Int) = (0 : Int)) && decide (c.bound = (0 : Int)))) (pk [2, 4, 85] rfl) (fun J63 => ?_) ?_)
      ·rcases Bool.eq_false_or_eq_true (decide ((c.args.length : Int) = (0 : Int))) with g60 | g60
       ·have g60p := of_decide_eq_true g60
        refine gT rfl rfl g60 (fd9 rfl ‹_› (fun p61 a62 => ?_))
        refine gT rfl rfl g60 (ld rfl ‹_› (gT rfl rfl g60 (eq9 rfl rfl ?_)))
        refine aT rfl rfl g60 ?_
        exact J63 _ (pk [89, 2, 4, 85] rfl)
       ·refine gF rfl rfl g60 (gF rfl rfl g60 (gF rfl rfl g60 (aF (decide (c.bound = (0 : Int))) rfl rfl g60 ?_)))
        exact J63 _ (pk [89, 2, 4, 85] rfl)
      refine mv rfl (jn 5 95 (.bool ((decide ((c.args.length : Int) = (0 : Int)) && decide (c.bound = (0 : Int))) && decide ((c.rows.length : Int) = (0 : Int)))) (pk [4, 90] rfl) (fun J68 => ?_) ?_)
      ·rcases Bool.eq_false_or_eq_true (decide ((c.args.length : Int) = (0 : Int)) && decide (c.bound = (0 : Int))) with g64 | g64
       ·have g64p := g64
        try simp only [smpD] at g64p
        refine gT rfl rfl g64 (fd9 rfl ‹_› (fun p65 a66 => ?_))
        refine gT rfl rfl g64 (ld rfl ‹_› (gT rfl rfl g64 (le9 rfl ‹_› (fun l67 => ?_))))
        refine gT rfl rfl g64 (eq9 rfl rfl ?_)
        refine aT rfl rfl g64 ?_
        exact J68 _ (pk [95, 4, 90] rfl)
       ·refine gF rfl rfl g64 (gF rfl rfl g64 (gF rfl rfl g64 (gF rfl rfl g64 (aF (decide ((c.rows.length : Int) = (0 : Int))) rfl rfl g64 ?_))))
        exact J68 _ (pk [95, 4, 90] rfl)
      refine sg rfl (ln (qc (rt (kq_retP rfl rfl (congrArg Value.bool ?_)))))
      exact conS_yes ‹_› (by first | (exfalso; omega) | (simp only [fitsB, *]; first | rfl | (simp; done) | (simp; ac_rfl)))
     ·refine cS (cr (eq9 rfl rfl ?_))
      refine sg rfl (ln (qc (ci9 rfl (fun c69 => ?_) (fun c69 => ?_))))
      ·refine cS (cr (mv rfl (eq9 rfl rfl ?_)))
       refine mv rfl (jn 5 105 (.bool (decide ((c.vars.length : Int) = (2 : Int)) && (withinB (c.args.length : Int) (1 : Int) (6 : Int)))) (pk [2, 4, 100] rfl) (fun J74 => ?_) ?_)
       ·rcases Bool.eq_false_or_eq_true (decide ((c.vars.length : Int) = (2 : Int))) with g70 | g70
        ·have g70p := of_decide_eq_true g70
         refine gT rfl rfl g70 (fd9 rfl ‹_› (fun p71 a72 => ?_))
         refine gT rfl rfl g70 (ld rfl ‹_› (gT rfl rfl g70 (le9 rfl ‹_› (fun l73 => ?_))))
         refine gT rfl rfl g70 (cP rfl rfl (inRange_ok (c.args.length : Int) (1 : Int) (6 : Int)) ?_)
         refine aT rfl rfl g70 ?_
         exact J74 _ (pk [105, 2, 4, 100] rfl)
        ·refine gF rfl rfl g70 (gF rfl rfl g70 (gF rfl rfl g70 (gF rfl rfl g70 (aF (withinB (c.args.length : Int) (1 : Int) (6 : Int)) rfl rfl g70 ?_))))
         exact J74 _ (pk [105, 2, 4, 100] rfl)
       refine mv rfl (jn 4 110 (.bool ((decide ((c.vars.length : Int) = (2 : Int)) && (withinB (c.args.length : Int) (1 : Int) (6 : Int))) && (allInB c.args (0 : Int) (5 : Int)))) (pk [2, 4, 106] rfl) (fun J78 => ?_) ?_)
       ·rcases Bool.eq_false_or_eq_true (decide ((c.vars.length : Int) = (2 : Int)) && (withinB (c.args.length : Int) (1 : Int) (6 : Int))) with g75 | g75
        ·have g75p := g75
         try simp only [smpD] at g75p
         refine gT rfl rfl g75 (fd9 rfl ‹_› (fun p76 a77 => ?_))
         refine gT rfl rfl g75 (ld rfl ‹_› (gT rfl rfl g75 (cP rfl rfl (allInRange_ok c.args (0 : Int) (5 : Int) ‹_›) ?_)))
         refine aT rfl rfl g75 ?_
         exact J78 _ (pk [110, 2, 4, 106] rfl)
        ·refine gF rfl rfl g75 (gF rfl rfl g75 (gF rfl rfl g75 (aF (allInB c.args (0 : Int) (5 : Int)) rfl rfl g75 ?_)))
         exact J78 _ (pk [110, 2, 4, 106] rfl)
       refine mv rfl (jn 4 115 (.bool (((decide ((c.vars.length : Int) = (2 : Int)) && (withinB (c.args.length : Int) (1 : Int) (6 : Int))) && (allInB c.args (0 : Int) (5 : Int))) && decide (c.bound = (0 : Int)))) (pk [2, 4, 111] rfl) (fun J82 => ?_) ?_)
       ·rcases Bool.eq_false_or_eq_true ((decide ((c.vars.length : Int) = (2 : Int)) && (withinB (c.args.length : Int) (1 : Int) (6 : Int))) && (allInB c.args (0 : Int) (5 : Int))) with g79 | g79
        ·have g79p := g79
         try simp only [smpD] at g79p
         refine gT rfl rfl g79 (fd9 rfl ‹_› (fun p80 a81 => ?_))
         refine gT rfl rfl g79 (ld rfl ‹_› (gT rfl rfl g79 (eq9 rfl rfl ?_)))
         refine aT rfl rfl g79 ?_
         exact J82 _ (pk [115, 2, 4, 111] rfl)
        ·refine gF rfl rfl g79 (gF rfl rfl g79 (gF rfl rfl g79 (aF (decide (c.bound = (0 : Int))) rfl rfl g79 ?_)))
         exact J82 _ (pk [115, 2, 4, 111] rfl)
       refine mv rfl (jn 5 121 (.bool ((((decide ((c.vars.length : Int) = (2 : Int)) && (withinB (c.args.length : Int) (1 : Int) (6 : Int))) && (allInB c.args (0 : Int) (5 : Int))) && decide (c.bound = (0 : Int))) && decide ((c.rows.length : Int) = (0 : Int)))) (pk [4, 116] rfl) (fun J87 => ?_) ?_)
       ·rcases Bool.eq_false_or_eq_true (((decide ((c.vars.length : Int) = (2 : Int)) && (withinB (c.args.length : Int) (1 : Int) (6 : Int))) && (allInB c.args (0 : Int) (5 : Int))) && decide (c.bound = (0 : Int))) with g83 | g83
        ·have g83p := g83
         try simp only [smpD] at g83p
         refine gT rfl rfl g83 (fd9 rfl ‹_› (fun p84 a85 => ?_))
         refine gT rfl rfl g83 (ld rfl ‹_› (gT rfl rfl g83 (le9 rfl ‹_› (fun l86 => ?_))))
         refine gT rfl rfl g83 (eq9 rfl rfl ?_)
         refine aT rfl rfl g83 ?_
         exact J87 _ (pk [121, 4, 116] rfl)
        ·refine gF rfl rfl g83 (gF rfl rfl g83 (gF rfl rfl g83 (gF rfl rfl g83 (aF (decide ((c.rows.length : Int) = (0 : Int))) rfl rfl g83 ?_))))
         exact J87 _ (pk [121, 4, 116] rfl)
       refine sg rfl (ln (qc (rt (kq_retP rfl rfl (congrArg Value.bool ?_)))))
       exact conS_yes ‹_› (by first | (exfalso; omega) | (simp only [fitsB, *]; first | rfl | (simp; done) | (simp; ac_rfl)))
      ·refine cS (cr (eq9 rfl rfl ?_))
       refine sg rfl (ln (qc (ci9 rfl (fun c88 => ?_) (fun c88 => ?_))))
       ·refine cS (cr (fd9 rfl ‹_› (fun p89 a90 => ?_)))
        refine ld rfl ‹_› (le9 rfl ‹_› (fun l91 => ?_))
        refine eq9 rfl rfl ?_
        refine mv rfl (jn 4 132 (.bool (decide ((c.args.length : Int) = (0 : Int)) && decide (c.bound = (0 : Int)))) (pk [2, 4, 5, 128] rfl) (fun J95 => ?_) ?_)
        ·rcases Bool.eq_false_or_eq_true (decide ((c.args.length : Int) = (0 : Int))) with g92 | g92
         ·have g92p := of_decide_eq_true g92
          refine gT rfl rfl g92 (fd9 rfl ‹_› (fun p93 a94 => ?_))
          refine gT rfl rfl g92 (ld rfl ‹_› (gT rfl rfl g92 (eq9 rfl rfl ?_)))
          refine aT rfl rfl g92 ?_
          exact J95 _ (pk [132, 2, 4, 5, 128] rfl)
         ·refine gF rfl rfl g92 (gF rfl rfl g92 (gF rfl rfl g92 (aF (decide (c.bound = (0 : Int))) rfl rfl g92 ?_)))
          exact J95 _ (pk [132, 2, 4, 5, 128] rfl)
        refine mv rfl (jn 5 138 (.bool ((decide ((c.args.length : Int) = (0 : Int)) && decide (c.bound = (0 : Int))) && (rowsInB c.rows (c.vars.length : Int) (0 : Int) (5 : Int)))) (pk [4, 133] rfl) (fun J99 => ?_) ?_)
        ·rcases Bool.eq_false_or_eq_true (decide ((c.args.length : Int) = (0 : Int)) && decide (c.bound = (0 : Int))) with g96 | g96
         ·have g96p := g96
          try simp only [smpD] at g96p
          refine gT rfl rfl g96 (fd9 rfl ‹_› (fun p97 a98 => ?_))
          refine gT rfl rfl g96 (ld rfl ‹_› (gT rfl rfl g96 (mv rfl (gT rfl rfl g96 (cP rfl rfl (validRows_ok c.rows (c.vars.length : Int) (0 : Int) (5 : Int) ‹_›) ?_)))))
          refine aT rfl rfl g96 ?_
          exact J99 _ (pk [138, 4, 133] rfl)
         ·refine gF rfl rfl g96 (gF rfl rfl g96 (gF rfl rfl g96 (gF rfl rfl g96 (aF (rowsInB c.rows (c.vars.length : Int) (0 : Int) (5 : Int)) rfl rfl g96 ?_))))
          exact J99 _ (pk [138, 4, 133] rfl)
        refine sg rfl (ln (qc (rt (kq_retP rfl rfl (congrArg Value.bool ?_)))))
        exact conS_yes ‹_› (by first | (exfalso; omega) | (simp only [fitsB, *]; first | rfl | (simp; done) | (simp; ac_rfl)))
       ·refine cS (cr (eq9 rfl rfl ?_))
        refine sg rfl (ln (qc (ci9 rfl (fun c100 => ?_) (fun c100 => ?_))))
        ·refine cS (cr (fd9 rfl ‹_› (fun p101 a102 => ?_)))
         refine ld rfl ‹_› (le9 rfl ‹_› (fun l103 => ?_))
         refine eq9 rfl rfl ?_
         refine mv rfl (jn 4 149 (.bool (decide ((c.args.length : Int) = (1 : Int)) && (allInB c.args (0 : Int) (5 : Int)))) (pk [2, 4, 145] rfl) (fun J107 => ?_) ?_)
         ·rcases Bool.eq_false_or_eq_true (decide ((c.args.length : Int) = (1 : Int))) with g104 | g104
          ·have g104p := of_decide_eq_true g104
           refine gT rfl rfl g104 (fd9 rfl ‹_› (fun p105 a106 => ?_))
           refine gT rfl rfl g104 (ld rfl ‹_› (gT rfl rfl g104 (cP rfl rfl (allInRange_ok c.args (0 : Int) (5 : Int) ‹_›) ?_)))
           refine aT rfl rfl g104 ?_
           exact J107 _ (pk [149, 2, 4, 145] rfl)
          ·refine gF rfl rfl g104 (gF rfl rfl g104 (gF rfl rfl g104 (aF (allInB c.args (0 : Int) (5 : Int)) rfl rfl g104 ?_)))
           exact J107 _ (pk [149, 2, 4, 145] rfl)
         refine mv rfl (jn 4 154 (.bool ((decide ((c.args.length : Int) = (1 : Int)) && (allInB c.args (0 : Int) (5 : Int))) && (withinB c.bound (0 : Int) (4 : Int)))) (pk [2, 4, 150] rfl) (fun J111 => ?_) ?_)
         ·rcases Bool.eq_false_or_eq_true (decide ((c.args.length : Int) = (1 : Int)) && (allInB c.args (0 : Int) (5 : Int))) with g108 | g108
          ·have g108p := g108
           try simp only [smpD] at g108p
           refine gT rfl rfl g108 (fd9 rfl ‹_› (fun p109 a110 => ?_))
           refine gT rfl rfl g108 (ld rfl ‹_› (gT rfl rfl g108 (cP rfl rfl (inRange_ok c.bound (0 : Int) (4 : Int)) ?_)))
           refine aT rfl rfl g108 ?_
           exact J111 _ (pk [154, 2, 4, 150] rfl)
          ·refine gF rfl rfl g108 (gF rfl rfl g108 (gF rfl rfl g108 (aF (withinB c.bound (0 : Int) (4 : Int)) rfl rfl g108 ?_)))
           exact J111 _ (pk [154, 2, 4, 150] rfl)
         refine mv rfl (jn 5 160 (.bool (((decide ((c.args.length : Int) = (1 : Int)) && (allInB c.args (0 : Int) (5 : Int))) && (withinB c.bound (0 : Int) (4 : Int))) && decide ((c.rows.length : Int) = (0 : Int)))) (pk [4, 155] rfl) (fun J116 => ?_) ?_)
         ·rcases Bool.eq_false_or_eq_true ((decide ((c.args.length : Int) = (1 : Int)) && (allInB c.args (0 : Int) (5 : Int))) && (withinB c.bound (0 : Int) (4 : Int))) with g112 | g112
          ·have g112p := g112
           try simp only [smpD] at g112p
           refine gT rfl rfl g112 (fd9 rfl ‹_› (fun p113 a114 => ?_))
           refine gT rfl rfl g112 (ld rfl ‹_› (gT rfl rfl g112 (le9 rfl ‹_› (fun l115 => ?_))))
           refine gT rfl rfl g112 (eq9 rfl rfl ?_)
           refine aT rfl rfl g112 ?_
           exact J116 _ (pk [160, 4, 155] rfl)
          ·refine gF rfl rfl g112 (gF rfl rfl g112 (gF rfl rfl g112 (gF rfl rfl g112 (aF (decide ((c.rows.length : Int) = (0 : Int))) rfl rfl g112 ?_))))
           exact J116 _ (pk [160, 4, 155] rfl)
         refine sg rfl (ln (qc (rt (kq_retP rfl rfl (congrArg Value.bool ?_)))))
         exact conS_yes ‹_› (by first | (exfalso; omega) | (simp only [fitsB, *]; first | rfl | (simp; done) | (simp; ac_rfl)))
        ·refine cS (cr (eq9 rfl rfl ?_))
         refine sg rfl (ln (qc (ci9 rfl (fun c117 => ?_) (fun c117 => ?_))))
         ·refine cS (cr (fd9 rfl ‹_› (fun p118 a119 => ?_)))
          refine ld rfl ‹_› (le9 rfl ‹_› (fun l120 => ?_))
          refine mv rfl (kl_mul rfl rfl (by omega) ?_)
          refine eq9 rfl rfl ?_
          refine mv rfl (jn 4 173 (.bool (decide ((c.args.length : Int) = ((2 : Int) * (c.vars.length : Int))) && (allInB c.args (0 : Int) (9 : Int)))) (pk [2, 4, 169] rfl) (fun J124 => ?_) ?_)
          ·rcases Bool.eq_false_or_eq_true (decide ((c.args.length : Int) = ((2 : Int) * (c.vars.length : Int)))) with g121 | g121
           ·have g121p := of_decide_eq_true g121
            refine gT rfl rfl g121 (fd9 rfl ‹_› (fun p122 a123 => ?_))
            refine gT rfl rfl g121 (ld rfl ‹_› (gT rfl rfl g121 (cP rfl rfl (allInRange_ok c.args (0 : Int) (9 : Int) ‹_›) ?_)))
            refine aT rfl rfl g121 ?_
            exact J124 _ (pk [173, 2, 4, 169] rfl)
           ·refine gF rfl rfl g121 (gF rfl rfl g121 (gF rfl rfl g121 (aF (allInB c.args (0 : Int) (9 : Int)) rfl rfl g121 ?_)))
            exact J124 _ (pk [173, 2, 4, 169] rfl)
          refine mv rfl (jn 4 178 (.bool ((decide ((c.args.length : Int) = ((2 : Int) * (c.vars.length : Int))) && (allInB c.args (0 : Int) (9 : Int))) && (withinB c.bound (0 : Int) (9 : Int)))) (pk [2, 4, 174] rfl) (fun J128 => ?_) ?_)
          ·rcases Bool.eq_false_or_eq_true (decide ((c.args.length : Int) = ((2 : Int) * (c.vars.length : Int))) && (allInB c.args (0 : Int) (9 : Int))) with g125 | g125
           ·have g125p := g125
            try simp only [smpD] at g125p
            refine gT rfl rfl g125 (fd9 rfl ‹_› (fun p126 a127 => ?_))
            refine gT rfl rfl g125 (ld rfl ‹_› (gT rfl rfl g125 (cP rfl rfl (inRange_ok c.bound (0 : Int) (9 : Int)) ?_)))
            refine aT rfl rfl g125 ?_
            exact J128 _ (pk [178, 2, 4, 174] rfl)
           ·refine gF rfl rfl g125 (gF rfl rfl g125 (gF rfl rfl g125 (aF (withinB c.bound (0 : Int) (9 : Int)) rfl rfl g125 ?_)))
            exact J128 _ (pk [178, 2, 4, 174] rfl)
          refine mv rfl (jn 5 184 (.bool (((decide ((c.args.length : Int) = ((2 : Int) * (c.vars.length : Int))) && (allInB c.args (0 : Int) (9 : Int))) && (withinB c.bound (0 : Int) (9 : Int))) && decide ((c.rows.length : Int) = (0 : Int)))) (pk [4, 179] rfl) (fun J133 => ?_) ?_)
          ·rcases Bool.eq_false_or_eq_true ((decide ((c.args.length : Int) = ((2 : Int) * (c.vars.length : Int))) && (allInB c.args (0 : Int) (9 : Int))) && (withinB c.bound (0 : Int) (9 : Int))) with g129 | g129
           ·have g129p := g129
            try simp only [smpD] at g129p
            refine gT rfl rfl g129 (fd9 rfl ‹_› (fun p130 a131 => ?_))
            refine gT rfl rfl g129 (ld rfl ‹_› (gT rfl rfl g129 (le9 rfl ‹_› (fun l132 => ?_))))
            refine gT rfl rfl g129 (eq9 rfl rfl ?_)
            refine aT rfl rfl g129 ?_
            exact J133 _ (pk [184, 4, 179] rfl)
           ·refine gF rfl rfl g129 (gF rfl rfl g129 (gF rfl rfl g129 (gF rfl rfl g129 (aF (decide ((c.rows.length : Int) = (0 : Int))) rfl rfl g129 ?_))))
            exact J133 _ (pk [184, 4, 179] rfl)
          refine sg rfl (ln (qc (rt (kq_retP rfl rfl (congrArg Value.bool ?_)))))
          exact conS_yes ‹_› (by first | (exfalso; omega) | (simp only [fitsB, *]; first | rfl | (simp; done) | (simp; ac_rfl)))
         ·refine cS (cr (eq9 rfl rfl ?_))
          refine sg rfl (ln (qc (ci9 rfl (fun c134 => ?_) (fun c134 => ?_))))
          ·refine cS (cr (fd9 rfl ‹_› (fun p135 a136 => ?_)))
           refine ld rfl ‹_› (fd9 rfl ‹_› (fun p137 a138 => ?_))
           refine ld rfl ‹_› (le9 rfl ‹_› (fun l139 => ?_))
           refine sb9 rfl rfl (by omega) ?_
           refine cP rfl rfl (validRows_ok c.rows (6 : Int) (-1 : Int) ((c.rows.length : Int) - (1 : Int)) ‹_›) ?_
           refine mv rfl (jn 8 202 (.bool ((rowsInB c.rows (6 : Int) (-1 : Int) ((c.rows.length : Int) - (1 : Int))) && (allInB c.args (0 : Int) ((c.rows.length : Int) - (1 : Int))))) (pk [2, 4, 194] rfl) (fun J146 => ?_) ?_)
           ·rcases Bool.eq_false_or_eq_true (rowsInB c.rows (6 : Int) (-1 : Int) ((c.rows.length : Int) - (1 : Int))) with g140 | g140
            ·have g140p := g140
             try simp only [smpD] at g140p
             refine gT rfl rfl g140 (fd9 rfl ‹_› (fun p141 a142 => ?_))
             refine gT rfl rfl g140 (ld rfl ‹_› (gT rfl rfl g140 (fd9 rfl ‹_› (fun p143 a144 => ?_))))
             refine gT rfl rfl g140 (ld rfl ‹_› (gT rfl rfl g140 (le9 rfl ‹_› (fun l145 => ?_))))
             refine gT rfl rfl g140 (sb9 rfl rfl (by omega) ?_)
             refine gT rfl rfl g140 (cP rfl rfl (allInRange_ok c.args (0 : Int) ((c.rows.length : Int) - (1 : Int)) ‹_›) ?_)
             refine aT rfl rfl g140 ?_
             exact J146 _ (pk [202, 2, 4, 194] rfl)
            ·refine gF rfl rfl g140 (gF rfl rfl g140 (gF rfl rfl g140 (gF rfl rfl g140 (gF rfl rfl g140 (gF rfl rfl g140 (gF rfl rfl g140 (aF (allInB c.args (0 : Int) ((c.rows.length : Int) - (1 : Int))) rfl rfl g140 ?_)))))))
             exact J146 _ (pk [202, 2, 4, 194] rfl)
           refine mv rfl (jn 4 207 (.bool (((rowsInB c.rows (6 : Int) (-1 : Int) ((c.rows.length : Int) - (1 : Int))) && (allInB c.args (0 : Int) ((c.rows.length : Int) - (1 : Int)))) && (distinctB c.args))) (pk [2, 4, 203] rfl) (fun J150 => ?_) ?_)
           ·rcases Bool.eq_false_or_eq_true ((rowsInB c.rows (6 : Int) (-1 : Int) ((c.rows.length : Int) - (1 : Int))) && (allInB c.args (0 : Int) ((c.rows.length : Int) - (1 : Int)))) with g147 | g147
            ·have g147p := g147
             try simp only [smpD] at g147p
             refine gT rfl rfl g147 (fd9 rfl ‹_› (fun p148 a149 => ?_))
             refine gT rfl rfl g147 (ld rfl ‹_› (gT rfl rfl g147 (cP rfl rfl (sdistinct_ok c.args ‹_›) ?_)))
             refine aT rfl rfl g147 ?_
             exact J150 _ (pk [207, 2, 4, 203] rfl)
            ·refine gF rfl rfl g147 (gF rfl rfl g147 (gF rfl rfl g147 (aF (distinctB c.args) rfl rfl g147 ?_)))
             exact J150 _ (pk [207, 2, 4, 203] rfl)
           refine mv rfl (jn 4 212 (.bool ((((rowsInB c.rows (6 : Int) (-1 : Int) ((c.rows.length : Int) - (1 : Int))) && (allInB c.args (0 : Int) ((c.rows.length : Int) - (1 : Int)))) && (distinctB c.args)) && decide (c.bound = (0 : Int)))) (pk [4, 208] rfl) (fun J154 => ?_) ?_)
           ·rcases Bool.eq_false_or_eq_true (((rowsInB c.rows (6 : Int) (-1 : Int) ((c.rows.length : Int) - (1 : Int))) && (allInB c.args (0 : Int) ((c.rows.length : Int) - (1 : Int)))) && (distinctB c.args)) with g151 | g151
            ·have g151p := g151
             try simp only [smpD] at g151p
             refine gT rfl rfl g151 (fd9 rfl ‹_› (fun p152 a153 => ?_))
             refine gT rfl rfl g151 (ld rfl ‹_› (gT rfl rfl g151 (eq9 rfl rfl ?_)))
             refine aT rfl rfl g151 ?_
             exact J154 _ (pk [212, 4, 208] rfl)
            ·refine gF rfl rfl g151 (gF rfl rfl g151 (gF rfl rfl g151 (aF (decide (c.bound = (0 : Int))) rfl rfl g151 ?_)))
             exact J154 _ (pk [212, 4, 208] rfl)
           refine sg rfl (ln (qc (rt (kq_retP rfl rfl (congrArg Value.bool ?_)))))
           exact conS_yes ‹_› (by first | (exfalso; omega) | (simp only [fitsB, *]; first | rfl | (simp; done) | (simp; ac_rfl)))
          ·refine sk (qc (cS (cr (sg rfl (ln (qc (rt (kq_retP rfl rfl (congrArg Value.bool ?_)))))))))
           exact conS_yes ‹_› (by first | (exfalso; omega) | (simp only [fitsB, *]; first | rfl | (simp; done) | (simp; ac_rfl)))
    ·refine cr (eq9 rfl rfl ?_)
     refine sg rfl (ln (qc (ci9 rfl (fun c155 => ?_) (fun c155 => ?_))))
     ·refine cS (cr (fd9 rfl ‹_› (fun p156 a157 => ?_)))
      refine ld rfl ‹_› (le9 rfl ‹_› (fun l158 => ?_))
      refine eq9 rfl rfl ?_
      refine mv rfl (jn 4 89 (.bool (decide ((c.args.length : Int) = (0 : Int)) && decide (c.bound = (0 : Int)))) (pk [2, 4, 85] rfl) (fun J162 => ?_) ?_)
      ·rcases Bool.eq_false_or_eq_true (decide ((c.args.length : Int) = (0 : Int))) with g159 | g159
       ·have g159p := of_decide_eq_true g159
        refine gT rfl rfl g159 (fd9 rfl ‹_› (fun p160 a161 => ?_))
        refine gT rfl rfl g159 (ld rfl ‹_› (gT rfl rfl g159 (eq9 rfl rfl ?_)))
        refine aT rfl rfl g159 ?_
        exact J162 _ (pk [89, 2, 4, 85] rfl)
       ·refine gF rfl rfl g159 (gF rfl rfl g159 (gF rfl rfl g159 (aF (decide (c.bound = (0 : Int))) rfl rfl g159 ?_)))
        exact J162 _ (pk [89, 2, 4, 85] rfl)
      refine mv rfl (jn 5 95 (.bool ((decide ((c.args.length : Int) = (0 : Int)) && decide (c.bound = (0 : Int))) && decide ((c.rows.length : Int) = (0 : Int)))) (pk [4, 90] rfl) (fun J167 => ?_) ?_)
      ·rcases Bool.eq_false_or_eq_true (decide ((c.args.length : Int) = (0 : Int)) && decide (c.bound = (0 : Int))) with g163 | g163
       ·have g163p := g163
        try simp only [smpD] at g163p
        refine gT rfl rfl g163 (fd9 rfl ‹_› (fun p164 a165 => ?_))
        refine gT rfl rfl g163 (ld rfl ‹_› (gT rfl rfl g163 (le9 rfl ‹_› (fun l166 => ?_))))
        refine gT rfl rfl g163 (eq9 rfl rfl ?_)
        refine aT rfl rfl g163 ?_
        exact J167 _ (pk [95, 4, 90] rfl)
       ·refine gF rfl rfl g163 (gF rfl rfl g163 (gF rfl rfl g163 (gF rfl rfl g163 (aF (decide ((c.rows.length : Int) = (0 : Int))) rfl rfl g163 ?_))))
        exact J167 _ (pk [95, 4, 90] rfl)
      refine sg rfl (ln (qc (rt (kq_retP rfl rfl (congrArg Value.bool ?_)))))
      exact conS_yes ‹_› (by first | (exfalso; omega) | (simp only [fitsB, *]; first | rfl | (simp; done) | (simp; ac_rfl)))
     ·refine cS (cr (eq9 rfl rfl ?_))
      refine sg rfl (ln (qc (ci9 rfl (fun c168 => ?_) (fun c168 => ?_))))
      ·refine cS (cr (mv rfl (eq9 rfl rfl ?_)))
       refine mv rfl (jn 5 105 (.bool (decide ((c.vars.length : Int) = (2 : Int)) && (withinB (c.args.length : Int) (1 : Int) (6 : Int)))) (pk [2, 4, 100] rfl) (fun J173 => ?_) ?_)
       ·rcases Bool.eq_false_or_eq_true (decide ((c.vars.length : Int) = (2 : Int))) with g169 | g169
        ·have g169p := of_decide_eq_true g169
         refine gT rfl rfl g169 (fd9 rfl ‹_› (fun p170 a171 => ?_))
         refine gT rfl rfl g169 (ld rfl ‹_› (gT rfl rfl g169 (le9 rfl ‹_› (fun l172 => ?_))))
         refine gT rfl rfl g169 (cP rfl rfl (inRange_ok (c.args.length : Int) (1 : Int) (6 : Int)) ?_)
         refine aT rfl rfl g169 ?_
         exact J173 _ (pk [105, 2, 4, 100] rfl)
        ·refine gF rfl rfl g169 (gF rfl rfl g169 (gF rfl rfl g169 (gF rfl rfl g169 (aF (withinB (c.args.length : Int) (1 : Int) (6 : Int)) rfl rfl g169 ?_))))
         exact J173 _ (pk [105, 2, 4, 100] rfl)
       refine mv rfl (jn 4 110 (.bool ((decide ((c.vars.length : Int) = (2 : Int)) && (withinB (c.args.length : Int) (1 : Int) (6 : Int))) && (allInB c.args (0 : Int) (5 : Int)))) (pk [2, 4, 106] rfl) (fun J177 => ?_) ?_)
       ·rcases Bool.eq_false_or_eq_true (decide ((c.vars.length : Int) = (2 : Int)) && (withinB (c.args.length : Int) (1 : Int) (6 : Int))) with g174 | g174
        ·have g174p := g174
         try simp only [smpD] at g174p
         refine gT rfl rfl g174 (fd9 rfl ‹_› (fun p175 a176 => ?_))
         refine gT rfl rfl g174 (ld rfl ‹_› (gT rfl rfl g174 (cP rfl rfl (allInRange_ok c.args (0 : Int) (5 : Int) ‹_›) ?_)))
         refine aT rfl rfl g174 ?_
         exact J177 _ (pk [110, 2, 4, 106] rfl)
        ·refine gF rfl rfl g174 (gF rfl rfl g174 (gF rfl rfl g174 (aF (allInB c.args (0 : Int) (5 : Int)) rfl rfl g174 ?_)))
         exact J177 _ (pk [110, 2, 4, 106] rfl)
       refine mv rfl (jn 4 115 (.bool (((decide ((c.vars.length : Int) = (2 : Int)) && (withinB (c.args.length : Int) (1 : Int) (6 : Int))) && (allInB c.args (0 : Int) (5 : Int))) && decide (c.bound = (0 : Int)))) (pk [2, 4, 111] rfl) (fun J181 => ?_) ?_)
       ·rcases Bool.eq_false_or_eq_true ((decide ((c.vars.length : Int) = (2 : Int)) && (withinB (c.args.length : Int) (1 : Int) (6 : Int))) && (allInB c.args (0 : Int) (5 : Int))) with g178 | g178
        ·have g178p := g178
         try simp only [smpD] at g178p
         refine gT rfl rfl g178 (fd9 rfl ‹_› (fun p179 a180 => ?_))
         refine gT rfl rfl g178 (ld rfl ‹_› (gT rfl rfl g178 (eq9 rfl rfl ?_)))
         refine aT rfl rfl g178 ?_
         exact J181 _ (pk [115, 2, 4, 111] rfl)
        ·refine gF rfl rfl g178 (gF rfl rfl g178 (gF rfl rfl g178 (aF (decide (c.bound = (0 : Int))) rfl rfl g178 ?_)))
         exact J181 _ (pk [115, 2, 4, 111] rfl)
       refine mv rfl (jn 5 121 (.bool ((((decide ((c.vars.length : Int) = (2 : Int)) && (withinB (c.args.length : Int) (1 : Int) (6 : Int))) && (allInB c.args (0 : Int) (5 : Int))) && decide (c.bound = (0 : Int))) && decide ((c.rows.length : Int) = (0 : Int)))) (pk [4, 116] rfl) (fun J186 => ?_) ?_)
       ·rcases Bool.eq_false_or_eq_true (((decide ((c.vars.length : Int) = (2 : Int)) && (withinB (c.args.length : Int) (1 : Int) (6 : Int))) && (allInB c.args (0 : Int) (5 : Int))) && decide (c.bound = (0 : Int))) with g182 | g182
        ·have g182p := g182
         try simp only [smpD] at g182p
         refine gT rfl rfl g182 (fd9 rfl ‹_› (fun p183 a184 => ?_))
         refine gT rfl rfl g182 (ld rfl ‹_› (gT rfl rfl g182 (le9 rfl ‹_› (fun l185 => ?_))))
         refine gT rfl rfl g182 (eq9 rfl rfl ?_)
         refine aT rfl rfl g182 ?_
         exact J186 _ (pk [121, 4, 116] rfl)
        ·refine gF rfl rfl g182 (gF rfl rfl g182 (gF rfl rfl g182 (gF rfl rfl g182 (aF (decide ((c.rows.length : Int) = (0 : Int))) rfl rfl g182 ?_))))
         exact J186 _ (pk [121, 4, 116] rfl)
       refine sg rfl (ln (qc (rt (kq_retP rfl rfl (congrArg Value.bool ?_)))))
       exact conS_yes ‹_› (by first | (exfalso; omega) | (simp only [fitsB, *]; first | rfl | (simp; done) | (simp; ac_rfl)))
      ·refine cS (cr (eq9 rfl rfl ?_))
       refine sg rfl (ln (qc (ci9 rfl (fun c187 => ?_) (fun c187 => ?_))))
       ·refine cS (cr (fd9 rfl ‹_› (fun p188 a189 => ?_)))
        refine ld rfl ‹_› (le9 rfl ‹_› (fun l190 => ?_))
        refine eq9 rfl rfl ?_
        refine mv rfl (jn 4 132 (.bool (decide ((c.args.length : Int) = (0 : Int)) && decide (c.bound = (0 : Int)))) (pk [2, 4, 5, 128] rfl) (fun J194 => ?_) ?_)
        ·rcases Bool.eq_false_or_eq_true (decide ((c.args.length : Int) = (0 : Int))) with g191 | g191
         ·have g191p := of_decide_eq_true g191
          refine gT rfl rfl g191 (fd9 rfl ‹_› (fun p192 a193 => ?_))
          refine gT rfl rfl g191 (ld rfl ‹_› (gT rfl rfl g191 (eq9 rfl rfl ?_)))
          refine aT rfl rfl g191 ?_
          exact J194 _ (pk [132, 2, 4, 5, 128] rfl)
         ·refine gF rfl rfl g191 (gF rfl rfl g191 (gF rfl rfl g191 (aF (decide (c.bound = (0 : Int))) rfl rfl g191 ?_)))
          exact J194 _ (pk [132, 2, 4, 5, 128] rfl)
        refine mv rfl (jn 5 138 (.bool ((decide ((c.args.length : Int) = (0 : Int)) && decide (c.bound = (0 : Int))) && (rowsInB c.rows (c.vars.length : Int) (0 : Int) (5 : Int)))) (pk [4, 133] rfl) (fun J198 => ?_) ?_)
        ·rcases Bool.eq_false_or_eq_true (decide ((c.args.length : Int) = (0 : Int)) && decide (c.bound = (0 : Int))) with g195 | g195
         ·have g195p := g195
          try simp only [smpD] at g195p
          refine gT rfl rfl g195 (fd9 rfl ‹_› (fun p196 a197 => ?_))
          refine gT rfl rfl g195 (ld rfl ‹_› (gT rfl rfl g195 (mv rfl (gT rfl rfl g195 (cP rfl rfl (validRows_ok c.rows (c.vars.length : Int) (0 : Int) (5 : Int) ‹_›) ?_)))))
          refine aT rfl rfl g195 ?_
          exact J198 _ (pk [138, 4, 133] rfl)
         ·refine gF rfl rfl g195 (gF rfl rfl g195 (gF rfl rfl g195 (gF rfl rfl g195 (aF (rowsInB c.rows (c.vars.length : Int) (0 : Int) (5 : Int)) rfl rfl g195 ?_))))
          exact J198 _ (pk [138, 4, 133] rfl)
        refine sg rfl (ln (qc (rt (kq_retP rfl rfl (congrArg Value.bool ?_)))))
        exact conS_yes ‹_› (by first | (exfalso; omega) | (simp only [fitsB, *]; first | rfl | (simp; done) | (simp; ac_rfl)))
       ·refine cS (cr (eq9 rfl rfl ?_))
        refine sg rfl (ln (qc (ci9 rfl (fun c199 => ?_) (fun c199 => ?_))))
        ·refine cS (cr (fd9 rfl ‹_› (fun p200 a201 => ?_)))
         refine ld rfl ‹_› (le9 rfl ‹_› (fun l202 => ?_))
         refine eq9 rfl rfl ?_
         refine mv rfl (jn 4 149 (.bool (decide ((c.args.length : Int) = (1 : Int)) && (allInB c.args (0 : Int) (5 : Int)))) (pk [2, 4, 145] rfl) (fun J206 => ?_) ?_)
         ·rcases Bool.eq_false_or_eq_true (decide ((c.args.length : Int) = (1 : Int))) with g203 | g203
          ·have g203p := of_decide_eq_true g203
           refine gT rfl rfl g203 (fd9 rfl ‹_› (fun p204 a205 => ?_))
           refine gT rfl rfl g203 (ld rfl ‹_› (gT rfl rfl g203 (cP rfl rfl (allInRange_ok c.args (0 : Int) (5 : Int) ‹_›) ?_)))
           refine aT rfl rfl g203 ?_
           exact J206 _ (pk [149, 2, 4, 145] rfl)
          ·refine gF rfl rfl g203 (gF rfl rfl g203 (gF rfl rfl g203 (aF (allInB c.args (0 : Int) (5 : Int)) rfl rfl g203 ?_)))
           exact J206 _ (pk [149, 2, 4, 145] rfl)
         refine mv rfl (jn 4 154 (.bool ((decide ((c.args.length : Int) = (1 : Int)) && (allInB c.args (0 : Int) (5 : Int))) && (withinB c.bound (0 : Int) (4 : Int)))) (pk [2, 4, 150] rfl) (fun J210 => ?_) ?_)
         ·rcases Bool.eq_false_or_eq_true (decide ((c.args.length : Int) = (1 : Int)) && (allInB c.args (0 : Int) (5 : Int))) with g207 | g207
          ·have g207p := g207
           try simp only [smpD] at g207p
           refine gT rfl rfl g207 (fd9 rfl ‹_› (fun p208 a209 => ?_))
           refine gT rfl rfl g207 (ld rfl ‹_› (gT rfl rfl g207 (cP rfl rfl (inRange_ok c.bound (0 : Int) (4 : Int)) ?_)))
           refine aT rfl rfl g207 ?_
           exact J210 _ (pk [154, 2, 4, 150] rfl)
          ·refine gF rfl rfl g207 (gF rfl rfl g207 (gF rfl rfl g207 (aF (withinB c.bound (0 : Int) (4 : Int)) rfl rfl g207 ?_)))
           exact J210 _ (pk [154, 2, 4, 150] rfl)
         refine mv rfl (jn 5 160 (.bool (((decide ((c.args.length : Int) = (1 : Int)) && (allInB c.args (0 : Int) (5 : Int))) && (withinB c.bound (0 : Int) (4 : Int))) && decide ((c.rows.length : Int) = (0 : Int)))) (pk [4, 155] rfl) (fun J215 => ?_) ?_)
         ·rcases Bool.eq_false_or_eq_true ((decide ((c.args.length : Int) = (1 : Int)) && (allInB c.args (0 : Int) (5 : Int))) && (withinB c.bound (0 : Int) (4 : Int))) with g211 | g211
          ·have g211p := g211
           try simp only [smpD] at g211p
           refine gT rfl rfl g211 (fd9 rfl ‹_› (fun p212 a213 => ?_))
           refine gT rfl rfl g211 (ld rfl ‹_› (gT rfl rfl g211 (le9 rfl ‹_› (fun l214 => ?_))))
           refine gT rfl rfl g211 (eq9 rfl rfl ?_)
           refine aT rfl rfl g211 ?_
           exact J215 _ (pk [160, 4, 155] rfl)
          ·refine gF rfl rfl g211 (gF rfl rfl g211 (gF rfl rfl g211 (gF rfl rfl g211 (aF (decide ((c.rows.length : Int) = (0 : Int))) rfl rfl g211 ?_))))
           exact J215 _ (pk [160, 4, 155] rfl)
         refine sg rfl (ln (qc (rt (kq_retP rfl rfl (congrArg Value.bool ?_)))))
         exact conS_yes ‹_› (by first | (exfalso; omega) | (simp only [fitsB, *]; first | rfl | (simp; done) | (simp; ac_rfl)))
        ·refine cS (cr (eq9 rfl rfl ?_))
         refine sg rfl (ln (qc (ci9 rfl (fun c216 => ?_) (fun c216 => ?_))))
         ·refine cS (cr (fd9 rfl ‹_› (fun p217 a218 => ?_)))
          refine ld rfl ‹_› (le9 rfl ‹_› (fun l219 => ?_))
          refine mv rfl (kl_mul rfl rfl (by omega) ?_)
          refine eq9 rfl rfl ?_
          refine mv rfl (jn 4 173 (.bool (decide ((c.args.length : Int) = ((2 : Int) * (c.vars.length : Int))) && (allInB c.args (0 : Int) (9 : Int)))) (pk [2, 4, 169] rfl) (fun J223 => ?_) ?_)
          ·rcases Bool.eq_false_or_eq_true (decide ((c.args.length : Int) = ((2 : Int) * (c.vars.length : Int)))) with g220 | g220
           ·have g220p := of_decide_eq_true g220
            refine gT rfl rfl g220 (fd9 rfl ‹_› (fun p221 a222 => ?_))
            refine gT rfl rfl g220 (ld rfl ‹_› (gT rfl rfl g220 (cP rfl rfl (allInRange_ok c.args (0 : Int) (9 : Int) ‹_›) ?_)))
            refine aT rfl rfl g220 ?_
            exact J223 _ (pk [173, 2, 4, 169] rfl)
           ·refine gF rfl rfl g220 (gF rfl rfl g220 (gF rfl rfl g220 (aF (allInB c.args (0 : Int) (9 : Int)) rfl rfl g220 ?_)))
            exact J223 _ (pk [173, 2, 4, 169] rfl)
          refine mv rfl (jn 4 178 (.bool ((decide ((c.args.length : Int) = ((2 : Int) * (c.vars.length : Int))) && (allInB c.args (0 : Int) (9 : Int))) && (withinB c.bound (0 : Int) (9 : Int)))) (pk [2, 4, 174] rfl) (fun J227 => ?_) ?_)
          ·rcases Bool.eq_false_or_eq_true (decide ((c.args.length : Int) = ((2 : Int) * (c.vars.length : Int))) && (allInB c.args (0 : Int) (9 : Int))) with g224 | g224
           ·have g224p := g224
            try simp only [smpD] at g224p
            refine gT rfl rfl g224 (fd9 rfl ‹_› (fun p225 a226 => ?_))
            refine gT rfl rfl g224 (ld rfl ‹_› (gT rfl rfl g224 (cP rfl rfl (inRange_ok c.bound (0 : Int) (9 : Int)) ?_)))
            refine aT rfl rfl g224 ?_
            exact J227 _ (pk [178, 2, 4, 174] rfl)
           ·refine gF rfl rfl g224 (gF rfl rfl g224 (gF rfl rfl g224 (aF (withinB c.bound (0 : Int) (9 : Int)) rfl rfl g224 ?_)))
            exact J227 _ (pk [178, 2, 4, 174] rfl)
          refine mv rfl (jn 5 184 (.bool (((decide ((c.args.length : Int) = ((2 : Int) * (c.vars.length : Int))) && (allInB c.args (0 : Int) (9 : Int))) && (withinB c.bound (0 : Int) (9 : Int))) && decide ((c.rows.length : Int) = (0 : Int)))) (pk [4, 179] rfl) (fun J232 => ?_) ?_)
          ·rcases Bool.eq_false_or_eq_true ((decide ((c.args.length : Int) = ((2 : Int) * (c.vars.length : Int))) && (allInB c.args (0 : Int) (9 : Int))) && (withinB c.bound (0 : Int) (9 : Int))) with g228 | g228
           ·have g228p := g228
            try simp only [smpD] at g228p
            refine gT rfl rfl g228 (fd9 rfl ‹_› (fun p229 a230 => ?_))
            refine gT rfl rfl g228 (ld rfl ‹_› (gT rfl rfl g228 (le9 rfl ‹_› (fun l231 => ?_))))
            refine gT rfl rfl g228 (eq9 rfl rfl ?_)
            refine aT rfl rfl g228 ?_
            exact J232 _ (pk [184, 4, 179] rfl)
           ·refine gF rfl rfl g228 (gF rfl rfl g228 (gF rfl rfl g228 (gF rfl rfl g228 (aF (decide ((c.rows.length : Int) = (0 : Int))) rfl rfl g228 ?_))))
            exact J232 _ (pk [184, 4, 179] rfl)
          refine sg rfl (ln (qc (rt (kq_retP rfl rfl (congrArg Value.bool ?_)))))
          exact conS_yes ‹_› (by first | (exfalso; omega) | (simp only [fitsB, *]; first | rfl | (simp; done) | (simp; ac_rfl)))
         ·refine cS (cr (eq9 rfl rfl ?_))
          refine sg rfl (ln (qc (ci9 rfl (fun c233 => ?_) (fun c233 => ?_))))
          ·refine cS (cr (fd9 rfl ‹_› (fun p234 a235 => ?_)))
           refine ld rfl ‹_› (fd9 rfl ‹_› (fun p236 a237 => ?_))
           refine ld rfl ‹_› (le9 rfl ‹_› (fun l238 => ?_))
           refine sb9 rfl rfl (by omega) ?_
           refine cP rfl rfl (validRows_ok c.rows (6 : Int) (-1 : Int) ((c.rows.length : Int) - (1 : Int)) ‹_›) ?_
           refine mv rfl (jn 8 202 (.bool ((rowsInB c.rows (6 : Int) (-1 : Int) ((c.rows.length : Int) - (1 : Int))) && (allInB c.args (0 : Int) ((c.rows.length : Int) - (1 : Int))))) (pk [2, 4, 194] rfl) (fun J245 => ?_) ?_)
           ·rcases Bool.eq_false_or_eq_true (rowsInB c.rows (6 : Int) (-1 : Int) ((c.rows.length : Int) - (1 : Int))) with g239 | g239
            ·have g239p := g239
             try simp only [smpD] at g239p
             refine gT rfl rfl g239 (fd9 rfl ‹_› (fun p240 a241 => ?_))
             refine gT rfl rfl g239 (ld rfl ‹_› (gT rfl rfl g239 (fd9 rfl ‹_› (fun p242 a243 => ?_))))
             refine gT rfl rfl g239 (ld rfl ‹_› (gT rfl rfl g239 (le9 rfl ‹_› (fun l244 => ?_))))
             refine gT rfl rfl g239 (sb9 rfl rfl (by omega) ?_)
             refine gT rfl rfl g239 (cP rfl rfl (allInRange_ok c.args (0 : Int) ((c.rows.length : Int) - (1 : Int)) ‹_›) ?_)
             refine aT rfl rfl g239 ?_
             exact J245 _ (pk [202, 2, 4, 194] rfl)
            ·refine gF rfl rfl g239 (gF rfl rfl g239 (gF rfl rfl g239 (gF rfl rfl g239 (gF rfl rfl g239 (gF rfl rfl g239 (gF rfl rfl g239 (aF (allInB c.args (0 : Int) ((c.rows.length : Int) - (1 : Int))) rfl rfl g239 ?_)))))))
             exact J245 _ (pk [202, 2, 4, 194] rfl)
           refine mv rfl (jn 4 207 (.bool (((rowsInB c.rows (6 : Int) (-1 : Int) ((c.rows.length : Int) - (1 : Int))) && (allInB c.args (0 : Int) ((c.rows.length : Int) - (1 : Int)))) && (distinctB c.args))) (pk [2, 4, 203] rfl) (fun J249 => ?_) ?_)
           ·rcases Bool.eq_false_or_eq_true ((rowsInB c.rows (6 : Int) (-1 : Int) ((c.rows.length : Int) - (1 : Int))) && (allInB c.args (0 : Int) ((c.rows.length : Int) - (1 : Int)))) with g246 | g246
            ·have g246p := g246
             try simp only [smpD] at g246p
             refine gT rfl rfl g246 (fd9 rfl ‹_› (fun p247 a248 => ?_))
             refine gT rfl rfl g246 (ld rfl ‹_› (gT rfl rfl g246 (cP rfl rfl (sdistinct_ok c.args ‹_›) ?_)))
             refine aT rfl rfl g246 ?_
             exact J249 _ (pk [207, 2, 4, 203] rfl)
            ·refine gF rfl rfl g246 (gF rfl rfl g246 (gF rfl rfl g246 (aF (distinctB c.args) rfl rfl g246 ?_)))
             exact J249 _ (pk [207, 2, 4, 203] rfl)
           refine mv rfl (jn 4 212 (.bool ((((rowsInB c.rows (6 : Int) (-1 : Int) ((c.rows.length : Int) - (1 : Int))) && (allInB c.args (0 : Int) ((c.rows.length : Int) - (1 : Int)))) && (distinctB c.args)) && decide (c.bound = (0 : Int)))) (pk [4, 208] rfl) (fun J253 => ?_) ?_)
           ·rcases Bool.eq_false_or_eq_true (((rowsInB c.rows (6 : Int) (-1 : Int) ((c.rows.length : Int) - (1 : Int))) && (allInB c.args (0 : Int) ((c.rows.length : Int) - (1 : Int)))) && (distinctB c.args)) with g250 | g250
            ·have g250p := g250
             try simp only [smpD] at g250p
             refine gT rfl rfl g250 (fd9 rfl ‹_› (fun p251 a252 => ?_))
             refine gT rfl rfl g250 (ld rfl ‹_› (gT rfl rfl g250 (eq9 rfl rfl ?_)))
             refine aT rfl rfl g250 ?_
             exact J253 _ (pk [212, 4, 208] rfl)
            ·refine gF rfl rfl g250 (gF rfl rfl g250 (gF rfl rfl g250 (aF (decide (c.bound = (0 : Int))) rfl rfl g250 ?_)))
             exact J253 _ (pk [212, 4, 208] rfl)
           refine sg rfl (ln (qc (rt (kq_retP rfl rfl (congrArg Value.bool ?_)))))
           exact conS_yes ‹_› (by first | (exfalso; omega) | (simp only [fitsB, *]; first | rfl | (simp; done) | (simp; ac_rfl)))
          ·refine sk (qc (cS (cr (sg rfl (ln (qc (rt (kq_retP rfl rfl (congrArg Value.bool ?_)))))))))
           exact conS_yes ‹_› (by first | (exfalso; omega) | (simp only [fitsB, *]; first | rfl | (simp; done) | (simp; ac_rfl)))
theorem svalidMod_ok {Hmd : Hp} {vmd : Value} {Hmc : Hp} {vmc : Value} (m : Mod) (hmd : Ints Hmd vmd m.doms) (hmc : Cons Hmc vmc m.cons) : SpecP Tryz.prog 32 [.agg #[vmd, vmc]] [Hmd, Hmc] (.bool (validModB m)) := by
 refine spec_of Tryz.func32 rfl rfl rfl (fun B => ?_)
 refine cS (cr (kl_box rfl rfl (fun p1 H2 f3 a4 => ?_)))
 refine sg rfl (ln (qc (cS (cS (cr (sg rfl (ln (qc (bl (kc_loop0 (A := Nat) (fun zz => (zz ≤ m.doms.length) ∧ ((m.doms.take zz).all validDomB = true)) (fun zz => m.doms.length - zz) (fun zz => [(3, .int .i64 (zz : Int))]) (0) (pc 1 rfl pn) (pc 3 rfl pn) ⟨Nat.zero_le _, by simp⟩ ?_))))))))))
 rintro k hJ7
 obtain ⟨hk5, hi6⟩ : (k ≤ m.doms.length) ∧ ((m.doms.take k).all validDomB = true) := hJ7
 change KC _ _ (_) _ _ ([(3, .int .i64 (k : Int))] ++ _)
 refine cS (cS (cr (mv rfl (fd9 rfl ‹_› (fun p8 a9 => ?_)))))
 refine ld rfl ‹_› (le9 rfl ‹_› (fun l10 => ?_))
 refine ls9 rfl rfl ?_
 refine ln (qc (ci9 rfl (fun c11 => ?_) (fun c11 => ?_)))
 ·refine sk (qc (cS (bl (cS (cr (fd9 rfl ‹_› (fun p12 a13 => ?_)))))))
  refine ld rfl ‹_› (mv rfl (kl_inI rfl rfl ‹_› (by omega) (fun p14 a15 => ?_)))
  refine ld rfl ‹_› (cP rfl rfl (validDomain_ok (m.doms.getD k 0)) ?_)
  refine nt9 rfl (ln (qc (cd9 rfl (fun c16 => ?_) (fun c16 => ?_))))
  ·have c16r := c16
   try simp only [smpE] at c16
   refine cS (cr (sg rfl (ln (qc (rt (kq_retP rfl rfl (congrArg Value.bool ?_)))))))
   exact validModB_d (k := k) (by omega) ‹_›
  ·have c16r := c16
   try simp only [smpE] at c16
   refine sk (qc (cr (mv rfl (ic9 rfl rfl (by omega) ?_))))
   refine sg rfl (ln (kq_round0 ((k + 1)) (by omega) (⟨by omega, all_take_step (d := 0) (by omega) hi6 ‹_›⟩) (pc 3 rfl pn) (pc 1 rfl pn) slr9))
 ·refine ex9 (qc (cS (cS (cr (sg rfl (ln (qc (bl (kc_loop0 (A := Nat) (fun zz => (zz ≤ m.cons.length) ∧ ((m.cons.take zz).all (fun c => validConS c m.doms.length) = true)) (fun zz => m.cons.length - zz) (fun zz => [(4, .int .i64 (zz : Int))]) (0) (pc 1 rfl pn) (pc 4 rfl pn) ⟨Nat.zero_le _, by simp⟩ ?_)))))))))
  rintro j hJ19
  obtain ⟨hk17, hi18⟩ : (j ≤ m.cons.length) ∧ ((m.cons.take j).all (fun c => validConS c m.doms.length) = true) := hJ19
  change KC _ _ (_) _ _ ([(4, .int .i64 (j : Int))] ++ _)
  refine cS (cS (cr (mv rfl (fd9 rfl ‹_› (fun p20 a21 => ?_)))))
  refine ld rfl ‹_› (le9 rfl ‹_› (fun l22 => ?_))
  refine ls9 rfl rfl ?_
  refine ln (qc (ci9 rfl (fun c23 => ?_) (fun c23 => ?_)))
  ·refine sk (qc (cS (bl (cS (kc_draw 10 [true, true, true, true, true, true, true, true, false, true] (by kernel_rfl) (by kernel_rfl) ?_)))))
   refine fd9 rfl ‹_› (fun p24 a25 => ?_)
   refine ld rfl ‹_› (mv rfl (kl_inC rfl rfl ‹_› (by omega) (fun p26 u28 u29 u30 h31 h32 h33 a27 => ?_)))
   refine kl_ldS rfl ‹_› rfl ?_
   refine fd9 rfl ‹_› (fun p34 a35 => ?_)
   refine ld rfl ‹_› (le9 rfl ‹_› (fun l36 => ?_))
   refine cP rfl rfl (svalidCon_ok (m.cons.getD j nilCon) (m.doms.length : Int) (by first | assumption | omega) ‹_› ‹_› ‹_›) ?_
   refine nt9 rfl (ln (qc (cd9 rfl (fun c37 => ?_) (fun c37 => ?_))))
   ·have c37r := c37
    try simp only [smpE] at c37
    refine cS (cr (sg rfl (ln (qc (rt (kq_retP rfl rfl (congrArg Value.bool ?_)))))))
    exact validModB_c (k := j) (by omega) ‹_›
   ·have c37r := c37
    try simp only [smpE] at c37
    refine sk (qc (cr (mv rfl (ic9 rfl rfl (by omega) ?_))))
    refine sg rfl (ln (kq_round0 ((j + 1)) (by omega) (⟨by omega, all_take_step (d := nilCon) (by omega) hi18 ‹_›⟩) (pc 4 rfl pn) (pc 1 rfl pn) slr9))
  ·refine ex9 (qc (cS (cr (fd9 rfl ‹_› (fun p38 a39 => ?_)))))
   refine ld rfl ‹_› (le9 rfl ‹_› (fun l40 => ?_))
   refine cP rfl rfl (inRange_ok (m.doms.length : Int) (1 : Int) (4 : Int)) ?_
   refine mv rfl (jn 5 45 (.bool ((withinB (m.doms.length : Int) (1 : Int) (4 : Int)) && decide ((m.cons.length : Int) ≤ (6 : Int)))) (pc 40 rfl pn) (fun J45 => ?_) ?_)
   ·rcases Bool.eq_false_or_eq_true (withinB (m.doms.length : Int) (1 : Int) (4 : Int)) with g41 | g41
    ·have g41p := g41
     try simp only [smpD] at g41p
     refine gT rfl rfl g41 (fd9 rfl ‹_› (fun p42 a43 => ?_))
     refine gT rfl rfl g41 (ld rfl ‹_› (gT rfl rfl g41 (le9 rfl ‹_› (fun l44 => ?_))))
     refine gT rfl rfl g41 (kl_leq rfl rfl ?_)
     refine aT rfl rfl g41 ?_
     exact J45 _ (pk [45, 40] rfl)
    ·refine gF rfl rfl g41 (gF rfl rfl g41 (gF rfl rfl g41 (gF rfl rfl g41 (aF (decide ((m.cons.length : Int) ≤ (6 : Int))) rfl rfl g41 ?_))))
     exact J45 _ (pk [45, 40] rfl)
   refine sg rfl (ln (qc (rt (kq_retP rfl rfl (congrArg Value.bool ?_)))))
   rw [List.take_of_length_le (by omega)] at *; exact validModB_all ‹_› ‹_›
end
section
theorem domainHas_ok (d : Int) (v : Int) : SpecP Tryz.prog 159 [.int .i64 d, .int .i64 v] [] (.bool (withinB v 0 5 && hasB d v)) := by
 refine spec_of Tryz.func159 rfl rfl rfl (fun B => ?_)
 refine cS (cr (sg rfl (ln (qc (cS (cr (mv rfl (cP rfl rfl (inRange_ok v (0 : Int) (5 : Int)) ?_))))))))
 refine mv rfl (jn 6 13 (.bool ((withinB v (0 : Int) (5 : Int)) && decide ((iand (ishr d v) (1 : Int)) = (1 : Int)))) (pk [4, 7] rfl) (fun J2 => ?_) ?_)
 ·rcases Bool.eq_false_or_eq_true (withinB v (0 : Int) (5 : Int)) with g1 | g1
  ·have g1p := g1
   try simp only [smpD] at g1p
   refine gT rfl rfl g1 (mv rfl (gT rfl rfl g1 (mv rfl (gT rfl rfl g1 (kl_shr rfl rfl (by omega) ?_)))))
   refine gT rfl rfl g1 (kl_and rfl rfl ?_)
   refine gT rfl rfl g1 (eq9 rfl rfl ?_)
   refine aT rfl rfl g1 ?_
   exact J2 _ (pk [13, 4, 7] rfl)
  ·refine gF rfl rfl g1 (gF rfl rfl g1 (gF rfl rfl g1 (gF rfl rfl g1 (gF rfl rfl g1 (aF (decide ((iand (ishr d v) (1 : Int)) = (1 : Int))) rfl rfl g1 ?_)))))
   exact J2 _ (pk [13, 4, 7] rfl)
 refine sg rfl (ln (qc (rt (kq_retP rfl rfl (congrArg Value.bool ?_)))))
 rfl
theorem domainValues_ok (d : Int) : Spec Tryz.prog 119 [.int .i64 d] [] (fun Hq vq => Ints Hq vq (valsI d)) := by
 refine spec_of Tryz.func119 rfl rfl rfl (fun B => ?_)
 refine cS (cr (sg rfl (ln (qc (cS (cr (kl_bsI [] rfl rfl rfl (by decide) (fun v1 H2 f3 o4 => ?_))))))))
 refine sg rfl (ln (qc (cS (cS (cr (sg rfl (ln (qc (bl (kc_loopL (A := Nat × List Int × Value × Hp) (fun zz => (zz.1 ≤ 6) ∧ (zz.2.1 = membersTo d zz.1) ∧ OwnL 3 1 zz.2.2.2 noHp IntV zz.2.2.1 zz.2.1 ∧ Fr B zz.2.2.2) (fun zz => 6 - zz.1) (fun zz => [zz.2.2.2]) (fun zz => [(4, .int .i64 (zz.1 : Int)), (3, zz.2.2.1)]) (0, ([]), v1, H2) (pk [0, 2] rfl) (pk [4, 3] rfl) rfl ⟨Nat.zero_le _, rfl, o4, f3⟩ ?_))))))))))
 rintro ⟨k, out, v10, H7⟩ hJ11
 obtain ⟨hk5, hi6, o8, f9⟩ : (k ≤ 6) ∧ (out = membersTo d k) ∧ OwnL 3 1 H7 noHp IntV v10 out ∧ Fr B H7 := hJ11
 change KC _ _ (_) [H7] _ ([(4, .int .i64 (k : Int)), (3, v10)] ++ _)
 refine cS (cS (cr (mv rfl (kl_leq rfl rfl ?_))))
 refine ln (qc (ci9 rfl (fun c12 => ?_) (fun c12 => ?_)))
 ·refine sk (qc (cS (bl (cS (cr (mv rfl (mv rfl (cP rfl rfl (domainHas_ok d (k : Int)) ?_))))))))
  refine ln (qc (cd9 rfl (fun c13 => ?_) (fun c13 => ?_)))
  ·have c13r := c13
   try simp only [smpE] at c13
   refine cr (mv rfl (mv rfl (bs9 rfl rfl rfl (by decide) (ca rfl ca_nil) (fun v14 H15 f16 r17 s18 => ?_))))
   have h19 : Ints H15 v14 [(k : Int)] := litInts (xs := [(k : Int)]) (by simpa using s18)
   refine aL9 (k : Int) rfl rfl o8 ‹_› rfl (oc rfl oc_nil) (by have := members_len hi6; omega) (by decide) (fun v20 H21 o22 f23 => ?_)
   have f24 := f23 B f9 (Nat.le_refl _)
   refine sg rfl (ln (qc (cr (mv rfl (ic9 rfl rfl (by omega) ?_)))))
   refine sg rfl (ln (rL ((k + 1), (out ++ [(k : Int)]), v20, H21) (by omega) (⟨by omega, (by first | exact members_stepT hi6 (dh_T ‹_›) | exact members_stepF hi6 (dh_F (by omega) ‹_›)), o22, f24⟩) (pk [4, 3] rfl) (pk [0, 2] rfl) rfl slr9))
  ·have c13r := c13
   try simp only [smpE] at c13
   refine sk (qc (cr (mv rfl (ic9 rfl rfl (by omega) ?_))))
   refine sg rfl (ln (rL ((k + 1), out, v10, H7) (by omega) (⟨by omega, (by first | exact members_stepT hi6 (dh_T ‹_›) | exact members_stepF hi6 (dh_F (by omega) ‹_›)), o8, f9⟩) (pk [4, 3] rfl) (pk [0, 2] rfl) rfl slr9))
 ·refine ex9 (qc (cS (cr (mv rfl (sg rfl (ln (qc (rt ?_))))))))
  have e9 : out = valsI d := by (have e : k = 6 := by omega); rw [hi6, e]; rfl
  exact kq_ret rfl rfl H7 f9 (e9 ▸ OwnL.ints o8)
theorem copyInts_ok {Hxs : Hp} {vxs : Value} (xs : List Int) (hb : xs.length ≤ 1048576) (hxs : Ints Hxs vxs xs) : Spec Tryz.prog 75 [vxs] [Hxs] (fun Hq vq => OwnL 3 1 Hq noHp IntV vq xs) := by
 refine spec_of Tryz.func75 rfl rfl rfl (fun B => ?_)
 refine cS (cr (sg rfl (ln (qc (cS (cr (kl_bsI [] rfl rfl rfl (by decide) (fun v1 H2 f3 o4 => ?_))))))))
 refine mv rfl (kl_apS rfl rfl o4 ‹_› (fun _ _ h => h) (by first | omega | (simp; omega)) (by decide) (fun v5 H6 o7 f8 => ?_))
 have f9 := f8 B f3 (Nat.le_refl _)
 refine sg rfl (ln (qc (rt ?_)))
 have e9 : ([] ++ xs) = xs := by simp
 exact kq_ret rfl rfl H6 f9 (e9 ▸ o7)
theorem hasEmpty_ok {Hxs : Hp} {vxs : Value} (xs : List Int) (hxs : Ints Hxs vxs xs) : SpecP Tryz.prog 118 [vxs] [Hxs] (.bool (xs.contains 0)) := by
 refine spec_of Tryz.func118 rfl rfl rfl (fun B => ?_)
 refine cS (cr (sg rfl (ln (qc (cS (cS (cr (sg rfl (ln (qc (bl (kc_loop0 (A := Nat) (fun zz => (zz ≤ xs.length) ∧ ((xs.take zz).any (fun y => decide (y = 0)) = false)) (fun zz => xs.length - zz) (fun zz => [(3, .int .i64 (zz : Int))]) (0) (pc 0 rfl pn) (pc 3 rfl pn) ⟨Nat.zero_le _, by simp⟩ ?_))))))))))))
 rintro k hJ3
 obtain ⟨hk1, hi2⟩ : (k ≤ xs.length) ∧ ((xs.take k).any (fun y => decide (y = 0)) = false) := hJ3
 change KC _ _ (_) _ _ ([(3, .int .i64 (k : Int))] ++ _)
 refine cS (cS (cr (mv rfl (mv rfl (le9 rfl ‹_› (fun l4 => ?_))))))
 refine ls9 rfl rfl ?_
 refine ln (qc (ci9 rfl (fun c5 => ?_) (fun c5 => ?_)))
 ·refine sk (qc (cS (bl (cS (cr (mv rfl (mv rfl (kl_inI rfl rfl ‹_› (by omega) (fun p6 a7 => ?_)))))))))
  refine ld rfl ‹_› (eq9 rfl rfl ?_)
  refine ln (qc (ci9 rfl (fun c8 => ?_) (fun c8 => ?_)))
  ·refine cS (cr (sg rfl (ln (qc (rt (kq_retP rfl rfl (congrArg Value.bool ?_)))))))
   exact contains_hit (k := k) (by omega) ‹_›
  ·refine sk (qc (cr (mv rfl (ic9 rfl rfl (by omega) ?_))))
   refine sg rfl (ln (kq_round0 ((k + 1)) (by omega) (⟨by omega, any_take_step (d := 0) (by omega) hi2 (by simpa using by assumption)⟩) (pc 3 rfl pn) (pc 0 rfl pn) slr9))
 ·refine ex9 (qc (cS (cr (sg rfl (ln (qc (rt (kq_retP rfl rfl (congrArg Value.bool ?_)))))))))
  exact contains_none (by omega) ‹_›
theorem svalue_ok {Ha : Hp} {va : Value} {Hx : Hp} {vx : Value} (a : List Int) (x : List Int) (hA : Coef a) (hX : Vals x) (hl : a.length = x.length) (h4 : x.length ≤ 4) (ha : Ints Ha va a) (hx : Ints Hx vx x) : SpecP Tryz.prog 35 [va, vx] [Ha, Hx] (.int .i64 (dotTo a x x.length)) := by
 refine spec_of Tryz.func35 rfl rfl rfl (fun B => ?_)
 refine cS (cr (sg rfl (ln (qc (cS (cr (sg rfl (ln (qc (cS (cS (cr (sg rfl (ln (qc ?_)))))))))))))))
 refine bl (kc_loop0 (A := Nat × Int) (fun zz => (zz.1 ≤ x.length) ∧ (zz.2 = dotTo a x zz.1)) (fun zz => x.length - zz.1) (fun zz => [(6, .int .i64 (zz.1 : Int)), (5, .int .i64 zz.2)]) (0, (0 : Int)) (pk [0, 1, 4] rfl) (pk [6, 5] rfl) ⟨Nat.zero_le _, rfl⟩ ?_)
 rintro ⟨k, s⟩ hJ3
 obtain ⟨hk1, hi2⟩ : (k ≤ x.length) ∧ (s = dotTo a x k) := hJ3
 change KC _ _ (_) _ _ ([(6, .int .i64 (k : Int)), (5, .int .i64 s)] ++ _)
 refine cS (cS (cr (mv rfl (mv rfl (le9 rfl ‹_› (fun l4 => ?_))))))
 refine ls9 rfl rfl ?_
 refine ln (qc (ci9 rfl (fun c5 => ?_) (fun c5 => ?_)))
 ·have h1 := hA.at (k := k) (by omega)
  have h2 := hX.at (k := k) (by omega)
  have h3 := prod_le h1 h2
  have h5 := dot_le hA hX k (by omega) (by omega)
  refine sk (qc (cS (bl (kc_draw 12 [true, true, true, true, true, true, true, true, true, true, true, true] (by kernel_rfl) (by kernel_rfl) ?_))))
  refine mv rfl (mv rfl (mv rfl (kl_inI rfl rfl ‹_› (by omega) (fun p6 a7 => ?_))))
  refine ld rfl ‹_› (mv rfl (mv rfl (kl_inI rfl rfl ‹_› (by omega) (fun p8 a9 => ?_))))
  refine ld rfl ‹_› (kl_mul rfl rfl (by omega) ?_)
  refine ad9 rfl rfl (by omega) ?_
  refine sg rfl (ln (qc (cr (mv rfl (ic9 rfl rfl (by omega) ?_)))))
  refine sg rfl (ln (kq_round0 ((k + 1), (s + ((a.getD k 0) * (x.getD k 0)))) (by omega) (⟨by omega, (by rw [dot_succ, ← hi2])⟩) (pk [6, 5] rfl) (pk [0, 1, 4] rfl) slr9))
 ·refine ex9 (qc (cS (cr (mv rfl (sg rfl (ln (qc (rt (kq_retP rfl rfl (congrArg (Value.int .i64) ?_))))))))))
  rw [show x.length = k from by omega]; exact hi2
theorem capacity_ok {Hcv : Hp} {vcv : Value} {Hca : Hp} {vca : Value} {Hcr : Hp} {vcr : Value} {Hx : Hp} {vx : Value} (c : Con) (x : List Int) (hs : SatOk c x) (hk : c.kind = 7) (hcv : Ints Hcv vcv c.vars) (hca : Ints Hca vca c.args) (hcr : Rows Hcr vcr c.rows) (hx : Ints Hx vx x) : SpecP Tryz.prog 210 [.agg #[.int .i64 c.kind, vcv, vca, .int .i64 c.bound, vcr], vx] [Hcv, Hca, Hcr, Hx] (.bool (roomB c x)) := by
 have h7 := hs.k7 hk
 have h4 := hs.four
 refine spec_of Tryz.func210 rfl rfl rfl (fun B => ?_)
 refine cS (cr (kl_box rfl rfl (fun p1 H2 f3 a4 => ?_)))
 refine sg rfl (ln (qc (cS (cr (mv rfl (le9 rfl ‹_› (fun l5 => ?_)))))))
 refine sg rfl (ln (qc (cS (cS (cr (sg rfl (ln (qc (bl (kc_loop0 (A := Nat) (fun zz => (zz ≤ 15) ∧ (roomTo c x zz = true)) (fun zz => 15 - zz) (fun zz => [(6, .int .i64 (zz : Int))]) (0) (pk [1, 2, 5] rfl) (pc 6 rfl pn) ⟨Nat.zero_le _, rfl⟩ ?_))))))))))
 rintro k hJ8
 obtain ⟨hk6, hi7⟩ : (k ≤ 15) ∧ (roomTo c x k = true) := hJ8
 change KC _ _ (_) _ _ ([(6, .int .i64 (k : Int))] ++ _)
 refine cS (cS (cr (mv rfl (kl_leq rfl rfl ?_))))
 refine ln (qc (ci9 rfl (fun c9 => ?_) (fun c9 => ?_)))
 ·refine sk (qc (cS (bl (cS (cr (sg rfl (ln (qc (cS (cS (cr ?_)))))))))))
  refine sg rfl (ln (qc (bl (kc_loop0 (A := Nat × Int) (fun zz => (zz.1 ≤ x.length) ∧ (zz.2 = loadTo c.args x k zz.1)) (fun zz => x.length - zz.1) (fun zz => [(8, .int .i64 (zz.1 : Int)), (7, .int .i64 zz.2)]) (0, (0 : Int)) (pk [1, 2, 5, 6, 11, 12] rfl) (pk [8, 7] rfl) ⟨Nat.zero_le _, rfl⟩ ?_))))
  rintro ⟨i, s⟩ hJ12
  obtain ⟨hk10, hi11⟩ : (i ≤ x.length) ∧ (s = loadTo c.args x k i) := hJ12
  change KC _ _ (_) _ _ ([(8, .int .i64 (i : Int)), (7, .int .i64 s)] ++ _)
  refine cS (cS (cr (mv rfl (mv rfl (ls9 rfl rfl ?_)))))
  refine ln (qc (ci9 rfl (fun c13 => ?_) (fun c13 => ?_)))
  ·have hl := load_le (x := x) h7.2 (by omega) k i (by omega)
   have hx1 := hs.val.at (k := i) (by omega)
   have ha1 := h7.2 _ (getD_mem (d := (0 : Int)) (by omega : i < c.args.length))
   refine sk (qc (cS (bl (cS (kc_draw 20 [true, true, true, true, true, true, true, true, true, true, true, true, true, true, true, true, true, true, true, true] (by kernel_rfl) (by kernel_rfl) ?_)))))
   refine mv rfl (mv rfl (mv rfl (kl_inI rfl rfl ‹_› (by omega) (fun p14 a15 => ?_))))
   refine ld rfl ‹_› (kl_geq rfl rfl ?_)
   refine mv rfl (jn 13 39 (.bool (decide ((x.getD i 0) ≤ (k : Int)) && decide ((k : Int) < ((x.getD i 0) + (c.args.getD i 0))))) (pk [1, 2, 5, 6, 7, 8, 11, 12, 15, 16, 17, 20, 21, 22, 23, 24, 25, 26] rfl) (fun J23 => ?_) ?_)
   ·rcases Bool.eq_false_or_eq_true (decide ((x.getD i 0) ≤ (k : Int))) with g16 | g16
    ·have g16p := of_decide_eq_true g16
     refine gT rfl rfl g16 (mv rfl (gT rfl rfl g16 (mv rfl (gT rfl rfl g16 (mv rfl (gT rfl rfl g16 (kl_inI rfl rfl ‹_› (by omega) (fun p17 a18 => ?_))))))))
     refine gT rfl rfl g16 (ld rfl ‹_› (gT rfl rfl g16 (fd9 rfl ‹_› (fun p19 a20 => ?_))))
     refine gT rfl rfl g16 (ld rfl ‹_› (gT rfl rfl g16 (mv rfl (gT rfl rfl g16 (kl_inI rfl rfl ‹_› (by omega) (fun p21 a22 => ?_))))))
     refine gT rfl rfl g16 (ld rfl ‹_› (gT rfl rfl g16 (ad9 rfl rfl (by omega) ?_)))
     refine gT rfl rfl g16 (ls9 rfl rfl ?_)
     refine aT rfl rfl g16 ?_
     exact J23 _ (pk [39, 1, 2, 5, 6, 7, 8, 11, 12, 15, 16, 17, 20, 21, 22, 23, 24, 25, 26] rfl)
    ·refine gF rfl rfl g16 (gF rfl rfl g16 (gF rfl rfl g16 (gF rfl rfl g16 (gF rfl rfl g16 (gF rfl rfl g16 (gF rfl rfl g16 (gF rfl rfl g16 (gF rfl rfl g16 ?_))))))))
     refine gF rfl rfl g16 (gF rfl rfl g16 (gF rfl rfl g16 (aF (decide ((k : Int) < ((x.getD i 0) + (c.args.getD i 0)))) rfl rfl g16 ?_)))
     exact J23 _ (pk [39, 1, 2, 5, 6, 7, 8, 11, 12, 15, 16, 17, 20, 21, 22, 23, 24, 25, 26] rfl)
   refine ln (qc (cd9 rfl (fun c24 => ?_) (fun c24 => ?_)))
   ·have c24r := c24
    try simp only [smpE] at c24
    have ha2 := h7.2 _ (getD_mem (d := (0 : Int)) (by omega : x.length + i < c.args.length))
    refine cr (mv rfl (fd9 rfl ‹_› (fun p25 a26 => ?_)))
    refine ld rfl ‹_› (mv rfl (mv rfl (kl_addN rfl rfl (by omega) ?_)))
    refine kl_inI rfl rfl ‹_› (by omega) (fun p27 a28 => ?_)
    refine ld rfl ‹_› (ad9 rfl rfl (by omega) ?_)
    refine sg rfl (ln (qc (cr (mv rfl (ic9 rfl rfl (by omega) ?_)))))
    refine sg rfl (ln (kq_round0 ((i + 1), (s + (c.args.getD (x.length + i) 0))) (by omega) (⟨by omega, (by first | exact load_stepT hi11 ‹_› | exact load_stepF hi11 ‹_›)⟩) (pk [8, 7] rfl) (pk [1, 2, 5, 6, 11, 12] rfl) slr9))
   ·have c24r := c24
    try simp only [smpE] at c24
    refine sk (qc (cr (mv rfl (ic9 rfl rfl (by omega) ?_))))
    refine sg rfl (ln (kq_round0 ((i + 1), s) (by omega) (⟨by omega, (by first | exact load_stepT hi11 ‹_› | exact load_stepF hi11 ‹_›)⟩) (pk [8, 7] rfl) (pk [1, 2, 5, 6, 11, 12] rfl) slr9))
  ·refine ex9 (qc (cS (cr (mv rfl (fd9 rfl ‹_› (fun p29 a30 => ?_))))))
   refine ld rfl ‹_› (kl_gtr rfl rfl ?_)
   refine ln (qc (ci9 rfl (fun c31 => ?_) (fun c31 => ?_)))
   ·refine cS (cr (sg rfl (ln (qc (rt (kq_retP rfl rfl (congrArg Value.bool ?_)))))))
    exact room_no' (k := k) (by omega) hi11 (by omega) ‹_›
   ·refine sk (qc (cr (mv rfl (ic9 rfl rfl (by omega) ?_))))
    refine sg rfl (ln (kq_round0 ((k + 1)) (by omega) (⟨by omega, room_step hi7 hi11 (by omega) ‹_›⟩) (pc 6 rfl pn) (pk [1, 2, 5] rfl) slr9))
 ·refine ex9 (qc (cS (cr (sg rfl (ln (qc (rt (kq_retP rfl rfl (congrArg Value.bool ?_)))))))))
  exact room_yes hi7 (by omega)
theorem saccepts_ok {Hcv : Hp} {vcv : Value} {Hca : Hp} {vca : Value} {Hcr : Hp} {vcr : Value} {Hx : Hp} {vx : Value} (c : Con) (x : List Int) (hs : SatOk c x) (hk : c.kind = 8) (hcv : Ints Hcv vcv c.vars) (hca : Ints Hca vca c.args) (hcr : Rows Hcr vcr c.rows) (hx : Ints Hx vx x) : SpecP Tryz.prog 211 [.agg #[.int .i64 c.kind, vcv, vca, .int .i64 c.bound, vcr], vx] [Hcv, Hca, Hcr, Hx] (.bool (accB c x)) := by
 have h8 := hs.k8 hk
 have h8r := hs.k8r hk
 refine spec_of Tryz.func211 rfl rfl rfl (fun B => ?_)
 refine cS (cr (kl_box rfl rfl (fun p1 H2 f3 a4 => ?_)))
 refine sg rfl (ln (qc (cS (cr (sg rfl (ln (qc (cS (cS (cr (sg rfl (ln (qc (bl ?_))))))))))))))
 refine kc_loop0 (A := Nat × Int) (fun zz => (zz.1 ≤ x.length) ∧ (0 ≤ zz.2 ∧ zz.2 < c.rows.length ∧ accGo c.rows zz.2 (x.drop zz.1) = accGo c.rows 0 x)) (fun zz => x.length - zz.1) (fun zz => [(6, .int .i64 (zz.1 : Int)), (5, .int .i64 zz.2)]) (0, (0 : Int)) (pk [1, 2] rfl) (pk [6, 5] rfl) ⟨Nat.zero_le _, ⟨by dsimp only; omega, by dsimp only; omega, by simp⟩⟩ ?_
 rintro ⟨k, s⟩ hJ7
 obtain ⟨hk5, hi6⟩ : (k ≤ x.length) ∧ (0 ≤ s ∧ s < c.rows.length ∧ accGo c.rows s (x.drop k) = accGo c.rows 0 x) := hJ7
 change KC _ _ (_) _ _ ([(6, .int .i64 (k : Int)), (5, .int .i64 s)] ++ _)
 refine cS (cS (cr (mv rfl (mv rfl (le9 rfl ‹_› (fun l8 => ?_))))))
 refine ls9 rfl rfl ?_
 refine ln (qc (ci9 rfl (fun c9 => ?_) (fun c9 => ?_)))
 ·have hr := h8.2 _ (getD_mem (d := ([] : List Int)) (by omega : s.toNat < c.rows.length))
  have hx1 := hs.val.at (k := k) (by omega)
  refine sk (qc (cS (bl (cS (kc_draw 12 [true, true, true, true, true, true, true, true, true, true, true, true] (by kernel_rfl) (by kernel_rfl) ?_)))))
  refine fd9 rfl ‹_› (fun p10 a11 => ?_)
  refine ld rfl ‹_› (mv rfl (kl_ixS rfl rfl ‹_› (by omega) (by omega) (fun p12 u14 h15 a13 => ?_)))
  refine ld rfl ‹_› (mv rfl (mv rfl (kl_inI rfl rfl ‹_› (by omega) (fun p16 a17 => ?_))))
  refine ld rfl ‹_› (kl_ixI rfl rfl ‹_› (by omega) (by omega) (fun p18 a19 => ?_))
  refine ld rfl ‹_› (sg rfl (ln (qc (cS (cr (mv rfl (ls9 rfl rfl ?_)))))))
  refine ln (qc (ci9 rfl (fun c20 => ?_) (fun c20 => ?_)))
  ·refine cS (cr (sg rfl (ln (qc (rt (kq_retP rfl rfl (congrArg Value.bool ?_)))))))
   exact acc_no (k := k) (by omega) hi6.2.2 ‹_›
  ·refine sk (qc (cr (mv rfl (ic9 rfl rfl (by omega) ?_))))
   refine sg rfl (ln (kq_round0 ((k + 1), ((c.rows.getD s.toNat []).getD (x.getD k 0).toNat 0)) (by omega) (⟨by omega, acc_step h8r (by omega) ⟨hi6.1, hi6.2.1⟩ hx1 hi6.2.2 ‹_›⟩) (pk [6, 5] rfl) (pk [1, 2] rfl) slr9))
 ·refine ex9 (qc (cS (cS (cr (sg rfl (ln (qc (bl (kc_loop0 (A := Nat) (fun zz => (zz ≤ c.args.length) ∧ ((c.args.take zz).any (fun y => decide (y = s)) = false)) (fun zz => c.args.length - zz) (fun zz => [(7, .int .i64 (zz : Int))]) (0) (pk [2, 5] rfl) (pc 7 rfl pn) ⟨Nat.zero_le _, by simp⟩ ?_)))))))))
  rintro j hJ23
  obtain ⟨hk21, hi22⟩ : (j ≤ c.args.length) ∧ ((c.args.take j).any (fun y => decide (y = s)) = false) := hJ23
  change KC _ _ (_) _ _ ([(7, .int .i64 (j : Int))] ++ _)
  refine cS (cS (cr (mv rfl (fd9 rfl ‹_› (fun p24 a25 => ?_)))))
  refine ld rfl ‹_› (le9 rfl ‹_› (fun l26 => ?_))
  refine ls9 rfl rfl ?_
  refine ln (qc (ci9 rfl (fun c27 => ?_) (fun c27 => ?_)))
  ·refine sk (qc (cS (bl (cS (cr (fd9 rfl ‹_› (fun p28 a29 => ?_)))))))
   refine ld rfl ‹_› (mv rfl (kl_inI rfl rfl ‹_› (by omega) (fun p30 a31 => ?_)))
   refine ld rfl ‹_› (mv rfl (eq9 rfl rfl ?_))
   refine ln (qc (ci9 rfl (fun c32 => ?_) (fun c32 => ?_)))
   ·refine cS (cr (sg rfl (ln (qc (rt (kq_retP rfl rfl (congrArg Value.bool ?_)))))))
    rw [← acc_yes (k := k) (by omega) hi6.1 hi6.2.2]; exact contains_hit (k := j) (by omega) ‹_›
   ·refine sk (qc (cr (mv rfl (ic9 rfl rfl (by omega) ?_))))
    refine sg rfl (ln (kq_round0 ((j + 1)) (by omega) (⟨by omega, any_take_step (d := 0) (by omega) hi22 (by simpa using by assumption)⟩) (pc 7 rfl pn) (pk [2, 5] rfl) slr9))
  ·refine ex9 (qc (cS (cr (sg rfl (ln (qc (rt (kq_retP rfl rfl (congrArg Value.bool ?_)))))))))
   rw [← acc_yes (k := k) (by omega) hi6.1 hi6.2.2]; exact contains_none (by omega) ‹_›
theorem circuit_ok {Hx : Hp} {vx : Value} (x : List Int) (h1 : 1 ≤ x.length) (hv : Vals x) (hx : Ints Hx vx x) : SpecP Tryz.prog 212 [vx] [Hx] (.bool (cycB x)) := by
 refine spec_of Tryz.func212 rfl rfl rfl (fun B => ?_)
 refine cS (cr (sg rfl (ln (qc (cS (cr (sg rfl (ln (qc (cS (cS (cr (sg rfl (ln (qc ?_)))))))))))))))
 refine bl (kc_loop0 (A := Nat × Int) (fun zz => (1 ≤ zz.1 ∧ zz.1 ≤ x.length + 1) ∧ (0 ≤ zz.2 ∧ zz.2 < x.length ∧ cycSGo x (x.length + 1 - zz.1) zz.2 (zz.1 : Int) = cycB x)) (fun zz => (x.length + 1) - zz.1) (fun zz => [(4, .int .i64 (zz.1 : Int)), (3, .int .i64 zz.2)]) (1, (0 : Int)) (pc 0 rfl pn) (pk [4, 3] rfl) ⟨by constructor <;> omega, ⟨by dsimp only; omega, by dsimp only; omega, rfl⟩⟩ ?_)
 rintro ⟨k, a⟩ hJ3
 obtain ⟨hk1, hi2⟩ : (1 ≤ k ∧ k ≤ x.length + 1) ∧ (0 ≤ a ∧ a < x.length ∧ cycSGo x (x.length + 1 - k) a (k : Int) = cycB x) := hJ3
 change KC _ _ (_) _ _ ([(4, .int .i64 (k : Int)), (3, .int .i64 a)] ++ _)
 refine cS (cS (cr (mv rfl (mv rfl (le9 rfl ‹_› (fun l4 => ?_))))))
 refine kl_leq rfl rfl ?_
 refine ln (qc (ci9 rfl (fun c5 => ?_) (fun c5 => ?_)))
 ·refine sk (qc (cS (bl (cS (cS (cr (mv rfl (mv rfl (kl_ixI rfl rfl ‹_› (by omega) (by omega) (fun p6 a7 => ?_))))))))))
  refine ld rfl ‹_› (mv rfl (le9 rfl ‹_› (fun l8 => ?_)))
  refine kl_geq rfl rfl ?_
  refine ln (qc (ci9 rfl (fun c9 => ?_) (fun c9 => ?_)))
  ·refine cS (cr (sg rfl (ln (qc (rt (kq_retP rfl rfl (congrArg Value.bool ?_)))))))
   (have h := cycS_at hi2.2.2 (by omega); rw [if_pos ‹_›] at h; exact h.symm)
  ·refine sk (qc (cS (cr (mv rfl (mv rfl (kl_ixI rfl rfl ‹_› (by omega) (by omega) (fun p10 a11 => ?_)))))))
   refine ld rfl ‹_› (sg rfl (ln (qc (cS (cr (mv rfl (eq9 rfl rfl ?_)))))))
   refine ln (qc (ci9 rfl (fun c12 => ?_) (fun c12 => ?_)))
   ·refine cS (cr (mv rfl (mv rfl (le9 rfl ‹_› (fun l13 => ?_)))))
    refine eq9 rfl rfl ?_
    refine sg rfl (ln (qc (rt (kq_retP rfl rfl (congrArg Value.bool ?_)))))
    (have h := cycS_at hi2.2.2 (by omega); rw [if_neg ‹_›, if_pos ‹_›] at h; exact h.symm)
   ·refine sk (qc (cr (mv rfl (ic9 rfl rfl (by omega) ?_))))
    refine sg rfl (ln (kq_round0 ((k + 1), (x.getD a.toNat 0)) (by omega) (⟨by constructor <;> omega, (by have h := cycS_at hi2.2.2 (by omega); rw [if_neg ‹_›, if_neg ‹_›] at h; exact ⟨(hv _ (getD_mem (by omega))).1, by omega, h.symm⟩)⟩) (pk [4, 3] rfl) (pc 0 rfl pn) slr9))
 ·refine ex9 (qc (cS (cr (sg rfl (ln (qc (rt (kq_retP rfl rfl (congrArg Value.bool ?_)))))))))
  exact cycS_0 hi2.2.2 ‹_›
theorem hasRow_ok {Hrows : Hp} {vrows : Value} {Hx : Hp} {vx : Value} (rows : List (List Int)) (x : List Int) (hr : ∀ r ∈ rows, r.length = x.length) (hrows : Rows Hrows vrows rows) (hx : Ints Hx vx x) : SpecP Tryz.prog 209 [vrows, vx] [Hrows, Hx] (.bool (rows.any (fun r => decide (r = x)))) := by
 refine spec_of Tryz.func209 rfl rfl rfl (fun B => ?_)
 refine cS (cr (sg rfl (ln (qc (cS (cS (cr (sg rfl (ln (qc (bl (kc_loop0 (A := Nat) (fun zz => (zz ≤ rows.length) ∧ ((rows.take zz).any (fun r => decide (r = x)) = false)) (fun zz => rows.length - zz) (fun zz => [(5, .int .i64 (zz : Int))]) (0) (pk [0, 1] rfl) (pc 5 rfl pn) ⟨Nat.zero_le _, by simp⟩ ?_))))))))))))
 rintro k hJ3
 obtain ⟨hk1, hi2⟩ : (k ≤ rows.length) ∧ ((rows.take k).any (fun r => decide (r = x)) = false) := hJ3
 change KC _ _ (_) _ _ ([(5, .int .i64 (k : Int))] ++ _)
 refine cS (cS (cr (mv rfl (mv rfl (le9 rfl ‹_› (fun l4 => ?_))))))
 refine ls9 rfl rfl ?_
 refine ln (qc (ci9 rfl (fun c5 => ?_) (fun c5 => ?_)))
 ·have hr1 := hr _ (getD_mem (d := ([] : List Int)) (by omega : k < rows.length))
  refine sk (qc (cS (bl (cS (cr (sg rfl (ln (qc (cS (cS (cr ?_)))))))))))
  refine sg rfl (ln (qc (bl (kc_loop0 (A := Nat × Bool) (fun zz => (zz.1 ≤ x.length) ∧ (zz.2 = decide ((rows.getD k []).take zz.1 = x.take zz.1))) (fun zz => x.length - zz.1) (fun zz => [(7, .int .i64 (zz.1 : Int)), (6, .bool zz.2)]) (0, true) (pk [0, 1, 5, 8, 9, 10, 11] rfl) (pk [7, 6] rfl) ⟨Nat.zero_le _, by simp⟩ ?_))))
  rintro ⟨j, b⟩ hJ8
  obtain ⟨hk6, hi7⟩ : (j ≤ x.length) ∧ (b = decide ((rows.getD k []).take j = x.take j)) := hJ8
  change KC _ _ (_) _ _ ([(7, .int .i64 (j : Int)), (6, .bool b)] ++ _)
  refine cS (cS (cr (mv rfl (mv rfl (le9 rfl ‹_› (fun l9 => ?_))))))
  refine ls9 rfl rfl ?_
  refine ln (qc (ci9 rfl (fun c10 => ?_) (fun c10 => ?_)))
  ·refine sk (qc (cS (bl (kc_draw 16 [true, true, true, true, true, true, true, true, true, true, true, true, true, true, true, true] (by kernel_rfl) (by kernel_rfl) ?_))))
   refine mv rfl (mv rfl (jn 13 34 (.bool (b && decide (((rows.getD k []).getD j 0) = (x.getD j 0)))) (pk [0, 1, 5, 6, 7, 8, 9, 10, 11, 14, 15, 16, 17, 20, 21] rfl) (fun J20 => ?_) ?_))
   ·rcases Bool.eq_false_or_eq_true b with g11 | g11
    ·have g11p := g11
     try simp only [smpD] at g11p
     refine gT rfl rfl g11 (mv rfl (gT rfl rfl g11 (mv rfl (gT rfl rfl g11 (kl_inS rfl rfl ‹_› (by omega) (fun p12 u14 h15 a13 => ?_))))))
     refine gT rfl rfl g11 (ld rfl ‹_› (gT rfl rfl g11 (mv rfl (gT rfl rfl g11 (kl_inI rfl rfl ‹_› (by omega) (fun p16 a17 => ?_))))))
     refine gT rfl rfl g11 (ld rfl ‹_› (gT rfl rfl g11 (mv rfl (gT rfl rfl g11 (mv rfl (gT rfl rfl g11 (kl_inI rfl rfl ‹_› (by omega) (fun p18 a19 => ?_))))))))
     refine gT rfl rfl g11 (ld rfl ‹_› (gT rfl rfl g11 (eq9 rfl rfl ?_)))
     refine aT rfl rfl g11 ?_
     exact J20 _ (pk [34, 0, 1, 5, 6, 7, 8, 9, 10, 11, 14, 15, 16, 17, 20, 21] rfl)
    ·refine gF rfl rfl g11 (gF rfl rfl g11 (gF rfl rfl g11 (gF rfl rfl g11 (gF rfl rfl g11 (gF rfl rfl g11 (gF rfl rfl g11 (gF rfl rfl g11 (gF rfl rfl g11 ?_))))))))
     refine gF rfl rfl g11 (gF rfl rfl g11 (gF rfl rfl g11 (aF (decide (((rows.getD k []).getD j 0) = (x.getD j 0))) rfl rfl g11 ?_)))
     exact J20 _ (pk [34, 0, 1, 5, 6, 7, 8, 9, 10, 11, 14, 15, 16, 17, 20, 21] rfl)
   refine sg rfl (ln (qc (cr (mv rfl (ic9 rfl rfl (by omega) ?_)))))
   refine sg rfl (ln (kq_round0 ((j + 1), (b && decide (((rows.getD k []).getD j 0) = (x.getD j 0)))) (by omega) (⟨by omega, row_step (by omega) hr1 hi7⟩) (pk [7, 6] rfl) (pk [0, 1, 5, 8, 9, 10, 11] rfl) slr9))
  ·refine ex9 (qc (cS (cr (mv rfl (ln (qc (cd9 rfl (fun c21 => ?_) (fun c21 => ?_))))))))
   ·have c21r := c21
    try simp only [smpE] at c21
    refine cS (cr (sg rfl (ln (qc (rt (kq_retP rfl rfl (congrArg Value.bool ?_)))))))
    exact (any_true (d := []) (k := k) (by omega) (row_eq (by omega) hr1 hi7 ‹_›)).symm
   ·have c21r := c21
    try simp only [smpE] at c21
    refine sk (qc (cr (mv rfl (ic9 rfl rfl (by omega) ?_))))
    refine sg rfl (ln (kq_round0 ((k + 1)) (by omega) (⟨by omega, any_take_step (d := []) (by omega) hi2 (row_neq (by omega) hr1 hi7 ‹_›)⟩) (pc 5 rfl pn) (pk [0, 1] rfl) slr9))
 ·refine ex9 (qc (cS (cr (sg rfl (ln (qc (rt (kq_retP rfl rfl (congrArg Value.bool ?_)))))))))
  rw [List.take_of_length_le (by omega)] at *; exact (by assumption : rows.any (fun r => decide (r = x)) = false).symm
theorem satisfies_ok {Hcv : Hp} {vcv : Value} {Hca : Hp} {vca : Value} {Hcr : Hp} {vcr : Value} {Hx : Hp} {vx : Value} (c : Con) (x : List Int) (hs : SatOk c x) (hcv : Ints Hcv vcv c.vars) (hca : Ints Hca vca c.args) (hcr : Rows Hcr vcr c.rows) (hx : Ints Hx vx x) : SpecP Tryz.prog 195 [.agg #[.int .i64 c.kind, vcv, vca, .int .i64 c.bound, vcr], vx] [Hcv, Hca, Hcr, Hx] (.bool (satB c x)) := by
 have h4 := hs.four
 have h1 := hs.one
 refine spec_of Tryz.func195 rfl rfl rfl (fun B => ?_)
 refine cS (cr (kl_box rfl rfl (fun p1 H2 f3 a4 => ?_)))
 refine sg rfl (ln (qc (cS (cS (cr (fd9 rfl ‹_› (fun p5 a6 => ?_)))))))
 refine ld rfl ‹_› (ln (qc (bl (cS (cr (eq9 rfl rfl ?_))))))
 refine sg rfl (ln (qc (ci9 rfl (fun c7 => ?_) (fun c7 => ?_))))
 ·have hk := hs.k1 c7
  refine cS (cr (sg rfl (ln (qc (cS (cS (cr (sg rfl (ln (qc (bl (kc_loop0 (A := Nat × Int) (fun zz => (zz.1 ≤ x.length) ∧ (zz.2 = dotTo c.args x zz.1)) (fun zz => x.length - zz.1) (fun zz => [(6, .int .i64 (zz.1 : Int)), (5, .int .i64 zz.2)]) (0, (0 : Int)) (pk [1, 2, 4] rfl) (pk [6, 5] rfl) ⟨Nat.zero_le _, rfl⟩ ?_))))))))))))
  rintro ⟨k, s⟩ hJ10
  obtain ⟨hk8, hi9⟩ : (k ≤ x.length) ∧ (s = dotTo c.args x k) := hJ10
  change KC _ _ (_) _ _ ([(6, .int .i64 (k : Int)), (5, .int .i64 s)] ++ _)
  refine cS (cS (cr (mv rfl (mv rfl (le9 rfl ‹_› (fun l11 => ?_))))))
  refine ls9 rfl rfl ?_
  refine ln (qc (ci9 rfl (fun c12 => ?_) (fun c12 => ?_)))
  ·try (
    have ha1 := hk.2.at (k := k) (by omega)
    have hx1 := hs.val.at (k := k) (by omega)
    have h3 := prod_le ha1 hx1
    have h5 := dot_le hk.2 hs.val k (by omega) (by omega))
   refine sk (qc (cS (bl (kc_draw 13 [true, true, true, true, true, true, true, true, true, true, true, true, true] (by kernel_rfl) (by kernel_rfl) ?_))))
   refine mv rfl (fd9 rfl ‹_› (fun p13 a14 => ?_))
   refine ld rfl ‹_› (mv rfl (kl_inI rfl rfl ‹_› (by omega) (fun p15 a16 => ?_)))
   refine ld rfl ‹_› (mv rfl (mv rfl (kl_inI rfl rfl ‹_› (by omega) (fun p17 a18 => ?_))))
   refine ld rfl ‹_› (kl_mul rfl rfl (by omega) ?_)
   refine ad9 rfl rfl (by omega) ?_
   refine sg rfl (ln (qc (cr (mv rfl (ic9 rfl rfl (by omega) ?_)))))
   refine sg rfl (ln (kq_round0 ((k + 1), (s + ((c.args.getD k 0) * (x.getD k 0)))) (by omega) (⟨by omega, (by rw [dot_succ, ← hi9])⟩) (pk [6, 5] rfl) (pk [1, 2, 4] rfl) slr9))
  ·refine ex9 (qc (cS (cr (mv rfl (fd9 rfl ‹_› (fun p19 a20 => ?_))))))
   refine ld rfl ‹_› (kl_leq rfl rfl ?_)
   refine sg rfl (ln (qc (rt (kq_retP rfl rfl (congrArg Value.bool ?_)))))
   rw [sat_1 ‹_›, hi9, show k = x.length from by omega]
 ·refine cS (cr (eq9 rfl rfl ?_))
  refine sg rfl (ln (qc (ci9 rfl (fun c21 => ?_) (fun c21 => ?_))))
  ·have hk := hs.k2 c21
   have hk1 := hs.val.at (k := 1) (by omega)
   have hk2 := hk.2.2.at (k := 0) (by omega)
   refine cS (kc_draw 13 [true, true, true, true, true, true, true, true, true, true, true, true, true] (by kernel_rfl) (by kernel_rfl) ?_)
   refine mv rfl (kl_inI (i := 0) rfl rfl ‹_› (by omega) (fun p22 a23 => ?_))
   refine ld rfl ‹_› (mv rfl (kl_inI (i := 1) rfl rfl ‹_› (by omega) (fun p24 a25 => ?_)))
   refine ld rfl ‹_› (fd9 rfl ‹_› (fun p26 a27 => ?_))
   refine ld rfl ‹_› (kl_inI (i := 0) rfl rfl ‹_› (by omega) (fun p28 a29 => ?_))
   refine ld rfl ‹_› (ad9 rfl rfl (by omega) ?_)
   refine kl_neq rfl rfl ?_
   refine sg rfl (ln (qc (rt (kq_retP rfl rfl (congrArg Value.bool ?_)))))
   rw [sat_2 ‹_›]
  ·refine cS (cr (eq9 rfl rfl ?_))
   refine sg rfl (ln (qc (ci9 rfl (fun c30 => ?_) (fun c30 => ?_))))
   ·refine cS (cr (mv rfl (cP rfl rfl (sdistinct_ok x ‹_›) ?_)))
    refine sg rfl (ln (qc (rt (kq_retP rfl rfl (congrArg Value.bool ?_)))))
    rw [sat_3 ‹_›]
   ·refine cS (cr (eq9 rfl rfl ?_))
    refine sg rfl (ln (qc (ci9 rfl (fun c31 => ?_) (fun c31 => ?_))))
    ·have hk := hs.k4 c31
     have hk1 := hs.val.at (k := 0) (by omega)
     refine cS (kc_draw 21 [true, true, true, true, true, true, true, true, true, true, true, true, true, true, true, true, true, true, true, true, true] (by kernel_rfl) (by kernel_rfl) ?_)
     refine mv rfl (kl_inI (i := 0) rfl rfl ‹_› (by omega) (fun p32 a33 => ?_))
     refine ld rfl ‹_› (fd9 rfl ‹_› (fun p34 a35 => ?_))
     refine ld rfl ‹_› (le9 rfl ‹_› (fun l36 => ?_))
     refine ls9 rfl rfl ?_
     refine mv rfl (jn 12 74 (.bool (decide ((x.getD 0 0) < (c.args.length : Int)) && decide ((c.args.getD (x.getD 0 0).toNat 0) = (x.getD 1 0)))) (pk [1, 4, 62] rfl) (fun J46 => ?_) ?_)
     ·rcases Bool.eq_false_or_eq_true (decide ((x.getD 0 0) < (c.args.length : Int))) with g37 | g37
      ·have g37p := of_decide_eq_true g37
       refine gT rfl rfl g37 (fd9 rfl ‹_› (fun p38 a39 => ?_))
       refine gT rfl rfl g37 (ld rfl ‹_› (gT rfl rfl g37 (mv rfl (gT rfl rfl g37 (kl_inI (i := 0) rfl rfl ‹_› (by omega) (fun p40 a41 => ?_))))))
       refine gT rfl rfl g37 (ld rfl ‹_› (gT rfl rfl g37 (kl_ixI rfl rfl ‹_› (by omega) (by omega) (fun p42 a43 => ?_))))
       refine gT rfl rfl g37 (ld rfl ‹_› (gT rfl rfl g37 (mv rfl (gT rfl rfl g37 (kl_inI (i := 1) rfl rfl ‹_› (by omega) (fun p44 a45 => ?_))))))
       refine gT rfl rfl g37 (ld rfl ‹_› (gT rfl rfl g37 (eq9 rfl rfl ?_)))
       refine aT rfl rfl g37 ?_
       exact J46 _ (pk [74, 1, 4, 62] rfl)
      ·refine gF rfl rfl g37 (gF rfl rfl g37 (gF rfl rfl g37 (gF rfl rfl g37 (gF rfl rfl g37 (gF rfl rfl g37 (gF rfl rfl g37 (gF rfl rfl g37 (gF rfl rfl g37 ?_))))))))
       refine gF rfl rfl g37 (gF rfl rfl g37 (aF (decide ((c.args.getD (x.getD 0 0).toNat 0) = (x.getD 1 0))) rfl rfl g37 ?_))
       exact J46 _ (pk [74, 1, 4, 62] rfl)
     refine sg rfl (ln (qc (rt (kq_retP rfl rfl (congrArg Value.bool ?_)))))
     rw [sat_4 ‹_›]
    ·refine cS (cr (eq9 rfl rfl ?_))
     refine sg rfl (ln (qc (ci9 rfl (fun c47 => ?_) (fun c47 => ?_))))
     ·have hk := hs.k5 c47
      refine cS (cr (fd9 rfl ‹_› (fun p48 a49 => ?_)))
      refine ld rfl ‹_› (mv rfl (cP rfl rfl (hasRow_ok c.rows x hk ‹_› ‹_›) ?_))
      refine sg rfl (ln (qc (rt (kq_retP rfl rfl (congrArg Value.bool ?_)))))
      rw [sat_5 ‹_›]
     ·refine cS (cr (eq9 rfl rfl ?_))
      refine sg rfl (ln (qc (ci9 rfl (fun c50 => ?_) (fun c50 => ?_))))
      ·have hk := hs.k6 c50
       refine cS (cr (sg rfl (ln (qc (cS (cS (cr (sg rfl (ln (qc (bl (kc_loop0 (A := Nat × Int) (fun zz => (zz.1 ≤ x.length) ∧ (zz.2 = cntTo x (c.args.getD 0 0) zz.1)) (fun zz => x.length - zz.1) (fun zz => [(8, .int .i64 (zz.1 : Int)), (7, .int .i64 zz.2)]) (0, (0 : Int)) (pk [1, 2, 4] rfl) (pk [8, 7] rfl) ⟨Nat.zero_le _, rfl⟩ ?_))))))))))))
       rintro ⟨k, s⟩ hJ53
       obtain ⟨hk51, hi52⟩ : (k ≤ x.length) ∧ (s = cntTo x (c.args.getD 0 0) k) := hJ53
       change KC _ _ (_) _ _ ([(8, .int .i64 (k : Int)), (7, .int .i64 s)] ++ _)
       have hcl := cnt_le x (c.args.getD 0 0) k
       refine cS (cS (cr (mv rfl (mv rfl (le9 rfl ‹_› (fun l54 => ?_))))))
       refine ls9 rfl rfl ?_
       refine ln (qc (ci9 rfl (fun c55 => ?_) (fun c55 => ?_)))
       ·try (
         have ha1 := hk.2.at (k := k) (by omega)
         have hx1 := hs.val.at (k := k) (by omega)
         have h3 := prod_le ha1 hx1
         have h5 := dot_le hk.2 hs.val k (by omega) (by omega))
        refine sk (qc (cS (bl (cS (kc_draw 9 [true, true, true, true, true, true, true, true, true] (by kernel_rfl) (by kernel_rfl) ?_)))))
        refine mv rfl (mv rfl (kl_inI rfl rfl ‹_› (by omega) (fun p56 a57 => ?_)))
        refine ld rfl ‹_› (fd9 rfl ‹_› (fun p58 a59 => ?_))
        refine ld rfl ‹_› (kl_inI (i := 0) rfl rfl ‹_› (by omega) (fun p60 a61 => ?_))
        refine ld rfl ‹_› (eq9 rfl rfl ?_)
        refine ln (qc (ci9 rfl (fun c62 => ?_) (fun c62 => ?_)))
        ·refine cr (mv rfl (ad9 rfl rfl (by omega) ?_))
         refine sg rfl (ln (qc (cr (mv rfl (ic9 rfl rfl (by omega) ?_)))))
         refine sg rfl (ln (kq_round0 ((k + 1), (s + (1 : Int))) (by omega) (⟨by omega, (by first | exact cnt_stepT hi52 (by omega) ‹_› | exact cnt_stepF hi52 (by omega) ‹_›)⟩) (pk [8, 7] rfl) (pk [1, 2, 4] rfl) slr9))
        ·refine sk (qc (cr (mv rfl (ic9 rfl rfl (by omega) ?_))))
         refine sg rfl (ln (kq_round0 ((k + 1), s) (by omega) (⟨by omega, (by first | exact cnt_stepT hi52 (by omega) ‹_› | exact cnt_stepF hi52 (by omega) ‹_›)⟩) (pk [8, 7] rfl) (pk [1, 2, 4] rfl) slr9))
       ·refine ex9 (qc (cS (cr (mv rfl (fd9 rfl ‹_› (fun p63 a64 => ?_))))))
        refine ld rfl ‹_› (eq9 rfl rfl ?_)
        refine sg rfl (ln (qc (rt (kq_retP rfl rfl (congrArg Value.bool ?_)))))
        rw [sat_6 ‹_›, hi52, show k = x.length from by omega]
      ·refine cS (cr (eq9 rfl rfl ?_))
       refine sg rfl (ln (qc (ci9 rfl (fun c65 => ?_) (fun c65 => ?_))))
       ·refine cS (cr (kl_ldS rfl ‹_› rfl ?_))
        refine mv rfl (cP rfl rfl (capacity_ok c x hs ‹_› ‹_› ‹_› ‹_› ‹_›) ?_)
        refine sg rfl (ln (qc (rt (kq_retP rfl rfl (congrArg Value.bool ?_)))))
        rw [sat_7 ‹_›]
       ·refine cS (cr (eq9 rfl rfl ?_))
        refine sg rfl (ln (qc (ci9 rfl (fun c66 => ?_) (fun c66 => ?_))))
        ·refine cS (cr (kl_ldS rfl ‹_› rfl ?_))
         refine mv rfl (cP rfl rfl (saccepts_ok c x hs ‹_› ‹_› ‹_› ‹_› ‹_›) ?_)
         refine sg rfl (ln (qc (rt (kq_retP rfl rfl (congrArg Value.bool ?_)))))
         rw [sat_8 ‹_›]
        ·refine sk (qc (cS (cr (mv rfl (cP rfl rfl (circuit_ok x hs.one hs.val ‹_›) ?_)))))
         refine sg rfl (ln (qc (rt (kq_retP rfl rfl (congrArg Value.bool ?_)))))
         rw [sat_9 ‹_› ‹_› ‹_› ‹_› ‹_› ‹_› ‹_› ‹_›]
end
section
theorem randomAutomaton_ok {br : Nat} {vbr : Value} {Hr : Hp} {bsr : List Int} (pr : Nat) (n : Int) (hn : 1 ≤ n ∧ n ≤ 4) (hp : pr + (12 * n.toNat) ≤ 1000000) (hr : Bytes Hr vbr bsr) : SpecT Tryz.prog 149 [.pointer (some ⟨br, 0, none⟩), .int .i64 n] [bxS br [vbr, .int .i64 (pr : Int)] 84] [Hr] (fun vq L1 Ln Kq => ∃ q : Nat, q ≤ pr + (12 * n.toNat) ∧ L1 = [bxS br [vbr, .int .i64 (q : Int)] 84] ∧ ∃ (Hq : Hp) (xq : List (List Int)), Ln = [Hq] ∧ OwnL 23 1 Hq Kq RowV vq xq ∧ ((xq.length : Int) = n ∧ ∀ r ∈ xq, r.length ≤ 12)) := by
 refine specT_of Tryz.func149 rfl rfl rfl (fun B => ?_)
 refine cS (cr (sg rfl (ln (qc (cS (cr (kl_bs0 RowV rfl (fun v1 H2 f3 o4 => ?_))))))))
 refine sg rfl (ln (qc (cS (cS (cr (sg rfl (ln (qc (bl (kc_loopK (A := Nat × List (List Int) × Value × Hp × Hp × Nat) (fun zz => (zz.1 ≤ n.toNat) ∧ (zz.2.1.length = zz.1 ∧ ∀ r ∈ zz.2.1, r.length ≤ 12) ∧ Fr B zz.2.2.2.2.1 ∧ OwnL 23 1 zz.2.2.2.1 zz.2.2.2.2.1 RowV zz.2.2.1 zz.2.1 ∧ Fr B zz.2.2.2.1 ∧ zz.2.2.2.2.2 ≤ pr + 12 * zz.1) (fun zz => n.toNat - zz.1) (fun zz => zz.2.2.2.2.1) (fun zz => [zz.2.2.2.1, bxS br [vbr, .int .i64 (zz.2.2.2.2.2 : Int)] 84]) (fun zz => [(6, .int .i64 (zz.1 : Int)), (5, zz.2.2.1)]) (0, ([]), v1, H2, noHp, pr) (pk [0, 1, 4] rfl) (pk [6, 5] rfl) rfl ⟨Nat.zero_le _, ⟨rfl, all_nil⟩, (fr_no _), o4, f3, (by first | omega | (dsimp only; omega))⟩ ?_))))))))))
 rintro ⟨i, out, v10, H7, K11, q13⟩ hJ15
 obtain ⟨hk5, hi6, f12, o8, f9, hq14⟩ : (i ≤ n.toNat) ∧ (out.length = i ∧ ∀ r ∈ out, r.length ≤ 12) ∧ Fr B K11 ∧ OwnL 23 1 H7 K11 RowV v10 out ∧ Fr B H7 ∧ q13 ≤ pr + 12 * i := hJ15
 change KC _ _ (K11 :: _) [H7, bxS br [vbr, .int .i64 (q13 : Int)] 84] _ ([(6, .int .i64 (i : Int)), (5, v10)] ++ _)
 refine cS (cS (cr (mv rfl (mv rfl (ls9 rfl rfl ?_)))))
 refine ln (qc (ci9 rfl (fun c16 => ?_) (fun c16 => ?_)))
 ·refine sk (qc (cS (bl (cS (cr (kl_bsI [] rfl rfl rfl (by decide) (fun v17 H18 f19 o20 => ?_)))))))
  refine sg rfl (ln (qc (cS (cS (cr (sg rfl (ln (qc (bl (kc_loopL (A := Nat × List Int × Value × Hp × Nat) (fun zz => (zz.1 ≤ 6) ∧ (zz.2.1.length = zz.1) ∧ OwnL 3 1 zz.2.2.2.1 noHp IntV zz.2.2.1 zz.2.1 ∧ Fr B zz.2.2.2.1 ∧ zz.2.2.2.2 ≤ q13 + 2 * zz.1) (fun zz => 6 - zz.1) (fun zz => [zz.2.2.2.1, H7, bxS br [vbr, .int .i64 (zz.2.2.2.2 : Int)] 84]) (fun zz => [(8, .int .i64 (zz.1 : Int)), (7, zz.2.2.1)]) (0, ([]), v17, H18, q13) (pk [0, 1, 4, 5, 6, 11, 12, 13, 16] rfl) (pk [8, 7] rfl) rfl ⟨Nat.zero_le _, rfl, o20, f19, (by first | omega | (dsimp only; omega))⟩ ?_))))))))))
  rintro ⟨j, row, v26, H23, q27⟩ hJ29
  obtain ⟨hk21, hi22, o24, f25, hq28⟩ : (j ≤ 6) ∧ (row.length = j) ∧ OwnL 3 1 H23 noHp IntV v26 row ∧ Fr B H23 ∧ q27 ≤ q13 + 2 * j := hJ29
  change KC _ _ (_) [H23, H7, bxS br [vbr, .int .i64 (q27 : Int)] 84] _ ([(8, .int .i64 (j : Int)), (7, v26)] ++ _)
  refine cS (cS (cr (mv rfl (kl_leq rfl rfl ?_))))
  refine ln (qc (ci9 rfl (fun c30 => ?_) (fun c30 => ?_)))
  ·refine sk (qc (cS (bl (cr (mv rfl (mv rfl (mv rfl (ad9 rfl rfl (by omega) ?_))))))))
   refine cT rfl rfl (pick_ok q27 (n + (1 : Int)) (by omega) hr) (fun v31 L1 Ln K35 h32 f33 f34 => ?_)
   obtain ⟨q36, h37, rfl, rfl, z38, rfl, h39⟩ := h32
   refine nm ?_
   refine mv rfl (cT rfl rfl (pick_ok q36 (2 : Int) (by omega) hr) (fun v42 L1 Ln K46 h43 f44 f45 => ?_))
   obtain ⟨q47, h48, rfl, rfl, z49, rfl, h50⟩ := h43
   refine nm ?_
   refine sb9 rfl rfl (by omega) ?_
   refine bs9 rfl rfl rfl (by decide) (ca rfl ca_nil) (fun v53 H54 f55 r56 s57 => ?_)
   have h58 : Ints H54 v53 [(z38 - z49)] := litInts (xs := [(z38 - z49)]) (by simpa using s57)
   refine aL9 (z38 - z49) rfl rfl o24 ‹_› rfl (oc rfl oc_nil) (by omega) (by decide) (fun v59 H60 o61 f62 => ?_)
   have f63 := f62 B f25 (Nat.le_refl _)
   refine sg rfl (ln (qc (cr (mv rfl (ic9 rfl rfl (by omega) ?_)))))
   refine sg rfl (ln (tk [H60, H7, bxS br [vbr, .int .i64 (q47 : Int)] 84] ?_))
   refine rL ((j + 1), (row ++ [(z38 - z49)]), v59, H60, q47) (by omega) (⟨by omega, (by simp; omega), o61, f63, (by first | omega | (dsimp only; omega))⟩) (pk [8, 7] rfl) (pk [0, 1, 4, 5, 6, 11, 12, 13, 16] rfl) rfl slr9
  ·refine ex9 (qc (cS (cS (cr (sg rfl (ln (qc (bl (kc_loopL (A := Nat × List Int × Hp) (fun zz => (zz.1 ≤ 6) ∧ (zz.2.1.length = 6) ∧ OwnL 3 1 zz.2.2 noHp IntV v26 zz.2.1 ∧ Fr B zz.2.2) (fun zz => 6 - zz.1) (fun zz => [zz.2.2, H7, bxS br [vbr, .int .i64 (q27 : Int)] 84]) (fun zz => [(9, .int .i64 (zz.1 : Int))]) (0, row, H23) (pk [0, 1, 4, 5, 6, 7, 8, 11, 12, 13, 16, 17, 18] rfl) (pc 9 rfl pn) rfl ⟨Nat.zero_le _, (by dsimp only; omega), o24, f25⟩ ?_)))))))))
   rintro ⟨k, row2, H66⟩ hJ69
   obtain ⟨hk64, hi65, o67, f68⟩ : (k ≤ 6) ∧ (row2.length = 6) ∧ OwnL 3 1 H66 noHp IntV v26 row2 ∧ Fr B H66 := hJ69
   change KC _ _ (_) [H66, H7, bxS br [vbr, .int .i64 (q27 : Int)] 84] _ ([(9, .int .i64 (k : Int))] ++ _)
   refine cS (cS (cr (mv rfl (kl_leq rfl rfl ?_))))
   refine ln (qc (ci9 rfl (fun c70 => ?_) (fun c70 => ?_)))
   ·refine sk (qc (cS (bl (cS (cr (mv rfl (mv rfl (kl_ixLn rfl rfl ‹_› (by omega) (fun p71 q72 => ?_)))))))))
    refine kl_ldLI rfl ‹_› ‹_› (by omega) ?_
    refine mv rfl (kl_geq rfl rfl ?_)
    refine ln (qc (ci9 rfl (fun c73 => ?_) (fun c73 => ?_)))
    ·refine cr (mv rfl (mv rfl (mv rfl (sb9 rfl rfl (by omega) ?_))))
     refine kl_ixLn rfl rfl ‹_› (by omega) (fun p74 q75 => ?_)
     refine kl_stL (n - (1 : Int)) rfl rfl ‹_› o67 (by omega) rfl rfl rfl (fun H76 o77 f78 => ?_)
     have f79 := f78 _ f68
     refine cg [H76, H7, bxS br [vbr, .int .i64 (q27 : Int)] 84] rfl ?_
     refine ln (qc (cr (mv rfl (ic9 rfl rfl (by omega) ?_))))
     refine sg rfl (ln (tk [H76, H7, bxS br [vbr, .int .i64 (q27 : Int)] 84] ?_))
     refine rL ((k + 1), (row2.set k (n - (1 : Int))), H76) (by omega) (⟨by omega, (by first | omega | (simp; omega)), o77, f79⟩) (pc 9 rfl pn) (pk [0, 1, 4, 5, 6, 7, 8, 11, 12, 13, 16, 17, 18] rfl) rfl slr9
    ·refine sk (qc (cr (mv rfl (ic9 rfl rfl (by omega) ?_))))
     refine sg rfl (ln (tk [H66, H7, bxS br [vbr, .int .i64 (q27 : Int)] 84] ?_))
     refine rL ((k + 1), row2, H66) (by omega) (⟨by omega, (by first | omega | (simp; omega)), o67, f68⟩) (pc 9 rfl pn) (pk [0, 1, 4, 5, 6, 7, 8, 11, 12, 13, 16, 17, 18] rfl) rfl slr9
   ·refine ex9 (qc (cr (mv rfl (mv rfl (bs9 rfl rfl rfl (by decide) (ca (by first | exact Sl.cells ‹_› | exact OwnL.cells ‹_›) ca_nil) (fun v80 H81 f82 r83 s84 => ?_))))))
    refine fZ H66 ?_
    have h85 := OwnL.ints o67
    refine cm9 K11 H66 (fun c86 => ?_)
    have o87 := OwnL.mono (K' := orHp K11 H66) o8 orL
    refine aL9 row2 rfl rfl o87 ‹_› ⟨_, rfl, Sl.mono ‹_› (orC c86) (fun _ _ h => h)⟩ (oc (OwnL.oneCell ‹_›) oc_nil) (by omega) (by decide) (fun v88 H89 o90 f91 => ?_)
    have f92 := f91 B f9 (Nat.le_refl _)
    refine sg rfl (ln (qc (cr (mv rfl (ic9 rfl rfl (by omega) ?_)))))
    refine sg rfl (ln (tk [H89, bxS br [vbr, .int .i64 (q27 : Int)] 84] ?_))
    refine kq_roundK ((i + 1), (out ++ [row2]), v88, H89, (orHp K11 H66), q27) (by omega) (⟨by omega, ⟨by simp; omega, all_snoc hi6.2 (by first | omega | (simp; omega))⟩, (fr_or f12 f68), o90, f92, (by first | omega | (dsimp only; omega))⟩) (pk [6, 5] rfl) (pk [0, 1, 4] rfl) rfl slr9
 ·refine ex9 (qc (cS (cr (mv rfl (sg rfl (ln (qc (rt ?_))))))))
  exact kq_retT rfl rfl [bxS br [vbr, .int .i64 (q13 : Int)] 84] [H7] K11 (fr1 f9) f12 ⟨q13, by omega, rfl, H7, out, rfl, o8, by exact ⟨by omega, hi6.2⟩⟩
theorem allIndices_ok (n : Int) (hn : 0 ≤ n ∧ n ≤ 4) : Spec Tryz.prog 105 [.int .i64 n] [] (fun Hq vq => ∃ xq : List Int, OwnL 3 1 Hq noHp IntV vq xq ∧ (xq.length : Int) = n) := by
 refine spec_of Tryz.func105 rfl rfl rfl (fun B => ?_)
 refine cS (cr (sg rfl (ln (qc (cS (cr (kl_bsI [] rfl rfl rfl (by decide) (fun v1 H2 f3 o4 => ?_))))))))
 refine sg rfl (ln (qc (cS (cS (cr (sg rfl (ln (qc (bl (kc_loopL (A := Nat × List Int × Value × Hp) (fun zz => (zz.1 ≤ n.toNat) ∧ (zz.2.1.length = zz.1) ∧ OwnL 3 1 zz.2.2.2 noHp IntV zz.2.2.1 zz.2.1 ∧ Fr B zz.2.2.2) (fun zz => n.toNat - zz.1) (fun zz => [zz.2.2.2]) (fun zz => [(4, .int .i64 (zz.1 : Int)), (3, zz.2.2.1)]) (0, ([]), v1, H2) (pk [0, 2] rfl) (pk [4, 3] rfl) rfl ⟨Nat.zero_le _, rfl, o4, f3⟩ ?_))))))))))
 rintro ⟨i, out, v10, H7⟩ hJ11
 obtain ⟨hk5, hi6, o8, f9⟩ : (i ≤ n.toNat) ∧ (out.length = i) ∧ OwnL 3 1 H7 noHp IntV v10 out ∧ Fr B H7 := hJ11
 change KC _ _ (_) [H7] _ ([(4, .int .i64 (i : Int)), (3, v10)] ++ _)
 refine cS (cS (cr (mv rfl (mv rfl (ls9 rfl rfl ?_)))))
 refine ln (qc (ci9 rfl (fun c12 => ?_) (fun c12 => ?_)))
 ·refine sk (qc (cS (bl (cr (mv rfl (mv rfl (bs9 rfl rfl rfl (by decide) (ca rfl ca_nil) (fun v13 H14 f15 r16 s17 => ?_))))))))
  have h18 : Ints H14 v13 [(i : Int)] := litInts (xs := [(i : Int)]) (by simpa using s17)
  refine aL9 (i : Int) rfl rfl o8 ‹_› rfl (oc rfl oc_nil) (by omega) (by decide) (fun v19 H20 o21 f22 => ?_)
  have f23 := f22 B f9 (Nat.le_refl _)
  refine sg rfl (ln (qc (cr (mv rfl (ic9 rfl rfl (by omega) ?_)))))
  refine sg rfl (ln (tk [H20] ?_))
  refine rL ((i + 1), (out ++ [(i : Int)]), v19, H20) (by omega) (⟨by omega, (by simp; omega), o21, f23⟩) (pk [4, 3] rfl) (pk [0, 2] rfl) rfl slr9
 ·refine ex9 (qc (cS (cr (mv rfl (sg rfl (ln (qc (rt ?_))))))))
  exact kq_ret rfl rfl H7 f9 ⟨out, o8, by omega⟩
theorem randomConstraint_ok {br : Nat} {vbr : Value} {Hr : Hp} {bsr : List Int} (pr : Nat) (n : Int) (hn : 1 ≤ n ∧ n ≤ 4) (hp : pr + (100) ≤ 1000000) (hr : Bytes Hr vbr bsr) : SpecT Tryz.prog 103 [.pointer (some ⟨br, 0, none⟩), .int .i64 n] [bxS br [vbr, .int .i64 (pr : Int)] 84] [Hr] (fun vq L1 Ln Kq => ∃ q : Nat, q ≤ pr + (100) ∧ L1 = [bxS br [vbr, .int .i64 (q : Int)] 84] ∧ ∃ cq : Con, Ln = [] ∧ ConR Kq vq cq ∧ ConSm 50 cq) := by
 refine specT_of Tryz.func103 rfl rfl rfl (fun B => ?_)
 refine cS (cr (kl_alloc (cs := [.int .i64 (0 : Int), .slice none 0 0, .slice none 0 0, .int .i64 (0 : Int), .slice none 0 0]) rfl (fun b1 hb2 => ?_)))
 refine ln (qc (cS (cr (mv rfl (mv rfl (cT rfl rfl (pick_ok pr n (by omega) hr) (fun v3 L1 Ln K7 h4 f5 f6 => ?_)))))))
 obtain ⟨q8, h9, rfl, rfl, z10, rfl, h11⟩ := h4
 refine nm ?_
 refine ad9 rfl rfl (by omega) ?_
 refine sg rfl (ln (qc (cS (cr (mv rfl (cT rfl rfl (pick_ok q8 (9 : Int) (by omega) hr) (fun v14 L1 Ln K18 h15 f16 f17 => ?_)))))))
 obtain ⟨q19, h20, rfl, rfl, z21, rfl, h22⟩ := h15
 refine nm ?_
 refine ad9 rfl rfl (by omega) ?_
 refine mv rfl (mv rfl (mv rfl (cT rfl rfl (someVars_ok q19 n ((1 : Int) + z10) (by first | assumption | omega) (by first | assumption | omega) (by omega) hr) (fun v25 L1 Ln K29 h26 f27 f28 => ?_))))
 obtain ⟨q30, h31, rfl, H34, z32, rfl, o35, h33⟩ := h26
 have f36 := f27 _ (.head _)
 refine nm ?_
 refine kl_bd rfl (cp rfl (cp (OwnL.cells ‹_›) cp_nil)) rfl ?_
 refine kl_alloc (cs := [.int .i64 (0 : Int), .slice none 0 0, .slice none 0 0, .int .i64 (0 : Int), .slice none 0 0]) rfl (fun b37 hb38 => ?_)
 refine kl_stW (us := [.int .i64 ((1 : Int) + z21), v25, .slice none 0 0, .int .i64 (0 : Int), .slice none 0 0]) rfl rfl rfl rfl (oc rfl (oc (OwnL.oneCell ‹_›) (oc rfl (oc rfl (oc rfl oc_nil))))) rfl ?_
 refine cg [bxS b37 [.int .i64 ((1 : Int) + z21), v25, .slice none 0 0, .int .i64 (0 : Int), .slice none 0 0] 88, bxS br [vbr, .int .i64 (q30 : Int)] 84, H34, bxS b1 [.int .i64 (0 : Int), .slice none 0 0, .slice none 0 0, .int .i64 (0 : Int), .slice none 0 0] 88] rfl ?_
 refine ln (qc (cS (cS (cr (mv rfl (ls9 rfl rfl ?_))))))
 refine mv rfl (jn 9 33 (.bool (decide (n < (2 : Int)) && (decide (((1 : Int) + z21) = (2 : Int)) || decide (((1 : Int) + z21) = (4 : Int))))) (pk [0, 1, 4, 5, 6, 24] rfl) (fun J42 => ?_) ?_)
 ·rcases Bool.eq_false_or_eq_true (decide (n < (2 : Int))) with g39 | g39
  ·have g39p := of_decide_eq_true g39
   refine gT rfl rfl g39 (fV rfl (gT rfl rfl g39 (lB rfl rfl (gT rfl rfl g39 (eq9 rfl rfl ?_)))))
   refine gT rfl rfl g39 (mv rfl (jn 4 32 (.bool (decide (((1 : Int) + z21) = (2 : Int)) || decide (((1 : Int) + z21) = (4 : Int)))) (pk [0, 1, 4, 5, 6, 24, 28] rfl) (fun J41 => ?_) ?_))
   ·rcases Bool.eq_false_or_eq_true (decide (((1 : Int) + z21) = (2 : Int))) with g40 | g40
    ·refine gF rfl rfl g40 (gF rfl rfl g40 (gF rfl rfl g40 (gT rfl rfl g39 (oT (decide (((1 : Int) + z21) = (4 : Int))) rfl rfl g40 ?_))))
     exact J41 _ (pk [32, 0, 1, 4, 5, 6, 24, 28] rfl)
    ·have g40p := of_decide_eq_false g40
     refine gT rfl rfl g40 (fV rfl (gT rfl rfl g40 (lB rfl rfl (gT rfl rfl g40 (eq9 rfl rfl ?_)))))
     refine gT rfl rfl g39 (oF rfl rfl g40 ?_)
     exact J41 _ (pk [32, 0, 1, 4, 5, 6, 24, 28] rfl)
   refine aT rfl rfl g39 ?_
   exact J42 _ (pk [33, 0, 1, 4, 5, 6, 24] rfl)
  ·refine gF rfl rfl g39 (gF rfl rfl g39 (gF rfl rfl g39 (gF rfl rfl g39 (kl_gU rfl rfl (kl_gU rfl rfl (kl_gU rfl rfl (gF rfl rfl g39 (aF (decide (((1 : Int) + z21) = (2 : Int)) || decide (((1 : Int) + z21) = (4 : Int))) rfl rfl g39 ?_))))))))
   exact J42 _ (pk [33, 0, 1, 4, 5, 6, 24] rfl)
 refine ln (qc (cd9 rfl (fun c43 => ?_) (fun c43 => ?_)))
 ·have c43r := c43
  try simp only [smpE] at c43
  refine cr (fV rfl (sB rfl rfl rfl rfl rfl ?_))
  refine cg [bxS b37 [.int .i64 (5 : Int), v25, .slice none 0 0, .int .i64 (0 : Int), .slice none 0 0] 88, bxS br [vbr, .int .i64 (q30 : Int)] 84, H34, bxS b1 [.int .i64 (0 : Int), .slice none 0 0, .slice none 0 0, .int .i64 (0 : Int), .slice none 0 0] 88] rfl ?_
  refine ln (qc (cS (cr (fV rfl (lB rfl rfl (lL rfl o35 (fun l44 => ?_)))))))
  refine sg rfl (ln (qc (cS (cS (cr (fV rfl (lB rfl rfl (ln (qc (bl (cS (cr ?_))))))))))))
  refine eq9 rfl rfl ?_
  refine sg rfl (ln (qc (ci9 rfl (fun c45 => ?_) (fun c45 => ?_))))
  ·refine cS (cS (cr (sg rfl (ln (qc (bl (kc_no ?_)))))))
   refine kc_loopL (A := Nat × List Int × Value × Hp × Nat) (fun zz => (zz.1 ≤ z32.length) ∧ (zz.2.1.length = zz.1) ∧ OwnL 3 1 zz.2.2.2.1 noHp IntV zz.2.2.1 zz.2.1 ∧ Fr B zz.2.2.2.1 ∧ zz.2.2.2.2 ≤ q30 + zz.1) (fun zz => z32.length - zz.1) (fun zz => [zz.2.2.2.1, bxS b37 [.int .i64 (5 : Int), v25, zz.2.2.1, .int .i64 (0 : Int), .slice none 0 0] 88, bxS br [vbr, .int .i64 (zz.2.2.2.2 : Int)] 84, H34, bxS b1 [.int .i64 (0 : Int), .slice none 0 0, .slice none 0 0, .int .i64 (0 : Int), .slice none 0 0] 88]) (fun zz => [(7, .int .i64 (zz.1 : Int))]) (0, [], .slice none 0 0, noHp, q30) (pk [0, 4, 5, 6] rfl) (pc 7 rfl pn) rfl ⟨Nat.zero_le _, rfl, OwnL.nil, (fr_no _), (by first | omega | (dsimp only; omega))⟩ ?_
   rintro ⟨i, out, v51, H48, q53⟩ hJ55
   obtain ⟨hk46, hi47, o49, f50, hq54⟩ : (i ≤ z32.length) ∧ (out.length = i) ∧ OwnL 3 1 H48 noHp IntV v51 out ∧ Fr B H48 ∧ q53 ≤ q30 + i := hJ55
   change KC _ _ (_) [H48, bxS b37 [.int .i64 (5 : Int), v25, v51, .int .i64 (0 : Int), .slice none 0 0] 88, bxS br [vbr, .int .i64 (q53 : Int)] 84, H34, bxS b1 [.int .i64 (0 : Int), .slice none 0 0, .slice none 0 0, .int .i64 (0 : Int), .slice none 0 0] 88] _ ([(7, .int .i64 (i : Int))] ++ _)
   refine cS (cS (cr (mv rfl (mv rfl (ls9 rfl rfl ?_)))))
   refine ln (qc (ci9 rfl (fun c56 => ?_) (fun c56 => ?_)))
   ·refine sk (qc (cS (bl (kc_tree (fun i => ([6, 8] : List Nat).contains i) [bxS b37 [.int .i64 (5 : Int), v25, v51, .int .i64 (0 : Int), .slice none 0 0] 88] (by kernel_rfl) ?_))))
    refine kt_q 0 (.cons _ (.cons_cons _ nsl)) rfl (by kernel_rfl) (fV rfl (ln (qq (kt_q 1 (.cons _ (.cons_cons _ nsl)) rfl (by kernel_rfl) (ld rfl (at_box (T := 88) (cs := [.int .i64 (5 : Int), v25, v51, .int .i64 (0 : Int), .slice none 0 0]) (off := 2) (fz := (0, 0))) (ln (qq (kt_q 2 (.cons _ (.cons_cons _ nsl)) rfl (by kernel_rfl) ?_))))))))
    refine mv rfl (ln (qq (ta 3 rfl (bs9 rfl rfl rfl (by decide) (ca rfl (ca rfl (ca rfl (ca rfl (ca rfl (ca rfl ca_nil)))))) (fun v57 H58 f59 r60 s61 => ?_)))))
    have h62 : Ints H58 v57 [(1 : Int), (1 : Int), (-1 : Int), (2 : Int), (-3 : Int), (0 : Int)] := litInts (xs := [(1 : Int), (1 : Int), (-1 : Int), (2 : Int), (-3 : Int), (0 : Int)]) (by simpa using s61)
    refine ln (qa (.cons _ (.cons_cons _ nsl)) (ta 4 rfl (cT rfl rfl (one_ok q53 ([(1 : Int), (1 : Int), (-1 : Int), (2 : Int), (-3 : Int), (0 : Int)]) (by first | (simp; done) | omega) (by omega) hr ‹_›) (fun v63 L1 Ln K67 h64 f65 f66 => ?_))))
    obtain ⟨q68, h69, rfl, rfl, z70, rfl, h71⟩ := h64
    refine nm ?_
    refine ln (qa (.cons _ (.cons _ (.cons_cons _ nsl))) (ta 5 rfl (bs9 rfl rfl rfl (by decide) (ca rfl ca_nil) (fun v74 H75 f76 r77 s78 => ?_))))
    have h79 : Ints H75 v74 [z70] := litInts (xs := [z70]) (by simpa using s78)
    refine ln (qa (.cons _ (.cons _ (.cons_cons _ nsl))) (ta 6 rfl (aL9 z70 rfl rfl o49 ‹_› rfl (oc rfl oc_nil) (by omega) (by decide) (fun v80 H81 o82 f83 => ?_))))
    have f84 := f83 B f50 (Nat.le_refl _)
    refine ln (qx rfl (kt_q 7 (.cons _ (.cons _ (.cons_cons _ nsl))) rfl (by kernel_rfl) (fV rfl (ln (qq (ta 8 rfl (sB rfl rfl rfl (OwnL.oneCell ‹_›) (OwnL.cells ‹_›) ?_)))))))
    refine cg [bxS br [vbr, .int .i64 (q68 : Int)] 84, H81, bxS b37 [.int .i64 (5 : Int), v25, v80, .int .i64 (0 : Int), .slice none 0 0] 88, H34, bxS b1 [.int .i64 (0 : Int), .slice none 0 0, .slice none 0 0, .int .i64 (0 : Int), .slice none 0 0] 88] rfl ?_
    refine ln (qx rfl (kt_end (by kernel_rfl) ?_))
    refine qc (cr (mv rfl (ic9 rfl rfl (by omega) ?_)))
    refine sg rfl (ln (tk [H81, bxS b37 [.int .i64 (5 : Int), v25, v80, .int .i64 (0 : Int), .slice none 0 0] 88, bxS br [vbr, .int .i64 (q68 : Int)] 84, H34, bxS b1 [.int .i64 (0 : Int), .slice none 0 0, .slice none 0 0, .int .i64 (0 : Int), .slice none 0 0] 88] ?_))
    refine rL ((i + 1), (out ++ [z70]), v80, H81, q68) (by omega) (⟨by omega, (by simp; omega), o82, f84, (by first | omega | (dsimp only; omega))⟩) (pc 7 rfl pn) (pk [0, 4, 5, 6] rfl) rfl slr9
   ·refine ex9 (qc (cr (mv rfl (cT rfl rfl (pick_ok q53 (14 : Int) (by omega) hr) (fun v85 L1 Ln K89 h86 f87 f88 => ?_)))))
    obtain ⟨q90, h91, rfl, rfl, z92, rfl, h93⟩ := h86
    refine nm ?_
    refine sb9 rfl rfl (by omega) ?_
    refine fV rfl (sB rfl rfl rfl rfl rfl ?_)
    refine cg [bxS br [vbr, .int .i64 (q90 : Int)] 84, H48, bxS b37 [.int .i64 (5 : Int), v25, v51, .int .i64 (z92 - (4 : Int)), .slice none 0 0] 88, H34, bxS b1 [.int .i64 (0 : Int), .slice none 0 0, .slice none 0 0, .int .i64 (0 : Int), .slice none 0 0] 88] rfl ?_
    refine ln (qc (cS (cr (kl_ldW rfl rfl (kl_stW (us := [.int .i64 (5 : Int), v25, v51, .int .i64 (z92 - (4 : Int)), .slice none 0 0]) rfl rfl rfl rfl (oc rfl (oc (OwnL.oneCell ‹_›) (oc (OwnL.oneCell ‹_›) (oc rfl (oc rfl oc_nil))))) rfl ?_)))))
    refine cg [bxS br [vbr, .int .i64 (q90 : Int)] 84, H48, bxS b37 [.int .i64 (5 : Int), v25, v51, .int .i64 (z92 - (4 : Int)), .slice none 0 0] 88, H34, bxS b1 [.int .i64 (5 : Int), v25, v51, .int .i64 (z92 - (4 : Int)), .slice none 0 0] 88] rfl ?_
    refine ln (qc (rt (kq_frz H34 ?_)))
    refine kq_frz H48 ?_
    refine kq_cmp H48 noHp (fun c96 => ?_)
    refine kq_cmp H34 (orHp H48 noHp) (fun c97 => ?_)
    exact rC rfl rfl rfl [bxS br [vbr, .int .i64 (q90 : Int)] 84] [] (orHp H34 (orHp H48 noHp)) frn (fr_or f36 (fr_or f50 (fr_no _))) ⟨q90, by omega, rfl, ⟨(5 : Int), z32, out, (z92 - (4 : Int)), []⟩, rfl, ⟨_, rfl, _, _, _, rfl, (Sl.mono (OwnL.ints o35) (fun b o h => orL b o h) (fun _ _ h => h)), (Sl.mono (OwnL.ints o49) (fun b o h => orC c97 b o (orL b o h)) (fun _ _ h => h)), (Sl.mono Sl.nil (fun b o h => orC c97 b o (orC c96 b o h)) (fun _ _ h => h))⟩, by (constructor <;> dsimp only <;> first | omega | exact all_nil | assumption | (simp; done) | (simp; omega) | (simp only [List.length_cons, List.length_nil]; omega))⟩
  ·refine cS (cr (eq9 rfl rfl ?_))
   refine sg rfl (ln (qc (ci9 rfl (fun c98 => ?_) (fun c98 => ?_))))
   ·refine cS (cr (mv rfl (mv rfl (cT rfl rfl (someVars_ok q30 n (2 : Int) (by first | assumption | omega) (by first | assumption | omega) (by omega) hr) (fun v99 L1 Ln K103 h100 f101 f102 => ?_)))))
    obtain ⟨q104, h105, rfl, H108, z106, rfl, o109, h107⟩ := h100
    have f110 := f101 _ (.head _)
    refine nm ?_
    refine fV rfl (sB rfl rfl rfl (OwnL.oneCell ‹_›) (OwnL.cells ‹_›) ?_)
    refine cg [bxS br [vbr, .int .i64 (q104 : Int)] 84, H108, bxS b37 [.int .i64 (5 : Int), v99, .slice none 0 0, .int .i64 (0 : Int), .slice none 0 0] 88, H34, bxS b1 [.int .i64 (0 : Int), .slice none 0 0, .slice none 0 0, .int .i64 (0 : Int), .slice none 0 0] 88] rfl ?_
    refine ln (qc (cr (mv rfl (cT rfl rfl (pick_ok q104 (5 : Int) (by omega) hr) (fun v111 L1 Ln K115 h112 f113 f114 => ?_)))))
    obtain ⟨q116, h117, rfl, rfl, z118, rfl, h119⟩ := h112
    refine nm ?_
    refine sb9 rfl rfl (by omega) ?_
    refine bs9 rfl rfl rfl (by decide) (ca rfl ca_nil) (fun v122 H123 f124 r125 s126 => ?_)
    have h127 : Ints H123 v122 [(z118 - (2 : Int))] := litInts (xs := [(z118 - (2 : Int))]) (by simpa using s126)
    refine fV rfl (sB rfl rfl rfl (Sl.oneCell ‹_›) (Sl.cells ‹_›) ?_)
    refine cg [bxS br [vbr, .int .i64 (q116 : Int)] 84, H108, bxS b37 [.int .i64 (5 : Int), v99, v122, .int .i64 (0 : Int), .slice none 0 0] 88, H34, bxS b1 [.int .i64 (0 : Int), .slice none 0 0, .slice none 0 0, .int .i64 (0 : Int), .slice none 0 0] 88] rfl ?_
    refine ln (qc (cS (cr (kl_ldW rfl rfl (kl_stW (us := [.int .i64 (5 : Int), v99, v122, .int .i64 (0 : Int), .slice none 0 0]) rfl rfl rfl rfl (oc rfl (oc (OwnL.oneCell ‹_›) (oc (Sl.oneCell ‹_›) (oc rfl (oc rfl oc_nil))))) rfl ?_)))))
    refine cg [bxS br [vbr, .int .i64 (q116 : Int)] 84, H108, bxS b37 [.int .i64 (5 : Int), v99, v122, .int .i64 (0 : Int), .slice none 0 0] 88, H34, bxS b1 [.int .i64 (5 : Int), v99, v122, .int .i64 (0 : Int), .slice none 0 0] 88] rfl ?_
    refine ln (qc (rt (kq_frz H108 ?_)))
    refine kq_cmp H123 noHp (fun c128 => ?_)
    refine kq_cmp H108 (orHp H123 noHp) (fun c129 => ?_)
    exact rC rfl rfl rfl [bxS br [vbr, .int .i64 (q116 : Int)] 84] [] (orHp H108 (orHp H123 noHp)) frn (fr_or f110 (fr_or f124 (fr_no _))) ⟨q116, by omega, rfl, ⟨(5 : Int), z106, ([(z118 - (2 : Int))]), (0 : Int), []⟩, rfl, ⟨_, rfl, _, _, _, rfl, (Sl.mono (OwnL.ints o109) (fun b o h => orL b o h) (fun _ _ h => h)), (Sl.mono ‹_› (fun b o h => orC c129 b o (orL b o h)) (fun _ _ h => h)), (Sl.mono Sl.nil (fun b o h => orC c129 b o (orC c128 b o h)) (fun _ _ h => h))⟩, by (constructor <;> dsimp only <;> first | omega | exact all_nil | assumption | (simp; done) | (simp; omega) | (simp only [List.length_cons, List.length_nil]; omega))⟩
   ·refine cS (cr (eq9 rfl rfl ?_))
    refine sg rfl (ln (qc (ci9 rfl (fun c130 => ?_) (fun c130 => ?_))))
    ·refine cS (cr (mv rfl (mv rfl (cT rfl rfl (someVars_ok q30 n (2 : Int) (by first | assumption | omega) (by first | assumption | omega) (by omega) hr) (fun v131 L1 Ln K135 h132 f133 f134 => ?_)))))
     obtain ⟨q136, h137, rfl, H140, z138, rfl, o141, h139⟩ := h132
     have f142 := f133 _ (.head _)
     refine nm ?_
     refine fV rfl (sB rfl rfl rfl (OwnL.oneCell ‹_›) (OwnL.cells ‹_›) ?_)
     refine cg [bxS br [vbr, .int .i64 (q136 : Int)] 84, H140, bxS b37 [.int .i64 (5 : Int), v131, .slice none 0 0, .int .i64 (0 : Int), .slice none 0 0] 88, H34, bxS b1 [.int .i64 (0 : Int), .slice none 0 0, .slice none 0 0, .int .i64 (0 : Int), .slice none 0 0] 88] rfl ?_
     refine ln (qc (cr (mv rfl (mv rfl (cT rfl rfl (pick_ok q136 (6 : Int) (by omega) hr) (fun v143 L1 Ln K147 h144 f145 f146 => ?_))))))
     obtain ⟨q148, h149, rfl, rfl, z150, rfl, h151⟩ := h144
     refine nm ?_
     refine ad9 rfl rfl (by omega) ?_
     refine cT rfl rfl (randomRow_ok q148 ((1 : Int) + z150) (by first | assumption | omega) (by omega) hr) (fun v154 L1 Ln K158 h155 f156 f157 => ?_)
     obtain ⟨q159, h160, rfl, H163, z161, rfl, o164, h162⟩ := h155
     have f165 := f156 _ (.head _)
     refine nm ?_
     refine fV rfl (sB rfl rfl rfl (OwnL.oneCell ‹_›) (OwnL.cells ‹_›) ?_)
     refine cg [bxS br [vbr, .int .i64 (q159 : Int)] 84, H163, H140, bxS b37 [.int .i64 (5 : Int), v131, v154, .int .i64 (0 : Int), .slice none 0 0] 88, H34, bxS b1 [.int .i64 (0 : Int), .slice none 0 0, .slice none 0 0, .int .i64 (0 : Int), .slice none 0 0] 88] rfl ?_
     refine ln (qc (cS (cr (kl_ldW rfl rfl (kl_stW (us := [.int .i64 (5 : Int), v131, v154, .int .i64 (0 : Int), .slice none 0 0]) rfl rfl rfl rfl (oc rfl (oc (OwnL.oneCell ‹_›) (oc (OwnL.oneCell ‹_›) (oc rfl (oc rfl oc_nil))))) rfl ?_)))))
     refine cg [bxS br [vbr, .int .i64 (q159 : Int)] 84, H163, H140, bxS b37 [.int .i64 (5 : Int), v131, v154, .int .i64 (0 : Int), .slice none 0 0] 88, H34, bxS b1 [.int .i64 (5 : Int), v131, v154, .int .i64 (0 : Int), .slice none 0 0] 88] rfl ?_
     refine ln (qc (rt (kq_frz H140 ?_)))
     refine kq_frz H163 ?_
     refine kq_cmp H163 noHp (fun c166 => ?_)
     refine kq_cmp H140 (orHp H163 noHp) (fun c167 => ?_)
     exact rC rfl rfl rfl [bxS br [vbr, .int .i64 (q159 : Int)] 84] [] (orHp H140 (orHp H163 noHp)) frn (fr_or f142 (fr_or f165 (fr_no _))) ⟨q159, by omega, rfl, ⟨(5 : Int), z138, z161, (0 : Int), []⟩, rfl, ⟨_, rfl, _, _, _, rfl, (Sl.mono (OwnL.ints o141) (fun b o h => orL b o h) (fun _ _ h => h)), (Sl.mono (OwnL.ints o164) (fun b o h => orC c167 b o (orL b o h)) (fun _ _ h => h)), (Sl.mono Sl.nil (fun b o h => orC c167 b o (orC c166 b o h)) (fun _ _ h => h))⟩, by (constructor <;> dsimp only <;> first | omega | exact all_nil | assumption | (simp; done) | (simp; omega) | (simp only [List.length_cons, List.length_nil]; omega))⟩
    ·refine cS (cr (eq9 rfl rfl ?_))
     refine sg rfl (ln (qc (ci9 rfl (fun c168 => ?_) (fun c168 => ?_))))
     ·refine cS (cr (mv rfl (cT rfl rfl (pick_ok q30 (6 : Int) (by omega) hr) (fun v169 L1 Ln K173 h170 f171 f172 => ?_))))
      obtain ⟨q174, h175, rfl, rfl, z176, rfl, h177⟩ := h170
      refine nm ?_
      refine ad9 rfl rfl (by omega) ?_
      refine sg rfl (ln (qc (bl (kc_no ?_))))
      refine kc_loopK (A := Int × List (List Int) × Value × Hp × Hp × Nat) (fun zz => (0 ≤ zz.1 ∧ zz.1 ≤ 6 ∧ zz.2.1.length + zz.1.toNat ≤ 6 ∧ ∀ r ∈ zz.2.1, r.length ≤ 12) ∧ Fr B zz.2.2.2.2.1 ∧ OwnL 23 1 zz.2.2.2.1 zz.2.2.2.2.1 RowV zz.2.2.1 zz.2.1 ∧ Fr B zz.2.2.2.1 ∧ zz.2.2.2.2.2 ≤ q174 + 12 * (6 - zz.1).toNat) (fun zz => zz.1.toNat) (fun zz => zz.2.2.2.2.1) (fun zz => [zz.2.2.2.1, bxS br [vbr, .int .i64 (zz.2.2.2.2.2 : Int)] 84, bxS b37 [.int .i64 (5 : Int), v25, .slice none 0 0, .int .i64 (0 : Int), zz.2.2.1] 88, H34, bxS b1 [.int .i64 (0 : Int), .slice none 0 0, .slice none 0 0, .int .i64 (0 : Int), .slice none 0 0] 88]) (fun zz => [(8, .int .i64 zz.1)]) (((1 : Int) + z176), [], .slice none 0 0, noHp, noHp, q174) (pk [0, 4, 5, 6] rfl) (pc 8 rfl pn) rfl ⟨⟨by dsimp only; omega, by dsimp only; omega, by dsimp only; simp; omega, all_nil⟩, (fr_no _), OwnL.nil, (fr_no _), (by first | omega | (dsimp only; omega))⟩ ?_
      rintro ⟨i, out, v185, H182, K186, q189⟩ hJ191
      obtain ⟨hi181, f187, o183, f184, hq190⟩ : (0 ≤ i ∧ i ≤ 6 ∧ out.length + i.toNat ≤ 6 ∧ ∀ r ∈ out, r.length ≤ 12) ∧ Fr B K186 ∧ OwnL 23 1 H182 K186 RowV v185 out ∧ Fr B H182 ∧ q189 ≤ q174 + 12 * (6 - i).toNat := hJ191
      change KC _ _ (K186 :: _) [H182, bxS br [vbr, .int .i64 (q189 : Int)] 84, bxS b37 [.int .i64 (5 : Int), v25, .slice none 0 0, .int .i64 (0 : Int), v185] 88, H34, bxS b1 [.int .i64 (0 : Int), .slice none 0 0, .slice none 0 0, .int .i64 (0 : Int), .slice none 0 0] 88] _ ([(8, .int .i64 i)] ++ _)
      have hall := hi181.2.2.2
      refine cS (cS (cr (mv rfl (kl_gtr rfl rfl ?_))))
      refine ln (qc (ci9 rfl (fun c192 => ?_) (fun c192 => ?_)))
      ·refine sk (qc (cS (bl (kc_tree (fun i => ([6, 8] : List Nat).contains i) [bxS b37 [.int .i64 (5 : Int), v25, .slice none 0 0, .int .i64 (0 : Int), v185] 88] (by kernel_rfl) ?_))))
       refine kt_q 0 (.cons _ (.cons _ (.cons_cons _ nsl))) rfl (by kernel_rfl) (fV rfl (ln (qq (kt_q 1 (.cons _ (.cons _ (.cons_cons _ nsl))) rfl (by kernel_rfl) (ld rfl (at_box (T := 88) (cs := [.int .i64 (5 : Int), v25, .slice none 0 0, .int .i64 (0 : Int), v185]) (off := 4) (fz := (0, 0))) (ln (qq (kt_q 2 (.cons _ (.cons _ (.cons_cons _ nsl))) rfl (by kernel_rfl) ?_))))))))
       refine mv rfl (ln (qq (kt_q 3 (.cons _ (.cons _ (.cons_cons _ nsl))) rfl (by kernel_rfl) (mv rfl (ln (qq (ta 4 rfl (cT rfl rfl (randomRow_ok q189 (z32.length : Int) (by first | assumption | omega) (by omega) hr) (fun v193 L1 Ln K197 h194 f195 f196 => ?_)))))))))
       obtain ⟨q198, h199, rfl, H202, z200, rfl, o203, h201⟩ := h194
       have f204 := f195 _ (.head _)
       refine nm ?_
       refine ln (qa (.cons _ (.cons _ (.cons _ (.cons_cons _ nsl)))) (ta 5 rfl (bs9 rfl rfl rfl (by decide) (ca (by first | exact Sl.cells ‹_› | exact OwnL.cells ‹_›) ca_nil) (fun v205 H206 f207 r208 s209 => ?_))))
       refine ln (qa (.cons _ (.cons _ (.cons _ (.cons_cons _ nsl)))) (kt_frz H202 ?_))
       have h210 := OwnL.ints o203
       refine ta 6 rfl (cm9 K186 H202 (fun c211 => ?_))
       have o212 := OwnL.mono (K' := orHp K186 H202) o183 orL
       refine aL9 z200 rfl rfl o212 ‹_› ⟨_, rfl, Sl.mono ‹_› (orC c211) (fun _ _ h => h)⟩ (oc (Sl.oneCell ‹_›) oc_nil) (by omega) (by decide) (fun v213 H214 o215 f216 => ?_)
       have f217 := f216 B f184 (Nat.le_refl _)
       refine ln (qx rfl (kt_q 7 (.cons _ (.cons _ (.cons_cons _ nsl))) rfl (by kernel_rfl) (fV rfl (ln (qq (ta 8 rfl (sB rfl rfl rfl (OwnL.oneCell ‹_›) (OwnL.cells ‹_›) ?_)))))))
       refine cg [bxS br [vbr, .int .i64 (q198 : Int)] 84, H214, bxS b37 [.int .i64 (5 : Int), v25, .slice none 0 0, .int .i64 (0 : Int), v213] 88, H34, bxS b1 [.int .i64 (0 : Int), .slice none 0 0, .slice none 0 0, .int .i64 (0 : Int), .slice none 0 0] 88] rfl ?_
       refine ln (qx rfl (kt_end (by kernel_rfl) ?_))
       refine qc (cr (mv rfl (sb9 rfl rfl (by omega) ?_)))
       refine sg rfl (ln (tk [H214, bxS br [vbr, .int .i64 (q198 : Int)] 84, bxS b37 [.int .i64 (5 : Int), v25, .slice none 0 0, .int .i64 (0 : Int), v213] 88, H34, bxS b1 [.int .i64 (0 : Int), .slice none 0 0, .slice none 0 0, .int .i64 (0 : Int), .slice none 0 0] 88] ?_))
       refine kq_roundK ((i - (1 : Int)), (out ++ [z200]), v213, H214, (orHp K186 H202), q198) (by (dsimp only; omega)) (⟨⟨by dsimp only; omega, by dsimp only; omega, by simp; omega, all_snoc hi181.2.2.2 (by omega)⟩, (fr_or f187 f204), o215, f217, (by first | omega | (dsimp only; omega))⟩) (pc 8 rfl pn) (pk [0, 4, 5, 6] rfl) rfl slr9
      ·refine ex9 (qc (cS (cr (kl_ldW rfl rfl (kl_stW (us := [.int .i64 (5 : Int), v25, .slice none 0 0, .int .i64 (0 : Int), v185]) rfl rfl rfl rfl (oc rfl (oc (OwnL.oneCell ‹_›) (oc rfl (oc rfl (oc (OwnL.oneCell ‹_›) oc_nil))))) rfl ?_)))))
       refine cg [H182, bxS br [vbr, .int .i64 (q189 : Int)] 84, bxS b37 [.int .i64 (5 : Int), v25, .slice none 0 0, .int .i64 (0 : Int), v185] 88, H34, bxS b1 [.int .i64 (5 : Int), v25, .slice none 0 0, .int .i64 (0 : Int), v185] 88] rfl ?_
       refine ln (qc (rt (kq_frz H34 ?_)))
       refine kq_frz H182 ?_
       refine kq_cmp H182 K186 (fun c218 => ?_)
       refine kq_cmp noHp (orHp H182 K186) (fun c219 => ?_)
       refine kq_cmp H34 (orHp noHp (orHp H182 K186)) (fun c220 => ?_)
       exact rC rfl rfl rfl [bxS br [vbr, .int .i64 (q189 : Int)] 84] [] (orHp H34 (orHp noHp (orHp H182 K186))) frn (fr_or f36 (fr_or (fr_no _) (fr_or f184 f187))) ⟨q189, by omega, rfl, ⟨(5 : Int), z32, [], (0 : Int), out⟩, rfl, ⟨_, rfl, _, _, _, rfl, (Sl.mono (OwnL.ints o35) (fun b o h => orL b o h) (fun _ _ h => h)), (Sl.mono Sl.nil (fun b o h => orC c220 b o (orL b o h)) (fun _ _ h => h)), (Rows.mono' (OwnL.rowsK o183 c218) (fun b o h => orC c220 b o (orC c219 b o h)))⟩, by (constructor <;> dsimp only <;> first | omega | exact all_nil | assumption | (simp; done) | (simp; omega) | (simp only [List.length_cons, List.length_nil]; omega))⟩
     ·refine cS (cr (eq9 rfl rfl ?_))
      refine sg rfl (ln (qc (ci9 rfl (fun c221 => ?_) (fun c221 => ?_))))
      ·refine cS (cr (mv rfl (cT rfl rfl (pick_ok q30 (6 : Int) (by omega) hr) (fun v222 L1 Ln K226 h223 f224 f225 => ?_))))
       obtain ⟨q227, h228, rfl, rfl, z229, rfl, h230⟩ := h223
       refine nm ?_
       refine bs9 rfl rfl rfl (by decide) (ca rfl ca_nil) (fun v233 H234 f235 r236 s237 => ?_)
       have h238 : Ints H234 v233 [z229] := litInts (xs := [z229]) (by simpa using s237)
       refine fV rfl (sB rfl rfl rfl (Sl.oneCell ‹_›) (Sl.cells ‹_›) ?_)
       refine cg [bxS br [vbr, .int .i64 (q227 : Int)] 84, bxS b37 [.int .i64 (5 : Int), v25, v233, .int .i64 (0 : Int), .slice none 0 0] 88, H34, bxS b1 [.int .i64 (0 : Int), .slice none 0 0, .slice none 0 0, .int .i64 (0 : Int), .slice none 0 0] 88] rfl ?_
       refine ln (qc (cr (mv rfl (cT rfl rfl (pick_ok q227 (4 : Int) (by omega) hr) (fun v239 L1 Ln K243 h240 f241 f242 => ?_)))))
       obtain ⟨q244, h245, rfl, rfl, z246, rfl, h247⟩ := h240
       refine nm ?_
       refine fV rfl (sB rfl rfl rfl rfl rfl ?_)
       refine cg [bxS br [vbr, .int .i64 (q244 : Int)] 84, bxS b37 [.int .i64 (5 : Int), v25, v233, .int .i64 z246, .slice none 0 0] 88, H34, bxS b1 [.int .i64 (0 : Int), .slice none 0 0, .slice none 0 0, .int .i64 (0 : Int), .slice none 0 0] 88] rfl ?_
       refine ln (qc (cS (cr (kl_ldW rfl rfl (kl_stW (us := [.int .i64 (5 : Int), v25, v233, .int .i64 z246, .slice none 0 0]) rfl rfl rfl rfl (oc rfl (oc (OwnL.oneCell ‹_›) (oc (Sl.oneCell ‹_›) (oc rfl (oc rfl oc_nil))))) rfl ?_)))))
       refine cg [bxS br [vbr, .int .i64 (q244 : Int)] 84, bxS b37 [.int .i64 (5 : Int), v25, v233, .int .i64 z246, .slice none 0 0] 88, H34, bxS b1 [.int .i64 (5 : Int), v25, v233, .int .i64 z246, .slice none 0 0] 88] rfl ?_
       refine ln (qc (rt (kq_frz H34 ?_)))
       refine kq_cmp H234 noHp (fun c250 => ?_)
       refine kq_cmp H34 (orHp H234 noHp) (fun c251 => ?_)
       exact rC rfl rfl rfl [bxS br [vbr, .int .i64 (q244 : Int)] 84] [] (orHp H34 (orHp H234 noHp)) frn (fr_or f36 (fr_or f235 (fr_no _))) ⟨q244, by omega, rfl, ⟨(5 : Int), z32, ([z229]), z246, []⟩, rfl, ⟨_, rfl, _, _, _, rfl, (Sl.mono (OwnL.ints o35) (fun b o h => orL b o h) (fun _ _ h => h)), (Sl.mono ‹_› (fun b o h => orC c251 b o (orL b o h)) (fun _ _ h => h)), (Sl.mono Sl.nil (fun b o h => orC c251 b o (orC c250 b o h)) (fun _ _ h => h))⟩, by (constructor <;> dsimp only <;> first | omega | exact all_nil | assumption | (simp; done) | (simp; omega) | (simp only [List.length_cons, List.length_nil]; omega))⟩
      ·refine cS (cr (eq9 rfl rfl ?_))
       refine sg rfl (ln (qc (ci9 rfl (fun c252 => ?_) (fun c252 => ?_))))
       ·refine cS (cS (cr (sg rfl (ln (qc (bl (kc_no ?_)))))))
        refine kc_loopL (A := Nat × List Int × Value × Hp × Nat) (fun zz => (zz.1 ≤ 8) ∧ (zz.2.1.length = zz.1) ∧ OwnL 3 1 zz.2.2.2.1 noHp IntV zz.2.2.1 zz.2.1 ∧ Fr B zz.2.2.2.1 ∧ zz.2.2.2.2 ≤ q30 + zz.1) (fun zz => 8 - zz.1) (fun zz => [zz.2.2.2.1, bxS b37 [.int .i64 (5 : Int), v25, zz.2.2.1, .int .i64 (0 : Int), .slice none 0 0] 88, bxS br [vbr, .int .i64 (zz.2.2.2.2 : Int)] 84, H34, bxS b1 [.int .i64 (0 : Int), .slice none 0 0, .slice none 0 0, .int .i64 (0 : Int), .slice none 0 0] 88]) (fun zz => [(9, .int .i64 (zz.1 : Int))]) (0, [], .slice none 0 0, noHp, q30) (pk [0, 4, 5, 6] rfl) (pc 9 rfl pn) rfl ⟨Nat.zero_le _, rfl, OwnL.nil, (fr_no _), (by first | omega | (dsimp only; omega))⟩ ?_
        rintro ⟨i, out, v258, H255, q260⟩ hJ262
        obtain ⟨hk253, hi254, o256, f257, hq261⟩ : (i ≤ 8) ∧ (out.length = i) ∧ OwnL 3 1 H255 noHp IntV v258 out ∧ Fr B H255 ∧ q260 ≤ q30 + i := hJ262
        change KC _ _ (_) [H255, bxS b37 [.int .i64 (5 : Int), v25, v258, .int .i64 (0 : Int), .slice none 0 0] 88, bxS br [vbr, .int .i64 (q260 : Int)] 84, H34, bxS b1 [.int .i64 (0 : Int), .slice none 0 0, .slice none 0 0, .int .i64 (0 : Int), .slice none 0 0] 88] _ ([(9, .int .i64 (i : Int))] ++ _)
        refine cS (cS (cr (mv rfl (mv rfl (kl_mul rfl rfl (by omega) ?_)))))
        refine ls9 rfl rfl ?_
        refine ln (qc (ci9 rfl (fun c263 => ?_) (fun c263 => ?_)))
        ·refine sk (qc (cS (bl (kc_tree (fun i => ([5, 7] : List Nat).contains i) [bxS b37 [.int .i64 (5 : Int), v25, v258, .int .i64 (0 : Int), .slice none 0 0] 88] (by kernel_rfl) ?_))))
         refine kt_q 0 (.cons _ (.cons_cons _ nsl)) rfl (by kernel_rfl) (fV rfl (ln (qq (kt_q 1 (.cons _ (.cons_cons _ nsl)) rfl (by kernel_rfl) (ld rfl (at_box (T := 88) (cs := [.int .i64 (5 : Int), v25, v258, .int .i64 (0 : Int), .slice none 0 0]) (off := 2) (fz := (0, 0))) (ln (qq (kt_q 2 (.cons _ (.cons_cons _ nsl)) rfl (by kernel_rfl) ?_))))))))
         refine mv rfl (ln (qq (ta 3 rfl (cT rfl rfl (pick_ok q260 (4 : Int) (by omega) hr) (fun v264 L1 Ln K268 h265 f266 f267 => ?_)))))
         obtain ⟨q269, h270, rfl, rfl, z271, rfl, h272⟩ := h265
         refine nm ?_
         refine ln (qa (.cons _ (.cons _ (.cons_cons _ nsl))) (ta 4 rfl (bs9 rfl rfl rfl (by decide) (ca rfl ca_nil) (fun v275 H276 f277 r278 s279 => ?_))))
         have h280 : Ints H276 v275 [z271] := litInts (xs := [z271]) (by simpa using s279)
         refine ln (qa (.cons _ (.cons _ (.cons_cons _ nsl))) (ta 5 rfl (aL9 z271 rfl rfl o256 ‹_› rfl (oc rfl oc_nil) (by omega) (by decide) (fun v281 H282 o283 f284 => ?_))))
         have f285 := f284 B f257 (Nat.le_refl _)
         refine ln (qx rfl (kt_q 6 (.cons _ (.cons _ (.cons_cons _ nsl))) rfl (by kernel_rfl) (fV rfl (ln (qq (ta 7 rfl (sB rfl rfl rfl (OwnL.oneCell ‹_›) (OwnL.cells ‹_›) ?_)))))))
         refine cg [bxS br [vbr, .int .i64 (q269 : Int)] 84, H282, bxS b37 [.int .i64 (5 : Int), v25, v281, .int .i64 (0 : Int), .slice none 0 0] 88, H34, bxS b1 [.int .i64 (0 : Int), .slice none 0 0, .slice none 0 0, .int .i64 (0 : Int), .slice none 0 0] 88] rfl ?_
         refine ln (qx rfl (kt_end (by kernel_rfl) ?_))
         refine qc (cr (mv rfl (ic9 rfl rfl (by omega) ?_)))
         refine sg rfl (ln (tk [H282, bxS b37 [.int .i64 (5 : Int), v25, v281, .int .i64 (0 : Int), .slice none 0 0] 88, bxS br [vbr, .int .i64 (q269 : Int)] 84, H34, bxS b1 [.int .i64 (0 : Int), .slice none 0 0, .slice none 0 0, .int .i64 (0 : Int), .slice none 0 0] 88] ?_))
         refine rL ((i + 1), (out ++ [z271]), v281, H282, q269) (by omega) (⟨by omega, (by simp; omega), o283, f285, (by first | omega | (dsimp only; omega))⟩) (pc 9 rfl pn) (pk [0, 4, 5, 6] rfl) rfl slr9
        ·refine ex9 (qc (cr (mv rfl (cT rfl rfl (pick_ok q260 (4 : Int) (by omega) hr) (fun v286 L1 Ln K290 h287 f288 f289 => ?_)))))
         obtain ⟨q291, h292, rfl, rfl, z293, rfl, h294⟩ := h287
         refine nm ?_
         refine ad9 rfl rfl (by omega) ?_
         refine fV rfl (sB rfl rfl rfl rfl rfl ?_)
         refine cg [bxS br [vbr, .int .i64 (q291 : Int)] 84, H255, bxS b37 [.int .i64 (5 : Int), v25, v258, .int .i64 ((1 : Int) + z293), .slice none 0 0] 88, H34, bxS b1 [.int .i64 (0 : Int), .slice none 0 0, .slice none 0 0, .int .i64 (0 : Int), .slice none 0 0] 88] rfl ?_
         refine ln (qc (cS (cr (kl_ldW rfl rfl (kl_stW (us := [.int .i64 (5 : Int), v25, v258, .int .i64 ((1 : Int) + z293), .slice none 0 0]) rfl rfl rfl rfl (oc rfl (oc (OwnL.oneCell ‹_›) (oc (OwnL.oneCell ‹_›) (oc rfl (oc rfl oc_nil))))) rfl ?_)))))
         refine cg [bxS br [vbr, .int .i64 (q291 : Int)] 84, H255, bxS b37 [.int .i64 (5 : Int), v25, v258, .int .i64 ((1 : Int) + z293), .slice none 0 0] 88, H34, bxS b1 [.int .i64 (5 : Int), v25, v258, .int .i64 ((1 : Int) + z293), .slice none 0 0] 88] rfl ?_
         refine ln (qc (rt (kq_frz H34 ?_)))
         refine kq_frz H255 ?_
         refine kq_cmp H255 noHp (fun c297 => ?_)
         refine kq_cmp H34 (orHp H255 noHp) (fun c298 => ?_)
         exact rC rfl rfl rfl [bxS br [vbr, .int .i64 (q291 : Int)] 84] [] (orHp H34 (orHp H255 noHp)) frn (fr_or f36 (fr_or f257 (fr_no _))) ⟨q291, by omega, rfl, ⟨(5 : Int), z32, out, ((1 : Int) + z293), []⟩, rfl, ⟨_, rfl, _, _, _, rfl, (Sl.mono (OwnL.ints o35) (fun b o h => orL b o h) (fun _ _ h => h)), (Sl.mono (OwnL.ints o256) (fun b o h => orC c298 b o (orL b o h)) (fun _ _ h => h)), (Sl.mono Sl.nil (fun b o h => orC c298 b o (orC c297 b o h)) (fun _ _ h => h))⟩, by (constructor <;> dsimp only <;> first | omega | exact all_nil | assumption | (simp; done) | (simp; omega) | (simp only [List.length_cons, List.length_nil]; omega))⟩
       ·refine cS (cr (eq9 rfl rfl ?_))
        refine sg rfl (ln (qc (ci9 rfl (fun c299 => ?_) (fun c299 => ?_))))
        ·refine cS (cr (mv rfl (mv rfl (cT rfl rfl (pick_ok q30 (3 : Int) (by omega) hr) (fun v300 L1 Ln K304 h301 f302 f303 => ?_)))))
         obtain ⟨q305, h306, rfl, rfl, z307, rfl, h308⟩ := h301
         refine nm ?_
         refine ad9 rfl rfl (by omega) ?_
         refine cT rfl rfl (randomAutomaton_ok q305 ((1 : Int) + z307) (by first | assumption | omega) (by omega) hr) (fun v311 L1 Ln K315 h312 f313 f314 => ?_)
         obtain ⟨q316, h317, rfl, H320, z318, rfl, o321, h319⟩ := h312
         have f322 := f313 _ (.head _)
         have h319a := h319.1
         have h319b := h319.2
         refine nm ?_
         refine fV rfl (sB rfl rfl rfl (OwnL.oneCell ‹_›) (OwnL.cells ‹_›) ?_)
         refine cg [bxS br [vbr, .int .i64 (q316 : Int)] 84, H320, bxS b37 [.int .i64 (5 : Int), v25, .slice none 0 0, .int .i64 (0 : Int), v311] 88, H34, bxS b1 [.int .i64 (0 : Int), .slice none 0 0, .slice none 0 0, .int .i64 (0 : Int), .slice none 0 0] 88] rfl ?_
         refine ln (qc (cr (fV rfl (lB rfl rfl (lL rfl o321 (fun l323 => ?_))))))
         refine sb9 rfl rfl (by omega) ?_
         refine bs9 rfl rfl rfl (by decide) (ca rfl ca_nil) (fun v324 H325 f326 r327 s328 => ?_)
         have h329 : Ints H325 v324 [((z318.length : Int) - (1 : Int))] := litInts (xs := [((z318.length : Int) - (1 : Int))]) (by simpa using s328)
         refine fV rfl (sB rfl rfl rfl (Sl.oneCell ‹_›) (Sl.cells ‹_›) ?_)
         refine cg [bxS br [vbr, .int .i64 (q316 : Int)] 84, H320, bxS b37 [.int .i64 (5 : Int), v25, v324, .int .i64 (0 : Int), v311] 88, H34, bxS b1 [.int .i64 (0 : Int), .slice none 0 0, .slice none 0 0, .int .i64 (0 : Int), .slice none 0 0] 88] rfl ?_
         refine ln (qc (cS (cr (kl_ldW rfl rfl (kl_stW (us := [.int .i64 (5 : Int), v25, v324, .int .i64 (0 : Int), v311]) rfl rfl rfl rfl (oc rfl (oc (OwnL.oneCell ‹_›) (oc (Sl.oneCell ‹_›) (oc rfl (oc (OwnL.oneCell ‹_›) oc_nil))))) rfl ?_)))))
         refine cg [bxS br [vbr, .int .i64 (q316 : Int)] 84, H320, bxS b37 [.int .i64 (5 : Int), v25, v324, .int .i64 (0 : Int), v311] 88, H34, bxS b1 [.int .i64 (5 : Int), v25, v324, .int .i64 (0 : Int), v311] 88] rfl ?_
         refine ln (qc (rt (kq_frz H34 ?_)))
         refine kq_frz H320 ?_
         refine kq_cmp H320 K315 (fun c330 => ?_)
         refine kq_cmp H325 (orHp H320 K315) (fun c331 => ?_)
         refine kq_cmp H34 (orHp H325 (orHp H320 K315)) (fun c332 => ?_)
         exact rC rfl rfl rfl [bxS br [vbr, .int .i64 (q316 : Int)] 84] [] (orHp H34 (orHp H325 (orHp H320 K315))) frn (fr_or f36 (fr_or f326 (fr_or f322 f314))) ⟨q316, by omega, rfl, ⟨(5 : Int), z32, ([((z318.length : Int) - (1 : Int))]), (0 : Int), z318⟩, rfl, ⟨_, rfl, _, _, _, rfl, (Sl.mono (OwnL.ints o35) (fun b o h => orL b o h) (fun _ _ h => h)), (Sl.mono ‹_› (fun b o h => orC c332 b o (orL b o h)) (fun _ _ h => h)), (Rows.mono' (OwnL.rowsK o321 c330) (fun b o h => orC c332 b o (orC c331 b o h)))⟩, by (constructor <;> dsimp only <;> first | omega | exact all_nil | assumption | (simp; done) | (simp; omega) | (simp only [List.length_cons, List.length_nil]; omega))⟩
        ·refine sk (qc (cS (cr (kl_ldW rfl rfl (kl_stW (us := [.int .i64 (5 : Int), v25, .slice none 0 0, .int .i64 (0 : Int), .slice none 0 0]) rfl rfl rfl rfl (oc rfl (oc (OwnL.oneCell ‹_›) (oc rfl (oc rfl (oc rfl oc_nil))))) rfl ?_)))))
         refine cg [bxS b37 [.int .i64 (5 : Int), v25, .slice none 0 0, .int .i64 (0 : Int), .slice none 0 0] 88, bxS br [vbr, .int .i64 (q30 : Int)] 84, H34, bxS b1 [.int .i64 (5 : Int), v25, .slice none 0 0, .int .i64 (0 : Int), .slice none 0 0] 88] rfl ?_
         refine ln (qc (rt (kq_frz H34 ?_)))
         refine kq_cmp noHp noHp (fun c333 => ?_)
         refine kq_cmp H34 (orHp noHp noHp) (fun c334 => ?_)
         exact rC rfl rfl rfl [bxS br [vbr, .int .i64 (q30 : Int)] 84] [] (orHp H34 (orHp noHp noHp)) frn (fr_or f36 (fr_or (fr_no _) (fr_no _))) ⟨q30, by omega, rfl, ⟨(5 : Int), z32, [], (0 : Int), []⟩, rfl, ⟨_, rfl, _, _, _, rfl, (Sl.mono (OwnL.ints o35) (fun b o h => orL b o h) (fun _ _ h => h)), (Sl.mono Sl.nil (fun b o h => orC c334 b o (orL b o h)) (fun _ _ h => h)), (Sl.mono Sl.nil (fun b o h => orC c334 b o (orC c333 b o h)) (fun _ _ h => h))⟩, by (constructor <;> dsimp only <;> first | omega | exact all_nil | assumption | (simp; done) | (simp; omega) | (simp only [List.length_cons, List.length_nil]; omega))⟩
 ·have c43r := c43
  try simp only [smpE] at c43
  refine sk (qc (cS (cr (fV rfl (lB rfl rfl (lL rfl o35 (fun l335 => ?_)))))))
  refine sg rfl (ln (qc (cS (cS (cr (fV rfl (lB rfl rfl (ln (qc (bl (cS (cr ?_))))))))))))
  refine eq9 rfl rfl ?_
  refine sg rfl (ln (qc (ci9 rfl (fun c336 => ?_) (fun c336 => ?_))))
  ·refine cS (cS (cr (sg rfl (ln (qc (bl (kc_no ?_)))))))
   refine kc_loopL (A := Nat × List Int × Value × Hp × Nat) (fun zz => (zz.1 ≤ z32.length) ∧ (zz.2.1.length = zz.1) ∧ OwnL 3 1 zz.2.2.2.1 noHp IntV zz.2.2.1 zz.2.1 ∧ Fr B zz.2.2.2.1 ∧ zz.2.2.2.2 ≤ q30 + zz.1) (fun zz => z32.length - zz.1) (fun zz => [zz.2.2.2.1, bxS b37 [.int .i64 ((1 : Int) + z21), v25, zz.2.2.1, .int .i64 (0 : Int), .slice none 0 0] 88, bxS br [vbr, .int .i64 (zz.2.2.2.2 : Int)] 84, H34, bxS b1 [.int .i64 (0 : Int), .slice none 0 0, .slice none 0 0, .int .i64 (0 : Int), .slice none 0 0] 88]) (fun zz => [(7, .int .i64 (zz.1 : Int))]) (0, [], .slice none 0 0, noHp, q30) (pk [0, 4, 5, 6] rfl) (pc 7 rfl pn) rfl ⟨Nat.zero_le _, rfl, OwnL.nil, (fr_no _), (by first | omega | (dsimp only; omega))⟩ ?_
   rintro ⟨i, out, v342, H339, q344⟩ hJ346
   obtain ⟨hk337, hi338, o340, f341, hq345⟩ : (i ≤ z32.length) ∧ (out.length = i) ∧ OwnL 3 1 H339 noHp IntV v342 out ∧ Fr B H339 ∧ q344 ≤ q30 + i := hJ346
   change KC _ _ (_) [H339, bxS b37 [.int .i64 ((1 : Int) + z21), v25, v342, .int .i64 (0 : Int), .slice none 0 0] 88, bxS br [vbr, .int .i64 (q344 : Int)] 84, H34, bxS b1 [.int .i64 (0 : Int), .slice none 0 0, .slice none 0 0, .int .i64 (0 : Int), .slice none 0 0] 88] _ ([(7, .int .i64 (i : Int))] ++ _)
   refine cS (cS (cr (mv rfl (mv rfl (ls9 rfl rfl ?_)))))
   refine ln (qc (ci9 rfl (fun c347 => ?_) (fun c347 => ?_)))
   ·refine sk (qc (cS (bl (kc_tree (fun i => ([6, 8] : List Nat).contains i) [bxS b37 [.int .i64 ((1 : Int) + z21), v25, v342, .int .i64 (0 : Int), .slice none 0 0] 88] (by kernel_rfl) ?_))))
    refine kt_q 0 (.cons _ (.cons_cons _ nsl)) rfl (by kernel_rfl) (fV rfl (ln (qq (kt_q 1 (.cons _ (.cons_cons _ nsl)) rfl (by kernel_rfl) (ld rfl (at_box (T := 88) (cs := [.int .i64 ((1 : Int) + z21), v25, v342, .int .i64 (0 : Int), .slice none 0 0]) (off := 2) (fz := (0, 0))) (ln (qq (kt_q 2 (.cons _ (.cons_cons _ nsl)) rfl (by kernel_rfl) ?_))))))))
    refine mv rfl (ln (qq (ta 3 rfl (bs9 rfl rfl rfl (by decide) (ca rfl (ca rfl (ca rfl (ca rfl (ca rfl (ca rfl ca_nil)))))) (fun v348 H349 f350 r351 s352 => ?_)))))
    have h353 : Ints H349 v348 [(1 : Int), (1 : Int), (-1 : Int), (2 : Int), (-3 : Int), (0 : Int)] := litInts (xs := [(1 : Int), (1 : Int), (-1 : Int), (2 : Int), (-3 : Int), (0 : Int)]) (by simpa using s352)
    refine ln (qa (.cons _ (.cons_cons _ nsl)) (ta 4 rfl (cT rfl rfl (one_ok q344 ([(1 : Int), (1 : Int), (-1 : Int), (2 : Int), (-3 : Int), (0 : Int)]) (by first | (simp; done) | omega) (by omega) hr ‹_›) (fun v354 L1 Ln K358 h355 f356 f357 => ?_))))
    obtain ⟨q359, h360, rfl, rfl, z361, rfl, h362⟩ := h355
    refine nm ?_
    refine ln (qa (.cons _ (.cons _ (.cons_cons _ nsl))) (ta 5 rfl (bs9 rfl rfl rfl (by decide) (ca rfl ca_nil) (fun v365 H366 f367 r368 s369 => ?_))))
    have h370 : Ints H366 v365 [z361] := litInts (xs := [z361]) (by simpa using s369)
    refine ln (qa (.cons _ (.cons _ (.cons_cons _ nsl))) (ta 6 rfl (aL9 z361 rfl rfl o340 ‹_› rfl (oc rfl oc_nil) (by omega) (by decide) (fun v371 H372 o373 f374 => ?_))))
    have f375 := f374 B f341 (Nat.le_refl _)
    refine ln (qx rfl (kt_q 7 (.cons _ (.cons _ (.cons_cons _ nsl))) rfl (by kernel_rfl) (fV rfl (ln (qq (ta 8 rfl (sB rfl rfl rfl (OwnL.oneCell ‹_›) (OwnL.cells ‹_›) ?_)))))))
    refine cg [bxS br [vbr, .int .i64 (q359 : Int)] 84, H372, bxS b37 [.int .i64 ((1 : Int) + z21), v25, v371, .int .i64 (0 : Int), .slice none 0 0] 88, H34, bxS b1 [.int .i64 (0 : Int), .slice none 0 0, .slice none 0 0, .int .i64 (0 : Int), .slice none 0 0] 88] rfl ?_
    refine ln (qx rfl (kt_end (by kernel_rfl) ?_))
    refine qc (cr (mv rfl (ic9 rfl rfl (by omega) ?_)))
    refine sg rfl (ln (tk [H372, bxS b37 [.int .i64 ((1 : Int) + z21), v25, v371, .int .i64 (0 : Int), .slice none 0 0] 88, bxS br [vbr, .int .i64 (q359 : Int)] 84, H34, bxS b1 [.int .i64 (0 : Int), .slice none 0 0, .slice none 0 0, .int .i64 (0 : Int), .slice none 0 0] 88] ?_))
    refine rL ((i + 1), (out ++ [z361]), v371, H372, q359) (by omega) (⟨by omega, (by simp; omega), o373, f375, (by first | omega | (dsimp only; omega))⟩) (pc 7 rfl pn) (pk [0, 4, 5, 6] rfl) rfl slr9
   ·refine ex9 (qc (cr (mv rfl (cT rfl rfl (pick_ok q344 (14 : Int) (by omega) hr) (fun v376 L1 Ln K380 h377 f378 f379 => ?_)))))
    obtain ⟨q381, h382, rfl, rfl, z383, rfl, h384⟩ := h377
    refine nm ?_
    refine sb9 rfl rfl (by omega) ?_
    refine fV rfl (sB rfl rfl rfl rfl rfl ?_)
    refine cg [bxS br [vbr, .int .i64 (q381 : Int)] 84, H339, bxS b37 [.int .i64 ((1 : Int) + z21), v25, v342, .int .i64 (z383 - (4 : Int)), .slice none 0 0] 88, H34, bxS b1 [.int .i64 (0 : Int), .slice none 0 0, .slice none 0 0, .int .i64 (0 : Int), .slice none 0 0] 88] rfl ?_
    refine ln (qc (cS (cr (kl_ldW rfl rfl (kl_stW (us := [.int .i64 ((1 : Int) + z21), v25, v342, .int .i64 (z383 - (4 : Int)), .slice none 0 0]) rfl rfl rfl rfl (oc rfl (oc (OwnL.oneCell ‹_›) (oc (OwnL.oneCell ‹_›) (oc rfl (oc rfl oc_nil))))) rfl ?_)))))
    refine cg [bxS br [vbr, .int .i64 (q381 : Int)] 84, H339, bxS b37 [.int .i64 ((1 : Int) + z21), v25, v342, .int .i64 (z383 - (4 : Int)), .slice none 0 0] 88, H34, bxS b1 [.int .i64 ((1 : Int) + z21), v25, v342, .int .i64 (z383 - (4 : Int)), .slice none 0 0] 88] rfl ?_
    refine ln (qc (rt (kq_frz H34 ?_)))
    refine kq_frz H339 ?_
    refine kq_cmp H339 noHp (fun c387 => ?_)
    refine kq_cmp H34 (orHp H339 noHp) (fun c388 => ?_)
    exact rC rfl rfl rfl [bxS br [vbr, .int .i64 (q381 : Int)] 84] [] (orHp H34 (orHp H339 noHp)) frn (fr_or f36 (fr_or f341 (fr_no _))) ⟨q381, by omega, rfl, ⟨((1 : Int) + z21), z32, out, (z383 - (4 : Int)), []⟩, rfl, ⟨_, rfl, _, _, _, rfl, (Sl.mono (OwnL.ints o35) (fun b o h => orL b o h) (fun _ _ h => h)), (Sl.mono (OwnL.ints o340) (fun b o h => orC c388 b o (orL b o h)) (fun _ _ h => h)), (Sl.mono Sl.nil (fun b o h => orC c388 b o (orC c387 b o h)) (fun _ _ h => h))⟩, by (constructor <;> dsimp only <;> first | omega | exact all_nil | assumption | (simp; done) | (simp; omega) | (simp only [List.length_cons, List.length_nil]; omega))⟩
  ·refine cS (cr (eq9 rfl rfl ?_))
   refine sg rfl (ln (qc (ci9 rfl (fun c389 => ?_) (fun c389 => ?_))))
   ·refine cS (cr (mv rfl (mv rfl (cT rfl rfl (someVars_ok q30 n (2 : Int) (by first | assumption | omega) (by first | assumption | omega) (by omega) hr) (fun v390 L1 Ln K394 h391 f392 f393 => ?_)))))
    obtain ⟨q395, h396, rfl, H399, z397, rfl, o400, h398⟩ := h391
    have f401 := f392 _ (.head _)
    refine nm ?_
    refine fV rfl (sB rfl rfl rfl (OwnL.oneCell ‹_›) (OwnL.cells ‹_›) ?_)
    refine cg [bxS br [vbr, .int .i64 (q395 : Int)] 84, H399, bxS b37 [.int .i64 ((1 : Int) + z21), v390, .slice none 0 0, .int .i64 (0 : Int), .slice none 0 0] 88, H34, bxS b1 [.int .i64 (0 : Int), .slice none 0 0, .slice none 0 0, .int .i64 (0 : Int), .slice none 0 0] 88] rfl ?_
    refine ln (qc (cr (mv rfl (cT rfl rfl (pick_ok q395 (5 : Int) (by omega) hr) (fun v402 L1 Ln K406 h403 f404 f405 => ?_)))))
    obtain ⟨q407, h408, rfl, rfl, z409, rfl, h410⟩ := h403
    refine nm ?_
    refine sb9 rfl rfl (by omega) ?_
    refine bs9 rfl rfl rfl (by decide) (ca rfl ca_nil) (fun v413 H414 f415 r416 s417 => ?_)
    have h418 : Ints H414 v413 [(z409 - (2 : Int))] := litInts (xs := [(z409 - (2 : Int))]) (by simpa using s417)
    refine fV rfl (sB rfl rfl rfl (Sl.oneCell ‹_›) (Sl.cells ‹_›) ?_)
    refine cg [bxS br [vbr, .int .i64 (q407 : Int)] 84, H399, bxS b37 [.int .i64 ((1 : Int) + z21), v390, v413, .int .i64 (0 : Int), .slice none 0 0] 88, H34, bxS b1 [.int .i64 (0 : Int), .slice none 0 0, .slice none 0 0, .int .i64 (0 : Int), .slice none 0 0] 88] rfl ?_
    refine ln (qc (cS (cr (kl_ldW rfl rfl (kl_stW (us := [.int .i64 ((1 : Int) + z21), v390, v413, .int .i64 (0 : Int), .slice none 0 0]) rfl rfl rfl rfl (oc rfl (oc (OwnL.oneCell ‹_›) (oc (Sl.oneCell ‹_›) (oc rfl (oc rfl oc_nil))))) rfl ?_)))))
    refine cg [bxS br [vbr, .int .i64 (q407 : Int)] 84, H399, bxS b37 [.int .i64 ((1 : Int) + z21), v390, v413, .int .i64 (0 : Int), .slice none 0 0] 88, H34, bxS b1 [.int .i64 ((1 : Int) + z21), v390, v413, .int .i64 (0 : Int), .slice none 0 0] 88] rfl ?_
    refine ln (qc (rt (kq_frz H399 ?_)))
    refine kq_cmp H414 noHp (fun c419 => ?_)
    refine kq_cmp H399 (orHp H414 noHp) (fun c420 => ?_)
    exact rC rfl rfl rfl [bxS br [vbr, .int .i64 (q407 : Int)] 84] [] (orHp H399 (orHp H414 noHp)) frn (fr_or f401 (fr_or f415 (fr_no _))) ⟨q407, by omega, rfl, ⟨((1 : Int) + z21), z397, ([(z409 - (2 : Int))]), (0 : Int), []⟩, rfl, ⟨_, rfl, _, _, _, rfl, (Sl.mono (OwnL.ints o400) (fun b o h => orL b o h) (fun _ _ h => h)), (Sl.mono ‹_› (fun b o h => orC c420 b o (orL b o h)) (fun _ _ h => h)), (Sl.mono Sl.nil (fun b o h => orC c420 b o (orC c419 b o h)) (fun _ _ h => h))⟩, by (constructor <;> dsimp only <;> first | omega | exact all_nil | assumption | (simp; done) | (simp; omega) | (simp only [List.length_cons, List.length_nil]; omega))⟩
   ·refine cS (cr (eq9 rfl rfl ?_))
    refine sg rfl (ln (qc (ci9 rfl (fun c421 => ?_) (fun c421 => ?_))))
    ·refine cS (cr (mv rfl (mv rfl (cT rfl rfl (someVars_ok q30 n (2 : Int) (by first | assumption | omega) (by first | assumption | omega) (by omega) hr) (fun v422 L1 Ln K426 h423 f424 f425 => ?_)))))
     obtain ⟨q427, h428, rfl, H431, z429, rfl, o432, h430⟩ := h423
     have f433 := f424 _ (.head _)
     refine nm ?_
     refine fV rfl (sB rfl rfl rfl (OwnL.oneCell ‹_›) (OwnL.cells ‹_›) ?_)
     refine cg [bxS br [vbr, .int .i64 (q427 : Int)] 84, H431, bxS b37 [.int .i64 ((1 : Int) + z21), v422, .slice none 0 0, .int .i64 (0 : Int), .slice none 0 0] 88, H34, bxS b1 [.int .i64 (0 : Int), .slice none 0 0, .slice none 0 0, .int .i64 (0 : Int), .slice none 0 0] 88] rfl ?_
     refine ln (qc (cr (mv rfl (mv rfl (cT rfl rfl (pick_ok q427 (6 : Int) (by omega) hr) (fun v434 L1 Ln K438 h435 f436 f437 => ?_))))))
     obtain ⟨q439, h440, rfl, rfl, z441, rfl, h442⟩ := h435
     refine nm ?_
     refine ad9 rfl rfl (by omega) ?_
     refine cT rfl rfl (randomRow_ok q439 ((1 : Int) + z441) (by first | assumption | omega) (by omega) hr) (fun v445 L1 Ln K449 h446 f447 f448 => ?_)
     obtain ⟨q450, h451, rfl, H454, z452, rfl, o455, h453⟩ := h446
     have f456 := f447 _ (.head _)
     refine nm ?_
     refine fV rfl (sB rfl rfl rfl (OwnL.oneCell ‹_›) (OwnL.cells ‹_›) ?_)
     refine cg [bxS br [vbr, .int .i64 (q450 : Int)] 84, H454, H431, bxS b37 [.int .i64 ((1 : Int) + z21), v422, v445, .int .i64 (0 : Int), .slice none 0 0] 88, H34, bxS b1 [.int .i64 (0 : Int), .slice none 0 0, .slice none 0 0, .int .i64 (0 : Int), .slice none 0 0] 88] rfl ?_
     refine ln (qc (cS (cr (kl_ldW rfl rfl (kl_stW (us := [.int .i64 ((1 : Int) + z21), v422, v445, .int .i64 (0 : Int), .slice none 0 0]) rfl rfl rfl rfl (oc rfl (oc (OwnL.oneCell ‹_›) (oc (OwnL.oneCell ‹_›) (oc rfl (oc rfl oc_nil))))) rfl ?_)))))
     refine cg [bxS br [vbr, .int .i64 (q450 : Int)] 84, H454, H431, bxS b37 [.int .i64 ((1 : Int) + z21), v422, v445, .int .i64 (0 : Int), .slice none 0 0] 88, H34, bxS b1 [.int .i64 ((1 : Int) + z21), v422, v445, .int .i64 (0 : Int), .slice none 0 0] 88] rfl ?_
     refine ln (qc (rt (kq_frz H431 ?_)))
     refine kq_frz H454 ?_
     refine kq_cmp H454 noHp (fun c457 => ?_)
     refine kq_cmp H431 (orHp H454 noHp) (fun c458 => ?_)
     exact rC rfl rfl rfl [bxS br [vbr, .int .i64 (q450 : Int)] 84] [] (orHp H431 (orHp H454 noHp)) frn (fr_or f433 (fr_or f456 (fr_no _))) ⟨q450, by omega, rfl, ⟨((1 : Int) + z21), z429, z452, (0 : Int), []⟩, rfl, ⟨_, rfl, _, _, _, rfl, (Sl.mono (OwnL.ints o432) (fun b o h => orL b o h) (fun _ _ h => h)), (Sl.mono (OwnL.ints o455) (fun b o h => orC c458 b o (orL b o h)) (fun _ _ h => h)), (Sl.mono Sl.nil (fun b o h => orC c458 b o (orC c457 b o h)) (fun _ _ h => h))⟩, by (constructor <;> dsimp only <;> first | omega | exact all_nil | assumption | (simp; done) | (simp; omega) | (simp only [List.length_cons, List.length_nil]; omega))⟩
    ·refine cS (cr (eq9 rfl rfl ?_))
     refine sg rfl (ln (qc (ci9 rfl (fun c459 => ?_) (fun c459 => ?_))))
     ·refine cS (cr (mv rfl (cT rfl rfl (pick_ok q30 (6 : Int) (by omega) hr) (fun v460 L1 Ln K464 h461 f462 f463 => ?_))))
      obtain ⟨q465, h466, rfl, rfl, z467, rfl, h468⟩ := h461
      refine nm ?_
      refine ad9 rfl rfl (by omega) ?_
      refine sg rfl (ln (qc (bl (kc_no ?_))))
      refine kc_loopK (A := Int × List (List Int) × Value × Hp × Hp × Nat) (fun zz => (0 ≤ zz.1 ∧ zz.1 ≤ 6 ∧ zz.2.1.length + zz.1.toNat ≤ 6 ∧ ∀ r ∈ zz.2.1, r.length ≤ 12) ∧ Fr B zz.2.2.2.2.1 ∧ OwnL 23 1 zz.2.2.2.1 zz.2.2.2.2.1 RowV zz.2.2.1 zz.2.1 ∧ Fr B zz.2.2.2.1 ∧ zz.2.2.2.2.2 ≤ q465 + 12 * (6 - zz.1).toNat) (fun zz => zz.1.toNat) (fun zz => zz.2.2.2.2.1) (fun zz => [zz.2.2.2.1, bxS br [vbr, .int .i64 (zz.2.2.2.2.2 : Int)] 84, bxS b37 [.int .i64 ((1 : Int) + z21), v25, .slice none 0 0, .int .i64 (0 : Int), zz.2.2.1] 88, H34, bxS b1 [.int .i64 (0 : Int), .slice none 0 0, .slice none 0 0, .int .i64 (0 : Int), .slice none 0 0] 88]) (fun zz => [(8, .int .i64 zz.1)]) (((1 : Int) + z467), [], .slice none 0 0, noHp, noHp, q465) (pk [0, 4, 5, 6] rfl) (pc 8 rfl pn) rfl ⟨⟨by dsimp only; omega, by dsimp only; omega, by dsimp only; simp; omega, all_nil⟩, (fr_no _), OwnL.nil, (fr_no _), (by first | omega | (dsimp only; omega))⟩ ?_
      rintro ⟨i, out, v476, H473, K477, q480⟩ hJ482
      obtain ⟨hi472, f478, o474, f475, hq481⟩ : (0 ≤ i ∧ i ≤ 6 ∧ out.length + i.toNat ≤ 6 ∧ ∀ r ∈ out, r.length ≤ 12) ∧ Fr B K477 ∧ OwnL 23 1 H473 K477 RowV v476 out ∧ Fr B H473 ∧ q480 ≤ q465 + 12 * (6 - i).toNat := hJ482
      change KC _ _ (K477 :: _) [H473, bxS br [vbr, .int .i64 (q480 : Int)] 84, bxS b37 [.int .i64 ((1 : Int) + z21), v25, .slice none 0 0, .int .i64 (0 : Int), v476] 88, H34, bxS b1 [.int .i64 (0 : Int), .slice none 0 0, .slice none 0 0, .int .i64 (0 : Int), .slice none 0 0] 88] _ ([(8, .int .i64 i)] ++ _)
      have hall := hi472.2.2.2
      refine cS (cS (cr (mv rfl (kl_gtr rfl rfl ?_))))
      refine ln (qc (ci9 rfl (fun c483 => ?_) (fun c483 => ?_)))
      ·refine sk (qc (cS (bl (kc_tree (fun i => ([6, 8] : List Nat).contains i) [bxS b37 [.int .i64 ((1 : Int) + z21), v25, .slice none 0 0, .int .i64 (0 : Int), v476] 88] (by kernel_rfl) ?_))))
       refine kt_q 0 (.cons _ (.cons _ (.cons_cons _ nsl))) rfl (by kernel_rfl) (fV rfl (ln (qq (kt_q 1 (.cons _ (.cons _ (.cons_cons _ nsl))) rfl (by kernel_rfl) (ld rfl (at_box (T := 88) (cs := [.int .i64 ((1 : Int) + z21), v25, .slice none 0 0, .int .i64 (0 : Int), v476]) (off := 4) (fz := (0, 0))) (ln (qq (kt_q 2 (.cons _ (.cons _ (.cons_cons _ nsl))) rfl (by kernel_rfl) ?_))))))))
       refine mv rfl (ln (qq (kt_q 3 (.cons _ (.cons _ (.cons_cons _ nsl))) rfl (by kernel_rfl) (mv rfl (ln (qq (ta 4 rfl (cT rfl rfl (randomRow_ok q480 (z32.length : Int) (by first | assumption | omega) (by omega) hr) (fun v484 L1 Ln K488 h485 f486 f487 => ?_)))))))))
       obtain ⟨q489, h490, rfl, H493, z491, rfl, o494, h492⟩ := h485
       have f495 := f486 _ (.head _)
       refine nm ?_
       refine ln (qa (.cons _ (.cons _ (.cons _ (.cons_cons _ nsl)))) (ta 5 rfl (bs9 rfl rfl rfl (by decide) (ca (by first | exact Sl.cells ‹_› | exact OwnL.cells ‹_›) ca_nil) (fun v496 H497 f498 r499 s500 => ?_))))
       refine ln (qa (.cons _ (.cons _ (.cons _ (.cons_cons _ nsl)))) (kt_frz H493 ?_))
       have h501 := OwnL.ints o494
       refine ta 6 rfl (cm9 K477 H493 (fun c502 => ?_))
       have o503 := OwnL.mono (K' := orHp K477 H493) o474 orL
       refine aL9 z491 rfl rfl o503 ‹_› ⟨_, rfl, Sl.mono ‹_› (orC c502) (fun _ _ h => h)⟩ (oc (Sl.oneCell ‹_›) oc_nil) (by omega) (by decide) (fun v504 H505 o506 f507 => ?_)
       have f508 := f507 B f475 (Nat.le_refl _)
       refine ln (qx rfl (kt_q 7 (.cons _ (.cons _ (.cons_cons _ nsl))) rfl (by kernel_rfl) (fV rfl (ln (qq (ta 8 rfl (sB rfl rfl rfl (OwnL.oneCell ‹_›) (OwnL.cells ‹_›) ?_)))))))
       refine cg [bxS br [vbr, .int .i64 (q489 : Int)] 84, H505, bxS b37 [.int .i64 ((1 : Int) + z21), v25, .slice none 0 0, .int .i64 (0 : Int), v504] 88, H34, bxS b1 [.int .i64 (0 : Int), .slice none 0 0, .slice none 0 0, .int .i64 (0 : Int), .slice none 0 0] 88] rfl ?_
       refine ln (qx rfl (kt_end (by kernel_rfl) ?_))
       refine qc (cr (mv rfl (sb9 rfl rfl (by omega) ?_)))
       refine sg rfl (ln (tk [H505, bxS br [vbr, .int .i64 (q489 : Int)] 84, bxS b37 [.int .i64 ((1 : Int) + z21), v25, .slice none 0 0, .int .i64 (0 : Int), v504] 88, H34, bxS b1 [.int .i64 (0 : Int), .slice none 0 0, .slice none 0 0, .int .i64 (0 : Int), .slice none 0 0] 88] ?_))
       refine kq_roundK ((i - (1 : Int)), (out ++ [z491]), v504, H505, (orHp K477 H493), q489) (by (dsimp only; omega)) (⟨⟨by dsimp only; omega, by dsimp only; omega, by simp; omega, all_snoc hi472.2.2.2 (by omega)⟩, (fr_or f478 f495), o506, f508, (by first | omega | (dsimp only; omega))⟩) (pc 8 rfl pn) (pk [0, 4, 5, 6] rfl) rfl slr9
      ·refine ex9 (qc (cS (cr (kl_ldW rfl rfl (kl_stW (us := [.int .i64 ((1 : Int) + z21), v25, .slice none 0 0, .int .i64 (0 : Int), v476]) rfl rfl rfl rfl (oc rfl (oc (OwnL.oneCell ‹_›) (oc rfl (oc rfl (oc (OwnL.oneCell ‹_›) oc_nil))))) rfl ?_)))))
       refine cg [H473, bxS br [vbr, .int .i64 (q480 : Int)] 84, bxS b37 [.int .i64 ((1 : Int) + z21), v25, .slice none 0 0, .int .i64 (0 : Int), v476] 88, H34, bxS b1 [.int .i64 ((1 : Int) + z21), v25, .slice none 0 0, .int .i64 (0 : Int), v476] 88] rfl ?_
       refine ln (qc (rt (kq_frz H34 ?_)))
       refine kq_frz H473 ?_
       refine kq_cmp H473 K477 (fun c509 => ?_)
       refine kq_cmp noHp (orHp H473 K477) (fun c510 => ?_)
       refine kq_cmp H34 (orHp noHp (orHp H473 K477)) (fun c511 => ?_)
       exact rC rfl rfl rfl [bxS br [vbr, .int .i64 (q480 : Int)] 84] [] (orHp H34 (orHp noHp (orHp H473 K477))) frn (fr_or f36 (fr_or (fr_no _) (fr_or f475 f478))) ⟨q480, by omega, rfl, ⟨((1 : Int) + z21), z32, [], (0 : Int), out⟩, rfl, ⟨_, rfl, _, _, _, rfl, (Sl.mono (OwnL.ints o35) (fun b o h => orL b o h) (fun _ _ h => h)), (Sl.mono Sl.nil (fun b o h => orC c511 b o (orL b o h)) (fun _ _ h => h)), (Rows.mono' (OwnL.rowsK o474 c509) (fun b o h => orC c511 b o (orC c510 b o h)))⟩, by (constructor <;> dsimp only <;> first | omega | exact all_nil | assumption | (simp; done) | (simp; omega) | (simp only [List.length_cons, List.length_nil]; omega))⟩
     ·refine cS (cr (eq9 rfl rfl ?_))
      refine sg rfl (ln (qc (ci9 rfl (fun c512 => ?_) (fun c512 => ?_))))
      ·refine cS (cr (mv rfl (cT rfl rfl (pick_ok q30 (6 : Int) (by omega) hr) (fun v513 L1 Ln K517 h514 f515 f516 => ?_))))
       obtain ⟨q518, h519, rfl, rfl, z520, rfl, h521⟩ := h514
       refine nm ?_
       refine bs9 rfl rfl rfl (by decide) (ca rfl ca_nil) (fun v524 H525 f526 r527 s528 => ?_)
       have h529 : Ints H525 v524 [z520] := litInts (xs := [z520]) (by simpa using s528)
       refine fV rfl (sB rfl rfl rfl (Sl.oneCell ‹_›) (Sl.cells ‹_›) ?_)
       refine cg [bxS br [vbr, .int .i64 (q518 : Int)] 84, bxS b37 [.int .i64 ((1 : Int) + z21), v25, v524, .int .i64 (0 : Int), .slice none 0 0] 88, H34, bxS b1 [.int .i64 (0 : Int), .slice none 0 0, .slice none 0 0, .int .i64 (0 : Int), .slice none 0 0] 88] rfl ?_
       refine ln (qc (cr (mv rfl (cT rfl rfl (pick_ok q518 (4 : Int) (by omega) hr) (fun v530 L1 Ln K534 h531 f532 f533 => ?_)))))
       obtain ⟨q535, h536, rfl, rfl, z537, rfl, h538⟩ := h531
       refine nm ?_
       refine fV rfl (sB rfl rfl rfl rfl rfl ?_)
       refine cg [bxS br [vbr, .int .i64 (q535 : Int)] 84, bxS b37 [.int .i64 ((1 : Int) + z21), v25, v524, .int .i64 z537, .slice none 0 0] 88, H34, bxS b1 [.int .i64 (0 : Int), .slice none 0 0, .slice none 0 0, .int .i64 (0 : Int), .slice none 0 0] 88] rfl ?_
       refine ln (qc (cS (cr (kl_ldW rfl rfl (kl_stW (us := [.int .i64 ((1 : Int) + z21), v25, v524, .int .i64 z537, .slice none 0 0]) rfl rfl rfl rfl (oc rfl (oc (OwnL.oneCell ‹_›) (oc (Sl.oneCell ‹_›) (oc rfl (oc rfl oc_nil))))) rfl ?_)))))
       refine cg [bxS br [vbr, .int .i64 (q535 : Int)] 84, bxS b37 [.int .i64 ((1 : Int) + z21), v25, v524, .int .i64 z537, .slice none 0 0] 88, H34, bxS b1 [.int .i64 ((1 : Int) + z21), v25, v524, .int .i64 z537, .slice none 0 0] 88] rfl ?_
       refine ln (qc (rt (kq_frz H34 ?_)))
       refine kq_cmp H525 noHp (fun c541 => ?_)
       refine kq_cmp H34 (orHp H525 noHp) (fun c542 => ?_)
       exact rC rfl rfl rfl [bxS br [vbr, .int .i64 (q535 : Int)] 84] [] (orHp H34 (orHp H525 noHp)) frn (fr_or f36 (fr_or f526 (fr_no _))) ⟨q535, by omega, rfl, ⟨((1 : Int) + z21), z32, ([z520]), z537, []⟩, rfl, ⟨_, rfl, _, _, _, rfl, (Sl.mono (OwnL.ints o35) (fun b o h => orL b o h) (fun _ _ h => h)), (Sl.mono ‹_› (fun b o h => orC c542 b o (orL b o h)) (fun _ _ h => h)), (Sl.mono Sl.nil (fun b o h => orC c542 b o (orC c541 b o h)) (fun _ _ h => h))⟩, by (constructor <;> dsimp only <;> first | omega | exact all_nil | assumption | (simp; done) | (simp; omega) | (simp only [List.length_cons, List.length_nil]; omega))⟩
      ·refine cS (cr (eq9 rfl rfl ?_))
       refine sg rfl (ln (qc (ci9 rfl (fun c543 => ?_) (fun c543 => ?_))))
       ·refine cS (cS (cr (sg rfl (ln (qc (bl (kc_no ?_)))))))
        refine kc_loopL (A := Nat × List Int × Value × Hp × Nat) (fun zz => (zz.1 ≤ 8) ∧ (zz.2.1.length = zz.1) ∧ OwnL 3 1 zz.2.2.2.1 noHp IntV zz.2.2.1 zz.2.1 ∧ Fr B zz.2.2.2.1 ∧ zz.2.2.2.2 ≤ q30 + zz.1) (fun zz => 8 - zz.1) (fun zz => [zz.2.2.2.1, bxS b37 [.int .i64 ((1 : Int) + z21), v25, zz.2.2.1, .int .i64 (0 : Int), .slice none 0 0] 88, bxS br [vbr, .int .i64 (zz.2.2.2.2 : Int)] 84, H34, bxS b1 [.int .i64 (0 : Int), .slice none 0 0, .slice none 0 0, .int .i64 (0 : Int), .slice none 0 0] 88]) (fun zz => [(9, .int .i64 (zz.1 : Int))]) (0, [], .slice none 0 0, noHp, q30) (pk [0, 4, 5, 6] rfl) (pc 9 rfl pn) rfl ⟨Nat.zero_le _, rfl, OwnL.nil, (fr_no _), (by first | omega | (dsimp only; omega))⟩ ?_
        rintro ⟨i, out, v549, H546, q551⟩ hJ553
        obtain ⟨hk544, hi545, o547, f548, hq552⟩ : (i ≤ 8) ∧ (out.length = i) ∧ OwnL 3 1 H546 noHp IntV v549 out ∧ Fr B H546 ∧ q551 ≤ q30 + i := hJ553
        change KC _ _ (_) [H546, bxS b37 [.int .i64 ((1 : Int) + z21), v25, v549, .int .i64 (0 : Int), .slice none 0 0] 88, bxS br [vbr, .int .i64 (q551 : Int)] 84, H34, bxS b1 [.int .i64 (0 : Int), .slice none 0 0, .slice none 0 0, .int .i64 (0 : Int), .slice none 0 0] 88] _ ([(9, .int .i64 (i : Int))] ++ _)
        refine cS (cS (cr (mv rfl (mv rfl (kl_mul rfl rfl (by omega) ?_)))))
        refine ls9 rfl rfl ?_
        refine ln (qc (ci9 rfl (fun c554 => ?_) (fun c554 => ?_)))
        ·refine sk (qc (cS (bl (kc_tree (fun i => ([5, 7] : List Nat).contains i) [bxS b37 [.int .i64 ((1 : Int) + z21), v25, v549, .int .i64 (0 : Int), .slice none 0 0] 88] (by kernel_rfl) ?_))))
         refine kt_q 0 (.cons _ (.cons_cons _ nsl)) rfl (by kernel_rfl) (fV rfl (ln (qq (kt_q 1 (.cons _ (.cons_cons _ nsl)) rfl (by kernel_rfl) (ld rfl (at_box (T := 88) (cs := [.int .i64 ((1 : Int) + z21), v25, v549, .int .i64 (0 : Int), .slice none 0 0]) (off := 2) (fz := (0, 0))) (ln (qq (kt_q 2 (.cons _ (.cons_cons _ nsl)) rfl (by kernel_rfl) ?_))))))))
         refine mv rfl (ln (qq (ta 3 rfl (cT rfl rfl (pick_ok q551 (4 : Int) (by omega) hr) (fun v555 L1 Ln K559 h556 f557 f558 => ?_)))))
         obtain ⟨q560, h561, rfl, rfl, z562, rfl, h563⟩ := h556
         refine nm ?_
         refine ln (qa (.cons _ (.cons _ (.cons_cons _ nsl))) (ta 4 rfl (bs9 rfl rfl rfl (by decide) (ca rfl ca_nil) (fun v566 H567 f568 r569 s570 => ?_))))
         have h571 : Ints H567 v566 [z562] := litInts (xs := [z562]) (by simpa using s570)
         refine ln (qa (.cons _ (.cons _ (.cons_cons _ nsl))) (ta 5 rfl (aL9 z562 rfl rfl o547 ‹_› rfl (oc rfl oc_nil) (by omega) (by decide) (fun v572 H573 o574 f575 => ?_))))
         have f576 := f575 B f548 (Nat.le_refl _)
         refine ln (qx rfl (kt_q 6 (.cons _ (.cons _ (.cons_cons _ nsl))) rfl (by kernel_rfl) (fV rfl (ln (qq (ta 7 rfl (sB rfl rfl rfl (OwnL.oneCell ‹_›) (OwnL.cells ‹_›) ?_)))))))
         refine cg [bxS br [vbr, .int .i64 (q560 : Int)] 84, H573, bxS b37 [.int .i64 ((1 : Int) + z21), v25, v572, .int .i64 (0 : Int), .slice none 0 0] 88, H34, bxS b1 [.int .i64 (0 : Int), .slice none 0 0, .slice none 0 0, .int .i64 (0 : Int), .slice none 0 0] 88] rfl ?_
         refine ln (qx rfl (kt_end (by kernel_rfl) ?_))
         refine qc (cr (mv rfl (ic9 rfl rfl (by omega) ?_)))
         refine sg rfl (ln (tk [H573, bxS b37 [.int .i64 ((1 : Int) + z21), v25, v572, .int .i64 (0 : Int), .slice none 0 0] 88, bxS br [vbr, .int .i64 (q560 : Int)] 84, H34, bxS b1 [.int .i64 (0 : Int), .slice none 0 0, .slice none 0 0, .int .i64 (0 : Int), .slice none 0 0] 88] ?_))
         refine rL ((i + 1), (out ++ [z562]), v572, H573, q560) (by omega) (⟨by omega, (by simp; omega), o574, f576, (by first | omega | (dsimp only; omega))⟩) (pc 9 rfl pn) (pk [0, 4, 5, 6] rfl) rfl slr9
        ·refine ex9 (qc (cr (mv rfl (cT rfl rfl (pick_ok q551 (4 : Int) (by omega) hr) (fun v577 L1 Ln K581 h578 f579 f580 => ?_)))))
         obtain ⟨q582, h583, rfl, rfl, z584, rfl, h585⟩ := h578
         refine nm ?_
         refine ad9 rfl rfl (by omega) ?_
         refine fV rfl (sB rfl rfl rfl rfl rfl ?_)
         refine cg [bxS br [vbr, .int .i64 (q582 : Int)] 84, H546, bxS b37 [.int .i64 ((1 : Int) + z21), v25, v549, .int .i64 ((1 : Int) + z584), .slice none 0 0] 88, H34, bxS b1 [.int .i64 (0 : Int), .slice none 0 0, .slice none 0 0, .int .i64 (0 : Int), .slice none 0 0] 88] rfl ?_
         refine ln (qc (cS (cr (kl_ldW rfl rfl (kl_stW (us := [.int .i64 ((1 : Int) + z21), v25, v549, .int .i64 ((1 : Int) + z584), .slice none 0 0]) rfl rfl rfl rfl (oc rfl (oc (OwnL.oneCell ‹_›) (oc (OwnL.oneCell ‹_›) (oc rfl (oc rfl oc_nil))))) rfl ?_)))))
         refine cg [bxS br [vbr, .int .i64 (q582 : Int)] 84, H546, bxS b37 [.int .i64 ((1 : Int) + z21), v25, v549, .int .i64 ((1 : Int) + z584), .slice none 0 0] 88, H34, bxS b1 [.int .i64 ((1 : Int) + z21), v25, v549, .int .i64 ((1 : Int) + z584), .slice none 0 0] 88] rfl ?_
         refine ln (qc (rt (kq_frz H34 ?_)))
         refine kq_frz H546 ?_
         refine kq_cmp H546 noHp (fun c588 => ?_)
         refine kq_cmp H34 (orHp H546 noHp) (fun c589 => ?_)
         exact rC rfl rfl rfl [bxS br [vbr, .int .i64 (q582 : Int)] 84] [] (orHp H34 (orHp H546 noHp)) frn (fr_or f36 (fr_or f548 (fr_no _))) ⟨q582, by omega, rfl, ⟨((1 : Int) + z21), z32, out, ((1 : Int) + z584), []⟩, rfl, ⟨_, rfl, _, _, _, rfl, (Sl.mono (OwnL.ints o35) (fun b o h => orL b o h) (fun _ _ h => h)), (Sl.mono (OwnL.ints o547) (fun b o h => orC c589 b o (orL b o h)) (fun _ _ h => h)), (Sl.mono Sl.nil (fun b o h => orC c589 b o (orC c588 b o h)) (fun _ _ h => h))⟩, by (constructor <;> dsimp only <;> first | omega | exact all_nil | assumption | (simp; done) | (simp; omega) | (simp only [List.length_cons, List.length_nil]; omega))⟩
       ·refine cS (cr (eq9 rfl rfl ?_))
        refine sg rfl (ln (qc (ci9 rfl (fun c590 => ?_) (fun c590 => ?_))))
        ·refine cS (cr (mv rfl (mv rfl (cT rfl rfl (pick_ok q30 (3 : Int) (by omega) hr) (fun v591 L1 Ln K595 h592 f593 f594 => ?_)))))
         obtain ⟨q596, h597, rfl, rfl, z598, rfl, h599⟩ := h592
         refine nm ?_
         refine ad9 rfl rfl (by omega) ?_
         refine cT rfl rfl (randomAutomaton_ok q596 ((1 : Int) + z598) (by first | assumption | omega) (by omega) hr) (fun v602 L1 Ln K606 h603 f604 f605 => ?_)
         obtain ⟨q607, h608, rfl, H611, z609, rfl, o612, h610⟩ := h603
         have f613 := f604 _ (.head _)
         have h610a := h610.1
         have h610b := h610.2
         refine nm ?_
         refine fV rfl (sB rfl rfl rfl (OwnL.oneCell ‹_›) (OwnL.cells ‹_›) ?_)
         refine cg [bxS br [vbr, .int .i64 (q607 : Int)] 84, H611, bxS b37 [.int .i64 ((1 : Int) + z21), v25, .slice none 0 0, .int .i64 (0 : Int), v602] 88, H34, bxS b1 [.int .i64 (0 : Int), .slice none 0 0, .slice none 0 0, .int .i64 (0 : Int), .slice none 0 0] 88] rfl ?_
         refine ln (qc (cr (fV rfl (lB rfl rfl (lL rfl o612 (fun l614 => ?_))))))
         refine sb9 rfl rfl (by omega) ?_
         refine bs9 rfl rfl rfl (by decide) (ca rfl ca_nil) (fun v615 H616 f617 r618 s619 => ?_)
         have h620 : Ints H616 v615 [((z609.length : Int) - (1 : Int))] := litInts (xs := [((z609.length : Int) - (1 : Int))]) (by simpa using s619)
         refine fV rfl (sB rfl rfl rfl (Sl.oneCell ‹_›) (Sl.cells ‹_›) ?_)
         refine cg [bxS br [vbr, .int .i64 (q607 : Int)] 84, H611, bxS b37 [.int .i64 ((1 : Int) + z21), v25, v615, .int .i64 (0 : Int), v602] 88, H34, bxS b1 [.int .i64 (0 : Int), .slice none 0 0, .slice none 0 0, .int .i64 (0 : Int), .slice none 0 0] 88] rfl ?_
         refine ln (qc (cS (cr (kl_ldW rfl rfl (kl_stW (us := [.int .i64 ((1 : Int) + z21), v25, v615, .int .i64 (0 : Int), v602]) rfl rfl rfl rfl (oc rfl (oc (OwnL.oneCell ‹_›) (oc (Sl.oneCell ‹_›) (oc rfl (oc (OwnL.oneCell ‹_›) oc_nil))))) rfl ?_)))))
         refine cg [bxS br [vbr, .int .i64 (q607 : Int)] 84, H611, bxS b37 [.int .i64 ((1 : Int) + z21), v25, v615, .int .i64 (0 : Int), v602] 88, H34, bxS b1 [.int .i64 ((1 : Int) + z21), v25, v615, .int .i64 (0 : Int), v602] 88] rfl ?_
         refine ln (qc (rt (kq_frz H34 ?_)))
         refine kq_frz H611 ?_
         refine kq_cmp H611 K606 (fun c621 => ?_)
         refine kq_cmp H616 (orHp H611 K606) (fun c622 => ?_)
         refine kq_cmp H34 (orHp H616 (orHp H611 K606)) (fun c623 => ?_)
         exact rC rfl rfl rfl [bxS br [vbr, .int .i64 (q607 : Int)] 84] [] (orHp H34 (orHp H616 (orHp H611 K606))) frn (fr_or f36 (fr_or f617 (fr_or f613 f605))) ⟨q607, by omega, rfl, ⟨((1 : Int) + z21), z32, ([((z609.length : Int) - (1 : Int))]), (0 : Int), z609⟩, rfl, ⟨_, rfl, _, _, _, rfl, (Sl.mono (OwnL.ints o35) (fun b o h => orL b o h) (fun _ _ h => h)), (Sl.mono ‹_› (fun b o h => orC c623 b o (orL b o h)) (fun _ _ h => h)), (Rows.mono' (OwnL.rowsK o612 c621) (fun b o h => orC c623 b o (orC c622 b o h)))⟩, by (constructor <;> dsimp only <;> first | omega | exact all_nil | assumption | (simp; done) | (simp; omega) | (simp only [List.length_cons, List.length_nil]; omega))⟩
        ·refine sk (qc (cS (cr (kl_ldW rfl rfl (kl_stW (us := [.int .i64 ((1 : Int) + z21), v25, .slice none 0 0, .int .i64 (0 : Int), .slice none 0 0]) rfl rfl rfl rfl (oc rfl (oc (OwnL.oneCell ‹_›) (oc rfl (oc rfl (oc rfl oc_nil))))) rfl ?_)))))
         refine cg [bxS b37 [.int .i64 ((1 : Int) + z21), v25, .slice none 0 0, .int .i64 (0 : Int), .slice none 0 0] 88, bxS br [vbr, .int .i64 (q30 : Int)] 84, H34, bxS b1 [.int .i64 ((1 : Int) + z21), v25, .slice none 0 0, .int .i64 (0 : Int), .slice none 0 0] 88] rfl ?_
         refine ln (qc (rt (kq_frz H34 ?_)))
         refine kq_cmp noHp noHp (fun c624 => ?_)
         refine kq_cmp H34 (orHp noHp noHp) (fun c625 => ?_)
         exact rC rfl rfl rfl [bxS br [vbr, .int .i64 (q30 : Int)] 84] [] (orHp H34 (orHp noHp noHp)) frn (fr_or f36 (fr_or (fr_no _) (fr_no _))) ⟨q30, by omega, rfl, ⟨((1 : Int) + z21), z32, [], (0 : Int), []⟩, rfl, ⟨_, rfl, _, _, _, rfl, (Sl.mono (OwnL.ints o35) (fun b o h => orL b o h) (fun _ _ h => h)), (Sl.mono Sl.nil (fun b o h => orC c625 b o (orL b o h)) (fun _ _ h => h)), (Sl.mono Sl.nil (fun b o h => orC c625 b o (orC c624 b o h)) (fun _ _ h => h))⟩, by (constructor <;> dsimp only <;> first | omega | exact all_nil | assumption | (simp; done) | (simp; omega) | (simp only [List.length_cons, List.length_nil]; omega))⟩
end
end Go.Proofs.YtolndgeihijlbaaGreat
