/- Walks of functions of the program: each returns what the plain function gives. Conditions: those that each statement names. -/
import Derived.Test.YtiilanckbocifaaWmark
import Derived.Test.YtiilanckbocifaaMkm
namespace Go.Proofs.Ytiilanckbocifaa
open Go
set_option linter.unusedSimpArgs false
set_option linter.unusedVariables false
theorem markSSm_ok {H K : Hp} {v : Value} {us : List Value} (xss : List (List Int)) (k : Int) (hk : 0 ≤ k ∧ k + (rsum xss : Nat) ≤ 4611686018427387904) (hm : Mat 23 3 encI H K v us xss) : SpecT Try.prog 80 [v, .int .i64 k] [K] [H] (fun vq L1 Ln _ => ∃ K2, L1 = [K2] ∧ Ln = [] ∧ vq = .int .i64 (k + (rsum xss : Nat)) ∧ Mat 23 3 encI H K2 v us (markLL k xss)) := by
 refine specT_of Try.func80 rfl rfl rfl (fun B => ?_)
 refine kc_seq (kc_region (kl_as rfl (kl_nil (kq_code (kc_seq (kc_seq (kc_region (kl_as rfl (kl_nil (kq_code (kc_block (kc_loopL (A := Nat × Int × List (List Int) × Hp) (fun zz => (zz.1 ≤ xss.length) ∧ (zz.2.1 = k + (rsum (xss.take zz.1) : Nat) ∧ zz.2.2.1 = mkTo k xss zz.1) ∧ Mat 23 3 encI H zz.2.2.2 v us zz.2.2.1) (fun zz => xss.length - zz.1) (fun zz => [zz.2.2.2]) (fun zz => [(5, .int .i64 (zz.1 : Int)), (1, .int .i64 zz.2.1)]) (0, k, xss, K) (pc 0 rfl (pc 4 rfl pn)) (pc 5 rfl (pc 1 rfl pn)) rfl ⟨Nat.zero_le _, ⟨by simp [rsum], (mkTo_0 _ _).symm⟩, hm⟩ ?_))))))))))))
 rintro ⟨i, l, ys, K3⟩ hJ5
 obtain ⟨hk1, hi2, o4⟩ : (i ≤ xss.length) ∧ (l = k + (rsum (xss.take i) : Nat) ∧ ys = mkTo k xss i) ∧ Mat 23 3 encI H K3 v us ys := hJ5
 change KC _ _ (_) [K3] _ ([(5, .int .i64 (i : Int)), (1, .int .i64 l)] ++ _)
 have hyl : ys.length = xss.length := (by rw [hi2.2]; exact mkTo_len hk1)
 have hrl := rsum_le xss i
 have hll := hi2.1
 refine kc_seq (kc_seq (kc_region (kl_mv rfl (kl_mv rfl (kl_mtLen rfl o4 (fun l6 => ?_))))))
 refine kl_lss rfl rfl ?_
 refine kl_nil (kq_code (kc_if rfl (fun c7 => ?_) (fun c7 => ?_)))
 ·skip
  refine kc_skipQ (kq_code (kc_seq (kc_block (kc_region (kl_mv rfl (kl_mv rfl (kl_mtIx (i := i) rfl rfl o4 (by omega) (fun p8 q9 => ?_))))))))
  refine kl_mtLde rfl (by assumption) o4 (by omega) ?_
  refine kl_mv rfl ?_
  obtain ⟨K10, K11, rfl, a12, l13, h14, b15⟩ := Mat.row o4 (by omega : i < ys.length)
  refine kl_split K10 K11 a12 ?_
  refine kl_callM rfl rfl (markIntS_ok (ys.getD i []) l (by omega) h14 l13) (fun v16 H17 K18 f19 h20 d21 => ?_)
  obtain ⟨m22, rfl, e23⟩ := h20
  refine kl_mrg H17 K11 ?_
  have m24 := b15 H17 _ m22 e23 (by rw [markL_len])
  refine kl_as rfl (kl_nil (kq_code (kc_region (kl_mv rfl (kl_inc rfl rfl (by omega) ?_)))))
  refine kl_as rfl (kl_nil (kq_take [(orHp H17 K11)] ?_))
  refine kq_roundL ((i + 1), (l + ((ys.getD i []).length : Int)), (ys.set i (markL l (ys.getD i []).length)), (orHp H17 K11)) (by omega) (⟨by omega, ⟨by dsimp only; rw [hi2.2, mkTo_at (by omega), rsum_step (by omega)]; omega, by dsimp only; rw [hi2.2, mkTo_at (by omega), hll]; exact mkTo_step (by omega)⟩, m24⟩) (pc 5 rfl (pc 1 rfl pn)) (pc 0 rfl (pc 4 rfl pn)) rfl (List.Sublist.refl _)
 ·skip
  refine kc_exit (kq_code (kc_seq (kc_region (kl_mv rfl (kl_as rfl (kl_nil (kq_code (kc_ret ?_))))))))
  exact kq_retT rfl rfl [K3] [] noHp frn (fr_no _) ⟨K3, rfl, rfl, congrArg (Value.int .i64) (by rw [hi2.1, List.take_of_length_le (by omega)]), Mat.castX (by rw [hi2.2]; exact mkTo_end (by omega)) o4⟩
theorem heldIntSS_ok {Ha : Hp} {va : Value} (a : List (List Int)) (k : Int) (hk : 0 ≤ k ∧ k + ((rsum a : Nat) : Int) ≤ 4611686018427387904) (ha : Rows Ha va a) : SpecP Try.prog 81 [va, .int .i64 k] [Ha] (.int .i64 (heldSS a k)) := by
 refine spec_of Try.func81 rfl rfl rfl (fun B => ?_)
 refine kc_seq (kc_region (kl_as rfl (kl_nil (kq_code (kc_seq (kc_seq (kc_region (kl_as rfl (kl_nil (kq_code (kc_block (kc_loop0 (A := Nat × Int) (fun zz => (zz.1 ≤ a.length) ∧ (HsI a k zz.1 zz.2)) (fun zz => a.length - zz.1) (fun zz => [(5, .int .i64 (zz.1 : Int)), (1, .int .i64 zz.2)]) (0, k) (pc 0 rfl pn) (pc 5 rfl (pc 1 rfl pn)) ⟨Nat.zero_le _, (hs_0 hk)⟩ ?_))))))))))))
 rintro ⟨i, l⟩ hJ3
 obtain ⟨hk1, hi2⟩ : (i ≤ a.length) ∧ (HsI a k i l) := hJ3
 change KC _ _ (_) _ _ ([(5, .int .i64 (i : Int)), (1, .int .i64 l)] ++ _)
 refine kc_seq (kc_seq (kc_region (kl_mv rfl (kl_mv rfl (kl_len rfl (by assumption) (fun l4 => ?_))))))
 refine kl_lss rfl rfl ?_
 refine kl_nil (kq_code (kc_if rfl (fun c5 => ?_) (fun c5 => ?_)))
 ·skip
  refine kc_skipQ (kq_code (kc_seq (kc_block (kc_seq (kc_region (kl_mv rfl (kl_mv rfl (kl_inS rfl rfl (by assumption) (by omega) (fun p6 u8 h9 a7 => ?_)))))))))
  refine kl_ld rfl (by assumption) (kl_mv rfl (kl_callP rfl rfl (heldIntS_ok (a.getD i []) l ⟨hi2.n, hs_b hi2⟩ (by assumption)) ?_))
  refine kl_as rfl (kl_nil (kq_code (kc_seq (kc_region (kl_mv rfl (kl_lss rfl rfl ?_))))))
  refine kl_nil (kq_code (kc_if rfl (fun c10 => ?_) (fun c10 => ?_)))
  ·skip
   refine kc_seq (kc_region (kl_as rfl (kl_nil (kq_code (kc_ret (kq_retP rfl rfl (congrArg (Value.int .i64) ?_)))))))
   exact hs_no hi2 (by omega) (by assumption)
  ·skip
   refine kc_skipQ (kq_code (kc_region (kl_mv rfl (kl_inc rfl rfl (by omega) ?_))))
   refine kl_as rfl (kl_nil (kq_round0 ((i + 1), (heldI (a.getD i []) l)) (by omega) (⟨by omega, (hs_step hi2 (by omega) (by assumption))⟩) (pc 5 rfl (pc 1 rfl pn)) (pc 0 rfl pn) (List.Sublist.refl _)))
 ·skip
  refine kc_exit (kq_code (kc_seq (kc_region (kl_mv rfl (kl_as rfl (kl_nil (kq_code (kc_ret (kq_retP rfl rfl (congrArg (Value.int .i64) ?_))))))))))
  exact hs_end hi2 (by omega)
end Go.Proofs.Ytiilanckbocifaa
