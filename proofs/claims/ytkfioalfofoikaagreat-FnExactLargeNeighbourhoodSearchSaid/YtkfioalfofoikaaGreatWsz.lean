/- Walks of functions of the program: each returns what the plain function gives. Conditions: those that each statement names. -/
import Derived.Test.YtkfioalfofoikaaGreatTys
import Derived.Test.YtkfioalfofoikaaGreatPure
namespace Go.Proofs.YtkfioalfofoikaaGreat
open Go
set_option linter.unusedSimpArgs false
set_option linter.unusedVariables false
theorem szIntS_ok {Ha : Hp} {va : Value} (a : List Int) (left : Int) (hl : 0 ≤ left ∧ left ≤ 1048576) (ha : Ints Ha va a) : SpecP Tryz.prog 23 [va, .int .i64 left] [Ha] (.int .i64 (szB left a.length)) := by
 refine spec_of Tryz.func23 rfl rfl rfl (fun B => ?_)
 refine kc_seq (kc_region (kl_as rfl (kl_nil (kq_code (kc_seq (kc_region (kl_mv rfl (kl_mv rfl (kl_len rfl (by assumption) (fun l1 => ?_))))))))))
 refine kl_sub rfl rfl (by omega) ?_
 refine kl_as rfl (kl_nil (kq_code (kc_seq (kc_seq (kc_region (kl_mv rfl (kl_lss rfl rfl ?_)))))))
 refine kl_nil (kq_code (kc_if rfl (fun c2 => ?_) (fun c2 => ?_)))
 ·skip
  refine kc_seq (kc_region (kl_as rfl (kl_nil (kq_code (kc_ret (kq_retP rfl rfl (congrArg (Value.int .i64) ?_)))))))
  exact szB_neg (by omega)
 ·skip
  refine kc_skipQ (kq_code (kc_seq (kc_region (kl_mv rfl (kl_as rfl (kl_nil (kq_code (kc_ret (kq_retP rfl rfl (congrArg (Value.int .i64) ?_))))))))))
  exact szB_pos rfl (by omega)
theorem szIntSS_ok {Ha : Hp} {va : Value} (a : List (List Int)) (left : Int) (hl : 0 ≤ left ∧ left ≤ 1048576) (ha : Rows Ha va a) : SpecP Tryz.prog 98 [va, .int .i64 left] [Ha] (.int .i64 (szB left ((a.length + rsum a : Nat) : Int))) := by
 refine spec_of Tryz.func98 rfl rfl rfl (fun B => ?_)
 refine kc_seq (kc_region (kl_as rfl (kl_nil (kq_code (kc_seq (kc_region (kl_mv rfl (kl_mv rfl (kl_len rfl (by assumption) (fun l1 => ?_))))))))))
 refine kl_sub rfl rfl (by omega) ?_
 refine kl_as rfl (kl_nil (kq_code (kc_seq (kc_seq (kc_region (kl_mv rfl (kl_lss rfl rfl ?_)))))))
 refine kl_nil (kq_code (kc_if rfl (fun c2 => ?_) (fun c2 => ?_)))
 ·skip
  refine kc_seq (kc_region (kl_as rfl (kl_nil (kq_code (kc_ret (kq_retP rfl rfl (congrArg (Value.int .i64) ?_)))))))
  exact szB_neg (by omega)
 ·skip
  refine kc_skipQ (kq_code (kc_seq (kc_seq (kc_region (kl_as rfl (kl_nil (kq_code (kc_block (kc_loop0 (A := Nat × Int) (fun zz => (zz.1 ≤ a.length) ∧ (0 ≤ zz.2 ∧ zz.2 = left - ((a.length + rsum (a.take zz.1) : Nat) : Int))) (fun zz => a.length - zz.1) (fun zz => [(5, .int .i64 (zz.1 : Int)), (1, .int .i64 zz.2)]) (0, (left - (a.length : Int))) (pc 0 rfl pn) (pc 5 rfl (pc 1 rfl pn)) ⟨Nat.zero_le _, ⟨by omega, by simp [rsum]⟩⟩ ?_)))))))))
  rintro ⟨k, l⟩ hJ5
  obtain ⟨hk3, hi4⟩ : (k ≤ a.length) ∧ (0 ≤ l ∧ l = left - ((a.length + rsum (a.take k) : Nat) : Int)) := hJ5
  change KC _ _ (_) _ _ ([(5, .int .i64 (k : Int)), (1, .int .i64 l)] ++ _)
  refine kc_seq (kc_seq (kc_region (kl_mv rfl (kl_mv rfl (kl_len rfl (by assumption) (fun l6 => ?_))))))
  refine kl_lss rfl rfl ?_
  refine kl_nil (kq_code (kc_if rfl (fun c7 => ?_) (fun c7 => ?_)))
  ·skip
   refine kc_skipQ (kq_code (kc_seq (kc_block (kc_seq (kc_region (kl_mv rfl (kl_mv rfl (kl_inS rfl rfl (by assumption) (by omega) (fun p8 u10 h11 a9 => ?_)))))))))
   refine kl_ld rfl (by assumption) (kl_mv rfl (kl_callP rfl rfl (szIntS_ok (a.getD k []) l (by first | assumption | omega) (by assumption)) ?_))
   refine kl_as rfl (kl_nil (kq_code (kc_seq (kc_region (kl_mv rfl (kl_lss rfl rfl ?_))))))
   refine kl_nil (kq_code (kc_if rfl (fun c12 => ?_) (fun c12 => ?_)))
   ·skip
    have hz := szB_lt c12
    refine kc_seq (kc_region (kl_as rfl (kl_nil (kq_code (kc_ret (kq_retP rfl rfl (congrArg (Value.int .i64) ?_)))))))
    have h1 := rsum_le a (k + 1); rw [rsum_step (by omega)] at h1; exact szB_neg (by omega)
   ·skip
    have hz := szB_ok c12
    refine kc_skipQ (kq_code (kc_region (kl_mv rfl (kl_inc rfl rfl (by omega) ?_))))
    refine kl_as rfl (kl_nil (kq_round0 ((k + 1), (szB l (a.getD k []).length)) (by omega) (⟨by omega, (by rw [rsum_step (by omega)]; omega)⟩) (pc 5 rfl (pc 1 rfl pn)) (pc 0 rfl pn) (List.Sublist.refl _)))
  ·skip
   refine kc_exit (kq_code (kc_seq (kc_region (kl_mv rfl (kl_as rfl (kl_nil (kq_code (kc_ret (kq_retP rfl rfl (congrArg (Value.int .i64) ?_))))))))))
   rw [List.take_of_length_le (by omega)] at *; exact szB_pos (by omega) (by omega)
theorem szConstraint_ok {Hcv : Hp} {vcv : Value} {Hca : Hp} {vca : Value} {Hcr : Hp} {vcr : Value} (c : Con) (left : Int) (hl : 0 ≤ left ∧ left ≤ 1048576) (hcv : Ints Hcv vcv c.vars) (hca : Ints Hca vca c.args) (hcr : Rows Hcr vcr c.rows) : SpecP Tryz.prog 58 [.agg #[.int .i64 c.kind, vcv, vca, .int .i64 c.bound, vcr], .int .i64 left] [Hcv, Hca, Hcr] (.int .i64 (szB left (conN c : Nat))) := by
 have hc : conN c = c.vars.length + c.args.length + (c.rows.length + rsum c.rows) := rfl
 refine spec_of Tryz.func58 rfl rfl rfl (fun B => ?_)
 refine kc_seq (kc_region (kl_box rfl rfl (fun p1 H2 f3 a4 => ?_)))
 refine kl_as rfl (kl_nil (kq_code (kc_seq (kc_region (kl_fd rfl (by assumption) (fun p5 a6 => ?_))))))
 refine kl_ld rfl (by assumption) (kl_mv rfl (kl_callP rfl rfl (szIntS_ok c.vars left (by first | assumption | omega) (by assumption)) ?_))
 refine kl_as rfl (kl_nil (kq_code (kc_seq (kc_seq (kc_region (kl_mv rfl (kl_lss rfl rfl ?_)))))))
 refine kl_nil (kq_code (kc_if rfl (fun c7 => ?_) (fun c7 => ?_)))
 ·skip
  have hzc7 := szB_lt c7
  refine kc_seq (kc_region (kl_as rfl (kl_nil (kq_code (kc_ret (kq_retP rfl rfl (congrArg (Value.int .i64) ?_)))))))
  exact szB_neg (by omega)
 ·skip
  have hzc7 := szB_ok c7
  refine kc_skipQ (kq_code (kc_seq (kc_region (kl_fd rfl (by assumption) (fun p8 a9 => ?_)))))
  refine kl_ld rfl (by assumption) (kl_mv rfl (kl_callP rfl rfl (szIntS_ok c.args (szB left c.vars.length) (by first | assumption | omega) (by assumption)) ?_))
  refine kl_as rfl (kl_nil (kq_code (kc_seq (kc_seq (kc_region (kl_mv rfl (kl_lss rfl rfl ?_)))))))
  refine kl_nil (kq_code (kc_if rfl (fun c10 => ?_) (fun c10 => ?_)))
  ·skip
   have hzc10 := szB_lt c10
   refine kc_seq (kc_region (kl_as rfl (kl_nil (kq_code (kc_ret (kq_retP rfl rfl (congrArg (Value.int .i64) ?_)))))))
   exact szB_neg (by omega)
  ·skip
   have hzc10 := szB_ok c10
   refine kc_skipQ (kq_code (kc_seq (kc_region (kl_fd rfl (by assumption) (fun p11 a12 => ?_)))))
   refine kl_ld rfl (by assumption) (kl_mv rfl (kl_callP rfl rfl (szIntSS_ok c.rows (szB (szB left c.vars.length) c.args.length) (by first | assumption | omega) (by assumption)) ?_))
   refine kl_as rfl (kl_nil (kq_code (kc_seq (kc_seq (kc_region (kl_mv rfl (kl_lss rfl rfl ?_)))))))
   refine kl_nil (kq_code (kc_if rfl (fun c13 => ?_) (fun c13 => ?_)))
   ·skip
    have hzc13 := szB_lt c13
    refine kc_seq (kc_region (kl_as rfl (kl_nil (kq_code (kc_ret (kq_retP rfl rfl (congrArg (Value.int .i64) ?_)))))))
    exact szB_neg (by omega)
   ·skip
    have hzc13 := szB_ok c13
    refine kc_skipQ (kq_code (kc_seq (kc_region (kl_mv rfl (kl_as rfl (kl_nil (kq_code (kc_ret (kq_retP rfl rfl (congrArg (Value.int .i64) ?_))))))))))
    exact szB_pos (by omega) (by omega)
theorem szConstraintS_ok {Ha : Hp} {va : Value} (a : List Con) (left : Int) (hl : 0 ≤ left ∧ left ≤ 1048576) (ha : Cons Ha va a) : SpecP Tryz.prog 24 [va, .int .i64 left] [Ha] (.int .i64 (szB left ((a.length + csum a : Nat) : Int))) := by
 refine spec_of Tryz.func24 rfl rfl rfl (fun B => ?_)
 refine kc_seq (kc_region (kl_as rfl (kl_nil (kq_code (kc_seq (kc_region (kl_mv rfl (kl_mv rfl (kl_len rfl (by assumption) (fun l1 => ?_))))))))))
 refine kl_sub rfl rfl (by omega) ?_
 refine kl_as rfl (kl_nil (kq_code (kc_seq (kc_seq (kc_region (kl_mv rfl (kl_lss rfl rfl ?_)))))))
 refine kl_nil (kq_code (kc_if rfl (fun c2 => ?_) (fun c2 => ?_)))
 ·skip
  refine kc_seq (kc_region (kl_as rfl (kl_nil (kq_code (kc_ret (kq_retP rfl rfl (congrArg (Value.int .i64) ?_)))))))
  exact szB_neg (by omega)
 ·skip
  refine kc_skipQ (kq_code (kc_seq (kc_seq (kc_region (kl_as rfl (kl_nil (kq_code (kc_block (kc_loop0 (A := Nat × Int) (fun zz => (zz.1 ≤ a.length) ∧ (0 ≤ zz.2 ∧ zz.2 = left - ((a.length + csum (a.take zz.1) : Nat) : Int))) (fun zz => a.length - zz.1) (fun zz => [(5, .int .i64 (zz.1 : Int)), (1, .int .i64 zz.2)]) (0, (left - (a.length : Int))) (pc 0 rfl pn) (pc 5 rfl (pc 1 rfl pn)) ⟨Nat.zero_le _, ⟨by omega, by simp [csum]⟩⟩ ?_)))))))))
  rintro ⟨k, l⟩ hJ5
  obtain ⟨hk3, hi4⟩ : (k ≤ a.length) ∧ (0 ≤ l ∧ l = left - ((a.length + csum (a.take k) : Nat) : Int)) := hJ5
  change KC _ _ (_) _ _ ([(5, .int .i64 (k : Int)), (1, .int .i64 l)] ++ _)
  refine kc_seq (kc_seq (kc_region (kl_mv rfl (kl_mv rfl (kl_len rfl (by assumption) (fun l6 => ?_))))))
  refine kl_lss rfl rfl ?_
  refine kl_nil (kq_code (kc_if rfl (fun c7 => ?_) (fun c7 => ?_)))
  ·skip
   refine kc_skipQ (kq_code (kc_seq (kc_block (kc_seq (kc_region (kl_mv rfl (kl_mv rfl (kl_inC rfl rfl (by assumption) (by omega) (fun p8 u10 u11 u12 h13 h14 h15 a9 => ?_)))))))))
   refine kl_ldS rfl (by assumption) rfl ?_
   refine kl_mv rfl (kl_callP rfl rfl (szConstraint_ok (a.getD k nilCon) l (by first | assumption | omega) (by assumption) (by assumption) (by assumption)) ?_)
   refine kl_as rfl (kl_nil (kq_code (kc_seq (kc_region (kl_mv rfl (kl_lss rfl rfl ?_))))))
   refine kl_nil (kq_code (kc_if rfl (fun c16 => ?_) (fun c16 => ?_)))
   ·skip
    have hz := szB_lt c16
    refine kc_seq (kc_region (kl_as rfl (kl_nil (kq_code (kc_ret (kq_retP rfl rfl (congrArg (Value.int .i64) ?_)))))))
    have h1 := csum_le a (k + 1); rw [csum_step (by omega)] at h1; exact szB_neg (by omega)
   ·skip
    have hz := szB_ok c16
    refine kc_skipQ (kq_code (kc_region (kl_mv rfl (kl_inc rfl rfl (by omega) ?_))))
    refine kl_as rfl (kl_nil (kq_round0 ((k + 1), (szB l (conN (a.getD k nilCon) : Nat))) (by omega) (⟨by omega, (by rw [csum_step (by omega)]; omega)⟩) (pc 5 rfl (pc 1 rfl pn)) (pc 0 rfl pn) (List.Sublist.refl _)))
  ·skip
   refine kc_exit (kq_code (kc_seq (kc_region (kl_mv rfl (kl_as rfl (kl_nil (kq_code (kc_ret (kq_retP rfl rfl (congrArg (Value.int .i64) ?_))))))))))
   rw [List.take_of_length_le (by omega)] at *; exact szB_pos (by omega) (by omega)
theorem szModel_ok {Hmd : Hp} {vmd : Value} {Hmc : Hp} {vmc : Value} (m : Mod) (left : Int) (hl : 0 ≤ left ∧ left ≤ 1048576) (hmd : Ints Hmd vmd m.doms) (hmc : Cons Hmc vmc m.cons) : SpecP Tryz.prog 6 [.agg #[vmd, vmc], .int .i64 left] [Hmd, Hmc] (.int .i64 (szB left (modN m : Nat))) := by
 have hc : modN m = m.doms.length + (m.cons.length + csum m.cons) := rfl
 refine spec_of Tryz.func6 rfl rfl rfl (fun B => ?_)
 refine kc_seq (kc_region (kl_box rfl rfl (fun p1 H2 f3 a4 => ?_)))
 refine kl_as rfl (kl_nil (kq_code (kc_seq (kc_region (kl_fd rfl (by assumption) (fun p5 a6 => ?_))))))
 refine kl_ld rfl (by assumption) (kl_mv rfl (kl_callP rfl rfl (szIntS_ok m.doms left (by first | assumption | omega) (by assumption)) ?_))
 refine kl_as rfl (kl_nil (kq_code (kc_seq (kc_seq (kc_region (kl_mv rfl (kl_lss rfl rfl ?_)))))))
 refine kl_nil (kq_code (kc_if rfl (fun c7 => ?_) (fun c7 => ?_)))
 ·skip
  have hzc7 := szB_lt c7
  refine kc_seq (kc_region (kl_as rfl (kl_nil (kq_code (kc_ret (kq_retP rfl rfl (congrArg (Value.int .i64) ?_)))))))
  exact szB_neg (by omega)
 ·skip
  have hzc7 := szB_ok c7
  refine kc_skipQ (kq_code (kc_seq (kc_region (kl_fd rfl (by assumption) (fun p8 a9 => ?_)))))
  refine kl_ld rfl (by assumption) (kl_mv rfl (kl_callP rfl rfl (szConstraintS_ok m.cons (szB left m.doms.length) (by first | assumption | omega) (by assumption)) ?_))
  refine kl_as rfl (kl_nil (kq_code (kc_seq (kc_seq (kc_region (kl_mv rfl (kl_lss rfl rfl ?_)))))))
  refine kl_nil (kq_code (kc_if rfl (fun c10 => ?_) (fun c10 => ?_)))
  ·skip
   have hzc10 := szB_lt c10
   refine kc_seq (kc_region (kl_as rfl (kl_nil (kq_code (kc_ret (kq_retP rfl rfl (congrArg (Value.int .i64) ?_)))))))
   exact szB_neg (by omega)
  ·skip
   have hzc10 := szB_ok c10
   refine kc_skipQ (kq_code (kc_seq (kc_region (kl_mv rfl (kl_as rfl (kl_nil (kq_code (kc_ret (kq_retP rfl rfl (congrArg (Value.int .i64) ?_))))))))))
   exact szB_pos (by omega) (by omega)
theorem toIntS_ok {Ha : Hp} {va : Value} (a : List Int) (hb : a.length ≤ 1048576) (ha : Ints Ha va a) : Spec Tryz.prog 9 [va] [Ha] (fun Hq vq => Ints Hq vq a) := by
 refine spec_of Tryz.func9 rfl rfl rfl (fun B => ?_)
 refine kc_seq (kc_region (kl_as rfl (kl_nil (kq_code (kc_seq (kc_region (kl_mv rfl (kl_len rfl (by assumption) (fun l1 => ?_)))))))))
 refine kl_mkL (R := IntV) (0 : Int) rfl rfl (by omega) (by decide) (by exact rfl) (fun v2 H3 f4 o5 => ?_)
 refine kl_as rfl (kl_nil (kq_code (kc_seq (kc_seq (kc_region (kl_as rfl (kl_nil (kq_code (kc_block (kc_loopL (A := Nat × Hp) (fun zz => (zz.1 ≤ a.length) ∧ OwnL 3 1 zz.2 noHp IntV v2 (a.take zz.1 ++ List.replicate (a.length - zz.1) (0 : Int)) ∧ Fr B zz.2) (fun zz => a.length - zz.1) (fun zz => [zz.2]) (fun zz => [(4, .int .i64 (zz.1 : Int))]) (0, H3) (pc 0 rfl (pc 2 rfl (pc 3 rfl pn))) (pc 4 rfl pn) rfl ⟨Nat.zero_le _, (OwnL.cast (by simp : (List.replicate a.length (0 : Int)) = (a.take 0 ++ List.replicate (a.length - 0) (0 : Int))) o5), f4⟩ ?_))))))))))
 rintro ⟨k, H8⟩ hJ11
 obtain ⟨hk6, o9, f10⟩ : (k ≤ a.length) ∧ OwnL 3 1 H8 noHp IntV v2 (a.take k ++ List.replicate (a.length - k) (0 : Int)) ∧ Fr B H8 := hJ11
 change KC _ _ (_) [H8] _ ([(4, .int .i64 (k : Int))] ++ _)
 refine kc_seq (kc_seq (kc_region (kl_mv rfl (kl_mv rfl (kl_len rfl (by assumption) (fun l12 => ?_))))))
 refine kl_lss rfl rfl ?_
 refine kl_nil (kq_code (kc_if rfl (fun c13 => ?_) (fun c13 => ?_)))
 ·skip
  refine kc_skipQ (kq_code (kc_seq (kc_block (kc_region (kl_mv rfl (kl_mv rfl (kl_mv rfl (kl_mv rfl ?_))))))))
  refine kl_inI rfl rfl (by assumption) (by first | omega | (simp only [List.length_append, List.length_take, List.length_replicate]; omega)) (fun p14 a15 => ?_)
  refine kl_ld rfl (by assumption) (kl_ixLn rfl rfl (by assumption) (by first | omega | (simp only [List.length_append, List.length_take, List.length_replicate]; omega)) (fun p16 q17 => ?_))
  refine kl_stL (a.getD k 0) rfl rfl (by assumption) o9 (by first | omega | (simp only [List.length_append, List.length_take, List.length_replicate]; omega)) rfl rfl rfl (fun H18 o19 f20 => ?_)
  have f21 := f20 _ f10
  refine kl_nil (kq_code (kc_region (kl_mv rfl (kl_inc rfl rfl (by omega) ?_))))
  refine kl_as rfl (kl_nil (kq_roundL ((k + 1), H18) (by omega) (⟨by omega, (OwnL.cast (by exact fill_step (0 : Int) (by omega) : ((a.take k ++ List.replicate (a.length - k) (0 : Int)).set k (a.getD k 0)) = (a.take (k + 1) ++ List.replicate (a.length - (k + 1)) (0 : Int))) o19), f21⟩) (pc 4 rfl pn) (pc 0 rfl (pc 2 rfl (pc 3 rfl pn))) rfl (List.Sublist.refl _)))
 ·skip
  refine kc_exit (kq_code (kc_seq (kc_region (kl_mv rfl (kl_as rfl (kl_nil (kq_code (kc_ret ?_))))))))
  have e9 : (a.take k ++ List.replicate (a.length - k) (0 : Int)) = a := by exact fill_end (by omega)
  exact kq_ret rfl rfl H8 f10 (e9 ▸ OwnL.ints o9)
theorem toIntSS_ok {Ha : Hp} {va : Value} (a : List (List Int)) (hb : a.length ≤ 1048576) (hb2 : ∀ r ∈ a, r.length ≤ 1048576) (ha : Rows Ha va a) : Spec Tryz.prog 107 [va] [Ha] (fun Hq vq => Rows Hq vq a) := by
 refine spec_of Tryz.func107 rfl rfl rfl (fun B => ?_)
 refine kc_seq (kc_region (kl_as rfl (kl_nil (kq_code (kc_seq (kc_region (kl_mv rfl (kl_len rfl (by assumption) (fun l1 => ?_)))))))))
 refine kl_mkL (R := RowV) ([] : List Int) rfl rfl (by omega) (by decide) (by exact ⟨_, rfl, Sl.nil⟩) (fun v2 H3 f4 o5 => ?_)
 refine kl_as rfl (kl_nil (kq_code (kc_seq (kc_seq (kc_region (kl_as rfl (kl_nil (kq_code (kc_block (kc_loopK (A := Nat × Hp × Hp) (fun zz => (zz.1 ≤ a.length) ∧ Fr B zz.2.2 ∧ OwnL 22 1 zz.2.1 zz.2.2 RowV v2 (a.take zz.1 ++ List.replicate (a.length - zz.1) ([] : List Int)) ∧ Fr B zz.2.1) (fun zz => a.length - zz.1) (fun zz => zz.2.2) (fun zz => [zz.2.1]) (fun zz => [(4, .int .i64 (zz.1 : Int))]) (0, H3, noHp) (pc 0 rfl (pc 2 rfl (pc 3 rfl pn))) (pc 4 rfl pn) rfl ⟨Nat.zero_le _, (fr_no _), (OwnL.cast (by simp : (List.replicate a.length ([] : List Int)) = (a.take 0 ++ List.replicate (a.length - 0) ([] : List Int))) o5), f4⟩ ?_))))))))))
 rintro ⟨k, H8, K11⟩ hJ13
 obtain ⟨hk6, f12, o9, f10⟩ : (k ≤ a.length) ∧ Fr B K11 ∧ OwnL 22 1 H8 K11 RowV v2 (a.take k ++ List.replicate (a.length - k) ([] : List Int)) ∧ Fr B H8 := hJ13
 change KC _ _ (K11 :: _) [H8] _ ([(4, .int .i64 (k : Int))] ++ _)
 refine kc_seq (kc_seq (kc_region (kl_mv rfl (kl_mv rfl (kl_len rfl (by assumption) (fun l14 => ?_))))))
 refine kl_lss rfl rfl ?_
 refine kl_nil (kq_code (kc_if rfl (fun c15 => ?_) (fun c15 => ?_)))
 ·skip
  refine kc_skipQ (kq_code (kc_seq (kc_block (kc_region (kl_mv rfl (kl_mv rfl (kl_mv rfl (kl_mv rfl ?_))))))))
  refine kl_inS rfl rfl (by assumption) (by first | omega | (simp only [List.length_append, List.length_take, List.length_replicate]; omega)) (fun p16 u18 h19 a17 => ?_)
  refine kl_ld rfl (by assumption) (kl_call rfl rfl (toIntS_ok (a.getD k []) (hb2 _ (getD_mem (by omega))) (by assumption)) (fun v20 H21 f22 h23 => ?_))
  refine kl_ixLn rfl rfl (by assumption) (by first | omega | (simp only [List.length_append, List.length_take, List.length_replicate]; omega)) (fun p24 q25 => ?_)
  refine kl_cmp K11 H21 (fun c30 => ?_)
  have o31 := OwnL.mono (K' := orHp K11 H21) o9 orL
  refine kl_stL (a.getD k []) rfl rfl (by assumption) o31 (by first | omega | (simp only [List.length_append, List.length_take, List.length_replicate]; omega)) ⟨_, rfl, Sl.mono (by assumption) (orC c30) (fun _ _ h => h)⟩ (Sl.oneCell (by assumption)) (Sl.cells (by assumption)) (fun H26 o27 f28 => ?_)
  have f29 := f28 _ f10
  refine kl_nil (kq_code (kc_region (kl_mv rfl (kl_inc rfl rfl (by omega) ?_))))
  refine kl_as rfl (kl_nil (kq_roundK ((k + 1), H26, (orHp K11 H21)) (by omega) (⟨by omega, (fr_or f12 f22), (OwnL.cast (by exact fill_step ([] : List Int) (by omega) : ((a.take k ++ List.replicate (a.length - k) ([] : List Int)).set k (a.getD k [])) = (a.take (k + 1) ++ List.replicate (a.length - (k + 1)) ([] : List Int))) o27), f29⟩) (pc 4 rfl pn) (pc 0 rfl (pc 2 rfl (pc 3 rfl pn))) rfl (List.Sublist.refl _)))
 ·skip
  refine kc_exit (kq_code (kc_seq (kc_region (kl_mv rfl (kl_as rfl (kl_nil (kq_code (kc_ret (kq_cmp H8 K11 (fun c32 => ?_))))))))))
  have e9 : (a.take k ++ List.replicate (a.length - k) ([] : List Int)) = a := by exact fill_end (by omega)
  exact kq_ret rfl rfl (orHp H8 K11) (fr_or f10 f12) (e9 ▸ OwnL.rowsK o9 c32)
theorem toConstraint_ok {Hcv : Hp} {vcv : Value} {Hca : Hp} {vca : Value} {Hcr : Hp} {vcr : Value} (c : Con) (hs : SmallC c) (hcv : Ints Hcv vcv c.vars) (hca : Ints Hca vca c.args) (hcr : Rows Hcr vcr c.rows) : Spec Tryz.prog 68 [.agg #[.int .i64 c.kind, vcv, vca, .int .i64 c.bound, vcr]] [Hcv, Hca, Hcr] (fun Hq vq => ConR Hq vq c) := by
 refine spec_of Tryz.func68 rfl rfl rfl (fun B => ?_)
 refine kc_seq (kc_region (kl_box rfl rfl (fun p1 H2 f3 a4 => ?_)))
 refine kl_alloc (cs := [.int .i64 (0 : Int), .slice none 0 0, .slice none 0 0, .int .i64 (0 : Int), .slice none 0 0]) rfl (fun b5 hb6 => ?_)
 refine kl_nil (kq_code (kc_seq (kc_region (kl_alloc (cs := [.int .i64 (0 : Int), .slice none 0 0, .slice none 0 0, .int .i64 (0 : Int), .slice none 0 0]) rfl (fun b7 hb8 => ?_)))))
 refine kl_nil (kq_code (kc_seq (kc_region (kl_fd rfl (by assumption) (fun p9 a10 => ?_)))))
 refine kl_ld rfl (by assumption) (kl_fdV rfl (kl_stB rfl rfl rfl rfl rfl ?_))
 refine kl_nil (kq_code (kc_seq (kc_region (kl_fd rfl (by assumption) (fun p11 a12 => ?_)))))
 refine kl_ld rfl (by assumption) (kl_call rfl rfl (toIntS_ok c.vars hs.vars (by assumption)) (fun v13 H14 f15 h16 => ?_))
 refine kl_fdV rfl (kl_stB rfl rfl rfl (Sl.oneCell (by assumption)) (Sl.cells (by assumption)) ?_)
 refine kl_nil (kq_code (kc_seq (kc_region (kl_fd rfl (by assumption) (fun p17 a18 => ?_)))))
 refine kl_ld rfl (by assumption) (kl_call rfl rfl (toIntS_ok c.args hs.args (by assumption)) (fun v19 H20 f21 h22 => ?_))
 refine kl_fdV rfl (kl_stB rfl rfl rfl (Sl.oneCell (by assumption)) (Sl.cells (by assumption)) ?_)
 refine kl_nil (kq_code (kc_seq (kc_region (kl_fd rfl (by assumption) (fun p23 a24 => ?_)))))
 refine kl_ld rfl (by assumption) (kl_fdV rfl (kl_stB rfl rfl rfl rfl rfl ?_))
 refine kl_nil (kq_code (kc_seq (kc_region (kl_fd rfl (by assumption) (fun p25 a26 => ?_)))))
 refine kl_ld rfl (by assumption) (kl_call rfl rfl (toIntSS_ok c.rows hs.rows hs.row (by assumption)) (fun v27 H28 f29 h30 => ?_))
 refine kl_fdV rfl (kl_stB rfl rfl rfl (Sl.oneCell (by assumption)) (Sl.cells (by assumption)) ?_)
 refine kl_nil (kq_code (kc_seq (kc_region (kl_ldW rfl rfl (kl_stW (us := [.int .i64 c.kind, v13, v19, .int .i64 c.bound, v27]) rfl rfl rfl rfl (oc rfl (oc (Sl.oneCell (by assumption)) (oc (Sl.oneCell (by assumption)) (oc rfl (oc (Sl.oneCell (by assumption)) oc_nil))))) rfl ?_)))))
 refine kl_nil (kq_code (kc_ret (kq_cmp H14 (orHp H20 H28) (fun c31 => ?_))))
 refine kq_cmp H20 H28 (fun c32 => ?_)
 exact kq_retC rfl rfl rfl (orHp H14 (orHp H20 H28)) (fr_or f15 (fr_or f21 f29)) ⟨_, rfl, _, _, _, rfl, Sl.mono (by assumption) orL (fun _ _ h => h), Sl.mono (by assumption) (fun b o h => orC c31 b o (orL b o h)) (fun _ _ h => h), Rows.mono' (by assumption) (fun b o h => orC c31 b o (orC c32 b o h))⟩
theorem toConstraintS_ok {Ha : Hp} {va : Value} (a : List Con) (hb : a.length ≤ 1048576) (hb2 : ∀ c ∈ a, SmallC c) (ha : Cons Ha va a) : Spec Tryz.prog 35 [va] [Ha] (fun Hq vq => Cons Hq vq a) := by
 refine spec_of Tryz.func35 rfl rfl rfl (fun B => ?_)
 refine kc_seq (kc_region (kl_as rfl (kl_nil (kq_code (kc_seq (kc_region (kl_mv rfl (kl_len rfl (by assumption) (fun l1 => ?_)))))))))
 refine kl_mkL (R := ConV) nilCon rfl rfl (by omega) (by decide) (by exact ⟨_, _, _, rfl, Sl.nil, Sl.nil, Sl.nil⟩) (fun v2 H3 f4 o5 => ?_)
 refine kl_as rfl (kl_nil (kq_code (kc_seq (kc_seq (kc_region (kl_as rfl (kl_nil (kq_code (kc_block (kc_loopK (A := Nat × Hp × Hp) (fun zz => (zz.1 ≤ a.length) ∧ Fr B zz.2.2 ∧ OwnL 76 5 zz.2.1 zz.2.2 ConV v2 (a.take zz.1 ++ List.replicate (a.length - zz.1) nilCon) ∧ Fr B zz.2.1) (fun zz => a.length - zz.1) (fun zz => zz.2.2) (fun zz => [zz.2.1]) (fun zz => [(4, .int .i64 (zz.1 : Int))]) (0, H3, noHp) (pc 0 rfl (pc 2 rfl (pc 3 rfl pn))) (pc 4 rfl pn) rfl ⟨Nat.zero_le _, (fr_no _), (OwnL.cast (by simp : (List.replicate a.length nilCon) = (a.take 0 ++ List.replicate (a.length - 0) nilCon)) o5), f4⟩ ?_))))))))))
 rintro ⟨k, H8, K11⟩ hJ13
 obtain ⟨hk6, f12, o9, f10⟩ : (k ≤ a.length) ∧ Fr B K11 ∧ OwnL 76 5 H8 K11 ConV v2 (a.take k ++ List.replicate (a.length - k) nilCon) ∧ Fr B H8 := hJ13
 change KC _ _ (K11 :: _) [H8] _ ([(4, .int .i64 (k : Int))] ++ _)
 refine kc_seq (kc_seq (kc_region (kl_mv rfl (kl_mv rfl (kl_len rfl (by assumption) (fun l14 => ?_))))))
 refine kl_lss rfl rfl ?_
 refine kl_nil (kq_code (kc_if rfl (fun c15 => ?_) (fun c15 => ?_)))
 ·skip
  refine kc_skipQ (kq_code (kc_seq (kc_block (kc_region (kl_mv rfl (kl_mv rfl (kl_mv rfl (kl_mv rfl ?_))))))))
  refine kl_inC rfl rfl (by assumption) (by first | omega | (simp only [List.length_append, List.length_take, List.length_replicate]; omega)) (fun p16 u18 u19 u20 h21 h22 h23 a17 => ?_)
  refine kl_ldS rfl (by assumption) rfl ?_
  refine kl_call rfl rfl (toConstraint_ok (a.getD k nilCon) (hb2 _ (getD_mem (by omega))) (by assumption) (by assumption) (by assumption)) (fun v24 H25 f26 h27 => ?_)
  obtain ⟨_, rfl, h31⟩ := h27
  have h31' := h31
  obtain ⟨u28, u29, u30, rfl, h32, h33, h34⟩ := h31
  refine kl_ixLn rfl rfl (by assumption) (by first | omega | (simp only [List.length_append, List.length_take, List.length_replicate]; omega)) (fun p35 q36 => ?_)
  refine kl_cmp K11 H25 (fun c41 => ?_)
  have o42 := OwnL.mono (K' := orHp K11 H25) o9 orL
  refine kl_stLk (us := [.int .i64 ((a.getD k nilCon).kind), u28, u29, .int .i64 ((a.getD k nilCon).bound), u30]) (a.getD k nilCon) rfl rfl (by assumption) o42 (by first | omega | (simp only [List.length_append, List.length_take, List.length_replicate]; omega)) (RMono.mono (orC c41) (by assumption)) rfl (oc rfl (oc (Sl.oneCell (by assumption)) (oc (Sl.oneCell (by assumption)) (oc rfl (oc (Sl.oneCell (by assumption)) oc_nil))))) rfl (fun H37 o38 f39 => ?_)
  have f40 := f39 _ f10
  refine kl_nil (kq_code (kc_region (kl_mv rfl (kl_inc rfl rfl (by omega) ?_))))
  refine kl_as rfl (kl_nil (kq_roundK ((k + 1), H37, (orHp K11 H25)) (by omega) (⟨by omega, (fr_or f12 f26), (OwnL.cast (by exact fill_step nilCon (by omega) : ((a.take k ++ List.replicate (a.length - k) nilCon).set k (a.getD k nilCon)) = (a.take (k + 1) ++ List.replicate (a.length - (k + 1)) nilCon)) o38), f40⟩) (pc 4 rfl pn) (pc 0 rfl (pc 2 rfl (pc 3 rfl pn))) rfl (List.Sublist.refl _)))
 ·skip
  refine kc_exit (kq_code (kc_seq (kc_region (kl_mv rfl (kl_as rfl (kl_nil (kq_code (kc_ret (kq_cmp H8 K11 (fun c43 => ?_))))))))))
  have e9 : (a.take k ++ List.replicate (a.length - k) nilCon) = a := by exact fill_end (by omega)
  exact kq_ret rfl rfl (orHp H8 K11) (fr_or f10 f12) (e9 ▸ OwnL.consK o9 c43)
theorem toModel_ok {Hmd : Hp} {vmd : Value} {Hmc : Hp} {vmc : Value} (m : Mod) (hs : SmallM m) (hmd : Ints Hmd vmd m.doms) (hmc : Cons Hmc vmc m.cons) : Spec Tryz.prog 8 [.agg #[vmd, vmc]] [Hmd, Hmc] (fun Hq vq => ModR Hq vq m) := by
 refine spec_of Tryz.func8 rfl rfl rfl (fun B => ?_)
 refine kc_seq (kc_region (kl_box rfl rfl (fun p1 H2 f3 a4 => ?_)))
 refine kl_alloc (cs := [.slice none 0 0, .slice none 0 0]) rfl (fun b5 hb6 => ?_)
 refine kl_nil (kq_code (kc_seq (kc_region (kl_alloc (cs := [.slice none 0 0, .slice none 0 0]) rfl (fun b7 hb8 => ?_)))))
 refine kl_nil (kq_code (kc_seq (kc_region (kl_fd rfl (by assumption) (fun p9 a10 => ?_)))))
 refine kl_ld rfl (by assumption) (kl_call rfl rfl (toIntS_ok m.doms hs.doms (by assumption)) (fun v11 H12 f13 h14 => ?_))
 refine kl_fdV rfl (kl_stB rfl rfl rfl (Sl.oneCell (by assumption)) (Sl.cells (by assumption)) ?_)
 refine kl_nil (kq_code (kc_seq (kc_region (kl_fd rfl (by assumption) (fun p15 a16 => ?_)))))
 refine kl_ld rfl (by assumption) (kl_call rfl rfl (toConstraintS_ok m.cons hs.cons hs.con (by assumption)) (fun v17 H18 f19 h20 => ?_))
 refine kl_fdV rfl (kl_stB rfl rfl rfl (Sl.oneCell (by assumption)) (Sl.cells (by assumption)) ?_)
 refine kl_nil (kq_code (kc_seq (kc_region (kl_ldW rfl rfl (kl_stW (us := [v11, v17]) rfl rfl rfl rfl (oc (Sl.oneCell (by assumption)) (oc (Sl.oneCell (by assumption)) oc_nil)) rfl ?_)))))
 refine kl_nil (kq_code (kc_ret (kq_cmp H12 H18 (fun c21 => ?_))))
 exact kq_retC rfl rfl rfl (orHp H12 H18) (fr_or f13 f19) ⟨_, _, rfl, Sl.mono (by assumption) orL (fun _ _ h => h), Cons.mono' (by assumption) (orC c21)⟩
theorem eqIntS_ok {Ha : Hp} {va : Value} {Hb : Hp} {vb : Value} (a : List Int) (b : List Int) (ha : Ints Ha va a) (hb : Ints Hb vb b) : SpecP Tryz.prog 11 [va, vb] [Ha, Hb] (.bool (decide (a = b))) := by
 refine spec_of Tryz.func11 rfl rfl rfl (fun B => ?_)
 refine kc_seq (kc_region (kl_as rfl (kl_nil (kq_code (kc_seq (kc_seq (kc_region (kl_mv rfl (kl_len rfl (by assumption) (fun l1 => ?_))))))))))
 refine kl_mv rfl (kl_len rfl (by assumption) (fun l2 => ?_))
 refine kl_neq rfl rfl ?_
 refine kl_nil (kq_code (kc_if rfl (fun c3 => ?_) (fun c3 => ?_)))
 ·skip
  refine kc_seq (kc_region (kl_as rfl (kl_nil (kq_code (kc_ret (kq_retP rfl rfl (congrArg Value.bool ?_)))))))
  exact eq_len (by assumption)
 ·skip
  refine kc_skipQ (kq_code (kc_seq (kc_seq (kc_region (kl_as rfl (kl_nil (kq_code (kc_block (kc_loop0 (A := Nat) (fun zz => (zz ≤ a.length) ∧ (a.take zz = b.take zz)) (fun zz => a.length - zz) (fun zz => [(5, .int .i64 (zz : Int))]) (0) (pc 0 rfl (pc 1 rfl pn)) (pc 5 rfl pn) ⟨Nat.zero_le _, by simp⟩ ?_)))))))))
  rintro k hJ6
  obtain ⟨hk4, hi5⟩ : (k ≤ a.length) ∧ (a.take k = b.take k) := hJ6
  change KC _ _ (_) _ _ ([(5, .int .i64 (k : Int))] ++ _)
  refine kc_seq (kc_seq (kc_region (kl_mv rfl (kl_mv rfl (kl_len rfl (by assumption) (fun l7 => ?_))))))
  refine kl_lss rfl rfl ?_
  refine kl_nil (kq_code (kc_if rfl (fun c8 => ?_) (fun c8 => ?_)))
  ·skip
   refine kc_skipQ (kq_code (kc_seq (kc_block (kc_seq (kc_draw 9 [true, true, true, true, true, true, true, true, true] (by kernel_rfl) (by kernel_rfl) ?_)))))
   refine kl_mv rfl (kl_mv rfl (kl_inI rfl rfl (by assumption) (by omega) (fun p9 a10 => ?_)))
   refine kl_ld rfl (by assumption) (kl_mv rfl (kl_mv rfl (kl_inI rfl rfl (by assumption) (by omega) (fun p11 a12 => ?_))))
   refine kl_ld rfl (by assumption) (kl_neq rfl rfl ?_)
   refine kl_nil (kq_code (kc_if rfl (fun c13 => ?_) (fun c13 => ?_)))
   ·skip
    refine kc_seq (kc_region (kl_as rfl (kl_nil (kq_code (kc_ret (kq_retP rfl rfl (congrArg Value.bool ?_)))))))
    exact eq_at (k := k) 0 (by simpa using by assumption)
   ·skip
    refine kc_skipQ (kq_code (kc_region (kl_mv rfl (kl_inc rfl rfl (by omega) ?_))))
    refine kl_as rfl (kl_nil (kq_round0 ((k + 1)) (by omega) (⟨by omega, eq_step 0 (by omega) (by omega) hi5 (by first | exact Decidable.not_not.1 (by assumption) | (simpa using by assumption))⟩) (pc 5 rfl pn) (pc 0 rfl (pc 1 rfl pn)) (List.Sublist.refl _)))
  ·skip
   refine kc_exit (kq_code (kc_seq (kc_region (kl_as rfl (kl_nil (kq_code (kc_ret (kq_retP rfl rfl (congrArg Value.bool ?_)))))))))
   exact eq_end (k := k) (by omega) (by omega) (by assumption)
theorem eqIntSS_ok {Ha : Hp} {va : Value} {Hb : Hp} {vb : Value} (a : List (List Int)) (b : List (List Int)) (ha : Rows Ha va a) (hb : Rows Hb vb b) : SpecP Tryz.prog 114 [va, vb] [Ha, Hb] (.bool (decide (a = b))) := by
 refine spec_of Tryz.func114 rfl rfl rfl (fun B => ?_)
 refine kc_seq (kc_region (kl_as rfl (kl_nil (kq_code (kc_seq (kc_seq (kc_region (kl_mv rfl (kl_len rfl (by assumption) (fun l1 => ?_))))))))))
 refine kl_mv rfl (kl_len rfl (by assumption) (fun l2 => ?_))
 refine kl_neq rfl rfl ?_
 refine kl_nil (kq_code (kc_if rfl (fun c3 => ?_) (fun c3 => ?_)))
 ·skip
  refine kc_seq (kc_region (kl_as rfl (kl_nil (kq_code (kc_ret (kq_retP rfl rfl (congrArg Value.bool ?_)))))))
  exact eq_len (by assumption)
 ·skip
  refine kc_skipQ (kq_code (kc_seq (kc_seq (kc_region (kl_as rfl (kl_nil (kq_code (kc_block (kc_loop0 (A := Nat) (fun zz => (zz ≤ a.length) ∧ (a.take zz = b.take zz)) (fun zz => a.length - zz) (fun zz => [(5, .int .i64 (zz : Int))]) (0) (pc 0 rfl (pc 1 rfl pn)) (pc 5 rfl pn) ⟨Nat.zero_le _, by simp⟩ ?_)))))))))
  rintro k hJ6
  obtain ⟨hk4, hi5⟩ : (k ≤ a.length) ∧ (a.take k = b.take k) := hJ6
  change KC _ _ (_) _ _ ([(5, .int .i64 (k : Int))] ++ _)
  refine kc_seq (kc_seq (kc_region (kl_mv rfl (kl_mv rfl (kl_len rfl (by assumption) (fun l7 => ?_))))))
  refine kl_lss rfl rfl ?_
  refine kl_nil (kq_code (kc_if rfl (fun c8 => ?_) (fun c8 => ?_)))
  ·skip
   refine kc_skipQ (kq_code (kc_seq (kc_block (kc_seq (kc_draw 10 [true, true, true, true, true, true, true, true, false, true] (by kernel_rfl) (by kernel_rfl) ?_)))))
   refine kl_mv rfl (kl_mv rfl (kl_inS rfl rfl (by assumption) (by omega) (fun p9 u11 h12 a10 => ?_)))
   refine kl_ld rfl (by assumption) (kl_mv rfl (kl_mv rfl (kl_inS rfl rfl (by assumption) (by omega) (fun p13 u15 h16 a14 => ?_))))
   refine kl_ld rfl (by assumption) (kl_callP rfl rfl (eqIntS_ok (a.getD k []) (b.getD k []) (by assumption) (by assumption)) ?_)
   refine kl_not rfl (kl_nil (kq_code (kc_cond rfl (fun c17 => ?_) (fun c17 => ?_))))
   ·skip
    have c17r := c17
    try simp only [smpC, decide_eq_true_eq, decide_eq_false_iff_not] at c17
    refine kc_seq (kc_region (kl_as rfl (kl_nil (kq_code (kc_ret (kq_retP rfl rfl (congrArg Value.bool ?_)))))))
    exact eq_at (k := k) [] (by simpa using by assumption)
   ·skip
    have c17r := c17
    try simp only [smpC, decide_eq_true_eq, decide_eq_false_iff_not] at c17
    refine kc_skipQ (kq_code (kc_region (kl_mv rfl (kl_inc rfl rfl (by omega) ?_))))
    refine kl_as rfl (kl_nil (kq_round0 ((k + 1)) (by omega) (⟨by omega, eq_step [] (by omega) (by omega) hi5 (by first | exact Decidable.not_not.1 (by assumption) | (simpa using by assumption))⟩) (pc 5 rfl pn) (pc 0 rfl (pc 1 rfl pn)) (List.Sublist.refl _)))
  ·skip
   refine kc_exit (kq_code (kc_seq (kc_region (kl_as rfl (kl_nil (kq_code (kc_ret (kq_retP rfl rfl (congrArg Value.bool ?_)))))))))
   exact eq_end (k := k) (by omega) (by omega) (by assumption)
theorem eqConstraint_ok {Hav : Hp} {vav : Value} {Haa : Hp} {vaa : Value} {Har : Hp} {var : Value} {Hbv : Hp} {vbv : Value} {Hba : Hp} {vba : Value} {Hbr : Hp} {vbr : Value} (a : Con) (b : Con) (hav : Ints Hav vav a.vars) (haa : Ints Haa vaa a.args) (har : Rows Har var a.rows) (hbv : Ints Hbv vbv b.vars) (hba : Ints Hba vba b.args) (hbr : Rows Hbr vbr b.rows) : SpecP Tryz.prog 80 [.agg #[.int .i64 a.kind, vav, vaa, .int .i64 a.bound, var], .agg #[.int .i64 b.kind, vbv, vba, .int .i64 b.bound, vbr]] [Hav, Haa, Har, Hbv, Hba, Hbr] (.bool (decide (a = b))) := by
 refine spec_of Tryz.func80 rfl rfl rfl (fun B => ?_)
 refine kc_seq (kc_region (kl_box rfl rfl (fun p1 H2 f3 a4 => ?_)))
 refine kl_box rfl rfl (fun p5 H6 f7 a8 => ?_)
 refine kl_as rfl (kl_nil (kq_code (kc_seq (kc_seq (kc_region (kl_fd rfl (by assumption) (fun p9 a10 => ?_)))))))
 refine kl_ld rfl (by assumption) (kl_fd rfl (by assumption) (fun p11 a12 => ?_))
 refine kl_ld rfl (by assumption) (kl_neq rfl rfl ?_)
 refine kl_nil (kq_code (kc_if rfl (fun c13 => ?_) (fun c13 => ?_)))
 ·skip
  refine kc_seq (kc_region (kl_as rfl (kl_nil (kq_code (kc_ret (kq_retP rfl rfl (congrArg Value.bool ?_)))))))
  rw [eqCon_iff]; simp_all
 ·skip
  refine kc_skipQ (kq_code (kc_seq (kc_seq (kc_region (kl_fd rfl (by assumption) (fun p14 a15 => ?_))))))
  refine kl_ld rfl (by assumption) (kl_fd rfl (by assumption) (fun p16 a17 => ?_))
  refine kl_ld rfl (by assumption) (kl_callP rfl rfl (eqIntS_ok a.vars b.vars (by assumption) (by assumption)) ?_)
  refine kl_not rfl (kl_nil (kq_code (kc_cond rfl (fun c18 => ?_) (fun c18 => ?_))))
  ·skip
   have c18r := c18
   try simp only [smpC, decide_eq_true_eq, decide_eq_false_iff_not] at c18
   refine kc_seq (kc_region (kl_as rfl (kl_nil (kq_code (kc_ret (kq_retP rfl rfl (congrArg Value.bool ?_)))))))
   rw [eqCon_iff]; simp_all
  ·skip
   have c18r := c18
   try simp only [smpC, decide_eq_true_eq, decide_eq_false_iff_not] at c18
   refine kc_skipQ (kq_code (kc_seq (kc_seq (kc_region (kl_fd rfl (by assumption) (fun p19 a20 => ?_))))))
   refine kl_ld rfl (by assumption) (kl_fd rfl (by assumption) (fun p21 a22 => ?_))
   refine kl_ld rfl (by assumption) (kl_callP rfl rfl (eqIntS_ok a.args b.args (by assumption) (by assumption)) ?_)
   refine kl_not rfl (kl_nil (kq_code (kc_cond rfl (fun c23 => ?_) (fun c23 => ?_))))
   ·skip
    have c23r := c23
    try simp only [smpC, decide_eq_true_eq, decide_eq_false_iff_not] at c23
    refine kc_seq (kc_region (kl_as rfl (kl_nil (kq_code (kc_ret (kq_retP rfl rfl (congrArg Value.bool ?_)))))))
    rw [eqCon_iff]; simp_all
   ·skip
    have c23r := c23
    try simp only [smpC, decide_eq_true_eq, decide_eq_false_iff_not] at c23
    refine kc_skipQ (kq_code (kc_seq (kc_seq (kc_region (kl_fd rfl (by assumption) (fun p24 a25 => ?_))))))
    refine kl_ld rfl (by assumption) (kl_fd rfl (by assumption) (fun p26 a27 => ?_))
    refine kl_ld rfl (by assumption) (kl_neq rfl rfl ?_)
    refine kl_nil (kq_code (kc_if rfl (fun c28 => ?_) (fun c28 => ?_)))
    ·skip
     refine kc_seq (kc_region (kl_as rfl (kl_nil (kq_code (kc_ret (kq_retP rfl rfl (congrArg Value.bool ?_)))))))
     rw [eqCon_iff]; simp_all
    ·skip
     refine kc_skipQ (kq_code (kc_seq (kc_seq (kc_region (kl_fd rfl (by assumption) (fun p29 a30 => ?_))))))
     refine kl_ld rfl (by assumption) (kl_fd rfl (by assumption) (fun p31 a32 => ?_))
     refine kl_ld rfl (by assumption) (kl_callP rfl rfl (eqIntSS_ok a.rows b.rows (by assumption) (by assumption)) ?_)
     refine kl_not rfl (kl_nil (kq_code (kc_cond rfl (fun c33 => ?_) (fun c33 => ?_))))
     ·skip
      have c33r := c33
      try simp only [smpC, decide_eq_true_eq, decide_eq_false_iff_not] at c33
      refine kc_seq (kc_region (kl_as rfl (kl_nil (kq_code (kc_ret (kq_retP rfl rfl (congrArg Value.bool ?_)))))))
      rw [eqCon_iff]; simp_all
     ·skip
      have c33r := c33
      try simp only [smpC, decide_eq_true_eq, decide_eq_false_iff_not] at c33
      refine kc_skipQ (kq_code (kc_seq (kc_region (kl_as rfl (kl_nil (kq_code (kc_ret (kq_retP rfl rfl (congrArg Value.bool ?_)))))))))
      rw [eqCon_iff]; simp_all
theorem eqConstraintS_ok {Ha : Hp} {va : Value} {Hb : Hp} {vb : Value} (a : List Con) (b : List Con) (ha : Cons Ha va a) (hb : Cons Hb vb b) : SpecP Tryz.prog 43 [va, vb] [Ha, Hb] (.bool (decide (a = b))) := by
 refine spec_of Tryz.func43 rfl rfl rfl (fun B => ?_)
 refine kc_seq (kc_region (kl_as rfl (kl_nil (kq_code (kc_seq (kc_seq (kc_region (kl_mv rfl (kl_len rfl (by assumption) (fun l1 => ?_))))))))))
 refine kl_mv rfl (kl_len rfl (by assumption) (fun l2 => ?_))
 refine kl_neq rfl rfl ?_
 refine kl_nil (kq_code (kc_if rfl (fun c3 => ?_) (fun c3 => ?_)))
 ·skip
  refine kc_seq (kc_region (kl_as rfl (kl_nil (kq_code (kc_ret (kq_retP rfl rfl (congrArg Value.bool ?_)))))))
  exact eq_len (by assumption)
 ·skip
  refine kc_skipQ (kq_code (kc_seq (kc_seq (kc_region (kl_as rfl (kl_nil (kq_code (kc_block (kc_loop0 (A := Nat) (fun zz => (zz ≤ a.length) ∧ (a.take zz = b.take zz)) (fun zz => a.length - zz) (fun zz => [(5, .int .i64 (zz : Int))]) (0) (pc 0 rfl (pc 1 rfl pn)) (pc 5 rfl pn) ⟨Nat.zero_le _, by simp⟩ ?_)))))))))
  rintro k hJ6
  obtain ⟨hk4, hi5⟩ : (k ≤ a.length) ∧ (a.take k = b.take k) := hJ6
  change KC _ _ (_) _ _ ([(5, .int .i64 (k : Int))] ++ _)
  refine kc_seq (kc_seq (kc_region (kl_mv rfl (kl_mv rfl (kl_len rfl (by assumption) (fun l7 => ?_))))))
  refine kl_lss rfl rfl ?_
  refine kl_nil (kq_code (kc_if rfl (fun c8 => ?_) (fun c8 => ?_)))
  ·skip
   refine kc_skipQ (kq_code (kc_seq (kc_block (kc_seq (kc_draw 10 [true, true, true, true, true, true, true, true, false, true] (by kernel_rfl) (by kernel_rfl) ?_)))))
   refine kl_mv rfl (kl_mv rfl (kl_inC rfl rfl (by assumption) (by omega) (fun p9 u11 u12 u13 h14 h15 h16 a10 => ?_)))
   refine kl_ldS rfl (by assumption) rfl ?_
   refine kl_mv rfl (kl_mv rfl (kl_inC rfl rfl (by assumption) (by omega) (fun p17 u19 u20 u21 h22 h23 h24 a18 => ?_)))
   refine kl_ldS rfl (by assumption) rfl ?_
   refine kl_callP rfl rfl (eqConstraint_ok (a.getD k nilCon) (b.getD k nilCon) (by assumption) (by assumption) (by assumption) (by assumption) (by assumption) (by assumption)) ?_
   refine kl_not rfl (kl_nil (kq_code (kc_cond rfl (fun c25 => ?_) (fun c25 => ?_))))
   ·skip
    have c25r := c25
    try simp only [smpC, decide_eq_true_eq, decide_eq_false_iff_not] at c25
    refine kc_seq (kc_region (kl_as rfl (kl_nil (kq_code (kc_ret (kq_retP rfl rfl (congrArg Value.bool ?_)))))))
    exact eq_at (k := k) nilCon (by simpa using by assumption)
   ·skip
    have c25r := c25
    try simp only [smpC, decide_eq_true_eq, decide_eq_false_iff_not] at c25
    refine kc_skipQ (kq_code (kc_region (kl_mv rfl (kl_inc rfl rfl (by omega) ?_))))
    refine kl_as rfl (kl_nil (kq_round0 ((k + 1)) (by omega) (⟨by omega, eq_step nilCon (by omega) (by omega) hi5 (by first | exact Decidable.not_not.1 (by assumption) | (simpa using by assumption))⟩) (pc 5 rfl pn) (pc 0 rfl (pc 1 rfl pn)) (List.Sublist.refl _)))
  ·skip
   refine kc_exit (kq_code (kc_seq (kc_region (kl_as rfl (kl_nil (kq_code (kc_ret (kq_retP rfl rfl (congrArg Value.bool ?_)))))))))
   exact eq_end (k := k) (by omega) (by omega) (by assumption)
theorem eqModel_ok {Had : Hp} {vad : Value} {Hac : Hp} {vac : Value} {Hbd : Hp} {vbd : Value} {Hbc : Hp} {vbc : Value} (a : Mod) (b : Mod) (had : Ints Had vad a.doms) (hac : Cons Hac vac a.cons) (hbd : Ints Hbd vbd b.doms) (hbc : Cons Hbc vbc b.cons) : SpecP Tryz.prog 12 [.agg #[vad, vac], .agg #[vbd, vbc]] [Had, Hac, Hbd, Hbc] (.bool (decide (a = b))) := by
 refine spec_of Tryz.func12 rfl rfl rfl (fun B => ?_)
 refine kc_seq (kc_region (kl_box rfl rfl (fun p1 H2 f3 a4 => ?_)))
 refine kl_box rfl rfl (fun p5 H6 f7 a8 => ?_)
 refine kl_as rfl (kl_nil (kq_code (kc_seq (kc_seq (kc_region (kl_fd rfl (by assumption) (fun p9 a10 => ?_)))))))
 refine kl_ld rfl (by assumption) (kl_fd rfl (by assumption) (fun p11 a12 => ?_))
 refine kl_ld rfl (by assumption) (kl_callP rfl rfl (eqIntS_ok a.doms b.doms (by assumption) (by assumption)) ?_)
 refine kl_not rfl (kl_nil (kq_code (kc_cond rfl (fun c13 => ?_) (fun c13 => ?_))))
 ·skip
  have c13r := c13
  try simp only [smpC, decide_eq_true_eq, decide_eq_false_iff_not] at c13
  refine kc_seq (kc_region (kl_as rfl (kl_nil (kq_code (kc_ret (kq_retP rfl rfl (congrArg Value.bool ?_)))))))
  rw [eqMod_iff]; simp_all
 ·skip
  have c13r := c13
  try simp only [smpC, decide_eq_true_eq, decide_eq_false_iff_not] at c13
  refine kc_skipQ (kq_code (kc_seq (kc_seq (kc_region (kl_fd rfl (by assumption) (fun p14 a15 => ?_))))))
  refine kl_ld rfl (by assumption) (kl_fd rfl (by assumption) (fun p16 a17 => ?_))
  refine kl_ld rfl (by assumption) (kl_callP rfl rfl (eqConstraintS_ok a.cons b.cons (by assumption) (by assumption)) ?_)
  refine kl_not rfl (kl_nil (kq_code (kc_cond rfl (fun c18 => ?_) (fun c18 => ?_))))
  ·skip
   have c18r := c18
   try simp only [smpC, decide_eq_true_eq, decide_eq_false_iff_not] at c18
   refine kc_seq (kc_region (kl_as rfl (kl_nil (kq_code (kc_ret (kq_retP rfl rfl (congrArg Value.bool ?_)))))))
   rw [eqMod_iff]; simp_all
  ·skip
   have c18r := c18
   try simp only [smpC, decide_eq_true_eq, decide_eq_false_iff_not] at c18
   refine kc_skipQ (kq_code (kc_seq (kc_region (kl_as rfl (kl_nil (kq_code (kc_ret (kq_retP rfl rfl (congrArg Value.bool ?_)))))))))
   rw [eqMod_iff]; simp_all
theorem markIntS_ok {Hw : Hp} {va : Value} (a : List Int) (k : Int) (hk : 0 ≤ k ∧ k ≤ 4611686018427387904) (ha : Ints Hw va a) (hlw : Liq Hw) : SpecM Tryz.prog 14 [va, .int .i64 k] Hw [] (fun Hq _ vq => Mk Hw Hq ∧ vq = .int .i64 (k + a.length) ∧ Ints Hq va (markL k a.length)) := by
 refine specM_of Tryz.func14 rfl rfl rfl (fun B => ?_)
 refine kc_seq (kc_region (kl_as rfl (kl_nil (kq_code (kc_seq (kc_seq (kc_region (kl_as rfl (kl_nil (kq_code (kc_block (kc_loopL (A := Nat × Int × Hp) (fun zz => (zz.1 ≤ a.length) ∧ (zz.2.1 = k + (zz.1 : Int)) ∧ Mk Hw zz.2.2 ∧ (Ints zz.2.2 va (markTo k a zz.1))) (fun zz => a.length - zz.1) (fun zz => [zz.2.2]) (fun zz => [(5, .int .i64 (zz.1 : Int)), (1, .int .i64 zz.2.1)]) (0, k, Hw) (pc 0 rfl (pc 4 rfl pn)) (pc 5 rfl (pc 1 rfl pn)) rfl ⟨Nat.zero_le _, by simp, (Mk.refl Hw), (by simpa [markTo, markL] using ha)⟩ ?_))))))))))))
 rintro ⟨i, l, H3⟩ hJ6
 obtain ⟨hk1, hi2, m4, e5⟩ : (i ≤ a.length) ∧ (l = k + (i : Int)) ∧ Mk Hw H3 ∧ (Ints H3 va (markTo k a i)) := hJ6
 change KC _ _ (_) [H3] _ ([(5, .int .i64 (i : Int)), (1, .int .i64 l)] ++ _)
 refine kc_seq (kc_seq (kc_region (kl_mv rfl (kl_mv rfl (kl_len rfl ha (fun l7 => ?_))))))
 refine kl_lss rfl rfl ?_
 refine kl_nil (kq_code (kc_if rfl (fun c8 => ?_) (fun c8 => ?_)))
 ·skip
  refine kc_skipQ (kq_code (kc_seq (kc_block (kc_seq (kc_region (kl_mv rfl (kl_mv rfl (kl_mv rfl (kl_inP rfl rfl e5 (by rw [mark_len (by omega)]; omega) (fun p9 s11 a10 => ?_))))))))))
  refine kl_stS rfl rfl s11 e5 (by rw [mark_len (by omega)]; omega) (Mk.liq m4 hlw) (fun H12 m13 e14 => ?_)
  refine kl_nil (kq_code (kc_region (kl_mv rfl (kl_add rfl rfl (by omega) ?_))))
  refine kl_as rfl (kl_nil (kq_code (kc_region (kl_mv rfl (kl_inc rfl rfl (by omega) ?_)))))
  refine kl_as rfl (kl_nil (kq_roundL ((i + 1), (l + (1 : Int)), H12) (by omega) (⟨by omega, by dsimp only; omega, (Mk.trans m4 m13), (mark_step (a := a) (i := i) hi2 (by omega) ▸ e14)⟩) (pc 5 rfl (pc 1 rfl pn)) (pc 0 rfl (pc 4 rfl pn)) rfl (List.Sublist.refl _)))
 ·skip
  refine kc_exit (kq_code (kc_seq (kc_region (kl_mv rfl (kl_as rfl (kl_nil (kq_code (kc_ret ?_))))))))
  exact kq_retM rfl rfl H3 noHp (Mk.dom m4) (fr_no _) ⟨m4, congrArg (Value.int .i64) (by omega), mark_end (a := a) (k := k) (i := i) (by omega) ▸ e5⟩
theorem markIntSS_ok {Hw : Hp} {va : Value} (a : List (List Int)) (k : Int) (hk : 0 ≤ k ∧ k + (rsum a : Nat) ≤ 4611686018427387904) (ha : Rows Hw va a) (hlw : Liq Hw) : SpecM Tryz.prog 81 [va, .int .i64 k] Hw [] (fun Hq _ vq => Mk Hw Hq ∧ vq = .int .i64 (k + (rsum a : Nat))) := by
 refine specM_of Tryz.func81 rfl rfl rfl (fun B => ?_)
 refine kc_seq (kc_region (kl_as rfl (kl_nil (kq_code (kc_seq (kc_seq (kc_region (kl_as rfl (kl_nil (kq_code (kc_block (kc_loopL (A := Nat × Int × Hp) (fun zz => (zz.1 ≤ a.length) ∧ (zz.2.1 = k + (rsum (a.take zz.1) : Nat)) ∧ Mk Hw zz.2.2) (fun zz => a.length - zz.1) (fun zz => [zz.2.2]) (fun zz => [(5, .int .i64 (zz.1 : Int)), (1, .int .i64 zz.2.1)]) (0, k, Hw) (pc 0 rfl (pc 4 rfl pn)) (pc 5 rfl (pc 1 rfl pn)) rfl ⟨Nat.zero_le _, by simp [rsum], (Mk.refl Hw)⟩ ?_))))))))))))
 rintro ⟨i, l, H3⟩ hJ5
 obtain ⟨hk1, hi2, m4⟩ : (i ≤ a.length) ∧ (l = k + (rsum (a.take i) : Nat)) ∧ Mk Hw H3 := hJ5
 change KC _ _ (_) [H3] _ ([(5, .int .i64 (i : Int)), (1, .int .i64 l)] ++ _)
 have hr := rsum_le a i
 refine kc_seq (kc_seq (kc_region (kl_mv rfl (kl_mv rfl (kl_len rfl ha (fun l6 => ?_))))))
 refine kl_lss rfl rfl ?_
 refine kl_nil (kq_code (kc_if rfl (fun c7 => ?_) (fun c7 => ?_)))
 ·skip
  refine kc_skipQ (kq_code (kc_seq (kc_block (kc_region (kl_mv rfl (kl_mv rfl ?_))))))
  obtain ⟨q10, h11, l12⟩ := Mk.rows m4 ha
  have l12n := len_of l12
  have l12e := getD_len l12 i
  refine kl_inS rfl rfl h11 (by omega) (fun p8 u13 h14 a9 => ?_)
  refine kl_ldG rfl a9 ?_
  refine kl_mv rfl (kl_callM rfl rfl (markIntS_ok (q10.getD i []) l (by first | assumption | omega) h14 (Mk.liq m4 hlw)) (fun v15 H16 K17 f18 h19 d20 => ?_))
  obtain ⟨m21, rfl, _⟩ := h19
  refine kl_as rfl (kl_nil (kq_code (kc_region (kl_mv rfl (kl_inc rfl rfl (by omega) ?_)))))
  refine kl_as rfl (kl_nil (kq_roundL ((i + 1), (l + (q10.getD i []).length), H16) (by omega) (⟨by omega, (by dsimp only; rw [rsum_step (by omega)]; omega), (Mk.trans m4 m21)⟩) (pc 5 rfl (pc 1 rfl pn)) (pc 0 rfl (pc 4 rfl pn)) rfl (.cons _ (List.Sublist.refl _))))
 ·skip
  refine kc_exit (kq_code (kc_seq (kc_region (kl_mv rfl (kl_as rfl (kl_nil (kq_code (kc_ret ?_))))))))
  exact kq_retM rfl rfl H3 noHp (Mk.dom m4) (fr_no _) ⟨m4, congrArg (Value.int .i64) (by rw [List.take_of_length_le (by omega)] at *; omega)⟩
theorem markConstraintS_ok {Hw : Hp} {va : Value} (a : List Con) (k : Int) (hk : 0 ≤ k ∧ k + (msum a : Nat) ≤ 4611686018427387904) (ha : Cons Hw va a) (hlw : Liq Hw) : SpecM Tryz.prog 44 [va, .int .i64 k] Hw [] (fun Hq _ vq => Mk Hw Hq ∧ vq = .int .i64 (k + (msum a : Nat))) := by
 refine specM_of Tryz.func44 rfl rfl rfl (fun B => ?_)
 refine kc_seq (kc_region (kl_as rfl (kl_nil (kq_code (kc_seq (kc_seq (kc_region (kl_as rfl (kl_nil (kq_code (kc_block (kc_loopL (A := Nat × Int × Hp) (fun zz => (zz.1 ≤ a.length) ∧ (zz.2.1 = k + (msum (a.take zz.1) : Nat)) ∧ Mk Hw zz.2.2) (fun zz => a.length - zz.1) (fun zz => [zz.2.2]) (fun zz => [(5, .int .i64 (zz.1 : Int)), (1, .int .i64 zz.2.1)]) (0, k, Hw) (pc 0 rfl (pc 4 rfl pn)) (pc 5 rfl (pc 1 rfl pn)) rfl ⟨Nat.zero_le _, by simp [msum], (Mk.refl Hw)⟩ ?_))))))))))))
 rintro ⟨i, l, H3⟩ hJ5
 obtain ⟨hk1, hi2, m4⟩ : (i ≤ a.length) ∧ (l = k + (msum (a.take i) : Nat)) ∧ Mk Hw H3 := hJ5
 change KC _ _ (_) [H3] _ ([(5, .int .i64 (i : Int)), (1, .int .i64 l)] ++ _)
 refine kc_seq (kc_seq (kc_region (kl_mv rfl (kl_mv rfl (kl_len rfl ha (fun l6 => ?_))))))
 refine kl_lss rfl rfl ?_
 refine kl_nil (kq_code (kc_if rfl (fun c7 => ?_) (fun c7 => ?_)))
 ·skip
  have hm := msum_le a (i + 1)
  rw [msum_step (by omega)] at hm
  have hc : mcN (a.getD i nilCon) = 2 + (a.getD i nilCon).vars.length + (a.getD i nilCon).args.length + rsum (a.getD i nilCon).rows := rfl
  refine kc_skipQ (kq_code (kc_seq (kc_block (kc_seq (kc_region (kl_mv rfl (kl_mv rfl (kl_mv rfl ?_))))))))
  obtain ⟨q10, h11, l12⟩ := Mk.cons m4 ha
  have l12n := len_of l12
  have l12e := getD_con l12 i
  refine kl_inC rfl rfl h11 (by omega) (fun p8 u13 u14 u15 h16 h17 h18 a9 => ?_)
  refine kl_fd rfl a9 (fun p19 a20 => ?_)
  refine kl_stA rfl rfl a20 (Mk.liq m4 hlw) (fun H21 m22 e23 => ?_)
  refine kl_nil (kq_code (kc_seq (kc_region (kl_mv rfl (kl_add rfl rfl (by omega) ?_)))))
  refine kl_as rfl (kl_nil (kq_code (kc_seq (kc_region (kl_mv rfl (kl_mv rfl ?_))))))
  obtain ⟨q26, h27, l28⟩ := Mk.cons (Mk.trans m4 m22) ha
  have l28n := len_of l28
  have l28e := getD_con l28 i
  refine kl_inC rfl rfl h27 (by omega) (fun p24 u29 u30 u31 h32 h33 h34 a25 => ?_)
  refine kl_fd rfl a25 (fun p35 a36 => ?_)
  refine kl_ldG rfl a36 ?_
  refine kl_mv rfl (kl_callM rfl rfl (markIntS_ok ((q26.getD i nilCon).vars) (l + (1 : Int)) (by first | assumption | omega) h32 (Mk.liq (Mk.trans m4 m22) hlw)) (fun v37 H38 K39 f40 h41 d42 => ?_))
  obtain ⟨m43, rfl, _⟩ := h41
  refine kl_as rfl (kl_nil (kq_code (kc_seq (kc_region (kl_mv rfl (kl_mv rfl ?_))))))
  obtain ⟨q46, h47, l48⟩ := Mk.cons (Mk.trans (Mk.trans m4 m22) m43) ha
  have l48n := len_of l48
  have l48e := getD_con l48 i
  refine kl_inC rfl rfl h47 (by omega) (fun p44 u49 u50 u51 h52 h53 h54 a45 => ?_)
  refine kl_fd rfl a45 (fun p55 a56 => ?_)
  refine kl_ldG rfl a56 ?_
  refine kl_mv rfl (kl_callM rfl rfl (markIntS_ok ((q46.getD i nilCon).args) ((l + (1 : Int)) + ((q26.getD i nilCon).vars).length) (by first | assumption | omega) h53 (Mk.liq (Mk.trans (Mk.trans m4 m22) m43) hlw)) (fun v57 H58 K59 f60 h61 d62 => ?_))
  obtain ⟨m63, rfl, _⟩ := h61
  refine kl_as rfl (kl_nil (kq_code (kc_seq (kc_region (kl_mv rfl (kl_mv rfl (kl_mv rfl ?_)))))))
  obtain ⟨q66, h67, l68⟩ := Mk.cons (Mk.trans (Mk.trans (Mk.trans m4 m22) m43) m63) ha
  have l68n := len_of l68
  have l68e := getD_con l68 i
  refine kl_inC rfl rfl h67 (by omega) (fun p64 u69 u70 u71 h72 h73 h74 a65 => ?_)
  refine kl_fd rfl a65 (fun p75 a76 => ?_)
  refine kl_stA rfl rfl a76 (Mk.liq (Mk.trans (Mk.trans (Mk.trans m4 m22) m43) m63) hlw) (fun H77 m78 e79 => ?_)
  refine kl_nil (kq_code (kc_seq (kc_region (kl_mv rfl (kl_add rfl rfl (by omega) ?_)))))
  refine kl_as rfl (kl_nil (kq_code (kc_region (kl_mv rfl (kl_mv rfl ?_)))))
  obtain ⟨q82, h83, l84⟩ := Mk.cons (Mk.trans (Mk.trans (Mk.trans (Mk.trans m4 m22) m43) m63) m78) ha
  have l84n := len_of l84
  have l84e := getD_con l84 i
  refine kl_inC rfl rfl h83 (by omega) (fun p80 u85 u86 u87 h88 h89 h90 a81 => ?_)
  refine kl_fd rfl a81 (fun p91 a92 => ?_)
  refine kl_ldG rfl a92 ?_
  refine kl_mv rfl (kl_callM rfl rfl (markIntSS_ok ((q82.getD i nilCon).rows) ((((l + (1 : Int)) + ((q26.getD i nilCon).vars).length) + ((q46.getD i nilCon).args).length) + (1 : Int)) (by first | assumption | omega) h90 (Mk.liq (Mk.trans (Mk.trans (Mk.trans (Mk.trans m4 m22) m43) m63) m78) hlw)) (fun v93 H94 K95 f96 h97 d98 => ?_))
  obtain ⟨m99, rfl⟩ := h97
  refine kl_as rfl (kl_nil (kq_code (kc_region (kl_mv rfl (kl_inc rfl rfl (by omega) ?_)))))
  refine kl_as rfl (kl_nil (kq_roundL ((i + 1), (((((l + (1 : Int)) + ((q26.getD i nilCon).vars).length) + ((q46.getD i nilCon).args).length) + (1 : Int)) + (rsum ((q82.getD i nilCon).rows) : Nat)), H94) (by omega) (⟨by omega, (by dsimp only; rw [msum_step (by omega)]; omega), (Mk.trans (Mk.trans (Mk.trans (Mk.trans (Mk.trans m4 m22) m43) m63) m78) m99)⟩) (pc 5 rfl (pc 1 rfl pn)) (pc 0 rfl (pc 4 rfl pn)) rfl (.cons _ (.cons _ (.cons _ (List.Sublist.refl _))))))
 ·skip
  refine kc_exit (kq_code (kc_seq (kc_region (kl_mv rfl (kl_as rfl (kl_nil (kq_code (kc_ret ?_))))))))
  exact kq_retM rfl rfl H3 noHp (Mk.dom m4) (fr_no _) ⟨m4, congrArg (Value.int .i64) (by rw [List.take_of_length_le (by omega)] at *; omega)⟩
theorem markModel_ok {Hw : Hp} {vmd : Value} {vmc : Value} (m : Mod) (k : Int) (hk : 0 ≤ k ∧ k + m.doms.length + (msum m.cons : Nat) ≤ 4611686018427387904) (hmd : Ints Hw vmd m.doms) (hmc : Cons Hw vmc m.cons) (hlw : Liq Hw) : SpecM Tryz.prog 13 [.agg #[vmd, vmc], .int .i64 k] Hw [] (fun Hq _ vq => Mk Hw Hq ∧ vq = .int .i64 (k + m.doms.length + (msum m.cons : Nat))) := by
 refine specM_of Tryz.func13 rfl rfl rfl (fun B => ?_)
 refine kc_seq (kc_region (kl_box rfl rfl (fun p1 H2 f3 a4 => ?_)))
 refine kl_as rfl (kl_nil (kq_code (kc_seq (kc_region (kl_fd rfl (by assumption) (fun p5 a6 => ?_))))))
 refine kl_ld rfl (by assumption) (kl_mv rfl (kl_callM rfl rfl (markIntS_ok m.doms k (by first | assumption | omega) hmd (Mk.liq (Mk.refl Hw) hlw)) (fun v7 H8 K9 f10 h11 d12 => ?_)))
 obtain ⟨m13, rfl, _⟩ := h11
 refine kl_as rfl (kl_nil (kq_code (kc_seq (kc_region (kl_fd rfl (by assumption) (fun p14 a15 => ?_))))))
 refine kl_ld rfl (by assumption) (kl_mv rfl ?_)
 obtain ⟨q16, h17, l18⟩ := Mk.cons (Mk.trans (Mk.refl Hw) m13) hmc
 have l18e := msum_of l18
 have l18n := len_of l18
 refine kl_callM rfl rfl (markConstraintS_ok q16 (k + m.doms.length) (by first | assumption | omega) h17 (Mk.liq (Mk.trans (Mk.refl Hw) m13) hlw)) (fun v19 H20 K21 f22 h23 d24 => ?_)
 obtain ⟨m25, rfl⟩ := h23
 refine kl_as rfl (kl_nil (kq_code (kc_seq (kc_region (kl_mv rfl (kl_as rfl (kl_nil (kq_code (kc_ret ?_)))))))))
 exact kq_retM rfl rfl H20 noHp (Mk.dom (Mk.trans (Mk.trans (Mk.refl Hw) m13) m25)) (fr_no _) ⟨(Mk.trans (Mk.trans (Mk.refl Hw) m13) m25), congrArg (Value.int .i64) (by omega)⟩
theorem heldIntS_ok {Ha : Hp} {va : Value} (a : List Int) (k : Int) (hk : 0 ≤ k ∧ k ≤ 4611686018427387904) (ha : Ints Ha va a) : SpecP Tryz.prog 15 [va, .int .i64 k] [Ha] (.int .i64 (heldI a k)) := by
 refine spec_of Tryz.func15 rfl rfl rfl (fun B => ?_)
 refine kc_seq (kc_region (kl_as rfl (kl_nil (kq_code (kc_seq (kc_seq (kc_region (kl_as rfl (kl_nil (kq_code (kc_block (kc_loop0 (A := Nat × Int) (fun zz => (zz.1 ≤ a.length) ∧ (zz.2 = k + (zz.1 : Int) ∧ a.take zz.1 = markL k zz.1)) (fun zz => a.length - zz.1) (fun zz => [(5, .int .i64 (zz.1 : Int)), (1, .int .i64 zz.2)]) (0, k) (pc 0 rfl pn) (pc 5 rfl (pc 1 rfl pn)) ⟨Nat.zero_le _, ⟨by simp, by simp [markL]⟩⟩ ?_))))))))))))
 rintro ⟨i, l⟩ hJ3
 obtain ⟨hk1, hi2⟩ : (i ≤ a.length) ∧ (l = k + (i : Int) ∧ a.take i = markL k i) := hJ3
 change KC _ _ (_) _ _ ([(5, .int .i64 (i : Int)), (1, .int .i64 l)] ++ _)
 refine kc_seq (kc_seq (kc_region (kl_mv rfl (kl_mv rfl (kl_len rfl (by assumption) (fun l4 => ?_))))))
 refine kl_lss rfl rfl ?_
 refine kl_nil (kq_code (kc_if rfl (fun c5 => ?_) (fun c5 => ?_)))
 ·skip
  refine kc_skipQ (kq_code (kc_seq (kc_block (kc_seq (kc_seq (kc_region (kl_mv rfl (kl_mv rfl (kl_inI rfl rfl (by assumption) (by omega) (fun p6 a7 => ?_))))))))))
  refine kl_ld rfl (by assumption) (kl_mv rfl (kl_neq rfl rfl ?_))
  refine kl_nil (kq_code (kc_if rfl (fun c8 => ?_) (fun c8 => ?_)))
  ·skip
   refine kc_seq (kc_region (kl_as rfl (kl_nil (kq_code (kc_ret (kq_retP rfl rfl (congrArg (Value.int .i64) ?_)))))))
   exact held_no (by omega) hi2.1 (by assumption)
  ·skip
   refine kc_skipQ (kq_code (kc_region (kl_mv rfl (kl_add rfl rfl (by omega) ?_))))
   refine kl_as rfl (kl_nil (kq_code (kc_region (kl_mv rfl (kl_inc rfl rfl (by omega) ?_)))))
   refine kl_as rfl (kl_nil (kq_round0 ((i + 1), (l + (1 : Int))) (by omega) (⟨by omega, ⟨by have := hi2.1; omega, held_step (by omega) hi2.1 hi2.2 (Decidable.not_not.1 (by assumption))⟩⟩) (pc 5 rfl (pc 1 rfl pn)) (pc 0 rfl pn) (List.Sublist.refl _)))
 ·skip
  refine kc_exit (kq_code (kc_seq (kc_region (kl_mv rfl (kl_as rfl (kl_nil (kq_code (kc_ret (kq_retP rfl rfl (congrArg (Value.int .i64) ?_))))))))))
  exact held_yes (by assumption) (by omega) hi2
end Go.Proofs.YtkfioalfofoikaaGreat
