/- Walks of functions of the program: each returns what the plain function gives. Conditions: those that each statement names. -/
import Derived.Test.YtiilanckbocifaaTys
import Derived.Test.YtiilanckbocifaaPure
import Derived.Test.YtiilanckbocifaaMkm
namespace Go.Proofs.Ytiilanckbocifaa
open Go
set_option linter.unusedSimpArgs false
set_option linter.unusedVariables false
theorem markIntS_ok {Hw : Hp} {va : Value} (a : List Int) (k : Int) (hk : 0 ≤ k ∧ k ≤ 4611686018427387904) (ha : Ints Hw va a) (hlw : Liq Hw) : SpecM Try.prog 18 [va, .int .i64 k] Hw [] (fun Hq _ vq => Mk Hw Hq ∧ vq = .int .i64 (k + a.length) ∧ Ints Hq va (markL k a.length)) := by
 refine specM_of Try.func18 rfl rfl rfl (fun B => ?_)
 refine kc_seq (kc_region (kl_as rfl (kl_nil (kq_code (kc_seq (kc_seq (kc_region (kl_as rfl (kl_nil (kq_code (kc_block (kc_loopL (A := Nat × Int × Hp) (fun zz => (zz.1 ≤ a.length) ∧ (zz.2.1 = k + (zz.1 : Int)) ∧ Mk Hw zz.2.2 ∧ (Ints zz.2.2 va (markTo k a zz.1))) (fun zz => a.length - zz.1) (fun zz => [zz.2.2]) (fun zz => [(5, .int .i64 (zz.1 : Int)), (1, .int .i64 zz.2.1)]) (0, k, Hw) (pc 0 rfl (pc 4 rfl pn)) (pc 5 rfl (pc 1 rfl pn)) rfl ⟨Nat.zero_le _, by simp, (Mk.refl Hw), (by simpa [markTo, markL] using ha)⟩ ?_))))))))))))
 rintro ⟨i, l, H3⟩ hJ6
 obtain ⟨hk1, hi2, m4, e5⟩ : (i ≤ a.length) ∧ (l = k + (i : Int)) ∧ Mk Hw H3 ∧ (Ints H3 va (markTo k a i)) := hJ6
 change KC _ _ (_) [H3] _ ([(5, .int .i64 (i : Int)), (1, .int .i64 l)] ++ _)
 refine kc_seq (kc_seq (kc_region (kl_mv rfl (kl_mv rfl (kl_len rfl ha (fun l7 => ?_))))))
 refine kl_lss rfl rfl ?_
 refine kl_nil (kq_code (kc_if rfl (fun c8 => ?_) (fun c8 => ?_)))
 ·skip
  refine kc_skipQ (kq_code (kc_seq (kc_block (kc_seq (kc_region (kl_mv rfl (kl_mv rfl (kl_mv rfl (kl_inP rfl rfl e5 (by rw [mark_len (by omega)]; omega) (fun p9 s11 a10 => ?_))))))))))
  refine kl_stS rfl rfl s11 e5 (by rw [mark_len (by omega)]; omega) (Mk.liq m4 hlw) (fun H12 m13 e14 => ?_)
  refine kl_nil (kq_code (kc_region (kl_mv rfl (kl_add rfl rfl (by omega) ?_))))
  refine kl_as rfl (kl_nil (kq_code (kc_region (kl_mv rfl (kl_inc rfl rfl (by omega) ?_)))))
  refine kl_as rfl (kl_nil (kq_roundL ((i + 1), (l + (1 : Int)), H12) (by omega) (⟨by omega, by dsimp only; omega, (Mk.trans m4 m13), (mark_step (a := a) (i := i) hi2 (by omega) ▸ e14)⟩) (pc 5 rfl (pc 1 rfl pn)) (pc 0 rfl (pc 4 rfl pn)) rfl (List.Sublist.refl _)))
 ·skip
  refine kc_exit (kq_code (kc_seq (kc_region (kl_mv rfl (kl_as rfl (kl_nil (kq_code (kc_ret ?_))))))))
  exact kq_retM rfl rfl H3 noHp (Mk.dom m4) (fr_no _) ⟨m4, congrArg (Value.int .i64) (by omega), mark_end (a := a) (k := k) (i := i) (by omega) ▸ e5⟩
theorem markIntSS_ok {Hw : Hp} {va : Value} (a : List (List Int)) (k : Int) (hk : 0 ≤ k ∧ k + (rsum a : Nat) ≤ 4611686018427387904) (ha : Rows Hw va a) (hlw : Liq Hw) : SpecM Try.prog 80 [va, .int .i64 k] Hw [] (fun Hq _ vq => Mk Hw Hq ∧ vq = .int .i64 (k + (rsum a : Nat))) := by
 refine specM_of Try.func80 rfl rfl rfl (fun B => ?_)
 refine kc_seq (kc_region (kl_as rfl (kl_nil (kq_code (kc_seq (kc_seq (kc_region (kl_as rfl (kl_nil (kq_code (kc_block (kc_loopL (A := Nat × Int × Hp) (fun zz => (zz.1 ≤ a.length) ∧ (zz.2.1 = k + (rsum (a.take zz.1) : Nat)) ∧ Mk Hw zz.2.2) (fun zz => a.length - zz.1) (fun zz => [zz.2.2]) (fun zz => [(5, .int .i64 (zz.1 : Int)), (1, .int .i64 zz.2.1)]) (0, k, Hw) (pc 0 rfl (pc 4 rfl pn)) (pc 5 rfl (pc 1 rfl pn)) rfl ⟨Nat.zero_le _, by simp [rsum], (Mk.refl Hw)⟩ ?_))))))))))))
 rintro ⟨i, l, H3⟩ hJ5
 obtain ⟨hk1, hi2, m4⟩ : (i ≤ a.length) ∧ (l = k + (rsum (a.take i) : Nat)) ∧ Mk Hw H3 := hJ5
 change KC _ _ (_) [H3] _ ([(5, .int .i64 (i : Int)), (1, .int .i64 l)] ++ _)
 have hr := rsum_le a i
 refine kc_seq (kc_seq (kc_region (kl_mv rfl (kl_mv rfl (kl_len rfl ha (fun l6 => ?_))))))
 refine kl_lss rfl rfl ?_
 refine kl_nil (kq_code (kc_if rfl (fun c7 => ?_) (fun c7 => ?_)))
 ·skip
  refine kc_skipQ (kq_code (kc_seq (kc_block (kc_region (kl_mv rfl (kl_mv rfl ?_))))))
  obtain ⟨q10, h11, l12⟩ := Mk.rows m4 ha
  have l12n := len_of l12
  have l12e := getD_len l12 i
  refine kl_inS rfl rfl h11 (by omega) (fun p8 u13 h14 a9 => ?_)
  refine kl_ldG rfl a9 ?_
  refine kl_mv rfl (kl_callM rfl rfl (markIntS_ok (q10.getD i []) l (by first | assumption | omega) h14 (Mk.liq m4 hlw)) (fun v15 H16 K17 f18 h19 d20 => ?_))
  obtain ⟨m21, rfl, _⟩ := h19
  refine kl_as rfl (kl_nil (kq_code (kc_region (kl_mv rfl (kl_inc rfl rfl (by omega) ?_)))))
  refine kl_as rfl (kl_nil (kq_roundL ((i + 1), (l + (q10.getD i []).length), H16) (by omega) (⟨by omega, (by dsimp only; rw [rsum_step (by omega)]; omega), (Mk.trans m4 m21)⟩) (pc 5 rfl (pc 1 rfl pn)) (pc 0 rfl (pc 4 rfl pn)) rfl (.cons _ (List.Sublist.refl _))))
 ·skip
  refine kc_exit (kq_code (kc_seq (kc_region (kl_mv rfl (kl_as rfl (kl_nil (kq_code (kc_ret ?_))))))))
  exact kq_retM rfl rfl H3 noHp (Mk.dom m4) (fr_no _) ⟨m4, congrArg (Value.int .i64) (by rw [List.take_of_length_le (by omega)] at *; omega)⟩
theorem markConstraintS_ok {Hw : Hp} {va : Value} (a : List Con) (k : Int) (hk : 0 ≤ k ∧ k + (msum a : Nat) ≤ 4611686018427387904) (ha : Cons Hw va a) (hlw : Liq Hw) : SpecM Try.prog 47 [va, .int .i64 k] Hw [] (fun Hq _ vq => Mk Hw Hq ∧ vq = .int .i64 (k + (msum a : Nat))) := by
 refine specM_of Try.func47 rfl rfl rfl (fun B => ?_)
 refine kc_seq (kc_region (kl_as rfl (kl_nil (kq_code (kc_seq (kc_seq (kc_region (kl_as rfl (kl_nil (kq_code (kc_block (kc_loopL (A := Nat × Int × Hp) (fun zz => (zz.1 ≤ a.length) ∧ (zz.2.1 = k + (msum (a.take zz.1) : Nat)) ∧ Mk Hw zz.2.2) (fun zz => a.length - zz.1) (fun zz => [zz.2.2]) (fun zz => [(5, .int .i64 (zz.1 : Int)), (1, .int .i64 zz.2.1)]) (0, k, Hw) (pc 0 rfl (pc 4 rfl pn)) (pc 5 rfl (pc 1 rfl pn)) rfl ⟨Nat.zero_le _, by simp [msum], (Mk.refl Hw)⟩ ?_))))))))))))
 rintro ⟨i, l, H3⟩ hJ5
 obtain ⟨hk1, hi2, m4⟩ : (i ≤ a.length) ∧ (l = k + (msum (a.take i) : Nat)) ∧ Mk Hw H3 := hJ5
 change KC _ _ (_) [H3] _ ([(5, .int .i64 (i : Int)), (1, .int .i64 l)] ++ _)
 refine kc_seq (kc_seq (kc_region (kl_mv rfl (kl_mv rfl (kl_len rfl ha (fun l6 => ?_))))))
 refine kl_lss rfl rfl ?_
 refine kl_nil (kq_code (kc_if rfl (fun c7 => ?_) (fun c7 => ?_)))
 ·skip
  have hm := msum_le a (i + 1)
  rw [msum_step (by omega)] at hm
  have hc : mcN (a.getD i nilCon) = 2 + (a.getD i nilCon).vars.length + (a.getD i nilCon).args.length + rsum (a.getD i nilCon).rows := rfl
  refine kc_skipQ (kq_code (kc_seq (kc_block (kc_seq (kc_region (kl_mv rfl (kl_mv rfl (kl_mv rfl ?_))))))))
  obtain ⟨q10, h11, l12⟩ := Mk.cons m4 ha
  have l12n := len_of l12
  have l12e := getD_con l12 i
  refine kl_inC rfl rfl h11 (by omega) (fun p8 u13 u14 u15 h16 h17 h18 a9 => ?_)
  refine kl_fd rfl a9 (fun p19 a20 => ?_)
  refine kl_stA rfl rfl a20 (Mk.liq m4 hlw) (fun H21 m22 e23 => ?_)
  refine kl_nil (kq_code (kc_seq (kc_region (kl_mv rfl (kl_add rfl rfl (by omega) ?_)))))
  refine kl_as rfl (kl_nil (kq_code (kc_seq (kc_region (kl_mv rfl (kl_mv rfl ?_))))))
  obtain ⟨q26, h27, l28⟩ := Mk.cons (Mk.trans m4 m22) ha
  have l28n := len_of l28
  have l28e := getD_con l28 i
  refine kl_inC rfl rfl h27 (by omega) (fun p24 u29 u30 u31 h32 h33 h34 a25 => ?_)
  refine kl_fd rfl a25 (fun p35 a36 => ?_)
  refine kl_ldG rfl a36 ?_
  refine kl_mv rfl (kl_callM rfl rfl (markIntS_ok ((q26.getD i nilCon).vars) (l + (1 : Int)) (by first | assumption | omega) h32 (Mk.liq (Mk.trans m4 m22) hlw)) (fun v37 H38 K39 f40 h41 d42 => ?_))
  obtain ⟨m43, rfl, _⟩ := h41
  refine kl_as rfl (kl_nil (kq_code (kc_seq (kc_region (kl_mv rfl (kl_mv rfl ?_))))))
  obtain ⟨q46, h47, l48⟩ := Mk.cons (Mk.trans (Mk.trans m4 m22) m43) ha
  have l48n := len_of l48
  have l48e := getD_con l48 i
  refine kl_inC rfl rfl h47 (by omega) (fun p44 u49 u50 u51 h52 h53 h54 a45 => ?_)
  refine kl_fd rfl a45 (fun p55 a56 => ?_)
  refine kl_ldG rfl a56 ?_
  refine kl_mv rfl (kl_callM rfl rfl (markIntS_ok ((q46.getD i nilCon).args) ((l + (1 : Int)) + ((q26.getD i nilCon).vars).length) (by first | assumption | omega) h53 (Mk.liq (Mk.trans (Mk.trans m4 m22) m43) hlw)) (fun v57 H58 K59 f60 h61 d62 => ?_))
  obtain ⟨m63, rfl, _⟩ := h61
  refine kl_as rfl (kl_nil (kq_code (kc_seq (kc_region (kl_mv rfl (kl_mv rfl (kl_mv rfl ?_)))))))
  obtain ⟨q66, h67, l68⟩ := Mk.cons (Mk.trans (Mk.trans (Mk.trans m4 m22) m43) m63) ha
  have l68n := len_of l68
  have l68e := getD_con l68 i
  refine kl_inC rfl rfl h67 (by omega) (fun p64 u69 u70 u71 h72 h73 h74 a65 => ?_)
  refine kl_fd rfl a65 (fun p75 a76 => ?_)
  refine kl_stA rfl rfl a76 (Mk.liq (Mk.trans (Mk.trans (Mk.trans m4 m22) m43) m63) hlw) (fun H77 m78 e79 => ?_)
  refine kl_nil (kq_code (kc_seq (kc_region (kl_mv rfl (kl_add rfl rfl (by omega) ?_)))))
  refine kl_as rfl (kl_nil (kq_code (kc_region (kl_mv rfl (kl_mv rfl ?_)))))
  obtain ⟨q82, h83, l84⟩ := Mk.cons (Mk.trans (Mk.trans (Mk.trans (Mk.trans m4 m22) m43) m63) m78) ha
  have l84n := len_of l84
  have l84e := getD_con l84 i
  refine kl_inC rfl rfl h83 (by omega) (fun p80 u85 u86 u87 h88 h89 h90 a81 => ?_)
  refine kl_fd rfl a81 (fun p91 a92 => ?_)
  refine kl_ldG rfl a92 ?_
  refine kl_mv rfl (kl_callM rfl rfl (markIntSS_ok ((q82.getD i nilCon).rows) ((((l + (1 : Int)) + ((q26.getD i nilCon).vars).length) + ((q46.getD i nilCon).args).length) + (1 : Int)) (by first | assumption | omega) h90 (Mk.liq (Mk.trans (Mk.trans (Mk.trans (Mk.trans m4 m22) m43) m63) m78) hlw)) (fun v93 H94 K95 f96 h97 d98 => ?_))
  obtain ⟨m99, rfl⟩ := h97
  refine kl_as rfl (kl_nil (kq_code (kc_region (kl_mv rfl (kl_inc rfl rfl (by omega) ?_)))))
  refine kl_as rfl (kl_nil (kq_roundL ((i + 1), (((((l + (1 : Int)) + ((q26.getD i nilCon).vars).length) + ((q46.getD i nilCon).args).length) + (1 : Int)) + (rsum ((q82.getD i nilCon).rows) : Nat)), H94) (by omega) (⟨by omega, (by dsimp only; rw [msum_step (by omega)]; omega), (Mk.trans (Mk.trans (Mk.trans (Mk.trans (Mk.trans m4 m22) m43) m63) m78) m99)⟩) (pc 5 rfl (pc 1 rfl pn)) (pc 0 rfl (pc 4 rfl pn)) rfl (.cons _ (.cons _ (.cons _ (List.Sublist.refl _))))))
 ·skip
  refine kc_exit (kq_code (kc_seq (kc_region (kl_mv rfl (kl_as rfl (kl_nil (kq_code (kc_ret ?_))))))))
  exact kq_retM rfl rfl H3 noHp (Mk.dom m4) (fr_no _) ⟨m4, congrArg (Value.int .i64) (by rw [List.take_of_length_le (by omega)] at *; omega)⟩
theorem markModel_ok {Hw : Hp} {vmd : Value} {vmc : Value} (m : Mod) (k : Int) (hk : 0 ≤ k ∧ k + m.doms.length + (msum m.cons : Nat) ≤ 4611686018427387904) (hmd : Ints Hw vmd m.doms) (hmc : Cons Hw vmc m.cons) (hlw : Liq Hw) : SpecM Try.prog 17 [.agg #[vmd, vmc], .int .i64 k] Hw [] (fun Hq _ vq => Mk Hw Hq ∧ vq = .int .i64 (k + m.doms.length + (msum m.cons : Nat))) := by
 refine specM_of Try.func17 rfl rfl rfl (fun B => ?_)
 refine kc_seq (kc_region (kl_box rfl rfl (fun p1 H2 f3 a4 => ?_)))
 refine kl_as rfl (kl_nil (kq_code (kc_seq (kc_region (kl_fd rfl (by assumption) (fun p5 a6 => ?_))))))
 refine kl_ld rfl (by assumption) (kl_mv rfl (kl_callM rfl rfl (markIntS_ok m.doms k (by first | assumption | omega) hmd (Mk.liq (Mk.refl Hw) hlw)) (fun v7 H8 K9 f10 h11 d12 => ?_)))
 obtain ⟨m13, rfl, _⟩ := h11
 refine kl_as rfl (kl_nil (kq_code (kc_seq (kc_region (kl_fd rfl (by assumption) (fun p14 a15 => ?_))))))
 refine kl_ld rfl (by assumption) (kl_mv rfl ?_)
 obtain ⟨q16, h17, l18⟩ := Mk.cons (Mk.trans (Mk.refl Hw) m13) hmc
 have l18e := msum_of l18
 have l18n := len_of l18
 refine kl_callM rfl rfl (markConstraintS_ok q16 (k + m.doms.length) (by first | assumption | omega) h17 (Mk.liq (Mk.trans (Mk.refl Hw) m13) hlw)) (fun v19 H20 K21 f22 h23 d24 => ?_)
 obtain ⟨m25, rfl⟩ := h23
 refine kl_as rfl (kl_nil (kq_code (kc_seq (kc_region (kl_mv rfl (kl_as rfl (kl_nil (kq_code (kc_ret ?_)))))))))
 exact kq_retM rfl rfl H20 noHp (Mk.dom (Mk.trans (Mk.trans (Mk.refl Hw) m13) m25)) (fr_no _) ⟨(Mk.trans (Mk.trans (Mk.refl Hw) m13) m25), congrArg (Value.int .i64) (by omega)⟩
theorem heldIntS_ok {Ha : Hp} {va : Value} (a : List Int) (k : Int) (hk : 0 ≤ k ∧ k ≤ 4611686018427387904) (ha : Ints Ha va a) : SpecP Try.prog 48 [va, .int .i64 k] [Ha] (.int .i64 (heldI a k)) := by
 refine spec_of Try.func48 rfl rfl rfl (fun B => ?_)
 refine kc_seq (kc_region (kl_as rfl (kl_nil (kq_code (kc_seq (kc_seq (kc_region (kl_as rfl (kl_nil (kq_code (kc_block (kc_loop0 (A := Nat × Int) (fun zz => (zz.1 ≤ a.length) ∧ (zz.2 = k + (zz.1 : Int) ∧ a.take zz.1 = markL k zz.1)) (fun zz => a.length - zz.1) (fun zz => [(5, .int .i64 (zz.1 : Int)), (1, .int .i64 zz.2)]) (0, k) (pc 0 rfl pn) (pc 5 rfl (pc 1 rfl pn)) ⟨Nat.zero_le _, ⟨by simp, by simp [markL]⟩⟩ ?_))))))))))))
 rintro ⟨i, l⟩ hJ3
 obtain ⟨hk1, hi2⟩ : (i ≤ a.length) ∧ (l = k + (i : Int) ∧ a.take i = markL k i) := hJ3
 change KC _ _ (_) _ _ ([(5, .int .i64 (i : Int)), (1, .int .i64 l)] ++ _)
 refine kc_seq (kc_seq (kc_region (kl_mv rfl (kl_mv rfl (kl_len rfl (by assumption) (fun l4 => ?_))))))
 refine kl_lss rfl rfl ?_
 refine kl_nil (kq_code (kc_if rfl (fun c5 => ?_) (fun c5 => ?_)))
 ·skip
  refine kc_skipQ (kq_code (kc_seq (kc_block (kc_seq (kc_seq (kc_region (kl_mv rfl (kl_mv rfl (kl_inI rfl rfl (by assumption) (by omega) (fun p6 a7 => ?_))))))))))
  refine kl_ld rfl (by assumption) (kl_mv rfl (kl_neq rfl rfl ?_))
  refine kl_nil (kq_code (kc_if rfl (fun c8 => ?_) (fun c8 => ?_)))
  ·skip
   refine kc_seq (kc_region (kl_as rfl (kl_nil (kq_code (kc_ret (kq_retP rfl rfl (congrArg (Value.int .i64) ?_)))))))
   exact held_no (by omega) hi2.1 (by assumption)
  ·skip
   refine kc_skipQ (kq_code (kc_region (kl_mv rfl (kl_add rfl rfl (by omega) ?_))))
   refine kl_as rfl (kl_nil (kq_code (kc_region (kl_mv rfl (kl_inc rfl rfl (by omega) ?_)))))
   refine kl_as rfl (kl_nil (kq_round0 ((i + 1), (l + (1 : Int))) (by omega) (⟨by omega, ⟨by have := hi2.1; omega, held_step (by omega) hi2.1 hi2.2 (Decidable.not_not.1 (by assumption))⟩⟩) (pc 5 rfl (pc 1 rfl pn)) (pc 0 rfl pn) (List.Sublist.refl _)))
 ·skip
  refine kc_exit (kq_code (kc_seq (kc_region (kl_mv rfl (kl_as rfl (kl_nil (kq_code (kc_ret (kq_retP rfl rfl (congrArg (Value.int .i64) ?_))))))))))
  exact held_yes (by assumption) (by omega) hi2
theorem markSSm_ok {H K : Hp} {v : Value} {us : List Value} (xss : List (List Int)) (k : Int) (hk : 0 ≤ k ∧ k + (rsum xss : Nat) ≤ 4611686018427387904) (hm : Mat 23 3 encI H K v us xss) : SpecT Try.prog 80 [v, .int .i64 k] [K] [H] (fun vq L1 Ln _ => ∃ K2, L1 = [K2] ∧ Ln = [] ∧ vq = .int .i64 (k + (rsum xss : Nat)) ∧ Mat 23 3 encI H K2 v us (markLL k xss)) := by
 refine specT_of Try.func80 rfl rfl rfl (fun B => ?_)
 refine kc_seq (kc_region (kl_as rfl (kl_nil (kq_code (kc_seq (kc_seq (kc_region (kl_as rfl (kl_nil (kq_code (kc_block (kc_loopL (A := Nat × Int × List (List Int) × Hp) (fun zz => (zz.1 ≤ xss.length) ∧ (zz.2.1 = k + (rsum (xss.take zz.1) : Nat) ∧ zz.2.2.1 = mkTo k xss zz.1) ∧ Mat 23 3 encI H zz.2.2.2 v us zz.2.2.1) (fun zz => xss.length - zz.1) (fun zz => [zz.2.2.2]) (fun zz => [(5, .int .i64 (zz.1 : Int)), (1, .int .i64 zz.2.1)]) (0, k, xss, K) (pc 0 rfl (pc 4 rfl pn)) (pc 5 rfl (pc 1 rfl pn)) rfl ⟨Nat.zero_le _, ⟨by simp [rsum], (mkTo_0 _ _).symm⟩, hm⟩ ?_))))))))))))
 rintro ⟨i, l, ys, K3⟩ hJ5
 obtain ⟨hk1, hi2, o4⟩ : (i ≤ xss.length) ∧ (l = k + (rsum (xss.take i) : Nat) ∧ ys = mkTo k xss i) ∧ Mat 23 3 encI H K3 v us ys := hJ5
 change KC _ _ (_) [K3] _ ([(5, .int .i64 (i : Int)), (1, .int .i64 l)] ++ _)
 have hyl : ys.length = xss.length := (by rw [hi2.2]; exact mkTo_len hk1)
 have hrl := rsum_le xss i
 have hll := hi2.1
 refine kc_seq (kc_seq (kc_region (kl_mv rfl (kl_mv rfl (kl_mtLen rfl o4 (fun l6 => ?_))))))
 refine kl_lss rfl rfl ?_
 refine kl_nil (kq_code (kc_if rfl (fun c7 => ?_) (fun c7 => ?_)))
 ·skip
  refine kc_skipQ (kq_code (kc_seq (kc_block (kc_region (kl_mv rfl (kl_mv rfl (kl_mtIx (i := i) rfl rfl o4 (by omega) (fun p8 q9 => ?_))))))))
  refine kl_mtLde rfl (by assumption) o4 (by omega) ?_
  refine kl_mv rfl ?_
  obtain ⟨K10, K11, rfl, a12, l13, h14, b15⟩ := Mat.row o4 (by omega : i < ys.length)
  refine kl_split K10 K11 a12 ?_
  refine kl_callM rfl rfl (markIntS_ok (ys.getD i []) l (by omega) h14 l13) (fun v16 H17 K18 f19 h20 d21 => ?_)
  obtain ⟨m22, rfl, e23⟩ := h20
  refine kl_mrg H17 K11 ?_
  have m24 := b15 H17 _ m22 e23 (by rw [markL_len])
  refine kl_as rfl (kl_nil (kq_code (kc_region (kl_mv rfl (kl_inc rfl rfl (by omega) ?_)))))
  refine kl_as rfl (kl_nil (kq_take [(orHp H17 K11)] ?_))
  refine kq_roundL ((i + 1), (l + ((ys.getD i []).length : Int)), (ys.set i (markL l (ys.getD i []).length)), (orHp H17 K11)) (by omega) (⟨by omega, ⟨by dsimp only; rw [hi2.2, mkTo_at (by omega), rsum_step (by omega)]; omega, by dsimp only; rw [hi2.2, mkTo_at (by omega), hll]; exact mkTo_step (by omega)⟩, m24⟩) (pc 5 rfl (pc 1 rfl pn)) (pc 0 rfl (pc 4 rfl pn)) rfl (List.Sublist.refl _)
 ·skip
  refine kc_exit (kq_code (kc_seq (kc_region (kl_mv rfl (kl_as rfl (kl_nil (kq_code (kc_ret ?_))))))))
  exact kq_retT rfl rfl [K3] [] noHp frn (fr_no _) ⟨K3, rfl, rfl, congrArg (Value.int .i64) (by rw [hi2.1, List.take_of_length_le (by omega)]), Mat.castX (by rw [hi2.2]; exact mkTo_end (by omega)) o4⟩
theorem heldIntSS_ok {Ha : Hp} {va : Value} (a : List (List Int)) (k : Int) (hk : 0 ≤ k ∧ k + ((rsum a : Nat) : Int) ≤ 4611686018427387904) (ha : Rows Ha va a) : SpecP Try.prog 81 [va, .int .i64 k] [Ha] (.int .i64 (heldSS a k)) := by
 refine spec_of Try.func81 rfl rfl rfl (fun B => ?_)
 refine kc_seq (kc_region (kl_as rfl (kl_nil (kq_code (kc_seq (kc_seq (kc_region (kl_as rfl (kl_nil (kq_code (kc_block (kc_loop0 (A := Nat × Int) (fun zz => (zz.1 ≤ a.length) ∧ (HsI a k zz.1 zz.2)) (fun zz => a.length - zz.1) (fun zz => [(5, .int .i64 (zz.1 : Int)), (1, .int .i64 zz.2)]) (0, k) (pc 0 rfl pn) (pc 5 rfl (pc 1 rfl pn)) ⟨Nat.zero_le _, (hs_0 hk)⟩ ?_))))))))))))
 rintro ⟨i, l⟩ hJ3
 obtain ⟨hk1, hi2⟩ : (i ≤ a.length) ∧ (HsI a k i l) := hJ3
 change KC _ _ (_) _ _ ([(5, .int .i64 (i : Int)), (1, .int .i64 l)] ++ _)
 refine kc_seq (kc_seq (kc_region (kl_mv rfl (kl_mv rfl (kl_len rfl (by assumption) (fun l4 => ?_))))))
 refine kl_lss rfl rfl ?_
 refine kl_nil (kq_code (kc_if rfl (fun c5 => ?_) (fun c5 => ?_)))
 ·skip
  refine kc_skipQ (kq_code (kc_seq (kc_block (kc_seq (kc_region (kl_mv rfl (kl_mv rfl (kl_inS rfl rfl (by assumption) (by omega) (fun p6 u8 h9 a7 => ?_)))))))))
  refine kl_ld rfl (by assumption) (kl_mv rfl (kl_callP rfl rfl (heldIntS_ok (a.getD i []) l ⟨hi2.n, hs_b hi2⟩ (by assumption)) ?_))
  refine kl_as rfl (kl_nil (kq_code (kc_seq (kc_region (kl_mv rfl (kl_lss rfl rfl ?_))))))
  refine kl_nil (kq_code (kc_if rfl (fun c10 => ?_) (fun c10 => ?_)))
  ·skip
   refine kc_seq (kc_region (kl_as rfl (kl_nil (kq_code (kc_ret (kq_retP rfl rfl (congrArg (Value.int .i64) ?_)))))))
   exact hs_no hi2 (by omega) (by assumption)
  ·skip
   refine kc_skipQ (kq_code (kc_region (kl_mv rfl (kl_inc rfl rfl (by omega) ?_))))
   refine kl_as rfl (kl_nil (kq_round0 ((i + 1), (heldI (a.getD i []) l)) (by omega) (⟨by omega, (hs_step hi2 (by omega) (by assumption))⟩) (pc 5 rfl (pc 1 rfl pn)) (pc 0 rfl pn) (List.Sublist.refl _)))
 ·skip
  refine kc_exit (kq_code (kc_seq (kc_region (kl_mv rfl (kl_as rfl (kl_nil (kq_code (kc_ret (kq_retP rfl rfl (congrArg (Value.int .i64) ?_))))))))))
  exact hs_end hi2 (by omega)
end Go.Proofs.Ytiilanckbocifaa
