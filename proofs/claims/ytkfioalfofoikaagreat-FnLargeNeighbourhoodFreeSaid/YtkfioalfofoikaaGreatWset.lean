/- Walks of functions of the program: each returns what the plain function gives. Conditions: those that each statement names. -/
import Derived.Test.YtkfioalfofoikaaGreatWvalid
import Derived.Test.YtkfioalfofoikaaGreatWsat
import Derived.Test.YtkfioalfofoikaaGreatWfilt
import Derived.Test.YtkfioalfofoikaaGreatPureA
import Derived.Test.YtkfioalfofoikaaGreatSrt
import Derived.Test.YtkfioalfofoikaaGreatCut
import Derived.Test.YtkfioalfofoikaaGreatOrd
import Derived.Test.YtkfioalfofoikaaGreatPureLn
import Derived.Test.YtkfioalfofoikaaGreatWwo
import Derived.Test.YtkfioalfofoikaaGreatWwalk
import Derived.Test.YtkfioalfofoikaaGreatScp
namespace Go.Proofs.YtkfioalfofoikaaGreat
open Go
set_option linter.unusedSimpArgs false
set_option linter.unusedVariables false
theorem lenZ64_ok (x : Int) (hb : 0 ≤ x ∧ x < 64) : Spec Tryz.prog 137 [.int .u64 x] [] (fun Hq vq => ∃ z : Int, vq = .int .i64 z ∧ 0 ≤ z ∧ z ≤ 100) := by
 refine spec_of Tryz.func137 rfl rfl rfl (fun B => ?_)
 refine kc_seq (kc_region (kl_as rfl (kl_nil (kq_code (kc_seq (kc_seq (kc_region (kl_mv rfl (kl_geqK rfl rfl ?_)))))))))
 refine kl_nil (kq_code (kc_if rfl (fun c1 => ?_) (fun c1 => ?_)))
 ·skip
  exfalso; omega
 ·skip
  refine kc_skipQ (kq_code (kc_seq (kc_seq (kc_region (kl_mv rfl (kl_geqK rfl rfl ?_))))))
  refine kl_nil (kq_code (kc_if rfl (fun c2 => ?_) (fun c2 => ?_)))
  ·skip
   exfalso; omega
  ·skip
   refine kc_skipQ (kq_code (kc_seq (kc_seq (kc_region (kl_mv rfl (kl_geqK rfl rfl ?_))))))
   refine kl_nil (kq_code (kc_if rfl (fun c3 => ?_) (fun c3 => ?_)))
   ·skip
    exfalso; omega
   ·skip
    refine kc_skipQ (kq_code (kc_seq (kc_region (kl_mv rfl (kl_mv rfl (kl_cv rfl ?_))))))
    refine kl_ixLen0 (m := x) (by kernel_rfl) rfl hb (fun z4 h5 => ?_)
    refine kl_cvi rfl (by omega) ?_
    refine kl_add rfl rfl (by omega) ?_
    refine kl_as rfl (kl_nil (kq_code (kc_ret ?_)))
    exact kq_retP rfl rfl ⟨_, rfl, by omega⟩
theorem lenZ_ok (x : Int) (hb : 0 ≤ x ∧ x < 64) : Spec Tryz.prog 109 [.int .u64 x] [] (fun Hq vq => ∃ z : Int, vq = .int .i64 z ∧ 0 ≤ z ∧ z ≤ 100) := by
 refine spec_of Tryz.func109 rfl rfl rfl (fun B => ?_)
 refine kc_seq (kc_region (kl_as rfl (kl_nil (kq_code (kc_seq (kc_condF ?_))))))
 refine kc_skipQ (kq_code (kc_seq (kc_region (kl_mv rfl (kl_call rfl rfl (lenZ64_ok x hb) (fun v1 H2 f3 h4 => ?_))))))
 obtain ⟨z5, rfl, h6⟩ := h4
 refine kl_as rfl (kl_nil (kq_code (kc_ret ?_)))
 exact kq_retP rfl rfl ⟨_, rfl, by omega⟩
theorem insR_ok {Hs Ks : Hp} {vs : Value} (xs : List (List Int)) (a b : Int) (ha : a = 0) (hb : b = (xs.length : Int)) (w : Nat) (hl : ∀ r ∈ xs, r.length = w) (hn : xs.length ≤ 12) (os : OwnL 22 1 Hs Ks RowV vs xs) : SpecT Tryz.prog 128 [vs, .int .i64 a, .int .i64 b, .func (.func 74) #[] #[]] [Hs] [Ks] (fun vq L1 Ln _ => ∃ (Hq : Hp) (ys : List (List Int)), L1 = [Hq] ∧ Ln = [] ∧ OwnL 22 1 Hq Ks RowV vs ys ∧ SrtA lexC [] xs ys xs.length) := by
 subst ha
 subst hb
 have hlen := os.len
 refine specT_of Tryz.func128 rfl rfl rfl (fun B => ?_)
 refine kc_seq (kc_region (kl_mv rfl (kl_add rfl rfl (by omega) ?_)))
 refine kl_as rfl (kl_nil (kq_code (kc_block (kc_loopL (A := Nat × List (List Int) × Hp) (fun zz => (1 ≤ zz.1) ∧ (SrtA lexC [] xs zz.2.1 zz.1) ∧ OwnL 22 1 zz.2.2 Ks RowV vs zz.2.1) (fun zz => xs.length - zz.1) (fun zz => [zz.2.2]) (fun zz => [(8, .int .i64 (zz.1 : Int))]) (1, xs, Hs) (pc 0 rfl (pc 1 rfl (pc 2 rfl (pc 3 rfl pn)))) (pc 8 rfl pn) rfl ⟨(Nat.le_refl 1), (SrtA.zero _), os⟩ ?_))))
 rintro ⟨i, ys, H3⟩ hJ6
 obtain ⟨hk1, hi2, o4⟩ : (1 ≤ i) ∧ (SrtA lexC [] xs ys i) ∧ OwnL 22 1 H3 Ks RowV vs ys := hJ6
 change KC _ _ (_) [H3] _ ([(8, .int .i64 (i : Int))] ++ _)
 have hyl := hi2.perm.length_eq
 refine kc_seq (kc_seq (kc_region (kl_mv rfl (kl_mv rfl (kl_lss rfl rfl ?_)))))
 refine kl_nil (kq_code (kc_if rfl (fun c7 => ?_) (fun c7 => ?_)))
 ·skip
  refine kc_skipQ (kq_code (kc_seq (kc_block (kc_seq (kc_region (kl_mv rfl (kl_as rfl (kl_nil (kq_code (kc_block ?_))))))))))
  refine kc_loopL (A := Nat × Int × List (List Int) × Hp) (fun zz => (zz.1 ≤ i) ∧ (zz.2.1 = (zz.1 : Int) ∧ InsA lexC [] xs zz.2.2.1 i zz.1) ∧ OwnL 22 1 zz.2.2.2 Ks RowV vs zz.2.2.1) (fun zz => zz.1) (fun zz => [zz.2.2.2]) (fun zz => [(9, .int .i64 zz.2.1)]) (i, (i : Int), ys, H3) (pc 0 rfl (pc 1 rfl (pc 2 rfl (pc 3 rfl (pc 8 rfl (pc 12 rfl (pc 13 rfl (pc 14 rfl (pc 17 rfl pn))))))))) (pc 9 rfl pn) rfl ⟨(Nat.le_refl _), ⟨rfl, SrtA.go hi2⟩, o4⟩ ?_
  rintro ⟨j, z, ws, H10⟩ hJ13
  obtain ⟨hk8, hi9, o11⟩ : (j ≤ i) ∧ (z = (j : Int) ∧ InsA lexC [] xs ws i j) ∧ OwnL 22 1 H10 Ks RowV vs ws := hJ13
  change KC _ _ (_) [H10] _ ([(9, .int .i64 z)] ++ _)
  have hz := hi9.1
  have hwl := hi9.2.perm.length_eq
  have hwr := so_rows hl hi9.2.perm
  refine kc_seq (kc_seq (kc_draw 17 [true, true, true, true, true, true, true, true, true, true, true, true, true, true, false, true, true] (by kernel_rfl) (by kernel_rfl) ?_))
  refine kl_mv rfl (kl_mv rfl (kl_gtr rfl rfl ?_))
  refine kl_mv rfl (kl_join 13 34 (.bool (decide ((0 : Int) < z) && decide ((lexC (ws.getD z.toNat []) (ws.getD ((z - (1 : Int)).toNat) [])) < (0 : Int)))) (pc 0 rfl (pc 1 rfl (pc 2 rfl (pc 3 rfl (pc 8 rfl (pc 9 rfl (pc 12 rfl (pc 13 rfl (pc 14 rfl (pc 17 rfl (pc 18 rfl (pc 19 rfl (pc 20 rfl (pc 21 rfl pn)))))))))))))) (fun J23 => ?_) ?_)
  ·rcases Bool.eq_false_or_eq_true (decide ((0 : Int) < z)) with g14 | g14
   ·skip
    have g14p := of_decide_eq_true g14
    refine kl_gT rfl rfl g14 (kl_mv rfl (kl_gT rfl rfl g14 (kl_mv rfl (kl_gT rfl rfl g14 (kl_mv rfl (kl_gT rfl rfl g14 (kl_ixL rfl rfl (by assumption) (by first | omega | (simp only [List.length_set]; omega)) (by first | omega | (simp only [List.length_set]; omega)) (fun p15 q16 => ?_))))))))
    refine kl_gT rfl rfl g14 (kl_ldLR rfl (by assumption) (by assumption) (by first | omega | (simp only [List.length_set]; omega)) (fun u17 h18 => ?_))
    refine kl_gT rfl rfl g14 (kl_mv rfl (kl_gT rfl rfl g14 (kl_mv rfl (kl_gT rfl rfl g14 (kl_sub rfl rfl (by omega) ?_)))))
    refine kl_gT rfl rfl g14 (kl_ixL rfl rfl (by assumption) (by first | omega | (simp only [List.length_set]; omega)) (by first | omega | (simp only [List.length_set]; omega)) (fun p19 q20 => ?_))
    refine kl_gT rfl rfl g14 (kl_ldLR rfl (by assumption) (by assumption) (by first | omega | (simp only [List.length_set]; omega)) (fun u21 h22 => ?_))
    refine kl_gT rfl rfl g14 (kl_callP rfl rfl (cmpL_ok (ws.getD z.toNat []) (ws.getD ((z - (1 : Int)).toNat) []) (by rw [hwr _ (getD_mem (by omega)), hwr _ (getD_mem (by omega))]) (by assumption) (by assumption)) ?_)
    refine kl_gT rfl rfl g14 (kl_lss rfl rfl ?_)
    refine kl_andT rfl rfl g14 ?_
    exact J23 _ (pc 34 rfl (pc 0 rfl (pc 1 rfl (pc 2 rfl (pc 3 rfl (pc 8 rfl (pc 9 rfl (pc 12 rfl (pc 13 rfl (pc 14 rfl (pc 17 rfl (pc 18 rfl (pc 19 rfl (pc 20 rfl (pc 21 rfl pn)))))))))))))))
   ·skip
    refine kl_gF rfl rfl g14 (kl_gF rfl rfl g14 (kl_gF rfl rfl g14 (kl_gF rfl rfl g14 (kl_gF rfl rfl g14 (kl_gF rfl rfl g14 (kl_gF rfl rfl g14 (kl_gF rfl rfl g14 (kl_gF rfl rfl g14 ?_))))))))
    refine kl_gF rfl rfl g14 (kl_gF rfl rfl g14 (kl_gF rfl rfl g14 (kl_andF (decide ((lexC (ws.getD z.toNat []) (ws.getD ((z - (1 : Int)).toNat) [])) < (0 : Int))) rfl rfl g14 ?_)))
    exact J23 _ (pc 34 rfl (pc 0 rfl (pc 1 rfl (pc 2 rfl (pc 3 rfl (pc 8 rfl (pc 9 rfl (pc 12 rfl (pc 13 rfl (pc 14 rfl (pc 17 rfl (pc 18 rfl (pc 19 rfl (pc 20 rfl (pc 21 rfl pn)))))))))))))))
  refine kl_nil (kq_code (kc_cond rfl (fun c24 => ?_) (fun c24 => ?_)))
  ·skip
   have c24r := c24
   try simp only [smpC, decide_eq_true_eq, decide_eq_false_iff_not] at c24
   refine kc_skipQ (kq_code (kc_seq (kc_block (kc_tree (fun i => ([2, 3, 4, 15, 16, 17] : List Nat).contains i) [H10] (by kernel_rfl) ?_))))
   refine kt_p 2 rfl rfl (by kernel_rfl) (py_mv rfl) ?_
   refine kt_p 3 rfl rfl (by kernel_rfl) (py_mv rfl) ?_
   refine kt_p 4 rfl rfl (by kernel_rfl) (py_sub rfl rfl (by omega)) ?_
   refine kt_q 0 (.cons_cons _ (List.nil_sublist _)) rfl (by kernel_rfl) (kl_mv rfl (kl_nil (kq_q (kt_q 1 (.cons_cons _ (List.nil_sublist _)) rfl (by kernel_rfl) (kl_mv rfl (kl_nil (kq_q (kt_q 5 (.cons_cons _ (List.nil_sublist _)) rfl (by kernel_rfl) (kl_mv rfl (kl_nil (kq_q ?_)))))))))))
   refine kt_q 6 (.cons_cons _ (List.nil_sublist _)) rfl (by kernel_rfl) (kl_mv rfl (kl_nil (kq_q (kt_q 7 (.cons_cons _ (List.nil_sublist _)) rfl (by kernel_rfl) (kl_sub rfl rfl (by omega) ?_)))))
   refine kl_nil (kq_q (kt_q 8 (.cons_cons _ (List.nil_sublist _)) rfl (by kernel_rfl) (kl_ixL rfl rfl (by assumption) (by first | omega | (simp only [List.length_set]; omega)) (by first | omega | (simp only [List.length_set]; omega)) (fun p25 q26 => ?_))))
   refine kl_nil (kq_q (kt_q 9 (.cons_cons _ (List.nil_sublist _)) rfl (by kernel_rfl) (kl_ldLRe rfl (by assumption) (by assumption) (by first | omega | (simp only [List.length_set]; omega)) (fun u27 h28 => ?_))))
   refine kl_nil (kq_q (kt_q 10 (.cons_cons _ (List.nil_sublist _)) rfl (by kernel_rfl) (kl_mv rfl (kl_nil (kq_q (kt_q 11 (.cons_cons _ (List.nil_sublist _)) rfl (by kernel_rfl) (kl_mv rfl (kl_nil (kq_q (kt_q 12 (.cons_cons _ (List.nil_sublist _)) rfl (by kernel_rfl) (kl_ixL rfl rfl (by assumption) (by first | omega | (simp only [List.length_set]; omega)) (by first | omega | (simp only [List.length_set]; omega)) (fun p29 q30 => ?_))))))))))))
   refine kl_nil (kq_q (kt_q 13 (.cons_cons _ (List.nil_sublist _)) rfl (by kernel_rfl) (kl_ldLRe rfl (by assumption) (by assumption) (by first | omega | (simp only [List.length_set]; omega)) (fun u31 h32 => ?_))))
   refine kl_nil (kq_q (kt_q 14 (.cons_cons _ (List.nil_sublist _)) rfl (by kernel_rfl) (kl_ixL rfl rfl (by assumption) (by first | omega | (simp only [List.length_set]; omega)) (by first | omega | (simp only [List.length_set]; omega)) (fun p33 q34 => ?_))))
   refine kl_nil (kq_q (kt_a 15 rfl (by kernel_rfl) (kl_stL (ws.getD ((z - (1 : Int)).toNat) []) rfl rfl (by assumption) o11 (by first | omega | (simp only [List.length_set]; omega)) ⟨_, rfl, (by assumption)⟩ (Sl.oneCell (by assumption)) (Sl.cells (by assumption)) (fun H35 o36 f37 => ?_))))
   refine kl_chg [H35] rfl ?_
   refine kl_nil (kq_x rfl (kt_a 16 rfl (by kernel_rfl) (kl_ixL rfl rfl (by assumption) (by first | omega | (simp only [List.length_set]; omega)) (by first | omega | (simp only [List.length_set]; omega)) (fun p39 q40 => ?_))))
   refine kl_nil (kq_x rfl (kt_a 17 rfl (by kernel_rfl) (kl_stL (ws.getD z.toNat []) rfl rfl (by assumption) o36 (by first | omega | (simp only [List.length_set]; omega)) ⟨_, rfl, (by assumption)⟩ (Sl.oneCell (by assumption)) (Sl.cells (by assumption)) (fun H41 o42 f43 => ?_))))
   refine kl_chg [H41] rfl ?_
   refine kl_nil (kq_x rfl (kt_end (by kernel_rfl) ?_))
   refine kq_code (kc_region (kl_mv rfl (kl_sub rfl rfl (by omega) ?_)))
   refine kl_as rfl (kl_nil (kq_take [H41] ?_))
   refine kq_roundL ((j - 1), (z - (1 : Int)), ((ws.set z.toNat (ws.getD ((z - (1 : Int)).toNat) [])).set ((z - (1 : Int)).toNat) (ws.getD z.toNat [])), H41) (by omega) (⟨(by omega), (so_step lexC_tot hi9 (by omega) (by assumption)), o42⟩) (pc 9 rfl pn) (pc 0 rfl (pc 1 rfl (pc 2 rfl (pc 3 rfl (pc 8 rfl (pc 12 rfl (pc 13 rfl (pc 14 rfl (pc 17 rfl pn))))))))) rfl (List.Sublist.refl _)
  ·skip
   have c24r := c24
   try simp only [smpC, decide_eq_true_eq, decide_eq_false_iff_not] at c24
   refine kc_exit (kq_code (kc_region (kl_mv rfl (kl_inc rfl rfl (by omega) ?_))))
   refine kl_as rfl (kl_nil (kq_take [H10] ?_))
   refine kq_roundL ((i + 1), ws, H10) (by omega) (⟨by omega, (so_exit lexC_tot hi9 (by assumption)), o11⟩) (pc 8 rfl pn) (pc 0 rfl (pc 1 rfl (pc 2 rfl (pc 3 rfl pn)))) rfl (List.Sublist.refl _)
 ·skip
  refine kc_exit ?_
  exact kq_retT0 rfl [H3] [] noHp frn (fr_no _) ⟨H3, _, rfl, rfl, o4, (SrtA.le hi2 (by omega))⟩
theorem pdqR_ok {Hs Ks : Hp} {vs : Value} (xs : List (List Int)) (l : Int) (w : Nat) (hl : ∀ r ∈ xs, r.length = w) (hn : xs.length ≤ 12) (os : OwnL 22 1 Hs Ks RowV vs xs) : SpecT Tryz.prog 108 [vs, .int .i64 0, .int .i64 (xs.length : Int), .int .i64 l, .func (.func 74) #[] #[]] [Hs] [Ks] (fun vq L1 Ln _ => ∃ (Hq : Hp) (ys : List (List Int)), L1 = [Hq] ∧ Ln = [] ∧ OwnL 22 1 Hq Ks RowV vs ys ∧ SrtA lexC [] xs ys xs.length) := by
 have hlen := os.len
 refine specT_of Tryz.func108 rfl rfl rfl (fun B => ?_)
 refine kc_seq (kc_region (kl_as rfl (kl_nil (kq_code (kc_seq (kc_region (kl_as rfl (kl_nil (kq_code (kc_block (kc_loop0 (A := Int × Int × Int × Bool × Bool) (fun zz => (zz.1 = 0 ∧ zz.2.1 = (xs.length : Int))) (fun zz => 0) (fun zz => [(1, .int .i64 zz.1), (2, .int .i64 zz.2.1), (3, .int .i64 zz.2.2.1), (10, .bool zz.2.2.2.1), (11, .bool zz.2.2.2.2)]) ((0 : Int), (xs.length : Int), l, true, true) (pc 0 rfl (pc 4 rfl pn)) (pc 1 rfl (pc 2 rfl (pc 3 rfl (pc 10 rfl (pc 11 rfl pn))))) (⟨rfl, rfl⟩) ?_)))))))))))
 rintro ⟨za, zb, zl, p, q⟩ hJ3
 have hi2 : (za = 0 ∧ zb = (xs.length : Int)) := hJ3
 change KC _ _ (_) _ _ ([(1, .int .i64 za), (2, .int .i64 zb), (3, .int .i64 zl), (10, .bool p), (11, .bool q)] ++ _)
 refine kc_block (kc_seq (kc_region (kl_mv rfl (kl_mv rfl (kl_sub rfl rfl (by omega) ?_)))))
 refine kl_as rfl (kl_nil (kq_code (kc_seq (kc_seq (kc_region (kl_mv rfl (kl_leq rfl rfl ?_)))))))
 refine kl_nil (kq_code (kc_if rfl (fun c4 => ?_) (fun c4 => ?_)))
 ·skip
  refine kc_seq (kc_region (kl_mv rfl (kl_mv rfl (kl_mv rfl (kl_mv rfl (kl_callT rfl rfl (insR_ok xs za zb (by omega) (by omega) w hl  (by omega) os) (fun v5 L1 Ln K6 h7 g8 g9 => ?_)))))))
  obtain ⟨H10, y11, rfl, rfl, o12, h13⟩ := h7
  refine kl_norm ?_
  refine kl_nil (kq_code (kc_ret ?_))
  exact kq_retT0 rfl [H10] [] noHp frn (fr_no _) ⟨H10, _, rfl, rfl, o12, h13⟩
 ·skip
  exfalso; omega
theorem srtR_ok {Hs Ks : Hp} {vs : Value} (xs : List (List Int)) (w : Nat) (hl : ∀ r ∈ xs, r.length = w) (hn : xs.length ≤ 12) (os : OwnL 22 1 Hs Ks RowV vs xs) : SpecT Tryz.prog 73 [vs, .func (.func 74) #[] #[]] [Hs] [Ks] (fun vq L1 Ln _ => ∃ (Hq : Hp) (ys : List (List Int)), L1 = [Hq] ∧ Ln = [] ∧ OwnL 22 1 Hq Ks RowV vs ys ∧ SrtA lexC [] xs ys xs.length) := by
 have hlen := os.len
 refine specT_of Tryz.func73 rfl rfl rfl (fun B => ?_)
 refine kc_seq (kc_region (kl_mv rfl (kl_lenL rfl os (fun l1 => ?_))))
 refine kl_as rfl (kl_nil (kq_code (kc_region (kl_mv rfl (kl_mv rfl (kl_mv rfl (kl_cvu rfl (by omega) ?_)))))))
 refine kl_call rfl rfl (lenZ_ok (xs.length : Int) (by omega)) (fun v2 H3 f4 h5 => ?_)
 obtain ⟨z6, rfl, h7⟩ := h5
 refine kl_mv rfl (kl_callT rfl rfl (pdqR_ok xs z6 w hl  (by omega) os) (fun v8 L1 Ln K9 h10 g11 g12 => ?_))
 obtain ⟨H13, y14, rfl, rfl, o15, h16⟩ := h10
 refine kl_norm ?_
 refine kl_nil ?_
 exact kq_retT0 rfl [H13] [] noHp frn (fr_no _) ⟨H13, _, rfl, rfl, o15, h16⟩
theorem setsI_ok (n : Nat) (k : Int) (hn : n ≤ 4) (hk : 1 ≤ k.toNat ∧ k.toNat ≤ n) (hk0 : (k.toNat : Int) = k) : Spec Tryz.prog 39 [.int .i64 (n : Int), .int .i64 k] [] (fun Hq vq => Rows Hq vq (setsL n k.toNat)) := by
 have hsh := ishl_pow hn
 refine spec_of Tryz.func39 rfl rfl rfl (fun B => ?_)
 refine kc_seq (kc_region (kl_as rfl (kl_nil (kq_code (kc_seq (kc_region (kl_bs0 RowV rfl (fun v1 H2 f3 o4 => ?_))))))))
 refine kl_as rfl (kl_nil (kq_code (kc_seq (kc_seq (kc_region (kl_mv rfl (kl_shl rfl rfl (by omega) ?_)))))))
 refine kl_mv rfl (kl_nil (kq_code (kc_block (kc_loopK (A := Nat × List (List Int) × Value × Hp × Hp) (fun zz => (zz.1 ≤ (2 ^ n)) ∧ (zz.2.1 = bitsTo n k.toNat zz.1) ∧ Fr B zz.2.2.2.2 ∧ OwnL 22 1 zz.2.2.2.1 zz.2.2.2.2 RowV zz.2.2.1 zz.2.1 ∧ Fr B zz.2.2.2.1) (fun zz => (2 ^ n) - zz.1) (fun zz => zz.2.2.2.2) (fun zz => [zz.2.2.2.1]) (fun zz => [(10, .int .i64 (zz.1 : Int)), (5, zz.2.2.1)]) (0, ([]), v1, H2, noHp) (pc 1 rfl (pc 4 rfl (pc 9 rfl pn))) (pc 10 rfl (pc 5 rfl pn)) rfl ⟨Nat.zero_le _, rfl, (fr_no _), o4, f3⟩ ?_))))
 rintro ⟨b, out, v10, H7, K11⟩ hJ13
 obtain ⟨hk5, hi6, f12, o8, f9⟩ : (b ≤ (2 ^ n)) ∧ (out = bitsTo n k.toNat b) ∧ Fr B K11 ∧ OwnL 22 1 H7 K11 RowV v10 out ∧ Fr B H7 := hJ13
 change KC _ _ (K11 :: _) [H7] _ ([(10, .int .i64 (b : Int)), (5, v10)] ++ _)
 have hol := bitsTo_len hi6
 have hp16 := pow_16 hn
 refine kc_seq (kc_region (kl_lss rfl rfl ?_))
 refine kl_nil (kq_code (kc_seq (kc_if rfl (fun c14 => ?_) (fun c14 => ?_))))
 ·skip
  have hb16 : b < 16 := lt_16 hn c14 hsh
  refine kc_skipQ (kq_code (kc_seq (kc_block (kc_seq (kc_region (kl_mv rfl (kl_as rfl (kl_nil (kq_code (kc_seq (kc_region (kl_mv rfl ?_))))))))))))
  refine kl_callP rfl rfl (size_ok (b : Int) ⟨by omega, by omega⟩) ?_
  refine kl_mv rfl (kl_eql rfl rfl ?_)
  refine kl_nil (kq_code (kc_if rfl (fun c15 => ?_) (fun c15 => ?_)))
  ·skip
   have hpk := c15
   refine kc_region (kl_mv rfl (kl_mv rfl (kl_call rfl rfl (members_ok (b : Int) ⟨by omega, by omega⟩) (fun v16 H17 f18 h19 => ?_))))
   refine kl_bs rfl rfl rfl (by decide) (ca (by first | exact Sl.cells (by assumption) | exact OwnL.cells (by assumption)) ca_nil) (fun v20 H21 f22 r23 s24 => ?_)
   refine kl_cmp K11 H17 (fun c25 => ?_)
   have o26 := OwnL.mono (K' := orHp K11 H17) o8 orL
   refine kl_apL (membersI (b : Int)) rfl rfl o26 (by assumption) ⟨_, rfl, Sl.mono (by assumption) (orC c25) (fun _ _ h => h)⟩ (oc (Sl.oneCell (by assumption)) oc_nil) (by omega) (by decide) (fun v27 H28 o29 f30 => ?_)
   have f31 := f30 B f9 (Nat.le_refl _)
   refine kl_as rfl (kl_nil (kq_code (kc_region (kl_inc rfl rfl (by omega) ?_))))
   refine kl_mv rfl (kl_nil (kq_take [H28] ?_))
   refine kq_roundK ((b + 1), (out ++ [(membersI (b : Int))]), v27, H28, (orHp K11 H17)) (by omega) (⟨by omega, (by first | exact bitsTo_T hi6 (by omega) | exact bitsTo_F hi6 (by omega)), (fr_or f12 f18), o29, f31⟩) (pc 10 rfl (pc 5 rfl pn)) (pc 1 rfl (pc 4 rfl (pc 9 rfl pn))) rfl (List.Sublist.refl _)
  ·skip
   have hpk := c15
   refine kc_skipQ (kq_code (kc_region (kl_inc rfl rfl (by omega) ?_)))
   refine kl_mv rfl (kl_nil (kq_take [H7] ?_))
   refine kq_roundK ((b + 1), out, v10, H7, K11) (by omega) (⟨by omega, (by first | exact bitsTo_T hi6 (by omega) | exact bitsTo_F hi6 (by omega)), f12, o8, f9⟩) (pc 10 rfl (pc 5 rfl pn)) (pc 1 rfl (pc 4 rfl (pc 9 rfl pn))) rfl (List.Sublist.refl _)
 ·skip
  have hbl := bits_len hn hk
  have hbe := bits_all hsh hi6 c14 (by omega)
  rw [← hbe] at hbl
  refine kc_exit (kq_code (kc_seq (kc_region (kl_mv rfl (kl_callT rfl rfl (srtR_ok out k.toNat hbl.2 (by omega) o8) (fun v32 L1 Ln K33 h34 g35 g36 => ?_))))))
  obtain ⟨H37, y38, rfl, rfl, o39, h40⟩ := h34
  refine kl_norm ?_
  have hsr : y38 = setsL n k.toNat := srt_sets hn hk (by have h9 := h40; rw [hbe] at h9; exact h9)
  refine kl_nil (kq_code (kc_seq (kc_region (kl_mv rfl (kl_as rfl (kl_nil (kq_code (kc_ret (kq_own H37 (OwnL.liq o39) (fun f42 => ?_))))))))))
  refine kq_cmp H37 K11 (fun c43 => ?_)
  have e9 : y38 = setsL n k.toNat := by exact hsr
  exact kq_ret rfl rfl (orHp H37 K11) (fr_or f42 f12) (e9 ▸ OwnL.rowsK o39 c43)
theorem lnsI_ok {Hmd : Hp} {vmd : Value} {Hmc : Hp} {vmc : Value} {Hobj : Hp} {vobj : Value} {Hx : Hp} {vx : Value} (m : Mod) (obj : List Int) (x : List Int) (k : Int) (hmd : Ints Hmd vmd m.doms) (hmc : Cons Hmc vmc m.cons) (hobj : Ints Hobj vobj obj) (hx : Ints Hx vx x) : Spec Tryz.prog 10 [.agg #[vmd, vmc], vobj, vx, .int .i64 k] [Hmd, Hmc, Hobj, Hx] (fun Hq vq => ∃ uq0 : Value, vq = .tuple #[uq0, .bool ((lnsV m obj x k).2)] ∧ Ints Hq uq0 ((lnsV m obj x k).1)) := by
 refine spec_of Tryz.func10 rfl rfl rfl (fun B => ?_)
 refine kc_seq (kc_region (kl_box rfl rfl (fun p1 H2 f3 a4 => ?_)))
 refine kl_as rfl (kl_as rfl (kl_nil (kq_code (kc_scope (A := List Int × Value × Hp) 0 rfl (fun zz => (lnsOk m obj x k = true ∧ (zz.1 ∈ sols m ∧ ∀ r, LnsR m obj k.toNat zz.1 r → LnsR m obj k.toNat x r)) ∧ Fr B zz.2.2 ∧ Ints zz.2.2 zz.2.1 zz.1) (fun zz => (valO obj zz.1 + 1000).toNat) (fun zz => zz.2.2) (fun zz => [(10, zz.2.1)]) (pc 1 rfl (pc 3 rfl (pc 4 rfl pn))) (fun h7 => ?_) ?_))))
 ·skip
  refine kc_seq (kc_seq (kc_region (kl_ldS rfl (by assumption) rfl ?_)))
  refine kl_mv rfl (kl_callP rfl rfl (objectiveOk_ok m obj (by assumption) (by assumption) (by assumption)) ?_)
  refine kl_not rfl (kl_mv rfl (kl_join 5 24 (.bool (!(objOkB m obj) || !(isSolT m x))) (pc 1 rfl (pc 2 rfl (pc 3 rfl (pc 4 rfl (pc 8 rfl (pc 9 rfl (pc 19 rfl pn))))))) (fun J12 => ?_) ?_))
  ·rcases Bool.eq_false_or_eq_true (!(objOkB m obj)) with g11 | g11
   ·skip
    refine kl_gF rfl rfl g11 (kl_gF rfl rfl g11 (kl_gF rfl rfl g11 (kl_gF rfl rfl g11 (kl_orT (!(isSolT m x)) rfl rfl g11 ?_))))
    exact J12 _ (pc 24 rfl (pc 1 rfl (pc 2 rfl (pc 3 rfl (pc 4 rfl (pc 8 rfl (pc 9 rfl (pc 19 rfl pn))))))))
   ·skip
    have g11p := g11
    try simp only [Bool.not_eq_true', Bool.not_eq_false', decide_eq_true_eq, decide_eq_false_iff_not, Bool.and_eq_true, Bool.or_eq_false_iff, withinB_iff] at g11p
    refine kl_gT rfl rfl g11 (kl_ldS rfl (by assumption) rfl ?_)
    refine kl_gT rfl rfl g11 (kl_mv rfl (kl_gT rfl rfl g11 (kl_callP rfl rfl (isSolI_ok m x (by assumption) (by assumption) (by assumption)) ?_)))
    refine kl_gT rfl rfl g11 (kl_not rfl (kl_orF rfl rfl g11 ?_))
    exact J12 _ (pc 24 rfl (pc 1 rfl (pc 2 rfl (pc 3 rfl (pc 4 rfl (pc 8 rfl (pc 9 rfl (pc 19 rfl pn))))))))
  refine kl_mv rfl (kl_join 7 32 (.bool ((!(objOkB m obj) || !(isSolT m x)) || !(withinB k (1 : Int) (m.doms.length : Int)))) (pc 1 rfl (pc 2 rfl (pc 3 rfl (pc 4 rfl (pc 8 rfl (pc 9 rfl (pc 25 rfl pn))))))) (fun J17 => ?_) ?_)
  ·rcases Bool.eq_false_or_eq_true (!(objOkB m obj) || !(isSolT m x)) with g13 | g13
   ·skip
    refine kl_gF rfl rfl g13 (kl_gF rfl rfl g13 (kl_gF rfl rfl g13 (kl_gF rfl rfl g13 (kl_gF rfl rfl g13 (kl_gF rfl rfl g13 (kl_orT (!(withinB k (1 : Int) (m.doms.length : Int))) rfl rfl g13 ?_))))))
    exact J17 _ (pc 32 rfl (pc 1 rfl (pc 2 rfl (pc 3 rfl (pc 4 rfl (pc 8 rfl (pc 9 rfl (pc 25 rfl pn))))))))
   ·skip
    have g13p := g13
    try simp only [Bool.not_eq_true', Bool.not_eq_false', decide_eq_true_eq, decide_eq_false_iff_not, Bool.and_eq_true, Bool.or_eq_false_iff, withinB_iff] at g13p
    refine kl_gT rfl rfl g13 (kl_mv rfl (kl_gT rfl rfl g13 (kl_fd rfl (by assumption) (fun p14 a15 => ?_))))
    refine kl_gT rfl rfl g13 (kl_ld rfl (by assumption) (kl_gT rfl rfl g13 (kl_len rfl (by assumption) (fun l16 => ?_))))
    refine kl_gT rfl rfl g13 (kl_callP rfl rfl (within_ok k (1 : Int) (m.doms.length : Int)) ?_)
    refine kl_gT rfl rfl g13 (kl_not rfl (kl_orF rfl rfl g13 ?_))
    exact J17 _ (pc 32 rfl (pc 1 rfl (pc 2 rfl (pc 3 rfl (pc 4 rfl (pc 8 rfl (pc 9 rfl (pc 25 rfl pn))))))))
  refine kl_nil (kq_code (kc_cond rfl (fun c18 => ?_) (fun c18 => ?_)))
  ·skip
   have c18r := c18
   try simp only [smpC, decide_eq_true_eq, decide_eq_false_iff_not] at c18
   refine kc_seq (kc_region (kl_as rfl (kl_as rfl (kl_nil (kq_code (kc_ret (kq_ret2 rfl rfl rfl noHp (fr_no _) ⟨_, tup2 rfl (congrArg Value.bool (by exact (ln_no (by assumption)).2)), ?_⟩)))))))
   exact (by have e9 : (lnsV m obj x k).1 = [] := (by exact (ln_no (by assumption)).1.symm); rw [e9]; exact Sl.nil)
  ·skip
   have c18r := c18
   try simp only [smpC, decide_eq_true_eq, decide_eq_false_iff_not] at c18
   have hok := ln_ok c18r
   have hg := lnOk hok
   have hn := hg.hM.n
   have hxl := sols_len hg.hx
   refine kc_skipQ (kq_code (kc_seq (kc_region (kl_mv rfl (kl_call rfl rfl (copied_ok x (by omega) (by assumption)) (fun v19 H20 f21 o22 => ?_))))))
   have h23 := OwnL.ints o22
   refine kl_as rfl (kl_nil (kq_code (kc_seqlab ?_)))
   exact h7 (x, v19, H20) ⟨⟨hok, hg.hx, fun _ h => h⟩, f21, (by assumption)⟩ (pc 10 rfl pn) (pc 1 rfl (pc 3 rfl (pc 4 rfl pn))) inferInstance
 ·skip
  rintro ⟨nw, v5, K6⟩ h8
  obtain ⟨hsc0, f9, h10⟩ : (lnsOk m obj x k = true ∧ (nw ∈ sols m ∧ ∀ r, LnsR m obj k.toNat nw r → LnsR m obj k.toNat x r)) ∧ Fr B K6 ∧ Ints K6 v5 nw := h8
  change KC _ _ (K6 :: _) [] _ ([(10, v5)] ++ _)
  have hok := hsc0.1
  have hsc := hsc0.2
  have hg := lnOk hok
  have hn := hg.hM.n
  have hxl := sols_len hg.hx
  have hnl := sols_len hsc.1
  have hnv := sols_vals hsc.1
  refine kc_seq (kc_seq (kc_region (kl_fd rfl (by assumption) (fun p24 a25 => ?_))))
  refine kl_ld rfl (by assumption) (kl_len rfl (by assumption) (fun l26 => ?_))
  refine kl_mv rfl (kl_call rfl rfl (setsI_ok m.doms.length k hn.2 hg.hk hg.k0) (fun v27 H28 f29 h30 => ?_))
  refine kl_len rfl (by assumption) (fun l31 => ?_)
  refine kl_mv rfl (kl_nil (kq_code (kc_block (kc_loop0 (A := Nat) (fun zz => (zz ≤ (setsL m.doms.length k.toNat).length) ∧ (∀ i, i < zz → impB m obj nw ((setsL m.doms.length k.toNat).getD i []) = false)) (fun zz => (setsL m.doms.length k.toNat).length - zz) (fun zz => [(10, v5), (41, .int .i64 (zz : Int))]) (0) (pc 1 rfl (pc 3 rfl (pc 4 rfl (pc 39 rfl (pc 40 rfl pn))))) (pc 10 rfl (pc 41 rfl pn)) ⟨Nat.zero_le _, (fun i h => absurd h (Nat.not_lt_zero i))⟩ ?_))))
  rintro j hJ34
  obtain ⟨hk32, hi33⟩ : (j ≤ (setsL m.doms.length k.toNat).length) ∧ (∀ i, i < j → impB m obj nw ((setsL m.doms.length k.toNat).getD i []) = false) := hJ34
  change KC _ _ (_) _ _ ([(10, v5), (41, .int .i64 (j : Int))] ++ _)
  refine kc_seq (kc_region (kl_lss rfl rfl ?_))
  refine kl_nil (kq_code (kc_seq (kc_if rfl (fun c35 => ?_) (fun c35 => ?_))))
  ·skip
   refine kc_skipQ (kq_code (kc_seq (kc_block (kc_seq (kc_region (kl_inS rfl rfl (by assumption) (by omega) (fun p36 u38 h39 a37 => ?_)))))))
   refine kl_ld rfl (by assumption) (kl_as rfl (kl_nil (kq_code (kc_seq (kc_region (kl_ldS rfl (by assumption) rfl ?_))))))
   refine kl_mv rfl (kl_mv rfl (kl_call rfl rfl (nearM_ok m nw ((setsL m.doms.length k.toNat).getD j []) hg.hM hnv hnl (by assumption) (by assumption) (by assumption) (by assumption)) (fun v40 H41 f42 h43 => ?_)))
   obtain ⟨u44, rfl, h45⟩ := h43
   refine kl_mv rfl (kl_call rfl rfl (minM_ok (⟨(nearT m.doms nw ((setsL m.doms.length k.toNat).getD j []) nw.length), m.cons⟩ : Mod) obj (near_mok hg.hM hnv hnl _) (by show obj.length = (nearT _ _ _ _).length; rw [near_len]; exact hg.ho) hg.hO (by assumption) (by assumption) (by assumption)) (fun v46 H47 f48 h49 => ?_))
   obtain ⟨u50, rfl, h51⟩ := h49
   refine kl_mv rfl (kl_xt rfl rfl (kl_xt rfl rfl (kl_as rfl (kl_as rfl (kl_nil (kq_code (kc_seq (kc_region (kl_mv rfl (kl_mv rfl (kl_join 8 63 (.bool (((bestI (fun x => dotTo obj x x.length) (sols (⟨(nearT m.doms nw ((setsL m.doms.length k.toNat).getD j []) nw.length), m.cons⟩ : Mod))).2) && decide ((dotTo obj ((bestI (fun x => dotTo obj x x.length) (sols (⟨(nearT m.doms nw ((setsL m.doms.length k.toNat).getD j []) nw.length), m.cons⟩ : Mod))).1) ((bestI (fun x => dotTo obj x x.length) (sols (⟨(nearT m.doms nw ((setsL m.doms.length k.toNat).getD j []) nw.length), m.cons⟩ : Mod))).1).length) < (dotTo obj nw nw.length)))) (pc 1 rfl (pc 3 rfl (pc 4 rfl (pc 10 rfl (pc 12 rfl (pc 13 rfl (pc 14 rfl (pc 39 rfl (pc 40 rfl (pc 41 rfl (pc 42 rfl (pc 43 rfl (pc 44 rfl (pc 45 rfl (pc 46 rfl (pc 47 rfl (pc 48 rfl (pc 49 rfl (pc 50 rfl (pc 51 rfl (pc 52 rfl (pc 53 rfl (pc 54 rfl (pc 55 rfl pn)))))))))))))))))))))))) (fun J53 => ?_) ?_)))))))))))
   ·rcases Bool.eq_false_or_eq_true ((bestI (fun x => dotTo obj x x.length) (sols (⟨(nearT m.doms nw ((setsL m.doms.length k.toNat).getD j []) nw.length), m.cons⟩ : Mod))).2) with g52 | g52
    ·skip
     have g52p := g52
     try simp only [Bool.not_eq_true', Bool.not_eq_false', decide_eq_true_eq, decide_eq_false_iff_not, Bool.and_eq_true, Bool.or_eq_false_iff, withinB_iff] at g52p
     have hyv := nb_y (obj := obj) hg.hM hnv hnl hg.ho (by exact g52)
     refine kl_gT rfl rfl g52 (kl_mv rfl (kl_gT rfl rfl g52 (kl_mv rfl (kl_gT rfl rfl g52 (kl_callP rfl rfl (weighted_ok obj ((bestI (fun x => dotTo obj x x.length) (sols (⟨(nearT m.doms nw ((setsL m.doms.length k.toNat).getD j []) nw.length), m.cons⟩ : Mod))).1) hg.hO hyv.1 hyv.2.1 hyv.2.2 (by assumption) (by assumption)) ?_)))))
     refine kl_gT rfl rfl g52 (kl_mv rfl (kl_gT rfl rfl g52 (kl_mv rfl (kl_gT rfl rfl g52 (kl_callP rfl rfl (weighted_ok obj nw hg.hO hnv (by rw [hnl]; exact hg.ho) (by omega) (by assumption) (by assumption)) ?_)))))
     refine kl_gT rfl rfl g52 (kl_lss rfl rfl ?_)
     refine kl_andT rfl rfl g52 ?_
     exact J53 _ (pc 63 rfl (pc 1 rfl (pc 3 rfl (pc 4 rfl (pc 10 rfl (pc 12 rfl (pc 13 rfl (pc 14 rfl (pc 39 rfl (pc 40 rfl (pc 41 rfl (pc 42 rfl (pc 43 rfl (pc 44 rfl (pc 45 rfl (pc 46 rfl (pc 47 rfl (pc 48 rfl (pc 49 rfl (pc 50 rfl (pc 51 rfl (pc 52 rfl (pc 53 rfl (pc 54 rfl (pc 55 rfl pn)))))))))))))))))))))))))
    ·skip
     refine kl_gF rfl rfl g52 (kl_gF rfl rfl g52 (kl_gF rfl rfl g52 (kl_gF rfl rfl g52 (kl_gF rfl rfl g52 (kl_gF rfl rfl g52 (kl_gF rfl rfl g52 (kl_andF (decide ((dotTo obj ((bestI (fun x => dotTo obj x x.length) (sols (⟨(nearT m.doms nw ((setsL m.doms.length k.toNat).getD j []) nw.length), m.cons⟩ : Mod))).1) ((bestI (fun x => dotTo obj x x.length) (sols (⟨(nearT m.doms nw ((setsL m.doms.length k.toNat).getD j []) nw.length), m.cons⟩ : Mod))).1).length) < (dotTo obj nw nw.length))) rfl rfl g52 ?_)))))))
     exact J53 _ (pc 63 rfl (pc 1 rfl (pc 3 rfl (pc 4 rfl (pc 10 rfl (pc 12 rfl (pc 13 rfl (pc 14 rfl (pc 39 rfl (pc 40 rfl (pc 41 rfl (pc 42 rfl (pc 43 rfl (pc 44 rfl (pc 45 rfl (pc 46 rfl (pc 47 rfl (pc 48 rfl (pc 49 rfl (pc 50 rfl (pc 51 rfl (pc 52 rfl (pc 53 rfl (pc 54 rfl (pc 55 rfl pn)))))))))))))))))))))))))
   refine kl_nil (kq_code (kc_cond rfl (fun c54 => ?_) (fun c54 => ?_)))
   ·skip
    have c54r := c54
    try simp only [smpC, decide_eq_true_eq, decide_eq_false_iff_not] at c54
    have hib : impB m obj nw ((setsL m.doms.length k.toNat).getD j []) = true := c54r
    refine kc_seq (kc_region (kl_mv rfl (kl_as rfl (kl_nil (kq_code (kc_goto ?_))))))
    exact kq_jump (((bestI (fun x => dotTo obj x x.length) (sols (⟨(nearT m.doms nw ((setsL m.doms.length k.toNat).getD j []) nw.length), m.cons⟩ : Mod))).1), u50, H47) (by exact ln_mu hg hsc.1 hib) ⟨⟨hok, ln_jump hg hsc hi33 (by omega) hib⟩, f48, (by assumption)⟩ (pc 10 rfl pn) (pc 1 rfl (pc 3 rfl (pc 4 rfl pn)))
   ·skip
    have c54r := c54
    try simp only [smpC, decide_eq_true_eq, decide_eq_false_iff_not] at c54
    have hib : impB m obj nw ((setsL m.doms.length k.toNat).getD j []) = false := c54r
    refine kc_skipQ (kq_code (kc_region (kl_inc rfl rfl (by omega) ?_)))
    refine kl_mv rfl (kl_nil (kq_round0 ((j + 1)) (by omega) (⟨by omega, (ln_stepI hi33 hib)⟩) (pc 10 rfl (pc 41 rfl pn)) (pc 1 rfl (pc 3 rfl (pc 4 rfl (pc 39 rfl (pc 40 rfl pn))))) (List.Sublist.refl _)))
  ·skip
   refine kc_exit (kq_code (kc_seq (kc_region (kl_mv rfl (kl_as rfl (kl_as rfl (kl_nil (kq_code (kc_ret (kq_ret2 rfl rfl rfl K6 f9 ⟨_, tup2 rfl (congrArg Value.bool (by exact (ln_done hok hsc.2 hi33 (by omega)).2)), ?_⟩))))))))))
   exact (by have e9 : (lnsV m obj x k).1 = nw := (by exact (ln_done hok hsc.2 hi33 (by omega)).1.symm); rw [e9]; assumption)
end Go.Proofs.YtkfioalfofoikaaGreat
