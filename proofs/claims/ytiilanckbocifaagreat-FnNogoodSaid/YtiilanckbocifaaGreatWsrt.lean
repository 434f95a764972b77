/- Walks of functions of the program: each returns what the plain function gives. Conditions: those that each statement names. -/
import Derived.Test.YtiilanckbocifaaGreatWlit
import Derived.Test.YtiilanckbocifaaGreatSrt
import Derived.Test.YtiilanckbocifaaGreatCut
import Derived.Test.YtiilanckbocifaaGreatOrd
import Derived.Test.YtiilanckbocifaaGreatPureNg
namespace Go.Proofs.YtiilanckbocifaaGreat
open Go
set_option linter.unusedSimpArgs false
set_option linter.unusedVariables false
theorem lenZ64_ok (x : Int) (hb : 0 ≤ x ∧ x < 64) : Spec Tryz.prog 176 [.int .u64 x] [] (fun Hq vq => ∃ z : Int, vq = .int .i64 z ∧ 0 ≤ z ∧ z ≤ 100) := by
 refine spec_of Tryz.func176 rfl rfl rfl (fun B => ?_)
 refine kc_seq (kc_region (kl_as rfl (kl_nil (kq_code (kc_seq (kc_seq (kc_region (kl_mv rfl (kl_geqK rfl rfl ?_)))))))))
 refine kl_nil (kq_code (kc_if rfl (fun c1 => ?_) (fun c1 => ?_)))
 ·skip
  exfalso; omega
 ·skip
  refine kc_skipQ (kq_code (kc_seq (kc_seq (kc_region (kl_mv rfl (kl_geqK rfl rfl ?_))))))
  refine kl_nil (kq_code (kc_if rfl (fun c2 => ?_) (fun c2 => ?_)))
  ·skip
   exfalso; omega
  ·skip
   refine kc_skipQ (kq_code (kc_seq (kc_seq (kc_region (kl_mv rfl (kl_geqK rfl rfl ?_))))))
   refine kl_nil (kq_code (kc_if rfl (fun c3 => ?_) (fun c3 => ?_)))
   ·skip
    exfalso; omega
   ·skip
    refine kc_skipQ (kq_code (kc_seq (kc_region (kl_mv rfl (kl_mv rfl (kl_cv rfl ?_))))))
    refine kl_ixLen0 (m := x) (by kernel_rfl) rfl hb (fun z4 h5 => ?_)
    refine kl_cvi rfl (by omega) ?_
    refine kl_add rfl rfl (by omega) ?_
    refine kl_as rfl (kl_nil (kq_code (kc_ret ?_)))
    exact kq_retP rfl rfl ⟨_, rfl, by omega⟩
theorem lenZ_ok (x : Int) (hb : 0 ≤ x ∧ x < 64) : Spec Tryz.prog 157 [.int .u64 x] [] (fun Hq vq => ∃ z : Int, vq = .int .i64 z ∧ 0 ≤ z ∧ z ≤ 100) := by
 refine spec_of Tryz.func157 rfl rfl rfl (fun B => ?_)
 refine kc_seq (kc_region (kl_as rfl (kl_nil (kq_code (kc_seq (kc_condF ?_))))))
 refine kc_skipQ (kq_code (kc_seq (kc_region (kl_mv rfl (kl_call rfl rfl (lenZ64_ok x hb) (fun v1 H2 f3 h4 => ?_))))))
 obtain ⟨z5, rfl, h6⟩ := h4
 refine kl_as rfl (kl_nil (kq_code (kc_ret ?_)))
 exact kq_retP rfl rfl ⟨_, rfl, by omega⟩
theorem insL_ok {Hs : Hp} {vs : Value} (xs : List Lit) (a b : Int) (ha : a = 0) (hb : b = (xs.length : Int)) (hn : xs.length ≤ 12) (os : OwnL 74 3 Hs noHp LitV vs xs) : SpecT Tryz.prog 167 [vs, .int .i64 a, .int .i64 b, .func (.func 55) #[] #[]] [Hs] [] (fun vq L1 Ln _ => ∃ (Hq : Hp) (ys : List Lit), L1 = [Hq] ∧ Ln = [] ∧ OwnL 74 3 Hq noHp LitV vs ys ∧ SrtA litCmp nilLit xs ys xs.length) := by
 subst ha
 subst hb
 have hlen := os.len
 refine specT_of Tryz.func167 rfl rfl rfl (fun B => ?_)
 refine kc_seq (kc_region (kl_mv rfl (kl_add rfl rfl (by omega) ?_)))
 refine kl_as rfl (kl_nil (kq_code (kc_block (kc_loopL (A := Nat × List Lit × Hp) (fun zz => (1 ≤ zz.1) ∧ (SrtA litCmp nilLit xs zz.2.1 zz.1) ∧ OwnL 74 3 zz.2.2 noHp LitV vs zz.2.1) (fun zz => xs.length - zz.1) (fun zz => [zz.2.2]) (fun zz => [(8, .int .i64 (zz.1 : Int))]) (1, xs, Hs) (pc 0 rfl (pc 1 rfl (pc 2 rfl (pc 3 rfl pn)))) (pc 8 rfl pn) rfl ⟨(Nat.le_refl 1), (SrtA.zero _), os⟩ ?_))))
 rintro ⟨i, ys, H3⟩ hJ6
 obtain ⟨hk1, hi2, o4⟩ : (1 ≤ i) ∧ (SrtA litCmp nilLit xs ys i) ∧ OwnL 74 3 H3 noHp LitV vs ys := hJ6
 change KC _ _ (_) [H3] _ ([(8, .int .i64 (i : Int))] ++ _)
 have hyl := hi2.perm.length_eq
 refine kc_seq (kc_seq (kc_region (kl_mv rfl (kl_mv rfl (kl_lss rfl rfl ?_)))))
 refine kl_nil (kq_code (kc_if rfl (fun c7 => ?_) (fun c7 => ?_)))
 ·skip
  refine kc_skipQ (kq_code (kc_seq (kc_block (kc_seq (kc_region (kl_mv rfl (kl_as rfl (kl_nil (kq_code (kc_block ?_))))))))))
  refine kc_loopL (A := Nat × Int × List Lit × Hp) (fun zz => (zz.1 ≤ i) ∧ (zz.2.1 = (zz.1 : Int) ∧ InsA litCmp nilLit xs zz.2.2.1 i zz.1) ∧ OwnL 74 3 zz.2.2.2 noHp LitV vs zz.2.2.1) (fun zz => zz.1) (fun zz => [zz.2.2.2]) (fun zz => [(9, .int .i64 zz.2.1)]) (i, (i : Int), ys, H3) (pc 0 rfl (pc 1 rfl (pc 2 rfl (pc 3 rfl (pc 8 rfl (pc 12 rfl (pc 13 rfl (pc 14 rfl (pc 17 rfl pn))))))))) (pc 9 rfl pn) rfl ⟨(Nat.le_refl _), ⟨rfl, SrtA.go hi2⟩, o4⟩ ?_
  rintro ⟨j, z, ws, H10⟩ hJ13
  obtain ⟨hk8, hi9, o11⟩ : (j ≤ i) ∧ (z = (j : Int) ∧ InsA litCmp nilLit xs ws i j) ∧ OwnL 74 3 H10 noHp LitV vs ws := hJ13
  change KC _ _ (_) [H10] _ ([(9, .int .i64 z)] ++ _)
  have hz := hi9.1
  have hwl := hi9.2.perm.length_eq
  refine kc_seq (kc_seq (kc_draw 17 [true, true, true, true, true, true, true, true, true, true, true, true, true, true, false, true, true] (by kernel_rfl) (by kernel_rfl) ?_))
  refine kl_mv rfl (kl_mv rfl (kl_gtr rfl rfl ?_))
  refine kl_mv rfl (kl_join 13 34 (.bool (decide ((0 : Int) < z) && decide ((litCmp (ws.getD z.toNat nilLit) (ws.getD ((z - (1 : Int)).toNat) nilLit)) < (0 : Int)))) (pc 0 rfl (pc 1 rfl (pc 2 rfl (pc 3 rfl (pc 8 rfl (pc 9 rfl (pc 12 rfl (pc 13 rfl (pc 14 rfl (pc 17 rfl (pc 18 rfl (pc 19 rfl (pc 20 rfl (pc 21 rfl pn)))))))))))))) (fun J19 => ?_) ?_)
  ·rcases Bool.eq_false_or_eq_true (decide ((0 : Int) < z)) with g14 | g14
   ·skip
    have g14p := of_decide_eq_true g14
    refine kl_gT rfl rfl g14 (kl_mv rfl (kl_gT rfl rfl g14 (kl_mv rfl (kl_gT rfl rfl g14 (kl_mv rfl (kl_gT rfl rfl g14 (kl_ixL rfl rfl (by assumption) (by first | omega | (simp only [List.length_set]; omega)) (by first | omega | (simp only [List.length_set]; omega)) (fun p15 q16 => ?_))))))))
    refine kl_gT rfl rfl g14 (kl_ldSL rfl (OwnL.atQ o11 (by assumption) (by first | omega | (simp only [List.length_set]; omega) : z.toNat < ws.length)) rfl ?_)
    refine kl_gT rfl rfl g14 (kl_mv rfl (kl_gT rfl rfl g14 (kl_mv rfl (kl_gT rfl rfl g14 (kl_sub rfl rfl (by omega) ?_)))))
    refine kl_gT rfl rfl g14 (kl_ixL rfl rfl (by assumption) (by first | omega | (simp only [List.length_set]; omega)) (by first | omega | (simp only [List.length_set]; omega)) (fun p17 q18 => ?_))
    refine kl_gT rfl rfl g14 (kl_ldSL rfl (OwnL.atQ o11 (by assumption) (by first | omega | (simp only [List.length_set]; omega) : (z - (1 : Int)).toNat < ws.length)) rfl ?_)
    refine kl_gT rfl rfl g14 (kl_callP rfl rfl (litCmp_ok (ws.getD z.toNat nilLit) (ws.getD ((z - (1 : Int)).toNat) nilLit)) ?_)
    refine kl_gT rfl rfl g14 (kl_lss rfl rfl ?_)
    refine kl_andT rfl rfl g14 ?_
    exact J19 _ (pc 34 rfl (pc 0 rfl (pc 1 rfl (pc 2 rfl (pc 3 rfl (pc 8 rfl (pc 9 rfl (pc 12 rfl (pc 13 rfl (pc 14 rfl (pc 17 rfl (pc 18 rfl (pc 19 rfl (pc 20 rfl (pc 21 rfl pn)))))))))))))))
   ·skip
    refine kl_gF rfl rfl g14 (kl_gF rfl rfl g14 (kl_gF rfl rfl g14 (kl_gF rfl rfl g14 (kl_gF rfl rfl g14 (kl_gF rfl rfl g14 (kl_gF rfl rfl g14 (kl_gF rfl rfl g14 (kl_gF rfl rfl g14 ?_))))))))
    refine kl_gF rfl rfl g14 (kl_gF rfl rfl g14 (kl_gF rfl rfl g14 (kl_andF (decide ((litCmp (ws.getD z.toNat nilLit) (ws.getD ((z - (1 : Int)).toNat) nilLit)) < (0 : Int))) rfl rfl g14 ?_)))
    exact J19 _ (pc 34 rfl (pc 0 rfl (pc 1 rfl (pc 2 rfl (pc 3 rfl (pc 8 rfl (pc 9 rfl (pc 12 rfl (pc 13 rfl (pc 14 rfl (pc 17 rfl (pc 18 rfl (pc 19 rfl (pc 20 rfl (pc 21 rfl pn)))))))))))))))
  refine kl_nil (kq_code (kc_cond rfl (fun c20 => ?_) (fun c20 => ?_)))
  ·skip
   have c20r := c20
   try simp only [smpC, decide_eq_true_eq, decide_eq_false_iff_not] at c20
   refine kc_skipQ (kq_code (kc_seq (kc_block (kc_tree (fun i => ([2, 3, 4, 15, 16, 17] : List Nat).contains i) [H10] (by kernel_rfl) ?_))))
   refine kt_p 2 rfl rfl (by kernel_rfl) (py_mv rfl) ?_
   refine kt_p 3 rfl rfl (by kernel_rfl) (py_mv rfl) ?_
   refine kt_p 4 rfl rfl (by kernel_rfl) (py_sub rfl rfl (by omega)) ?_
   refine kt_q 0 (.cons_cons _ (List.nil_sublist _)) rfl (by kernel_rfl) (kl_mv rfl (kl_nil (kq_q (kt_q 1 (.cons_cons _ (List.nil_sublist _)) rfl (by kernel_rfl) (kl_mv rfl (kl_nil (kq_q (kt_q 5 (.cons_cons _ (List.nil_sublist _)) rfl (by kernel_rfl) (kl_mv rfl (kl_nil (kq_q ?_)))))))))))
   refine kt_q 6 (.cons_cons _ (List.nil_sublist _)) rfl (by kernel_rfl) (kl_mv rfl (kl_nil (kq_q (kt_q 7 (.cons_cons _ (List.nil_sublist _)) rfl (by kernel_rfl) (kl_sub rfl rfl (by omega) ?_)))))
   refine kl_nil (kq_q (kt_q 8 (.cons_cons _ (List.nil_sublist _)) rfl (by kernel_rfl) (kl_ixL rfl rfl (by assumption) (by first | omega | (simp only [List.length_set]; omega)) (by first | omega | (simp only [List.length_set]; omega)) (fun p21 q22 => ?_))))
   refine kl_nil (kq_q (kt_q 9 (.cons_cons _ (List.nil_sublist _)) rfl (by kernel_rfl) (kl_ldS rfl (OwnL.atQ o11 (by assumption) (by first | omega | (simp only [List.length_set]; omega) : (z - (1 : Int)).toNat < ws.length)) rfl ?_)))
   refine kl_nil (kq_q (kt_q 10 (.cons_cons _ (List.nil_sublist _)) rfl (by kernel_rfl) (kl_mv rfl (kl_nil (kq_q (kt_q 11 (.cons_cons _ (List.nil_sublist _)) rfl (by kernel_rfl) (kl_mv rfl (kl_nil (kq_q (kt_q 12 (.cons_cons _ (List.nil_sublist _)) rfl (by kernel_rfl) (kl_ixL rfl rfl (by assumption) (by first | omega | (simp only [List.length_set]; omega)) (by first | omega | (simp only [List.length_set]; omega)) (fun p23 q24 => ?_))))))))))))
   refine kl_nil (kq_q (kt_q 13 (.cons_cons _ (List.nil_sublist _)) rfl (by kernel_rfl) (kl_ldS rfl (OwnL.atQ o11 (by assumption) (by first | omega | (simp only [List.length_set]; omega) : z.toNat < ws.length)) rfl ?_)))
   refine kl_nil (kq_q (kt_q 14 (.cons_cons _ (List.nil_sublist _)) rfl (by kernel_rfl) (kl_ixL rfl rfl (by assumption) (by first | omega | (simp only [List.length_set]; omega)) (by first | omega | (simp only [List.length_set]; omega)) (fun p25 q26 => ?_))))
   refine kl_nil (kq_q (kt_a 15 rfl (by kernel_rfl) (kl_stLk (us := [.int .i64 ((ws.getD ((z - (1 : Int)).toNat) nilLit).var), .int .i64 ((ws.getD ((z - (1 : Int)).toNat) nilLit).val), .bool ((ws.getD ((z - (1 : Int)).toNat) nilLit).neg)]) (ws.getD ((z - (1 : Int)).toNat) nilLit) rfl rfl (by assumption) o11 (by first | omega | (simp only [List.length_set]; omega)) rfl rfl (oc rfl (oc rfl (oc rfl oc_nil))) rfl (fun H27 o28 f29 => ?_))))
   refine kl_chg [H27] rfl ?_
   refine kl_nil (kq_x rfl (kt_a 16 rfl (by kernel_rfl) (kl_ixL rfl rfl (by assumption) (by first | omega | (simp only [List.length_set]; omega)) (by first | omega | (simp only [List.length_set]; omega)) (fun p31 q32 => ?_))))
   refine kl_nil (kq_x rfl (kt_a 17 rfl (by kernel_rfl) (kl_stLk (us := [.int .i64 ((ws.getD z.toNat nilLit).var), .int .i64 ((ws.getD z.toNat nilLit).val), .bool ((ws.getD z.toNat nilLit).neg)]) (ws.getD z.toNat nilLit) rfl rfl (by assumption) o28 (by first | omega | (simp only [List.length_set]; omega)) rfl rfl (oc rfl (oc rfl (oc rfl oc_nil))) rfl (fun H33 o34 f35 => ?_))))
   refine kl_chg [H33] rfl ?_
   refine kl_nil (kq_x rfl (kt_end (by kernel_rfl) ?_))
   refine kq_code (kc_region (kl_mv rfl (kl_sub rfl rfl (by omega) ?_)))
   refine kl_as rfl (kl_nil (kq_take [H33] ?_))
   refine kq_roundL ((j - 1), (z - (1 : Int)), ((ws.set z.toNat (ws.getD ((z - (1 : Int)).toNat) nilLit)).set ((z - (1 : Int)).toNat) (ws.getD z.toNat nilLit)), H33) (by omega) (⟨(by omega), (so_step litC_tot hi9 (by omega) (by assumption)), o34⟩) (pc 9 rfl pn) (pc 0 rfl (pc 1 rfl (pc 2 rfl (pc 3 rfl (pc 8 rfl (pc 12 rfl (pc 13 rfl (pc 14 rfl (pc 17 rfl pn))))))))) rfl (List.Sublist.refl _)
  ·skip
   have c20r := c20
   try simp only [smpC, decide_eq_true_eq, decide_eq_false_iff_not] at c20
   refine kc_exit (kq_code (kc_region (kl_mv rfl (kl_inc rfl rfl (by omega) ?_))))
   refine kl_as rfl (kl_nil (kq_take [H10] ?_))
   refine kq_roundL ((i + 1), ws, H10) (by omega) (⟨by omega, (so_exit litC_tot hi9 (by assumption)), o11⟩) (pc 8 rfl pn) (pc 0 rfl (pc 1 rfl (pc 2 rfl (pc 3 rfl pn)))) rfl (List.Sublist.refl _)
 ·skip
  refine kc_exit ?_
  exact kq_retT0 rfl [H3] [] noHp frn (fr_no _) ⟨H3, _, rfl, rfl, o4, (SrtA.le hi2 (by omega))⟩
theorem pdqL_ok {Hs : Hp} {vs : Value} (xs : List Lit) (l : Int) (hn : xs.length ≤ 12) (os : OwnL 74 3 Hs noHp LitV vs xs) : SpecT Tryz.prog 156 [vs, .int .i64 0, .int .i64 (xs.length : Int), .int .i64 l, .func (.func 55) #[] #[]] [Hs] [] (fun vq L1 Ln _ => ∃ (Hq : Hp) (ys : List Lit), L1 = [Hq] ∧ Ln = [] ∧ OwnL 74 3 Hq noHp LitV vs ys ∧ SrtA litCmp nilLit xs ys xs.length) := by
 have hlen := os.len
 refine specT_of Tryz.func156 rfl rfl rfl (fun B => ?_)
 refine kc_seq (kc_region (kl_as rfl (kl_nil (kq_code (kc_seq (kc_region (kl_as rfl (kl_nil (kq_code (kc_block (kc_loop0 (A := Int × Int × Int × Bool × Bool) (fun zz => (zz.1 = 0 ∧ zz.2.1 = (xs.length : Int))) (fun zz => 0) (fun zz => [(1, .int .i64 zz.1), (2, .int .i64 zz.2.1), (3, .int .i64 zz.2.2.1), (10, .bool zz.2.2.2.1), (11, .bool zz.2.2.2.2)]) ((0 : Int), (xs.length : Int), l, true, true) (pc 0 rfl (pc 4 rfl pn)) (pc 1 rfl (pc 2 rfl (pc 3 rfl (pc 10 rfl (pc 11 rfl pn))))) (⟨rfl, rfl⟩) ?_)))))))))))
 rintro ⟨za, zb, zl, p, q⟩ hJ3
 have hi2 : (za = 0 ∧ zb = (xs.length : Int)) := hJ3
 change KC _ _ (_) _ _ ([(1, .int .i64 za), (2, .int .i64 zb), (3, .int .i64 zl), (10, .bool p), (11, .bool q)] ++ _)
 refine kc_block (kc_seq (kc_region (kl_mv rfl (kl_mv rfl (kl_sub rfl rfl (by omega) ?_)))))
 refine kl_as rfl (kl_nil (kq_code (kc_seq (kc_seq (kc_region (kl_mv rfl (kl_leq rfl rfl ?_)))))))
 refine kl_nil (kq_code (kc_if rfl (fun c4 => ?_) (fun c4 => ?_)))
 ·skip
  refine kc_seq (kc_region (kl_mv rfl (kl_mv rfl (kl_mv rfl (kl_mv rfl (kl_callT rfl rfl (insL_ok xs za zb (by omega) (by omega)  (by omega) os) (fun v5 L1 Ln K6 h7 g8 g9 => ?_)))))))
  obtain ⟨H10, y11, rfl, rfl, o12, h13⟩ := h7
  refine kl_norm ?_
  refine kl_nil (kq_code (kc_ret ?_))
  exact kq_retT0 rfl [H10] [] noHp frn (fr_no _) ⟨H10, _, rfl, rfl, o12, h13⟩
 ·skip
  exfalso; omega
theorem srtL_ok {Hs : Hp} {vs : Value} (xs : List Lit) (hn : xs.length ≤ 12) (os : OwnL 74 3 Hs noHp LitV vs xs) : SpecT Tryz.prog 134 [vs, .func (.func 55) #[] #[]] [Hs] [] (fun vq L1 Ln _ => ∃ (Hq : Hp) (ys : List Lit), L1 = [Hq] ∧ Ln = [] ∧ OwnL 74 3 Hq noHp LitV vs ys ∧ SrtA litCmp nilLit xs ys xs.length) := by
 have hlen := os.len
 refine specT_of Tryz.func134 rfl rfl rfl (fun B => ?_)
 refine kc_seq (kc_region (kl_mv rfl (kl_lenL rfl os (fun l1 => ?_))))
 refine kl_as rfl (kl_nil (kq_code (kc_region (kl_mv rfl (kl_mv rfl (kl_mv rfl (kl_cvu rfl (by omega) ?_)))))))
 refine kl_call rfl rfl (lenZ_ok (xs.length : Int) (by omega)) (fun v2 H3 f4 h5 => ?_)
 obtain ⟨z6, rfl, h7⟩ := h5
 refine kl_mv rfl (kl_callT rfl rfl (pdqL_ok xs z6  (by omega) os) (fun v8 L1 Ln K9 h10 g11 g12 => ?_))
 obtain ⟨H13, y14, rfl, rfl, o15, h16⟩ := h10
 refine kl_norm ?_
 refine kl_nil ?_
 exact kq_retT0 rfl [H13] [] noHp frn (fr_no _) ⟨H13, _, rfl, rfl, o15, h16⟩
theorem compactL_ok {Hxs : Hp} {vxs : Value} (xs : List Lit) (hd : ∀ k : Nat, 0 < k → k < xs.length → xs.getD k nilLit ≠ xs.getD ((k : Int) - 1).toNat nilLit) (hxs : Lits Hxs vxs xs) : Spec Tryz.prog 136 [vxs] [Hxs] ((fun Hq vq => vq = vxs)) := by
 refine spec_of Tryz.func136 rfl rfl rfl (fun B => ?_)
 refine kc_seq (kc_region (kl_as rfl (kl_nil (kq_code (kc_seq (kc_seq (kc_region (kl_mv rfl (kl_len rfl (by assumption) (fun l1 => ?_))))))))))
 refine kl_lss rfl rfl ?_
 refine kl_nil (kq_code (kc_if rfl (fun c2 => ?_) (fun c2 => ?_)))
 ·skip
  refine kc_seq (kc_region (kl_mv rfl (kl_as rfl (kl_nil (kq_code (kc_ret ?_))))))
  exact kq_ret rfl rfl noHp (fr_no _) rfl
 ·skip
  refine kc_skipQ (kq_code (kc_seq (kc_seq (kc_region (kl_as rfl (kl_nil (kq_code (kc_block (kc_loop0 (A := Nat) (fun zz => (1 ≤ zz) ∧ (True)) (fun zz => xs.length - zz) (fun zz => [(3, .int .i64 (zz : Int))]) (1) (pc 0 rfl pn) (pc 3 rfl pn) ⟨(Nat.le_refl 1), trivial⟩ ?_)))))))))
  rintro k hJ5
  obtain ⟨hk3, hi4⟩ : (1 ≤ k) ∧ (True) := hJ5
  change KC _ _ (_) _ _ ([(3, .int .i64 (k : Int))] ++ _)
  refine kc_seq (kc_seq (kc_region (kl_mv rfl (kl_mv rfl (kl_len rfl (by assumption) (fun l6 => ?_))))))
  refine kl_lss rfl rfl ?_
  refine kl_nil (kq_code (kc_if rfl (fun c7 => ?_) (fun c7 => ?_)))
  ·skip
   refine kc_skipQ (kq_code (kc_seq (kc_block (kc_seq (kc_draw 10 [true, true, true, true, true, true, true, true, true, true] (by kernel_rfl) (by kernel_rfl) ?_)))))
   refine kl_mv rfl (kl_mv rfl (kl_inQ rfl rfl (by assumption) (by omega) (fun p8 a9 => ?_)))
   refine kl_ldS rfl (by assumption) rfl ?_
   refine kl_mv rfl (kl_mv rfl (kl_sub rfl rfl (by omega) ?_))
   refine kl_ixQ rfl rfl (by assumption) (by omega) (by omega) (fun p10 a11 => ?_)
   refine kl_ldS rfl (by assumption) rfl ?_
   refine kl_eqlQ rfl rfl ?_
   refine kl_nil (kq_code (kc_cond rfl (fun c12 => ?_) (fun c12 => ?_)))
   ·skip
    have c12r := c12
    try simp only [smpC, decide_eq_true_eq, decide_eq_false_iff_not] at c12
    exact absurd c12 (hd k (by omega) (by omega))
   ·skip
    have c12r := c12
    try simp only [smpC, decide_eq_true_eq, decide_eq_false_iff_not] at c12
    refine kc_skipQ (kq_code (kc_region (kl_mv rfl (kl_inc rfl rfl (by omega) ?_))))
    refine kl_as rfl (kl_nil (kq_round0 ((k + 1)) (by omega) (⟨by omega, trivial⟩) (pc 3 rfl pn) (pc 0 rfl pn) (List.Sublist.refl _)))
  ·skip
   refine kc_exit (kq_code (kc_seq (kc_region (kl_mv rfl (kl_as rfl (kl_nil (kq_code (kc_ret ?_))))))))
   exact kq_ret rfl rfl noHp (fr_no _) rfl
theorem cloneL_ok {Hxs : Hp} {vxs : Value} (xs : List Lit) (hb : xs.length ≤ 1000) (hxs : Lits Hxs vxs xs) : Spec Tryz.prog 133 [vxs] [Hxs] (fun Hq vq => OwnL 74 3 Hq noHp LitV vq xs) := by
 refine spec_of Tryz.func133 rfl rfl rfl (fun B => ?_)
 refine kc_seq (kc_region (kl_as rfl (kl_nil (kq_code (kc_seq (kc_seq (kc_region (kl_mv rfl (kl_eqlnilX rfl rfl (by assumption) (fun bn nn nx => ?_))))))))))
 refine kl_nil (kq_code (kc_cond rfl (fun c3 => ?_) (fun c3 => ?_)))
 ·skip
  have c3r := c3
  try simp only [smpC, decide_eq_true_eq, decide_eq_false_iff_not] at c3
  refine kc_seq (kc_region (kl_as rfl (kl_nil (kq_code (kc_ret ?_)))))
  exact kq_ret rfl rfl noHp (fr_no _) (by rw [nn (by assumption)]; exact OwnL.nil)
 ·skip
  have c3r := c3
  try simp only [smpC, decide_eq_true_eq, decide_eq_false_iff_not] at c3
  refine kc_skipQ (kq_code (kc_seq (kc_region (kl_bs0k (K := noHp) LitV rfl (fun v4 H5 f6 o7 => ?_)))))
  refine kl_mv rfl (kl_apS rfl rfl o7 (by assumption) (fun _ _ h => h) (by simp; omega) (by decide) (fun v8 H9 o10 f11 => ?_))
  have f12 := f11 B f6 (Nat.le_refl _)
  refine kl_as rfl (kl_nil (kq_code (kc_ret ?_)))
  exact kq_ret rfl rfl H9 f12 o10
theorem clipL_ok {Hxs : Hp} {vxs : Value} (xs : List Lit) (hxs : Lits Hxs vxs xs) : Spec Tryz.prog 135 [vxs] [Hxs] (fun _ vq => Lits Hxs vq xs ∧ ClipV vxs vq xs.length) := by
 refine spec_of Tryz.func135 rfl rfl rfl (fun B => ?_)
 refine kc_seq (kc_region (kl_as rfl (kl_nil (kq_code (kc_seq (kc_region (kl_mv rfl (kl_mv rfl (kl_len rfl (by assumption) (fun l1 => ?_))))))))))
 refine kl_mv rfl (kl_len rfl (by assumption) (fun l2 => ?_))
 refine kl_clipV rfl rfl rfl (by assumption) (by omega) (fun u3 h4 h4v => ?_)
 refine kl_as rfl (kl_nil (kq_code (kc_ret ?_)))
 exact kq_ret rfl rfl noHp (fr_no _) ⟨by assumption, by assumption⟩
theorem sortedL_ok {Hc : Hp} {vc : Value} (c : List Lit) (hnd : c.Nodup) (hn : c.length ≤ 12) (hc : Lits Hc vc c) : Spec Tryz.prog 104 [vc] [Hc] ((fun Hq vq => ∃ ys : List Lit, Lits Hq vq ys ∧ ys.Perm c ∧ SrtL litCmp nilLit ys)) := by
 refine spec_of Tryz.func104 rfl rfl rfl (fun B => ?_)
 refine kc_seq (kc_region (kl_as rfl (kl_nil (kq_code (kc_seq (kc_region (kl_mv rfl (kl_callL rfl rfl (cloneL_ok c (by omega) (by assumption)) (fun v1 H2 f3 o4 => ?_)))))))))
 refine kl_as rfl (kl_nil (kq_code (kc_seq (kc_region (kl_mv rfl (kl_callT rfl rfl (srtL_ok c  (by omega) o4) (fun v5 L1 Ln K6 h7 g8 g9 => ?_)))))))
 obtain ⟨H10, y11, rfl, rfl, o12, h13⟩ := h7
 refine kl_norm ?_
 have hcp := srt_cpt hnd h13
 refine kl_nil (kq_code (kc_seq (kc_region (kl_mv rfl (kl_call rfl rfl (compactL_ok y11 hcp.1 (OwnL.lits o12)) (fun v14 H15 f16 h17 => ?_))))))
 subst h17
 refine kl_call rfl rfl (clipL_ok y11 (OwnL.lits o12)) (fun v18 H19 f20 h21 => ?_)
 obtain ⟨h21, h22⟩ := h21
 refine kl_as rfl (kl_nil (kq_code (kc_ret (kq_own H10 (OwnL.liq (OwnL.clip o12 h22)) (fun f23 => ?_)))))
 exact kq_ret rfl rfl H10 f23 ⟨_, OwnL.lits (OwnL.clip o12 h22), hcp.2.2.1, hcp.2.2.2⟩
theorem negatedL_ok (l : Lit) : Spec Tryz.prog 103 [.agg #[.int .i64 l.var, .int .i64 l.val, .bool l.neg]] [] ((fun Hq vq => vq = .agg #[.int .i64 l.var, .int .i64 l.val, .bool (!l.neg)])) := by
 refine spec_of Tryz.func103 rfl rfl rfl (fun B => ?_)
 refine kc_seq (kc_region (kl_boxL (cs := [.int .i64 l.var, .int .i64 l.val, .bool l.neg]) rfl rfl (fun b1 hb2 => ?_)))
 refine kl_alloc (cs := [.int .i64 (0 : Int), .int .i64 (0 : Int), .bool false]) rfl (fun b3 hb4 => ?_)
 refine kl_nil (kq_code (kc_seq (kc_region (kl_fdV rfl (kl_ldB rfl rfl (kl_not rfl (kl_fdV rfl (kl_stB rfl rfl rfl rfl rfl ?_))))))))
 refine kl_chg [sing b3 (.cells [.int .i64 (0 : Int), .int .i64 (0 : Int), .bool false].toArray 74 (0, 0)), sing b1 (.cells [.int .i64 l.var, .int .i64 l.val, .bool (!l.neg)].toArray 74 (0, 0))] rfl ?_
 refine kl_nil (kq_code (kc_seq (kc_region (kl_ldW rfl rfl (kl_stW (us := [.int .i64 l.var, .int .i64 l.val, .bool (!l.neg)]) rfl rfl rfl rfl (oc rfl (oc rfl (oc rfl oc_nil))) rfl ?_)))))
 refine kl_chg [sing b3 (.cells [.int .i64 l.var, .int .i64 l.val, .bool (!l.neg)].toArray 74 (0, 0)), sing b1 (.cells [.int .i64 l.var, .int .i64 l.val, .bool (!l.neg)].toArray 74 (0, 0))] rfl ?_
 refine kl_nil (kq_code (kc_ret ?_))
 exact kq_retC rfl rfl rfl noHp (fr_no _) rfl
theorem negsL_ok {Hc : Hp} {vc : Value} (c : List Lit) (hnd : c.Nodup) (hn : c.length ≤ 12) (hc : Lits Hc vc c) : Spec Tryz.prog 56 [vc] [Hc] ((fun Hq vq => ∃ ys : List Lit, Lits Hq vq ys ∧ NegR c ys)) := by
 refine spec_of Tryz.func56 rfl rfl rfl (fun B => ?_)
 refine kc_seq (kc_region (kl_as rfl (kl_nil (kq_code (kc_seq (kc_region (kl_mv rfl (kl_len rfl (by assumption) (fun l1 => ?_)))))))))
 refine kl_mkL0 (R := LitV) rfl rfl (by omega) (by omega) (by decide) (fun v2 H3 f4 o5 => ?_)
 refine kl_as rfl (kl_nil (kq_code (kc_seq (kc_seq (kc_region (kl_mv rfl (kl_len rfl (by assumption) (fun l6 => ?_))))))))
 refine kl_mv rfl (kl_nil (kq_code (kc_block (kc_loopL (A := Nat × List Lit × Value × Hp) (fun zz => (zz.1 ≤ c.length) ∧ (zz.2.1 = negTo c zz.1) ∧ OwnL 74 3 zz.2.2.2 noHp LitV zz.2.2.1 zz.2.1 ∧ Fr B zz.2.2.2) (fun zz => c.length - zz.1) (fun zz => [zz.2.2.2]) (fun zz => [(11, .int .i64 (zz.1 : Int)), (3, zz.2.2.1)]) (0, ([]), v2, H3) (pc 2 rfl (pc 9 rfl (pc 10 rfl pn))) (pc 11 rfl (pc 3 rfl pn)) rfl ⟨Nat.zero_le _, rfl, o5, f4⟩ ?_))))
 rintro ⟨k, out, v12, H9⟩ hJ13
 obtain ⟨hk7, hi8, o10, f11⟩ : (k ≤ c.length) ∧ (out = negTo c k) ∧ OwnL 74 3 H9 noHp LitV v12 out ∧ Fr B H9 := hJ13
 change KC _ _ (_) [H9] _ ([(11, .int .i64 (k : Int)), (3, v12)] ++ _)
 refine kc_seq (kc_region (kl_lss rfl rfl ?_))
 refine kl_nil (kq_code (kc_seq (kc_if rfl (fun c14 => ?_) (fun c14 => ?_))))
 ·skip
  refine kc_skipQ (kq_code (kc_seq (kc_block (kc_seq (kc_region (kl_inQ rfl rfl (by assumption) (by omega) (fun p15 a16 => ?_)))))))
  refine kl_ldS rfl (by assumption) rfl ?_
  refine kl_alloc (cs := [.int .i64 (0 : Int), .int .i64 (0 : Int), .bool false]) rfl (fun b17 hb18 => ?_)
  refine kl_stW (us := [.int .i64 ((c.getD k nilLit).var), .int .i64 ((c.getD k nilLit).val), .bool ((c.getD k nilLit).neg)]) rfl rfl rfl rfl (oc rfl (oc rfl (oc rfl oc_nil))) rfl ?_
  refine kl_chg [sing b17 (.cells [.int .i64 ((c.getD k nilLit).var), .int .i64 ((c.getD k nilLit).val), .bool ((c.getD k nilLit).neg)].toArray 74 (0, 0)), H9] rfl ?_
  refine kl_nil (kq_code (kc_region (kl_mv rfl (kl_ldW rfl rfl (kl_call rfl rfl (negatedL_ok (c.getD k nilLit)) (fun v19 H20 f21 h22 => ?_))))))
  subst h22
  refine kl_bsQ rfl (fun v23 H24 f25 r26 h27 => ?_)
  refine kl_apL (⟨(c.getD k nilLit).var, (c.getD k nilLit).val, !(c.getD k nilLit).neg⟩ : Lit) rfl rfl o10 r26 rfl (oc rfl (oc rfl (oc rfl oc_nil))) (by (have h9 := congrArg List.length hi8; simp [negTo] at h9; omega)) (by decide) (fun v28 H29 o30 f31 => ?_)
  have f32 := f31 B f11 (Nat.le_refl _)
  refine kl_as rfl (kl_nil (kq_code (kc_region (kl_inc rfl rfl (by omega) ?_))))
  refine kl_mv rfl (kl_nil (kq_take [H29] ?_))
  refine kq_roundL ((k + 1), (out ++ [(⟨(c.getD k nilLit).var, (c.getD k nilLit).val, !(c.getD k nilLit).neg⟩ : Lit)]), v28, H29) (by omega) (⟨by omega, (negTo_step hi8 (by omega)), o30, f32⟩) (pc 11 rfl (pc 3 rfl pn)) (pc 2 rfl (pc 9 rfl (pc 10 rfl pn))) rfl (List.Sublist.refl _)
 ·skip
  have hnp := neg_pre hnd hi8 (by omega) hn
  refine kc_exit (kq_code (kc_seq (kc_region (kl_mv rfl (kl_call rfl rfl (sortedL_ok out hnp.1 hnp.2.1 (OwnL.lits o10)) (fun v33 H34 f35 h36 => ?_))))))
  obtain ⟨y37, h38, h39, h40⟩ := h36
  have hsrt := And.intro h39 h40
  refine kl_as rfl (kl_nil (kq_code (kc_ret ?_)))
  exact kq_ret rfl rfl H34 f35 ⟨_, (by assumption), ⟨by rw [← hnp.2.2]; exact hsrt.1, hsrt.2⟩⟩
end Go.Proofs.YtiilanckbocifaaGreat
