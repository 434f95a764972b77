/- Walks of functions of the program: each returns what the plain function gives. Conditions: those that each statement names. -/
import Derived.Test.YtiilanckbocifaaGreatWsrt
import Derived.Test.YtiilanckbocifaaGreatWcw
import Derived.Test.YtiilanckbocifaaGreatWrcl
import Derived.Test.YtiilanckbocifaaGreatWrm
import Derived.Test.YtiilanckbocifaaGreatWsa
import Derived.Test.YtiilanckbocifaaGreatWfix
import Derived.Test.YtiilanckbocifaaGreatTys
import Derived.Test.YtiilanckbocifaaGreatPure
namespace Go.Proofs.YtiilanckbocifaaGreat
open Go
set_option linter.unusedSimpArgs false
set_option linter.unusedVariables false
theorem negAll_ok {Hc : Hp} {vc : Value} (n : Int) (c : List Lit) (hn : -9223372036854775807 ≤ n ∧ n ≤ 9223372036854775807) (hc : Lits Hc vc c) : Spec Tryz.prog 15 [.int .i64 n, vc] [Hc] (fun Hq vq => ∃ (rq : List Lit) (bq : Bool) (uq0 : Value), vq = .tuple #[uq0, .bool bq] ∧ Lits Hq uq0 rq ∧ (clI n c = true → bq = true ∧ NegR c rq)) := by
 refine spec_of Tryz.func15 rfl rfl rfl (fun B => ?_)
 refine kc_seq (kc_region (kl_as rfl (kl_as rfl (kl_nil (kq_code (kc_seq (kc_seq (kc_region (kl_mv rfl (kl_mv rfl (kl_callP rfl rfl (validClI_ok c n (by first | assumption | omega) (by assumption)) ?_)))))))))))
 refine kl_not rfl (kl_nil (kq_code (kc_cond rfl (fun c1 => ?_) (fun c1 => ?_))))
 ·skip
  have c1r := c1
  try simp only [smpC, decide_eq_true_eq, decide_eq_false_iff_not] at c1
  refine kc_seq (kc_region (kl_as rfl (kl_as rfl (kl_nil (kq_code (kc_ret ?_))))))
  exact kq_ret2 rfl rfl rfl noHp (fr_no _) ⟨([]), false, _, rfl, Sl.nil, by first | exact fun _ => ⟨rfl, hng⟩ | exact fun h9 => absurd h9 (by simp_all)⟩
 ·skip
  have c1r := c1
  try simp only [smpC, decide_eq_true_eq, decide_eq_false_iff_not] at c1
  have hcl := cl_nodup (show clI n c = true by simpa using c1r)
  refine kc_skipQ (kq_code (kc_seq (kc_region (kl_mv rfl (kl_call rfl rfl (negsL_ok c hcl.1 hcl.2.1 (by assumption)) (fun v2 H3 f4 h5 => ?_))))))
  obtain ⟨y6, h7, h8⟩ := h5
  have hng := h8
  refine kl_as rfl (kl_as rfl (kl_nil (kq_code (kc_ret ?_))))
  exact kq_ret2 rfl rfl rfl H3 f4 ⟨y6, true, _, rfl, (by assumption), by first | exact fun _ => ⟨rfl, hng⟩ | exact fun h9 => absurd h9 (by simp_all)⟩
theorem chold1_ok {Hx : Hp} {vx : Value} {Hpx : Hp} {ptrpx : Value} (l : Lit) (x : List Int) (h0 : 0 ≤ l.val) (h1 : 0 ≤ l.var ∧ l.var < (x.length : Int)) (h2 : 0 ≤ x.getD l.var.toNat 0) (hx : Ints Hx vx x) (apx : At Hpx ptrpx [vx]) : SpecP Tryz.prog 60 [.agg #[.int .i64 l.var, .int .i64 l.val, .bool l.neg], ptrpx] [Hx, Hpx] (.bool (hasB (truesI l) (x.getD l.var.toNat 0))) := by
 refine spec_of Tryz.func60 rfl rfl rfl (fun B => ?_)
 refine kc_seq (kc_region (kl_box rfl rfl (fun p1 H2 f3 a4 => ?_)))
 refine kl_as rfl (kl_nil (kq_code (kc_seq (kc_tree (fun i => ([7] : List Nat).contains i) [] (by kernel_rfl) ?_))))
 refine kt_q 0 (List.nil_sublist _) rfl (by kernel_rfl) (kl_ldS rfl (by assumption) rfl ?_)
 refine kl_nil (kq_q (kt_q 2 (List.nil_sublist _) rfl (by kernel_rfl) (kl_ld rfl (by assumption) (kl_nil (kq_q (kt_q 3 (List.nil_sublist _) rfl (by kernel_rfl) (kl_fd rfl (by assumption) (fun p5 a6 => ?_))))))))
 refine kl_nil (kq_q (kt_q 4 (List.nil_sublist _) rfl (by kernel_rfl) (kl_ld rfl (by assumption) (kl_nil (kq_q (kt_q 5 (List.nil_sublist _) rfl (by kernel_rfl) (kl_ixI rfl rfl (by assumption) (by omega) (by omega) (fun p7 a8 => ?_))))))))
 refine kl_nil (kq_q (kt_q 6 (List.nil_sublist _) rfl (by kernel_rfl) (kl_ld rfl (by assumption) (kl_nil (kq_q (kt_a 1 rfl (by kernel_rfl) (kl_callP rfl rfl (truesL_ok l h0) ?_)))))))
 refine kl_nil (kq_a (List.nil_sublist _) (kt_a 7 rfl (by kernel_rfl) (kl_callP rfl rfl (has_ok (truesI l) (x.getD l.var.toNat 0) h2) ?_)))
 refine kl_nil (kq_x rfl (kt_q 8 (List.nil_sublist _) rfl (by kernel_rfl) (kl_as rfl (kl_nil (kq_q (kt_end (by kernel_rfl) ?_))))))
 refine kq_code (kc_ret (kq_retP rfl rfl (congrArg Value.bool ?_)))
 rfl
theorem chI_ok {Hc : Hp} {vc : Value} {Hx : Hp} {vx : Value} (c : List Lit) (x : List Int) (hc : Lits Hc vc c) (hx : Ints Hx vx x) : SpecP Tryz.prog 17 [vc, vx] [Hc, Hx] (.bool (chB c x)) := by
 refine spec_of Tryz.func17 rfl rfl rfl (fun B => ?_)
 refine kc_seq (kc_region (kl_box rfl (Sl.cells (by assumption)) (fun p1 H2 f3 a4 => ?_)))
 refine kl_as rfl (kl_nil (kq_code (kc_seq (kc_seq (kc_region (kl_ld rfl (by assumption) (kl_len rfl (by assumption) (fun l5 => ?_))))))))
 refine kl_callP rfl rfl (within_ok (x.length : Int) (1 : Int) (4 : Int)) ?_
 refine kl_not rfl (kl_mv rfl (kl_join 4 13 (.bool (!(withinB (x.length : Int) (1 : Int) (4 : Int)) || !(allInB x (0 : Int) (5 : Int)))) (pc 0 rfl (pc 3 rfl (pc 4 rfl (pc 9 rfl pn)))) (fun J7 => ?_) ?_))
 ·rcases Bool.eq_false_or_eq_true (!(withinB (x.length : Int) (1 : Int) (4 : Int))) with g6 | g6
  ·skip
   refine kl_gF rfl rfl g6 (kl_gF rfl rfl g6 (kl_gF rfl rfl g6 (kl_orT (!(allInB x (0 : Int) (5 : Int))) rfl rfl g6 ?_)))
   exact J7 _ (pc 13 rfl (pc 0 rfl (pc 3 rfl (pc 4 rfl (pc 9 rfl pn)))))
  ·skip
   have g6p := g6
   try simp only [Bool.not_eq_true', Bool.not_eq_false', decide_eq_true_eq, decide_eq_false_iff_not, Bool.and_eq_true, Bool.or_eq_false_iff, withinB_iff] at g6p
   refine kl_gT rfl rfl g6 (kl_ld rfl (by assumption) (kl_gT rfl rfl g6 (kl_callP rfl rfl (allIn_ok x (0 : Int) (5 : Int) (by assumption)) ?_)))
   refine kl_gT rfl rfl g6 (kl_not rfl (kl_orF rfl rfl g6 ?_))
   exact J7 _ (pc 13 rfl (pc 0 rfl (pc 3 rfl (pc 4 rfl (pc 9 rfl pn)))))
 refine kl_mv rfl (kl_join 6 20 (.bool ((!(withinB (x.length : Int) (1 : Int) (4 : Int)) || !(allInB x (0 : Int) (5 : Int))) || !(clI (x.length : Int) c))) (pc 0 rfl (pc 3 rfl (pc 4 rfl (pc 14 rfl pn)))) (fun J10 => ?_) ?_)
 ·rcases Bool.eq_false_or_eq_true (!(withinB (x.length : Int) (1 : Int) (4 : Int)) || !(allInB x (0 : Int) (5 : Int))) with g8 | g8
  ·skip
   refine kl_gF rfl rfl g8 (kl_gF rfl rfl g8 (kl_gF rfl rfl g8 (kl_gF rfl rfl g8 (kl_gF rfl rfl g8 (kl_orT (!(clI (x.length : Int) c)) rfl rfl g8 ?_)))))
   exact J10 _ (pc 20 rfl (pc 0 rfl (pc 3 rfl (pc 4 rfl (pc 14 rfl pn)))))
  ·skip
   have g8p := g8
   try simp only [Bool.not_eq_true', Bool.not_eq_false', decide_eq_true_eq, decide_eq_false_iff_not, Bool.and_eq_true, Bool.or_eq_false_iff, withinB_iff] at g8p
   refine kl_gT rfl rfl g8 (kl_mv rfl (kl_gT rfl rfl g8 (kl_ld rfl (by assumption) (kl_gT rfl rfl g8 (kl_len rfl (by assumption) (fun l9 => ?_))))))
   refine kl_gT rfl rfl g8 (kl_callP rfl rfl (validClI_ok c (x.length : Int) (by first | assumption | omega) (by assumption)) ?_)
   refine kl_gT rfl rfl g8 (kl_not rfl (kl_orF rfl rfl g8 ?_))
   exact J10 _ (pc 20 rfl (pc 0 rfl (pc 3 rfl (pc 4 rfl (pc 14 rfl pn)))))
 refine kl_nil (kq_code (kc_cond rfl (fun c11 => ?_) (fun c11 => ?_)))
 ·skip
  have c11r := c11
  try simp only [smpC, decide_eq_true_eq, decide_eq_false_iff_not] at c11
  refine kc_seq (kc_region (kl_as rfl (kl_nil (kq_code (kc_ret (kq_retP rfl rfl (congrArg Value.bool ?_)))))))
  exact ch_no (by assumption)
 ·skip
  have c11r := c11
  try simp only [smpC, decide_eq_true_eq, decide_eq_false_iff_not] at c11
  have hcg := ch_go c11r
  refine kc_skipQ (kq_code (kc_seq (kc_region (kl_mv rfl (kl_mkf rfl ?_)))))
  refine kl_callP rfl rfl (cf_lit_ok c (fun x11 => hasB (truesI x11) (x.getD x11.var.toNat 0)) (by assumption) (fun x11 hmx11 => chold1_ok x11 x (hcg.1 _ hmx11).2.1 (hcg.1 _ hmx11).1 (hcg.2.1.at (by have := (hcg.1 _ hmx11).1; omega)).1 (by assumption) (by assumption))) ?_
  refine kl_as rfl (kl_nil (kq_code (kc_ret (kq_retP rfl rfl (congrArg Value.bool ?_)))))
  exact ch_yes hcg.2.2
theorem isNog1_ok {Hx : Hp} {vx : Value} {Hls : Hp} {vls : Value} {Hpl : Hp} {ptrpl : Value} (x : List Int) (ls : List Lit) (hl : ∀ l ∈ ls, (0 ≤ l.var ∧ l.var < (x.length : Int)) ∧ (0 ≤ l.val ∧ l.val ≤ 5)) (hX : Vals x) (hx : Ints Hx vx x) (hls : Lits Hls vls ls) (apl : At Hpl ptrpl [vls]) : SpecP Tryz.prog 44 [vx, ptrpl] [Hx, Hls, Hpl] (.bool (allT ls x)) := by
 refine spec_of Tryz.func44 rfl rfl rfl (fun B => ?_)
 refine kc_seq (kc_region (kl_as rfl (kl_nil (kq_code (kc_seq (kc_region (kl_ld rfl (by assumption) (kl_mv rfl (kl_callP rfl rfl (allTrueI_ok ls x (by first | assumption | omega) (by first | assumption | omega) (by assumption) (by assumption)) ?_)))))))))
 refine kl_as rfl (kl_nil (kq_code (kc_ret (kq_retP rfl rfl (congrArg Value.bool ?_)))))
 rfl
theorem isNogI_ok {Hmd : Hp} {vmd : Value} {Hmc : Hp} {vmc : Value} {Hc : Hp} {vc : Value} (m : Mod) (c : List Lit) (hmd : Ints Hmd vmd m.doms) (hmc : Cons Hmc vmc m.cons) (hc : Lits Hc vc c) : SpecP Tryz.prog 11 [.agg #[vmd, vmc], vc] [Hmd, Hmc, Hc] (.bool (nogB m c)) := by
 refine spec_of Tryz.func11 rfl rfl rfl (fun B => ?_)
 refine kc_seq (kc_region (kl_box rfl rfl (fun p1 H2 f3 a4 => ?_)))
 refine kl_box rfl (Sl.cells (by assumption)) (fun p5 H6 f7 a8 => ?_)
 refine kl_as rfl (kl_nil (kq_code (kc_seq (kc_region (kl_ldS rfl (by assumption) rfl ?_)))))
 refine kl_ld rfl (by assumption) (kl_callP rfl rfl (litsOk_ok m c (by assumption) (by assumption) (by assumption)) ?_)
 refine kl_mv rfl (kl_join 6 14 (.bool ((litsB m c) && !((sols m).any (fun x13 => allT c x13)))) (pc 4 rfl (pc 8 rfl pn)) (fun J15 => ?_) ?_)
 ·rcases Bool.eq_false_or_eq_true (litsB m c) with g9 | g9
  ·skip
   have g9p := g9
   try simp only [Bool.not_eq_true', Bool.not_eq_false', decide_eq_true_eq, decide_eq_false_iff_not, Bool.and_eq_true, Bool.or_eq_false_iff, withinB_iff] at g9p
   have hg := lits_ok (m := m) (c := c) (by simpa using g9)
   refine kl_gT rfl rfl g9 (kl_ldS rfl (by assumption) rfl ?_)
   refine kl_gT rfl rfl g9 (kl_call rfl rfl (solutions_ok m hg.hM (by assumption) (by assumption)) (fun v10 H11 f12 h13 => ?_))
   refine kl_gT rfl rfl g9 (kl_mkf rfl ?_)
   refine kl_gT rfl rfl g9 (kl_callP rfl rfl (cf_row_ok (sols m) (fun x13 => allT c x13) (by assumption) (fun _ ux13 x13 hmx13 hux13 => isNog1_ok x13 c (by rw [sols_len hmx13]; exact hg.h) (sols_vals hmx13) hux13 (by assumption) (by assumption))) ?_)
   refine kl_gT rfl rfl g9 (kl_not rfl (kl_andT rfl rfl g9 ?_))
   exact kl_fg (List.Sublist.refl _) (J15 _ (pc 14 rfl (pc 4 rfl (pc 8 rfl pn))))
  ·skip
   refine kl_gF rfl rfl g9 (kl_gF rfl rfl g9 (kl_gF rfl rfl g9 (kl_gF rfl rfl g9 (kl_gF rfl rfl g9 (kl_andF (!((sols m).any (fun x13 => allT c x13))) rfl rfl g9 ?_)))))
   exact J15 _ (pc 14 rfl (pc 4 rfl (pc 8 rfl pn)))
 refine kl_as rfl (kl_nil (kq_code (kc_ret (kq_retP rfl rfl (congrArg Value.bool ?_)))))
 exact nog_I
theorem isNogS_ok {Hmd : Hp} {vmd : Value} {Hmc : Hp} {vmc : Value} {Hc : Hp} {vc : Value} (m : Mod) (c : List Lit) (hmd : Ints Hmd vmd m.doms) (hmc : Cons Hmc vmc m.cons) (hc : Lits Hc vc c) : SpecP Tryz.prog 12 [.agg #[vmd, vmc], vc] [Hmd, Hmc, Hc] (.bool (nogB m c)) := by
 refine spec_of Tryz.func12 rfl rfl rfl (fun B => ?_)
 refine kc_seq (kc_region (kl_box rfl rfl (fun p1 H2 f3 a4 => ?_)))
 refine kl_as rfl (kl_nil (kq_code (kc_seq (kc_seq (kc_region (kl_ldS rfl (by assumption) rfl ?_))))))
 refine kl_mv rfl (kl_callP rfl rfl (validConj_ok m c (by assumption) (by assumption) (by assumption)) ?_)
 refine kl_not rfl (kl_nil (kq_code (kc_cond rfl (fun c5 => ?_) (fun c5 => ?_))))
 ·skip
  have c5r := c5
  try simp only [smpC, decide_eq_true_eq, decide_eq_false_iff_not] at c5
  refine kc_seq (kc_region (kl_as rfl (kl_nil (kq_code (kc_ret (kq_retP rfl rfl (congrArg Value.bool ?_)))))))
  exact nog_no (by assumption)
 ·skip
  have c5r := c5
  try simp only [smpC, decide_eq_true_eq, decide_eq_false_iff_not] at c5
  have hcc := c5r
  have hg := lits_okN hcc
  have hM := hg.hM
  have hfw := sols_few hM
  refine kc_skipQ (kq_code (kc_seq (kc_region (kl_ldS rfl (by assumption) rfl ?_))))
  refine kl_call rfl rfl (solve_ok m hM (by assumption) (by assumption)) (fun v6 H7 f8 h9 => ?_)
  obtain ⟨z12, z15, u13, rfl, h14, h11⟩ := h9
  subst h11
  refine kl_mv rfl (kl_xt rfl rfl (kl_xt rfl rfl (kl_as rfl (kl_as rfl (kl_nil (kq_code (kc_seq (kc_seq (kc_region (kl_as rfl ?_))))))))))
  refine kl_nil (kq_code (kc_block (kc_loop0 (A := Nat) (fun zz => (zz ≤ (sols m).length) ∧ (((sols m).take zz).any (fun x => allT c x) = false)) (fun zz => (sols m).length - zz) (fun zz => [(7, .int .i64 (zz : Int))]) (0) (pc 1 rfl (pc 5 rfl pn)) (pc 7 rfl pn) ⟨Nat.zero_le _, by simp⟩ ?_)))
  rintro k hJ18
  obtain ⟨hk16, hi17⟩ : (k ≤ (sols m).length) ∧ (((sols m).take k).any (fun x => allT c x) = false) := hJ18
  change KC _ _ (_) _ _ ([(7, .int .i64 (k : Int))] ++ _)
  refine kc_seq (kc_seq (kc_region (kl_mv rfl (kl_mv rfl (kl_len rfl (by assumption) (fun l19 => ?_))))))
  refine kl_lss rfl rfl ?_
  refine kl_nil (kq_code (kc_if rfl (fun c20 => ?_) (fun c20 => ?_)))
  ·skip
   refine kc_skipQ (kq_code (kc_seq (kc_block (kc_seq (kc_region (kl_mv rfl (kl_mv rfl (kl_mv rfl (kl_inS rfl rfl (by assumption) (by omega) (fun p21 u23 h24 a22 => ?_))))))))))
   refine kl_ld rfl (by assumption) (kl_callP rfl rfl (allTrueS_ok c ((sols m).getD k []) (by rw [sols_len (getD_mem (d := []) (by omega : k < (sols m).length))]; exact hg.h) (sols_vals (getD_mem (d := []) (by omega : k < (sols m).length))) (by assumption) (by assumption)) ?_)
   refine kl_nil (kq_code (kc_cond rfl (fun c25 => ?_) (fun c25 => ?_)))
   ·skip
    have c25r := c25
    try simp only [smpC, decide_eq_true_eq, decide_eq_false_iff_not] at c25
    refine kc_seq (kc_region (kl_as rfl (kl_nil (kq_code (kc_ret (kq_retP rfl rfl (congrArg Value.bool ?_)))))))
    exact nog_hit (k := k) (by omega) (by assumption)
   ·skip
    have c25r := c25
    try simp only [smpC, decide_eq_true_eq, decide_eq_false_iff_not] at c25
    refine kc_skipQ (kq_code (kc_region (kl_mv rfl (kl_inc rfl rfl (by omega) ?_))))
    refine kl_as rfl (kl_nil (kq_round0 ((k + 1)) (by omega) (⟨by omega, any_take_step (d := []) (by omega) hi17 (by simpa using by assumption)⟩) (pc 7 rfl pn) (pc 1 rfl (pc 5 rfl pn)) (List.Sublist.refl _)))
  ·skip
   refine kc_exit (kq_code (kc_seq (kc_region (kl_as rfl (kl_nil (kq_code (kc_ret (kq_retP rfl rfl (congrArg Value.bool ?_)))))))))
   exact nog_end hcc (by omega) hi17
theorem decisionsR_ok {br : Nat} {vbr : Value} {Hr : Hp} {bsr : List Int} (pr : Nat) (n : Int) (hn : 1 ≤ n ∧ n ≤ 4) (hp : pr + (20) ≤ 1000000) (hr : Bytes Hr vbr bsr) : SpecT Tryz.prog 123 [.pointer (some ⟨br, 0, none⟩), .int .i64 n] [sing br (.cells [vbr, .int .i64 (pr : Int)].toArray 85 (0, 0))] [Hr] (fun vq L1 Ln Kq => ∃ q : Nat, q ≤ pr + (20) ∧ L1 = [sing br (.cells [vbr, .int .i64 (q : Int)].toArray 85 (0, 0))] ∧ ∃ (Hq : Hp) (xq : List Lit), Ln = [Hq] ∧ OwnL 74 3 Hq noHp LitV vq xq ∧ xq.length ≤ 5) := by
 refine specT_of Tryz.func123 rfl rfl rfl (fun B => ?_)
 refine kc_seq (kc_region (kl_as rfl (kl_nil (kq_code (kc_seq (kc_region (kl_bs0k (K := noHp) LitV rfl (fun v1 H2 f3 o4 => ?_))))))))
 refine kl_as rfl (kl_nil (kq_code (kc_seq (kc_seq (kc_region (kl_as rfl (kl_nil (kq_code (kc_block (kc_loopL (A := Nat × List Lit × Value × Hp × Nat) (fun zz => (zz.1 ≤ n.toNat) ∧ (zz.2.1.length ≤ zz.1) ∧ OwnL 74 3 zz.2.2.2.1 noHp LitV zz.2.2.1 zz.2.1 ∧ Fr B zz.2.2.2.1 ∧ zz.2.2.2.2 ≤ pr + 3 * zz.1) (fun zz => n.toNat - zz.1) (fun zz => [zz.2.2.2.1, sing br (.cells [vbr, .int .i64 (zz.2.2.2.2 : Int)].toArray 85 (0, 0))]) (fun zz => [(6, .int .i64 (zz.1 : Int)), (5, zz.2.2.1)]) (0, ([]), v1, H2, pr) (pc 0 rfl (pc 1 rfl (pc 4 rfl pn))) (pc 6 rfl (pc 5 rfl pn)) rfl ⟨Nat.zero_le _, (by simp), o4, f3, (by first | omega | (dsimp only; omega))⟩ ?_))))))))))
 rintro ⟨i, out, v10, H7, q11⟩ hJ13
 obtain ⟨hk5, hi6, o8, f9, hq12⟩ : (i ≤ n.toNat) ∧ (out.length ≤ i) ∧ OwnL 74 3 H7 noHp LitV v10 out ∧ Fr B H7 ∧ q11 ≤ pr + 3 * i := hJ13
 change KC _ _ (_) [H7, sing br (.cells [vbr, .int .i64 (q11 : Int)].toArray 85 (0, 0))] _ ([(6, .int .i64 (i : Int)), (5, v10)] ++ _)
 refine kc_seq (kc_seq (kc_region (kl_mv rfl (kl_mv rfl (kl_lss rfl rfl ?_)))))
 refine kl_nil (kq_code (kc_if rfl (fun c14 => ?_) (fun c14 => ?_)))
 ·skip
  refine kc_skipQ (kq_code (kc_seq (kc_block (kc_seq (kc_region (kl_mv rfl (kl_callT rfl rfl (pick_ok q11 (3 : Int) (by omega) hr) (fun v15 L1 Ln K19 h16 f17 f18 => ?_))))))))
  obtain ⟨q20, h21, rfl, rfl, z22, rfl, h23⟩ := h16
  refine kl_norm ?_
  refine kl_gtr rfl rfl ?_
  refine kl_nil (kq_code (kc_if rfl (fun c26 => ?_) (fun c26 => ?_)))
  ·skip
   refine kc_region (kl_mv rfl (kl_mv rfl (kl_mv rfl (kl_callT rfl rfl (pick_ok q20 (6 : Int) (by omega) hr) (fun v27 L1 Ln K31 h28 f29 f30 => ?_)))))
   obtain ⟨q32, h33, rfl, rfl, z34, rfl, h35⟩ := h28
   refine kl_norm ?_
   refine kl_mv rfl (kl_callT rfl rfl (pick_ok q32 (6 : Int) (by omega) hr) (fun v38 L1 Ln K42 h39 f40 f41 => ?_))
   obtain ⟨q43, h44, rfl, rfl, z45, rfl, h46⟩ := h39
   refine kl_norm ?_
   refine kl_eql rfl rfl ?_
   refine kl_bd rfl (cp rfl (cp rfl (cp rfl cp_nil))) rfl ?_
   refine kl_bsQ rfl (fun v49 H50 f51 r52 h53 => ?_)
   refine kl_apL (⟨(i : Int), z34, decide (z45 = (0 : Int))⟩ : Lit) rfl rfl o8 r52 rfl (oc rfl (oc rfl (oc rfl oc_nil))) (by first | omega | (simp; omega)) (by decide) (fun v54 H55 o56 f57 => ?_)
   have f58 := f57 B f9 (Nat.le_refl _)
   refine kl_as rfl (kl_nil (kq_code (kc_region (kl_mv rfl (kl_inc rfl rfl (by omega) ?_)))))
   refine kl_as rfl (kl_nil (kq_take [H55, sing br (.cells [vbr, .int .i64 (q43 : Int)].toArray 85 (0, 0))] ?_))
   refine kq_roundL ((i + 1), (out ++ [(⟨(i : Int), z34, decide (z45 = (0 : Int))⟩ : Lit)]), v54, H55, q43) (by omega) (⟨by omega, (by first | omega | (simp; omega)), o56, f58, (by first | omega | (dsimp only; omega))⟩) (pc 6 rfl (pc 5 rfl pn)) (pc 0 rfl (pc 1 rfl (pc 4 rfl pn))) rfl (List.Sublist.refl _)
  ·skip
   refine kc_skipQ (kq_code (kc_region (kl_mv rfl (kl_inc rfl rfl (by omega) ?_))))
   refine kl_as rfl (kl_nil (kq_take [H7, sing br (.cells [vbr, .int .i64 (q20 : Int)].toArray 85 (0, 0))] ?_))
   refine kq_roundL ((i + 1), out, v10, H7, q20) (by omega) (⟨by omega, (by first | omega | (simp; omega)), o8, f9, (by first | omega | (dsimp only; omega))⟩) (pc 6 rfl (pc 5 rfl pn)) (pc 0 rfl (pc 1 rfl (pc 4 rfl pn))) rfl (List.Sublist.refl _)
 ·skip
  refine kc_exit (kq_code (kc_seq (kc_region (kl_mv rfl (kl_as rfl (kl_nil (kq_code (kc_ret ?_))))))))
  exact kq_retT rfl rfl [sing br (.cells [vbr, .int .i64 (q11 : Int)].toArray 85 (0, 0))] [H7] noHp (fr1 f9) (fr_no _) ⟨q11, by omega, rfl, H7, out, rfl, o8, by first | omega | (simp; omega)⟩
theorem anyConj_ok {br : Nat} {vbr : Value} {Hr : Hp} {bsr : List Int} (pr : Nat) (n : Int) (hn : 1 ≤ n ∧ n ≤ 4) (hp : pr + (90) ≤ 1000000) (hr : Bytes Hr vbr bsr) : SpecT Tryz.prog 91 [.pointer (some ⟨br, 0, none⟩), .int .i64 n] [sing br (.cells [vbr, .int .i64 (pr : Int)].toArray 85 (0, 0))] [Hr] (fun vq L1 Ln Kq => ∃ q : Nat, q ≤ pr + (90) ∧ L1 = [sing br (.cells [vbr, .int .i64 (q : Int)].toArray 85 (0, 0))] ∧ ∃ (Hq : Hp) (xq : List Lit), Ln = [Hq] ∧ OwnL 74 3 Hq noHp LitV vq xq ∧ xq.length ≤ 5) := by
 refine specT_of Tryz.func91 rfl rfl rfl (fun B => ?_)
 refine kc_seq (kc_region (kl_as rfl (kl_nil (kq_code (kc_seq (kc_seq (kc_region (kl_mv rfl (kl_callT rfl rfl (pick_ok pr (3 : Int) (by omega) hr) (fun v1 L1 Ln K5 h2 f3 f4 => ?_))))))))))
 obtain ⟨q6, h7, rfl, rfl, z8, rfl, h9⟩ := h2
 refine kl_norm ?_
 refine kl_eql rfl rfl ?_
 refine kl_nil (kq_code (kc_if rfl (fun c12 => ?_) (fun c12 => ?_)))
 ·skip
  refine kc_seq (kc_region (kl_mv rfl (kl_mv rfl (kl_callT rfl rfl (anyClause_ok q6 n (by omega) hr) (fun v13 L1 Ln K17 h14 f15 f16 => ?_)))))
  obtain ⟨q18, h19, rfl, H22, z20, rfl, o23, h21⟩ := h14
  have f24 := f15 _ (.head _)
  have hac := h21
  refine kl_norm ?_
  refine kl_as rfl (kl_nil (kq_code (kc_ret ?_)))
  exact kq_retT rfl rfl [sing br (.cells [vbr, .int .i64 (q18 : Int)].toArray 85 (0, 0))] [H22] noHp (fr1 f24) (fr_no _) ⟨q18, by omega, rfl, H22, z20, rfl, o23, by exact hac⟩
 ·skip
  refine kc_skipQ (kq_code (kc_seq (kc_region (kl_mv rfl (kl_mv rfl (kl_callT rfl rfl (decisionsR_ok q6 n (by first | assumption | omega) (by omega) hr) (fun v25 L1 Ln K29 h26 f27 f28 => ?_)))))))
  obtain ⟨q30, h31, rfl, H34, z32, rfl, o35, h33⟩ := h26
  have f36 := f27 _ (.head _)
  have hac := h33
  refine kl_norm ?_
  refine kl_as rfl (kl_nil (kq_code (kc_ret ?_)))
  exact kq_retT rfl rfl [sing br (.cells [vbr, .int .i64 (q30 : Int)].toArray 85 (0, 0))] [H34] noHp (fr1 f36) (fr_no _) ⟨q30, by omega, rfl, H34, z32, rfl, o35, by exact hac⟩
theorem drawRf_ok {Hcode : Hp} {vcode : Value} (code : List Int) (hcode : Bytes Hcode vcode code) : Spec Tryz.prog 40 [vcode] [Hcode] (fun Hq vq => ∃ (mq : Mod) (lq : List Lit) (uq0a uq0b uq1 : Value), vq = .tuple #[.agg #[uq0a, uq0b], uq1] ∧ Ints Hq uq0a mq.doms ∧ Cons Hq uq0b mq.cons ∧ Lits Hq uq1 lq ∧ ModSm 100 mq ∧ lq.length ≤ 5) := by
 refine spec_ofR Tryz.func40 rfl rfl rfl (fun B => ?_)
 refine kc_seq (kc_region (kl_alloc (cs := [.slice none 0 0, .slice none 0 0]) rfl (fun b1 hb2 => ?_)))
 refine kl_as rfl (kl_nil (kq_code (kc_seq (kc_region (kl_mv rfl (kl_callT rfl rfl (newReader_ok code hcode) (fun v3 L1 Ln K7 h4 f5 f6 => ?_)))))))
 obtain ⟨rfl, b8, v9, x10, rfl, rfl, h11⟩ := h4
 refine kl_norm ?_
 refine kl_as rfl (kl_nil (kq_code (kc_seq (kc_region (kl_mv rfl (kl_callT rfl rfl (anyModel_ok 0 (by omega) h11) (fun v12 L1 Ln K16 h13 f14 f15 => ?_)))))))
 obtain ⟨q17, h18, rfl, H21, M23, v24, v25, z19, rfl, rfl, o22, o26, h20⟩ := h13
 have f27 := f14 _ (.head _)
 have f28 := f14 _ (.tail _ (.head _))
 have hsm9 := h20
 have hd1 := h20.d1
 have hd4 := h20.d
 refine kl_norm ?_
 refine kl_frz H21 ?_
 have h29 := OwnL.ints o22
 refine kl_frz M23 ?_
 refine kl_cmp M23 K16 (fun c30 => ?_)
 have h31 := OwnL.consK o26 c30
 refine kl_alloc (cs := [.slice none 0 0, .slice none 0 0]) rfl (fun b32 hb33 => ?_)
 refine kl_stW (us := [v24, v25]) rfl rfl rfl rfl (oc (Sl.oneCell (by assumption)) (oc (Sl.oneCell (by assumption)) oc_nil)) rfl ?_
 refine kl_chg [sing b32 (.cells [v24, v25].toArray 26 (0, 0)), sing b8 (.cells [v9, .int .i64 (q17 : Int)].toArray 85 (0, 0)), sing b1 (.cells [.slice none 0 0, .slice none 0 0].toArray 26 (0, 0))] rfl ?_
 refine kl_nil (kq_code (kc_seq (kc_tree (fun i => ([6] : List Nat).contains i) [sing b32 (.cells [v24, v25].toArray 26 (0, 0))] (by kernel_rfl) ?_)))
 refine kt_q 0 (.cons_cons _ (List.nil_sublist _)) rfl (by kernel_rfl) (kl_ldS rfl (at_box (T := 26) (cs := [v24, v25]) (off := 0) (fz := (0, 0))) rfl ?_)
 refine kl_nil (kq_q (kt_q 1 (.cons_cons _ (List.nil_sublist _)) rfl (by kernel_rfl) (kl_mv rfl (kl_nil (kq_q (kt_q 2 (.cons_cons _ (List.nil_sublist _)) rfl (by kernel_rfl) (kl_fdV rfl (kl_nil (kq_q (kt_q 3 (.cons_cons _ (List.nil_sublist _)) rfl (by kernel_rfl) (kl_ld rfl (at_box (T := 26) (cs := [v24, v25]) (off := 0) (fz := (0, 0))) ?_)))))))))))
 refine kl_nil (kq_q (kt_q 4 (.cons_cons _ (List.nil_sublist _)) rfl (by kernel_rfl) (kl_len rfl (by assumption) (fun l34 => ?_))))
 refine kl_nil (kq_q (kt_a 5 rfl (by kernel_rfl) (kl_callT rfl rfl (anyConj_ok q17 (z19.doms.length : Int) (by first | assumption | omega) (by omega) h11) (fun v35 L1 Ln K39 h36 f37 f38 => ?_))))
 obtain ⟨q40, h41, rfl, H44, z42, rfl, o45, h43⟩ := h36
 have f46 := f37 _ (.head _)
 have hv9 := h43
 refine kl_norm ?_
 refine kl_nil (kq_a (.cons _ (.cons _ (.cons_cons _ (List.nil_sublist _)))) (kt_a 6 rfl (by kernel_rfl) (kl_stW (us := [v24, v25]) rfl rfl rfl rfl (oc (Sl.oneCell (by assumption)) (oc (Sl.oneCell (by assumption)) oc_nil)) rfl ?_)))
 refine kl_chg [sing b8 (.cells [v9, .int .i64 (q40 : Int)].toArray 85 (0, 0)), H44, sing b32 (.cells [v24, v25].toArray 26 (0, 0)), sing b1 (.cells [v24, v25].toArray 26 (0, 0))] rfl ?_
 refine kl_nil (kq_x rfl (kt_q 7 (.cons _ (.cons _ (.cons_cons _ (List.nil_sublist _)))) rfl (by kernel_rfl) (kl_as rfl (kl_nil (kq_q (kt_end (by kernel_rfl) ?_))))))
 refine kq_code (kc_ret (kq_frz H44 ?_))
 refine kq_cmp (orHp M23 K16) H44 (fun c47 => ?_)
 refine kq_cmp H21 (orHp (orHp M23 K16) H44) (fun c48 => ?_)
 exact kq_retR (rss2 rfl (rs_agg rfl rfl) (rs_tmp rfl)) (orHp H21 (orHp (orHp M23 K16) H44)) (fr_or f27 (fr_or (fr_or f28 f15) f46)) ⟨(⟨z19.doms, z19.cons⟩ : Mod), z42, _, _, _, rfl, (Sl.mono (by assumption) (fun b o h => orL b o h) (fun _ _ h => h)), (Cons.mono' (by assumption) (fun b o h => orC c48 b o (orL b o h))), (Sl.mono (OwnL.lits o45) (fun b o h => orC c48 b o (orC c47 b o h)) (fun _ _ h => h)), by first | exact ⟨hsm9, hv9⟩ | exact hr9⟩ .none
theorem drawNg_ok {Hcode : Hp} {vcode : Value} (code : List Int) (hcode : Bytes Hcode vcode code) : Spec Tryz.prog 10 [vcode] [Hcode] (fun Hq vq => ∃ (mq : Mod) (lq : List Lit) (uq0a uq0b uq1 : Value), vq = .tuple #[.agg #[uq0a, uq0b], uq1] ∧ Ints Hq uq0a mq.doms ∧ Cons Hq uq0b mq.cons ∧ Lits Hq uq1 lq ∧ ModSm 100 mq ∧ lq.length ≤ 5) := by
 refine spec_ofR Tryz.func10 rfl rfl rfl (fun B => ?_)
 refine kc_seq (kc_region (kl_alloc (cs := [.slice none 0 0, .slice none 0 0]) rfl (fun b1 hb2 => ?_)))
 refine kl_as rfl (kl_nil (kq_code (kc_seq (kc_region (kl_mv rfl (kl_call rfl rfl (drawRf_ok code hcode) (fun v3 H4 f5 h6 => ?_)))))))
 obtain ⟨z9, z14, u10, u11, u15, rfl, h12, h13, h16, h8⟩ := h6
 have hr9 := h8
 refine kl_xt rfl rfl (kl_xt rfl rfl (kl_stW (us := [u10, u11]) rfl rfl rfl rfl (oc (Sl.oneCell (by assumption)) (oc (Sl.oneCell (by assumption)) oc_nil)) rfl ?_))
 refine kl_chg [sing b1 (.cells [u10, u11].toArray 26 (0, 0))] rfl ?_
 refine kl_as rfl (kl_nil (kq_code (kc_ret (kq_cmp H4 H4 (fun c17 => ?_)))))
 refine kq_cmp H4 (orHp H4 H4) (fun c18 => ?_)
 exact kq_retR (rss2 rfl (rs_agg rfl rfl) (rs_tmp rfl)) (orHp H4 (orHp H4 H4)) (fr_or f5 (fr_or f5 f5)) ⟨(⟨z9.doms, z9.cons⟩ : Mod), z14, _, _, _, rfl, (Sl.mono (by assumption) (fun b o h => orL b o h) (fun _ _ h => h)), (Cons.mono' (by assumption) (fun b o h => orC c18 b o (orL b o h))), (Sl.mono (by assumption) (fun b o h => orC c18 b o (orC c17 b o h)) (fun _ _ h => h)), by first | exact ⟨hsm9, hv9⟩ | exact hr9⟩ .none
theorem lawFnNg_ok {Hcode : Hp} {vcode : Value} (code : List Int) (hcode : Bytes Hcode vcode code) : SpecP Tryz.prog 4 [vcode] [Hcode] (.bool true) := by
 refine spec_of Tryz.func4 rfl rfl rfl (fun B => ?_)
 refine kc_seq (kc_region (kl_as rfl (kl_nil (kq_code (kc_seq (kc_seq (kc_region (kl_mv rfl (kl_len rfl (by assumption) (fun l1 => ?_))))))))))
 refine kl_gtr rfl rfl ?_
 refine kl_nil (kq_code (kc_if rfl (fun c2 => ?_) (fun c2 => ?_)))
 ·skip
  refine kc_seq (kc_region (kl_as rfl (kl_nil (kq_code (kc_ret (kq_retP rfl rfl (congrArg Value.bool ?_)))))))
  first | rfl | exact ng_fin hna.1 hl (by omega) hnone | (simp; done)
 ·skip
  refine kc_skipQ (kq_code (kc_seq (kc_region (kl_mv rfl (kl_call rfl rfl (drawNg_ok code hcode) (fun v3 H4 f5 h6 => ?_))))))
  obtain ⟨z9, z14, u10, u11, u15, rfl, h12, h13, h16, h8⟩ := h6
  have hd1 := h8.1.d1
  have hd4 := h8.1.d
  refine kl_mv rfl (kl_xt rfl rfl (kl_xt rfl rfl (kl_alloc (cs := [.slice none 0 0, .slice none 0 0]) rfl (fun b17 hb18 => ?_))))
  refine kl_stW (us := [u10, u11]) rfl rfl rfl rfl (oc (Sl.oneCell (by assumption)) (oc (Sl.oneCell (by assumption)) oc_nil)) rfl ?_
  refine kl_chg [sing b17 (.cells [u10, u11].toArray 26 (0, 0))] rfl ?_
  refine kl_as rfl (kl_nil (kq_code (kc_seq (kc_region (kl_ldW rfl rfl (kl_mv rfl (kl_callP rfl rfl (isNogI_ok z9 z14 (by assumption) (by assumption) (by assumption)) ?_)))))))
  refine kl_as rfl (kl_nil (kq_code (kc_seq (kc_seq (kc_region (kl_mv rfl (kl_ldW rfl rfl (kl_mv rfl (kl_callP rfl rfl (isNogS_ok z9 z14 (by assumption) (by assumption) (by assumption)) ?_)))))))))
  refine kl_bne rfl rfl ?_
  refine kl_mv rfl (kl_join 4 31 (.bool (((nogB z9 z14) != (nogB z9 z14)) || !(validModB z9))) (pc 2 rfl (pc 3 rfl (pc 4 rfl (pc 5 rfl (pc 27 rfl pn))))) (fun J20 => ?_) ?_)
  ·rcases Bool.eq_false_or_eq_true ((nogB z9 z14) != (nogB z9 z14)) with g19 | g19
   ·skip
    refine kl_gF rfl rfl g19 (kl_gF rfl rfl g19 (kl_gF rfl rfl g19 (kl_orT (!(validModB z9)) rfl rfl g19 ?_)))
    exact J20 _ (pc 31 rfl (pc 2 rfl (pc 3 rfl (pc 4 rfl (pc 5 rfl (pc 27 rfl pn))))))
   ·skip
    have g19p := g19
    try simp only [Bool.not_eq_true', Bool.not_eq_false', decide_eq_true_eq, decide_eq_false_iff_not, Bool.and_eq_true, Bool.or_eq_false_iff, withinB_iff] at g19p
    refine kl_gT rfl rfl g19 (kl_ldW rfl rfl (kl_gT rfl rfl g19 (kl_callP rfl rfl (validMod_ok z9 (by assumption) (by assumption)) ?_)))
    refine kl_gT rfl rfl g19 (kl_not rfl (kl_orF rfl rfl g19 ?_))
    exact J20 _ (pc 31 rfl (pc 2 rfl (pc 3 rfl (pc 4 rfl (pc 5 rfl (pc 27 rfl pn))))))
  refine kl_mv rfl (kl_join 7 39 (.bool ((((nogB z9 z14) != (nogB z9 z14)) || !(validModB z9)) || !(clI (z9.doms.length : Int) z14))) (pc 2 rfl (pc 3 rfl (pc 4 rfl (pc 5 rfl (pc 32 rfl pn))))) (fun J23 => ?_) ?_)
  ·rcases Bool.eq_false_or_eq_true (((nogB z9 z14) != (nogB z9 z14)) || !(validModB z9)) with g21 | g21
   ·skip
    refine kl_gF rfl rfl g21 (kl_gF rfl rfl g21 (kl_gF rfl rfl g21 (kl_gF rfl rfl g21 (kl_gF rfl rfl g21 (kl_gF rfl rfl g21 (kl_orT (!(clI (z9.doms.length : Int) z14)) rfl rfl g21 ?_))))))
    exact J23 _ (pc 39 rfl (pc 2 rfl (pc 3 rfl (pc 4 rfl (pc 5 rfl (pc 32 rfl pn))))))
   ·skip
    have g21p := g21
    try simp only [Bool.not_eq_true', Bool.not_eq_false', decide_eq_true_eq, decide_eq_false_iff_not, Bool.and_eq_true, Bool.or_eq_false_iff, withinB_iff] at g21p
    refine kl_gT rfl rfl g21 (kl_mv rfl (kl_gT rfl rfl g21 (kl_fdV rfl (kl_gT rfl rfl g21 (kl_ldB rfl rfl (kl_gT rfl rfl g21 (kl_len rfl (by assumption) (fun l22 => ?_))))))))
    refine kl_gT rfl rfl g21 (kl_callP rfl rfl (validClI_ok z14 (z9.doms.length : Int) (by first | assumption | omega) (by assumption)) ?_)
    refine kl_gT rfl rfl g21 (kl_not rfl (kl_orF rfl rfl g21 ?_))
    exact J23 _ (pc 39 rfl (pc 2 rfl (pc 3 rfl (pc 4 rfl (pc 5 rfl (pc 32 rfl pn))))))
  refine kl_nil (kq_code (kc_cond rfl (fun c24 => ?_) (fun c24 => ?_)))
  ·skip
   have c24r := c24
   try simp only [smpC, decide_eq_true_eq, decide_eq_false_iff_not] at c24
   refine kc_seq (kc_region (kl_mv rfl (kl_ldW rfl rfl (kl_mv rfl (kl_callP rfl rfl (isNogS_ok z9 z14 (by assumption) (by assumption) (by assumption)) ?_)))))
   refine kl_beq rfl rfl ?_
   refine kl_as rfl (kl_nil (kq_code (kc_ret (kq_retP rfl rfl (congrArg Value.bool ?_)))))
   first | rfl | exact ng_fin hna.1 hl (by omega) hnone | (simp; done)
  ·skip
   have c24r := c24
   try simp only [smpC, decide_eq_true_eq, decide_eq_false_iff_not] at c24
   have hl := ng_go c24r
   refine kc_skipQ (kq_code (kc_seq (kc_region (kl_fdV rfl (kl_ldB rfl rfl (kl_len rfl (by assumption) (fun l25 => ?_)))))))
   refine kl_mv rfl (kl_call rfl rfl (negAll_ok (z9.doms.length : Int) z14 (by first | assumption | omega) (by assumption)) (fun v26 H27 f28 h29 => ?_))
   obtain ⟨z32, z35, u33, rfl, h34, h31⟩ := h29
   have hna := h31 (ng_cl hl)
   refine kl_mv rfl (kl_xt rfl rfl (kl_xt rfl rfl (kl_as rfl (kl_as rfl (kl_nil (kq_code (kc_seq (kc_region (kl_ldW rfl rfl (kl_call rfl rfl (solveAll_ok z9 (by assumption) (by assumption)) (fun v36 H37 f38 h39 => ?_)))))))))))
   refine kl_as rfl (kl_nil (kq_code (kc_seq (kc_region (kl_as rfl (kl_nil (kq_code (kc_seq (kc_seq (kc_region (kl_as rfl (kl_nil (kq_code (kc_block ?_))))))))))))))
   refine kc_loop0 (A := Nat × Bool) (fun zz => (zz.1 ≤ (solL z9).length) ∧ (zz.2 = ((solL z9).take zz.1).all (fun x => !(allT z14 x)))) (fun zz => (solL z9).length - zz.1) (fun zz => [(10, .int .i64 (zz.1 : Int)), (9, .bool zz.2)]) (0, true) (pc 2 rfl (pc 3 rfl (pc 4 rfl (pc 5 rfl (pc 6 rfl (pc 7 rfl (pc 8 rfl pn))))))) (pc 10 rfl (pc 9 rfl pn)) ⟨Nat.zero_le _, (by simp)⟩ ?_
   rintro ⟨k, b⟩ hJ42
   obtain ⟨hk40, hi41⟩ : (k ≤ (solL z9).length) ∧ (b = ((solL z9).take k).all (fun x => !(allT z14 x))) := hJ42
   change KC _ _ (_) _ _ ([(10, .int .i64 (k : Int)), (9, .bool b)] ++ _)
   refine kc_seq (kc_seq (kc_region (kl_mv rfl (kl_mv rfl (kl_len rfl (by assumption) (fun l43 => ?_))))))
   refine kl_lss rfl rfl ?_
   refine kl_nil (kq_code (kc_if rfl (fun c44 => ?_) (fun c44 => ?_)))
   ·skip
    refine kc_skipQ (kq_code (kc_seq (kc_block (kc_region (kl_mv rfl (kl_mv rfl (kl_join 7 69 (.bool (b && (chB z32 ((solL z9).getD k [])))) (pc 2 rfl (pc 3 rfl (pc 4 rfl (pc 5 rfl (pc 6 rfl (pc 7 rfl (pc 8 rfl (pc 9 rfl (pc 10 rfl (pc 55 rfl (pc 56 rfl (pc 57 rfl (pc 58 rfl (pc 61 rfl (pc 62 rfl pn))))))))))))))) (fun J50 => ?_) ?_)))))))
    ·rcases Bool.eq_false_or_eq_true b with g45 | g45
     ·skip
      have g45p := g45
      try simp only [Bool.not_eq_true', Bool.not_eq_false', decide_eq_true_eq, decide_eq_false_iff_not, Bool.and_eq_true, Bool.or_eq_false_iff, withinB_iff] at g45p
      refine kl_gT rfl rfl g45 (kl_mv rfl (kl_gT rfl rfl g45 (kl_mv rfl (kl_gT rfl rfl g45 (kl_mv rfl (kl_gT rfl rfl g45 (kl_inS rfl rfl (by assumption) (by omega) (fun p46 u48 h49 a47 => ?_))))))))
      refine kl_gT rfl rfl g45 (kl_ld rfl (by assumption) (kl_gT rfl rfl g45 (kl_callP rfl rfl (chI_ok z32 ((solL z9).getD k []) (by assumption) (by assumption)) ?_)))
      refine kl_andT rfl rfl g45 ?_
      exact J50 _ (pc 69 rfl (pc 2 rfl (pc 3 rfl (pc 4 rfl (pc 5 rfl (pc 6 rfl (pc 7 rfl (pc 8 rfl (pc 9 rfl (pc 10 rfl (pc 55 rfl (pc 56 rfl (pc 57 rfl (pc 58 rfl (pc 61 rfl (pc 62 rfl pn))))))))))))))))
     ·skip
      refine kl_gF rfl rfl g45 (kl_gF rfl rfl g45 (kl_gF rfl rfl g45 (kl_gF rfl rfl g45 (kl_gF rfl rfl g45 (kl_gF rfl rfl g45 (kl_andF (chB z32 ((solL z9).getD k [])) rfl rfl g45 ?_))))))
      exact J50 _ (pc 69 rfl (pc 2 rfl (pc 3 rfl (pc 4 rfl (pc 5 rfl (pc 6 rfl (pc 7 rfl (pc 8 rfl (pc 9 rfl (pc 10 rfl (pc 55 rfl (pc 56 rfl (pc 57 rfl (pc 58 rfl (pc 61 rfl (pc 62 rfl pn))))))))))))))))
    refine kl_as rfl (kl_nil (kq_code (kc_region (kl_mv rfl (kl_inc rfl rfl (by omega) ?_)))))
    refine kl_as rfl (kl_nil (kq_round0 ((k + 1), (b && (chB z32 ((solL z9).getD k [])))) (by omega) (⟨by omega, (ng_step hl hna.2 (by omega) hi41)⟩) (pc 10 rfl (pc 9 rfl pn)) (pc 2 rfl (pc 3 rfl (pc 4 rfl (pc 5 rfl (pc 6 rfl (pc 7 rfl (pc 8 rfl pn))))))) (List.Sublist.refl _)))
   ·skip
    refine kc_exit (kq_code (kc_seq (kc_region (kl_mv rfl (kl_mv rfl (kl_join 7 78 (.bool (z35 && ((nogB z9 z14) == decide ((cwI z9 z14) = (0 : Int))))) (pc 2 rfl (pc 3 rfl (pc 5 rfl (pc 9 rfl (pc 71 rfl pn))))) (fun J52 => ?_) ?_))))))
    ·rcases Bool.eq_false_or_eq_true z35 with g51 | g51
     ·skip
      have g51p := g51
      try simp only [Bool.not_eq_true', Bool.not_eq_false', decide_eq_true_eq, decide_eq_false_iff_not, Bool.and_eq_true, Bool.or_eq_false_iff, withinB_iff] at g51p
      refine kl_gT rfl rfl g51 (kl_mv rfl (kl_gT rfl rfl g51 (kl_ldW rfl rfl (kl_gT rfl rfl g51 (kl_mv rfl (kl_gT rfl rfl g51 (kl_callP rfl rfl (cwImp_ok z9 z14 (by assumption) (by assumption) (by assumption)) ?_)))))))
      refine kl_gT rfl rfl g51 (kl_eql rfl rfl ?_)
      refine kl_gT rfl rfl g51 (kl_beq rfl rfl ?_)
      refine kl_andT rfl rfl g51 ?_
      exact J52 _ (pc 78 rfl (pc 2 rfl (pc 3 rfl (pc 5 rfl (pc 9 rfl (pc 71 rfl pn))))))
     ·skip
      refine kl_gF rfl rfl g51 (kl_gF rfl rfl g51 (kl_gF rfl rfl g51 (kl_gF rfl rfl g51 (kl_gF rfl rfl g51 (kl_gF rfl rfl g51 (kl_andF ((nogB z9 z14) == decide ((cwI z9 z14) = (0 : Int))) rfl rfl g51 ?_))))))
      exact J52 _ (pc 78 rfl (pc 2 rfl (pc 3 rfl (pc 5 rfl (pc 9 rfl (pc 71 rfl pn))))))
    refine kl_mv rfl (kl_join 9 88 (.bool ((z35 && ((nogB z9 z14) == decide ((cwI z9 z14) = (0 : Int)))) && (decide ((20 : Int) < (cntI z9)) || ((nogB z9 z14) == b)))) (pc 2 rfl (pc 79 rfl pn)) (fun J56 => ?_) ?_)
    ·rcases Bool.eq_false_or_eq_true (z35 && ((nogB z9 z14) == decide ((cwI z9 z14) = (0 : Int)))) with g53 | g53
     ·skip
      have g53p := g53
      try simp only [Bool.not_eq_true', Bool.not_eq_false', decide_eq_true_eq, decide_eq_false_iff_not, Bool.and_eq_true, Bool.or_eq_false_iff, withinB_iff] at g53p
      refine kl_gT rfl rfl g53 (kl_ldW rfl rfl (kl_gT rfl rfl g53 (kl_callP rfl rfl (countSols_ok z9 (by assumption) (by assumption)) ?_)))
      refine kl_gT rfl rfl g53 (kl_gtr rfl rfl ?_)
      refine kl_gT rfl rfl g53 (kl_mv rfl (kl_join 4 87 (.bool (decide ((20 : Int) < (cntI z9)) || ((nogB z9 z14) == b))) (pc 2 rfl (pc 79 rfl (pc 83 rfl pn))) (fun J55 => ?_) ?_))
      ·rcases Bool.eq_false_or_eq_true (decide ((20 : Int) < (cntI z9))) with g54 | g54
       ·skip
        refine kl_gF rfl rfl g54 (kl_gF rfl rfl g54 (kl_gF rfl rfl g54 (kl_gT rfl rfl g53 (kl_orT ((nogB z9 z14) == b) rfl rfl g54 ?_))))
        exact J55 _ (pc 87 rfl (pc 2 rfl (pc 79 rfl (pc 83 rfl pn))))
       ·skip
        have g54p := of_decide_eq_false g54
        refine kl_gT rfl rfl g54 (kl_mv rfl (kl_gT rfl rfl g54 (kl_mv rfl (kl_gT rfl rfl g54 (kl_beq rfl rfl ?_)))))
        refine kl_gT rfl rfl g53 (kl_orF rfl rfl g54 ?_)
        exact J55 _ (pc 87 rfl (pc 2 rfl (pc 79 rfl (pc 83 rfl pn))))
      refine kl_andT rfl rfl g53 ?_
      exact J56 _ (pc 88 rfl (pc 2 rfl (pc 79 rfl pn)))
     ·skip
      refine kl_gF rfl rfl g53 (kl_gF rfl rfl g53 (kl_gF rfl rfl g53 (kl_gF rfl rfl g53 (kl_gU rfl rfl (kl_gU rfl rfl (kl_gU rfl rfl (kl_gF rfl rfl g53 (kl_andF (decide ((20 : Int) < (cntI z9)) || ((nogB z9 z14) == b)) rfl rfl g53 ?_))))))))
      exact J56 _ (pc 88 rfl (pc 2 rfl (pc 79 rfl pn)))
    refine kl_as rfl (kl_nil (kq_code (kc_ret (kq_retP rfl rfl (congrArg Value.bool ?_)))))
    first | rfl | exact ng_fin hna.1 hl (by omega) hi41 | (simp; done)
end Go.Proofs.YtiilanckbocifaaGreat
