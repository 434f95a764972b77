/- Walks of functions of the program: each returns what the plain function gives. Conditions: those that each statement names. -/
import Derived.Test.YtidllhcfcmjggaaWgraph
import Derived.Test.YtidllhcfcmjggaaWnb
import Derived.Test.YtidllhcfcmjggaaWsat
import Derived.Test.YtidllhcfcmjggaaPureD
namespace Go.Proofs.Ytidllhcfcmjggaa
open Go
set_option linter.unusedSimpArgs false
set_option linter.unusedVariables false
theorem iwidth_ok {Hmd : Hp} {vmd : Value} {Hmc : Hp} {vmc : Value} {Horder : Hp} {vorder : Value} (m : Mod) (order : List Int) (hM : MOk m) (ho : OrdOk m order) (hmd : Ints Hmd vmd m.doms) (hmc : Cons Hmc vmc m.cons) (horder : Ints Horder vorder order) : SpecP Try.prog 30 [.agg #[vmd, vmc], vorder] [Hmd, Hmc, Horder] (.int .i64 (widI m order)) := by
 have hn := hM.n
 refine spec_of Try.func30 rfl rfl rfl (fun B => ?_)
 refine kc_seq (kc_region ?_)
 refine kl_box rfl rfl (fun p1 H2 f3 a4 => ?_)
 refine kl_as rfl ?_
 refine kl_nil (kq_code (kc_seq (kc_region ?_)))
 refine kl_ldS rfl (by assumption) rfl ?_
 refine kl_callL rfl rfl (graph_ok m hn.2 hM.i (by assumption) (by assumption)) (fun v5 H6 f7 o8 => ?_)
 refine kl_as rfl ?_
 refine kl_nil (kq_code (kc_seq (kc_region ?_)))
 refine kl_as rfl ?_
 refine kl_as rfl ?_
 refine kl_nil (kq_code ?_)
 refine kc_seq ?_
 refine kc_seq (kc_region ?_)
 refine kl_mv rfl ?_
 refine kl_len rfl (by assumption) (fun l9 => ?_)
 refine kl_mv rfl ?_
 refine kl_nil (kq_code ?_)
 refine kc_block ?_
 refine kc_loopL (A := Nat × Int × Int × List Int × Hp) (fun zz => (zz.1 ≤ order.length) ∧ ((zz.2.2.2.1, zz.2.1, zz.2.2.1) = widTo m order zz.1) ∧ OwnL 3 1 zz.2.2.2.2 noHp IntV v5 zz.2.2.2.1 ∧ Fr B zz.2.2.2.2) (fun zz => order.length - zz.1) (fun zz => [zz.2.2.2.2]) (fun zz => [(17, .int .i64 (zz.1 : Int)), (6, .int .i64 zz.2.1), (7, .int .i64 zz.2.2.1)]) (0, (0 : Int), (0 : Int), (graphI m), H6) (pc 4 rfl (pc 5 rfl (pc 15 rfl (pc 16 rfl pn)))) (pc 17 rfl (pc 6 rfl (pc 7 rfl pn))) rfl ⟨Nat.zero_le _, rfl, o8, f7⟩ ?_
 rintro ⟨k, go, wd, g, H12⟩ hJ15
 obtain ⟨hk10, hi11, o13, f14⟩ : (k ≤ order.length) ∧ ((g, go, wd) = widTo m order k) ∧ OwnL 3 1 H12 noHp IntV v5 g ∧ Fr B H12 := hJ15
 change KC _ _ (_) [H12] _ ([(17, .int .i64 (k : Int)), (6, .int .i64 go), (7, .int .i64 wd)] ++ _)
 refine kc_seq (kc_region ?_)
 refine kl_lss rfl rfl ?_
 refine kl_nil (kq_code ?_)
 refine kc_seq ?_
 refine kc_if rfl (fun c16 => ?_) (fun c16 => ?_)
 ·skip
  have hk1 : k < order.length := by omega
  have hat := ho.at hk1
  have hvv : (((order.getD k 0).toNat : Nat) : Int) = order.getD k 0 := by omega
  have hio := wid_ok hM ho k (by omega)
  rw [← hi11] at hio
  dsimp only at hio
  have hlg := hio.l
  have hne := near_ok hio hn.2 (v := (order.getD k 0).toNat) (by omega)
  rw [hvv] at hne
  unfold nearI at hne
  have hnb := hne.1
  have hmm := hne.2.2.2.1
  refine kc_skipQ ?_
  refine kq_code ?_
  refine kc_seq ?_
  refine kc_block ?_
  refine kc_seq (kc_region ?_)
  refine kl_inI rfl rfl (by assumption) (by omega) (fun p17 a18 => ?_)
  refine kl_ld rfl (by assumption) ?_
  refine kl_as rfl ?_
  refine kl_nil (kq_code (kc_seq (kc_region ?_)))
  refine kl_mv rfl ?_
  refine kl_mv rfl ?_
  refine kl_ixL rfl rfl (by assumption) (by omega) (by omega) (fun p19 q20 => ?_)
  refine kl_ldLI rfl (by assumption) (by assumption) (by omega) ?_
  refine kl_mv rfl ?_
  refine kl_andNot rfl rfl ?_
  refine kl_as rfl ?_
  refine kl_nil (kq_code (kc_seq (kc_region ?_)))
  refine kl_mv rfl ?_
  refine kl_mv rfl ?_
  refine kl_cvu rfl (by omega) ?_
  refine kl_callP rfl rfl (ones_ok (iandNot (g.getD ((order.getD k 0).toNat) 0) go) ⟨hnb.1, by omega⟩) ?_
  refine kl_max rfl rfl ?_
  refine kl_as rfl ?_
  refine kl_nil (kq_code ?_)
  refine kc_seq ?_
  refine kc_seq (kc_region ?_)
  refine kl_mv rfl ?_
  refine kl_call rfl rfl (members_ok (iandNot (g.getD ((order.getD k 0).toNat) 0) go) ⟨hnb.1, by omega⟩) (fun v21 H22 f23 h24 => ?_)
  refine kl_len rfl (by assumption) (fun l25 => ?_)
  refine kl_mv rfl ?_
  refine kl_nil (kq_code ?_)
  refine kc_block ?_
  refine kc_loopL (A := Nat × List Int × Hp) (fun zz => (zz.1 ≤ (membersI (iandNot (g.getD ((order.getD k 0).toNat) 0) go)).length) ∧ (zz.2.1 = ((membersI (iandNot (g.getD ((order.getD k 0).toNat) 0) go)).take zz.1).foldl (linkI (iandNot (g.getD ((order.getD k 0).toNat) 0) go)) g ∧ zz.2.1.length = g.length) ∧ OwnL 3 1 zz.2.2 noHp IntV v5 zz.2.1 ∧ Fr B zz.2.2) (fun zz => (membersI (iandNot (g.getD ((order.getD k 0).toNat) 0) go)).length - zz.1) (fun zz => [zz.2.2]) (fun zz => [(35, .int .i64 (zz.1 : Int))]) (0, g, H12) (pc 4 rfl (pc 5 rfl (pc 6 rfl (pc 7 rfl (pc 9 rfl (pc 10 rfl (pc 15 rfl (pc 16 rfl (pc 17 rfl (pc 18 rfl (pc 19 rfl (pc 20 rfl (pc 21 rfl (pc 22 rfl (pc 23 rfl (pc 24 rfl (pc 25 rfl (pc 26 rfl (pc 27 rfl (pc 28 rfl (pc 29 rfl (pc 30 rfl (pc 31 rfl (pc 32 rfl (pc 33 rfl (pc 34 rfl pn)))))))))))))))))))))))))) (pc 35 rfl pn) rfl ⟨Nat.zero_le _, ⟨by simp, rfl⟩, o13, f14⟩ ?_
  rintro ⟨j, g2, H28⟩ hJ31
  obtain ⟨hk26, hi27, o29, f30⟩ : (j ≤ (membersI (iandNot (g.getD ((order.getD k 0).toNat) 0) go)).length) ∧ (g2 = ((membersI (iandNot (g.getD ((order.getD k 0).toNat) 0) go)).take j).foldl (linkI (iandNot (g.getD ((order.getD k 0).toNat) 0) go)) g ∧ g2.length = g.length) ∧ OwnL 3 1 H28 noHp IntV v5 g2 ∧ Fr B H28 := hJ31
  change KC _ _ (_) [H28] _ ([(35, .int .i64 (j : Int))] ++ _)
  refine kc_seq (kc_region ?_)
  refine kl_lss rfl rfl ?_
  refine kl_nil (kq_code ?_)
  refine kc_seq ?_
  refine kc_if rfl (fun c32 => ?_) (fun c32 => ?_)
  ·skip
   have hx := mem_at hmm (j := j) (by omega)
   have hl2 := hi27.2
   refine kc_skipQ ?_
   refine kq_code ?_
   refine kc_seq ?_
   refine kc_block ?_
   refine kc_seq (kc_region ?_)
   refine kl_inI rfl rfl (by assumption) (by omega) (fun p33 a34 => ?_)
   refine kl_ld rfl (by assumption) ?_
   refine kl_as rfl ?_
   refine kl_nil (kq_code ?_)
   refine kc_draw 10 [true, true, true, true, true, true, true, true, true, true, false] (by kernel_rfl) (by kernel_rfl) ?_
   refine kl_mv rfl ?_
   refine kl_mv rfl ?_
   refine kl_ixL rfl rfl (by assumption) (by omega) (by omega) (fun p35 q36 => ?_)
   refine kl_ldLI rfl (by assumption) (by assumption) (by omega) ?_
   refine kl_mv rfl ?_
   refine kl_mv rfl ?_
   refine kl_shl rfl rfl (by omega) ?_
   refine kl_andNot rfl rfl ?_
   refine kl_or rfl rfl ?_
   refine kl_ixL rfl rfl (by assumption) (by omega) (by omega) (fun p37 q38 => ?_)
   refine kl_stL (ior (g2.getD (((membersI (iandNot (g.getD ((order.getD k 0).toNat) 0) go)).getD j 0).toNat) 0) (iandNot (iandNot (g.getD ((order.getD k 0).toNat) 0) go) (ishl (1 : Int) ((membersI (iandNot (g.getD ((order.getD k 0).toNat) 0) go)).getD j 0)))) rfl rfl (by assumption) o29 (by omega) rfl rfl rfl (fun H39 o40 f41 => ?_)
   have f42 := f41 _ f30
   refine kl_chg [H39] rfl ?_
   refine kl_nil (kq_code ?_)
   refine kc_region ?_
   refine kl_inc rfl rfl (by omega) ?_
   refine kl_mv rfl ?_
   refine kl_nil ?_
   refine kq_take [H39] ?_
   refine kq_roundL ((j + 1), (g2.set (((membersI (iandNot (g.getD ((order.getD k 0).toNat) 0) go)).getD j 0).toNat) (ior (g2.getD (((membersI (iandNot (g.getD ((order.getD k 0).toNat) 0) go)).getD j 0).toNat) 0) (iandNot (iandNot (g.getD ((order.getD k 0).toNat) 0) go) (ishl (1 : Int) ((membersI (iandNot (g.getD ((order.getD k 0).toNat) 0) go)).getD j 0))))), H39) (by omega) (⟨by omega, ⟨fold_step (f := linkI (iandNot (g.getD ((order.getD k 0).toNat) 0) go)) 0 (by omega) hi27.1, by simp only [List.length_set]; exact hi27.2⟩, o40, f42⟩) (pc 35 rfl pn) (pc 4 rfl (pc 5 rfl (pc 6 rfl (pc 7 rfl (pc 9 rfl (pc 10 rfl (pc 15 rfl (pc 16 rfl (pc 17 rfl (pc 18 rfl (pc 19 rfl (pc 20 rfl (pc 21 rfl (pc 22 rfl (pc 23 rfl (pc 24 rfl (pc 25 rfl (pc 26 rfl (pc 27 rfl (pc 28 rfl (pc 29 rfl (pc 30 rfl (pc 31 rfl (pc 32 rfl (pc 33 rfl (pc 34 rfl pn)))))))))))))))))))))))))) rfl (List.Sublist.refl _)
  ·skip
   refine kc_exit ?_
   refine kq_code ?_
   refine kc_region ?_
   refine kl_mv rfl ?_
   refine kl_mv rfl ?_
   refine kl_shl rfl rfl (by omega) ?_
   refine kl_or rfl rfl ?_
   refine kl_as rfl ?_
   refine kl_nil (kq_code ?_)
   refine kc_region ?_
   refine kl_inc rfl rfl (by omega) ?_
   refine kl_mv rfl ?_
   refine kl_nil ?_
   refine kq_take [H28] ?_
   refine kq_roundL ((k + 1), (ior go (ishl (1 : Int) (order.getD k 0))), (max wd (popI (iandNot (g.getD ((order.getD k 0).toNat) 0) go))), g2, H28) (by omega) (⟨by omega, (by have h9 := fold_end (by assumption) hi27.1; dsimp only; rw [widTo_succ hk1, ← hi11, h9]; rfl), o29, f30⟩) (pc 17 rfl (pc 6 rfl (pc 7 rfl pn))) (pc 4 rfl (pc 5 rfl (pc 15 rfl (pc 16 rfl pn)))) rfl (List.Sublist.refl _)
 ·skip
  refine kc_exit ?_
  refine kq_code ?_
  refine kc_seq (kc_region ?_)
  refine kl_mv rfl ?_
  refine kl_as rfl ?_
  refine kl_nil (kq_code ?_)
  refine kc_ret ?_
  refine kq_retP rfl rfl (congrArg (Value.int .i64) ?_)
  unfold widI; rw [show order.length = k from (by omega), ← hi11]
theorem ielim_ok {Hmd : Hp} {vmd : Value} {Hmc : Hp} {vmc : Value} {Horder : Hp} {vorder : Value} (m : Mod) (order : List Int) (hmd : Ints Hmd vmd m.doms) (hmc : Cons Hmc vmc m.cons) (horder : Ints Horder vorder order) : SpecP Try.prog 7 [.agg #[vmd, vmc], vorder] [Hmd, Hmc, Horder] (.int .i64 (elimW m order)) := by
 refine spec_of Try.func7 rfl rfl rfl (fun B => ?_)
 refine kc_seq (kc_region ?_)
 refine kl_box rfl rfl (fun p1 H2 f3 a4 => ?_)
 refine kl_as rfl ?_
 refine kl_nil (kq_code ?_)
 refine kc_seq ?_
 refine kc_seq (kc_region ?_)
 refine kl_ldS rfl (by assumption) rfl ?_
 refine kl_mv rfl ?_
 refine kl_callP rfl rfl (varsIn_ok m order (by assumption) (by assumption) (by assumption)) ?_
 refine kl_not rfl ?_
 refine kl_mv rfl ?_
 refine kl_join 7 16 (.bool (!(varsInB m order) || decide ((order.length : Int) ≠ (m.doms.length : Int)))) (pc 1 rfl (pc 2 rfl (pc 4 rfl (pc 9 rfl pn)))) (fun J10 => ?_) ?_
 ·rcases Bool.eq_false_or_eq_true (!(varsInB m order)) with g5 | g5
  ·skip
   refine kl_gF rfl rfl g5 ?_
   refine kl_gF rfl rfl g5 ?_
   refine kl_gF rfl rfl g5 ?_
   refine kl_gF rfl rfl g5 ?_
   refine kl_gF rfl rfl g5 ?_
   refine kl_gF rfl rfl g5 ?_
   refine kl_orT (decide ((order.length : Int) ≠ (m.doms.length : Int))) rfl rfl g5 ?_
   exact J10 _ (pc 16 rfl (pc 1 rfl (pc 2 rfl (pc 4 rfl (pc 9 rfl pn)))))
  ·skip
   have g5p := g5
   try simp only [Bool.not_eq_true', Bool.not_eq_false', decide_eq_true_eq, decide_eq_false_iff_not, Bool.and_eq_true, Bool.or_eq_false_iff, withinB_iff] at g5p
   refine kl_gT rfl rfl g5 ?_
   refine kl_mv rfl ?_
   refine kl_gT rfl rfl g5 ?_
   refine kl_len rfl (by assumption) (fun l6 => ?_)
   refine kl_gT rfl rfl g5 ?_
   refine kl_fd rfl (by assumption) (fun p7 a8 => ?_)
   refine kl_gT rfl rfl g5 ?_
   refine kl_ld rfl (by assumption) ?_
   refine kl_gT rfl rfl g5 ?_
   refine kl_len rfl (by assumption) (fun l9 => ?_)
   refine kl_gT rfl rfl g5 ?_
   refine kl_neq rfl rfl ?_
   refine kl_orF rfl rfl g5 ?_
   exact J10 _ (pc 16 rfl (pc 1 rfl (pc 2 rfl (pc 4 rfl (pc 9 rfl pn)))))
 refine kl_mv rfl ?_
 refine kl_join 4 21 (.bool ((!(varsInB m order) || decide ((order.length : Int) ≠ (m.doms.length : Int))) || !(distinctB order))) (pc 1 rfl (pc 2 rfl (pc 4 rfl (pc 17 rfl pn)))) (fun J12 => ?_) ?_
 ·rcases Bool.eq_false_or_eq_true (!(varsInB m order) || decide ((order.length : Int) ≠ (m.doms.length : Int))) with g11 | g11
  ·skip
   refine kl_gF rfl rfl g11 ?_
   refine kl_gF rfl rfl g11 ?_
   refine kl_gF rfl rfl g11 ?_
   refine kl_orT (!(distinctB order)) rfl rfl g11 ?_
   exact J12 _ (pc 21 rfl (pc 1 rfl (pc 2 rfl (pc 4 rfl (pc 17 rfl pn)))))
  ·skip
   have g11p := g11
   try simp only [Bool.not_eq_true', Bool.not_eq_false', decide_eq_true_eq, decide_eq_false_iff_not, Bool.and_eq_true, Bool.or_eq_false_iff, withinB_iff] at g11p
   refine kl_gT rfl rfl g11 ?_
   refine kl_mv rfl ?_
   refine kl_gT rfl rfl g11 ?_
   refine kl_callP rfl rfl (distinct_ok order (by assumption)) ?_
   refine kl_gT rfl rfl g11 ?_
   refine kl_not rfl ?_
   refine kl_orF rfl rfl g11 ?_
   exact J12 _ (pc 21 rfl (pc 1 rfl (pc 2 rfl (pc 4 rfl (pc 17 rfl pn)))))
 refine kl_nil (kq_code ?_)
 refine kc_cond rfl (fun c13 => ?_) (fun c13 => ?_)
 ·skip
  have c13r := c13
  try simp only [Bool.not_eq_true', Bool.not_eq_false', Bool.not_true, Bool.not_false, decide_eq_true_eq, decide_eq_false_iff_not, Bool.and_eq_true, Bool.or_eq_false_iff] at c13
  refine kc_seq (kc_region ?_)
  refine kl_as rfl ?_
  refine kl_nil (kq_code ?_)
  refine kc_ret ?_
  refine kq_retP rfl rfl (congrArg (Value.int .i64) ?_)
  first | exact elim_no (elimI_c m order) (by assumption) | exact elim_at1 hok
 ·skip
  have c13r := c13
  try simp only [Bool.not_eq_true', Bool.not_eq_false', Bool.not_true, Bool.not_false, decide_eq_true_eq, decide_eq_false_iff_not, Bool.and_eq_true, Bool.or_eq_false_iff] at c13
  have hok := elim_yes (elimI_c m order) c13r
  obtain ⟨hM, ho, hl⟩ := elim_ok0 hok
  refine kc_skipQ ?_
  refine kq_code ?_
  refine kc_seq (kc_region ?_)
  refine kl_ldS rfl (by assumption) rfl ?_
  refine kl_mv rfl ?_
  refine kl_callP rfl rfl (iwidth_ok m order hM ho (by assumption) (by assumption) (by assumption)) ?_
  refine kl_as rfl ?_
  refine kl_nil (kq_code ?_)
  refine kc_ret ?_
  refine kq_retP rfl rfl (congrArg (Value.int .i64) ?_)
  first | exact elim_no (elimI_c m order) (by assumption) | exact elim_at1 hok
end Go.Proofs.Ytidllhcfcmjggaa
