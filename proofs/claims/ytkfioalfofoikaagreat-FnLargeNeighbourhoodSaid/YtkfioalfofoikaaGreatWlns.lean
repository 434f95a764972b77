/- Walks of functions of the program: each returns what the plain function gives. Conditions: those that each statement names. -/
import Derived.Test.YtkfioalfofoikaaGreatWwo
import Derived.Test.YtkfioalfofoikaaGreatWwalk
import Derived.Test.YtkfioalfofoikaaGreatWssat
import Derived.Test.YtkfioalfofoikaaGreatPureLn
namespace Go.Proofs.YtkfioalfofoikaaGreat
open Go
set_option linter.unusedSimpArgs false
set_option linter.unusedVariables false
theorem fixAllD_ok {Hmd : Hp} {vmd : Value} {Hmc : Hp} {vmc : Value} {Hx : Hp} {vx : Value} {Hfree : Hp} {vfree : Value} (m : Mod) (x : List Int) (free : List Int) (hm : ModSm 100 m) (hM : MOk m) (hX : Vals x) (hlX : x.length = m.doms.length) (hmd : Ints Hmd vmd m.doms) (hmc : Cons Hmc vmc m.cons) (hx : Ints Hx vx x) (hfree : Ints Hfree vfree free) : Spec Tryz.prog 32 [.agg #[vmd, vmc], vx, vfree] [Hmd, Hmc, Hx, Hfree] (fun Hq vq => ModR Hq vq (⟨nearT m.doms x free x.length, m.cons⟩)) := by
 have hn := hM.n
 refine spec_of Tryz.func32 rfl rfl rfl (fun B => ?_)
 refine kc_seq (kc_region (kl_box rfl rfl (fun p1 H2 f3 a4 => ?_)))
 refine kl_alloc (cs := [.slice none 0 0, .slice none 0 0]) rfl (fun b5 hb6 => ?_)
 refine kl_nil (kq_code (kc_seq (kc_region (kl_ldS rfl (by assumption) rfl ?_))))
 refine kl_callT rfl rfl (copyModE_ok m hm (by assumption) (by assumption)) (fun v7 L1 Ln K11 h8 f9 f10 => ?_)
 obtain ⟨rfl, H12, M13, v14, v15, z16, rfl, rfl, o18, o19, h17⟩ := h8
 have f20 := f9 _ (.head _)
 have f21 := f9 _ (.tail _ (.head _))
 have hcm := h17
 refine kl_norm ?_
 refine kl_alloc (cs := [.slice none 0 0, .slice none 0 0]) rfl (fun b22 hb23 => ?_)
 refine kl_stW (us := [v14, v15]) rfl rfl rfl rfl (oc (OwnL.oneCell (by assumption)) (oc (OwnL.oneCell (by assumption)) oc_nil)) rfl ?_
 refine kl_chg [sing b22 (.cells [v14, v15].toArray 31 (0, 0)), H12, M13, sing b5 (.cells [.slice none 0 0, .slice none 0 0].toArray 31 (0, 0))] rfl ?_
 refine kl_nil (kq_code (kc_seq (kc_seq (kc_region (kl_as rfl (kl_nil (kq_code (kc_block (kc_loopL (A := Nat × List Int × Value × Hp) (fun zz => (zz.1 ≤ x.length) ∧ (zz.2.1 = nearT m.doms x free zz.1) ∧ OwnL 3 1 zz.2.2.2 noHp IntV zz.2.2.1 zz.2.1 ∧ Fr B zz.2.2.2) (fun zz => x.length - zz.1) (fun zz => [sing b22 (.cells [zz.2.2.1, v15].toArray 31 (0, 0)), zz.2.2.2, M13, sing b5 (.cells [.slice none 0 0, .slice none 0 0].toArray 31 (0, 0))]) (fun zz => [(8, .int .i64 (zz.1 : Int))]) (0, z16.doms, v14, H12) (pc 1 rfl (pc 2 rfl (pc 6 rfl (pc 7 rfl pn)))) (pc 8 rfl pn) rfl ⟨Nat.zero_le _, (by dsimp only; rw [hcm]; rfl), o18, f20⟩ ?_)))))))))
 rintro ⟨k, ds, v29, H26⟩ hJ30
 obtain ⟨hk24, hi25, o27, f28⟩ : (k ≤ x.length) ∧ (ds = nearT m.doms x free k) ∧ OwnL 3 1 H26 noHp IntV v29 ds ∧ Fr B H26 := hJ30
 change KC _ _ (_) [sing b22 (.cells [v29, v15].toArray 31 (0, 0)), H26, M13, sing b5 (.cells [.slice none 0 0, .slice none 0 0].toArray 31 (0, 0))] _ ([(8, .int .i64 (k : Int))] ++ _)
 have hdl : ds.length = m.doms.length := (by rw [hi25]; exact near_len _ _ _ _)
 refine kc_seq (kc_seq (kc_region (kl_mv rfl (kl_mv rfl (kl_len rfl (by assumption) (fun l31 => ?_))))))
 refine kl_lss rfl rfl ?_
 refine kl_nil (kq_code (kc_if rfl (fun c32 => ?_) (fun c32 => ?_)))
 ·skip
  have hxk := hX.at (k := k) (by omega)
  have hsl := shl_le hxk
  refine kc_skipQ (kq_code (kc_seq (kc_block (kc_seq (kc_region (kl_mv rfl (kl_mv rfl (kl_callP rfl rfl (containsInt_ok free (k : Int) (by assumption)) ?_))))))))
  refine kl_not rfl (kl_nil (kq_code (kc_cond rfl (fun c33 => ?_) (fun c33 => ?_))))
  ·skip
   have c33r := c33
   try simp only [smpC, decide_eq_true_eq, decide_eq_false_iff_not] at c33
   refine kc_tree (fun i => ([15] : List Nat).contains i) [sing b22 (.cells [v29, v15].toArray 31 (0, 0)), H26] (by kernel_rfl) ?_
   refine kt_q 0 (.cons_cons _ (.cons_cons _ (List.nil_sublist _))) rfl (by kernel_rfl) (kl_fdV rfl (kl_nil (kq_q (kt_q 1 (.cons_cons _ (.cons_cons _ (List.nil_sublist _))) rfl (by kernel_rfl) (kl_ld rfl (at_box (T := 31) (cs := [v29, v15]) (off := 0) (fz := (0, 0))) (kl_nil (kq_q (kt_q 2 (.cons_cons _ (.cons_cons _ (List.nil_sublist _))) rfl (by kernel_rfl) (kl_mv rfl (kl_nil (kq_q ?_)))))))))))
   refine kt_q 3 (.cons_cons _ (.cons_cons _ (List.nil_sublist _))) rfl (by kernel_rfl) (kl_fdV rfl (kl_nil (kq_q (kt_q 4 (.cons_cons _ (.cons_cons _ (List.nil_sublist _))) rfl (by kernel_rfl) (kl_ld rfl (at_box (T := 31) (cs := [v29, v15]) (off := 0) (fz := (0, 0))) (kl_nil (kq_q (kt_q 5 (.cons_cons _ (.cons_cons _ (List.nil_sublist _))) rfl (by kernel_rfl) (kl_mv rfl (kl_nil (kq_q ?_)))))))))))
   refine kt_q 6 (.cons_cons _ (.cons_cons _ (List.nil_sublist _))) rfl (by kernel_rfl) (kl_ixLn rfl rfl (by assumption) (by omega) (fun p34 q35 => ?_))
   refine kl_nil (kq_q (kt_q 7 (.cons_cons _ (.cons_cons _ (List.nil_sublist _))) rfl (by kernel_rfl) (kl_ldLIe rfl (by assumption) (by assumption) (by omega) ?_)))
   refine kl_nil (kq_q (kt_q 8 (.cons_cons _ (.cons_cons _ (List.nil_sublist _))) rfl (by kernel_rfl) (kl_mv rfl (kl_nil (kq_q (kt_q 9 (.cons_cons _ (.cons_cons _ (List.nil_sublist _))) rfl (by kernel_rfl) (kl_mv rfl (kl_nil (kq_q (kt_q 10 (.cons_cons _ (.cons_cons _ (List.nil_sublist _))) rfl (by kernel_rfl) (kl_inI rfl rfl (by assumption) (by omega) (fun p36 a37 => ?_))))))))))))
   refine kl_nil (kq_q (kt_q 11 (.cons_cons _ (.cons_cons _ (List.nil_sublist _))) rfl (by kernel_rfl) (kl_ld rfl (by assumption) (kl_nil (kq_q (kt_q 12 (.cons_cons _ (.cons_cons _ (List.nil_sublist _))) rfl (by kernel_rfl) (kl_shl rfl rfl (by omega) ?_)))))))
   refine kl_nil (kq_q (kt_q 13 (.cons_cons _ (.cons_cons _ (List.nil_sublist _))) rfl (by kernel_rfl) (kl_and rfl rfl ?_)))
   refine kl_nil (kq_q (kt_q 14 (.cons_cons _ (.cons_cons _ (List.nil_sublist _))) rfl (by kernel_rfl) (kl_ixLn rfl rfl (by assumption) (by omega) (fun p38 q39 => ?_))))
   refine kl_nil (kq_q (kt_a 15 rfl (by kernel_rfl) (kl_stL (iand (ds.getD k 0) (ishl (1 : Int) (x.getD k 0))) rfl rfl (by assumption) o27 (by omega) rfl rfl rfl (fun H40 o41 f42 => ?_))))
   have f43 := f42 _ f28
   refine kl_chg [sing b22 (.cells [v29, v15].toArray 31 (0, 0)), H40, M13, sing b5 (.cells [.slice none 0 0, .slice none 0 0].toArray 31 (0, 0))] rfl ?_
   refine kl_nil (kq_x rfl (kt_end (by kernel_rfl) ?_))
   refine kq_code (kc_region (kl_mv rfl (kl_inc rfl rfl (by omega) ?_)))
   refine kl_as rfl (kl_nil (kq_take [sing b22 (.cells [v29, v15].toArray 31 (0, 0)), H40, M13, sing b5 (.cells [.slice none 0 0, .slice none 0 0].toArray 31 (0, 0))] ?_))
   refine kq_roundL ((k + 1), (ds.set k (iand (ds.getD k 0) (ishl (1 : Int) (x.getD k 0)))), v29, H40) (by omega) (⟨by omega, (by first | exact near_T hi25 (by assumption) | exact near_F hi25 (by assumption)), o41, f43⟩) (pc 8 rfl pn) (pc 1 rfl (pc 2 rfl (pc 6 rfl (pc 7 rfl pn)))) rfl (List.Sublist.refl _)
  ·skip
   have c33r := c33
   try simp only [smpC, decide_eq_true_eq, decide_eq_false_iff_not] at c33
   refine kc_skipQ (kq_code (kc_region (kl_mv rfl (kl_inc rfl rfl (by omega) ?_))))
   refine kl_as rfl (kl_nil (kq_take [sing b22 (.cells [v29, v15].toArray 31 (0, 0)), H26, M13, sing b5 (.cells [.slice none 0 0, .slice none 0 0].toArray 31 (0, 0))] ?_))
   refine kq_roundL ((k + 1), ds, v29, H26) (by omega) (⟨by omega, (by first | exact near_T hi25 (by assumption) | exact near_F hi25 (by assumption)), o27, f28⟩) (pc 8 rfl pn) (pc 1 rfl (pc 2 rfl (pc 6 rfl (pc 7 rfl pn)))) rfl (List.Sublist.refl _)
 ·skip
  refine kc_exit (kq_code (kc_seq (kc_region (kl_ldW rfl rfl (kl_stW (us := [v29, v15]) rfl rfl rfl rfl (oc (OwnL.oneCell (by assumption)) (oc (OwnL.oneCell (by assumption)) oc_nil)) rfl ?_)))))
  refine kl_chg [sing b22 (.cells [v29, v15].toArray 31 (0, 0)), H26, M13, sing b5 (.cells [v29, v15].toArray 31 (0, 0))] rfl ?_
  refine kl_nil (kq_code (kc_ret (kq_frz H26 ?_)))
  refine kq_frz M13 ?_
  refine kq_cmp M13 K11 (fun c44 => ?_)
  refine kq_cmp H26 (orHp M13 K11) (fun c45 => ?_)
  exact kq_retC rfl rfl rfl (orHp H26 (orHp M13 K11)) (fr_or f28 (fr_or f21 f10)) ⟨_, _, rfl, (by have e9 : ds = nearT m.doms x free x.length := (by rw [hi25, show x.length = k from by omega]); rw [← e9]; exact (Sl.mono (OwnL.ints o27) (fun b o h => orL b o h) (fun _ _ h => h))), (by have e9 : z16.cons = m.cons := (by rw [hcm]); rw [← e9]; exact (Cons.mono' (OwnL.consK o19 c44) (fun b o h => orC c45 b o h)))⟩
theorem firstSub_ok (k : Int) (hk : 0 ≤ k ∧ k ≤ 1000) : Spec Tryz.prog 30 [.int .i64 k] [] (fun Hq vq => OwnL 3 1 Hq noHp IntV vq (natsI (List.range k.toNat))) := by
 refine spec_of Tryz.func30 rfl rfl rfl (fun B => ?_)
 refine kc_seq (kc_region (kl_as rfl (kl_nil (kq_code (kc_seq (kc_region (kl_bsI [] rfl rfl rfl (by decide) (fun v1 H2 f3 o4 => ?_))))))))
 refine kl_as rfl (kl_nil (kq_code (kc_seq (kc_seq (kc_region (kl_as rfl (kl_nil (kq_code (kc_block (kc_loopL (A := Nat × List Int × Value × Hp) (fun zz => (zz.1 ≤ k.toNat) ∧ (zz.2.1 = natsI (List.range zz.1)) ∧ OwnL 3 1 zz.2.2.2 noHp IntV zz.2.2.1 zz.2.1 ∧ Fr B zz.2.2.2) (fun zz => k.toNat - zz.1) (fun zz => [zz.2.2.2]) (fun zz => [(4, .int .i64 (zz.1 : Int)), (3, zz.2.2.1)]) (0, ([]), v1, H2) (pc 0 rfl (pc 2 rfl pn)) (pc 4 rfl (pc 3 rfl pn)) rfl ⟨Nat.zero_le _, rfl, o4, f3⟩ ?_))))))))))
 rintro ⟨i, out, v10, H7⟩ hJ11
 obtain ⟨hk5, hi6, o8, f9⟩ : (i ≤ k.toNat) ∧ (out = natsI (List.range i)) ∧ OwnL 3 1 H7 noHp IntV v10 out ∧ Fr B H7 := hJ11
 change KC _ _ (_) [H7] _ ([(4, .int .i64 (i : Int)), (3, v10)] ++ _)
 have hol : out.length = i := (by rw [hi6]; simp [natsI])
 refine kc_seq (kc_seq (kc_region (kl_mv rfl (kl_mv rfl (kl_lss rfl rfl ?_)))))
 refine kl_nil (kq_code (kc_if rfl (fun c12 => ?_) (fun c12 => ?_)))
 ·skip
  refine kc_skipQ (kq_code (kc_seq (kc_block (kc_region (kl_mv rfl (kl_mv rfl (kl_bs rfl rfl rfl (by decide) (ca rfl ca_nil) (fun v13 H14 f15 r16 s17 => ?_))))))))
  have h18 : Ints H14 v13 [(i : Int)] := litInts (xs := [(i : Int)]) (by simpa using s17)
  refine kl_apL (i : Int) rfl rfl o8 (by assumption) rfl (oc rfl oc_nil) (by omega) (by decide) (fun v19 H20 o21 f22 => ?_)
  have f23 := f22 B f9 (Nat.le_refl _)
  refine kl_as rfl (kl_nil (kq_code (kc_region (kl_mv rfl (kl_inc rfl rfl (by omega) ?_)))))
  refine kl_as rfl (kl_nil (kq_take [H20] ?_))
  refine kq_roundL ((i + 1), (out ++ [(i : Int)]), v19, H20) (by omega) (⟨by omega, (iota_s hi6), o21, f23⟩) (pc 4 rfl (pc 3 rfl pn)) (pc 0 rfl (pc 2 rfl pn)) rfl (List.Sublist.refl _)
 ·skip
  refine kc_exit (kq_code (kc_seq (kc_region (kl_mv rfl (kl_as rfl (kl_nil (kq_code (kc_ret ?_))))))))
  have e9 : out = natsI (List.range k.toNat) := by (rw [hi6, show i = k.toNat from by omega])
  exact kq_ret rfl rfl H7 f9 (e9 ▸ o8)
theorem nextSub_ok {Hs : Hp} {vs : Value} (s : List Int) (n : Int) (hs : s.length ≤ 4) (hv : ∀ v ∈ s, (0 : Int) ≤ v ∧ v ≤ 3) (hn : 0 ≤ n ∧ n ≤ 4) (hs : Ints Hs vs s) : Spec Tryz.prog 34 [vs, .int .i64 n] [Hs] (fun Hq vq => OwnL 3 1 Hq noHp IntV vq (nextS s n)) := by
 refine spec_of Tryz.func34 rfl rfl rfl (fun B => ?_)
 refine kc_seq (kc_region (kl_as rfl (kl_nil (kq_code (kc_seq (kc_seq (kc_region (kl_mv rfl (kl_len rfl (by assumption) (fun l1 => ?_))))))))))
 refine kl_sub rfl rfl (by omega) ?_
 refine kl_as rfl (kl_nil (kq_code (kc_block (kc_loop0 (A := Nat × Int) (fun zz => (zz.1 ≤ s.length) ∧ (zz.2 = (zz.1 : Int) - 1 ∧ nextS s n = nextGo s n zz.1)) (fun zz => zz.1) (fun zz => [(5, .int .i64 zz.2)]) (s.length, ((s.length : Int) - (1 : Int))) (pc 0 rfl (pc 1 rfl pn)) (pc 5 rfl pn) ⟨(Nat.le_refl _), ⟨rfl, rfl⟩⟩ ?_))))
 rintro ⟨q, z⟩ hJ4
 obtain ⟨hk2, hi3⟩ : (q ≤ s.length) ∧ (z = (q : Int) - 1 ∧ nextS s n = nextGo s n q) := hJ4
 change KC _ _ (_) _ _ ([(5, .int .i64 z)] ++ _)
 have hz := hi3.1
 refine kc_seq (kc_seq (kc_region (kl_mv rfl (kl_geq rfl rfl ?_))))
 refine kl_nil (kq_code (kc_if rfl (fun c5 => ?_) (fun c5 => ?_)))
 ·skip
  have hvz := hv _ (getD_mem (d := (0 : Int)) (by omega : z.toNat < s.length))
  refine kc_skipQ (kq_code (kc_seq (kc_block (kc_seq (kc_region (kl_mv rfl (kl_mv rfl (kl_ixI rfl rfl (by assumption) (by omega) (by omega) (fun p6 a7 => ?_)))))))))
  refine kl_ld rfl (by assumption) (kl_mv rfl (kl_mv rfl (kl_len rfl (by assumption) (fun l8 => ?_))))
  refine kl_sub rfl rfl (by omega) ?_
  refine kl_mv rfl (kl_add rfl rfl (by omega) ?_)
  refine kl_lss rfl rfl ?_
  refine kl_nil (kq_code (kc_if rfl (fun c9 => ?_) (fun c9 => ?_)))
  ·skip
   have hcc := c9
   have hzt : z.toNat + 1 = q := by omega
   refine kc_seq (kc_tree (fun i => ([10] : List Nat).contains i) [] (by kernel_rfl) ?_)
   refine kt_q 0 (List.nil_sublist _) rfl (by kernel_rfl) (kl_mv rfl (kl_nil (kq_q (kt_q 1 (List.nil_sublist _) rfl (by kernel_rfl) (kl_mv rfl (kl_nil (kq_q (kt_q 2 (List.nil_sublist _) rfl (by kernel_rfl) ?_))))))))
   have e12 : z = (((Int.toNat z) : Nat) : Int) := by omega
   refine kl_slTake (i := (Int.toNat z)) rfl (by rw [← e12]; rfl) (by assumption) (by omega) (fun u10 h11 => ?_)
   refine kl_nil (kq_q (kt_q 4 (List.nil_sublist _) rfl (by kernel_rfl) (kl_mv rfl (kl_nil (kq_q (kt_q 5 (List.nil_sublist _) rfl (by kernel_rfl) (kl_mv rfl (kl_nil (kq_q (kt_q 6 (List.nil_sublist _) rfl (by kernel_rfl) (kl_ixI rfl rfl (by assumption) (by omega) (by omega) (fun p13 a14 => ?_))))))))))))
   refine kl_nil (kq_q (kt_q 7 (List.nil_sublist _) rfl (by kernel_rfl) (kl_ld rfl (by assumption) (kl_nil (kq_q (kt_q 8 (List.nil_sublist _) rfl (by kernel_rfl) (kl_add rfl rfl (by omega) ?_)))))))
   refine kl_nil (kq_q (kt_b 3 9 rfl rfl (by kernel_rfl) ?_ ?_))
   ·skip
    refine kl_callL rfl rfl (copyInts_ok (s.take (Int.toNat z)) (by simp; omega) (by assumption)) (fun v15 H16 f17 o18 => ?_)
    refine kl_nil (kq_a (List.nil_sublist _) (kt_a 9 rfl (by kernel_rfl) (kl_bs rfl rfl rfl (by decide) (ca rfl ca_nil) (fun v19 H20 f21 r22 s23 => ?_))))
    have h24 : Ints H20 v19 [((s.getD z.toNat 0) + (1 : Int))] := litInts (xs := [((s.getD z.toNat 0) + (1 : Int))]) (by simpa using s23)
    refine kl_nil (kq_a (List.nil_sublist _) (kt_a 10 rfl (by kernel_rfl) (kl_apL ((s.getD z.toNat 0) + (1 : Int)) rfl rfl o18 (by assumption) rfl (oc rfl oc_nil) (by first | omega | (simp; omega)) (by decide) (fun v25 H26 o27 f28 => ?_))))
    have f29 := f28 B f17 (Nat.le_refl _)
    refine kl_nil (kq_x rfl (kt_q 11 (List.nil_sublist _) rfl (by kernel_rfl) (kl_as rfl (kl_nil (kq_q (kt_end (by kernel_rfl) ?_))))))
    refine kq_code (kc_seq (kc_block (kc_loopL (A := Nat × List Int × Value × Hp) (fun zz => (1 ≤ zz.1 ∧ z.toNat + zz.1 ≤ s.length) ∧ (zz.2.1 = nxtP s z.toNat zz.1) ∧ OwnL 3 1 zz.2.2.2 noHp IntV zz.2.2.1 zz.2.1 ∧ Fr B zz.2.2.2) (fun zz => s.length - zz.1) (fun zz => [zz.2.2.2]) (fun zz => [(6, zz.2.2.1)]) (1, ((s.take (Int.toNat z)) ++ [((s.getD z.toNat 0) + (1 : Int))]), v25, H26) (pc 0 rfl (pc 1 rfl (pc 5 rfl (pc 10 rfl (pc 11 rfl (pc 14 rfl (pc 15 rfl (pc 16 rfl (pc 17 rfl (pc 18 rfl (pc 19 rfl (pc 20 rfl (pc 21 rfl (pc 22 rfl (pc 23 rfl (pc 24 rfl (pc 25 rfl (pc 26 rfl (pc 27 rfl (pc 28 rfl (pc 29 rfl (pc 30 rfl (pc 31 rfl (pc 32 rfl (pc 33 rfl (pc 34 rfl (pc 35 rfl pn))))))))))))))))))))))))))) (pc 6 rfl pn) rfl ⟨⟨Nat.le_refl _, by omega⟩, nxt_one, o27, f29⟩ ?_)))
    rintro ⟨p, out, v35, H32⟩ hJ36
    obtain ⟨hk30, hi31, o33, f34⟩ : (1 ≤ p ∧ z.toNat + p ≤ s.length) ∧ (out = nxtP s z.toNat p) ∧ OwnL 3 1 H32 noHp IntV v35 out ∧ Fr B H32 := hJ36
    change KC _ _ (_) [H32] _ ([(6, v35)] ++ _)
    have hol : out.length = z.toNat + p := (by rw [hi31]; exact nxt_len (by omega))
    have hov := nxt_lastZ hi31 (by omega) (by omega)
    refine kc_seq (kc_seq (kc_region (kl_mv rfl (kl_lenL rfl o33 (fun l37 => ?_)))))
    refine kl_mv rfl (kl_len rfl (by assumption) (fun l38 => ?_))
    refine kl_lss rfl rfl ?_
    refine kl_nil (kq_code (kc_if rfl (fun c39 => ?_) (fun c39 => ?_)))
    ·skip
     refine kc_skipQ (kq_code (kc_block (kc_region (kl_mv rfl (kl_mv rfl (kl_mv rfl (kl_lenL rfl o33 (fun l40 => ?_))))))))
     refine kl_sub rfl rfl (by omega) ?_
     refine kl_ixL rfl rfl (by assumption) (by omega) (by omega) (fun p41 q42 => ?_)
     refine kl_ldLI rfl (by assumption) (by assumption) (by omega) ?_
     refine kl_add rfl rfl (by omega) ?_
     refine kl_bs rfl rfl rfl (by decide) (ca rfl ca_nil) (fun v43 H44 f45 r46 s47 => ?_)
     have h48 : Ints H44 v43 [((out.getD (((out.length : Int) - (1 : Int)).toNat) 0) + (1 : Int))] := litInts (xs := [((out.getD (((out.length : Int) - (1 : Int)).toNat) 0) + (1 : Int))]) (by simpa using s47)
     refine kl_apL ((out.getD (((out.length : Int) - (1 : Int)).toNat) 0) + (1 : Int)) rfl rfl o33 (by assumption) rfl (oc rfl oc_nil) (by first | omega | (simp; omega)) (by decide) (fun v49 H50 o51 f52 => ?_)
     have f53 := f52 B f34 (Nat.le_refl _)
     refine kl_as rfl (kl_nil (kq_take [H50] ?_))
     refine kq_roundL ((p + 1), (out ++ [((out.getD (((out.length : Int) - (1 : Int)).toNat) 0) + (1 : Int))]), v49, H50) (by omega) (⟨⟨by omega, by omega⟩, (nxt_step hi31 (by omega) (by omega)), o51, f53⟩) (pc 6 rfl pn) (pc 0 rfl (pc 1 rfl (pc 5 rfl (pc 10 rfl (pc 11 rfl (pc 14 rfl (pc 15 rfl (pc 16 rfl (pc 17 rfl (pc 18 rfl (pc 19 rfl (pc 20 rfl (pc 21 rfl (pc 22 rfl (pc 23 rfl (pc 24 rfl (pc 25 rfl (pc 26 rfl (pc 27 rfl (pc 28 rfl (pc 29 rfl (pc 30 rfl (pc 31 rfl (pc 32 rfl (pc 33 rfl (pc 34 rfl (pc 35 rfl pn))))))))))))))))))))))))))) rfl (List.Sublist.refl _)
    ·skip
     refine kc_exit (kq_code (kc_seq (kc_region (kl_mv rfl (kl_as rfl (kl_nil (kq_code (kc_ret ?_))))))))
     have e9 : out = nextS s n := by (first | exact hzz.symm | exact nxt_endZ hi31 (by omega) (by omega) (by omega) hi3 hzt hcc)
     exact kq_ret rfl rfl H32 f34 (e9 ▸ o33)
   ·skip
    refine kl_bs rfl rfl rfl (by decide) (ca rfl ca_nil) (fun v54 H55 f56 r57 s58 => ?_)
    have h59 : Ints H55 v54 [((s.getD z.toNat 0) + (1 : Int))] := litInts (xs := [((s.getD z.toNat 0) + (1 : Int))]) (by simpa using s58)
    refine kl_nil (kq_a (List.nil_sublist _) (kt_a 3 rfl (by kernel_rfl) (kl_callL rfl rfl (copyInts_ok (s.take (Int.toNat z)) (by simp; omega) (by assumption)) (fun v60 H61 f62 o63 => ?_))))
    refine kl_nil (kq_a (List.nil_sublist _) (kt_a 10 rfl (by kernel_rfl) (kl_apL ((s.getD z.toNat 0) + (1 : Int)) rfl rfl o63 (by assumption) rfl (oc rfl oc_nil) (by first | omega | (simp; omega)) (by decide) (fun v64 H65 o66 f67 => ?_))))
    have f68 := f67 B f62 (Nat.le_refl _)
    refine kl_nil (kq_x rfl (kt_q 11 (List.nil_sublist _) rfl (by kernel_rfl) (kl_as rfl (kl_nil (kq_q (kt_end (by kernel_rfl) ?_))))))
    refine kq_code (kc_seq (kc_block (kc_loopL (A := Nat × List Int × Value × Hp) (fun zz => (1 ≤ zz.1 ∧ z.toNat + zz.1 ≤ s.length) ∧ (zz.2.1 = nxtP s z.toNat zz.1) ∧ OwnL 3 1 zz.2.2.2 noHp IntV zz.2.2.1 zz.2.1 ∧ Fr B zz.2.2.2) (fun zz => s.length - zz.1) (fun zz => [zz.2.2.2]) (fun zz => [(6, zz.2.2.1)]) (1, ((s.take (Int.toNat z)) ++ [((s.getD z.toNat 0) + (1 : Int))]), v64, H65) (pc 0 rfl (pc 1 rfl (pc 5 rfl (pc 10 rfl (pc 11 rfl (pc 14 rfl (pc 15 rfl (pc 16 rfl (pc 17 rfl (pc 18 rfl (pc 19 rfl (pc 20 rfl (pc 21 rfl (pc 22 rfl (pc 23 rfl (pc 24 rfl (pc 25 rfl (pc 26 rfl (pc 27 rfl (pc 28 rfl (pc 29 rfl (pc 30 rfl (pc 31 rfl (pc 32 rfl (pc 33 rfl (pc 34 rfl (pc 35 rfl pn))))))))))))))))))))))))))) (pc 6 rfl pn) rfl ⟨⟨Nat.le_refl _, by omega⟩, nxt_one, o66, f68⟩ ?_)))
    rintro ⟨p, out, v74, H71⟩ hJ75
    obtain ⟨hk69, hi70, o72, f73⟩ : (1 ≤ p ∧ z.toNat + p ≤ s.length) ∧ (out = nxtP s z.toNat p) ∧ OwnL 3 1 H71 noHp IntV v74 out ∧ Fr B H71 := hJ75
    change KC _ _ (_) [H71] _ ([(6, v74)] ++ _)
    have hol : out.length = z.toNat + p := (by rw [hi70]; exact nxt_len (by omega))
    have hov := nxt_lastZ hi70 (by omega) (by omega)
    refine kc_seq (kc_seq (kc_region (kl_mv rfl (kl_lenL rfl o72 (fun l76 => ?_)))))
    refine kl_mv rfl (kl_len rfl (by assumption) (fun l77 => ?_))
    refine kl_lss rfl rfl ?_
    refine kl_nil (kq_code (kc_if rfl (fun c78 => ?_) (fun c78 => ?_)))
    ·skip
     refine kc_skipQ (kq_code (kc_block (kc_region (kl_mv rfl (kl_mv rfl (kl_mv rfl (kl_lenL rfl o72 (fun l79 => ?_))))))))
     refine kl_sub rfl rfl (by omega) ?_
     refine kl_ixL rfl rfl (by assumption) (by omega) (by omega) (fun p80 q81 => ?_)
     refine kl_ldLI rfl (by assumption) (by assumption) (by omega) ?_
     refine kl_add rfl rfl (by omega) ?_
     refine kl_bs rfl rfl rfl (by decide) (ca rfl ca_nil) (fun v82 H83 f84 r85 s86 => ?_)
     have h87 : Ints H83 v82 [((out.getD (((out.length : Int) - (1 : Int)).toNat) 0) + (1 : Int))] := litInts (xs := [((out.getD (((out.length : Int) - (1 : Int)).toNat) 0) + (1 : Int))]) (by simpa using s86)
     refine kl_apL ((out.getD (((out.length : Int) - (1 : Int)).toNat) 0) + (1 : Int)) rfl rfl o72 (by assumption) rfl (oc rfl oc_nil) (by first | omega | (simp; omega)) (by decide) (fun v88 H89 o90 f91 => ?_)
     have f92 := f91 B f73 (Nat.le_refl _)
     refine kl_as rfl (kl_nil (kq_take [H89] ?_))
     refine kq_roundL ((p + 1), (out ++ [((out.getD (((out.length : Int) - (1 : Int)).toNat) 0) + (1 : Int))]), v88, H89) (by omega) (⟨⟨by omega, by omega⟩, (nxt_step hi70 (by omega) (by omega)), o90, f92⟩) (pc 6 rfl pn) (pc 0 rfl (pc 1 rfl (pc 5 rfl (pc 10 rfl (pc 11 rfl (pc 14 rfl (pc 15 rfl (pc 16 rfl (pc 17 rfl (pc 18 rfl (pc 19 rfl (pc 20 rfl (pc 21 rfl (pc 22 rfl (pc 23 rfl (pc 24 rfl (pc 25 rfl (pc 26 rfl (pc 27 rfl (pc 28 rfl (pc 29 rfl (pc 30 rfl (pc 31 rfl (pc 32 rfl (pc 33 rfl (pc 34 rfl (pc 35 rfl pn))))))))))))))))))))))))))) rfl (List.Sublist.refl _)
    ·skip
     refine kc_exit (kq_code (kc_seq (kc_region (kl_mv rfl (kl_as rfl (kl_nil (kq_code (kc_ret ?_))))))))
     have e9 : out = nextS s n := by (first | exact hzz.symm | exact nxt_endZ hi70 (by omega) (by omega) (by omega) hi3 hzt hcc)
     exact kq_ret rfl rfl H71 f73 (e9 ▸ o72)
  ·skip
   have hzt : z.toNat + 1 = q := by omega
   refine kc_skipQ (kq_code (kc_region (kl_mv rfl (kl_sub rfl rfl (by omega) ?_))))
   refine kl_as rfl (kl_nil (kq_round0 ((q - 1), (z - (1 : Int))) (by omega) (⟨(by omega), ⟨by dsimp only; omega, nxt_noZ hi3 hzt (by assumption)⟩⟩) (pc 5 rfl pn) (pc 0 rfl (pc 1 rfl pn)) (List.Sublist.refl _)))
 ·skip
  have hzz : nextS s n = [] := (by rw [hi3.2, show q = 0 from by omega]; rfl)
  refine kc_exit (kq_code (kc_seq (kc_region (kl_bsI [] rfl rfl rfl (by decide) (fun v93 H94 f95 o96 => ?_)))))
  refine kl_as rfl (kl_nil (kq_code (kc_ret ?_)))
  have e9 : [] = nextS s n := by (first | exact hzz.symm | exact nxt_endZ hi70 (by omega) (by omega) (by omega) hi3 hzt hcc)
  exact kq_ret rfl rfl H94 f95 (e9 ▸ o96)
theorem minS_ok {Hmd : Hp} {vmd : Value} {Hmc : Hp} {vmc : Value} {Hobj : Hp} {vobj : Value} (m : Mod) (obj : List Int) (hM : MOk m) (ho : obj.length = m.doms.length) (hO : Coef obj) (hmd : Ints Hmd vmd m.doms) (hmc : Cons Hmc vmc m.cons) (hobj : Ints Hobj vobj obj) : Spec Tryz.prog 31 [.agg #[vmd, vmc], vobj] [Hmd, Hmc, Hobj] (fun Hq vq => ∃ uq0 : Value, vq = .tuple #[uq0, .bool ((bestI (fun x => dotTo obj x x.length) (sols m)).2)] ∧ Ints Hq uq0 ((bestI (fun x => dotTo obj x x.length) (sols m)).1)) := by
 have hn := hM.n
 have hfw := sols_few hM
 refine spec_of Tryz.func31 rfl rfl rfl (fun B => ?_)
 refine kc_seq (kc_region (kl_box rfl rfl (fun p1 H2 f3 a4 => ?_)))
 refine kl_as rfl (kl_as rfl (kl_nil (kq_code (kc_seq (kc_region (kl_ldS rfl (by assumption) rfl ?_))))))
 refine kl_call rfl rfl (solve_ok m hM (by assumption) (by assumption)) (fun v5 H6 f7 h8 => ?_)
 obtain ⟨z11, z14, u12, rfl, h13, h10⟩ := h8
 subst h10
 refine kl_mv rfl (kl_xt rfl rfl (kl_xt rfl rfl (kl_as rfl (kl_as rfl (kl_nil (kq_code (kc_seq (kc_region (kl_as rfl (kl_nil (kq_code (kc_seq ?_))))))))))))
 refine kc_seq (kc_region (kl_as rfl (kl_nil (kq_code (kc_block (kc_loop0 (A := Nat × Int) (fun zz => (zz.1 ≤ (sols m).length) ∧ (zz.2 = argTo (fun x => dotTo obj x x.length) (sols m) zz.1)) (fun zz => (sols m).length - zz.1) (fun zz => [(9, .int .i64 (zz.1 : Int)), (8, .int .i64 zz.2)]) (0, (-1 : Int)) (pc 1 rfl (pc 4 rfl (pc 5 rfl (pc 6 rfl pn)))) (pc 9 rfl (pc 8 rfl pn)) ⟨Nat.zero_le _, rfl⟩ ?_))))))
 rintro ⟨k, z⟩ hJ17
 obtain ⟨hk15, hi16⟩ : (k ≤ (sols m).length) ∧ (z = argTo (fun x => dotTo obj x x.length) (sols m) k) := hJ17
 change KC _ _ (_) _ _ ([(9, .int .i64 (k : Int)), (8, .int .i64 z)] ++ _)
 refine kc_seq (kc_seq (kc_region (kl_mv rfl (kl_mv rfl (kl_len rfl (by assumption) (fun l18 => ?_))))))
 refine kl_lss rfl rfl ?_
 refine kl_nil (kq_code (kc_if rfl (fun c19 => ?_) (fun c19 => ?_)))
 ·skip
  have hsk := sol_at hM ho (by omega : k < (sols m).length)
  have hin := arg_in hi16
  refine kc_skipQ (kq_code (kc_seq (kc_block (kc_seq (kc_tree (fun i => ([14] : List Nat).contains i) [] (by kernel_rfl) ?_)))))
  refine kt_q 0 (List.nil_sublist _) rfl (by kernel_rfl) (kl_mv rfl (kl_nil (kq_q (kt_q 1 (List.nil_sublist _) rfl (by kernel_rfl) (kl_lss rfl rfl ?_)))))
  refine kl_nil (kq_q (kt_q 2 (List.nil_sublist _) rfl (by kernel_rfl) (kl_mv rfl (kl_nil (kq_q ?_)))))
  rcases Bool.eq_false_or_eq_true (decide (z < (0 : Int))) with g20 | g20
  ·skip
   have g20p := of_decide_eq_true g20
   refine kt_q 3 (List.nil_sublist _) rfl (by kernel_rfl) (kl_gF rfl rfl g20 (kl_nil (kq_q (kt_q 4 (List.nil_sublist _) rfl (by kernel_rfl) (kl_gF rfl rfl g20 (kl_nil (kq_q (kt_q 5 (List.nil_sublist _) rfl (by kernel_rfl) (kl_gF rfl rfl g20 (kl_nil (kq_q ?_)))))))))))
   refine kt_q 6 (List.nil_sublist _) rfl (by kernel_rfl) (kl_gF rfl rfl g20 (kl_nil (kq_q (kt_q 7 (List.nil_sublist _) rfl (by kernel_rfl) (kl_gF rfl rfl g20 (kl_nil (kq_q (kt_q 9 (List.nil_sublist _) rfl (by kernel_rfl) (kl_gF rfl rfl g20 (kl_nil (kq_q ?_)))))))))))
   refine kt_q 10 (List.nil_sublist _) rfl (by kernel_rfl) (kl_gF rfl rfl g20 (kl_nil (kq_q (kt_q 11 (List.nil_sublist _) rfl (by kernel_rfl) (kl_gF rfl rfl g20 (kl_nil (kq_q (kt_q 12 (List.nil_sublist _) rfl (by kernel_rfl) (kl_gF rfl rfl g20 (kl_nil (kq_q ?_)))))))))))
   refine kt_q 13 (List.nil_sublist _) rfl (by kernel_rfl) (kl_gF rfl rfl g20 (kl_nil (kq_q (kt_a 8 rfl (by kernel_rfl) (kl_gF rfl rfl g20 (kl_nil (kq_a (List.nil_sublist _) (kt_a 14 rfl (by kernel_rfl) (kl_gF rfl rfl g20 (kl_nil (kq_x rfl ?_)))))))))))
   refine kt_q 15 (List.nil_sublist _) rfl (by kernel_rfl) (kl_gF rfl rfl g20 (kl_nil (kq_q (kt_q 16 (List.nil_sublist _) rfl (by kernel_rfl) (kl_pickT rfl g20 rfl ?_)))))
   refine kl_nil (kq_q (kt_end (by kernel_rfl) ?_))
   refine kq_code (kc_cond rfl (fun c21 => ?_) (fun c21 => ?_))
   ·skip
    have c21r := c21
    try simp only [smpC, decide_eq_true_eq, decide_eq_false_iff_not] at c21
    refine kc_region (kl_mv rfl (kl_as rfl (kl_nil (kq_code (kc_region (kl_mv rfl (kl_inc rfl rfl (by omega) ?_)))))))
    refine kl_as rfl (kl_nil (kq_round0 ((k + 1), (k : Int)) (by omega) (⟨by omega, (by first | exact arg_T hi16 (.inl (by assumption)) | exact arg_T hi16 (.inr (by assumption)) | exact arg_F hi16 (fun h9 => h9.elim (by assumption) (by assumption)))⟩) (pc 9 rfl (pc 8 rfl pn)) (pc 1 rfl (pc 4 rfl (pc 5 rfl (pc 6 rfl pn)))) (List.Sublist.refl _)))
   ·skip
    have c21r := c21
    try simp only [smpC, decide_eq_true_eq, decide_eq_false_iff_not] at c21
    exact absurd c21 (by decide)
  ·skip
   have g20p := of_decide_eq_false g20
   have hsb := sol_at hM ho (by omega : z.toNat < (sols m).length)
   refine kt_q 3 (List.nil_sublist _) rfl (by kernel_rfl) (kl_gT rfl rfl g20 (kl_mv rfl (kl_nil (kq_q (kt_q 4 (List.nil_sublist _) rfl (by kernel_rfl) (kl_gT rfl rfl g20 (kl_mv rfl (kl_nil (kq_q (kt_q 5 (List.nil_sublist _) rfl (by kernel_rfl) ?_))))))))))
   refine kl_gT rfl rfl g20 (kl_mv rfl (kl_nil (kq_q (kt_q 6 (List.nil_sublist _) rfl (by kernel_rfl) (kl_gT rfl rfl g20 (kl_inS rfl rfl (by assumption) (by omega) (fun p22 u24 h25 a23 => ?_)))))))
   refine kl_nil (kq_q (kt_q 7 (List.nil_sublist _) rfl (by kernel_rfl) (kl_gT rfl rfl g20 (kl_ld rfl (by assumption) (kl_nil (kq_q (kt_q 9 (List.nil_sublist _) rfl (by kernel_rfl) (kl_gT rfl rfl g20 (kl_mv rfl (kl_nil (kq_q ?_)))))))))))
   refine kt_q 10 (List.nil_sublist _) rfl (by kernel_rfl) (kl_gT rfl rfl g20 (kl_mv rfl (kl_nil (kq_q (kt_q 11 (List.nil_sublist _) rfl (by kernel_rfl) (kl_gT rfl rfl g20 (kl_mv rfl (kl_nil (kq_q (kt_q 12 (List.nil_sublist _) rfl (by kernel_rfl) ?_))))))))))
   refine kl_gT rfl rfl g20 (kl_ixS rfl rfl (by assumption) (by omega) (by omega) (fun p26 u28 h29 a27 => ?_))
   refine kl_nil (kq_q (kt_q 13 (List.nil_sublist _) rfl (by kernel_rfl) (kl_gT rfl rfl g20 (kl_ld rfl (by assumption) (kl_nil (kq_q (kt_a 8 rfl (by kernel_rfl) (kl_gT rfl rfl g20 (kl_callP rfl rfl (svalue_ok obj ((sols m).getD k []) hO hsk.1 hsk.2.1 hsk.2.2 (by assumption) (by assumption)) ?_)))))))))
   refine kl_nil (kq_a (List.nil_sublist _) (kt_a 14 rfl (by kernel_rfl) (kl_gT rfl rfl g20 (kl_callP rfl rfl (svalue_ok obj ((sols m).getD z.toNat []) hO hsb.1 hsb.2.1 hsb.2.2 (by assumption) (by assumption)) ?_))))
   refine kl_nil (kq_x rfl (kt_q 15 (List.nil_sublist _) rfl (by kernel_rfl) (kl_gT rfl rfl g20 (kl_lss rfl rfl ?_))))
   refine kl_nil (kq_q (kt_q 16 (List.nil_sublist _) rfl (by kernel_rfl) (kl_pickF rfl g20 rfl ?_)))
   refine kl_nil (kq_q (kt_end (by kernel_rfl) ?_))
   refine kq_code (kc_if rfl (fun c30 => ?_) (fun c30 => ?_))
   ·skip
    refine kc_region (kl_mv rfl (kl_as rfl (kl_nil (kq_code (kc_region (kl_mv rfl (kl_inc rfl rfl (by omega) ?_)))))))
    refine kl_as rfl (kl_nil (kq_round0 ((k + 1), (k : Int)) (by omega) (⟨by omega, (by first | exact arg_T hi16 (.inl (by assumption)) | exact arg_T hi16 (.inr (by assumption)) | exact arg_F hi16 (fun h9 => h9.elim (by assumption) (by assumption)))⟩) (pc 9 rfl (pc 8 rfl pn)) (pc 1 rfl (pc 4 rfl (pc 5 rfl (pc 6 rfl pn)))) (List.Sublist.refl _)))
   ·skip
    refine kc_skipQ (kq_code (kc_region (kl_mv rfl (kl_inc rfl rfl (by omega) ?_))))
    refine kl_as rfl (kl_nil (kq_round0 ((k + 1), z) (by omega) (⟨by omega, (by first | exact arg_T hi16 (.inl (by assumption)) | exact arg_T hi16 (.inr (by assumption)) | exact arg_F hi16 (fun h9 => h9.elim (by assumption) (by assumption)))⟩) (pc 9 rfl (pc 8 rfl pn)) (pc 1 rfl (pc 4 rfl (pc 5 rfl (pc 6 rfl pn)))) (List.Sublist.refl _)))
 ·skip
  have hin := arg_in hi16
  have hae : z = argTo (fun x => dotTo obj x x.length) (sols m) (sols m).length := (by rw [hi16, show k = (sols m).length from by omega])
  refine kc_exit (kq_code (kc_seq (kc_seq (kc_region (kl_mv rfl (kl_lss rfl rfl ?_))))))
  refine kl_nil (kq_code (kc_if rfl (fun c31 => ?_) (fun c31 => ?_)))
  ·skip
   refine kc_seq (kc_region (kl_as rfl (kl_as rfl (kl_nil (kq_code (kc_ret (kq_ret2 rfl rfl rfl noHp (fr_no _) ⟨_, tup2 rfl (congrArg Value.bool (by rw [best_none hae (by assumption)])), ?_⟩)))))))
   exact (by have e9 : (bestI (fun x => dotTo obj x x.length) (sols m)).1 = [] := (by rw [best_none hae (by assumption)]); rw [e9]; exact Sl.nil)
  ·skip
   refine kc_skipQ (kq_code (kc_seq (kc_region (kl_mv rfl (kl_mv rfl (kl_ixS rfl rfl (by assumption) (by omega) (by omega) (fun p32 u34 h35 a33 => ?_)))))))
   refine kl_ld rfl (by assumption) (kl_as rfl (kl_as rfl (kl_nil (kq_code (kc_ret (kq_ret2 rfl rfl rfl H6 f7 ⟨_, tup2 rfl (congrArg Value.bool (by rw [best_arg hae (by assumption)])), ?_⟩))))))
   exact (by have e9 : (bestI (fun x => dotTo obj x x.length) (sols m)).1 = ((sols m).getD z.toNat []) := (by rw [best_arg hae (by assumption)]); rw [e9]; assumption)
theorem lnsS_ok {Hmd : Hp} {vmd : Value} {Hmc : Hp} {vmc : Value} {Hobj : Hp} {vobj : Value} {Hx : Hp} {vx : Value} (m : Mod) (obj : List Int) (x : List Int) (k : Int) (hmd : Ints Hmd vmd m.doms) (hmc : Cons Hmc vmc m.cons) (hobj : Ints Hobj vobj obj) (hx : Ints Hx vx x) : Spec Tryz.prog 7 [.agg #[vmd, vmc], vobj, vx, .int .i64 k] [Hmd, Hmc, Hobj, Hx] (fun Hq vq => ∃ uq0 : Value, vq = .tuple #[uq0, .bool ((lnsV m obj x k).2)] ∧ Ints Hq uq0 ((lnsV m obj x k).1)) := by
 refine spec_of Tryz.func7 rfl rfl rfl (fun B => ?_)
 refine kc_seq (kc_region (kl_box rfl rfl (fun p1 H2 f3 a4 => ?_)))
 refine kl_as rfl (kl_as rfl (kl_nil (kq_code (kc_seq (kc_seq (kc_region (kl_ldS rfl (by assumption) rfl ?_)))))))
 refine kl_callP rfl rfl (svalidMod_ok m (by assumption) (by assumption)) ?_
 refine kl_not rfl (kl_mv rfl (kl_join 5 22 (.bool (!(validModB m) || !(objOkS m obj))) (pc 1 rfl (pc 2 rfl (pc 3 rfl (pc 4 rfl (pc 8 rfl (pc 9 rfl (pc 17 rfl pn))))))) (fun J6 => ?_) ?_))
 ·rcases Bool.eq_false_or_eq_true (!(validModB m)) with g5 | g5
  ·skip
   refine kl_gF rfl rfl g5 (kl_gF rfl rfl g5 (kl_gF rfl rfl g5 (kl_gF rfl rfl g5 (kl_orT (!(objOkS m obj)) rfl rfl g5 ?_))))
   exact J6 _ (pc 22 rfl (pc 1 rfl (pc 2 rfl (pc 3 rfl (pc 4 rfl (pc 8 rfl (pc 9 rfl (pc 17 rfl pn))))))))
  ·skip
   have g5p := g5
   try simp only [Bool.not_eq_true', Bool.not_eq_false', decide_eq_true_eq, decide_eq_false_iff_not, Bool.and_eq_true, Bool.or_eq_false_iff, withinB_iff] at g5p
   refine kl_gT rfl rfl g5 (kl_ldS rfl (by assumption) rfl ?_)
   refine kl_gT rfl rfl g5 (kl_mv rfl (kl_gT rfl rfl g5 (kl_callP rfl rfl (validObjective_ok m obj (by assumption) (by assumption) (by assumption)) ?_)))
   refine kl_gT rfl rfl g5 (kl_not rfl (kl_orF rfl rfl g5 ?_))
   exact J6 _ (pc 22 rfl (pc 1 rfl (pc 2 rfl (pc 3 rfl (pc 4 rfl (pc 8 rfl (pc 9 rfl (pc 17 rfl pn))))))))
 refine kl_mv rfl (kl_join 7 30 (.bool ((!(validModB m) || !(objOkS m obj)) || decide ((x.length : Int) ≠ (m.doms.length : Int)))) (pc 1 rfl (pc 2 rfl (pc 3 rfl (pc 4 rfl (pc 8 rfl (pc 9 rfl (pc 23 rfl pn))))))) (fun J12 => ?_) ?_)
 ·rcases Bool.eq_false_or_eq_true (!(validModB m) || !(objOkS m obj)) with g7 | g7
  ·skip
   refine kl_gF rfl rfl g7 (kl_gF rfl rfl g7 (kl_gF rfl rfl g7 (kl_gF rfl rfl g7 (kl_gF rfl rfl g7 (kl_gF rfl rfl g7 (kl_orT (decide ((x.length : Int) ≠ (m.doms.length : Int))) rfl rfl g7 ?_))))))
   exact J12 _ (pc 30 rfl (pc 1 rfl (pc 2 rfl (pc 3 rfl (pc 4 rfl (pc 8 rfl (pc 9 rfl (pc 23 rfl pn))))))))
  ·skip
   have g7p := g7
   try simp only [Bool.not_eq_true', Bool.not_eq_false', decide_eq_true_eq, decide_eq_false_iff_not, Bool.and_eq_true, Bool.or_eq_false_iff, withinB_iff] at g7p
   refine kl_gT rfl rfl g7 (kl_mv rfl (kl_gT rfl rfl g7 (kl_len rfl (by assumption) (fun l8 => ?_))))
   refine kl_gT rfl rfl g7 (kl_fd rfl (by assumption) (fun p9 a10 => ?_))
   refine kl_gT rfl rfl g7 (kl_ld rfl (by assumption) (kl_gT rfl rfl g7 (kl_len rfl (by assumption) (fun l11 => ?_))))
   refine kl_gT rfl rfl g7 (kl_neq rfl rfl ?_)
   refine kl_orF rfl rfl g7 ?_
   exact J12 _ (pc 30 rfl (pc 1 rfl (pc 2 rfl (pc 3 rfl (pc 4 rfl (pc 8 rfl (pc 9 rfl (pc 23 rfl pn))))))))
 refine kl_mv rfl (kl_join 5 36 (.bool (((!(validModB m) || !(objOkS m obj)) || decide ((x.length : Int) ≠ (m.doms.length : Int))) || !(isSolS m x))) (pc 1 rfl (pc 2 rfl (pc 3 rfl (pc 4 rfl (pc 8 rfl (pc 9 rfl (pc 31 rfl pn))))))) (fun J14 => ?_) ?_)
 ·rcases Bool.eq_false_or_eq_true ((!(validModB m) || !(objOkS m obj)) || decide ((x.length : Int) ≠ (m.doms.length : Int))) with g13 | g13
  ·skip
   refine kl_gF rfl rfl g13 (kl_gF rfl rfl g13 (kl_gF rfl rfl g13 (kl_gF rfl rfl g13 (kl_orT (!(isSolS m x)) rfl rfl g13 ?_))))
   exact J14 _ (pc 36 rfl (pc 1 rfl (pc 2 rfl (pc 3 rfl (pc 4 rfl (pc 8 rfl (pc 9 rfl (pc 31 rfl pn))))))))
  ·skip
   have g13p := g13
   try simp only [Bool.not_eq_true', Bool.not_eq_false', decide_eq_true_eq, decide_eq_false_iff_not, Bool.and_eq_true, Bool.or_eq_false_iff, withinB_iff] at g13p
   have hsm : MOk m := ⟨g13p.1.1⟩
   have hsl : x.length = m.doms.length := (by have h9 := g13p.2; omega)
   refine kl_gT rfl rfl g13 (kl_ldS rfl (by assumption) rfl ?_)
   refine kl_gT rfl rfl g13 (kl_mv rfl (kl_gT rfl rfl g13 (kl_callP rfl rfl (sisSol_ok m x hsm hsl (by assumption) (by assumption) (by assumption)) ?_)))
   refine kl_gT rfl rfl g13 (kl_not rfl (kl_orF rfl rfl g13 ?_))
   exact J14 _ (pc 36 rfl (pc 1 rfl (pc 2 rfl (pc 3 rfl (pc 4 rfl (pc 8 rfl (pc 9 rfl (pc 31 rfl pn))))))))
 refine kl_mv rfl (kl_join 6 43 (.bool ((((!(validModB m) || !(objOkS m obj)) || decide ((x.length : Int) ≠ (m.doms.length : Int))) || !(isSolS m x)) || !(withinB k (1 : Int) (x.length : Int)))) (pc 1 rfl (pc 2 rfl (pc 3 rfl (pc 4 rfl (pc 8 rfl (pc 9 rfl (pc 37 rfl pn))))))) (fun J17 => ?_) ?_)
 ·rcases Bool.eq_false_or_eq_true (((!(validModB m) || !(objOkS m obj)) || decide ((x.length : Int) ≠ (m.doms.length : Int))) || !(isSolS m x)) with g15 | g15
  ·skip
   refine kl_gF rfl rfl g15 (kl_gF rfl rfl g15 (kl_gF rfl rfl g15 (kl_gF rfl rfl g15 (kl_gF rfl rfl g15 (kl_orT (!(withinB k (1 : Int) (x.length : Int))) rfl rfl g15 ?_)))))
   exact J17 _ (pc 43 rfl (pc 1 rfl (pc 2 rfl (pc 3 rfl (pc 4 rfl (pc 8 rfl (pc 9 rfl (pc 37 rfl pn))))))))
  ·skip
   have g15p := g15
   try simp only [Bool.not_eq_true', Bool.not_eq_false', decide_eq_true_eq, decide_eq_false_iff_not, Bool.and_eq_true, Bool.or_eq_false_iff, withinB_iff] at g15p
   refine kl_gT rfl rfl g15 (kl_mv rfl (kl_gT rfl rfl g15 (kl_mv rfl (kl_gT rfl rfl g15 (kl_len rfl (by assumption) (fun l16 => ?_))))))
   refine kl_gT rfl rfl g15 (kl_callP rfl rfl (inRange_ok k (1 : Int) (x.length : Int)) ?_)
   refine kl_gT rfl rfl g15 (kl_not rfl (kl_orF rfl rfl g15 ?_))
   exact J17 _ (pc 43 rfl (pc 1 rfl (pc 2 rfl (pc 3 rfl (pc 4 rfl (pc 8 rfl (pc 9 rfl (pc 37 rfl pn))))))))
 refine kl_nil (kq_code (kc_cond rfl (fun c18 => ?_) (fun c18 => ?_)))
 ·skip
  have c18r := c18
  try simp only [smpC, decide_eq_true_eq, decide_eq_false_iff_not] at c18
  refine kc_seq (kc_region (kl_as rfl (kl_as rfl (kl_nil (kq_code (kc_ret (kq_ret2 rfl rfl rfl noHp (fr_no _) ⟨_, tup2 rfl (congrArg Value.bool (by exact (ln_noS (by assumption)).2)), ?_⟩)))))))
  exact (by have e9 : (lnsV m obj x k).1 = [] := (by exact (ln_noS (by assumption)).1.symm); rw [e9]; exact Sl.nil)
 ·skip
  have c18r := c18
  try simp only [smpC, decide_eq_true_eq, decide_eq_false_iff_not] at c18
  have hok := ln_okS c18r
  have hg := lnOk hok
  have hn := hg.hM.n
  have hxl := sols_len hg.hx
  have hsb := sets_len hn.2 hg.hk
  refine kc_skipQ (kq_code (kc_seq (kc_region (kl_mv rfl (kl_call rfl rfl (copyInts_ok x (by omega) (by assumption)) (fun v19 H20 f21 o22 => ?_))))))
  have h23 := OwnL.ints o22
  refine kl_as rfl (kl_nil (kq_code (kc_seq (kc_seq (kc_region (kl_mv rfl (kl_callL rfl rfl (firstSub_ok k (by have := hg.k0; have := hg.hk; omega)) (fun v24 H25 f26 o27 => ?_))))))))
  refine kl_as rfl (kl_nil (kq_code (kc_block (kc_loopK (A := Nat × List Int × Value × Hp × List Int × Value × Hp) (fun zz => (zz.1 ≤ (setsL m.doms.length k.toNat).length) ∧ (zz.2.1 = (setsL m.doms.length k.toNat).getD zz.1 [] ∧ (zz.2.2.2.2.1 ∈ sols m ∧ ∀ r, LnsR m obj k.toNat zz.2.2.2.2.1 r → LnsR m obj k.toNat x r) ∧ ∀ q, q < zz.1 → impB m obj zz.2.2.2.2.1 ((setsL m.doms.length k.toNat).getD q []) = false) ∧ OwnL 3 1 zz.2.2.2.1 noHp IntV zz.2.2.1 zz.2.1 ∧ Fr B zz.2.2.2.1 ∧ Fr B zz.2.2.2.2.2.2 ∧ Ints zz.2.2.2.2.2.2 zz.2.2.2.2.2.1 zz.2.2.2.2.1) (fun zz => ((valO obj zz.2.2.2.2.1 + 1000).toNat * 8 + (7 - zz.1))) (fun zz => zz.2.2.2.2.2.2) (fun zz => [zz.2.2.2.1]) (fun zz => [(11, zz.2.2.1), (10, zz.2.2.2.2.2.1)]) (0, (natsI (List.range k.toNat)), v24, H25, x, v19, H20) (pc 1 rfl (pc 2 rfl (pc 3 rfl (pc 4 rfl (pc 8 rfl (pc 9 rfl pn)))))) (pc 11 rfl (pc 10 rfl pn)) rfl ⟨(Nat.zero_le _), ⟨hsb.2.2.symm, ⟨hg.hx, fun _ h => h⟩, fun i h => absurd h (Nat.not_lt_zero i)⟩, o27, f26, f21, (by assumption)⟩ ?_))))
  rintro ⟨i, s, v33, H30, nw, v34, K35⟩ hJ38
  obtain ⟨hk28, hi29, o31, f32, f36, h37⟩ : (i ≤ (setsL m.doms.length k.toNat).length) ∧ (s = (setsL m.doms.length k.toNat).getD i [] ∧ (nw ∈ sols m ∧ ∀ r, LnsR m obj k.toNat nw r → LnsR m obj k.toNat x r) ∧ ∀ q, q < i → impB m obj nw ((setsL m.doms.length k.toNat).getD q []) = false) ∧ OwnL 3 1 H30 noHp IntV v33 s ∧ Fr B H30 ∧ Fr B K35 ∧ Ints K35 v34 nw := hJ38
  change KC _ _ (K35 :: _) [H30] _ ([(11, v33), (10, v34)] ++ _)
  refine kc_seq (kc_seq (kc_region (kl_mv rfl (kl_lenL rfl o31 (fun l39 => ?_)))))
  refine kl_gtr rfl rfl ?_
  refine kl_nil (kq_code (kc_if rfl (fun c40 => ?_) (fun c40 => ?_)))
  ·skip
   have hil := ln_more hn.2 hg.hk hi29.1 c40
   have hsi := set_in hn.2 hg.hk hil
   rw [← hi29.1] at hsi
   have hnl := sols_len hi29.2.1.1
   have hnv := sols_vals hi29.2.1.1
   refine kc_skipQ (kq_code (kc_block (kc_seq (kc_region (kl_ldS rfl (by assumption) rfl ?_)))))
   refine kl_mv rfl (kl_mv rfl (kl_call rfl rfl (fixAllD_ok m nw s (ok_smallL hg.hM) hg.hM hnv hnl (by assumption) (by assumption) (by assumption) (OwnL.ints o31)) (fun v41 H42 f43 h44 => ?_)))
   obtain ⟨u45, u46, rfl, h47, h48⟩ := h44
   refine kl_mv rfl (kl_call rfl rfl (minS_ok (⟨nearT m.doms nw s nw.length, m.cons⟩) obj (near_mok hg.hM hnv hnl _) (by show obj.length = (nearT _ _ _ _).length; rw [near_len]; exact hg.ho) hg.hO (by assumption) (by assumption) (by assumption)) (fun v49 H50 f51 h52 => ?_))
   obtain ⟨u53, rfl, h54⟩ := h52
   refine kl_mv rfl (kl_xt rfl rfl (kl_xt rfl rfl (kl_as rfl (kl_as rfl (kl_nil (kq_code (kc_seq (kc_region (kl_mv rfl (kl_mv rfl (kl_join 8 69 (.bool (((bestI (fun x => dotTo obj x x.length) (sols (⟨nearT m.doms nw s nw.length, m.cons⟩))).2) && decide ((dotTo obj ((bestI (fun x => dotTo obj x x.length) (sols (⟨nearT m.doms nw s nw.length, m.cons⟩))).1) ((bestI (fun x => dotTo obj x x.length) (sols (⟨nearT m.doms nw s nw.length, m.cons⟩))).1).length) < (dotTo obj nw nw.length)))) (pc 1 rfl (pc 2 rfl (pc 3 rfl (pc 4 rfl (pc 8 rfl (pc 9 rfl (pc 10 rfl (pc 11 rfl (pc 12 rfl (pc 13 rfl (pc 48 rfl (pc 49 rfl (pc 50 rfl (pc 51 rfl (pc 52 rfl (pc 53 rfl (pc 54 rfl (pc 55 rfl (pc 56 rfl (pc 57 rfl (pc 58 rfl (pc 59 rfl (pc 60 rfl (pc 61 rfl pn)))))))))))))))))))))))) (fun J56 => ?_) ?_)))))))))))
   ·rcases Bool.eq_false_or_eq_true ((bestI (fun x => dotTo obj x x.length) (sols (⟨nearT m.doms nw s nw.length, m.cons⟩))).2) with g55 | g55
    ·skip
     have g55p := g55
     try simp only [Bool.not_eq_true', Bool.not_eq_false', decide_eq_true_eq, decide_eq_false_iff_not, Bool.and_eq_true, Bool.or_eq_false_iff, withinB_iff] at g55p
     have hyv := nb_y (obj := obj) hg.hM hnv hnl hg.ho (by exact g55)
     refine kl_gT rfl rfl g55 (kl_mv rfl (kl_gT rfl rfl g55 (kl_mv rfl (kl_gT rfl rfl g55 (kl_callP rfl rfl (svalue_ok obj ((bestI (fun x => dotTo obj x x.length) (sols (⟨nearT m.doms nw s nw.length, m.cons⟩))).1) hg.hO hyv.1 hyv.2.1 hyv.2.2 (by assumption) (by assumption)) ?_)))))
     refine kl_gT rfl rfl g55 (kl_mv rfl (kl_gT rfl rfl g55 (kl_mv rfl (kl_gT rfl rfl g55 (kl_callP rfl rfl (svalue_ok obj nw hg.hO hnv (by rw [hnl]; exact hg.ho) (by omega) (by assumption) (by assumption)) ?_)))))
     refine kl_gT rfl rfl g55 (kl_lss rfl rfl ?_)
     refine kl_andT rfl rfl g55 ?_
     exact J56 _ (pc 69 rfl (pc 1 rfl (pc 2 rfl (pc 3 rfl (pc 4 rfl (pc 8 rfl (pc 9 rfl (pc 10 rfl (pc 11 rfl (pc 12 rfl (pc 13 rfl (pc 48 rfl (pc 49 rfl (pc 50 rfl (pc 51 rfl (pc 52 rfl (pc 53 rfl (pc 54 rfl (pc 55 rfl (pc 56 rfl (pc 57 rfl (pc 58 rfl (pc 59 rfl (pc 60 rfl (pc 61 rfl pn)))))))))))))))))))))))))
    ·skip
     refine kl_gF rfl rfl g55 (kl_gF rfl rfl g55 (kl_gF rfl rfl g55 (kl_gF rfl rfl g55 (kl_gF rfl rfl g55 (kl_gF rfl rfl g55 (kl_gF rfl rfl g55 (kl_andF (decide ((dotTo obj ((bestI (fun x => dotTo obj x x.length) (sols (⟨nearT m.doms nw s nw.length, m.cons⟩))).1) ((bestI (fun x => dotTo obj x x.length) (sols (⟨nearT m.doms nw s nw.length, m.cons⟩))).1).length) < (dotTo obj nw nw.length))) rfl rfl g55 ?_)))))))
     exact J56 _ (pc 69 rfl (pc 1 rfl (pc 2 rfl (pc 3 rfl (pc 4 rfl (pc 8 rfl (pc 9 rfl (pc 10 rfl (pc 11 rfl (pc 12 rfl (pc 13 rfl (pc 48 rfl (pc 49 rfl (pc 50 rfl (pc 51 rfl (pc 52 rfl (pc 53 rfl (pc 54 rfl (pc 55 rfl (pc 56 rfl (pc 57 rfl (pc 58 rfl (pc 59 rfl (pc 60 rfl (pc 61 rfl pn)))))))))))))))))))))))))
   refine kl_nil (kq_code (kc_cond rfl (fun c57 => ?_) (fun c57 => ?_)))
   ·skip
    have c57r := c57
    try simp only [smpC, decide_eq_true_eq, decide_eq_false_iff_not] at c57
    have hi9a := hi29
    have hib : impB m obj nw s = true := c57r
    refine kc_seq (kc_region (kl_mv rfl (kl_as rfl (kl_nil (kq_code (kc_region (kl_mv rfl (kl_callL rfl rfl (firstSub_ok k (by have := hg.k0; have := hg.hk; omega)) (fun v58 H59 f60 o61 => ?_)))))))))
    refine kl_as rfl (kl_nil (kq_take [H59] ?_))
    refine kq_roundK (0, (natsI (List.range k.toNat)), v58, H59, ((bestI (fun x => dotTo obj x x.length) (sols (⟨nearT m.doms nw s nw.length, m.cons⟩))).1), u53, H50) (by (first | (dsimp only; omega) | (have h9 : (valO obj (bestI (fun x => dotTo obj x x.length) (sols ⟨nearT m.doms nw s nw.length, m.cons⟩)).1 + 1000).toNat < (valO obj nw + 1000).toNat := ln_mu hg hi9a.2.1.1 hib; dsimp only at h9 ⊢; omega))) (⟨(by omega), (by first | exact ⟨hsb.2.2.symm, ln_jumpS hg hi29.2.1 hi29.2.2 hil hi29.1 hib, fun i h => absurd h (Nat.not_lt_zero i)⟩ | exact ⟨ln_next hn.2 hg.hk hil hi29.1 hxl, hi29.2.1, ln_stepIS hi29.2.2 hi29.1 hib⟩), o61, f60, f51, (by assumption)⟩) (pc 11 rfl (pc 10 rfl pn)) (pc 1 rfl (pc 2 rfl (pc 3 rfl (pc 4 rfl (pc 8 rfl (pc 9 rfl pn)))))) rfl (List.Sublist.refl _)
   ·skip
    have c57r := c57
    try simp only [smpC, decide_eq_true_eq, decide_eq_false_iff_not] at c57
    have hib : impB m obj nw s = false := c57r
    refine kc_region (kl_mv rfl (kl_mv rfl (kl_len rfl (by assumption) (fun l62 => ?_))))
    refine kl_callL rfl rfl (nextSub_ok s (x.length : Int) hsi.1 hsi.2 (by omega) (OwnL.ints o31)) (fun v63 H64 f65 o66 => ?_)
    refine kl_as rfl (kl_nil (kq_take [H64] ?_))
    refine kq_roundK ((i + 1), (nextS s (x.length : Int)), v63, H64, nw, v34, K35) (by (first | (dsimp only; omega) | (have h9 : (valO obj (bestI (fun x => dotTo obj x x.length) (sols ⟨nearT m.doms nw s nw.length, m.cons⟩)).1 + 1000).toNat < (valO obj nw + 1000).toNat := ln_mu hg hi9a.2.1.1 hib; dsimp only at h9 ⊢; omega))) (⟨(by omega), (by first | exact ⟨hsb.2.2.symm, ln_jumpS hg hi29.2.1 hi29.2.2 hil hi29.1 hib, fun i h => absurd h (Nat.not_lt_zero i)⟩ | exact ⟨ln_next hn.2 hg.hk hil hi29.1 hxl, hi29.2.1, ln_stepIS hi29.2.2 hi29.1 hib⟩), o66, f65, f36, (by assumption)⟩) (pc 11 rfl (pc 10 rfl pn)) (pc 1 rfl (pc 2 rfl (pc 3 rfl (pc 4 rfl (pc 8 rfl (pc 9 rfl pn)))))) rfl (List.Sublist.refl _)
  ·skip
   have hie := ln_last hn.2 hg.hk hi29.1 c40
   refine kc_exit (kq_code (kc_seq (kc_region (kl_mv rfl (kl_as rfl (kl_as rfl (kl_nil (kq_code (kc_ret (kq_ret2 rfl rfl rfl K35 f36 ⟨_, tup2 rfl (congrArg Value.bool (by exact (ln_done hok hi29.2.1.2 hi29.2.2 hie).2)), ?_⟩))))))))))
   exact (by have e9 : (lnsV m obj x k).1 = nw := (by exact (ln_done hok hi29.2.1.2 hi29.2.2 hie).1.symm); rw [e9]; assumption)
end Go.Proofs.YtkfioalfofoikaaGreat
