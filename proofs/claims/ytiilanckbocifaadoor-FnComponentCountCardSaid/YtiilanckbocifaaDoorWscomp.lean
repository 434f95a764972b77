/- Walks of functions of the program: each returns what the plain function gives. Conditions: those that each statement names. -/
import Derived.Test.YtiilanckbocifaaDoorWreach
import Derived.Test.YtiilanckbocifaaDoorPureT
namespace Go.Proofs.YtiilanckbocifaaDoor
open Go
set_option linter.unusedSimpArgs false
set_option linter.unusedVariables false
theorem smallest_ok {Hxs : Hp} {vxs : Value} (xs : List Int) (hl : 1 ≤ xs.length) (hxs : Ints Hxs vxs xs) : SpecP Tryd.prog 16 [vxs] [Hxs] (.int .i64 (minL xs)) := by
 refine spec_of Tryd.func16 rfl rfl rfl (fun B => ?_)
 refine kc_seq (kc_region (kl_as rfl (kl_nil (kq_code (kc_seq (kc_region (kl_mv rfl (kl_inI (i := 0) rfl rfl (by assumption) (by omega) (fun p1 a2 => ?_)))))))))
 refine kl_ld rfl (by assumption) (kl_as rfl (kl_nil (kq_code (kc_seq (kc_seq (kc_region (kl_as rfl (kl_nil (kq_code (kc_block (kc_loop0 (A := Nat × Int) (fun zz => (1 ≤ zz.1 ∧ zz.1 ≤ xs.length) ∧ (zz.2 = mnTo xs zz.1)) (fun zz => xs.length - zz.1) (fun zz => [(4, .int .i64 (zz.1 : Int)), (3, .int .i64 zz.2)]) (1, (xs.getD 0 0)) (pc 0 rfl (pc 2 rfl pn)) (pc 4 rfl (pc 3 rfl pn)) ⟨⟨Nat.le_refl _, hl⟩, mn_one xs⟩ ?_)))))))))))
 rintro ⟨k, s⟩ hJ5
 obtain ⟨hk3, hi4⟩ : (1 ≤ k ∧ k ≤ xs.length) ∧ (s = mnTo xs k) := hJ5
 change KC _ _ (_) _ _ ([(4, .int .i64 (k : Int)), (3, .int .i64 s)] ++ _)
 refine kc_seq (kc_seq (kc_region (kl_mv rfl (kl_mv rfl (kl_len rfl (by assumption) (fun l6 => ?_))))))
 refine kl_lss rfl rfl ?_
 refine kl_nil (kq_code (kc_if rfl (fun c7 => ?_) (fun c7 => ?_)))
 ·skip
  refine kc_skipQ (kq_code (kc_seq (kc_block (kc_region (kl_mv rfl (kl_mv rfl (kl_mv rfl (kl_inI rfl rfl (by assumption) (by omega) (fun p8 a9 => ?_)))))))))
  refine kl_ld rfl (by assumption) (kl_min rfl rfl ?_)
  refine kl_as rfl (kl_nil (kq_code (kc_region (kl_mv rfl (kl_inc rfl rfl (by omega) ?_)))))
  refine kl_as rfl (kl_nil (kq_round0 ((k + 1), (min s (xs.getD k 0))) (by omega) (⟨by omega, (by rw [hi4]; rfl)⟩) (pc 4 rfl (pc 3 rfl pn)) (pc 0 rfl (pc 2 rfl pn)) (List.Sublist.refl _)))
 ·skip
  refine kc_exit (kq_code (kc_seq (kc_region (kl_mv rfl (kl_as rfl (kl_nil (kq_code (kc_ret (kq_retP rfl rfl (congrArg (Value.int .i64) ?_))))))))))
  rw [hi4, show k = xs.length from by omega]; rfl
theorem scomponents_ok {Hmd : Hp} {vmd : Value} {Hmc : Hp} {vmc : Value} (m : Mod) (hb : m.doms.length ≤ 1048576) (hmd : Ints Hmd vmd m.doms) (hmc : Cons Hmc vmc m.cons) : Spec Tryd.prog 7 [.agg #[vmd, vmc]] [Hmd, Hmc] (fun Hq vq => Ints Hq vq (compS m)) := by
 refine spec_of Tryd.func7 rfl rfl rfl (fun B => ?_)
 refine kc_seq (kc_region (kl_box rfl rfl (fun p1 H2 f3 a4 => ?_)))
 refine kl_as rfl (kl_nil (kq_code (kc_seq (kc_region (kl_bsI [] rfl rfl rfl (by decide) (fun v5 H6 f7 o8 => ?_))))))
 refine kl_as rfl (kl_nil (kq_code (kc_seq (kc_seq (kc_region (kl_ldS rfl (by assumption) rfl ?_))))))
 refine kl_callP rfl rfl (svalidMod_ok m (by assumption) (by assumption)) ?_
 refine kl_not rfl (kl_nil (kq_code (kc_cond rfl (fun c9 => ?_) (fun c9 => ?_))))
 ·skip
  have c9r := c9
  try simp only [smpC, decide_eq_true_eq, decide_eq_false_iff_not] at c9
  refine kc_seq (kc_region (kl_as rfl (kl_nil (kq_code (kc_ret ?_)))))
  exact kq_ret rfl rfl noHp (fr_no _) (by rw [show compS m = [] from if_neg (by simpa using (by assumption : (!(validModB m)) = true))]; exact Sl.nil)
 ·skip
  have c9r := c9
  try simp only [smpC, decide_eq_true_eq, decide_eq_false_iff_not] at c9
  have hm : validModB m = true := (by simpa using c9r)
  have hM : MOk m := ⟨hm⟩
  have hn := hM.n
  refine kc_skipQ (kq_code (kc_seq (kc_seq (kc_region (kl_as rfl (kl_nil (kq_code (kc_block (kc_loopL (A := Nat × List Int × Value × Hp) (fun zz => (zz.1 ≤ m.doms.length) ∧ (zz.2.1 = (List.range zz.1).map (fun v => minL (reachS m ((v : Nat) : Int) []))) ∧ OwnL 3 1 zz.2.2.2 noHp IntV zz.2.2.1 zz.2.1 ∧ Fr B zz.2.2.2) (fun zz => m.doms.length - zz.1) (fun zz => [zz.2.2.2]) (fun zz => [(4, .int .i64 (zz.1 : Int)), (3, zz.2.2.1)]) (0, ([]), v5, H6) (pc 1 rfl (pc 2 rfl pn)) (pc 4 rfl (pc 3 rfl pn)) rfl ⟨Nat.zero_le _, rfl, o8, f7⟩ ?_)))))))))
  rintro ⟨k, out, v15, H12⟩ hJ16
  obtain ⟨hk10, hi11, o13, f14⟩ : (k ≤ m.doms.length) ∧ (out = (List.range k).map (fun v => minL (reachS m ((v : Nat) : Int) []))) ∧ OwnL 3 1 H12 noHp IntV v15 out ∧ Fr B H12 := hJ16
  change KC _ _ (_) [H12] _ ([(4, .int .i64 (k : Int)), (3, v15)] ++ _)
  refine kc_seq (kc_seq (kc_region (kl_mv rfl (kl_fd rfl (by assumption) (fun p17 a18 => ?_)))))
  refine kl_ld rfl (by assumption) (kl_len rfl (by assumption) (fun l19 => ?_))
  refine kl_lss rfl rfl ?_
  refine kl_nil (kq_code (kc_if rfl (fun c20 => ?_) (fun c20 => ?_)))
  ·skip
   refine kc_skipQ (kq_code (kc_seq (kc_block (kc_region (kl_mv rfl (kl_ldS rfl (by assumption) rfl ?_))))))
   refine kl_mv rfl (kl_bsI [] rfl rfl rfl (by decide) (fun v21 H22 f23 o24 => ?_))
   refine kl_call rfl rfl (reachable_ok m (k : Int) ([]) (by omega) (by omega) (by assumption) (by assumption) (OwnL.ints o24)) (fun v25 H26 f27 o28 => ?_)
   have h29 := OwnL.ints o28
   refine kl_callP rfl rfl (smallest_ok (reachS m (k : Int) ([])) (reach_pos (by omega)) (by assumption)) ?_
   refine kl_bs rfl rfl rfl (by decide) (ca rfl ca_nil) (fun v30 H31 f32 r33 s34 => ?_)
   have h35 : Ints H31 v30 [(minL (reachS m (k : Int) ([])))] := litInts (xs := [(minL (reachS m (k : Int) ([])))]) (by simpa using s34)
   refine kl_apL (minL (reachS m (k : Int) ([]))) rfl rfl o13 (by assumption) rfl (oc rfl oc_nil) (by (have h5 := congrArg List.length hi11; simp at h5; omega)) (by decide) (fun v36 H37 o38 f39 => ?_)
   have f40 := f39 B f14 (Nat.le_refl _)
   refine kl_as rfl (kl_nil (kq_code (kc_region (kl_mv rfl (kl_inc rfl rfl (by omega) ?_)))))
   refine kl_as rfl (kl_nil (kq_roundL ((k + 1), (out ++ [(minL (reachS m (k : Int) ([])))]), v36, H37) (by omega) (⟨by omega, (by rw [hi11]; exact map_snoc (fun v => minL (reachS m ((v : Nat) : Int) [])) k), o38, f40⟩) (pc 4 rfl (pc 3 rfl pn)) (pc 1 rfl (pc 2 rfl pn)) rfl (.cons _ (List.Sublist.refl _))))
  ·skip
   refine kc_exit (kq_code (kc_seq (kc_region (kl_mv rfl (kl_as rfl (kl_nil (kq_code (kc_ret ?_))))))))
   have e9 : out = compS m := by (rw [hi11, show k = m.doms.length from by omega]; exact (if_pos hm).symm)
   exact kq_ret rfl rfl H12 f14 (e9 ▸ OwnL.ints o13)
end Go.Proofs.YtiilanckbocifaaDoor
