/- Walks of functions of the program: each returns what the plain function gives. Conditions: those that each statement names. -/
import Derived.Test.YtbbphbihgikmdaaGreatWfl
namespace Go.Proofs.YtbbphbihgikmdaaGreat
open Go
set_option linter.unusedSimpArgs false
set_option linter.unusedVariables false
theorem withDomains_ok {Hmd : Hp} {vmd : Value} {Hmc : Hp} {vmc : Value} {Hds : Hp} {vds : Value} (m : Mod) (ds : List Int) (hb : ds.length ≤ 1048576) (hmd : Ints Hmd vmd m.doms) (hmc : Cons Hmc vmc m.cons) (hds : Ints Hds vds ds) : Spec Tryz.prog 22 [.agg #[vmd, vmc], vds] [Hmd, Hmc, Hds] ((fun Hq vq => ∃ va : Value, vq = .agg #[va, vmc] ∧ Ints Hq va ds)) := by
 refine spec_of Tryz.func22 rfl rfl rfl (fun B => ?_)
 refine kc_seq (kc_region ?_)
 refine kl_box rfl rfl (fun p1 H2 f3 a4 => ?_)
 refine kl_alloc (cs := [.slice none 0 0, .slice none 0 0]) rfl (fun b5 hb6 => ?_)
 refine kl_nil (kq_code ?_)
 refine kc_seq ?_
 refine kc_tree (fun i => ([5, 6] : List Nat).contains i) [] (by kernel_rfl) ?_
 refine kt_q 1 (List.nil_sublist _) rfl (by kernel_rfl) ?_
 refine kl_mv rfl ?_
 refine kl_nil (kq_q ?_)
 refine kt_q 3 (List.nil_sublist _) rfl (by kernel_rfl) ?_
 refine kl_fd rfl (by assumption) (fun p7 a8 => ?_)
 refine kl_nil (kq_q ?_)
 refine kt_q 4 (List.nil_sublist _) rfl (by kernel_rfl) ?_
 refine kl_ld rfl (by assumption) ?_
 refine kl_nil (kq_q ?_)
 refine kt_a 0 rfl (by kernel_rfl) ?_
 refine kl_bsI [] rfl rfl rfl (by decide) (fun v9 H10 f11 o12 => ?_)
 refine kl_nil (kq_a (List.nil_sublist _) ?_)
 refine kt_a 2 rfl (by kernel_rfl) ?_
 refine kl_apS rfl rfl o12 (by assumption) (fun _ _ h => h) (by (simp; omega)) (by decide) (fun v13 H14 o15 f16 => ?_)
 have f17 := f16 B f11 (Nat.le_refl _)
 refine kl_nil (kq_a (List.nil_sublist _) ?_)
 refine kt_a 5 rfl (by kernel_rfl) ?_
 refine kl_bd rfl (cp (OwnL.cells (by assumption)) (cp (Sl.cells (by assumption)) cp_nil)) rfl ?_
 refine kl_nil (kq_x rfl ?_)
 refine kt_a 6 rfl (by kernel_rfl) ?_
 refine kl_stW (us := [v13, vmc]) rfl rfl rfl rfl (oc (OwnL.oneCell (by assumption)) (oc (Sl.oneCell (by assumption)) oc_nil)) rfl ?_
 refine kl_chg [H14, sing b5 (.cells [v13, vmc].toArray 32 (0, 0))] rfl ?_
 refine kl_nil (kq_x rfl ?_)
 refine kt_end (by kernel_rfl) ?_
 refine kq_code ?_
 refine kc_ret ?_
 exact kq_retC rfl rfl rfl H14 f17 ⟨_, rfl, OwnL.ints o15⟩
end Go.Proofs.YtbbphbihgikmdaaGreat
