/- Walks of functions of the program: each returns what the plain function gives. Conditions: those that each statement names. -/
import Derived.Test.YtiilanckbocifaaWvalid
import Derived.Test.YtiilanckbocifaaWgraph
import Derived.Test.YtiilanckbocifaaWclip
import Derived.Test.YtiilanckbocifaaPureQ
import Derived.Test.YtiilanckbocifaaTre
namespace Go.Proofs.Ytiilanckbocifaa
open Go
set_option linter.unusedSimpArgs false
set_option linter.unusedVariables false
theorem clone_ok {Hxs : Hp} {vxs : Value} (xs : List Int) (hb : xs.length ≤ 1048576) (hxs : Ints Hxs vxs xs) : Spec Try.prog 91 [vxs] [Hxs] (fun Hq vq => OwnL 3 1 Hq noHp IntV vq xs) := by
 refine spec_of Try.func91 rfl rfl rfl (fun B => ?_)
 refine kc_seq (kc_region (kl_as rfl (kl_nil (kq_code (kc_seq (kc_seq (kc_region (kl_mv rfl (kl_eqlnil rfl rfl (by assumption) (fun b1 h2 => ?_))))))))))
 refine kl_nil (kq_code (kc_cond rfl (fun c3 => ?_) (fun c3 => ?_)))
 ·skip
  have c3r := c3
  try simp only [smpC, decide_eq_true_eq, decide_eq_false_iff_not] at c3
  refine kc_seq (kc_region (kl_as rfl (kl_nil (kq_code (kc_ret ?_)))))
  exact kq_ret rfl rfl noHp (fr_no _) (by rw [show xs = [] from (by simp_all)]; exact OwnL.nil)
 ·skip
  have c3r := c3
  try simp only [smpC, decide_eq_true_eq, decide_eq_false_iff_not] at c3
  refine kc_skipQ (kq_code (kc_seq (kc_region (kl_bsI [] rfl rfl rfl (by decide) (fun v4 H5 f6 o7 => ?_)))))
  refine kl_mv rfl (kl_apS rfl rfl o7 (by assumption) (fun _ _ h => h) (by first | omega | (simp; omega)) (by decide) (fun v8 H9 o10 f11 => ?_))
  have f12 := f11 B f6 (Nat.le_refl _)
  refine kl_as rfl (kl_nil (kq_code (kc_ret ?_)))
  have e9 : ([] ++ xs) = xs := by simp
  exact kq_ret rfl rfl H9 f12 (e9 ▸ o10)
theorem copied_ok {Hxs : Hp} {vxs : Value} (xs : List Int) (hb : xs.length ≤ 1048576) (hxs : Ints Hxs vxs xs) : Spec Try.prog 59 [vxs] [Hxs] (fun Hq vq => OwnL 3 1 Hq noHp IntV vq xs) := by
 refine spec_of Try.func59 rfl rfl rfl (fun B => ?_)
 refine kc_seq (kc_region (kl_as rfl (kl_nil (kq_code (kc_seq (kc_region (kl_mv rfl (kl_callL rfl rfl (clone_ok xs hb (by assumption)) (fun v1 H2 f3 o4 => ?_)))))))))
 refine kl_call rfl rfl (clip_ok xs (OwnL.ints o4)) (fun v5 H6 f7 h8 => ?_)
 obtain ⟨h8, h9⟩ := h8
 refine kl_as rfl (kl_nil (kq_code (kc_ret ?_)))
 exact kq_ret rfl rfl H2 f3 ((OwnL.clip o4 h9))
end Go.Proofs.Ytiilanckbocifaa
