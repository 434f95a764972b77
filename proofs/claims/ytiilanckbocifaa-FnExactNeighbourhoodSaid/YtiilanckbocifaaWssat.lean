/- Walks of functions of the program: each returns what the plain function gives. Conditions: those that each statement names. -/
import Derived.Test.YtiilanckbocifaaWspecv
import Derived.Test.YtiilanckbocifaaPureQ
import Derived.Test.YtiilanckbocifaaTre
namespace Go.Proofs.Ytiilanckbocifaa
open Go
set_option linter.unusedSimpArgs false
set_option linter.unusedVariables false
theorem copyInts_ok {Hxs : Hp} {vxs : Value} (xs : List Int) (hb : xs.length ≤ 1048576) (hxs : Ints Hxs vxs xs) : Spec Try.prog 94 [vxs] [Hxs] (fun Hq vq => OwnL 3 1 Hq noHp IntV vq xs) := by
 refine spec_of Try.func94 rfl rfl rfl (fun B => ?_)
 refine kc_seq (kc_region (kl_as rfl (kl_nil (kq_code (kc_seq (kc_region (kl_bsI [] rfl rfl rfl (by decide) (fun v1 H2 f3 o4 => ?_))))))))
 refine kl_mv rfl (kl_apS rfl rfl o4 (by assumption) (fun _ _ h => h) (by first | omega | (simp; omega)) (by decide) (fun v5 H6 o7 f8 => ?_))
 have f9 := f8 B f3 (Nat.le_refl _)
 refine kl_as rfl (kl_nil (kq_code (kc_ret ?_)))
 have e9 : ([] ++ xs) = xs := by simp
 exact kq_ret rfl rfl H6 f9 (e9 ▸ o7)
end Go.Proofs.Ytiilanckbocifaa
