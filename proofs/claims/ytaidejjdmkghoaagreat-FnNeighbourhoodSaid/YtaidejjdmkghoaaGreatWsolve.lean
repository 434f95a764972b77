/- Walks of functions of the program: each returns what the plain function gives. Conditions: those that each statement names. -/
import Derived.Test.YtaidejjdmkghoaaGreatWsfix
namespace Go.Proofs.YtaidejjdmkghoaaGreat
open Go
set_option linter.unusedSimpArgs false
set_option linter.unusedVariables false
abbrev branchSt (k : Nat) : Prop := ∀ {b : Nat} {Hmd Hmc Hds Hf Kf : Hp} {vmd vmc vds vf : Value} (m : Mod) (ds : List Int) (found : List (List Int)) (nd : Int) (hM : MOk m) (hd : DOk m.doms.length ds) (hk : sumN ds = k) (hroom : found.length + (solT m ds).length < 4096) (lq : Liq Kf)
  (hmd : Ints Hmd vmd m.doms) (hmc : Cons Hmc vmc m.cons) (hds : Ints Hds vds ds) (of : OwnL 23 1 Hf Kf RowV vf found),
  SpecT Tryz.prog 102 [.pointer (some ⟨b, 0, none⟩), vds] [sing b (.cells [vmd, vmc, .int .i64 4096, .int .i64 nd, vf].toArray 116 (0, 0)), Hf, Kf] [Hmd, Hmc, Hds] (fun vq L1 Ln _ => vq = .tuple #[] ∧ Ln = [] ∧ ∃ (nd2 : Int) (vf2 : Value) (Hf2 Kf2 : Hp), L1 = [sing b (.cells [vmd, vmc, .int .i64 4096, .int .i64 nd2, vf2].toArray 116 (0, 0)), Hf2, Kf2] ∧ OwnL 23 1 Hf2 Kf2 RowV vf2 (found ++ solT m ds) ∧ Liq Kf2)
end Go.Proofs.YtaidejjdmkghoaaGreat
