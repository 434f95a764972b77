/- Plain law: entailment, propagated domains, backbones. No program in sight. Conditions: none. -/
import Derived.Test.YtaidejjdmkghoaaGreatPureV
namespace Go.Proofs.YtaidejjdmkghoaaGreat
open Go
set_option linter.unusedSimpArgs false
set_option linter.unusedVariables false
def entB (a b : Mod) : Bool := (validModB a && validModB b && decide ((a.doms.length : Int) = (b.doms.length : Int))) && !((sols a).any (fun x => !(isSolB b x)))
theorem isB_of {m : Mod} (hM : MOk m) {x : List Int} (h : x ∈ sols m) : isSolB m x = true := by
  have h1 := sols_isSol hM h
  unfold isSolT at h1
  simp only [Bool.and_eq_true] at h1
  exact h1.2
def entTo (a b : Mod) (k : Nat) : Bool := ((sols a).take k).all (fun x => isSolB b x)
/-- A model with other domains. -/
theorem val_doms {m : Mod} (hM : MOk m) {es : List Int} (hd : DOk m.doms.length es) : MOk ⟨es, m.cons⟩ := by
  have h := hM.v
  have hn := hM.n
  refine ⟨?_⟩
  simp only [validModB, domainsOkB, Bool.and_eq_true, allInB_iff, decide_eq_true_eq] at h ⊢
  have e := hd.l
  refine ⟨⟨⟨?_, fun d hm => hd.d d hm⟩, h.1.2⟩, by rw [e]; exact h.2⟩
  rw [e]; exact h.1.1.1
def propI (m : Mod) : List Int := if validModB m = true then prop m m.doms else []
/-! The values in a list of tuples. -/
def uni (T : List (List Int)) (j : Nat) : Int := maskP (fun v => T.any (fun t => decide (v = t.getD j 0)))
def uniV (n : Nat) (T : List (List Int)) : List Int := (List.range n).map (uni T)
def uniM (n : Nat) (T : List (List Int)) (t : List Int) (j : Nat) : List Int := (List.range n).map (fun i => if i < j then uni (T ++ [t]) i else uni T i)
def backI (m : Mod) : List Int := if validModB m = true then uniV m.doms.length (sols m) else []
end Go.Proofs.YtaidejjdmkghoaaGreat
