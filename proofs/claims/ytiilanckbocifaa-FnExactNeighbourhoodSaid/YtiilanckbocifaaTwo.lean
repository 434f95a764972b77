/- What a function that takes over heaplets returns, some of its results in cells. Conditions: none. -/
import Derived.Test.YtiilanckbocifaaSol
namespace Go.Proofs.Ytiilanckbocifaa
open Go
theorem kq_retTR {P : Program} {n : Nat} {B : World} {ims L : List Hp} {G : Env} {fn : Func} {L0 : List Hp} {phi : Value → List Hp → List Hp → Hp → Prop} {v : Value} (hr : RSs P L G fn v) (L1 Ln : List Hp) (K : Hp) {La L' : List Hp} [t1 : TakeL L1 L La] [t2 : TakeL Ln La L'] [gk : GotI K ims] (hf : ∀ H ∈ Ln, Fr B H) (hk : Fr B K) (hp : phi v L1 Ln K) :
    KQ ⟨P, n, B, .of (fun b => ∃ H ∈ L0, H b ≠ none), false, [], none⟩ ims L G (bodyPost P fn (ResT B L0 phi) .ret) :=
  kq_retT' (fun a hF w hS => hr a w hF hS) L1 Ln K hf hk hp
end Go.Proofs.Ytiilanckbocifaa
