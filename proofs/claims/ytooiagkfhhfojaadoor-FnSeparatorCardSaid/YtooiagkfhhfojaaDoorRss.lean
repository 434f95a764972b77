/- Returns of several results, some of them in cells. Conditions: none. -/
import Derived.Test.YtooiagkfhhfojaaDoorRet
namespace Go.Proofs.YtooiagkfhhfojaaDoor
open Go
theorem rss3 {P : Program} {L : List Hp} {G : Env} {fn : Func} {s t u : ResultVar} {a b c : Value} (hr : fn.results = #[s, t, u]) (h1 : RS P L G s a) (h2 : RS P L G t b) (h3 : RS P L G u c) : RSs P L G fn (.tuple #[a, b, c]) := fun r w hf hs => by
  have k1 := h1 r w hf hs
  have k2 := h2 r w hf hs
  have k3 := h3 r w hf hs
  rw [results_eq, hr]
  simp [k1, k2, k3]
theorem rss4 {P : Program} {L : List Hp} {G : Env} {fn : Func} {s t u x : ResultVar} {a b c d : Value} (hr : fn.results = #[s, t, u, x]) (h1 : RS P L G s a) (h2 : RS P L G t b) (h3 : RS P L G u c) (h4 : RS P L G x d) : RSs P L G fn (.tuple #[a, b, c, d]) := fun r w hf hs => by
  have k1 := h1 r w hf hs
  have k2 := h2 r w hf hs
  have k3 := h3 r w hf hs
  have k4 := h4 r w hf hs
  rw [results_eq, hr]
  simp [k1, k2, k3, k4]
end Go.Proofs.YtooiagkfhhfojaaDoor
