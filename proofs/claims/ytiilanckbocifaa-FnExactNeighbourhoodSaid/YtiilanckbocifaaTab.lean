/- Tables of the library: what is read out of one. Conditions: none. -/
import Derived.Test.YtiilanckbocifaaRdr
import Derived.Test.YtiilanckbocifaaPureT
namespace Go.Proofs.Ytiilanckbocifaa
open Go
set_option linter.unusedSimpArgs false
set_option linter.unusedVariables false
def tabL : List Int := [0, 1, 56, 2, 57, 49, 28, 3, 61, 58, 42, 50, 38, 29, 17, 4, 62, 47, 59, 36, 45, 43, 51, 22, 53, 39, 33, 30, 24, 18, 12, 5, 63, 55, 48, 27, 60, 41, 37, 16, 46, 35, 44, 21, 52, 32, 23, 11, 54, 26, 40, 15, 34, 20, 31, 10, 25, 14, 19, 9, 13, 8, 7, 6]
def tabV : List Value := tabL.map (Value.int .u8)
class IsArr (P : Program) (T : Nat) (n : outParam Nat) : Prop where
  u : ∃ E, P.underlying T = some (.array n E) ∧ (P.info? E).map (·.size) = some 1
class IsStr (P : Program) (T : Nat) : Prop where
  u : P.underlying T = some .string
section ops
variable {C : Cx} {dr : Bool} {ops : Array Oper} {Q : Post} {ims L : List Hp} {G : Env} {fl : List Bool} {rest : List Oper} {d ty : Nat} {pos : String} {af : Array Edge}
theorem kl_negK {x : Operand} {T : Nat} {m : Int} {κ : IntKind} (hx : ev G x = some (.int κ m)) (h : KL C dr ops Q ims L fl.tail rest ((d, .int κ (κ.wrap (0 - m))) :: G)) (hlt : Nat.blt d C.n = true := by rfl) :
    KL C dr ops Q ims L fl (⟨some d, .unOp .neg T x, ty, pos, af, none⟩ :: rest) G := kl_y (fun a w hf _ => by simp [go_sem, hf _ _ hx, Op.unary, Op.intArith]) h hlt
/-- An element of an array that lies behind a pointer. -/
theorem kl_ixT {H : Hp} {p : Value} {vs : List Value} {x y : Operand} {T n : Nat} {κ : IntKind} {i : Int} [hT : IsArr C.P T n] (hx : ev G x = some p) (hy : ev G y = some (.int κ i)) (hp : At H p vs) (hi : 0 ≤ i ∧ i < n)
    (h : ∀ q, At H q (vs.drop i.toNat) → KL C dr ops Q ims L fl.tail rest ((d, q) :: G)) (hlt : Nat.blt d C.n = true := by rfl) :
    KL C dr ops Q ims L fl (⟨some d, .indexAddr T x y, ty, pos, af, none⟩ :: rest) G := by
  obtain ⟨b, o, cs, T', fz, rfl, hb, hc⟩ := hp
  have hat : At H (.pointer (some ⟨b, o, none⟩)) vs := ⟨b, o, cs, T', fz, rfl, hb, hc⟩
  obtain ⟨E, hu, hs⟩ := hT.u
  refine kl_y (v := .pointer (some ⟨b, o + i.toNat, none⟩)) (fun r w hr _ => ?_) (h _ (hat.drop _)) hlt
  have h1 : ¬ (n ≤ 1 ∧ False) := fun h => h.2
  simp [go_sem, hr _ _ hx, hr _ _ hy, Instr.indexAt, run_underlying hu, sizeOf_run hs, Addr.add_lit, hi.1, hi.2]
end ops
/-- The place in the table that the program asks for. -/
def tzIx (x : Int) : Int := Int.fdiv (IntKind.u64.wrap (bits .and .u64 x (IntKind.u64.wrap (0 - x)) * 285870213051353865)) (2 ^ min (Int.toNat 58) (IntKind.bits .u64))
theorem tz_ix {x : Int} (h1 : 1 ≤ x) (h2 : x < 16) : (0 ≤ tzIx x ∧ tzIx x < 64) ∧ tabL.getD (tzIx x).toNat 0 = tzI x ∧ 0 ≤ tzI x ∧ tzI x < 4 := by
  have key : ∀ i, i < 16 → 1 ≤ i → (0 ≤ tzIx ((i : Nat) : Int) ∧ tzIx ((i : Nat) : Int) < 64) ∧ tabL.getD (tzIx ((i : Nat) : Int)).toNat 0 = tzI ((i : Nat) : Int) ∧ 0 ≤ tzI ((i : Nat) : Int) ∧ tzI ((i : Nat) : Int) < 4 := by decide +kernel
  obtain ⟨i, rfl⟩ := Int.eq_ofNat_of_zero_le (by omega : 0 ≤ x)
  exact key i (by omega) (by omega)
theorem tab_at {i : Int} (h : 0 ≤ i ∧ i < 64) : ∃ r, tabV.drop i.toNat = .int .u8 (tabL.getD i.toNat 0) :: r := by
  have hl : i.toNat < tabL.length := by
    have : tabL.length = 64 := rfl
    omega
  refine ⟨tabV.drop (i.toNat + 1), ?_⟩
  unfold tabV
  rw [List.drop_eq_getElem_cons (by simpa using hl), List.getElem_map]
  simp [List.getD_eq_getElem?_getD, hl]
end Go.Proofs.Ytiilanckbocifaa
