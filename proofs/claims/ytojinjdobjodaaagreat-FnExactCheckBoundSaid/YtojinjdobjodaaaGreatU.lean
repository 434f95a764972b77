/- Integers of every kind, conversions, max and min. Conditions: none. -/
import Derived.Test.YtojinjdobjodaaaGreatFin
import Derived.Laws.Bits64
import Derived.WalkSpells
namespace Go.Proofs.YtojinjdobjodaaaGreat
open Go
set_option linter.unusedSimpArgs false
set_option linter.unusedVariables false
class IsInt (P : Program) (T : Nat) (k : outParam IntKind) : Prop where u : P.underlying T = some (.int k)
section ops
variable {C : Cx} {dr : Bool} {ops : Array Oper} {Q : Post} {ims L : List Hp} {G : Env} {fl : List Bool} {rest : List Oper}
  {d ty : Nat} {pos : String} {af : Array Edge} {x y : Operand} {T T2 : Nat} {m k : Int} {κ κ2 : IntKind}
section two
variable (hx : ev G x = some (.int κ m)) (hy : ev G y = some (.int κ k))
include hx hy
theorem kl_addK (h : KL C dr ops Q ims L fl.tail rest ((d, .int κ (κ.wrap (m + k))) :: G)) (hlt : Nat.blt d C.n = true := by rfl) :
    KL C dr ops Q ims L fl (⟨some d, .binOp .add T x y T2, ty, pos, af, none⟩ :: rest) G := kl_y (fun a w hf _ => by simp [go_sem, hf _ _ hx, hf _ _ hy]) h hlt
theorem kl_andK (h : KL C dr ops Q ims L fl.tail rest ((d, .int κ (bits .and κ m k)) :: G)) (hlt : Nat.blt d C.n = true := by rfl) :
    KL C dr ops Q ims L fl (⟨some d, .binOp .and T x y T2, ty, pos, af, none⟩ :: rest) G := kl_y (fun a w hf _ => by simp [go_sem, hf _ _ hx, hf _ _ hy]) h hlt
theorem kl_geqK (h : KL C dr ops Q ims L fl.tail rest ((d, .bool (decide (k ≤ m))) :: G)) (hlt : Nat.blt d C.n = true := by rfl) :
    KL C dr ops Q ims L fl (⟨some d, .binOp .geq T x y T2, ty, pos, af, none⟩ :: rest) G := kl_y (fun a w hf _ => by simp [go_sem, hf _ _ hx, hf _ _ hy]) h hlt
end two
theorem kl_shrK (hx : ev G x = some (.int κ m)) (hy : ev G y = some (.int κ2 k)) (h0 : 0 ≤ k) (h : KL C dr ops Q ims L fl.tail rest ((d, .int κ (m.fdiv (2 ^ min k.toNat κ.bits))) :: G)) (hlt : Nat.blt d C.n = true := by rfl) :
    KL C dr ops Q ims L fl (⟨some d, .binOp .shr T x y T2, ty, pos, af, none⟩ :: rest) G := kl_y (fun a w hf _ => by
      have : ¬ k < 0 := by omega
      simp [go_sem, hf _ _ hx, hf _ _ hy, Op.shift, this]) h hlt
theorem kl_cv {T' : Nat} [hT : IsInt C.P T' κ] [hS : IsInt C.P T κ2] (hx : ev G x = some (.int κ2 m)) (h : KL C dr ops Q ims L fl.tail rest ((d, .int κ (κ.wrap m)) :: G)) (hlt : Nat.blt d C.n = true := by rfl) :
    KL C dr ops Q ims L fl (⟨some d, .convert T T' x, ty, pos, af, none⟩ :: rest) G := kl_y (fun a w hf _ => by
      simp [go_sem, hf _ _ hx, convert, run_underlying hT.u, run_underlying hS.u, Conv.intToInt]) h hlt
theorem kl_cvu {T' : Nat} [hT : IsInt C.P T' .u64] [hS : IsInt C.P T κ2] (hx : ev G x = some (.int κ2 m)) (hb : 0 ≤ m ∧ m < 18446744073709551616) (h : KL C dr ops Q ims L fl.tail rest ((d, .int .u64 m) :: G)) (hlt : Nat.blt d C.n = true := by rfl) :
    KL C dr ops Q ims L fl (⟨some d, .convert T T' x, ty, pos, af, none⟩ :: rest) G := kl_cv hx (by
      have e : IntKind.u64.wrap m = m := by rw [IntKind.wrap_u64]; omega
      rw [e]; exact h) hlt
section mm
variable (hx : ev G x = some (.int .i64 m)) (hy : ev G y = some (.int .i64 k))
include hx hy
end mm
section nils
variable {A : Type} {H : Hp} {kk E k' by' : Nat} {z : Value} {R : List Value → A → Prop} {v : Value} {xs : List A} [hT : IsSlice C.P T E k' by' z]
include hT
theorem kl_eqlnil (hx : ev G x = some v) (hy : ev G y = some (.slice none 0 0)) (hv : Sl H kk R v xs) (h : ∀ b, (b = true → xs = []) → KL C dr ops Q ims L fl.tail rest ((d, .bool b) :: G)) (hlt : Nat.blt d C.n = true := by rfl) :
    KL C dr ops Q ims L fl (⟨some d, .binOp .eql T x y T2, ty, pos, af, none⟩ :: rest) G := by
  obtain ⟨a, c, rfl, h1, h2, h3⟩ := hv
  refine kl_y (v := .bool a.isNone) (fun r w hr _ => ?_) (h _ (fun e => ?_)) hlt
  · simp [go_sem, hr _ _ hx, hr _ _ hy, Lib.run_eql_slice_nil w T E a xs.length c 0 0 hT.u]
  · cases a with
    | none =>
      cases xs with
      | nil => rfl
      | cons y ys => obtain ⟨_, _, e', _⟩ := h3 0 (by simp); cases e'
    | some a => cases e
theorem kl_eqlnilX (hx : ev G x = some v) (hy : ev G y = some (.slice none 0 0)) (hv : Sl H kk R v xs) (h : ∀ b, (b = true → xs = []) → (v = .slice none 0 0 → b = true) → KL C dr ops Q ims L fl.tail rest ((d, .bool b) :: G)) (hlt : Nat.blt d C.n = true := by rfl) :
    KL C dr ops Q ims L fl (⟨some d, .binOp .eql T x y T2, ty, pos, af, none⟩ :: rest) G := by
  obtain ⟨a, c, rfl, h1, h2, h3⟩ := hv
  refine kl_y (v := .bool a.isNone) (fun r w hr _ => ?_) (h _ (fun e => ?_) (fun e => ?_)) hlt
  · simp [go_sem, hr _ _ hx, hr _ _ hy, Lib.run_eql_slice_nil w T E a xs.length c 0 0 hT.u]
  · cases a with
    | none =>
      cases xs with
      | nil => rfl
      | cons y ys => obtain ⟨_, _, e', _⟩ := h3 0 (by simp); cases e'
    | some a => cases e
  · cases a with
    | none => rfl
    | some a => injection e with e1; cases e1
end nils
end ops
theorem smpC : (∀ b : Bool, ((!b) = true) = (b = false)) ∧ (∀ b : Bool, ((!b) = false) = (b = true)) ∧ (!true) = false ∧ (!false) = true ∧ (∀ a b : Bool, ((a && b) = true) = (a = true ∧ b = true)) ∧ (∀ a b : Bool, ((a || b) = false) = (a = false ∧ b = false)) := by
  refine ⟨fun b => ?_, fun b => ?_, rfl, rfl, fun a b => ?_, fun a b => ?_⟩ <;> cases b <;> simp
end Go.Proofs.YtojinjdobjodaaaGreat
