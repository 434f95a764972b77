/- Tables of the library, over six bits. Conditions: none. -/
import Derived.Test.YtbcpoljdkopmoaaGreatDoorTab
import Derived.Test.YtbcpoljdkopmoaaGreatDoorPureO
namespace Go.Proofs.YtbcpoljdkopmoaaGreatDoor
open Go
set_option linter.unusedSimpArgs false
set_option linter.unusedVariables false
theorem tz_ixO {x : Int} (h1 : 1 ≤ x) (h2 : x < 64) : (0 ≤ tzIx x ∧ tzIx x < 64) ∧ tabL.getD (tzIx x).toNat 0 = leastI x ∧ 0 ≤ leastI x ∧ leastI x < 6 := by
  have key : ∀ i, i < 64 → 1 ≤ i → (0 ≤ tzIx ((i : Nat) : Int) ∧ tzIx ((i : Nat) : Int) < 64) ∧ tabL.getD (tzIx ((i : Nat) : Int)).toNat 0 = leastI ((i : Nat) : Int) ∧ 0 ≤ leastI ((i : Nat) : Int) ∧ leastI ((i : Nat) : Int) < 6 := by decide +kernel
  obtain ⟨i, rfl⟩ := Int.eq_ofNat_of_zero_le (by omega : 0 ≤ x)
  exact key i (by omega) (by omega)
theorem most_in {x : Int} (h : 1 ≤ x ∧ x ≤ 63) : 0 ≤ mostI x ∧ mostI x ≤ 5 ∧ 0 ≤ leastI x ∧ leastI x ≤ 5 := by
  have key : ∀ i, i < 64 → 1 ≤ i → 0 ≤ mostI ((i : Nat) : Int) ∧ mostI ((i : Nat) : Int) ≤ 5 ∧ 0 ≤ leastI ((i : Nat) : Int) ∧ leastI ((i : Nat) : Int) ≤ 5 := by decide +kernel
  obtain ⟨i, rfl⟩ := Int.eq_ofNat_of_zero_le (by omega : 0 ≤ x)
  exact key i (by omega) (by omega)
def len8L : List UInt8 := [0, 1] ++ List.replicate 2 2 ++ List.replicate 4 3 ++ List.replicate 8 4 ++ List.replicate 16 5 ++ List.replicate 32 6 ++ List.replicate 64 7 ++ List.replicate 128 8
def len8S : ByteArray := ⟨len8L.toArray⟩
theorem len8_at {i : Nat} (h1 : 1 ≤ i) (h2 : i < 64) : ∃ b : UInt8, len8S[i]? = some b ∧ ((b.toNat : Nat) : Int) = mostI (i : Int) + 1 := by
  have key : ∀ i, i < 64 → 1 ≤ i → (len8L[i]?).map (fun b => ((b.toNat : Nat) : Int)) = some (mostI ((i : Nat) : Int) + 1) := by decide +kernel
  have h := key i h2 h1
  cases e : len8L[i]? with
  | none => rw [e] at h; cases h
  | some b =>
    rw [e] at h
    refine ⟨b, ?_, by simpa using h⟩
    have hl : i < len8L.length := by
      have := (List.getElem?_eq_some_iff.1 e).1; exact this
    have hs : i < len8S.size := by
      have e1 : len8S.size = len8L.length := by simp [len8S, ByteArray.size]
      omega
    rw [getElem?_pos len8S i hs]
    have e2 := (List.getElem?_eq_some_iff.1 e).2
    simp only [Option.some.injEq]
    rw [← e2]
    simp [len8S, ByteArray.getElem_eq_getElem_data]
section ops
variable {C : Cx} {dr : Bool} {ops : Array Oper} {Q : Post} {ims L : List Hp} {G : Env} {fl : List Bool} {rest : List Oper} {d ty : Nat} {pos : String} {af : Array Edge}
theorem kl_ixLen {x y : Operand} {T : Nat} {m : Int} [hT : IsStr C.P T] (hx : ev G x = some (.string len8S)) (hy : ev G y = some (.int .u8 (IntKind.wrap .u8 m))) (hm : 1 ≤ m ∧ m < 64)
    (h : KL C dr ops Q ims L fl.tail rest ((d, .int .u8 (mostI m + 1)) :: G)) (hlt : Nat.blt d C.n = true := by rfl) :
    KL C dr ops Q ims L fl (⟨some d, .index T x y, ty, pos, af, none⟩ :: rest) G := by
  have e : IntKind.wrap .u8 m = m := by
    have key : ∀ i, i < 64 → IntKind.wrap .u8 ((i : Nat) : Int) = ((i : Nat) : Int) := by decide +kernel
    obtain ⟨i, rfl⟩ := Int.eq_ofNat_of_zero_le (by omega : 0 ≤ m)
    exact key i (by omega)
  rw [e] at hy
  obtain ⟨b, hb, hv⟩ := len8_at (i := m.toNat) (by omega) (by omega)
  rw [Int.toNat_of_nonneg (by omega)] at hv
  have h0 : 0 ≤ m := by omega
  refine kl_y (v := .int .u8 (mostI m + 1)) (fun r w hr _ => ?_) h hlt
  rw [← hv]
  simp [execOp, hr _ _ hx, hr _ _ hy, Instr.index, run_underlying hT.u, asIntOf, go_sem, h0, hb]
end ops
theorem low_in {ds obj : List Int} (hO : Coef obj) (hl : obj.length = ds.length) (hD : ∀ i, i < ds.length → 1 ≤ ds.getD i 0 ∧ ds.getD i 0 ≤ 63) : ∀ k : Nat, k ≤ ds.length → -45 * (k : Int) ≤ lowT ds obj k ∧ lowT ds obj k ≤ 45 * (k : Int)
  | 0, _ => by simp [lowT]
  | k + 1, hk => by
    have ih := low_in hO hl hD k (by omega)
    have hd := hD k (by omega)
    obtain ⟨v, hv⟩ := List.exists_mem_of_ne_nil _ (valsI_ne (d := ds.getD k 0) (by omega) (by omega))
    have he := end_in (hO _ (getD_mem (d := 0) (by omega : k < obj.length))) (by omega) hv
    rw [lowT]; omega
theorem mul_in {a b : Int} (ha : -9 ≤ a ∧ a ≤ 9) (hb : 0 ≤ b ∧ b ≤ 5) : -45 ≤ a * b ∧ a * b ≤ 45 := by
  have : b = 0 ∨ b = 1 ∨ b = 2 ∨ b = 3 ∨ b = 4 ∨ b = 5 := by omega
  rcases this with e | e | e | e | e | e <;> rw [e] <;> omega
theorem most_at (d : Int) : (valsI d).getD (((valsI d).length : Int) - 1).toNat 0 = mostI d := by
  unfold mostI; congr 1; omega
theorem low_T {ds obj : List Int} {k : Nat} {s : Int} (e : s = lowT ds obj k) (c : obj.getD k 0 < 0) : s + obj.getD k 0 * mostI (ds.getD k 0) = lowT ds obj (k + 1) := by
  rw [lowT, ← e]; unfold endI; rw [if_pos c]
theorem low_F {ds obj : List Int} {k : Nat} {s : Int} (e : s = lowT ds obj k) (c : ¬ obj.getD k 0 < 0) : s + obj.getD k 0 * leastI (ds.getD k 0) = lowT ds obj (k + 1) := by
  rw [lowT, ← e]; unfold endI; rw [if_neg c]
theorem low_Ts {ds obj : List Int} {k : Nat} {s : Int} (e : s = lowT ds obj k) (c : obj.getD k 0 < 0) : s + obj.getD k 0 * (valsI (ds.getD k 0)).getD (((valsI (ds.getD k 0)).length : Int) - 1).toNat 0 = lowT ds obj (k + 1) := by
  rw [most_at]; exact low_T e c
theorem low_Fs {ds obj : List Int} {k : Nat} {s : Int} (e : s = lowT ds obj k) (c : ¬ obj.getD k 0 < 0) : s + obj.getD k 0 * (valsI (ds.getD k 0)).getD 0 0 = lowT ds obj (k + 1) := low_F e c
theorem obj_at {obj : List Int} (hO : Coef obj) {k : Nat} (h : k < obj.length) : -9 ≤ obj.getD k 0 ∧ obj.getD k 0 ≤ 9 := hO _ (getD_mem h)
theorem mul_ends {obj ds : List Int} (hO : Coef obj) {k : Nat} (h : k < obj.length) (hd : 1 ≤ ds.getD k 0 ∧ ds.getD k 0 ≤ 63) :
    (-45 ≤ obj.getD k 0 * mostI (ds.getD k 0) ∧ obj.getD k 0 * mostI (ds.getD k 0) ≤ 45) ∧ (-45 ≤ obj.getD k 0 * leastI (ds.getD k 0) ∧ obj.getD k 0 * leastI (ds.getD k 0) ≤ 45) ∧
    (-45 ≤ obj.getD k 0 * (valsI (ds.getD k 0)).getD (((valsI (ds.getD k 0)).length : Int) - 1).toNat 0 ∧ obj.getD k 0 * (valsI (ds.getD k 0)).getD (((valsI (ds.getD k 0)).length : Int) - 1).toNat 0 ≤ 45) ∧
    (-45 ≤ obj.getD k 0 * (valsI (ds.getD k 0)).getD 0 0 ∧ obj.getD k 0 * (valsI (ds.getD k 0)).getD 0 0 ≤ 45) ∧ 1 ≤ (valsI (ds.getD k 0)).length := by
  have hm := most_in hd
  have ho := obj_at hO h
  refine ⟨mul_in ho ⟨hm.1, hm.2.1⟩, mul_in ho ⟨hm.2.2.1, hm.2.2.2⟩, by rw [most_at]; exact mul_in ho ⟨hm.1, hm.2.1⟩, mul_in ho ⟨hm.2.2.1, hm.2.2.2⟩, ?_⟩
  exact List.length_pos_iff.2 (valsI_ne (by omega) (by omega))
theorem propD {m : Mod} (hM : MOk m) (h0 : (prop m m.doms).contains 0 = false) : ∀ i, i < (prop m m.doms).length → 1 ≤ (prop m m.doms).getD i 0 ∧ (prop m m.doms).getD i 0 ≤ 63 := fun i hi => by
  have hl := (propOk hM hM.dok).ok.l
  have := lb_at hM h0 (k := i) (by omega)
  omega
end Go.Proofs.YtbcpoljdkopmoaaGreatDoor
