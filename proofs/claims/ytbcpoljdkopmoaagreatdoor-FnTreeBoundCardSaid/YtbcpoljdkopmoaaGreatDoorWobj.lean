/- Walks of functions of the program: each returns what the plain function gives. Conditions: those that each statement names. -/
import Derived.Test.YtbcpoljdkopmoaaGreatDoorWrd
import Derived.Test.YtbcpoljdkopmoaaGreatDoorPureY
namespace Go.Proofs.YtbcpoljdkopmoaaGreatDoor
open Go
set_option linter.unusedSimpArgs false
set_option linter.unusedVariables false
theorem objective_ok {br : Nat} {vbr : Value} {Hr : Hp} {bsr : List Int} (pr : Nat) (n : Int) (hn : 0 ≤ n ∧ n ≤ 4) (hp : pr + (6) ≤ 1000000) (hr : Bytes Hr vbr bsr) : SpecT Tryz.prog 12 [.pointer (some ⟨br, 0, none⟩), .int .i64 n] [sing br (.cells [vbr, .int .i64 (pr : Int)].toArray 54 (0, 0))] [Hr] (fun vq L1 Ln Kq => ∃ q : Nat, q ≤ pr + (6) ∧ L1 = [sing br (.cells [vbr, .int .i64 (q : Int)].toArray 54 (0, 0))] ∧ ∃ (Hq : Hp) (xq : List Int), Ln = [Hq] ∧ OwnL 3 1 Hq noHp IntV vq xq ∧ ((xq.length : Int) = n → Coef xq) ∧ xq.length ≤ 5) := by
 refine specT_of Tryz.func12 rfl rfl rfl (fun B => ?_)
 refine kc_seq (kc_region ?_)
 refine kl_as rfl ?_
 refine kl_nil (kq_code (kc_seq (kc_region ?_)))
 refine kl_bsI [] rfl rfl rfl (by decide) (fun v1 H2 f3 o4 => ?_)
 refine kl_as rfl ?_
 refine kl_nil (kq_code ?_)
 refine kc_seq ?_
 refine kc_seq (kc_region ?_)
 refine kl_as rfl ?_
 refine kl_nil (kq_code ?_)
 refine kc_block ?_
 refine kc_loopL (A := Nat × List Int × Value × Hp × Nat) (fun zz => (zz.1 ≤ n.toNat) ∧ (zz.2.1.length = zz.1 ∧ Coef zz.2.1) ∧ OwnL 3 1 zz.2.2.2.1 noHp IntV zz.2.2.1 zz.2.1 ∧ Fr B zz.2.2.2.1 ∧ zz.2.2.2.2 ≤ pr + zz.1) (fun zz => n.toNat - zz.1) (fun zz => [zz.2.2.2.1, sing br (.cells [vbr, .int .i64 (zz.2.2.2.2 : Int)].toArray 54 (0, 0))]) (fun zz => [(6, .int .i64 (zz.1 : Int)), (5, zz.2.2.1)]) (0, ([]), v1, H2, pr) (pc 0 rfl (pc 1 rfl (pc 4 rfl pn))) (pc 6 rfl (pc 5 rfl pn)) rfl ⟨Nat.zero_le _, ⟨rfl, all_nil⟩, o4, f3, (by first | omega | (dsimp only; omega))⟩ ?_
 rintro ⟨i, out, v10, H7, q11⟩ hJ13
 obtain ⟨hk5, hi6, o8, f9, hq12⟩ : (i ≤ n.toNat) ∧ (out.length = i ∧ Coef out) ∧ OwnL 3 1 H7 noHp IntV v10 out ∧ Fr B H7 ∧ q11 ≤ pr + i := hJ13
 change KC _ _ (_) [H7, sing br (.cells [vbr, .int .i64 (q11 : Int)].toArray 54 (0, 0))] _ ([(6, .int .i64 (i : Int)), (5, v10)] ++ _)
 refine kc_seq ?_
 refine kc_seq (kc_region ?_)
 refine kl_mv rfl ?_
 refine kl_mv rfl ?_
 refine kl_lss rfl rfl ?_
 refine kl_nil (kq_code ?_)
 refine kc_if rfl (fun c14 => ?_) (fun c14 => ?_)
 ·skip
  refine kc_skipQ ?_
  refine kq_code ?_
  refine kc_seq ?_
  refine kc_block ?_
  refine kc_region ?_
  refine kl_mv rfl ?_
  refine kl_mv rfl ?_
  refine kl_bs rfl rfl rfl (by decide) (ca rfl (ca rfl (ca rfl (ca rfl (ca rfl (ca rfl ca_nil)))))) (fun v15 H16 f17 r18 s19 => ?_)
  have h20 : Ints H16 v15 [(1 : Int), (0 : Int), (-1 : Int), (2 : Int), (-9 : Int), (9 : Int)] := litInts (xs := [(1 : Int), (0 : Int), (-1 : Int), (2 : Int), (-9 : Int), (9 : Int)]) (by simpa using s19)
  refine kl_callT rfl rfl (one_ok q11 ([(1 : Int), (0 : Int), (-1 : Int), (2 : Int), (-9 : Int), (9 : Int)]) (by simp) (by omega) hr (by assumption)) (fun v21 L1 Ln K25 h22 f23 f24 => ?_)
  obtain ⟨q26, h27, rfl, rfl, z28, rfl, h29⟩ := h22
  have ho9 := obj_one h29
  refine kl_norm ?_
  refine kl_bs rfl rfl rfl (by decide) (ca rfl ca_nil) (fun v32 H33 f34 r35 s36 => ?_)
  have h37 : Ints H33 v32 [z28] := litInts (xs := [z28]) (by simpa using s36)
  refine kl_apL z28 rfl rfl o8 (by assumption) rfl (oc rfl oc_nil) (by omega) (by decide) (fun v38 H39 o40 f41 => ?_)
  have f42 := f41 B f9 (Nat.le_refl _)
  refine kl_as rfl ?_
  refine kl_nil (kq_code ?_)
  refine kc_region ?_
  refine kl_mv rfl ?_
  refine kl_inc rfl rfl (by omega) ?_
  refine kl_as rfl ?_
  refine kl_nil ?_
  refine kq_take [H39, sing br (.cells [vbr, .int .i64 (q26 : Int)].toArray 54 (0, 0))] ?_
  refine kq_roundL ((i + 1), (out ++ [z28]), v38, H39, q26) (by omega) (⟨by omega, ⟨by simp; omega, all_snoc hi6.2 ho9⟩, o40, f42, (by first | omega | (dsimp only; omega))⟩) (pc 6 rfl (pc 5 rfl pn)) (pc 0 rfl (pc 1 rfl (pc 4 rfl pn))) rfl (List.Sublist.refl _)
 ·skip
  refine kc_exit ?_
  refine kq_code ?_
  refine kc_seq ?_
  refine kc_seq (kc_region ?_)
  refine kl_mv rfl ?_
  refine kl_callT rfl rfl (pick_ok q11 (14 : Int) (by omega) hr) (fun v43 L1 Ln K47 h44 f45 f46 => ?_)
  obtain ⟨q48, h49, rfl, rfl, z50, rfl, h51⟩ := h44
  refine kl_norm ?_
  refine kl_eql rfl rfl ?_
  refine kl_nil (kq_code ?_)
  refine kc_if rfl (fun c54 => ?_) (fun c54 => ?_)
  ·skip
   refine kc_seq (kc_region ?_)
   refine kl_mv rfl ?_
   refine kl_bs rfl rfl rfl (by decide) (ca rfl ca_nil) (fun v55 H56 f57 r58 s59 => ?_)
   have h60 : Ints H56 v55 [(10 : Int)] := litInts (xs := [(10 : Int)]) (by simpa using s59)
   refine kl_apL (10 : Int) rfl rfl o8 (by assumption) rfl (oc rfl oc_nil) (by omega) (by decide) (fun v61 H62 o63 f64 => ?_)
   have f65 := f64 B f9 (Nat.le_refl _)
   refine kl_as rfl ?_
   refine kl_nil (kq_code ?_)
   refine kc_ret ?_
   exact kq_retT rfl rfl [sing br (.cells [vbr, .int .i64 (q48 : Int)].toArray 54 (0, 0))] [H62] noHp (fr1 f65) (fr_no _) ⟨q48, by omega, rfl, H62, (out ++ [(10 : Int)]), rfl, o63, by first | exact ⟨fun _ => hi6.2, by omega⟩ | exact ⟨fun h => by have h8 := hi6.1; simp at h; omega, by simp; omega⟩⟩
  ·skip
   refine kc_skipQ ?_
   refine kq_code ?_
   refine kc_seq (kc_region ?_)
   refine kl_mv rfl ?_
   refine kl_as rfl ?_
   refine kl_nil (kq_code ?_)
   refine kc_ret ?_
   exact kq_retT rfl rfl [sing br (.cells [vbr, .int .i64 (q48 : Int)].toArray 54 (0, 0))] [H7] noHp (fr1 f9) (fr_no _) ⟨q48, by omega, rfl, H7, out, rfl, o8, by first | exact ⟨fun _ => hi6.2, by omega⟩ | exact ⟨fun h => by have h8 := hi6.1; simp at h; omega, by simp; omega⟩⟩
end Go.Proofs.YtbcpoljdkopmoaaGreatDoor
