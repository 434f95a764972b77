/- Walks of functions of the program: each returns what the plain function gives. Conditions: those that each statement names. -/
import Derived.Test.YtiilanckbocifaaWrd
namespace Go.Proofs.Ytiilanckbocifaa
open Go
set_option linter.unusedSimpArgs false
set_option linter.unusedVariables false
theorem varSet_ok {br : Nat} {vbr : Value} {Hr : Hp} {bsr : List Int} (pr : Nat) (n : Int) (hn : 1 ≤ n ∧ n ≤ 4) (hp : pr + (8) ≤ 1000000) (hr : Bytes Hr vbr bsr) : SpecT Try.prog 24 [.pointer (some ⟨br, 0, none⟩), .int .i64 n] [sing br (.cells [vbr, .int .i64 (pr : Int)].toArray 73 (0, 0))] [Hr] (fun vq L1 Ln Kq => ∃ q : Nat, q ≤ pr + (8) ∧ L1 = [sing br (.cells [vbr, .int .i64 (q : Int)].toArray 73 (0, 0))] ∧ ∃ (Hq : Hp) (xq : List Int), Ln = [Hq] ∧ OwnL 3 1 Hq noHp IntV vq xq ∧ xq.length ≤ 5) := by
 refine specT_of Try.func24 rfl rfl rfl (fun B => ?_)
 refine kc_seq (kc_region (kl_as rfl (kl_nil (kq_code (kc_seq (kc_region (kl_bsI [] rfl rfl rfl (by decide) (fun v1 H2 f3 o4 => ?_))))))))
 refine kl_as rfl (kl_nil (kq_code (kc_seq (kc_seq (kc_region (kl_as rfl (kl_nil (kq_code (kc_block (kc_loopL (A := Nat × List Int × Value × Hp × Nat) (fun zz => (zz.1 ≤ n.toNat) ∧ (zz.2.1.length ≤ zz.1) ∧ OwnL 3 1 zz.2.2.2.1 noHp IntV zz.2.2.1 zz.2.1 ∧ Fr B zz.2.2.2.1 ∧ zz.2.2.2.2 ≤ pr + zz.1) (fun zz => n.toNat - zz.1) (fun zz => [zz.2.2.2.1, sing br (.cells [vbr, .int .i64 (zz.2.2.2.2 : Int)].toArray 73 (0, 0))]) (fun zz => [(6, .int .i64 (zz.1 : Int)), (5, zz.2.2.1)]) (0, ([]), v1, H2, pr) (pc 0 rfl (pc 1 rfl (pc 4 rfl pn))) (pc 6 rfl (pc 5 rfl pn)) rfl ⟨Nat.zero_le _, (by simp), o4, f3, (by first | omega | (dsimp only; omega))⟩ ?_))))))))))
 rintro ⟨i, out, v10, H7, q11⟩ hJ13
 obtain ⟨hk5, hi6, o8, f9, hq12⟩ : (i ≤ n.toNat) ∧ (out.length ≤ i) ∧ OwnL 3 1 H7 noHp IntV v10 out ∧ Fr B H7 ∧ q11 ≤ pr + i := hJ13
 change KC _ _ (_) [H7, sing br (.cells [vbr, .int .i64 (q11 : Int)].toArray 73 (0, 0))] _ ([(6, .int .i64 (i : Int)), (5, v10)] ++ _)
 refine kc_seq (kc_seq (kc_region (kl_mv rfl (kl_mv rfl (kl_lss rfl rfl ?_)))))
 refine kl_nil (kq_code (kc_if rfl (fun c14 => ?_) (fun c14 => ?_)))
 ·skip
  refine kc_skipQ (kq_code (kc_seq (kc_block (kc_seq (kc_region (kl_mv rfl (kl_callT rfl rfl (pick_ok q11 (2 : Int) (by omega) hr) (fun v15 L1 Ln K19 h16 f17 f18 => ?_))))))))
  obtain ⟨q20, h21, rfl, rfl, z22, rfl, h23⟩ := h16
  refine kl_norm ?_
  refine kl_eql rfl rfl ?_
  refine kl_nil (kq_code (kc_if rfl (fun c26 => ?_) (fun c26 => ?_)))
  ·skip
   refine kc_region (kl_mv rfl (kl_mv rfl (kl_bs rfl rfl rfl (by decide) (ca rfl ca_nil) (fun v27 H28 f29 r30 s31 => ?_))))
   have h32 : Ints H28 v27 [(i : Int)] := litInts (xs := [(i : Int)]) (by simpa using s31)
   refine kl_apL (i : Int) rfl rfl o8 (by assumption) rfl (oc rfl oc_nil) (by (first | omega | (simp; omega))) (by decide) (fun v33 H34 o35 f36 => ?_)
   have f37 := f36 B f9 (Nat.le_refl _)
   refine kl_as rfl (kl_nil (kq_code (kc_region (kl_mv rfl (kl_inc rfl rfl (by omega) ?_)))))
   refine kl_as rfl (kl_nil (kq_take [H34, sing br (.cells [vbr, .int .i64 (q20 : Int)].toArray 73 (0, 0))] ?_))
   refine kq_roundL ((i + 1), (out ++ [(i : Int)]), v33, H34, q20) (by omega) (⟨by omega, (by first | omega | (simp; omega)), o35, f37, (by first | omega | (dsimp only; omega))⟩) (pc 6 rfl (pc 5 rfl pn)) (pc 0 rfl (pc 1 rfl (pc 4 rfl pn))) rfl (List.Sublist.refl _)
  ·skip
   refine kc_skipQ (kq_code (kc_region (kl_mv rfl (kl_inc rfl rfl (by omega) ?_))))
   refine kl_as rfl (kl_nil (kq_take [H7, sing br (.cells [vbr, .int .i64 (q20 : Int)].toArray 73 (0, 0))] ?_))
   refine kq_roundL ((i + 1), out, v10, H7, q20) (by omega) (⟨by omega, (by first | omega | (simp; omega)), o8, f9, (by first | omega | (dsimp only; omega))⟩) (pc 6 rfl (pc 5 rfl pn)) (pc 0 rfl (pc 1 rfl (pc 4 rfl pn))) rfl (List.Sublist.refl _)
 ·skip
  refine kc_exit (kq_code (kc_seq (kc_seq (kc_region (kl_mv rfl (kl_callT rfl rfl (pick_ok q11 (16 : Int) (by omega) hr) (fun v38 L1 Ln K42 h39 f40 f41 => ?_)))))))
  obtain ⟨q43, h44, rfl, rfl, z45, rfl, h46⟩ := h39
  refine kl_norm ?_
  refine kl_nil (kq_code (kc_block (kc_seq (kc_region (kl_eql rfl rfl ?_)))))
  refine kl_as rfl (kl_nil (kq_code (kc_if rfl (fun c49 => ?_) (fun c49 => ?_))))
  ·skip
   refine kc_seq (kc_region (kl_mv rfl (kl_mv rfl (kl_mv rfl (kl_bs rfl rfl rfl (by decide) (ca rfl (ca rfl (ca rfl ca_nil))) (fun v50 H51 f52 r53 s54 => ?_))))))
   have h55 : Ints H51 v50 [(0 : Int), n, (-1 : Int)] := litInts (xs := [(0 : Int), n, (-1 : Int)]) (by simpa using s54)
   refine kl_callT rfl rfl (one_ok q43 ([(0 : Int), n, (-1 : Int)]) (by simp) (by omega) hr (by assumption)) (fun v56 L1 Ln K60 h57 f58 f59 => ?_)
   obtain ⟨q61, h62, rfl, rfl, z63, rfl, h64⟩ := h57
   refine kl_norm ?_
   refine kl_bs rfl rfl rfl (by decide) (ca rfl ca_nil) (fun v67 H68 f69 r70 s71 => ?_)
   have h72 : Ints H68 v67 [z63] := litInts (xs := [z63]) (by simpa using s71)
   refine kl_apL z63 rfl rfl o8 (by assumption) rfl (oc rfl oc_nil) (by (first | omega | (simp; omega))) (by decide) (fun v73 H74 o75 f76 => ?_)
   have f77 := f76 B f9 (Nat.le_refl _)
   refine kl_as rfl (kl_nil (kq_code (kc_ret ?_)))
   exact kq_retT rfl rfl [sing br (.cells [vbr, .int .i64 (q61 : Int)].toArray 73 (0, 0))] [H74] noHp (fr1 f77) (fr_no _) ⟨q61, by omega, rfl, H74, (out ++ [z63]), rfl, o75, by first | omega | (simp; omega)⟩
  ·skip
   refine kc_seq (kc_region (kl_eql rfl rfl ?_))
   refine kl_as rfl (kl_nil (kq_code (kc_if rfl (fun c78 => ?_) (fun c78 => ?_))))
   ·skip
    refine kc_seq (kc_region (kl_mv rfl (kl_mv rfl (kl_callT rfl rfl (pick_ok q43 n (by omega) hr) (fun v79 L1 Ln K83 h80 f81 f82 => ?_)))))
    obtain ⟨q84, h85, rfl, rfl, z86, rfl, h87⟩ := h80
    refine kl_norm ?_
    refine kl_bsI [z86] rfl rfl rfl (by decide) (fun v90 H91 f92 o93 => ?_)
    refine kl_mv rfl (kl_frz H7 ?_)
    have h94 := OwnL.ints o8
    refine kl_apS rfl rfl o93 (by assumption) (fun _ _ h => h) (by (first | omega | (simp; omega))) (by decide) (fun v95 H96 o97 f98 => ?_)
    have f99 := f98 B f92 (Nat.le_refl _)
    refine kl_as rfl (kl_nil (kq_code (kc_ret ?_)))
    exact kq_retT rfl rfl [sing br (.cells [vbr, .int .i64 (q84 : Int)].toArray 73 (0, 0))] [H96] noHp (fr1 f99) (fr_no _) ⟨q84, by omega, rfl, H96, ([z86] ++ out), rfl, o97, by first | omega | (simp; omega)⟩
   ·skip
    refine kc_skipQ (kq_code (kc_seq (kc_region (kl_mv rfl (kl_as rfl (kl_nil (kq_code (kc_ret ?_))))))))
    exact kq_retT rfl rfl [sing br (.cells [vbr, .int .i64 (q43 : Int)].toArray 73 (0, 0))] [H7] noHp (fr1 f9) (fr_no _) ⟨q43, by omega, rfl, H7, out, rfl, o8, by first | omega | (simp; omega)⟩
end Go.Proofs.Ytiilanckbocifaa
