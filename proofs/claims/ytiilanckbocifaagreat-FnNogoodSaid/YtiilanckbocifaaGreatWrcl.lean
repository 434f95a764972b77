/- Walks of functions of the program: each returns what the plain function gives. Conditions: those that each statement names. -/
import Derived.Test.YtiilanckbocifaaGreatWmc
import Derived.Test.YtiilanckbocifaaGreatWrd
namespace Go.Proofs.YtiilanckbocifaaGreat
open Go
set_option linter.unusedSimpArgs false
set_option linter.unusedVariables false
theorem randomClause_ok {br : Nat} {vbr : Value} {Hr : Hp} {bsr : List Int} (pr : Nat) (n : Int) (hp : pr + (60) ≤ 1000000) (hr : Bytes Hr vbr bsr) : SpecT Tryz.prog 151 [.pointer (some ⟨br, 0, none⟩), .int .i64 n] [sing br (.cells [vbr, .int .i64 (pr : Int)].toArray 85 (0, 0))] [Hr] (fun vq L1 Ln Kq => ∃ q : Nat, q ≤ pr + (60) ∧ L1 = [sing br (.cells [vbr, .int .i64 (q : Int)].toArray 85 (0, 0))] ∧ ∃ (Hq : Hp) (xq : List Lit), Ln = [Hq] ∧ OwnL 74 3 Hq noHp LitV vq xq ∧ xq.length ≤ 4) := by
 refine specT_of Tryz.func151 rfl rfl rfl (fun B => ?_)
 refine kc_seq (kc_region (kl_as rfl (kl_nil (kq_code (kc_seq (kc_region (kl_bs0k (K := noHp) LitV rfl (fun v1 H2 f3 o4 => ?_))))))))
 refine kl_as rfl (kl_nil (kq_code (kc_seq (kc_seq (kc_region (kl_mv rfl (kl_callT rfl rfl (pick_ok pr (4 : Int) (by omega) hr) (fun v5 L1 Ln K9 h6 f7 f8 => ?_))))))))
 obtain ⟨q10, h11, rfl, rfl, z12, rfl, h13⟩ := h6
 refine kl_norm ?_
 refine kl_as rfl (kl_nil (kq_code (kc_block (kc_loopL (A := Int × List Lit × Value × Hp × Nat) (fun zz => (0 ≤ zz.1 ∧ zz.1 ≤ 4 ∧ zz.2.1.length + zz.1.toNat ≤ 4) ∧ OwnL 74 3 zz.2.2.2.1 noHp LitV zz.2.2.1 zz.2.1 ∧ Fr B zz.2.2.2.1 ∧ zz.2.2.2.2 ≤ q10 + 10 * (4 - zz.1).toNat) (fun zz => zz.1.toNat) (fun zz => [sing br (.cells [vbr, .int .i64 (zz.2.2.2.2 : Int)].toArray 85 (0, 0)), zz.2.2.2.1]) (fun zz => [(6, .int .i64 zz.1), (5, zz.2.2.1)]) (z12, ([]), v1, H2, q10) (pc 0 rfl (pc 1 rfl (pc 4 rfl pn))) (pc 6 rfl (pc 5 rfl pn)) rfl ⟨⟨by dsimp only; omega, by dsimp only; omega, by simp; omega⟩, o4, f3, (by first | omega | (dsimp only; omega))⟩ ?_))))
 rintro ⟨k, out, v21, H18, q22⟩ hJ24
 obtain ⟨hi17, o19, f20, hq23⟩ : (0 ≤ k ∧ k ≤ 4 ∧ out.length + k.toNat ≤ 4) ∧ OwnL 74 3 H18 noHp LitV v21 out ∧ Fr B H18 ∧ q22 ≤ q10 + 10 * (4 - k).toNat := hJ24
 change KC _ _ (_) [sing br (.cells [vbr, .int .i64 (q22 : Int)].toArray 85 (0, 0)), H18] _ ([(6, .int .i64 k), (5, v21)] ++ _)
 refine kc_seq (kc_seq (kc_region (kl_mv rfl (kl_gtr rfl rfl ?_))))
 refine kl_nil (kq_code (kc_if rfl (fun c25 => ?_) (fun c25 => ?_)))
 ·skip
  refine kc_skipQ (kq_code (kc_seq (kc_block (kc_region (kl_mv rfl (kl_mv rfl (kl_mv rfl (kl_callT rfl rfl (pick_ok q22 n (by omega) hr) (fun v26 L1 Ln K30 h27 f28 f29 => ?_)))))))))
  obtain ⟨q31, h32, rfl, rfl, z33, rfl, h34⟩ := h27
  refine kl_norm ?_
  refine kl_mv rfl (kl_callT rfl rfl (pick_ok q31 (4 : Int) (by omega) hr) (fun v37 L1 Ln K41 h38 f39 f40 => ?_))
  obtain ⟨q42, h43, rfl, rfl, z44, rfl, h45⟩ := h38
  refine kl_norm ?_
  refine kl_mv rfl (kl_callT rfl rfl (pick_ok q42 (2 : Int) (by omega) hr) (fun v48 L1 Ln K52 h49 f50 f51 => ?_))
  obtain ⟨q53, h54, rfl, rfl, z55, rfl, h56⟩ := h49
  refine kl_norm ?_
  refine kl_eql rfl rfl ?_
  refine kl_bd rfl (cp rfl (cp rfl (cp rfl cp_nil))) rfl ?_
  refine kl_bsQ rfl (fun v59 H60 f61 r62 h63 => ?_)
  refine kl_callL rfl rfl (mergeCl_ok out ([(⟨z33, z44, decide (z55 = (0 : Int))⟩ : Lit)]) (by simp; omega) (OwnL.lits o19) (by assumption)) (fun v64 H65 f66 h67 => ?_)
  obtain ⟨z68, o70, h69⟩ := h67
  have hmc := h69
  refine kl_as rfl (kl_nil (kq_code (kc_region (kl_mv rfl (kl_sub rfl rfl (by omega) ?_)))))
  refine kl_as rfl (kl_nil (kq_take [sing br (.cells [vbr, .int .i64 (q53 : Int)].toArray 85 (0, 0)), H65] ?_))
  refine kq_roundL ((k - (1 : Int)), z68, v64, H65, q53) (by (dsimp only; omega)) (⟨⟨by dsimp only; omega, by dsimp only; omega, by have h9 := hmc; simp at h9; dsimp only; omega⟩, o70, f66, (by first | omega | (dsimp only; omega))⟩) (pc 6 rfl (pc 5 rfl pn)) (pc 0 rfl (pc 1 rfl (pc 4 rfl pn))) rfl (List.Sublist.refl _)
 ·skip
  refine kc_exit (kq_code (kc_seq (kc_region (kl_mv rfl (kl_as rfl (kl_nil (kq_code (kc_ret ?_))))))))
  exact kq_retT rfl rfl [sing br (.cells [vbr, .int .i64 (q22 : Int)].toArray 85 (0, 0))] [H18] noHp (fr1 f20) (fr_no _) ⟨q22, by omega, rfl, H18, out, rfl, o19, by omega⟩
theorem anyClause_ok {br : Nat} {vbr : Value} {Hr : Hp} {bsr : List Int} (pr : Nat) (n : Int) (hp : pr + (70) ≤ 1000000) (hr : Bytes Hr vbr bsr) : SpecT Tryz.prog 122 [.pointer (some ⟨br, 0, none⟩), .int .i64 n] [sing br (.cells [vbr, .int .i64 (pr : Int)].toArray 85 (0, 0))] [Hr] (fun vq L1 Ln Kq => ∃ q : Nat, q ≤ pr + (70) ∧ L1 = [sing br (.cells [vbr, .int .i64 (q : Int)].toArray 85 (0, 0))] ∧ ∃ (Hq : Hp) (xq : List Lit), Ln = [Hq] ∧ OwnL 74 3 Hq noHp LitV vq xq ∧ xq.length ≤ 5) := by
 refine specT_of Tryz.func122 rfl rfl rfl (fun B => ?_)
 refine kc_seq (kc_region (kl_as rfl (kl_nil (kq_code (kc_seq (kc_region (kl_mv rfl (kl_mv rfl (kl_callT rfl rfl (randomClause_ok pr n (by omega) hr) (fun v1 L1 Ln K5 h2 f3 f4 => ?_))))))))))
 obtain ⟨q6, h7, rfl, H10, z8, rfl, o11, h9⟩ := h2
 have f12 := f3 _ (.head _)
 have hrc := h9
 refine kl_norm ?_
 refine kl_as rfl (kl_nil (kq_code (kc_seq (kc_seq (kc_region (kl_mv rfl (kl_callT rfl rfl (pick_ok q6 (16 : Int) (by omega) hr) (fun v13 L1 Ln K17 h14 f15 f16 => ?_))))))))
 obtain ⟨q18, h19, rfl, rfl, z20, rfl, h21⟩ := h14
 refine kl_norm ?_
 refine kl_nil (kq_code (kc_block (kc_seq (kc_region (kl_eql rfl rfl ?_)))))
 refine kl_as rfl (kl_nil (kq_code (kc_if rfl (fun c24 => ?_) (fun c24 => ?_))))
 ·skip
  refine kc_seq (kc_region (kl_mv rfl (kl_mv rfl (kl_mv rfl (kl_bs rfl rfl rfl (by decide) (ca rfl (ca rfl ca_nil)) (fun v25 H26 f27 r28 s29 => ?_))))))
  have h30 : Ints H26 v25 [(-1 : Int), n] := litInts (xs := [(-1 : Int), n]) (by simpa using s29)
  refine kl_callT rfl rfl (one_ok q18 ([(-1 : Int), n]) (by simp) (by omega) hr (by assumption)) (fun v31 L1 Ln K35 h32 f33 f34 => ?_)
  obtain ⟨q36, h37, rfl, rfl, z38, rfl, h39⟩ := h32
  refine kl_norm ?_
  refine kl_mv rfl (kl_bs rfl rfl rfl (by decide) (ca rfl (ca rfl ca_nil)) (fun v42 H43 f44 r45 s46 => ?_))
  have h47 : Ints H43 v42 [(0 : Int), (6 : Int)] := litInts (xs := [(0 : Int), (6 : Int)]) (by simpa using s46)
  refine kl_callT rfl rfl (one_ok q36 ([(0 : Int), (6 : Int)]) (by simp) (by omega) hr (by assumption)) (fun v48 L1 Ln K52 h49 f50 f51 => ?_)
  obtain ⟨q53, h54, rfl, rfl, z55, rfl, h56⟩ := h49
  refine kl_norm ?_
  refine kl_bd rfl (cp rfl (cp rfl cp_nil)) rfl ?_
  refine kl_bsQ rfl (fun v59 H60 f61 r62 h63 => ?_)
  refine kl_apL (⟨z38, z55, false⟩ : Lit) rfl rfl o11 r62 rfl (oc rfl (oc rfl (oc rfl oc_nil))) (by (simp; omega)) (by decide) (fun v64 H65 o66 f67 => ?_)
  have f68 := f67 B f12 (Nat.le_refl _)
  refine kl_as rfl (kl_nil (kq_code (kc_ret ?_)))
  exact kq_retT rfl rfl [sing br (.cells [vbr, .int .i64 (q53 : Int)].toArray 85 (0, 0))] [H65] noHp (fr1 f68) (fr_no _) ⟨q53, by omega, rfl, H65, (z8 ++ [(⟨z38, z55, false⟩ : Lit)]), rfl, o66, by first | omega | (simp; omega)⟩
 ·skip
  refine kc_seq (kc_region (kl_eql rfl rfl ?_))
  refine kl_as rfl (kl_nil (kq_code (kc_if rfl (fun c69 => ?_) (fun c69 => ?_))))
  ·skip
   refine kc_seq (kc_region (kl_mv rfl (kl_lenL rfl o11 (fun l70 => ?_))))
   refine kl_gtr rfl rfl ?_
   refine kl_nil (kq_code (kc_if rfl (fun c71 => ?_) (fun c71 => ?_)))
   ·skip
    refine kc_seq (kc_frz H10 ?_)
    have h72 := OwnL.lits o11
    refine kc_tree (fun i => ([8] : List Nat).contains i) [] (by kernel_rfl) ?_
    refine kt_q 1 (List.nil_sublist _) rfl (by kernel_rfl) (kl_mv rfl (kl_nil (kq_q (kt_q 2 (List.nil_sublist _) rfl (by kernel_rfl) (kl_slDrop (j := 1) rfl rfl (by assumption) (by omega) (fun u73 h74 => ?_))))))
    refine kl_nil (kq_q (kt_q 4 (List.nil_sublist _) rfl (by kernel_rfl) (kl_mv rfl (kl_nil (kq_q (kt_q 5 (List.nil_sublist _) rfl (by kernel_rfl) (kl_inQ (i := 0) rfl rfl (by assumption) (by omega) (fun p75 a76 => ?_))))))))
    refine kl_nil (kq_q (kt_q 6 (List.nil_sublist _) rfl (by kernel_rfl) (kl_ldS rfl (by assumption) rfl ?_)))
    refine kl_nil (kq_q (kt_b 0 7 rfl rfl (by kernel_rfl) ?_ ?_))
    ·skip
     refine kl_bs0k (K := noHp) LitV rfl (fun v77 H78 f79 o80 => ?_)
     refine kl_nil (kq_a (List.nil_sublist _) (kt_b 3 7 rfl rfl (by kernel_rfl) ?_ ?_))
     ·skip
      refine kl_apS rfl rfl o80 (by assumption) (fun _ _ h => h) (by (simp; omega)) (by decide) (fun v81 H82 o83 f84 => ?_)
      have f85 := f84 B f79 (Nat.le_refl _)
      refine kl_nil (kq_a (List.nil_sublist _) (kt_a 7 rfl (by kernel_rfl) (kl_bsQ rfl (fun v86 H87 f88 r89 h90 => ?_))))
      refine kl_nil (kq_a (List.nil_sublist _) (kt_a 8 rfl (by kernel_rfl) (kl_apL (z8.getD 0 nilLit) rfl rfl o83 r89 rfl (oc rfl (oc rfl (oc rfl oc_nil))) (by (simp; omega)) (by decide) (fun v91 H92 o93 f94 => ?_))))
      have f95 := f94 B f85 (Nat.le_refl _)
      refine kl_nil (kq_x rfl (kt_q 9 (List.nil_sublist _) rfl (by kernel_rfl) (kl_as rfl (kl_nil (kq_q (kt_end (by kernel_rfl) ?_))))))
      refine kq_code (kc_ret ?_)
      exact kq_retT rfl rfl [sing br (.cells [vbr, .int .i64 (q18 : Int)].toArray 85 (0, 0))] [H92] noHp (fr1 f95) (fr_no _) ⟨q18, by omega, rfl, H92, (([] ++ (z8.drop 1)) ++ [(z8.getD 0 nilLit)]), rfl, o93, by first | omega | (simp; omega)⟩
     ·skip
      refine kl_bsQ rfl (fun v96 H97 f98 r99 h100 => ?_)
      refine kl_nil (kq_a (List.nil_sublist _) (kt_a 3 rfl (by kernel_rfl) (kl_apS rfl rfl o80 (by assumption) (fun _ _ h => h) (by (simp; omega)) (by decide) (fun v101 H102 o103 f104 => ?_))))
      have f105 := f104 B f79 (Nat.le_refl _)
      refine kl_nil (kq_a (List.nil_sublist _) (kt_a 8 rfl (by kernel_rfl) (kl_apL (z8.getD 0 nilLit) rfl rfl o103 r99 rfl (oc rfl (oc rfl (oc rfl oc_nil))) (by (simp; omega)) (by decide) (fun v106 H107 o108 f109 => ?_))))
      have f110 := f109 B f105 (Nat.le_refl _)
      refine kl_nil (kq_x rfl (kt_q 9 (List.nil_sublist _) rfl (by kernel_rfl) (kl_as rfl (kl_nil (kq_q (kt_end (by kernel_rfl) ?_))))))
      refine kq_code (kc_ret ?_)
      exact kq_retT rfl rfl [sing br (.cells [vbr, .int .i64 (q18 : Int)].toArray 85 (0, 0))] [H107] noHp (fr1 f110) (fr_no _) ⟨q18, by omega, rfl, H107, (([] ++ (z8.drop 1)) ++ [(z8.getD 0 nilLit)]), rfl, o108, by first | omega | (simp; omega)⟩
    ·skip
     refine kl_bsQ rfl (fun v111 H112 f113 r114 h115 => ?_)
     refine kl_nil (kq_a (List.nil_sublist _) (kt_a 0 rfl (by kernel_rfl) (kl_bs0k (K := noHp) LitV rfl (fun v116 H117 f118 o119 => ?_))))
     refine kl_nil (kq_a (List.nil_sublist _) (kt_a 3 rfl (by kernel_rfl) (kl_apS rfl rfl o119 (by assumption) (fun _ _ h => h) (by (simp; omega)) (by decide) (fun v120 H121 o122 f123 => ?_))))
     have f124 := f123 B f118 (Nat.le_refl _)
     refine kl_nil (kq_a (List.nil_sublist _) (kt_a 8 rfl (by kernel_rfl) (kl_apL (z8.getD 0 nilLit) rfl rfl o122 r114 rfl (oc rfl (oc rfl (oc rfl oc_nil))) (by (simp; omega)) (by decide) (fun v125 H126 o127 f128 => ?_))))
     have f129 := f128 B f124 (Nat.le_refl _)
     refine kl_nil (kq_x rfl (kt_q 9 (List.nil_sublist _) rfl (by kernel_rfl) (kl_as rfl (kl_nil (kq_q (kt_end (by kernel_rfl) ?_))))))
     refine kq_code (kc_ret ?_)
     exact kq_retT rfl rfl [sing br (.cells [vbr, .int .i64 (q18 : Int)].toArray 85 (0, 0))] [H126] noHp (fr1 f129) (fr_no _) ⟨q18, by omega, rfl, H126, (([] ++ (z8.drop 1)) ++ [(z8.getD 0 nilLit)]), rfl, o127, by first | omega | (simp; omega)⟩
   ·skip
    refine kc_skipQ (kq_code (kc_seq (kc_region (kl_mv rfl (kl_as rfl (kl_nil (kq_code (kc_ret ?_))))))))
    exact kq_retT rfl rfl [sing br (.cells [vbr, .int .i64 (q18 : Int)].toArray 85 (0, 0))] [H10] noHp (fr1 f12) (fr_no _) ⟨q18, by omega, rfl, H10, z8, rfl, o11, by first | omega | (simp; omega)⟩
  ·skip
   refine kc_skipQ (kq_code (kc_seq (kc_region (kl_mv rfl (kl_as rfl (kl_nil (kq_code (kc_ret ?_))))))))
   exact kq_retT rfl rfl [sing br (.cells [vbr, .int .i64 (q18 : Int)].toArray 85 (0, 0))] [H10] noHp (fr1 f12) (fr_no _) ⟨q18, by omega, rfl, H10, z8, rfl, o11, by first | omega | (simp; omega)⟩
end Go.Proofs.YtiilanckbocifaaGreat
