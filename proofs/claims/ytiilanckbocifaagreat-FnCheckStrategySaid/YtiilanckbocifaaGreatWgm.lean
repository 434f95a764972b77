/- Walks of functions of the program: each returns what the plain function gives. Conditions: those that each statement names. -/
import Derived.Test.YtiilanckbocifaaGreatWrm
namespace Go.Proofs.YtiilanckbocifaaGreat
open Go
set_option linter.unusedSimpArgs false
set_option linter.unusedVariables false
set_option maxHeartbeats 1000000 in
theorem gameModel_ok {br : Nat} {vbr : Value} {Hr : Hp} {bsr : List Int} (pr : Nat) (hp : pr + (700) ≤ 1000000) (hr : Bytes Hr vbr bsr) : SpecT Tryz.prog 21 [.pointer (some ⟨br, 0, none⟩)] [sing br (.cells [vbr, .int .i64 (pr : Int)].toArray 85 (0, 0))] [Hr] (fun vq L1 Ln Kq => ∃ q : Nat, q ≤ pr + (700) ∧ L1 = [sing br (.cells [vbr, .int .i64 (q : Int)].toArray 85 (0, 0))] ∧ ∃ (Hq Mq : Hp) (va vc : Value) (mq : Mod), vq = .agg #[va, vc] ∧ Ln = [Hq, Mq] ∧ OwnL 3 1 Hq noHp IntV va mq.doms ∧ OwnL 70 5 Mq Kq ConV vc mq.cons ∧ ModSm 100 mq) := by
 refine specT_of Tryz.func21 rfl rfl rfl (fun B => ?_)
 refine kc_seq (kc_region (kl_alloc (cs := [.slice none 0 0, .slice none 0 0]) rfl (fun b1 hb2 => ?_)))
 refine kl_nil (kq_code (kc_seq (kc_region (kl_bd rfl cp_nil rfl ?_))))
 refine kl_alloc (cs := [.slice none 0 0, .slice none 0 0]) rfl (fun b3 hb4 => ?_)
 refine kl_stW (us := [.slice none 0 0, .slice none 0 0]) rfl rfl rfl rfl (oc rfl (oc rfl oc_nil)) rfl ?_
 refine kl_chg [sing b3 (.cells [.slice none 0 0, .slice none 0 0].toArray 26 (0, 0)), sing b1 (.cells [.slice none 0 0, .slice none 0 0].toArray 26 (0, 0)), sing br (.cells [vbr, .int .i64 (pr : Int)].toArray 85 (0, 0))] rfl ?_
 refine kl_nil (kq_code (kc_seq (kc_region (kl_mv rfl (kl_callT rfl rfl (pick_ok pr (3 : Int) (by omega) hr) (fun v5 L1 Ln K9 h6 f7 f8 => ?_))))))
 obtain ⟨q10, h11, rfl, rfl, z12, rfl, h13⟩ := h6
 refine kl_norm ?_
 refine kl_add rfl rfl (by omega) ?_
 refine kl_as rfl (kl_nil (kq_code (kc_seq (kc_seq (kc_region (kl_as rfl (kl_nil (kq_code (kc_block (kc_no ?_))))))))))
 refine kc_loopL (A := Nat × List Int × Value × Hp × Nat) (fun zz => (zz.1 ≤ 4) ∧ (zz.2.1.length = zz.1) ∧ OwnL 3 1 zz.2.2.2.1 noHp IntV zz.2.2.1 zz.2.1 ∧ Fr B zz.2.2.2.1 ∧ zz.2.2.2.2 ≤ q10 + 2 * zz.1) (fun zz => 4 - zz.1) (fun zz => [zz.2.2.2.1, sing br (.cells [vbr, .int .i64 (zz.2.2.2.2 : Int)].toArray 85 (0, 0)), sing b3 (.cells [zz.2.2.1, .slice none 0 0].toArray 26 (0, 0)), sing b1 (.cells [.slice none 0 0, .slice none 0 0].toArray 26 (0, 0))]) (fun zz => [(5, .int .i64 (zz.1 : Int))]) (0, [], .slice none 0 0, noHp, q10) (pc 0 rfl (pc 2 rfl (pc 3 rfl (pc 4 rfl pn)))) (pc 5 rfl pn) rfl ⟨Nat.zero_le _, rfl, OwnL.nil, (fr_no _), (by first | omega | (dsimp only; omega))⟩ ?_
 rintro ⟨i, ds, v21, H18, q23⟩ hJ25
 obtain ⟨hk16, hi17, o19, f20, hq24⟩ : (i ≤ 4) ∧ (ds.length = i) ∧ OwnL 3 1 H18 noHp IntV v21 ds ∧ Fr B H18 ∧ q23 ≤ q10 + 2 * i := hJ25
 change KC _ _ (_) [H18, sing br (.cells [vbr, .int .i64 (q23 : Int)].toArray 85 (0, 0)), sing b3 (.cells [v21, .slice none 0 0].toArray 26 (0, 0)), sing b1 (.cells [.slice none 0 0, .slice none 0 0].toArray 26 (0, 0))] _ ([(5, .int .i64 (i : Int))] ++ _)
 refine kc_seq (kc_seq (kc_region (kl_mv rfl (kl_mv rfl (kl_lss rfl rfl ?_)))))
 refine kl_nil (kq_code (kc_if rfl (fun c26 => ?_) (fun c26 => ?_)))
 ·skip
  refine kc_skipQ (kq_code (kc_seq (kc_block (kc_tree (fun i => ([9, 11] : List Nat).contains i) [sing b3 (.cells [v21, .slice none 0 0].toArray 26 (0, 0))] (by kernel_rfl) ?_))))
  refine kt_q 0 (.cons _ (.cons _ (.cons_cons _ (List.nil_sublist _)))) rfl (by kernel_rfl) (kl_fdV rfl (kl_nil (kq_q (kt_q 1 (.cons _ (.cons _ (.cons_cons _ (List.nil_sublist _)))) rfl (by kernel_rfl) (kl_ld rfl (at_box (T := 26) (cs := [v21, .slice none 0 0]) (off := 0) (fz := (0, 0))) (kl_nil (kq_q (kt_q 2 (.cons _ (.cons _ (.cons_cons _ (List.nil_sublist _)))) rfl (by kernel_rfl) (kl_mv rfl ?_)))))))))
  refine kl_nil (kq_q (kt_q 4 (.cons _ (.cons _ (.cons_cons _ (List.nil_sublist _)))) rfl (by kernel_rfl) (kl_mv rfl (kl_nil (kq_q (kt_a 3 rfl (by kernel_rfl) (kl_callT rfl rfl (pick_ok q23 (2 : Int) (by omega) hr) (fun v27 L1 Ln K31 h28 f29 f30 => ?_))))))))
  obtain ⟨q32, h33, rfl, rfl, z34, rfl, h35⟩ := h28
  refine kl_norm ?_
  refine kl_nil (kq_a (.cons _ (.cons _ (.cons_cons _ (List.nil_sublist _)))) (kt_a 5 rfl (by kernel_rfl) (kl_callT rfl rfl (pick_ok q32 (3 : Int) (by omega) hr) (fun v38 L1 Ln K42 h39 f40 f41 => ?_))))
  obtain ⟨q43, h44, rfl, rfl, z45, rfl, h46⟩ := h39
  refine kl_norm ?_
  refine kl_nil (kq_a (.cons _ (.cons _ (.cons_cons _ (List.nil_sublist _)))) (kt_q 6 (.cons _ (.cons _ (.cons_cons _ (List.nil_sublist _)))) rfl (by kernel_rfl) (kl_add rfl rfl (by omega) ?_)))
  refine kl_nil (kq_q (kt_a 7 rfl (by kernel_rfl) (kl_call rfl rfl (domainRange_ok z34 ((1 : Int) + z45)) (fun v49 H50 f51 h52 => ?_))))
  obtain ⟨z53, rfl, h54⟩ := h52
  refine kl_nil (kq_a (.cons _ (.cons _ (.cons_cons _ (List.nil_sublist _)))) (kt_a 8 rfl (by kernel_rfl) (kl_bs rfl rfl rfl (by decide) (ca rfl ca_nil) (fun v55 H56 f57 r58 s59 => ?_))))
  have h60 : Ints H56 v55 [z53] := litInts (xs := [z53]) (by simpa using s59)
  refine kl_nil (kq_a (.cons _ (.cons _ (.cons_cons _ (List.nil_sublist _)))) (kt_a 9 rfl (by kernel_rfl) (kl_apL z53 rfl rfl o19 (by assumption) rfl (oc rfl oc_nil) (by omega) (by decide) (fun v61 H62 o63 f64 => ?_))))
  have f65 := f64 B f20 (Nat.le_refl _)
  refine kl_nil (kq_x rfl (kt_q 10 (.cons _ (.cons _ (.cons_cons _ (List.nil_sublist _)))) rfl (by kernel_rfl) (kl_fdV rfl (kl_nil (kq_q (kt_a 11 rfl (by kernel_rfl) (kl_stB rfl rfl rfl (OwnL.oneCell (by assumption)) (OwnL.cells (by assumption)) ?_)))))))
  refine kl_chg [sing br (.cells [vbr, .int .i64 (q43 : Int)].toArray 85 (0, 0)), H62, sing b3 (.cells [v61, .slice none 0 0].toArray 26 (0, 0)), sing b1 (.cells [.slice none 0 0, .slice none 0 0].toArray 26 (0, 0))] rfl ?_
  refine kl_nil (kq_x rfl (kt_end (by kernel_rfl) ?_))
  refine kq_code (kc_region (kl_mv rfl (kl_inc rfl rfl (by omega) ?_)))
  refine kl_as rfl (kl_nil (kq_take [H62, sing br (.cells [vbr, .int .i64 (q43 : Int)].toArray 85 (0, 0)), sing b3 (.cells [v61, .slice none 0 0].toArray 26 (0, 0)), sing b1 (.cells [.slice none 0 0, .slice none 0 0].toArray 26 (0, 0))] ?_))
  refine kq_roundL ((i + 1), (ds ++ [z53]), v61, H62, q43) (by omega) (⟨by omega, (by simp; omega), o63, f65, (by first | omega | (dsimp only; omega))⟩) (pc 5 rfl pn) (pc 0 rfl (pc 2 rfl (pc 3 rfl (pc 4 rfl pn)))) rfl (List.Sublist.refl _)
 ·skip
  refine kc_exit (kq_code (kc_seq (kc_seq (kc_region (kl_mv rfl (kl_callT rfl rfl (pick_ok q23 (3 : Int) (by omega) hr) (fun v66 L1 Ln K70 h67 f68 f69 => ?_)))))))
  obtain ⟨q71, h72, rfl, rfl, z73, rfl, h74⟩ := h67
  refine kl_norm ?_
  refine kl_add rfl rfl (by omega) ?_
  refine kl_as rfl (kl_nil (kq_code (kc_block (kc_no ?_))))
  refine kc_loopK (A := Int × List Con × Value × Hp × Hp × Nat) (fun zz => (0 ≤ zz.1 ∧ zz.1 ≤ 3 ∧ zz.2.1.length + zz.1.toNat ≤ 3 ∧ ∀ c ∈ zz.2.1, ConSm 50 c) ∧ Fr B zz.2.2.2.2.1 ∧ OwnL 70 5 zz.2.2.2.1 zz.2.2.2.2.1 ConV zz.2.2.1 zz.2.1 ∧ Fr B zz.2.2.2.1 ∧ zz.2.2.2.2.2 ≤ q71 + 12 * (3 - zz.1).toNat) (fun zz => zz.1.toNat) (fun zz => zz.2.2.2.2.1) (fun zz => [zz.2.2.2.1, sing br (.cells [vbr, .int .i64 (zz.2.2.2.2.2 : Int)].toArray 85 (0, 0)), H18, sing b3 (.cells [v21, zz.2.2.1].toArray 26 (0, 0)), sing b1 (.cells [.slice none 0 0, .slice none 0 0].toArray 26 (0, 0))]) (fun zz => [(6, .int .i64 zz.1)]) (((1 : Int) + z73), [], .slice none 0 0, noHp, noHp, q71) (pc 0 rfl (pc 2 rfl (pc 3 rfl (pc 4 rfl pn)))) (pc 6 rfl pn) rfl ⟨⟨by dsimp only; omega, by dsimp only; omega, by dsimp only; simp; omega, all_nil⟩, (fr_no _), OwnL.nil, (fr_no _), (by first | omega | (dsimp only; omega))⟩ ?_
  rintro ⟨k, cs, v82, H79, K83, q86⟩ hJ88
  obtain ⟨hi78, f84, o80, f81, hq87⟩ : (0 ≤ k ∧ k ≤ 3 ∧ cs.length + k.toNat ≤ 3 ∧ ∀ c ∈ cs, ConSm 50 c) ∧ Fr B K83 ∧ OwnL 70 5 H79 K83 ConV v82 cs ∧ Fr B H79 ∧ q86 ≤ q71 + 12 * (3 - k).toNat := hJ88
  change KC _ _ (K83 :: _) [H79, sing br (.cells [vbr, .int .i64 (q86 : Int)].toArray 85 (0, 0)), H18, sing b3 (.cells [v21, v82].toArray 26 (0, 0)), sing b1 (.cells [.slice none 0 0, .slice none 0 0].toArray 26 (0, 0))] _ ([(6, .int .i64 k)] ++ _)
  have hall := hi78.2.2.2
  refine kc_seq (kc_seq (kc_region (kl_mv rfl (kl_gtr rfl rfl ?_))))
  refine kl_nil (kq_code (kc_if rfl (fun c89 => ?_) (fun c89 => ?_)))
  ·skip
   refine kc_skipQ (kq_code (kc_seq (kc_block (kc_seq (kc_region (kl_mv rfl (kl_mv rfl (kl_callT rfl rfl (pick_ok q86 ((2 : Int) + z12) (by omega) hr) (fun v90 L1 Ln K94 h91 f92 f93 => ?_)))))))))
   obtain ⟨q95, h96, rfl, rfl, z97, rfl, h98⟩ := h91
   refine kl_norm ?_
   refine kl_as rfl (kl_nil (kq_code (kc_seq (kc_treeJ (A := Nat × Nat × Hp × Value × (List Int) × Hp × Value × (List Int)) (fun i => ([15, 17] : List Nat).contains i) [] (by kernel_rfl) (fun zz => B.heap.size ≤ zz.1 ∧ zz.2.1 ≤ q95 + 2 ∧ Ints zz.2.2.1 zz.2.2.2.1 zz.2.2.2.2.1 ∧ Fr B zz.2.2.1 ∧ zz.2.2.2.2.1.length = 2 ∧ Ints zz.2.2.2.2.2.1 zz.2.2.2.2.2.2.1 zz.2.2.2.2.2.2.2 ∧ Fr B zz.2.2.2.2.2.1 ∧ zz.2.2.2.2.2.2.2.length = 1) (fun zz => [zz.2.2.1, zz.2.2.2.2.2.1]) (fun zz => [sing zz.1 (.cells [.int .i64 (2 : Int), zz.2.2.2.1, zz.2.2.2.2.2.2.1, .int .i64 (0 : Int), .slice none 0 0].toArray 70 (0, 0)), sing br (.cells [vbr, .int .i64 (zz.2.1 : Int)].toArray 85 (0, 0)), H79, H18, sing b3 (.cells [v21, v82].toArray 26 (0, 0)), sing b1 (.cells [.slice none 0 0, .slice none 0 0].toArray 26 (0, 0))]) (fun zz => [(0, .pointer (some ⟨br, 0, none⟩)), (2, .pointer (some ⟨b1, 0, none⟩)), (3, .pointer (some ⟨b3, 0, none⟩)), (4, .int .i64 ((2 : Int) + z12)), (6, .int .i64 k), (8, .pointer (some ⟨zz.1, 0, none⟩))]) ?_ ?_))))
   ·skip
    refine kt_q 0 (List.nil_sublist _) rfl (by kernel_rfl) (kl_mv rfl (kl_nil (kq_q (kt_q 1 (List.nil_sublist _) rfl (by kernel_rfl) (kl_mv rfl (kl_nil (kq_q (kt_q 2 (List.nil_sublist _) rfl (by kernel_rfl) (kl_add rfl rfl (by omega) ?_)))))))))
    refine kl_nil (kq_q (kt_q 3 (List.nil_sublist _) rfl (by kernel_rfl) (kl_mv rfl (kl_nil (kq_q (kt_q 4 (List.nil_sublist _) rfl (by kernel_rfl) (kl_mv rfl (kl_nil (kq_q (kt_q 5 (List.nil_sublist _) rfl (by kernel_rfl) (kl_sub rfl rfl (by omega) ?_)))))))))))
    refine kl_nil (kq_q (kt_q 8 (List.nil_sublist _) rfl (by kernel_rfl) (kl_mv rfl (kl_nil (kq_q (kt_q 11 (List.nil_sublist _) rfl (by kernel_rfl) (kl_mv rfl (kl_nil (kq_q (kt_b 6 16 rfl rfl (by kernel_rfl) ?_ ?_))))))))))
    ·skip
     refine kl_callT rfl rfl (pick_ok q95 (((2 : Int) + z12) - (1 : Int)) (by omega) hr) (fun v154 L1 Ln K158 h155 f156 f157 => ?_)
     obtain ⟨q159, h160, rfl, rfl, z161, rfl, h162⟩ := h155
     refine kl_norm ?_
     refine kl_nil (kq_a (List.nil_sublist _) (kt_q 7 (List.nil_sublist _) rfl (by kernel_rfl) (kl_add rfl rfl (by omega) ?_)))
     refine kl_nil (kq_q (kt_q 9 (List.nil_sublist _) rfl (by kernel_rfl) ?_))
     have h165 := tmod_in (m := ((z97 + (1 : Int)) + z161)) (k := ((2 : Int) + z12)) (by omega) (by omega)
     refine kl_rem rfl rfl (by omega) ?_
     refine kl_nil (kq_q (kt_c 10 12 16 rfl rfl rfl (by kernel_rfl) ?_ ?_ ?_))
     ·skip
      refine kl_bs rfl rfl rfl (by decide) (ca rfl (ca rfl ca_nil)) (fun v166 H167 f168 r169 s170 => ?_)
      have h171 : Ints H167 v166 [z97, (Int.tmod ((z97 + (1 : Int)) + z161) ((2 : Int) + z12))] := litInts (xs := [z97, (Int.tmod ((z97 + (1 : Int)) + z161) ((2 : Int) + z12))]) (by simpa using s170)
      refine kl_nil (kq_a (List.nil_sublist _) (kt_b 12 16 rfl rfl (by kernel_rfl) ?_ ?_))
      ·skip
       refine kl_callT rfl rfl (pick_ok q159 (3 : Int) (by omega) hr) (fun v172 L1 Ln K176 h173 f174 f175 => ?_)
       obtain ⟨q177, h178, rfl, rfl, z179, rfl, h180⟩ := h173
       refine kl_norm ?_
       refine kl_nil (kq_a (List.nil_sublist _) (kt_q 13 (List.nil_sublist _) rfl (by kernel_rfl) (kl_sub rfl rfl (by omega) ?_)))
       refine kl_nil (kq_q (kt_b 14 16 rfl rfl (by kernel_rfl) ?_ ?_))
       ·skip
        refine kl_bs rfl rfl rfl (by decide) (ca rfl ca_nil) (fun v183 H184 f185 r186 s187 => ?_)
        have h188 : Ints H184 v183 [(z179 - (1 : Int))] := litInts (xs := [(z179 - (1 : Int))]) (by simpa using s187)
        refine kl_nil (kq_a (List.nil_sublist _) (kt_b 15 16 rfl rfl (by kernel_rfl) ?_ ?_))
        ·skip
         refine kl_bd rfl (cp rfl (cp (Sl.cells (by assumption)) (cp (Sl.cells (by assumption)) cp_nil))) rfl ?_
         refine kl_nil (kq_x rfl (kt_a 16 rfl (by kernel_rfl) (kl_alloc (cs := [.int .i64 (0 : Int), .slice none 0 0, .slice none 0 0, .int .i64 (0 : Int), .slice none 0 0]) rfl (fun b189 hb190 => ?_))))
         refine kl_nil (kq_a (List.nil_sublist _) (kt_a 17 rfl (by kernel_rfl) (kl_stW (us := [.int .i64 (2 : Int), v166, v183, .int .i64 (0 : Int), .slice none 0 0]) rfl rfl rfl rfl (oc rfl (oc (Sl.oneCell (by assumption)) (oc (Sl.oneCell (by assumption)) (oc rfl (oc rfl oc_nil))))) rfl ?_)))
         refine kl_chg [sing b189 (.cells [.int .i64 (2 : Int), v166, v183, .int .i64 (0 : Int), .slice none 0 0].toArray 70 (0, 0)), sing br (.cells [vbr, .int .i64 (q177 : Int)].toArray 85 (0, 0)), H79, H18, sing b3 (.cells [v21, v82].toArray 26 (0, 0)), sing b1 (.cells [.slice none 0 0, .slice none 0 0].toArray 26 (0, 0))] rfl ?_
         refine kl_nil (kq_x rfl (kt_end (by kernel_rfl) ?_))
         exact kq_rj (b189, q177, H167, v166, ([z97, (Int.tmod ((z97 + (1 : Int)) + z161) ((2 : Int) + z12))]), H184, v183, ([(z179 - (1 : Int))])) [H167, H184] [sing b189 (.cells [.int .i64 (2 : Int), v166, v183, .int .i64 (0 : Int), .slice none 0 0].toArray 70 (0, 0)), sing br (.cells [vbr, .int .i64 (q177 : Int)].toArray 85 (0, 0)), H79, H18, sing b3 (.cells [v21, v82].toArray 26 (0, 0)), sing b1 (.cells [.slice none 0 0, .slice none 0 0].toArray 26 (0, 0))] rfl rfl ⟨hb190, (by dsimp only; omega), (by assumption), f168, (by dsimp only; first | omega | (simp; done) | (simp; omega)), (by assumption), f185, (by dsimp only; first | omega | (simp; done) | (simp; omega))⟩ (pc 0 rfl (pc 2 rfl (pc 3 rfl (pc 4 rfl (pc 6 rfl (pc 8 rfl pn))))))
        ·skip
         refine kl_alloc (cs := [.int .i64 (0 : Int), .slice none 0 0, .slice none 0 0, .int .i64 (0 : Int), .slice none 0 0]) rfl (fun b191 hb192 => ?_)
         refine kl_nil (kq_a (List.nil_sublist _) (kt_a 15 rfl (by kernel_rfl) (kl_bd rfl (cp rfl (cp (Sl.cells (by assumption)) (cp (Sl.cells (by assumption)) cp_nil))) rfl ?_)))
         refine kl_nil (kq_x rfl (kt_a 17 rfl (by kernel_rfl) (kl_stW (us := [.int .i64 (2 : Int), v166, v183, .int .i64 (0 : Int), .slice none 0 0]) rfl rfl rfl rfl (oc rfl (oc (Sl.oneCell (by assumption)) (oc (Sl.oneCell (by assumption)) (oc rfl (oc rfl oc_nil))))) rfl ?_)))
         refine kl_chg [sing b191 (.cells [.int .i64 (2 : Int), v166, v183, .int .i64 (0 : Int), .slice none 0 0].toArray 70 (0, 0)), sing br (.cells [vbr, .int .i64 (q177 : Int)].toArray 85 (0, 0)), H79, H18, sing b3 (.cells [v21, v82].toArray 26 (0, 0)), sing b1 (.cells [.slice none 0 0, .slice none 0 0].toArray 26 (0, 0))] rfl ?_
         refine kl_nil (kq_x rfl (kt_end (by kernel_rfl) ?_))
         exact kq_rj (b191, q177, H167, v166, ([z97, (Int.tmod ((z97 + (1 : Int)) + z161) ((2 : Int) + z12))]), H184, v183, ([(z179 - (1 : Int))])) [H167, H184] [sing b191 (.cells [.int .i64 (2 : Int), v166, v183, .int .i64 (0 : Int), .slice none 0 0].toArray 70 (0, 0)), sing br (.cells [vbr, .int .i64 (q177 : Int)].toArray 85 (0, 0)), H79, H18, sing b3 (.cells [v21, v82].toArray 26 (0, 0)), sing b1 (.cells [.slice none 0 0, .slice none 0 0].toArray 26 (0, 0))] rfl rfl ⟨hb192, (by dsimp only; omega), (by assumption), f168, (by dsimp only; first | omega | (simp; done) | (simp; omega)), (by assumption), f185, (by dsimp only; first | omega | (simp; done) | (simp; omega))⟩ (pc 0 rfl (pc 2 rfl (pc 3 rfl (pc 4 rfl (pc 6 rfl (pc 8 rfl pn))))))
       ·skip
        refine kl_alloc (cs := [.int .i64 (0 : Int), .slice none 0 0, .slice none 0 0, .int .i64 (0 : Int), .slice none 0 0]) rfl (fun b193 hb194 => ?_)
        refine kl_nil (kq_a (List.nil_sublist _) (kt_a 14 rfl (by kernel_rfl) (kl_bs rfl rfl rfl (by decide) (ca rfl ca_nil) (fun v195 H196 f197 r198 s199 => ?_))))
        have h200 : Ints H196 v195 [(z179 - (1 : Int))] := litInts (xs := [(z179 - (1 : Int))]) (by simpa using s199)
        refine kl_nil (kq_a (List.nil_sublist _) (kt_a 15 rfl (by kernel_rfl) (kl_bd rfl (cp rfl (cp (Sl.cells (by assumption)) (cp (Sl.cells (by assumption)) cp_nil))) rfl ?_)))
        refine kl_nil (kq_x rfl (kt_a 17 rfl (by kernel_rfl) (kl_stW (us := [.int .i64 (2 : Int), v166, v195, .int .i64 (0 : Int), .slice none 0 0]) rfl rfl rfl rfl (oc rfl (oc (Sl.oneCell (by assumption)) (oc (Sl.oneCell (by assumption)) (oc rfl (oc rfl oc_nil))))) rfl ?_)))
        refine kl_chg [sing b193 (.cells [.int .i64 (2 : Int), v166, v195, .int .i64 (0 : Int), .slice none 0 0].toArray 70 (0, 0)), sing br (.cells [vbr, .int .i64 (q177 : Int)].toArray 85 (0, 0)), H79, H18, sing b3 (.cells [v21, v82].toArray 26 (0, 0)), sing b1 (.cells [.slice none 0 0, .slice none 0 0].toArray 26 (0, 0))] rfl ?_
        refine kl_nil (kq_x rfl (kt_end (by kernel_rfl) ?_))
        exact kq_rj (b193, q177, H167, v166, ([z97, (Int.tmod ((z97 + (1 : Int)) + z161) ((2 : Int) + z12))]), H196, v195, ([(z179 - (1 : Int))])) [H167, H196] [sing b193 (.cells [.int .i64 (2 : Int), v166, v195, .int .i64 (0 : Int), .slice none 0 0].toArray 70 (0, 0)), sing br (.cells [vbr, .int .i64 (q177 : Int)].toArray 85 (0, 0)), H79, H18, sing b3 (.cells [v21, v82].toArray 26 (0, 0)), sing b1 (.cells [.slice none 0 0, .slice none 0 0].toArray 26 (0, 0))] rfl rfl ⟨hb194, (by dsimp only; omega), (by assumption), f168, (by dsimp only; first | omega | (simp; done) | (simp; omega)), (by assumption), f197, (by dsimp only; first | omega | (simp; done) | (simp; omega))⟩ (pc 0 rfl (pc 2 rfl (pc 3 rfl (pc 4 rfl (pc 6 rfl (pc 8 rfl pn))))))
      ·skip
       refine kl_alloc (cs := [.int .i64 (0 : Int), .slice none 0 0, .slice none 0 0, .int .i64 (0 : Int), .slice none 0 0]) rfl (fun b201 hb202 => ?_)
       refine kl_nil (kq_a (List.nil_sublist _) (kt_a 12 rfl (by kernel_rfl) (kl_callT rfl rfl (pick_ok q159 (3 : Int) (by omega) hr) (fun v203 L1 Ln K207 h204 f205 f206 => ?_))))
       obtain ⟨q208, h209, rfl, rfl, z210, rfl, h211⟩ := h204
       refine kl_norm ?_
       refine kl_nil (kq_a (List.nil_sublist _) (kt_q 13 (List.nil_sublist _) rfl (by kernel_rfl) (kl_sub rfl rfl (by omega) ?_)))
       refine kl_nil (kq_q (kt_a 14 rfl (by kernel_rfl) (kl_bs rfl rfl rfl (by decide) (ca rfl ca_nil) (fun v214 H215 f216 r217 s218 => ?_))))
       have h219 : Ints H215 v214 [(z210 - (1 : Int))] := litInts (xs := [(z210 - (1 : Int))]) (by simpa using s218)
       refine kl_nil (kq_a (List.nil_sublist _) (kt_a 15 rfl (by kernel_rfl) (kl_bd rfl (cp rfl (cp (Sl.cells (by assumption)) (cp (Sl.cells (by assumption)) cp_nil))) rfl ?_)))
       refine kl_nil (kq_x rfl (kt_a 17 rfl (by kernel_rfl) (kl_stW (us := [.int .i64 (2 : Int), v166, v214, .int .i64 (0 : Int), .slice none 0 0]) rfl rfl rfl rfl (oc rfl (oc (Sl.oneCell (by assumption)) (oc (Sl.oneCell (by assumption)) (oc rfl (oc rfl oc_nil))))) rfl ?_)))
       refine kl_chg [sing br (.cells [vbr, .int .i64 (q208 : Int)].toArray 85 (0, 0)), sing b201 (.cells [.int .i64 (2 : Int), v166, v214, .int .i64 (0 : Int), .slice none 0 0].toArray 70 (0, 0)), H79, H18, sing b3 (.cells [v21, v82].toArray 26 (0, 0)), sing b1 (.cells [.slice none 0 0, .slice none 0 0].toArray 26 (0, 0))] rfl ?_
       refine kl_nil (kq_x rfl (kt_end (by kernel_rfl) ?_))
       exact kq_rj (b201, q208, H167, v166, ([z97, (Int.tmod ((z97 + (1 : Int)) + z161) ((2 : Int) + z12))]), H215, v214, ([(z210 - (1 : Int))])) [H167, H215] [sing b201 (.cells [.int .i64 (2 : Int), v166, v214, .int .i64 (0 : Int), .slice none 0 0].toArray 70 (0, 0)), sing br (.cells [vbr, .int .i64 (q208 : Int)].toArray 85 (0, 0)), H79, H18, sing b3 (.cells [v21, v82].toArray 26 (0, 0)), sing b1 (.cells [.slice none 0 0, .slice none 0 0].toArray 26 (0, 0))] rfl rfl ⟨hb202, (by dsimp only; omega), (by assumption), f168, (by dsimp only; first | omega | (simp; done) | (simp; omega)), (by assumption), f216, (by dsimp only; first | omega | (simp; done) | (simp; omega))⟩ (pc 0 rfl (pc 2 rfl (pc 3 rfl (pc 4 rfl (pc 6 rfl (pc 8 rfl pn))))))
     ·skip
      refine kl_callT rfl rfl (pick_ok q159 (3 : Int) (by omega) hr) (fun v220 L1 Ln K224 h221 f222 f223 => ?_)
      obtain ⟨q225, h226, rfl, rfl, z227, rfl, h228⟩ := h221
      refine kl_norm ?_
      refine kl_nil (kq_a (List.nil_sublist _) (kt_q 13 (List.nil_sublist _) rfl (by kernel_rfl) (kl_sub rfl rfl (by omega) ?_)))
      refine kl_nil (kq_q (kt_c 10 14 16 rfl rfl rfl (by kernel_rfl) ?_ ?_ ?_))
      ·skip
       refine kl_bs rfl rfl rfl (by decide) (ca rfl (ca rfl ca_nil)) (fun v231 H232 f233 r234 s235 => ?_)
       have h236 : Ints H232 v231 [z97, (Int.tmod ((z97 + (1 : Int)) + z161) ((2 : Int) + z12))] := litInts (xs := [z97, (Int.tmod ((z97 + (1 : Int)) + z161) ((2 : Int) + z12))]) (by simpa using s235)
       refine kl_nil (kq_a (List.nil_sublist _) (kt_b 14 16 rfl rfl (by kernel_rfl) ?_ ?_))
       ·skip
        refine kl_bs rfl rfl rfl (by decide) (ca rfl ca_nil) (fun v237 H238 f239 r240 s241 => ?_)
        have h242 : Ints H238 v237 [(z227 - (1 : Int))] := litInts (xs := [(z227 - (1 : Int))]) (by simpa using s241)
        refine kl_nil (kq_a (List.nil_sublist _) (kt_b 15 16 rfl rfl (by kernel_rfl) ?_ ?_))
        ·skip
         refine kl_bd rfl (cp rfl (cp (Sl.cells (by assumption)) (cp (Sl.cells (by assumption)) cp_nil))) rfl ?_
         refine kl_nil (kq_x rfl (kt_a 16 rfl (by kernel_rfl) (kl_alloc (cs := [.int .i64 (0 : Int), .slice none 0 0, .slice none 0 0, .int .i64 (0 : Int), .slice none 0 0]) rfl (fun b243 hb244 => ?_))))
         refine kl_nil (kq_a (List.nil_sublist _) (kt_a 17 rfl (by kernel_rfl) (kl_stW (us := [.int .i64 (2 : Int), v231, v237, .int .i64 (0 : Int), .slice none 0 0]) rfl rfl rfl rfl (oc rfl (oc (Sl.oneCell (by assumption)) (oc (Sl.oneCell (by assumption)) (oc rfl (oc rfl oc_nil))))) rfl ?_)))
         refine kl_chg [sing b243 (.cells [.int .i64 (2 : Int), v231, v237, .int .i64 (0 : Int), .slice none 0 0].toArray 70 (0, 0)), sing br (.cells [vbr, .int .i64 (q225 : Int)].toArray 85 (0, 0)), H79, H18, sing b3 (.cells [v21, v82].toArray 26 (0, 0)), sing b1 (.cells [.slice none 0 0, .slice none 0 0].toArray 26 (0, 0))] rfl ?_
         refine kl_nil (kq_x rfl (kt_end (by kernel_rfl) ?_))
         exact kq_rj (b243, q225, H232, v231, ([z97, (Int.tmod ((z97 + (1 : Int)) + z161) ((2 : Int) + z12))]), H238, v237, ([(z227 - (1 : Int))])) [H232, H238] [sing b243 (.cells [.int .i64 (2 : Int), v231, v237, .int .i64 (0 : Int), .slice none 0 0].toArray 70 (0, 0)), sing br (.cells [vbr, .int .i64 (q225 : Int)].toArray 85 (0, 0)), H79, H18, sing b3 (.cells [v21, v82].toArray 26 (0, 0)), sing b1 (.cells [.slice none 0 0, .slice none 0 0].toArray 26 (0, 0))] rfl rfl ⟨hb244, (by dsimp only; omega), (by assumption), f233, (by dsimp only; first | omega | (simp; done) | (simp; omega)), (by assumption), f239, (by dsimp only; first | omega | (simp; done) | (simp; omega))⟩ (pc 0 rfl (pc 2 rfl (pc 3 rfl (pc 4 rfl (pc 6 rfl (pc 8 rfl pn))))))
        ·skip
         refine kl_alloc (cs := [.int .i64 (0 : Int), .slice none 0 0, .slice none 0 0, .int .i64 (0 : Int), .slice none 0 0]) rfl (fun b245 hb246 => ?_)
         refine kl_nil (kq_a (List.nil_sublist _) (kt_a 15 rfl (by kernel_rfl) (kl_bd rfl (cp rfl (cp (Sl.cells (by assumption)) (cp (Sl.cells (by assumption)) cp_nil))) rfl ?_)))
         refine kl_nil (kq_x rfl (kt_a 17 rfl (by kernel_rfl) (kl_stW (us := [.int .i64 (2 : Int), v231, v237, .int .i64 (0 : Int), .slice none 0 0]) rfl rfl rfl rfl (oc rfl (oc (Sl.oneCell (by assumption)) (oc (Sl.oneCell (by assumption)) (oc rfl (oc rfl oc_nil))))) rfl ?_)))
         refine kl_chg [sing b245 (.cells [.int .i64 (2 : Int), v231, v237, .int .i64 (0 : Int), .slice none 0 0].toArray 70 (0, 0)), sing br (.cells [vbr, .int .i64 (q225 : Int)].toArray 85 (0, 0)), H79, H18, sing b3 (.cells [v21, v82].toArray 26 (0, 0)), sing b1 (.cells [.slice none 0 0, .slice none 0 0].toArray 26 (0, 0))] rfl ?_
         refine kl_nil (kq_x rfl (kt_end (by kernel_rfl) ?_))
         exact kq_rj (b245, q225, H232, v231, ([z97, (Int.tmod ((z97 + (1 : Int)) + z161) ((2 : Int) + z12))]), H238, v237, ([(z227 - (1 : Int))])) [H232, H238] [sing b245 (.cells [.int .i64 (2 : Int), v231, v237, .int .i64 (0 : Int), .slice none 0 0].toArray 70 (0, 0)), sing br (.cells [vbr, .int .i64 (q225 : Int)].toArray 85 (0, 0)), H79, H18, sing b3 (.cells [v21, v82].toArray 26 (0, 0)), sing b1 (.cells [.slice none 0 0, .slice none 0 0].toArray 26 (0, 0))] rfl rfl ⟨hb246, (by dsimp only; omega), (by assumption), f233, (by dsimp only; first | omega | (simp; done) | (simp; omega)), (by assumption), f239, (by dsimp only; first | omega | (simp; done) | (simp; omega))⟩ (pc 0 rfl (pc 2 rfl (pc 3 rfl (pc 4 rfl (pc 6 rfl (pc 8 rfl pn))))))
       ·skip
        refine kl_alloc (cs := [.int .i64 (0 : Int), .slice none 0 0, .slice none 0 0, .int .i64 (0 : Int), .slice none 0 0]) rfl (fun b247 hb248 => ?_)
        refine kl_nil (kq_a (List.nil_sublist _) (kt_a 14 rfl (by kernel_rfl) (kl_bs rfl rfl rfl (by decide) (ca rfl ca_nil) (fun v249 H250 f251 r252 s253 => ?_))))
        have h254 : Ints H250 v249 [(z227 - (1 : Int))] := litInts (xs := [(z227 - (1 : Int))]) (by simpa using s253)
        refine kl_nil (kq_a (List.nil_sublist _) (kt_a 15 rfl (by kernel_rfl) (kl_bd rfl (cp rfl (cp (Sl.cells (by assumption)) (cp (Sl.cells (by assumption)) cp_nil))) rfl ?_)))
        refine kl_nil (kq_x rfl (kt_a 17 rfl (by kernel_rfl) (kl_stW (us := [.int .i64 (2 : Int), v231, v249, .int .i64 (0 : Int), .slice none 0 0]) rfl rfl rfl rfl (oc rfl (oc (Sl.oneCell (by assumption)) (oc (Sl.oneCell (by assumption)) (oc rfl (oc rfl oc_nil))))) rfl ?_)))
        refine kl_chg [sing b247 (.cells [.int .i64 (2 : Int), v231, v249, .int .i64 (0 : Int), .slice none 0 0].toArray 70 (0, 0)), sing br (.cells [vbr, .int .i64 (q225 : Int)].toArray 85 (0, 0)), H79, H18, sing b3 (.cells [v21, v82].toArray 26 (0, 0)), sing b1 (.cells [.slice none 0 0, .slice none 0 0].toArray 26 (0, 0))] rfl ?_
        refine kl_nil (kq_x rfl (kt_end (by kernel_rfl) ?_))
        exact kq_rj (b247, q225, H232, v231, ([z97, (Int.tmod ((z97 + (1 : Int)) + z161) ((2 : Int) + z12))]), H250, v249, ([(z227 - (1 : Int))])) [H232, H250] [sing b247 (.cells [.int .i64 (2 : Int), v231, v249, .int .i64 (0 : Int), .slice none 0 0].toArray 70 (0, 0)), sing br (.cells [vbr, .int .i64 (q225 : Int)].toArray 85 (0, 0)), H79, H18, sing b3 (.cells [v21, v82].toArray 26 (0, 0)), sing b1 (.cells [.slice none 0 0, .slice none 0 0].toArray 26 (0, 0))] rfl rfl ⟨hb248, (by dsimp only; omega), (by assumption), f233, (by dsimp only; first | omega | (simp; done) | (simp; omega)), (by assumption), f251, (by dsimp only; first | omega | (simp; done) | (simp; omega))⟩ (pc 0 rfl (pc 2 rfl (pc 3 rfl (pc 4 rfl (pc 6 rfl (pc 8 rfl pn))))))
      ·skip
       refine kl_bs rfl rfl rfl (by decide) (ca rfl ca_nil) (fun v255 H256 f257 r258 s259 => ?_)
       have h260 : Ints H256 v255 [(z227 - (1 : Int))] := litInts (xs := [(z227 - (1 : Int))]) (by simpa using s259)
       refine kl_nil (kq_a (List.nil_sublist _) (kt_b 10 16 rfl rfl (by kernel_rfl) ?_ ?_))
       ·skip
        refine kl_bs rfl rfl rfl (by decide) (ca rfl (ca rfl ca_nil)) (fun v261 H262 f263 r264 s265 => ?_)
        have h266 : Ints H262 v261 [z97, (Int.tmod ((z97 + (1 : Int)) + z161) ((2 : Int) + z12))] := litInts (xs := [z97, (Int.tmod ((z97 + (1 : Int)) + z161) ((2 : Int) + z12))]) (by simpa using s265)
        refine kl_nil (kq_a (List.nil_sublist _) (kt_b 15 16 rfl rfl (by kernel_rfl) ?_ ?_))
        ·skip
         refine kl_bd rfl (cp rfl (cp (Sl.cells (by assumption)) (cp (Sl.cells (by assumption)) cp_nil))) rfl ?_
         refine kl_nil (kq_x rfl (kt_a 16 rfl (by kernel_rfl) (kl_alloc (cs := [.int .i64 (0 : Int), .slice none 0 0, .slice none 0 0, .int .i64 (0 : Int), .slice none 0 0]) rfl (fun b267 hb268 => ?_))))
         refine kl_nil (kq_a (List.nil_sublist _) (kt_a 17 rfl (by kernel_rfl) (kl_stW (us := [.int .i64 (2 : Int), v261, v255, .int .i64 (0 : Int), .slice none 0 0]) rfl rfl rfl rfl (oc rfl (oc (Sl.oneCell (by assumption)) (oc (Sl.oneCell (by assumption)) (oc rfl (oc rfl oc_nil))))) rfl ?_)))
         refine kl_chg [sing b267 (.cells [.int .i64 (2 : Int), v261, v255, .int .i64 (0 : Int), .slice none 0 0].toArray 70 (0, 0)), sing br (.cells [vbr, .int .i64 (q225 : Int)].toArray 85 (0, 0)), H79, H18, sing b3 (.cells [v21, v82].toArray 26 (0, 0)), sing b1 (.cells [.slice none 0 0, .slice none 0 0].toArray 26 (0, 0))] rfl ?_
         refine kl_nil (kq_x rfl (kt_end (by kernel_rfl) ?_))
         exact kq_rj (b267, q225, H262, v261, ([z97, (Int.tmod ((z97 + (1 : Int)) + z161) ((2 : Int) + z12))]), H256, v255, ([(z227 - (1 : Int))])) [H262, H256] [sing b267 (.cells [.int .i64 (2 : Int), v261, v255, .int .i64 (0 : Int), .slice none 0 0].toArray 70 (0, 0)), sing br (.cells [vbr, .int .i64 (q225 : Int)].toArray 85 (0, 0)), H79, H18, sing b3 (.cells [v21, v82].toArray 26 (0, 0)), sing b1 (.cells [.slice none 0 0, .slice none 0 0].toArray 26 (0, 0))] rfl rfl ⟨hb268, (by dsimp only; omega), (by assumption), f263, (by dsimp only; first | omega | (simp; done) | (simp; omega)), (by assumption), f257, (by dsimp only; first | omega | (simp; done) | (simp; omega))⟩ (pc 0 rfl (pc 2 rfl (pc 3 rfl (pc 4 rfl (pc 6 rfl (pc 8 rfl pn))))))
        ·skip
         refine kl_alloc (cs := [.int .i64 (0 : Int), .slice none 0 0, .slice none 0 0, .int .i64 (0 : Int), .slice none 0 0]) rfl (fun b269 hb270 => ?_)
         refine kl_nil (kq_a (List.nil_sublist _) (kt_a 15 rfl (by kernel_rfl) (kl_bd rfl (cp rfl (cp (Sl.cells (by assumption)) (cp (Sl.cells (by assumption)) cp_nil))) rfl ?_)))
         refine kl_nil (kq_x rfl (kt_a 17 rfl (by kernel_rfl) (kl_stW (us := [.int .i64 (2 : Int), v261, v255, .int .i64 (0 : Int), .slice none 0 0]) rfl rfl rfl rfl (oc rfl (oc (Sl.oneCell (by assumption)) (oc (Sl.oneCell (by assumption)) (oc rfl (oc rfl oc_nil))))) rfl ?_)))
         refine kl_chg [sing b269 (.cells [.int .i64 (2 : Int), v261, v255, .int .i64 (0 : Int), .slice none 0 0].toArray 70 (0, 0)), sing br (.cells [vbr, .int .i64 (q225 : Int)].toArray 85 (0, 0)), H79, H18, sing b3 (.cells [v21, v82].toArray 26 (0, 0)), sing b1 (.cells [.slice none 0 0, .slice none 0 0].toArray 26 (0, 0))] rfl ?_
         refine kl_nil (kq_x rfl (kt_end (by kernel_rfl) ?_))
         exact kq_rj (b269, q225, H262, v261, ([z97, (Int.tmod ((z97 + (1 : Int)) + z161) ((2 : Int) + z12))]), H256, v255, ([(z227 - (1 : Int))])) [H262, H256] [sing b269 (.cells [.int .i64 (2 : Int), v261, v255, .int .i64 (0 : Int), .slice none 0 0].toArray 70 (0, 0)), sing br (.cells [vbr, .int .i64 (q225 : Int)].toArray 85 (0, 0)), H79, H18, sing b3 (.cells [v21, v82].toArray 26 (0, 0)), sing b1 (.cells [.slice none 0 0, .slice none 0 0].toArray 26 (0, 0))] rfl rfl ⟨hb270, (by dsimp only; omega), (by assumption), f263, (by dsimp only; first | omega | (simp; done) | (simp; omega)), (by assumption), f257, (by dsimp only; first | omega | (simp; done) | (simp; omega))⟩ (pc 0 rfl (pc 2 rfl (pc 3 rfl (pc 4 rfl (pc 6 rfl (pc 8 rfl pn))))))
       ·skip
        refine kl_alloc (cs := [.int .i64 (0 : Int), .slice none 0 0, .slice none 0 0, .int .i64 (0 : Int), .slice none 0 0]) rfl (fun b271 hb272 => ?_)
        refine kl_nil (kq_a (List.nil_sublist _) (kt_a 10 rfl (by kernel_rfl) (kl_bs rfl rfl rfl (by decide) (ca rfl (ca rfl ca_nil)) (fun v273 H274 f275 r276 s277 => ?_))))
        have h278 : Ints H274 v273 [z97, (Int.tmod ((z97 + (1 : Int)) + z161) ((2 : Int) + z12))] := litInts (xs := [z97, (Int.tmod ((z97 + (1 : Int)) + z161) ((2 : Int) + z12))]) (by simpa using s277)
        refine kl_nil (kq_a (List.nil_sublist _) (kt_a 15 rfl (by kernel_rfl) (kl_bd rfl (cp rfl (cp (Sl.cells (by assumption)) (cp (Sl.cells (by assumption)) cp_nil))) rfl ?_)))
        refine kl_nil (kq_x rfl (kt_a 17 rfl (by kernel_rfl) (kl_stW (us := [.int .i64 (2 : Int), v273, v255, .int .i64 (0 : Int), .slice none 0 0]) rfl rfl rfl rfl (oc rfl (oc (Sl.oneCell (by assumption)) (oc (Sl.oneCell (by assumption)) (oc rfl (oc rfl oc_nil))))) rfl ?_)))
        refine kl_chg [sing b271 (.cells [.int .i64 (2 : Int), v273, v255, .int .i64 (0 : Int), .slice none 0 0].toArray 70 (0, 0)), sing br (.cells [vbr, .int .i64 (q225 : Int)].toArray 85 (0, 0)), H79, H18, sing b3 (.cells [v21, v82].toArray 26 (0, 0)), sing b1 (.cells [.slice none 0 0, .slice none 0 0].toArray 26 (0, 0))] rfl ?_
        refine kl_nil (kq_x rfl (kt_end (by kernel_rfl) ?_))
        exact kq_rj (b271, q225, H274, v273, ([z97, (Int.tmod ((z97 + (1 : Int)) + z161) ((2 : Int) + z12))]), H256, v255, ([(z227 - (1 : Int))])) [H274, H256] [sing b271 (.cells [.int .i64 (2 : Int), v273, v255, .int .i64 (0 : Int), .slice none 0 0].toArray 70 (0, 0)), sing br (.cells [vbr, .int .i64 (q225 : Int)].toArray 85 (0, 0)), H79, H18, sing b3 (.cells [v21, v82].toArray 26 (0, 0)), sing b1 (.cells [.slice none 0 0, .slice none 0 0].toArray 26 (0, 0))] rfl rfl ⟨hb272, (by dsimp only; omega), (by assumption), f275, (by dsimp only; first | omega | (simp; done) | (simp; omega)), (by assumption), f257, (by dsimp only; first | omega | (simp; done) | (simp; omega))⟩ (pc 0 rfl (pc 2 rfl (pc 3 rfl (pc 4 rfl (pc 6 rfl (pc 8 rfl pn))))))
      ·skip
       refine kl_alloc (cs := [.int .i64 (0 : Int), .slice none 0 0, .slice none 0 0, .int .i64 (0 : Int), .slice none 0 0]) rfl (fun b279 hb280 => ?_)
       refine kl_nil (kq_a (List.nil_sublist _) (kt_b 10 14 rfl rfl (by kernel_rfl) ?_ ?_))
       ·skip
        refine kl_bs rfl rfl rfl (by decide) (ca rfl (ca rfl ca_nil)) (fun v281 H282 f283 r284 s285 => ?_)
        have h286 : Ints H282 v281 [z97, (Int.tmod ((z97 + (1 : Int)) + z161) ((2 : Int) + z12))] := litInts (xs := [z97, (Int.tmod ((z97 + (1 : Int)) + z161) ((2 : Int) + z12))]) (by simpa using s285)
        refine kl_nil (kq_a (List.nil_sublist _) (kt_a 14 rfl (by kernel_rfl) (kl_bs rfl rfl rfl (by decide) (ca rfl ca_nil) (fun v287 H288 f289 r290 s291 => ?_))))
        have h292 : Ints H288 v287 [(z227 - (1 : Int))] := litInts (xs := [(z227 - (1 : Int))]) (by simpa using s291)
        refine kl_nil (kq_a (List.nil_sublist _) (kt_a 15 rfl (by kernel_rfl) (kl_bd rfl (cp rfl (cp (Sl.cells (by assumption)) (cp (Sl.cells (by assumption)) cp_nil))) rfl ?_)))
        refine kl_nil (kq_x rfl (kt_a 17 rfl (by kernel_rfl) (kl_stW (us := [.int .i64 (2 : Int), v281, v287, .int .i64 (0 : Int), .slice none 0 0]) rfl rfl rfl rfl (oc rfl (oc (Sl.oneCell (by assumption)) (oc (Sl.oneCell (by assumption)) (oc rfl (oc rfl oc_nil))))) rfl ?_)))
        refine kl_chg [sing b279 (.cells [.int .i64 (2 : Int), v281, v287, .int .i64 (0 : Int), .slice none 0 0].toArray 70 (0, 0)), sing br (.cells [vbr, .int .i64 (q225 : Int)].toArray 85 (0, 0)), H79, H18, sing b3 (.cells [v21, v82].toArray 26 (0, 0)), sing b1 (.cells [.slice none 0 0, .slice none 0 0].toArray 26 (0, 0))] rfl ?_
        refine kl_nil (kq_x rfl (kt_end (by kernel_rfl) ?_))
        exact kq_rj (b279, q225, H282, v281, ([z97, (Int.tmod ((z97 + (1 : Int)) + z161) ((2 : Int) + z12))]), H288, v287, ([(z227 - (1 : Int))])) [H282, H288] [sing b279 (.cells [.int .i64 (2 : Int), v281, v287, .int .i64 (0 : Int), .slice none 0 0].toArray 70 (0, 0)), sing br (.cells [vbr, .int .i64 (q225 : Int)].toArray 85 (0, 0)), H79, H18, sing b3 (.cells [v21, v82].toArray 26 (0, 0)), sing b1 (.cells [.slice none 0 0, .slice none 0 0].toArray 26 (0, 0))] rfl rfl ⟨hb280, (by dsimp only; omega), (by assumption), f283, (by dsimp only; first | omega | (simp; done) | (simp; omega)), (by assumption), f289, (by dsimp only; first | omega | (simp; done) | (simp; omega))⟩ (pc 0 rfl (pc 2 rfl (pc 3 rfl (pc 4 rfl (pc 6 rfl (pc 8 rfl pn))))))
       ·skip
        refine kl_bs rfl rfl rfl (by decide) (ca rfl ca_nil) (fun v293 H294 f295 r296 s297 => ?_)
        have h298 : Ints H294 v293 [(z227 - (1 : Int))] := litInts (xs := [(z227 - (1 : Int))]) (by simpa using s297)
        refine kl_nil (kq_a (List.nil_sublist _) (kt_a 10 rfl (by kernel_rfl) (kl_bs rfl rfl rfl (by decide) (ca rfl (ca rfl ca_nil)) (fun v299 H300 f301 r302 s303 => ?_))))
        have h304 : Ints H300 v299 [z97, (Int.tmod ((z97 + (1 : Int)) + z161) ((2 : Int) + z12))] := litInts (xs := [z97, (Int.tmod ((z97 + (1 : Int)) + z161) ((2 : Int) + z12))]) (by simpa using s303)
        refine kl_nil (kq_a (List.nil_sublist _) (kt_a 15 rfl (by kernel_rfl) (kl_bd rfl (cp rfl (cp (Sl.cells (by assumption)) (cp (Sl.cells (by assumption)) cp_nil))) rfl ?_)))
        refine kl_nil (kq_x rfl (kt_a 17 rfl (by kernel_rfl) (kl_stW (us := [.int .i64 (2 : Int), v299, v293, .int .i64 (0 : Int), .slice none 0 0]) rfl rfl rfl rfl (oc rfl (oc (Sl.oneCell (by assumption)) (oc (Sl.oneCell (by assumption)) (oc rfl (oc rfl oc_nil))))) rfl ?_)))
        refine kl_chg [sing b279 (.cells [.int .i64 (2 : Int), v299, v293, .int .i64 (0 : Int), .slice none 0 0].toArray 70 (0, 0)), sing br (.cells [vbr, .int .i64 (q225 : Int)].toArray 85 (0, 0)), H79, H18, sing b3 (.cells [v21, v82].toArray 26 (0, 0)), sing b1 (.cells [.slice none 0 0, .slice none 0 0].toArray 26 (0, 0))] rfl ?_
        refine kl_nil (kq_x rfl (kt_end (by kernel_rfl) ?_))
        exact kq_rj (b279, q225, H300, v299, ([z97, (Int.tmod ((z97 + (1 : Int)) + z161) ((2 : Int) + z12))]), H294, v293, ([(z227 - (1 : Int))])) [H300, H294] [sing b279 (.cells [.int .i64 (2 : Int), v299, v293, .int .i64 (0 : Int), .slice none 0 0].toArray 70 (0, 0)), sing br (.cells [vbr, .int .i64 (q225 : Int)].toArray 85 (0, 0)), H79, H18, sing b3 (.cells [v21, v82].toArray 26 (0, 0)), sing b1 (.cells [.slice none 0 0, .slice none 0 0].toArray 26 (0, 0))] rfl rfl ⟨hb280, (by dsimp only; omega), (by assumption), f301, (by dsimp only; first | omega | (simp; done) | (simp; omega)), (by assumption), f295, (by dsimp only; first | omega | (simp; done) | (simp; omega))⟩ (pc 0 rfl (pc 2 rfl (pc 3 rfl (pc 4 rfl (pc 6 rfl (pc 8 rfl pn))))))
     ·skip
      refine kl_alloc (cs := [.int .i64 (0 : Int), .slice none 0 0, .slice none 0 0, .int .i64 (0 : Int), .slice none 0 0]) rfl (fun b305 hb306 => ?_)
      refine kl_nil (kq_a (List.nil_sublist _) (kt_b 10 12 rfl rfl (by kernel_rfl) ?_ ?_))
      ·skip
       refine kl_bs rfl rfl rfl (by decide) (ca rfl (ca rfl ca_nil)) (fun v307 H308 f309 r310 s311 => ?_)
       have h312 : Ints H308 v307 [z97, (Int.tmod ((z97 + (1 : Int)) + z161) ((2 : Int) + z12))] := litInts (xs := [z97, (Int.tmod ((z97 + (1 : Int)) + z161) ((2 : Int) + z12))]) (by simpa using s311)
       refine kl_nil (kq_a (List.nil_sublist _) (kt_a 12 rfl (by kernel_rfl) (kl_callT rfl rfl (pick_ok q159 (3 : Int) (by omega) hr) (fun v313 L1 Ln K317 h314 f315 f316 => ?_))))
       obtain ⟨q318, h319, rfl, rfl, z320, rfl, h321⟩ := h314
       refine kl_norm ?_
       refine kl_nil (kq_a (List.nil_sublist _) (kt_q 13 (List.nil_sublist _) rfl (by kernel_rfl) (kl_sub rfl rfl (by omega) ?_)))
       refine kl_nil (kq_q (kt_a 14 rfl (by kernel_rfl) (kl_bs rfl rfl rfl (by decide) (ca rfl ca_nil) (fun v324 H325 f326 r327 s328 => ?_))))
       have h329 : Ints H325 v324 [(z320 - (1 : Int))] := litInts (xs := [(z320 - (1 : Int))]) (by simpa using s328)
       refine kl_nil (kq_a (List.nil_sublist _) (kt_a 15 rfl (by kernel_rfl) (kl_bd rfl (cp rfl (cp (Sl.cells (by assumption)) (cp (Sl.cells (by assumption)) cp_nil))) rfl ?_)))
       refine kl_nil (kq_x rfl (kt_a 17 rfl (by kernel_rfl) (kl_stW (us := [.int .i64 (2 : Int), v307, v324, .int .i64 (0 : Int), .slice none 0 0]) rfl rfl rfl rfl (oc rfl (oc (Sl.oneCell (by assumption)) (oc (Sl.oneCell (by assumption)) (oc rfl (oc rfl oc_nil))))) rfl ?_)))
       refine kl_chg [sing br (.cells [vbr, .int .i64 (q318 : Int)].toArray 85 (0, 0)), sing b305 (.cells [.int .i64 (2 : Int), v307, v324, .int .i64 (0 : Int), .slice none 0 0].toArray 70 (0, 0)), H79, H18, sing b3 (.cells [v21, v82].toArray 26 (0, 0)), sing b1 (.cells [.slice none 0 0, .slice none 0 0].toArray 26 (0, 0))] rfl ?_
       refine kl_nil (kq_x rfl (kt_end (by kernel_rfl) ?_))
       exact kq_rj (b305, q318, H308, v307, ([z97, (Int.tmod ((z97 + (1 : Int)) + z161) ((2 : Int) + z12))]), H325, v324, ([(z320 - (1 : Int))])) [H308, H325] [sing b305 (.cells [.int .i64 (2 : Int), v307, v324, .int .i64 (0 : Int), .slice none 0 0].toArray 70 (0, 0)), sing br (.cells [vbr, .int .i64 (q318 : Int)].toArray 85 (0, 0)), H79, H18, sing b3 (.cells [v21, v82].toArray 26 (0, 0)), sing b1 (.cells [.slice none 0 0, .slice none 0 0].toArray 26 (0, 0))] rfl rfl ⟨hb306, (by dsimp only; omega), (by assumption), f309, (by dsimp only; first | omega | (simp; done) | (simp; omega)), (by assumption), f326, (by dsimp only; first | omega | (simp; done) | (simp; omega))⟩ (pc 0 rfl (pc 2 rfl (pc 3 rfl (pc 4 rfl (pc 6 rfl (pc 8 rfl pn))))))
      ·skip
       refine kl_callT rfl rfl (pick_ok q159 (3 : Int) (by omega) hr) (fun v330 L1 Ln K334 h331 f332 f333 => ?_)
       obtain ⟨q335, h336, rfl, rfl, z337, rfl, h338⟩ := h331
       refine kl_norm ?_
       refine kl_nil (kq_a (List.nil_sublist _) (kt_q 13 (List.nil_sublist _) rfl (by kernel_rfl) (kl_sub rfl rfl (by omega) ?_)))
       refine kl_nil (kq_q (kt_b 10 14 rfl rfl (by kernel_rfl) ?_ ?_))
       ·skip
        refine kl_bs rfl rfl rfl (by decide) (ca rfl (ca rfl ca_nil)) (fun v341 H342 f343 r344 s345 => ?_)
        have h346 : Ints H342 v341 [z97, (Int.tmod ((z97 + (1 : Int)) + z161) ((2 : Int) + z12))] := litInts (xs := [z97, (Int.tmod ((z97 + (1 : Int)) + z161) ((2 : Int) + z12))]) (by simpa using s345)
        refine kl_nil (kq_a (List.nil_sublist _) (kt_a 14 rfl (by kernel_rfl) (kl_bs rfl rfl rfl (by decide) (ca rfl ca_nil) (fun v347 H348 f349 r350 s351 => ?_))))
        have h352 : Ints H348 v347 [(z337 - (1 : Int))] := litInts (xs := [(z337 - (1 : Int))]) (by simpa using s351)
        refine kl_nil (kq_a (List.nil_sublist _) (kt_a 15 rfl (by kernel_rfl) (kl_bd rfl (cp rfl (cp (Sl.cells (by assumption)) (cp (Sl.cells (by assumption)) cp_nil))) rfl ?_)))
        refine kl_nil (kq_x rfl (kt_a 17 rfl (by kernel_rfl) (kl_stW (us := [.int .i64 (2 : Int), v341, v347, .int .i64 (0 : Int), .slice none 0 0]) rfl rfl rfl rfl (oc rfl (oc (Sl.oneCell (by assumption)) (oc (Sl.oneCell (by assumption)) (oc rfl (oc rfl oc_nil))))) rfl ?_)))
        refine kl_chg [sing br (.cells [vbr, .int .i64 (q335 : Int)].toArray 85 (0, 0)), sing b305 (.cells [.int .i64 (2 : Int), v341, v347, .int .i64 (0 : Int), .slice none 0 0].toArray 70 (0, 0)), H79, H18, sing b3 (.cells [v21, v82].toArray 26 (0, 0)), sing b1 (.cells [.slice none 0 0, .slice none 0 0].toArray 26 (0, 0))] rfl ?_
        refine kl_nil (kq_x rfl (kt_end (by kernel_rfl) ?_))
        exact kq_rj (b305, q335, H342, v341, ([z97, (Int.tmod ((z97 + (1 : Int)) + z161) ((2 : Int) + z12))]), H348, v347, ([(z337 - (1 : Int))])) [H342, H348] [sing b305 (.cells [.int .i64 (2 : Int), v341, v347, .int .i64 (0 : Int), .slice none 0 0].toArray 70 (0, 0)), sing br (.cells [vbr, .int .i64 (q335 : Int)].toArray 85 (0, 0)), H79, H18, sing b3 (.cells [v21, v82].toArray 26 (0, 0)), sing b1 (.cells [.slice none 0 0, .slice none 0 0].toArray 26 (0, 0))] rfl rfl ⟨hb306, (by dsimp only; omega), (by assumption), f343, (by dsimp only; first | omega | (simp; done) | (simp; omega)), (by assumption), f349, (by dsimp only; first | omega | (simp; done) | (simp; omega))⟩ (pc 0 rfl (pc 2 rfl (pc 3 rfl (pc 4 rfl (pc 6 rfl (pc 8 rfl pn))))))
       ·skip
        refine kl_bs rfl rfl rfl (by decide) (ca rfl ca_nil) (fun v353 H354 f355 r356 s357 => ?_)
        have h358 : Ints H354 v353 [(z337 - (1 : Int))] := litInts (xs := [(z337 - (1 : Int))]) (by simpa using s357)
        refine kl_nil (kq_a (List.nil_sublist _) (kt_a 10 rfl (by kernel_rfl) (kl_bs rfl rfl rfl (by decide) (ca rfl (ca rfl ca_nil)) (fun v359 H360 f361 r362 s363 => ?_))))
        have h364 : Ints H360 v359 [z97, (Int.tmod ((z97 + (1 : Int)) + z161) ((2 : Int) + z12))] := litInts (xs := [z97, (Int.tmod ((z97 + (1 : Int)) + z161) ((2 : Int) + z12))]) (by simpa using s363)
        refine kl_nil (kq_a (List.nil_sublist _) (kt_a 15 rfl (by kernel_rfl) (kl_bd rfl (cp rfl (cp (Sl.cells (by assumption)) (cp (Sl.cells (by assumption)) cp_nil))) rfl ?_)))
        refine kl_nil (kq_x rfl (kt_a 17 rfl (by kernel_rfl) (kl_stW (us := [.int .i64 (2 : Int), v359, v353, .int .i64 (0 : Int), .slice none 0 0]) rfl rfl rfl rfl (oc rfl (oc (Sl.oneCell (by assumption)) (oc (Sl.oneCell (by assumption)) (oc rfl (oc rfl oc_nil))))) rfl ?_)))
        refine kl_chg [sing br (.cells [vbr, .int .i64 (q335 : Int)].toArray 85 (0, 0)), sing b305 (.cells [.int .i64 (2 : Int), v359, v353, .int .i64 (0 : Int), .slice none 0 0].toArray 70 (0, 0)), H79, H18, sing b3 (.cells [v21, v82].toArray 26 (0, 0)), sing b1 (.cells [.slice none 0 0, .slice none 0 0].toArray 26 (0, 0))] rfl ?_
        refine kl_nil (kq_x rfl (kt_end (by kernel_rfl) ?_))
        exact kq_rj (b305, q335, H360, v359, ([z97, (Int.tmod ((z97 + (1 : Int)) + z161) ((2 : Int) + z12))]), H354, v353, ([(z337 - (1 : Int))])) [H360, H354] [sing b305 (.cells [.int .i64 (2 : Int), v359, v353, .int .i64 (0 : Int), .slice none 0 0].toArray 70 (0, 0)), sing br (.cells [vbr, .int .i64 (q335 : Int)].toArray 85 (0, 0)), H79, H18, sing b3 (.cells [v21, v82].toArray 26 (0, 0)), sing b1 (.cells [.slice none 0 0, .slice none 0 0].toArray 26 (0, 0))] rfl rfl ⟨hb306, (by dsimp only; omega), (by assumption), f361, (by dsimp only; first | omega | (simp; done) | (simp; omega)), (by assumption), f355, (by dsimp only; first | omega | (simp; done) | (simp; omega))⟩ (pc 0 rfl (pc 2 rfl (pc 3 rfl (pc 4 rfl (pc 6 rfl (pc 8 rfl pn))))))
    ·skip
     refine kl_alloc (cs := [.int .i64 (0 : Int), .slice none 0 0, .slice none 0 0, .int .i64 (0 : Int), .slice none 0 0]) rfl (fun b365 hb366 => ?_)
     refine kl_nil (kq_a (List.nil_sublist _) (kt_a 6 rfl (by kernel_rfl) (kl_callT rfl rfl (pick_ok q95 (((2 : Int) + z12) - (1 : Int)) (by omega) hr) (fun v367 L1 Ln K371 h368 f369 f370 => ?_))))
     obtain ⟨q372, h373, rfl, rfl, z374, rfl, h375⟩ := h368
     refine kl_norm ?_
     refine kl_nil (kq_a (List.nil_sublist _) (kt_q 7 (List.nil_sublist _) rfl (by kernel_rfl) (kl_add rfl rfl (by omega) ?_)))
     refine kl_nil (kq_q (kt_q 9 (List.nil_sublist _) rfl (by kernel_rfl) ?_))
     have h378 := tmod_in (m := ((z97 + (1 : Int)) + z374)) (k := ((2 : Int) + z12)) (by omega) (by omega)
     refine kl_rem rfl rfl (by omega) ?_
     refine kl_nil (kq_q (kt_b 10 12 rfl rfl (by kernel_rfl) ?_ ?_))
     ·skip
      refine kl_bs rfl rfl rfl (by decide) (ca rfl (ca rfl ca_nil)) (fun v379 H380 f381 r382 s383 => ?_)
      have h384 : Ints H380 v379 [z97, (Int.tmod ((z97 + (1 : Int)) + z374) ((2 : Int) + z12))] := litInts (xs := [z97, (Int.tmod ((z97 + (1 : Int)) + z374) ((2 : Int) + z12))]) (by simpa using s383)
      refine kl_nil (kq_a (List.nil_sublist _) (kt_a 12 rfl (by kernel_rfl) (kl_callT rfl rfl (pick_ok q372 (3 : Int) (by omega) hr) (fun v385 L1 Ln K389 h386 f387 f388 => ?_))))
      obtain ⟨q390, h391, rfl, rfl, z392, rfl, h393⟩ := h386
      refine kl_norm ?_
      refine kl_nil (kq_a (List.nil_sublist _) (kt_q 13 (List.nil_sublist _) rfl (by kernel_rfl) (kl_sub rfl rfl (by omega) ?_)))
      refine kl_nil (kq_q (kt_a 14 rfl (by kernel_rfl) (kl_bs rfl rfl rfl (by decide) (ca rfl ca_nil) (fun v396 H397 f398 r399 s400 => ?_))))
      have h401 : Ints H397 v396 [(z392 - (1 : Int))] := litInts (xs := [(z392 - (1 : Int))]) (by simpa using s400)
      refine kl_nil (kq_a (List.nil_sublist _) (kt_a 15 rfl (by kernel_rfl) (kl_bd rfl (cp rfl (cp (Sl.cells (by assumption)) (cp (Sl.cells (by assumption)) cp_nil))) rfl ?_)))
      refine kl_nil (kq_x rfl (kt_a 17 rfl (by kernel_rfl) (kl_stW (us := [.int .i64 (2 : Int), v379, v396, .int .i64 (0 : Int), .slice none 0 0]) rfl rfl rfl rfl (oc rfl (oc (Sl.oneCell (by assumption)) (oc (Sl.oneCell (by assumption)) (oc rfl (oc rfl oc_nil))))) rfl ?_)))
      refine kl_chg [sing br (.cells [vbr, .int .i64 (q390 : Int)].toArray 85 (0, 0)), sing b365 (.cells [.int .i64 (2 : Int), v379, v396, .int .i64 (0 : Int), .slice none 0 0].toArray 70 (0, 0)), H79, H18, sing b3 (.cells [v21, v82].toArray 26 (0, 0)), sing b1 (.cells [.slice none 0 0, .slice none 0 0].toArray 26 (0, 0))] rfl ?_
      refine kl_nil (kq_x rfl (kt_end (by kernel_rfl) ?_))
      exact kq_rj (b365, q390, H380, v379, ([z97, (Int.tmod ((z97 + (1 : Int)) + z374) ((2 : Int) + z12))]), H397, v396, ([(z392 - (1 : Int))])) [H380, H397] [sing b365 (.cells [.int .i64 (2 : Int), v379, v396, .int .i64 (0 : Int), .slice none 0 0].toArray 70 (0, 0)), sing br (.cells [vbr, .int .i64 (q390 : Int)].toArray 85 (0, 0)), H79, H18, sing b3 (.cells [v21, v82].toArray 26 (0, 0)), sing b1 (.cells [.slice none 0 0, .slice none 0 0].toArray 26 (0, 0))] rfl rfl ⟨hb366, (by dsimp only; omega), (by assumption), f381, (by dsimp only; first | omega | (simp; done) | (simp; omega)), (by assumption), f398, (by dsimp only; first | omega | (simp; done) | (simp; omega))⟩ (pc 0 rfl (pc 2 rfl (pc 3 rfl (pc 4 rfl (pc 6 rfl (pc 8 rfl pn))))))
     ·skip
      refine kl_callT rfl rfl (pick_ok q372 (3 : Int) (by omega) hr) (fun v402 L1 Ln K406 h403 f404 f405 => ?_)
      obtain ⟨q407, h408, rfl, rfl, z409, rfl, h410⟩ := h403
      refine kl_norm ?_
      refine kl_nil (kq_a (List.nil_sublist _) (kt_q 13 (List.nil_sublist _) rfl (by kernel_rfl) (kl_sub rfl rfl (by omega) ?_)))
      refine kl_nil (kq_q (kt_b 10 14 rfl rfl (by kernel_rfl) ?_ ?_))
      ·skip
       refine kl_bs rfl rfl rfl (by decide) (ca rfl (ca rfl ca_nil)) (fun v413 H414 f415 r416 s417 => ?_)
       have h418 : Ints H414 v413 [z97, (Int.tmod ((z97 + (1 : Int)) + z374) ((2 : Int) + z12))] := litInts (xs := [z97, (Int.tmod ((z97 + (1 : Int)) + z374) ((2 : Int) + z12))]) (by simpa using s417)
       refine kl_nil (kq_a (List.nil_sublist _) (kt_a 14 rfl (by kernel_rfl) (kl_bs rfl rfl rfl (by decide) (ca rfl ca_nil) (fun v419 H420 f421 r422 s423 => ?_))))
       have h424 : Ints H420 v419 [(z409 - (1 : Int))] := litInts (xs := [(z409 - (1 : Int))]) (by simpa using s423)
       refine kl_nil (kq_a (List.nil_sublist _) (kt_a 15 rfl (by kernel_rfl) (kl_bd rfl (cp rfl (cp (Sl.cells (by assumption)) (cp (Sl.cells (by assumption)) cp_nil))) rfl ?_)))
       refine kl_nil (kq_x rfl (kt_a 17 rfl (by kernel_rfl) (kl_stW (us := [.int .i64 (2 : Int), v413, v419, .int .i64 (0 : Int), .slice none 0 0]) rfl rfl rfl rfl (oc rfl (oc (Sl.oneCell (by assumption)) (oc (Sl.oneCell (by assumption)) (oc rfl (oc rfl oc_nil))))) rfl ?_)))
       refine kl_chg [sing br (.cells [vbr, .int .i64 (q407 : Int)].toArray 85 (0, 0)), sing b365 (.cells [.int .i64 (2 : Int), v413, v419, .int .i64 (0 : Int), .slice none 0 0].toArray 70 (0, 0)), H79, H18, sing b3 (.cells [v21, v82].toArray 26 (0, 0)), sing b1 (.cells [.slice none 0 0, .slice none 0 0].toArray 26 (0, 0))] rfl ?_
       refine kl_nil (kq_x rfl (kt_end (by kernel_rfl) ?_))
       exact kq_rj (b365, q407, H414, v413, ([z97, (Int.tmod ((z97 + (1 : Int)) + z374) ((2 : Int) + z12))]), H420, v419, ([(z409 - (1 : Int))])) [H414, H420] [sing b365 (.cells [.int .i64 (2 : Int), v413, v419, .int .i64 (0 : Int), .slice none 0 0].toArray 70 (0, 0)), sing br (.cells [vbr, .int .i64 (q407 : Int)].toArray 85 (0, 0)), H79, H18, sing b3 (.cells [v21, v82].toArray 26 (0, 0)), sing b1 (.cells [.slice none 0 0, .slice none 0 0].toArray 26 (0, 0))] rfl rfl ⟨hb366, (by dsimp only; omega), (by assumption), f415, (by dsimp only; first | omega | (simp; done) | (simp; omega)), (by assumption), f421, (by dsimp only; first | omega | (simp; done) | (simp; omega))⟩ (pc 0 rfl (pc 2 rfl (pc 3 rfl (pc 4 rfl (pc 6 rfl (pc 8 rfl pn))))))
      ·skip
       refine kl_bs rfl rfl rfl (by decide) (ca rfl ca_nil) (fun v425 H426 f427 r428 s429 => ?_)
       have h430 : Ints H426 v425 [(z409 - (1 : Int))] := litInts (xs := [(z409 - (1 : Int))]) (by simpa using s429)
       refine kl_nil (kq_a (List.nil_sublist _) (kt_a 10 rfl (by kernel_rfl) (kl_bs rfl rfl rfl (by decide) (ca rfl (ca rfl ca_nil)) (fun v431 H432 f433 r434 s435 => ?_))))
       have h436 : Ints H432 v431 [z97, (Int.tmod ((z97 + (1 : Int)) + z374) ((2 : Int) + z12))] := litInts (xs := [z97, (Int.tmod ((z97 + (1 : Int)) + z374) ((2 : Int) + z12))]) (by simpa using s435)
       refine kl_nil (kq_a (List.nil_sublist _) (kt_a 15 rfl (by kernel_rfl) (kl_bd rfl (cp rfl (cp (Sl.cells (by assumption)) (cp (Sl.cells (by assumption)) cp_nil))) rfl ?_)))
       refine kl_nil (kq_x rfl (kt_a 17 rfl (by kernel_rfl) (kl_stW (us := [.int .i64 (2 : Int), v431, v425, .int .i64 (0 : Int), .slice none 0 0]) rfl rfl rfl rfl (oc rfl (oc (Sl.oneCell (by assumption)) (oc (Sl.oneCell (by assumption)) (oc rfl (oc rfl oc_nil))))) rfl ?_)))
       refine kl_chg [sing br (.cells [vbr, .int .i64 (q407 : Int)].toArray 85 (0, 0)), sing b365 (.cells [.int .i64 (2 : Int), v431, v425, .int .i64 (0 : Int), .slice none 0 0].toArray 70 (0, 0)), H79, H18, sing b3 (.cells [v21, v82].toArray 26 (0, 0)), sing b1 (.cells [.slice none 0 0, .slice none 0 0].toArray 26 (0, 0))] rfl ?_
       refine kl_nil (kq_x rfl (kt_end (by kernel_rfl) ?_))
       exact kq_rj (b365, q407, H432, v431, ([z97, (Int.tmod ((z97 + (1 : Int)) + z374) ((2 : Int) + z12))]), H426, v425, ([(z409 - (1 : Int))])) [H432, H426] [sing b365 (.cells [.int .i64 (2 : Int), v431, v425, .int .i64 (0 : Int), .slice none 0 0].toArray 70 (0, 0)), sing br (.cells [vbr, .int .i64 (q407 : Int)].toArray 85 (0, 0)), H79, H18, sing b3 (.cells [v21, v82].toArray 26 (0, 0)), sing b1 (.cells [.slice none 0 0, .slice none 0 0].toArray 26 (0, 0))] rfl rfl ⟨hb366, (by dsimp only; omega), (by assumption), f433, (by dsimp only; first | omega | (simp; done) | (simp; omega)), (by assumption), f427, (by dsimp only; first | omega | (simp; done) | (simp; omega))⟩ (pc 0 rfl (pc 2 rfl (pc 3 rfl (pc 4 rfl (pc 6 rfl (pc 8 rfl pn))))))
   ·skip
    rintro ⟨b138, q140, H142, v143, x144, H148, v149, x150⟩ hJ437
    obtain ⟨h139, h141, h145, h146, h147, h151, h152, h153⟩ : B.heap.size ≤ b138 ∧ q140 ≤ q95 + 2 ∧ Ints H142 v143 x144 ∧ Fr B H142 ∧ x144.length = 2 ∧ Ints H148 v149 x150 ∧ Fr B H148 ∧ x150.length = 1 := hJ437
    change KQ _ ([H142, H148] ++ _) [sing b138 (.cells [.int .i64 (2 : Int), v143, v149, .int .i64 (0 : Int), .slice none 0 0].toArray 70 (0, 0)), sing br (.cells [vbr, .int .i64 (q140 : Int)].toArray 85 (0, 0)), H79, H18, sing b3 (.cells [v21, v82].toArray 26 (0, 0)), sing b1 (.cells [.slice none 0 0, .slice none 0 0].toArray 26 (0, 0))] [(0, .pointer (some ⟨br, 0, none⟩)), (2, .pointer (some ⟨b1, 0, none⟩)), (3, .pointer (some ⟨b3, 0, none⟩)), (4, .int .i64 ((2 : Int) + z12)), (6, .int .i64 k), (8, .pointer (some ⟨b138, 0, none⟩))] _
    refine kq_normI ?_
    refine kq_code (kc_seq (kc_seq (kc_region (kl_mv rfl (kl_callT rfl rfl (pick_ok q140 (2 : Int) (by omega) hr) (fun v438 L1 Ln K442 h439 f440 f441 => ?_))))))
    obtain ⟨q443, h444, rfl, rfl, z445, rfl, h446⟩ := h439
    refine kl_norm ?_
    refine kl_eql rfl rfl ?_
    refine kl_nil (kq_code (kc_if rfl (fun c449 => ?_) (fun c449 => ?_)))
    ·skip
     refine kc_seq (kc_treeJ (A := Nat × Hp × Value × (List Int) × Hp × Value × (List Int) × Int) (fun i => ([6, 7] : List Nat).contains i) [] (by kernel_rfl) (fun zz => zz.1 ≤ q443 + 1 ∧ OwnL 3 1 zz.2.1 noHp IntV zz.2.2.1 zz.2.2.2.1 ∧ Fr B zz.2.1 ∧ (zz.2.2.2.1.length : Int) = ((2 : Int) + z12) ∧ OwnL 3 1 zz.2.2.2.2.1 noHp IntV zz.2.2.2.2.2.1 zz.2.2.2.2.2.2.1 ∧ Fr B zz.2.2.2.2.1 ∧ (zz.2.2.2.2.2.2.1.length : Int) = ((2 : Int) + z12)) (fun zz => []) (fun zz => [sing br (.cells [vbr, .int .i64 (zz.1 : Int)].toArray 85 (0, 0)), zz.2.2.2.2.1, zz.2.1, sing b138 (.cells [.int .i64 (1 : Int), zz.2.2.1, zz.2.2.2.2.2.1, .int .i64 zz.2.2.2.2.2.2.2, .slice none 0 0].toArray 70 (0, 0)), H79, H18, sing b3 (.cells [v21, v82].toArray 26 (0, 0)), sing b1 (.cells [.slice none 0 0, .slice none 0 0].toArray 26 (0, 0))]) (fun zz => [(0, .pointer (some ⟨br, 0, none⟩)), (2, .pointer (some ⟨b1, 0, none⟩)), (3, .pointer (some ⟨b3, 0, none⟩)), (4, .int .i64 ((2 : Int) + z12)), (6, .int .i64 k), (8, .pointer (some ⟨b138, 0, none⟩))]) ?_ ?_)
     ·skip
      refine kt_q 0 (List.nil_sublist _) rfl (by kernel_rfl) (kl_mv rfl (kl_nil (kq_q (kt_q 2 (List.nil_sublist _) rfl (by kernel_rfl) (kl_mv rfl (kl_nil (kq_q (kt_q 4 (List.nil_sublist _) rfl (by kernel_rfl) (kl_mv rfl (kl_nil (kq_q ?_)))))))))))
      refine kt_b 1 3 rfl rfl (by kernel_rfl) ?_ ?_
      ·skip
       refine kl_callL rfl rfl (allIndices_ok ((2 : Int) + z12) (by first | assumption | omega)) (fun v488 H489 f490 h491 => ?_)
       obtain ⟨z492, o494, h493⟩ := h491
       refine kl_nil (kq_a (List.nil_sublist _) (kt_b 3 5 rfl rfl (by kernel_rfl) ?_ ?_))
       ·skip
        have e499 : ((2 : Int) + z12) = (((Int.toNat ((2 : Int) + z12)) : Nat) : Int) := by omega
        refine kl_mkL (R := IntV) (n := (Int.toNat ((2 : Int) + z12))) (0 : Int) (by rw [← e499]; rfl) (by rw [← e499]; rfl) (by omega) (by decide) (by exact rfl) (fun v495 H496 f497 o498 => ?_)
        refine kl_nil (kq_a (List.nil_sublist _) (kt_a 5 rfl (by kernel_rfl) (kl_callT rfl rfl (pick_ok q443 (6 : Int) (by omega) hr) (fun v500 L1 Ln K504 h501 f502 f503 => ?_))))
        obtain ⟨q505, h506, rfl, rfl, z507, rfl, h508⟩ := h501
        refine kl_norm ?_
        refine kl_nil (kq_a (List.nil_sublist _) (kt_a 6 rfl (by kernel_rfl) (kl_bd rfl (cp rfl (cp (OwnL.cells (by assumption)) (cp (OwnL.cells (by assumption)) (cp rfl cp_nil)))) rfl ?_)))
        refine kl_nil (kq_x rfl (kt_a 7 rfl (by kernel_rfl) (kl_stW (us := [.int .i64 (1 : Int), v488, v495, .int .i64 z507, .slice none 0 0]) rfl rfl rfl rfl (oc rfl (oc (OwnL.oneCell (by assumption)) (oc (OwnL.oneCell (by assumption)) (oc rfl (oc rfl oc_nil))))) rfl ?_)))
        refine kl_chg [sing br (.cells [vbr, .int .i64 (q505 : Int)].toArray 85 (0, 0)), H496, H489, sing b138 (.cells [.int .i64 (1 : Int), v488, v495, .int .i64 z507, .slice none 0 0].toArray 70 (0, 0)), H79, H18, sing b3 (.cells [v21, v82].toArray 26 (0, 0)), sing b1 (.cells [.slice none 0 0, .slice none 0 0].toArray 26 (0, 0))] rfl ?_
        refine kl_nil (kq_x rfl (kt_end (by kernel_rfl) ?_))
        exact kq_rj (q505, H489, v488, z492, H496, v495, (List.replicate (Int.toNat ((2 : Int) + z12)) (0 : Int)), z507) [] [sing br (.cells [vbr, .int .i64 (q505 : Int)].toArray 85 (0, 0)), H496, H489, sing b138 (.cells [.int .i64 (1 : Int), v488, v495, .int .i64 z507, .slice none 0 0].toArray 70 (0, 0)), H79, H18, sing b3 (.cells [v21, v82].toArray 26 (0, 0)), sing b1 (.cells [.slice none 0 0, .slice none 0 0].toArray 26 (0, 0))] rfl rfl ⟨(by dsimp only; omega), o494, f490, (by dsimp only; first | omega | (simp; done) | (simp; omega)), o498, f497, (by dsimp only; first | omega | (simp; done) | (simp; omega))⟩ (pc 0 rfl (pc 2 rfl (pc 3 rfl (pc 4 rfl (pc 6 rfl (pc 8 rfl pn))))))
       ·skip
        refine kl_callT rfl rfl (pick_ok q443 (6 : Int) (by omega) hr) (fun v511 L1 Ln K515 h512 f513 f514 => ?_)
        obtain ⟨q516, h517, rfl, rfl, z518, rfl, h519⟩ := h512
        refine kl_norm ?_
        refine kl_nil (kq_a (List.nil_sublist _) (kt_a 3 rfl (by kernel_rfl) ?_))
        have e526 : ((2 : Int) + z12) = (((Int.toNat ((2 : Int) + z12)) : Nat) : Int) := by omega
        refine kl_mkL (R := IntV) (n := (Int.toNat ((2 : Int) + z12))) (0 : Int) (by rw [← e526]; rfl) (by rw [← e526]; rfl) (by omega) (by decide) (by exact rfl) (fun v522 H523 f524 o525 => ?_)
        refine kl_nil (kq_a (List.nil_sublist _) (kt_a 6 rfl (by kernel_rfl) (kl_bd rfl (cp rfl (cp (OwnL.cells (by assumption)) (cp (OwnL.cells (by assumption)) (cp rfl cp_nil)))) rfl ?_)))
        refine kl_nil (kq_x rfl (kt_a 7 rfl (by kernel_rfl) (kl_stW (us := [.int .i64 (1 : Int), v488, v522, .int .i64 z518, .slice none 0 0]) rfl rfl rfl rfl (oc rfl (oc (OwnL.oneCell (by assumption)) (oc (OwnL.oneCell (by assumption)) (oc rfl (oc rfl oc_nil))))) rfl ?_)))
        refine kl_chg [H523, sing br (.cells [vbr, .int .i64 (q516 : Int)].toArray 85 (0, 0)), H489, sing b138 (.cells [.int .i64 (1 : Int), v488, v522, .int .i64 z518, .slice none 0 0].toArray 70 (0, 0)), H79, H18, sing b3 (.cells [v21, v82].toArray 26 (0, 0)), sing b1 (.cells [.slice none 0 0, .slice none 0 0].toArray 26 (0, 0))] rfl ?_
        refine kl_nil (kq_x rfl (kt_end (by kernel_rfl) ?_))
        exact kq_rj (q516, H489, v488, z492, H523, v522, (List.replicate (Int.toNat ((2 : Int) + z12)) (0 : Int)), z518) [] [sing br (.cells [vbr, .int .i64 (q516 : Int)].toArray 85 (0, 0)), H523, H489, sing b138 (.cells [.int .i64 (1 : Int), v488, v522, .int .i64 z518, .slice none 0 0].toArray 70 (0, 0)), H79, H18, sing b3 (.cells [v21, v82].toArray 26 (0, 0)), sing b1 (.cells [.slice none 0 0, .slice none 0 0].toArray 26 (0, 0))] rfl rfl ⟨(by dsimp only; omega), o494, f490, (by dsimp only; first | omega | (simp; done) | (simp; omega)), o525, f524, (by dsimp only; first | omega | (simp; done) | (simp; omega))⟩ (pc 0 rfl (pc 2 rfl (pc 3 rfl (pc 4 rfl (pc 6 rfl (pc 8 rfl pn))))))
      ·skip
       have e531 : ((2 : Int) + z12) = (((Int.toNat ((2 : Int) + z12)) : Nat) : Int) := by omega
       refine kl_mkL (R := IntV) (n := (Int.toNat ((2 : Int) + z12))) (0 : Int) (by rw [← e531]; rfl) (by rw [← e531]; rfl) (by omega) (by decide) (by exact rfl) (fun v527 H528 f529 o530 => ?_)
       refine kl_nil (kq_a (List.nil_sublist _) (kt_a 1 rfl (by kernel_rfl) (kl_callL rfl rfl (allIndices_ok ((2 : Int) + z12) (by first | assumption | omega)) (fun v532 H533 f534 h535 => ?_))))
       obtain ⟨z536, o538, h537⟩ := h535
       refine kl_nil (kq_a (List.nil_sublist _) (kt_a 5 rfl (by kernel_rfl) (kl_callT rfl rfl (pick_ok q443 (6 : Int) (by omega) hr) (fun v539 L1 Ln K543 h540 f541 f542 => ?_))))
       obtain ⟨q544, h545, rfl, rfl, z546, rfl, h547⟩ := h540
       refine kl_norm ?_
       refine kl_nil (kq_a (List.nil_sublist _) (kt_a 6 rfl (by kernel_rfl) (kl_bd rfl (cp rfl (cp (OwnL.cells (by assumption)) (cp (OwnL.cells (by assumption)) (cp rfl cp_nil)))) rfl ?_)))
       refine kl_nil (kq_x rfl (kt_a 7 rfl (by kernel_rfl) (kl_stW (us := [.int .i64 (1 : Int), v532, v527, .int .i64 z546, .slice none 0 0]) rfl rfl rfl rfl (oc rfl (oc (OwnL.oneCell (by assumption)) (oc (OwnL.oneCell (by assumption)) (oc rfl (oc rfl oc_nil))))) rfl ?_)))
       refine kl_chg [sing br (.cells [vbr, .int .i64 (q544 : Int)].toArray 85 (0, 0)), H533, H528, sing b138 (.cells [.int .i64 (1 : Int), v532, v527, .int .i64 z546, .slice none 0 0].toArray 70 (0, 0)), H79, H18, sing b3 (.cells [v21, v82].toArray 26 (0, 0)), sing b1 (.cells [.slice none 0 0, .slice none 0 0].toArray 26 (0, 0))] rfl ?_
       refine kl_nil (kq_x rfl (kt_end (by kernel_rfl) ?_))
       exact kq_rj (q544, H533, v532, z536, H528, v527, (List.replicate (Int.toNat ((2 : Int) + z12)) (0 : Int)), z546) [] [sing br (.cells [vbr, .int .i64 (q544 : Int)].toArray 85 (0, 0)), H528, H533, sing b138 (.cells [.int .i64 (1 : Int), v532, v527, .int .i64 z546, .slice none 0 0].toArray 70 (0, 0)), H79, H18, sing b3 (.cells [v21, v82].toArray 26 (0, 0)), sing b1 (.cells [.slice none 0 0, .slice none 0 0].toArray 26 (0, 0))] rfl rfl ⟨(by dsimp only; omega), o538, f534, (by dsimp only; first | omega | (simp; done) | (simp; omega)), o530, f529, (by dsimp only; first | omega | (simp; done) | (simp; omega))⟩ (pc 0 rfl (pc 2 rfl (pc 3 rfl (pc 4 rfl (pc 6 rfl (pc 8 rfl pn))))))
     ·skip
      rintro ⟨q473, H475, v476, x477, H481, v482, x483, z487⟩ hJ550
      obtain ⟨h474, h478, h479, h480, h484, h485, h486⟩ : q473 ≤ q443 + 1 ∧ OwnL 3 1 H475 noHp IntV v476 x477 ∧ Fr B H475 ∧ (x477.length : Int) = ((2 : Int) + z12) ∧ OwnL 3 1 H481 noHp IntV v482 x483 ∧ Fr B H481 ∧ (x483.length : Int) = ((2 : Int) + z12) := hJ550
      change KQ _ ([] ++ _) [sing br (.cells [vbr, .int .i64 (q473 : Int)].toArray 85 (0, 0)), H481, H475, sing b138 (.cells [.int .i64 (1 : Int), v476, v482, .int .i64 z487, .slice none 0 0].toArray 70 (0, 0)), H79, H18, sing b3 (.cells [v21, v82].toArray 26 (0, 0)), sing b1 (.cells [.slice none 0 0, .slice none 0 0].toArray 26 (0, 0))] [(0, .pointer (some ⟨br, 0, none⟩)), (2, .pointer (some ⟨b1, 0, none⟩)), (3, .pointer (some ⟨b3, 0, none⟩)), (4, .int .i64 ((2 : Int) + z12)), (6, .int .i64 k), (8, .pointer (some ⟨b138, 0, none⟩))] _
      refine kq_normI ?_
      refine kq_code (kc_seq (kc_region (kl_as rfl (kl_nil (kq_code (kc_block (kc_loopL (A := Nat × List Int × Value × Hp × Nat) (fun zz => (zz.1 ≤ 4) ∧ ((zz.2.1.length : Int) = ((2 : Int) + z12)) ∧ OwnL 3 1 zz.2.2.2.1 noHp IntV zz.2.2.1 zz.2.1 ∧ Fr B zz.2.2.2.1 ∧ zz.2.2.2.2 ≤ q473 + zz.1) (fun zz => 4 - zz.1) (fun zz => [sing br (.cells [vbr, .int .i64 (zz.2.2.2.2 : Int)].toArray 85 (0, 0)), zz.2.2.2.1, H475, sing b138 (.cells [.int .i64 (1 : Int), v476, zz.2.2.1, .int .i64 z487, .slice none 0 0].toArray 70 (0, 0)), H79, H18, sing b3 (.cells [v21, v82].toArray 26 (0, 0)), sing b1 (.cells [.slice none 0 0, .slice none 0 0].toArray 26 (0, 0))]) (fun zz => [(9, .int .i64 (zz.1 : Int))]) (0, x483, v482, H481, q473) (pc 0 rfl (pc 2 rfl (pc 3 rfl (pc 4 rfl (pc 6 rfl (pc 8 rfl pn)))))) (pc 9 rfl pn) rfl ⟨Nat.zero_le _, (by dsimp only; first | omega | (simp; omega)), h484, h485, (by first | omega | (dsimp only; omega))⟩ ?_)))))))
      rintro ⟨i, ar, v556, H553, q557⟩ hJ559
      obtain ⟨hk551, hi552, o554, f555, hq558⟩ : (i ≤ 4) ∧ ((ar.length : Int) = ((2 : Int) + z12)) ∧ OwnL 3 1 H553 noHp IntV v556 ar ∧ Fr B H553 ∧ q557 ≤ q473 + i := hJ559
      change KC _ _ (_) [sing br (.cells [vbr, .int .i64 (q557 : Int)].toArray 85 (0, 0)), H553, H475, sing b138 (.cells [.int .i64 (1 : Int), v476, v556, .int .i64 z487, .slice none 0 0].toArray 70 (0, 0)), H79, H18, sing b3 (.cells [v21, v82].toArray 26 (0, 0)), sing b1 (.cells [.slice none 0 0, .slice none 0 0].toArray 26 (0, 0))] _ ([(9, .int .i64 (i : Int))] ++ _)
      refine kc_seq (kc_seq (kc_region (kl_mv rfl (kl_mv rfl (kl_lss rfl rfl ?_)))))
      refine kl_nil (kq_code (kc_if rfl (fun c560 => ?_) (fun c560 => ?_)))
      ·skip
       refine kc_skipQ (kq_code (kc_seq (kc_block (kc_tree (fun i => ([7] : List Nat).contains i) [sing b138 (.cells [.int .i64 (1 : Int), v476, v556, .int .i64 z487, .slice none 0 0].toArray 70 (0, 0))] (by kernel_rfl) ?_))))
       refine kt_q 0 (.cons _ (.cons _ (.cons _ (.cons_cons _ (List.nil_sublist _))))) rfl (by kernel_rfl) (kl_fdV rfl (kl_nil (kq_q (kt_q 1 (.cons _ (.cons _ (.cons _ (.cons_cons _ (List.nil_sublist _))))) rfl (by kernel_rfl) (kl_ld rfl (at_box (T := 70) (cs := [.int .i64 (1 : Int), v476, v556, .int .i64 z487, .slice none 0 0]) (off := 2) (fz := (0, 0))) (kl_nil (kq_q (kt_q 2 (.cons _ (.cons _ (.cons _ (.cons_cons _ (List.nil_sublist _))))) rfl (by kernel_rfl) ?_))))))))
       refine kl_mv rfl (kl_nil (kq_q (kt_q 3 (.cons _ (.cons _ (.cons _ (.cons_cons _ (List.nil_sublist _))))) rfl (by kernel_rfl) (kl_mv rfl (kl_nil (kq_q (kt_a 4 rfl (by kernel_rfl) (kl_bs rfl rfl rfl (by decide) (ca rfl (ca rfl (ca rfl (ca rfl ca_nil)))) (fun v561 H562 f563 r564 s565 => ?_)))))))))
       have h566 : Ints H562 v561 [(1 : Int), (-1 : Int), (0 : Int), (1 : Int)] := litInts (xs := [(1 : Int), (-1 : Int), (0 : Int), (1 : Int)]) (by simpa using s565)
       refine kl_nil (kq_a (.cons _ (.cons _ (.cons _ (.cons_cons _ (List.nil_sublist _))))) (kt_a 5 rfl (by kernel_rfl) (kl_callT rfl rfl (one_ok q557 ([(1 : Int), (-1 : Int), (0 : Int), (1 : Int)]) (by simp) (by omega) hr (by assumption)) (fun v567 L1 Ln K571 h568 f569 f570 => ?_))))
       obtain ⟨q572, h573, rfl, rfl, z574, rfl, h575⟩ := h568
       refine kl_norm ?_
       refine kl_nil (kq_a (.cons _ (.cons _ (.cons _ (.cons_cons _ (List.nil_sublist _))))) (kt_q 6 (.cons _ (.cons _ (.cons _ (.cons_cons _ (List.nil_sublist _))))) rfl (by kernel_rfl) (kl_ixLn rfl rfl (by assumption) (by omega) (fun p578 q579 => ?_))))
       refine kl_nil (kq_q (kt_a 7 rfl (by kernel_rfl) (kl_stL z574 rfl rfl (by assumption) o554 (by omega) rfl rfl rfl (fun H580 o581 f582 => ?_))))
       have f583 := f582 _ f555
       refine kl_chg [sing br (.cells [vbr, .int .i64 (q572 : Int)].toArray 85 (0, 0)), H580, H475, sing b138 (.cells [.int .i64 (1 : Int), v476, v556, .int .i64 z487, .slice none 0 0].toArray 70 (0, 0)), H79, H18, sing b3 (.cells [v21, v82].toArray 26 (0, 0)), sing b1 (.cells [.slice none 0 0, .slice none 0 0].toArray 26 (0, 0))] rfl ?_
       refine kl_nil (kq_x rfl (kt_end (by kernel_rfl) ?_))
       refine kq_code (kc_region (kl_mv rfl (kl_inc rfl rfl (by omega) ?_)))
       refine kl_as rfl (kl_nil (kq_take [sing br (.cells [vbr, .int .i64 (q572 : Int)].toArray 85 (0, 0)), H580, H475, sing b138 (.cells [.int .i64 (1 : Int), v476, v556, .int .i64 z487, .slice none 0 0].toArray 70 (0, 0)), H79, H18, sing b3 (.cells [v21, v82].toArray 26 (0, 0)), sing b1 (.cells [.slice none 0 0, .slice none 0 0].toArray 26 (0, 0))] ?_))
       refine kq_roundL ((i + 1), (ar.set i z574), v556, H580, q572) (by omega) (⟨by omega, (by simp; omega), o581, f583, (by first | omega | (dsimp only; omega))⟩) (pc 9 rfl pn) (pc 0 rfl (pc 2 rfl (pc 3 rfl (pc 4 rfl (pc 6 rfl (pc 8 rfl pn)))))) rfl (List.Sublist.refl _)
      ·skip
       refine kc_exit (kq_code (kc_region (kl_fdV rfl (kl_ldB rfl rfl (kl_ldW rfl rfl (kl_bsK rfl (fun v584 H585 f586 r587 => ?_)))))))
       refine kl_frz H475 ?_
       have h588 := OwnL.ints h478
       refine kl_cmp K83 H475 (fun c589 => ?_)
       have o590 := OwnL.mono (K' := orHp K83 H475) o80 orL
       refine kl_frz H553 ?_
       have h591 := OwnL.ints o554
       refine kl_cmp (orHp K83 H475) H553 (fun c592 => ?_)
       have o593 := OwnL.mono (K' := orHp (orHp K83 H475) H553) o590 orL
       refine kl_apL ⟨(1 : Int), x477, ar, z487, []⟩ rfl rfl o593 r587 ⟨_, _, _, rfl, (Sl.mono (by assumption) (fun b o h => orL b o (orC c589 b o h)) (fun _ _ h => h)), (Sl.mono (by assumption) (fun b o h => orC c592 b o h) (fun _ _ h => h)), Sl.nil⟩ (oc rfl (oc (Sl.oneCell (by assumption)) (oc (Sl.oneCell (by assumption)) (oc rfl (oc rfl oc_nil))))) (by omega) (by decide) (fun v594 H595 o596 f597 => ?_)
       have f598 := f597 B f81 (Nat.le_refl _)
       refine kl_fdV rfl (kl_stB rfl rfl rfl (OwnL.oneCell (by assumption)) (OwnL.cells (by assumption)) ?_)
       refine kl_chg [sing br (.cells [vbr, .int .i64 (q557 : Int)].toArray 85 (0, 0)), sing b138 (.cells [.int .i64 (1 : Int), v476, v556, .int .i64 z487, .slice none 0 0].toArray 70 (0, 0)), H595, H18, sing b3 (.cells [v21, v594].toArray 26 (0, 0)), sing b1 (.cells [.slice none 0 0, .slice none 0 0].toArray 26 (0, 0))] rfl ?_
       refine kl_nil (kq_code (kc_region (kl_mv rfl (kl_sub rfl rfl (by omega) ?_))))
       refine kl_as rfl (kl_nil (kq_take [H595, sing br (.cells [vbr, .int .i64 (q557 : Int)].toArray 85 (0, 0)), H18, sing b3 (.cells [v21, v594].toArray 26 (0, 0)), sing b1 (.cells [.slice none 0 0, .slice none 0 0].toArray 26 (0, 0))] ?_))
       refine kq_roundK ((k - (1 : Int)), (cs ++ [⟨(1 : Int), x477, ar, z487, []⟩]), v594, H595, (orHp (orHp K83 H475) H553), q557) (by (dsimp only; omega)) (⟨⟨by dsimp only; omega, by dsimp only; omega, by simp; omega, all_snoc hi78.2.2.2 (by constructor <;> dsimp only <;> first | (simp; done) | omega | exact all_nil)⟩, (fr_or (fr_or f84 h479) f555), o596, f598, (by first | omega | (dsimp only; omega))⟩) (pc 6 rfl pn) (pc 0 rfl (pc 2 rfl (pc 3 rfl (pc 4 rfl pn)))) rfl (List.Sublist.refl _)
    ·skip
     refine kc_skipQ (kq_code (kc_region (kl_fdV rfl (kl_ldB rfl rfl (kl_ldW rfl rfl (kl_bsK rfl (fun v599 H600 f601 r602 => ?_)))))))
     refine kl_cmp K83 H142 (fun c603 => ?_)
     have o604 := OwnL.mono (K' := orHp K83 H142) o80 orL
     refine kl_cmp (orHp K83 H142) H148 (fun c605 => ?_)
     have o606 := OwnL.mono (K' := orHp (orHp K83 H142) H148) o604 orL
     refine kl_apL ⟨(2 : Int), x144, x150, (0 : Int), []⟩ rfl rfl o606 r602 ⟨_, _, _, rfl, (Sl.mono (by assumption) (fun b o h => orL b o (orC c603 b o h)) (fun _ _ h => h)), (Sl.mono (by assumption) (fun b o h => orC c605 b o h) (fun _ _ h => h)), Sl.nil⟩ (oc rfl (oc (Sl.oneCell (by assumption)) (oc (Sl.oneCell (by assumption)) (oc rfl (oc rfl oc_nil))))) (by omega) (by decide) (fun v607 H608 o609 f610 => ?_)
     have f611 := f610 B f81 (Nat.le_refl _)
     refine kl_fdV rfl (kl_stB rfl rfl rfl (OwnL.oneCell (by assumption)) (OwnL.cells (by assumption)) ?_)
     refine kl_chg [sing br (.cells [vbr, .int .i64 (q443 : Int)].toArray 85 (0, 0)), sing b138 (.cells [.int .i64 (2 : Int), v143, v149, .int .i64 (0 : Int), .slice none 0 0].toArray 70 (0, 0)), H608, H18, sing b3 (.cells [v21, v607].toArray 26 (0, 0)), sing b1 (.cells [.slice none 0 0, .slice none 0 0].toArray 26 (0, 0))] rfl ?_
     refine kl_nil (kq_code (kc_region (kl_mv rfl (kl_sub rfl rfl (by omega) ?_))))
     refine kl_as rfl (kl_nil (kq_take [H608, sing br (.cells [vbr, .int .i64 (q443 : Int)].toArray 85 (0, 0)), H18, sing b3 (.cells [v21, v607].toArray 26 (0, 0)), sing b1 (.cells [.slice none 0 0, .slice none 0 0].toArray 26 (0, 0))] ?_))
     refine kq_roundK ((k - (1 : Int)), (cs ++ [⟨(2 : Int), x144, x150, (0 : Int), []⟩]), v607, H608, (orHp (orHp K83 H142) H148), q443) (by (dsimp only; omega)) (⟨⟨by dsimp only; omega, by dsimp only; omega, by simp; omega, all_snoc hi78.2.2.2 (by constructor <;> dsimp only <;> first | (simp; done) | omega | exact all_nil)⟩, (fr_or (fr_or f84 h146) h152), o609, f611, (by first | omega | (dsimp only; omega))⟩) (pc 6 rfl pn) (pc 0 rfl (pc 2 rfl (pc 3 rfl (pc 4 rfl pn)))) rfl (List.Sublist.refl _)
  ·skip
   refine kc_exit (kq_code (kc_seq (kc_seq (kc_region (kl_mv rfl (kl_callT rfl rfl (pick_ok q86 (16 : Int) (by omega) hr) (fun v612 L1 Ln K616 h613 f614 f615 => ?_)))))))
   obtain ⟨q617, h618, rfl, rfl, z619, rfl, h620⟩ := h613
   refine kl_norm ?_
   refine kl_nil (kq_code (kc_block (kc_seq (kc_region (kl_eql rfl rfl ?_)))))
   refine kl_as rfl (kl_nil (kq_code (kc_if rfl (fun c623 => ?_) (fun c623 => ?_))))
   ·skip
    refine kc_tree (fun i => ([6] : List Nat).contains i) [sing b3 (.cells [v21, v82].toArray 26 (0, 0))] (by kernel_rfl) ?_
    refine kt_q 0 (.cons _ (.cons _ (.cons _ (.cons_cons _ (List.nil_sublist _))))) rfl (by kernel_rfl) (kl_fdV rfl (kl_nil (kq_q (kt_q 1 (.cons _ (.cons _ (.cons _ (.cons_cons _ (List.nil_sublist _))))) rfl (by kernel_rfl) (kl_ld rfl (at_box (T := 26) (cs := [v21, v82]) (off := 0) (fz := (0, 0))) (kl_nil (kq_q (kt_q 2 (.cons _ (.cons _ (.cons _ (.cons_cons _ (List.nil_sublist _))))) rfl (by kernel_rfl) ?_))))))))
    refine kl_mv rfl (kl_nil (kq_q (kt_q 3 (.cons _ (.cons _ (.cons _ (.cons_cons _ (List.nil_sublist _))))) rfl (by kernel_rfl) (kl_mv rfl (kl_nil (kq_q (kt_a 4 rfl (by kernel_rfl) (kl_callT rfl rfl (pick_ok q617 ((2 : Int) + z12) (by omega) hr) (fun v624 L1 Ln K628 h625 f626 f627 => ?_)))))))))
    obtain ⟨q629, h630, rfl, rfl, z631, rfl, h632⟩ := h625
    refine kl_norm ?_
    refine kl_nil (kq_a (.cons _ (.cons _ (.cons _ (.cons_cons _ (List.nil_sublist _))))) (kt_q 5 (.cons _ (.cons _ (.cons _ (.cons_cons _ (List.nil_sublist _))))) rfl (by kernel_rfl) (kl_ixL rfl rfl (by assumption) (by omega) (by omega) (fun p635 q636 => ?_))))
    refine kl_nil (kq_q (kt_a 6 rfl (by kernel_rfl) (kl_stL (0 : Int) rfl rfl (by assumption) o19 (by omega) rfl rfl rfl (fun H637 o638 f639 => ?_))))
    have f640 := f639 _ f20
    refine kl_chg [sing br (.cells [vbr, .int .i64 (q629 : Int)].toArray 85 (0, 0)), H79, H637, sing b3 (.cells [v21, v82].toArray 26 (0, 0)), sing b1 (.cells [.slice none 0 0, .slice none 0 0].toArray 26 (0, 0))] rfl ?_
    refine kl_nil (kq_x rfl (kt_end (by kernel_rfl) ?_))
    refine kq_code (kc_seq (kc_region (kl_ldW rfl rfl (kl_stW (us := [v21, v82]) rfl rfl rfl rfl (oc (OwnL.oneCell (by assumption)) (oc (OwnL.oneCell (by assumption)) oc_nil)) rfl ?_))))
    refine kl_chg [sing br (.cells [vbr, .int .i64 (q629 : Int)].toArray 85 (0, 0)), H79, H637, sing b3 (.cells [v21, v82].toArray 26 (0, 0)), sing b1 (.cells [v21, v82].toArray 26 (0, 0))] rfl ?_
    refine kl_nil (kq_code (kc_ret ?_))
    exact kq_retTC rfl rfl rfl [sing br (.cells [vbr, .int .i64 (q629 : Int)].toArray 85 (0, 0))] [H637, H79] K83 (frc f640 (fr1 f81)) f84 ⟨q629, by omega, rfl, H637, H79, _, _, (⟨(ds.set z631.toNat (0 : Int)), cs⟩ : Mod), rfl, rfl, o638, o80, by (constructor <;> dsimp only <;> first | omega | assumption | exact all_mono (by assumption) | exact all_set (all_mono (by assumption)) (by assumption) | (simp; done) | (simp only [List.length_set]; omega) | (simp; omega))⟩
   ·skip
    refine kc_seq (kc_region (kl_eql rfl rfl ?_))
    refine kl_as rfl (kl_nil (kq_code (kc_if rfl (fun c641 => ?_) (fun c641 => ?_))))
    ·skip
     refine kc_seq (kc_region (kl_mv rfl (kl_callT rfl rfl (anyModel_ok q617 (by omega) hr) (fun v642 L1 Ln K646 h643 f644 f645 => ?_))))
     obtain ⟨q647, h648, rfl, H651, M653, v654, v655, z649, rfl, rfl, o652, o656, h650⟩ := h643
     have f657 := f644 _ (.head _)
     have f658 := f644 _ (.tail _ (.head _))
     have hd1 := h650.d1
     have hd4 := h650.d
     have hc1 := h650.c
     have hcc := h650.cc
     refine kl_norm ?_
     refine kl_stW (us := [v654, v655]) rfl rfl rfl rfl (oc (OwnL.oneCell (by assumption)) (oc (OwnL.oneCell (by assumption)) oc_nil)) rfl ?_
     refine kl_chg [sing br (.cells [vbr, .int .i64 (q647 : Int)].toArray 85 (0, 0)), H651, M653, H79, H18, sing b3 (.cells [v21, v82].toArray 26 (0, 0)), sing b1 (.cells [v654, v655].toArray 26 (0, 0))] rfl ?_
     refine kl_nil (kq_code (kc_ret ?_))
     exact kq_retTC rfl rfl rfl [sing br (.cells [vbr, .int .i64 (q647 : Int)].toArray 85 (0, 0))] [H651, M653] K646 (frc f657 (fr1 f658)) f645 ⟨q647, by omega, rfl, H651, M653, _, _, (⟨z649.doms, z649.cons⟩ : Mod), rfl, rfl, o652, o656, by (constructor <;> dsimp only <;> first | omega | assumption | exact all_mono (by assumption) | exact all_set (all_mono (by assumption)) (by assumption) | (simp; done) | (simp only [List.length_set]; omega) | (simp; omega))⟩
    ·skip
     refine kc_skipQ (kq_code (kc_seq (kc_region (kl_ldW rfl rfl (kl_stW (us := [v21, v82]) rfl rfl rfl rfl (oc (OwnL.oneCell (by assumption)) (oc (OwnL.oneCell (by assumption)) oc_nil)) rfl ?_)))))
     refine kl_chg [sing br (.cells [vbr, .int .i64 (q617 : Int)].toArray 85 (0, 0)), H79, H18, sing b3 (.cells [v21, v82].toArray 26 (0, 0)), sing b1 (.cells [v21, v82].toArray 26 (0, 0))] rfl ?_
     refine kl_nil (kq_code (kc_ret ?_))
     exact kq_retTC rfl rfl rfl [sing br (.cells [vbr, .int .i64 (q617 : Int)].toArray 85 (0, 0))] [H18, H79] K83 (frc f20 (fr1 f81)) f84 ⟨q617, by omega, rfl, H18, H79, _, _, (⟨ds, cs⟩ : Mod), rfl, rfl, o19, o80, by (constructor <;> dsimp only <;> first | omega | assumption | exact all_mono (by assumption) | exact all_set (all_mono (by assumption)) (by assumption) | (simp; done) | (simp only [List.length_set]; omega) | (simp; omega))⟩
end Go.Proofs.YtiilanckbocifaaGreat
