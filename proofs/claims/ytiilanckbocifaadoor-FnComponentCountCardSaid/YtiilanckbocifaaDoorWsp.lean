/- Walks of functions of the program: each returns what the plain function gives. Conditions: those that each statement names. -/
import Derived.Test.YtiilanckbocifaaDoorWrc
namespace Go.Proofs.YtiilanckbocifaaDoor
open Go
set_option linter.unusedSimpArgs false
set_option linter.unusedVariables false
theorem sparseModel_ok {br : Nat} {vbr : Value} {Hr : Hp} {bsr : List Int} (pr : Nat) (hp : pr + (200) ≤ 1000000) (hr : Bytes Hr vbr bsr) : SpecT Tryd.prog 10 [.pointer (some ⟨br, 0, none⟩)] [sing br (.cells [vbr, .int .i64 (pr : Int)].toArray 58 (0, 0))] [Hr] (fun vq L1 Ln Kq => ∃ q : Nat, q ≤ pr + (200) ∧ L1 = [sing br (.cells [vbr, .int .i64 (q : Int)].toArray 58 (0, 0))] ∧ ∃ (Hq Mq : Hp) (va vc : Value) (mq : Mod), vq = .agg #[va, vc] ∧ Ln = [Hq, Mq] ∧ OwnL 3 1 Hq noHp IntV va mq.doms ∧ OwnL 46 5 Mq Kq ConV vc mq.cons ∧ ModSm 50 mq) := by
 refine specT_of Tryd.func10 rfl rfl rfl (fun B => ?_)
 refine kc_seq (kc_region (kl_alloc (cs := [.slice none 0 0, .slice none 0 0]) rfl (fun b1 hb2 => ?_)))
 refine kl_nil (kq_code (kc_seq (kc_region (kl_bd rfl cp_nil rfl ?_))))
 refine kl_alloc (cs := [.slice none 0 0, .slice none 0 0]) rfl (fun b3 hb4 => ?_)
 refine kl_stW (us := [.slice none 0 0, .slice none 0 0]) rfl rfl rfl rfl (oc rfl (oc rfl oc_nil)) rfl ?_
 refine kl_chg [sing b3 (.cells [.slice none 0 0, .slice none 0 0].toArray 26 (0, 0)), sing b1 (.cells [.slice none 0 0, .slice none 0 0].toArray 26 (0, 0)), sing br (.cells [vbr, .int .i64 (pr : Int)].toArray 58 (0, 0))] rfl ?_
 refine kl_nil (kq_code (kc_seq (kc_region (kl_mv rfl (kl_callT rfl rfl (pick_ok pr (3 : Int) (by omega) hr) (fun v5 L1 Ln K9 h6 f7 f8 => ?_))))))
 obtain ⟨q10, h11, rfl, rfl, z12, rfl, h13⟩ := h6
 refine kl_norm ?_
 refine kl_add rfl rfl (by omega) ?_
 refine kl_as rfl (kl_nil (kq_code (kc_seq (kc_seq (kc_region (kl_as rfl (kl_nil (kq_code (kc_block (kc_no ?_))))))))))
 refine kc_loopL (A := Nat × List Int × Value × Hp × Nat) (fun zz => (zz.1 ≤ 4) ∧ (zz.2.1.length = zz.1) ∧ OwnL 3 1 zz.2.2.2.1 noHp IntV zz.2.2.1 zz.2.1 ∧ Fr B zz.2.2.2.1 ∧ zz.2.2.2.2 ≤ q10 + 3 * zz.1) (fun zz => 4 - zz.1) (fun zz => [zz.2.2.2.1, sing br (.cells [vbr, .int .i64 (zz.2.2.2.2 : Int)].toArray 58 (0, 0)), sing b3 (.cells [zz.2.2.1, .slice none 0 0].toArray 26 (0, 0)), sing b1 (.cells [.slice none 0 0, .slice none 0 0].toArray 26 (0, 0))]) (fun zz => [(5, .int .i64 (zz.1 : Int))]) (0, [], .slice none 0 0, noHp, q10) (pc 0 rfl (pc 2 rfl (pc 3 rfl (pc 4 rfl pn)))) (pc 5 rfl pn) rfl ⟨Nat.zero_le _, rfl, OwnL.nil, (fr_no _), (by first | omega | (dsimp only; omega))⟩ ?_
 rintro ⟨i, ds, v21, H18, q23⟩ hJ25
 obtain ⟨hk16, hi17, o19, f20, hq24⟩ : (i ≤ 4) ∧ (ds.length = i) ∧ OwnL 3 1 H18 noHp IntV v21 ds ∧ Fr B H18 ∧ q23 ≤ q10 + 3 * i := hJ25
 change KC _ _ (_) [H18, sing br (.cells [vbr, .int .i64 (q23 : Int)].toArray 58 (0, 0)), sing b3 (.cells [v21, .slice none 0 0].toArray 26 (0, 0)), sing b1 (.cells [.slice none 0 0, .slice none 0 0].toArray 26 (0, 0))] _ ([(5, .int .i64 (i : Int))] ++ _)
 refine kc_seq (kc_seq (kc_region (kl_mv rfl (kl_mv rfl (kl_lss rfl rfl ?_)))))
 refine kl_nil (kq_code (kc_if rfl (fun c26 => ?_) (fun c26 => ?_)))
 ·skip
  refine kc_skipQ (kq_code (kc_seq (kc_block (kc_tree (fun i => ([5, 7] : List Nat).contains i) [sing b3 (.cells [v21, .slice none 0 0].toArray 26 (0, 0))] (by kernel_rfl) ?_))))
  refine kt_q 0 (.cons _ (.cons _ (.cons_cons _ (List.nil_sublist _)))) rfl (by kernel_rfl) (kl_fdV rfl (kl_nil (kq_q (kt_q 1 (.cons _ (.cons _ (.cons_cons _ (List.nil_sublist _)))) rfl (by kernel_rfl) (kl_ld rfl (at_box (T := 26) (cs := [v21, .slice none 0 0]) (off := 0) (fz := (0, 0))) (kl_nil (kq_q (kt_q 2 (.cons _ (.cons _ (.cons_cons _ (List.nil_sublist _)))) rfl (by kernel_rfl) (kl_mv rfl ?_)))))))))
  refine kl_nil (kq_q (kt_a 3 rfl (by kernel_rfl) (kl_callT rfl rfl (randomDomain_ok q23 (by omega) hr) (fun v27 L1 Ln K31 h28 f29 f30 => ?_))))
  obtain ⟨q32, h33, rfl, rfl, z34, rfl, h35⟩ := h28
  refine kl_norm ?_
  refine kl_nil (kq_a (.cons _ (.cons _ (.cons_cons _ (List.nil_sublist _)))) (kt_a 4 rfl (by kernel_rfl) (kl_bs rfl rfl rfl (by decide) (ca rfl ca_nil) (fun v38 H39 f40 r41 s42 => ?_))))
  have h43 : Ints H39 v38 [z34] := litInts (xs := [z34]) (by simpa using s42)
  refine kl_nil (kq_a (.cons _ (.cons _ (.cons_cons _ (List.nil_sublist _)))) (kt_a 5 rfl (by kernel_rfl) (kl_apL z34 rfl rfl o19 (by assumption) rfl (oc rfl oc_nil) (by omega) (by decide) (fun v44 H45 o46 f47 => ?_))))
  have f48 := f47 B f20 (Nat.le_refl _)
  refine kl_nil (kq_x rfl (kt_q 6 (.cons _ (.cons _ (.cons_cons _ (List.nil_sublist _)))) rfl (by kernel_rfl) (kl_fdV rfl (kl_nil (kq_q (kt_a 7 rfl (by kernel_rfl) (kl_stB rfl rfl rfl (OwnL.oneCell (by assumption)) (OwnL.cells (by assumption)) ?_)))))))
  refine kl_chg [sing br (.cells [vbr, .int .i64 (q32 : Int)].toArray 58 (0, 0)), H45, sing b3 (.cells [v44, .slice none 0 0].toArray 26 (0, 0)), sing b1 (.cells [.slice none 0 0, .slice none 0 0].toArray 26 (0, 0))] rfl ?_
  refine kl_nil (kq_x rfl (kt_end (by kernel_rfl) ?_))
  refine kq_code (kc_region (kl_mv rfl (kl_inc rfl rfl (by omega) ?_)))
  refine kl_as rfl (kl_nil (kq_take [H45, sing br (.cells [vbr, .int .i64 (q32 : Int)].toArray 58 (0, 0)), sing b3 (.cells [v44, .slice none 0 0].toArray 26 (0, 0)), sing b1 (.cells [.slice none 0 0, .slice none 0 0].toArray 26 (0, 0))] ?_))
  refine kq_roundL ((i + 1), (ds ++ [z34]), v44, H45, q32) (by omega) (⟨by omega, (by simp; omega), o46, f48, (by first | omega | (dsimp only; omega))⟩) (pc 5 rfl pn) (pc 0 rfl (pc 2 rfl (pc 3 rfl (pc 4 rfl pn)))) rfl (List.Sublist.refl _)
 ·skip
  refine kc_exit (kq_code (kc_seq (kc_seq (kc_region (kl_mv rfl (kl_callT rfl rfl (pick_ok q23 (4 : Int) (by omega) hr) (fun v49 L1 Ln K53 h50 f51 f52 => ?_)))))))
  obtain ⟨q54, h55, rfl, rfl, z56, rfl, h57⟩ := h50
  refine kl_norm ?_
  refine kl_as rfl (kl_nil (kq_code (kc_block (kc_no ?_))))
  refine kc_loopK (A := Int × List Con × Value × Hp × Hp × Nat) (fun zz => (0 ≤ zz.1 ∧ zz.1 ≤ 3 ∧ zz.2.1.length + zz.1.toNat ≤ 3 ∧ ∀ c ∈ zz.2.1, ConSm 50 c) ∧ Fr B zz.2.2.2.2.1 ∧ OwnL 46 5 zz.2.2.2.1 zz.2.2.2.2.1 ConV zz.2.2.1 zz.2.1 ∧ Fr B zz.2.2.2.1 ∧ zz.2.2.2.2.2 ≤ q54 + 3 * (3 - zz.1).toNat) (fun zz => zz.1.toNat) (fun zz => zz.2.2.2.2.1) (fun zz => [zz.2.2.2.1, sing br (.cells [vbr, .int .i64 (zz.2.2.2.2.2 : Int)].toArray 58 (0, 0)), H18, sing b3 (.cells [v21, zz.2.2.1].toArray 26 (0, 0)), sing b1 (.cells [.slice none 0 0, .slice none 0 0].toArray 26 (0, 0))]) (fun zz => [(6, .int .i64 zz.1)]) (z56, [], .slice none 0 0, noHp, noHp, q54) (pc 0 rfl (pc 2 rfl (pc 3 rfl (pc 4 rfl pn)))) (pc 6 rfl pn) rfl ⟨⟨by dsimp only; omega, by dsimp only; omega, by dsimp only; simp; omega, all_nil⟩, (fr_no _), OwnL.nil, (fr_no _), (by first | omega | (dsimp only; omega))⟩ ?_
  rintro ⟨k, cs, v65, H62, K66, q69⟩ hJ71
  obtain ⟨hi61, f67, o63, f64, hq70⟩ : (0 ≤ k ∧ k ≤ 3 ∧ cs.length + k.toNat ≤ 3 ∧ ∀ c ∈ cs, ConSm 50 c) ∧ Fr B K66 ∧ OwnL 46 5 H62 K66 ConV v65 cs ∧ Fr B H62 ∧ q69 ≤ q54 + 3 * (3 - k).toNat := hJ71
  change KC _ _ (K66 :: _) [H62, sing br (.cells [vbr, .int .i64 (q69 : Int)].toArray 58 (0, 0)), H18, sing b3 (.cells [v21, v65].toArray 26 (0, 0)), sing b1 (.cells [.slice none 0 0, .slice none 0 0].toArray 26 (0, 0))] _ ([(6, .int .i64 k)] ++ _)
  have hall := hi61.2.2.2
  refine kc_seq (kc_seq (kc_region (kl_mv rfl (kl_gtr rfl rfl ?_))))
  refine kl_nil (kq_code (kc_if rfl (fun c72 => ?_) (fun c72 => ?_)))
  ·skip
   refine kc_skipQ (kq_code (kc_seq (kc_block (kc_seq (kc_region (kl_mv rfl (kl_mv rfl (kl_callT rfl rfl (pick_ok q69 ((2 : Int) + z12) (by omega) hr) (fun v73 L1 Ln K77 h74 f75 f76 => ?_)))))))))
   obtain ⟨q78, h79, rfl, rfl, z80, rfl, h81⟩ := h74
   refine kl_norm ?_
   refine kl_as rfl (kl_nil (kq_code (kc_tree (fun i => ([19, 21] : List Nat).contains i) [sing b3 (.cells [v21, v65].toArray 26 (0, 0))] (by kernel_rfl) ?_)))
   refine kt_q 0 (.cons _ (.cons _ (.cons _ (.cons_cons _ (List.nil_sublist _))))) rfl (by kernel_rfl) (kl_fdV rfl (kl_nil (kq_q (kt_q 1 (.cons _ (.cons _ (.cons _ (.cons_cons _ (List.nil_sublist _))))) rfl (by kernel_rfl) (kl_ld rfl (at_box (T := 26) (cs := [v21, v65]) (off := 1) (fz := (0, 0))) (kl_nil (kq_q (kt_q 2 (.cons _ (.cons _ (.cons _ (.cons_cons _ (List.nil_sublist _))))) rfl (by kernel_rfl) ?_))))))))
   refine kl_mv rfl (kl_nil (kq_q (kt_q 3 (.cons _ (.cons _ (.cons _ (.cons_cons _ (List.nil_sublist _))))) rfl (by kernel_rfl) (kl_mv rfl (kl_nil (kq_q (kt_q 4 (.cons _ (.cons _ (.cons _ (.cons_cons _ (List.nil_sublist _))))) rfl (by kernel_rfl) (kl_add rfl rfl (by omega) ?_))))))))
   refine kl_nil (kq_q (kt_q 5 (.cons _ (.cons _ (.cons _ (.cons_cons _ (List.nil_sublist _))))) rfl (by kernel_rfl) (kl_mv rfl (kl_nil (kq_q (kt_q 6 (.cons _ (.cons _ (.cons _ (.cons_cons _ (List.nil_sublist _))))) rfl (by kernel_rfl) (kl_mv rfl (kl_nil (kq_q (kt_q 7 (.cons _ (.cons _ (.cons _ (.cons_cons _ (List.nil_sublist _))))) rfl (by kernel_rfl) (kl_sub rfl rfl (by omega) ?_)))))))))))
   refine kl_nil (kq_q (kt_q 10 (.cons _ (.cons _ (.cons _ (.cons_cons _ (List.nil_sublist _))))) rfl (by kernel_rfl) (kl_mv rfl (kl_nil (kq_q (kt_q 13 (.cons _ (.cons _ (.cons _ (.cons_cons _ (List.nil_sublist _))))) rfl (by kernel_rfl) (kl_mv rfl (kl_nil (kq_q (kt_a 8 rfl (by kernel_rfl) (kl_callT rfl rfl (pick_ok q78 (((2 : Int) + z12) - (1 : Int)) (by omega) hr) (fun v84 L1 Ln K88 h85 f86 f87 => ?_))))))))))))
   obtain ⟨q89, h90, rfl, rfl, z91, rfl, h92⟩ := h85
   refine kl_norm ?_
   refine kl_nil (kq_a (.cons _ (.cons _ (.cons _ (.cons_cons _ (List.nil_sublist _))))) (kt_q 9 (.cons _ (.cons _ (.cons _ (.cons_cons _ (List.nil_sublist _))))) rfl (by kernel_rfl) (kl_add rfl rfl (by omega) ?_)))
   refine kl_nil (kq_q (kt_q 11 (.cons _ (.cons _ (.cons _ (.cons_cons _ (List.nil_sublist _))))) rfl (by kernel_rfl) ?_))
   have h95 := tmod_in (m := ((z80 + (1 : Int)) + z91)) (k := ((2 : Int) + z12)) (by omega) (by omega)
   refine kl_rem rfl rfl (by omega) ?_
   refine kl_nil (kq_q (kt_b 12 14 rfl rfl (by kernel_rfl) ?_ ?_))
   ·skip
    refine kl_bs rfl rfl rfl (by decide) (ca rfl (ca rfl ca_nil)) (fun v96 H97 f98 r99 s100 => ?_)
    have h101 : Ints H97 v96 [z80, (Int.tmod ((z80 + (1 : Int)) + z91) ((2 : Int) + z12))] := litInts (xs := [z80, (Int.tmod ((z80 + (1 : Int)) + z91) ((2 : Int) + z12))]) (by simpa using s100)
    refine kl_nil (kq_a (.cons _ (.cons _ (.cons _ (.cons_cons _ (List.nil_sublist _))))) (kt_a 14 rfl (by kernel_rfl) (kl_callT rfl rfl (pick_ok q89 (3 : Int) (by omega) hr) (fun v102 L1 Ln K106 h103 f104 f105 => ?_))))
    obtain ⟨q107, h108, rfl, rfl, z109, rfl, h110⟩ := h103
    refine kl_norm ?_
    refine kl_nil (kq_a (.cons _ (.cons _ (.cons _ (.cons_cons _ (List.nil_sublist _))))) (kt_q 15 (.cons _ (.cons _ (.cons _ (.cons_cons _ (List.nil_sublist _))))) rfl (by kernel_rfl) (kl_sub rfl rfl (by omega) ?_)))
    refine kl_nil (kq_q (kt_a 16 rfl (by kernel_rfl) (kl_bs rfl rfl rfl (by decide) (ca rfl ca_nil) (fun v113 H114 f115 r116 s117 => ?_))))
    have h118 : Ints H114 v113 [(z109 - (1 : Int))] := litInts (xs := [(z109 - (1 : Int))]) (by simpa using s117)
    refine kl_nil (kq_a (.cons _ (.cons _ (.cons _ (.cons_cons _ (List.nil_sublist _))))) (kt_a 17 rfl (by kernel_rfl) (kl_bd rfl (cp rfl (cp (Sl.cells (by assumption)) (cp (Sl.cells (by assumption)) cp_nil))) rfl ?_)))
    refine kl_nil (kq_a (.cons _ (.cons _ (.cons _ (.cons_cons _ (List.nil_sublist _))))) (kt_a 18 rfl (by kernel_rfl) (kl_bsK rfl (fun v119 H120 f121 r122 => ?_))))
    refine kl_nil (kq_a (.cons _ (.cons _ (.cons _ (.cons_cons _ (List.nil_sublist _))))) (kt_a 19 rfl (by kernel_rfl) (kl_cmp K66 H97 (fun c123 => ?_))))
    have o124 := OwnL.mono (K' := orHp K66 H97) o63 orL
    refine kl_cmp (orHp K66 H97) H114 (fun c125 => ?_)
    have o126 := OwnL.mono (K' := orHp (orHp K66 H97) H114) o124 orL
    refine kl_apL ⟨(2 : Int), ([z80, (Int.tmod ((z80 + (1 : Int)) + z91) ((2 : Int) + z12))]), ([(z109 - (1 : Int))]), (0 : Int), []⟩ rfl rfl o126 r122 ⟨_, _, _, rfl, (Sl.mono (by assumption) (fun b o h => orL b o (orC c123 b o h)) (fun _ _ h => h)), (Sl.mono (by assumption) (fun b o h => orC c125 b o h) (fun _ _ h => h)), Sl.nil⟩ (oc rfl (oc (Sl.oneCell (by assumption)) (oc (Sl.oneCell (by assumption)) (oc rfl (oc rfl oc_nil))))) (by omega) (by decide) (fun v127 H128 o129 f130 => ?_)
    have f131 := f130 B f64 (Nat.le_refl _)
    refine kl_nil (kq_x rfl (kt_q 20 (.cons _ (.cons _ (.cons _ (.cons_cons _ (List.nil_sublist _))))) rfl (by kernel_rfl) (kl_fdV rfl (kl_nil (kq_q (kt_a 21 rfl (by kernel_rfl) (kl_stB rfl rfl rfl (OwnL.oneCell (by assumption)) (OwnL.cells (by assumption)) ?_)))))))
    refine kl_chg [sing br (.cells [vbr, .int .i64 (q107 : Int)].toArray 58 (0, 0)), H128, H18, sing b3 (.cells [v21, v127].toArray 26 (0, 0)), sing b1 (.cells [.slice none 0 0, .slice none 0 0].toArray 26 (0, 0))] rfl ?_
    refine kl_nil (kq_x rfl (kt_end (by kernel_rfl) ?_))
    refine kq_code (kc_region (kl_mv rfl (kl_sub rfl rfl (by omega) ?_)))
    refine kl_as rfl (kl_nil (kq_take [H128, sing br (.cells [vbr, .int .i64 (q107 : Int)].toArray 58 (0, 0)), H18, sing b3 (.cells [v21, v127].toArray 26 (0, 0)), sing b1 (.cells [.slice none 0 0, .slice none 0 0].toArray 26 (0, 0))] ?_))
    refine kq_roundK ((k - (1 : Int)), (cs ++ [⟨(2 : Int), ([z80, (Int.tmod ((z80 + (1 : Int)) + z91) ((2 : Int) + z12))]), ([(z109 - (1 : Int))]), (0 : Int), []⟩]), v127, H128, (orHp (orHp K66 H97) H114), q107) (by (dsimp only; omega)) (⟨⟨by dsimp only; omega, by dsimp only; omega, by simp; omega, all_snoc hi61.2.2.2 (by constructor <;> dsimp only <;> first | (simp; done) | omega | exact all_nil)⟩, (fr_or (fr_or f67 f98) f115), o129, f131, (by first | omega | (dsimp only; omega))⟩) (pc 6 rfl pn) (pc 0 rfl (pc 2 rfl (pc 3 rfl (pc 4 rfl pn)))) rfl (List.Sublist.refl _)
   ·skip
    refine kl_callT rfl rfl (pick_ok q89 (3 : Int) (by omega) hr) (fun v132 L1 Ln K136 h133 f134 f135 => ?_)
    obtain ⟨q137, h138, rfl, rfl, z139, rfl, h140⟩ := h133
    refine kl_norm ?_
    refine kl_nil (kq_a (.cons _ (.cons _ (.cons _ (.cons_cons _ (List.nil_sublist _))))) (kt_q 15 (.cons _ (.cons _ (.cons _ (.cons_cons _ (List.nil_sublist _))))) rfl (by kernel_rfl) (kl_sub rfl rfl (by omega) ?_)))
    refine kl_nil (kq_q (kt_b 12 16 rfl rfl (by kernel_rfl) ?_ ?_))
    ·skip
     refine kl_bs rfl rfl rfl (by decide) (ca rfl (ca rfl ca_nil)) (fun v143 H144 f145 r146 s147 => ?_)
     have h148 : Ints H144 v143 [z80, (Int.tmod ((z80 + (1 : Int)) + z91) ((2 : Int) + z12))] := litInts (xs := [z80, (Int.tmod ((z80 + (1 : Int)) + z91) ((2 : Int) + z12))]) (by simpa using s147)
     refine kl_nil (kq_a (.cons _ (.cons _ (.cons _ (.cons_cons _ (List.nil_sublist _))))) (kt_a 16 rfl (by kernel_rfl) (kl_bs rfl rfl rfl (by decide) (ca rfl ca_nil) (fun v149 H150 f151 r152 s153 => ?_))))
     have h154 : Ints H150 v149 [(z139 - (1 : Int))] := litInts (xs := [(z139 - (1 : Int))]) (by simpa using s153)
     refine kl_nil (kq_a (.cons _ (.cons _ (.cons _ (.cons_cons _ (List.nil_sublist _))))) (kt_a 17 rfl (by kernel_rfl) (kl_bd rfl (cp rfl (cp (Sl.cells (by assumption)) (cp (Sl.cells (by assumption)) cp_nil))) rfl ?_)))
     refine kl_nil (kq_a (.cons _ (.cons _ (.cons _ (.cons_cons _ (List.nil_sublist _))))) (kt_a 18 rfl (by kernel_rfl) (kl_bsK rfl (fun v155 H156 f157 r158 => ?_))))
     refine kl_nil (kq_a (.cons _ (.cons _ (.cons _ (.cons_cons _ (List.nil_sublist _))))) (kt_a 19 rfl (by kernel_rfl) (kl_cmp K66 H144 (fun c159 => ?_))))
     have o160 := OwnL.mono (K' := orHp K66 H144) o63 orL
     refine kl_cmp (orHp K66 H144) H150 (fun c161 => ?_)
     have o162 := OwnL.mono (K' := orHp (orHp K66 H144) H150) o160 orL
     refine kl_apL ⟨(2 : Int), ([z80, (Int.tmod ((z80 + (1 : Int)) + z91) ((2 : Int) + z12))]), ([(z139 - (1 : Int))]), (0 : Int), []⟩ rfl rfl o162 r158 ⟨_, _, _, rfl, (Sl.mono (by assumption) (fun b o h => orL b o (orC c159 b o h)) (fun _ _ h => h)), (Sl.mono (by assumption) (fun b o h => orC c161 b o h) (fun _ _ h => h)), Sl.nil⟩ (oc rfl (oc (Sl.oneCell (by assumption)) (oc (Sl.oneCell (by assumption)) (oc rfl (oc rfl oc_nil))))) (by omega) (by decide) (fun v163 H164 o165 f166 => ?_)
     have f167 := f166 B f64 (Nat.le_refl _)
     refine kl_nil (kq_x rfl (kt_q 20 (.cons _ (.cons _ (.cons _ (.cons_cons _ (List.nil_sublist _))))) rfl (by kernel_rfl) (kl_fdV rfl (kl_nil (kq_q (kt_a 21 rfl (by kernel_rfl) (kl_stB rfl rfl rfl (OwnL.oneCell (by assumption)) (OwnL.cells (by assumption)) ?_)))))))
     refine kl_chg [sing br (.cells [vbr, .int .i64 (q137 : Int)].toArray 58 (0, 0)), H164, H18, sing b3 (.cells [v21, v163].toArray 26 (0, 0)), sing b1 (.cells [.slice none 0 0, .slice none 0 0].toArray 26 (0, 0))] rfl ?_
     refine kl_nil (kq_x rfl (kt_end (by kernel_rfl) ?_))
     refine kq_code (kc_region (kl_mv rfl (kl_sub rfl rfl (by omega) ?_)))
     refine kl_as rfl (kl_nil (kq_take [H164, sing br (.cells [vbr, .int .i64 (q137 : Int)].toArray 58 (0, 0)), H18, sing b3 (.cells [v21, v163].toArray 26 (0, 0)), sing b1 (.cells [.slice none 0 0, .slice none 0 0].toArray 26 (0, 0))] ?_))
     refine kq_roundK ((k - (1 : Int)), (cs ++ [⟨(2 : Int), ([z80, (Int.tmod ((z80 + (1 : Int)) + z91) ((2 : Int) + z12))]), ([(z139 - (1 : Int))]), (0 : Int), []⟩]), v163, H164, (orHp (orHp K66 H144) H150), q137) (by (dsimp only; omega)) (⟨⟨by dsimp only; omega, by dsimp only; omega, by simp; omega, all_snoc hi61.2.2.2 (by constructor <;> dsimp only <;> first | (simp; done) | omega | exact all_nil)⟩, (fr_or (fr_or f67 f145) f151), o165, f167, (by first | omega | (dsimp only; omega))⟩) (pc 6 rfl pn) (pc 0 rfl (pc 2 rfl (pc 3 rfl (pc 4 rfl pn)))) rfl (List.Sublist.refl _)
    ·skip
     refine kl_bs rfl rfl rfl (by decide) (ca rfl ca_nil) (fun v168 H169 f170 r171 s172 => ?_)
     have h173 : Ints H169 v168 [(z139 - (1 : Int))] := litInts (xs := [(z139 - (1 : Int))]) (by simpa using s172)
     refine kl_nil (kq_a (.cons _ (.cons _ (.cons _ (.cons_cons _ (List.nil_sublist _))))) (kt_a 12 rfl (by kernel_rfl) (kl_bs rfl rfl rfl (by decide) (ca rfl (ca rfl ca_nil)) (fun v174 H175 f176 r177 s178 => ?_))))
     have h179 : Ints H175 v174 [z80, (Int.tmod ((z80 + (1 : Int)) + z91) ((2 : Int) + z12))] := litInts (xs := [z80, (Int.tmod ((z80 + (1 : Int)) + z91) ((2 : Int) + z12))]) (by simpa using s178)
     refine kl_nil (kq_a (.cons _ (.cons _ (.cons _ (.cons_cons _ (List.nil_sublist _))))) (kt_a 17 rfl (by kernel_rfl) (kl_bd rfl (cp rfl (cp (Sl.cells (by assumption)) (cp (Sl.cells (by assumption)) cp_nil))) rfl ?_)))
     refine kl_nil (kq_a (.cons _ (.cons _ (.cons _ (.cons_cons _ (List.nil_sublist _))))) (kt_a 18 rfl (by kernel_rfl) (kl_bsK rfl (fun v180 H181 f182 r183 => ?_))))
     refine kl_nil (kq_a (.cons _ (.cons _ (.cons _ (.cons_cons _ (List.nil_sublist _))))) (kt_a 19 rfl (by kernel_rfl) (kl_cmp K66 H175 (fun c184 => ?_))))
     have o185 := OwnL.mono (K' := orHp K66 H175) o63 orL
     refine kl_cmp (orHp K66 H175) H169 (fun c186 => ?_)
     have o187 := OwnL.mono (K' := orHp (orHp K66 H175) H169) o185 orL
     refine kl_apL ⟨(2 : Int), ([z80, (Int.tmod ((z80 + (1 : Int)) + z91) ((2 : Int) + z12))]), ([(z139 - (1 : Int))]), (0 : Int), []⟩ rfl rfl o187 r183 ⟨_, _, _, rfl, (Sl.mono (by assumption) (fun b o h => orL b o (orC c184 b o h)) (fun _ _ h => h)), (Sl.mono (by assumption) (fun b o h => orC c186 b o h) (fun _ _ h => h)), Sl.nil⟩ (oc rfl (oc (Sl.oneCell (by assumption)) (oc (Sl.oneCell (by assumption)) (oc rfl (oc rfl oc_nil))))) (by omega) (by decide) (fun v188 H189 o190 f191 => ?_)
     have f192 := f191 B f64 (Nat.le_refl _)
     refine kl_nil (kq_x rfl (kt_q 20 (.cons _ (.cons _ (.cons _ (.cons_cons _ (List.nil_sublist _))))) rfl (by kernel_rfl) (kl_fdV rfl (kl_nil (kq_q (kt_a 21 rfl (by kernel_rfl) (kl_stB rfl rfl rfl (OwnL.oneCell (by assumption)) (OwnL.cells (by assumption)) ?_)))))))
     refine kl_chg [sing br (.cells [vbr, .int .i64 (q137 : Int)].toArray 58 (0, 0)), H189, H18, sing b3 (.cells [v21, v188].toArray 26 (0, 0)), sing b1 (.cells [.slice none 0 0, .slice none 0 0].toArray 26 (0, 0))] rfl ?_
     refine kl_nil (kq_x rfl (kt_end (by kernel_rfl) ?_))
     refine kq_code (kc_region (kl_mv rfl (kl_sub rfl rfl (by omega) ?_)))
     refine kl_as rfl (kl_nil (kq_take [H189, sing br (.cells [vbr, .int .i64 (q137 : Int)].toArray 58 (0, 0)), H18, sing b3 (.cells [v21, v188].toArray 26 (0, 0)), sing b1 (.cells [.slice none 0 0, .slice none 0 0].toArray 26 (0, 0))] ?_))
     refine kq_roundK ((k - (1 : Int)), (cs ++ [⟨(2 : Int), ([z80, (Int.tmod ((z80 + (1 : Int)) + z91) ((2 : Int) + z12))]), ([(z139 - (1 : Int))]), (0 : Int), []⟩]), v188, H189, (orHp (orHp K66 H175) H169), q137) (by (dsimp only; omega)) (⟨⟨by dsimp only; omega, by dsimp only; omega, by simp; omega, all_snoc hi61.2.2.2 (by constructor <;> dsimp only <;> first | (simp; done) | omega | exact all_nil)⟩, (fr_or (fr_or f67 f176) f170), o190, f192, (by first | omega | (dsimp only; omega))⟩) (pc 6 rfl pn) (pc 0 rfl (pc 2 rfl (pc 3 rfl (pc 4 rfl pn)))) rfl (List.Sublist.refl _)
  ·skip
   refine kc_exit (kq_code (kc_seq (kc_seq (kc_region (kl_mv rfl (kl_callT rfl rfl (pick_ok q69 (4 : Int) (by omega) hr) (fun v193 L1 Ln K197 h194 f195 f196 => ?_)))))))
   obtain ⟨q198, h199, rfl, rfl, z200, rfl, h201⟩ := h194
   refine kl_norm ?_
   refine kl_eql rfl rfl ?_
   refine kl_nil (kq_code (kc_if rfl (fun c204 => ?_) (fun c204 => ?_)))
   ·skip
    refine kc_tree (fun i => ([6, 8] : List Nat).contains i) [sing b3 (.cells [v21, v65].toArray 26 (0, 0))] (by kernel_rfl) ?_
    refine kt_q 0 (.cons _ (.cons _ (.cons _ (.cons_cons _ (List.nil_sublist _))))) rfl (by kernel_rfl) (kl_fdV rfl (kl_nil (kq_q (kt_q 1 (.cons _ (.cons _ (.cons _ (.cons_cons _ (List.nil_sublist _))))) rfl (by kernel_rfl) (kl_ld rfl (at_box (T := 26) (cs := [v21, v65]) (off := 1) (fz := (0, 0))) (kl_nil (kq_q (kt_q 2 (.cons _ (.cons _ (.cons _ (.cons_cons _ (List.nil_sublist _))))) rfl (by kernel_rfl) ?_))))))))
    refine kl_mv rfl (kl_nil (kq_q (kt_q 3 (.cons _ (.cons _ (.cons _ (.cons_cons _ (List.nil_sublist _))))) rfl (by kernel_rfl) (kl_mv rfl (kl_nil (kq_q (kt_a 4 rfl (by kernel_rfl) (kl_callT rfl rfl (randomConstraint_ok q198 ((2 : Int) + z12) (by first | assumption | omega) (by omega) hr) (fun v205 L1 Ln K209 h206 f207 f208 => ?_)))))))))
    obtain ⟨q210, h211, rfl, z212, rfl, h216, h213⟩ := h206
    obtain ⟨_, rfl, h220⟩ := h216
    have h220' := h220
    obtain ⟨u217, u218, u219, rfl, h221, h222, h223⟩ := h220
    refine kl_norm ?_
    refine kl_nil (kq_a (.cons _ (.cons _ (.cons _ (.cons_cons _ (List.nil_sublist _))))) (kt_a 5 rfl (by kernel_rfl) (kl_bsK rfl (fun v224 H225 f226 r227 => ?_))))
    refine kl_nil (kq_a (.cons _ (.cons _ (.cons _ (.cons_cons _ (List.nil_sublist _))))) (kt_a 6 rfl (by kernel_rfl) (kl_cmp K66 K209 (fun c228 => ?_))))
    have o229 := OwnL.mono (K' := orHp K66 K209) o63 orL
    refine kl_apL z212 rfl rfl o229 r227 (RMono.mono (orC c228) (by assumption)) (oc rfl (oc (Sl.oneCell (by assumption)) (oc (Sl.oneCell (by assumption)) (oc rfl (oc (Sl.oneCell (by assumption)) oc_nil))))) (by omega) (by decide) (fun v230 H231 o232 f233 => ?_)
    have f234 := f233 B f64 (Nat.le_refl _)
    refine kl_nil (kq_x rfl (kt_q 7 (.cons _ (.cons _ (.cons _ (.cons_cons _ (List.nil_sublist _))))) rfl (by kernel_rfl) (kl_fdV rfl (kl_nil (kq_q (kt_a 8 rfl (by kernel_rfl) (kl_stB rfl rfl rfl (OwnL.oneCell (by assumption)) (OwnL.cells (by assumption)) ?_)))))))
    refine kl_chg [sing br (.cells [vbr, .int .i64 (q210 : Int)].toArray 58 (0, 0)), H231, H18, sing b3 (.cells [v21, v230].toArray 26 (0, 0)), sing b1 (.cells [.slice none 0 0, .slice none 0 0].toArray 26 (0, 0))] rfl ?_
    refine kl_nil (kq_x rfl (kt_end (by kernel_rfl) ?_))
    refine kq_code (kc_seq (kc_seq (kc_region (kl_mv rfl (kl_callT rfl rfl (pick_ok q210 (16 : Int) (by omega) hr) (fun v235 L1 Ln K239 h236 f237 f238 => ?_))))))
    obtain ⟨q240, h241, rfl, rfl, z242, rfl, h243⟩ := h236
    refine kl_norm ?_
    refine kl_eql rfl rfl ?_
    refine kl_nil (kq_code (kc_if rfl (fun c246 => ?_) (fun c246 => ?_)))
    ·skip
     refine kc_region (kl_fdV rfl (kl_ldB rfl rfl (kl_ixLn (i := 0) rfl rfl (by assumption) (by omega) (fun p247 q248 => ?_))))
     refine kl_stL (64 : Int) rfl rfl (by assumption) o19 (by omega) rfl rfl rfl (fun H249 o250 f251 => ?_)
     have f252 := f251 _ f20
     refine kl_chg [sing br (.cells [vbr, .int .i64 (q240 : Int)].toArray 58 (0, 0)), H231, H249, sing b3 (.cells [v21, v230].toArray 26 (0, 0)), sing b1 (.cells [.slice none 0 0, .slice none 0 0].toArray 26 (0, 0))] rfl ?_
     refine kl_nil (kq_code (kc_seq (kc_region (kl_ldW rfl rfl (kl_stW (us := [v21, v230]) rfl rfl rfl rfl (oc (OwnL.oneCell (by assumption)) (oc (OwnL.oneCell (by assumption)) oc_nil)) rfl ?_)))))
     refine kl_chg [sing br (.cells [vbr, .int .i64 (q240 : Int)].toArray 58 (0, 0)), H231, H249, sing b3 (.cells [v21, v230].toArray 26 (0, 0)), sing b1 (.cells [v21, v230].toArray 26 (0, 0))] rfl ?_
     refine kl_nil (kq_code (kc_ret ?_))
     exact kq_retTC rfl rfl rfl [sing br (.cells [vbr, .int .i64 (q240 : Int)].toArray 58 (0, 0))] [H249, H231] (orHp K66 K209) (frc f252 (fr1 f234)) (fr_or f67 f208) ⟨q240, by omega, rfl, H249, H231, _, _, (⟨(ds.set 0 (64 : Int)), (cs ++ [z212])⟩ : Mod), rfl, rfl, o250, o232, by (constructor <;> dsimp only <;> first | omega | (simp only [List.length_set, List.length_append]; omega) | (exact all_snoc (by simp_all) (by assumption)) | (simp_all; done) | (simp; omega))⟩
    ·skip
     refine kc_skipQ (kq_code (kc_seq (kc_region (kl_ldW rfl rfl (kl_stW (us := [v21, v230]) rfl rfl rfl rfl (oc (OwnL.oneCell (by assumption)) (oc (OwnL.oneCell (by assumption)) oc_nil)) rfl ?_)))))
     refine kl_chg [sing br (.cells [vbr, .int .i64 (q240 : Int)].toArray 58 (0, 0)), H231, H18, sing b3 (.cells [v21, v230].toArray 26 (0, 0)), sing b1 (.cells [v21, v230].toArray 26 (0, 0))] rfl ?_
     refine kl_nil (kq_code (kc_ret ?_))
     exact kq_retTC rfl rfl rfl [sing br (.cells [vbr, .int .i64 (q240 : Int)].toArray 58 (0, 0))] [H18, H231] (orHp K66 K209) (frc f20 (fr1 f234)) (fr_or f67 f208) ⟨q240, by omega, rfl, H18, H231, _, _, (⟨ds, (cs ++ [z212])⟩ : Mod), rfl, rfl, o19, o232, by (constructor <;> dsimp only <;> first | omega | (simp only [List.length_set, List.length_append]; omega) | (exact all_snoc (by simp_all) (by assumption)) | (simp_all; done) | (simp; omega))⟩
   ·skip
    refine kc_skipQ (kq_code (kc_seq (kc_seq (kc_region (kl_mv rfl (kl_callT rfl rfl (pick_ok q198 (16 : Int) (by omega) hr) (fun v253 L1 Ln K257 h254 f255 f256 => ?_)))))))
    obtain ⟨q258, h259, rfl, rfl, z260, rfl, h261⟩ := h254
    refine kl_norm ?_
    refine kl_eql rfl rfl ?_
    refine kl_nil (kq_code (kc_if rfl (fun c264 => ?_) (fun c264 => ?_)))
    ·skip
     refine kc_region (kl_fdV rfl (kl_ldB rfl rfl (kl_ixLn (i := 0) rfl rfl (by assumption) (by omega) (fun p265 q266 => ?_))))
     refine kl_stL (64 : Int) rfl rfl (by assumption) o19 (by omega) rfl rfl rfl (fun H267 o268 f269 => ?_)
     have f270 := f269 _ f20
     refine kl_chg [sing br (.cells [vbr, .int .i64 (q258 : Int)].toArray 58 (0, 0)), H62, H267, sing b3 (.cells [v21, v65].toArray 26 (0, 0)), sing b1 (.cells [.slice none 0 0, .slice none 0 0].toArray 26 (0, 0))] rfl ?_
     refine kl_nil (kq_code (kc_seq (kc_region (kl_ldW rfl rfl (kl_stW (us := [v21, v65]) rfl rfl rfl rfl (oc (OwnL.oneCell (by assumption)) (oc (OwnL.oneCell (by assumption)) oc_nil)) rfl ?_)))))
     refine kl_chg [sing br (.cells [vbr, .int .i64 (q258 : Int)].toArray 58 (0, 0)), H62, H267, sing b3 (.cells [v21, v65].toArray 26 (0, 0)), sing b1 (.cells [v21, v65].toArray 26 (0, 0))] rfl ?_
     refine kl_nil (kq_code (kc_ret ?_))
     exact kq_retTC rfl rfl rfl [sing br (.cells [vbr, .int .i64 (q258 : Int)].toArray 58 (0, 0))] [H267, H62] K66 (frc f270 (fr1 f64)) f67 ⟨q258, by omega, rfl, H267, H62, _, _, (⟨(ds.set 0 (64 : Int)), cs⟩ : Mod), rfl, rfl, o268, o63, by (constructor <;> dsimp only <;> first | omega | (simp only [List.length_set, List.length_append]; omega) | (exact all_snoc (by simp_all) (by assumption)) | (simp_all; done) | (simp; omega))⟩
    ·skip
     refine kc_skipQ (kq_code (kc_seq (kc_region (kl_ldW rfl rfl (kl_stW (us := [v21, v65]) rfl rfl rfl rfl (oc (OwnL.oneCell (by assumption)) (oc (OwnL.oneCell (by assumption)) oc_nil)) rfl ?_)))))
     refine kl_chg [sing br (.cells [vbr, .int .i64 (q258 : Int)].toArray 58 (0, 0)), H62, H18, sing b3 (.cells [v21, v65].toArray 26 (0, 0)), sing b1 (.cells [v21, v65].toArray 26 (0, 0))] rfl ?_
     refine kl_nil (kq_code (kc_ret ?_))
     exact kq_retTC rfl rfl rfl [sing br (.cells [vbr, .int .i64 (q258 : Int)].toArray 58 (0, 0))] [H18, H62] K66 (frc f20 (fr1 f64)) f67 ⟨q258, by omega, rfl, H18, H62, _, _, (⟨ds, cs⟩ : Mod), rfl, rfl, o19, o63, by (constructor <;> dsimp only <;> first | omega | (simp only [List.length_set, List.length_append]; omega) | (exact all_snoc (by simp_all) (by assumption)) | (simp_all; done) | (simp; omega))⟩
end Go.Proofs.YtiilanckbocifaaDoor
