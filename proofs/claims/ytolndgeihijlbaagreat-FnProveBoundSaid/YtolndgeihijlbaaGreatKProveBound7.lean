/- Parts of the proof: a logic of partial frames, plain functions, walks of the program's functions. Conditions: those that each statement names. -/
import Derived.Test.YtolndgeihijlbaaGreatKProveBound6
namespace Go.Proofs.YtolndgeihijlbaaGreat
open Go
set_option linter.unusedSimpArgs false
set_option linter.unusedVariables false
section
theorem hardModel_ok {br : Nat} {vbr : Value} {Hr : Hp} {bsr : List Int} (pr : Nat) (hp : pr + (800) ≤ 1000000) (hr : Bytes Hr vbr bsr) : SpecT Tryz.prog 65 [.pointer (some ⟨br, 0, none⟩)] [bxS br [vbr, .int .i64 (pr : Int)] 84] [Hr] (fun vq L1 Ln Kq => ∃ q : Nat, q ≤ pr + (800) ∧ L1 = [bxS br [vbr, .int .i64 (q : Int)] 84] ∧ ∃ (Hq Mq : Hp) (va vc : Value) (mq : Mod), vq = .agg #[va, vc] ∧ Ln = [Hq, Mq] ∧ OwnL 3 1 Hq noHp IntV va mq.doms ∧ OwnL 88 5 Mq Kq ConV vc mq.cons ∧ ModSm 100 mq) := by
 refine specT_of Tryz.func65 rfl rfl rfl (fun B => ?_)
 refine cS (cr (kl_alloc (cs := [.slice none 0 0, .slice none 0 0]) rfl (fun b1 hb2 => ?_)))
 refine ln (qc (cS (cr (mv rfl (cT rfl rfl (randomModel_ok pr (by omega) hr) (fun v3 L1 Ln K7 h4 f5 f6 => ?_))))))
 obtain ⟨q8, h9, rfl, H12, M14, v15, v16, z10, rfl, rfl, o13, o17, h11⟩ := h4
 have f18 := f5 _ (.head _)
 have f19 := f5 _ (.tail _ (.head _))
 have hd1 := h11.d1
 have hd4 := h11.d
 have hc1 := h11.c
 have hcc := h11.cc
 refine nm ?_
 refine kl_alloc (cs := [.slice none 0 0, .slice none 0 0]) rfl (fun b20 hb21 => ?_)
 refine kl_stW (us := [v15, v16]) rfl rfl rfl rfl (oc (OwnL.oneCell ‹_›) (oc (OwnL.oneCell ‹_›) oc_nil)) rfl ?_
 refine cg [bxS b20 [v15, v16] 26, bxS br [vbr, .int .i64 (q8 : Int)] 84, H12, M14, bxS b1 [.slice none 0 0, .slice none 0 0] 26] rfl ?_
 refine ln (qc (cS (cS (cr (mv rfl (cT rfl rfl (pick_ok q8 (3 : Int) (by omega) hr) (fun v22 L1 Ln K26 h23 f24 f25 => ?_)))))))
 obtain ⟨q27, h28, rfl, rfl, z29, rfl, h30⟩ := h23
 refine nm ?_
 refine sg rfl (ln (qc (bl (kc_loopK (A := Int × List Con × Value × Hp × Hp × Nat) (fun zz => (0 ≤ zz.1 ∧ zz.1 ≤ 2 ∧ zz.2.1.length + zz.1.toNat ≤ 52 ∧ ∀ c ∈ zz.2.1, ConSm 50 c) ∧ Fr B zz.2.2.2.2.1 ∧ OwnL 88 5 zz.2.2.2.1 zz.2.2.2.2.1 ConV zz.2.2.1 zz.2.1 ∧ Fr B zz.2.2.2.1 ∧ zz.2.2.2.2.2 ≤ q27 + 100 * (2 - zz.1).toNat) (fun zz => zz.1.toNat) (fun zz => zz.2.2.2.2.1) (fun zz => [bxS br [vbr, .int .i64 (zz.2.2.2.2.2 : Int)] 84, bxS b20 [v15, zz.2.2.1] 26, H12, zz.2.2.2.1, bxS b1 [.slice none 0 0, .slice none 0 0] 26]) (fun zz => [(4, .int .i64 zz.1)]) (z29, z10.cons, v16, M14, K7, q27) (pk [0, 2, 3] rfl) (pc 4 rfl pn) rfl ⟨⟨by dsimp only; omega, by dsimp only; omega, by dsimp only; omega, hcc⟩, f6, o17, f19, (by first | omega | (dsimp only; omega))⟩ ?_))))
 rintro ⟨k, cs, v38, H35, K39, q41⟩ hJ43
 obtain ⟨hi34, f40, o36, f37, hq42⟩ : (0 ≤ k ∧ k ≤ 2 ∧ cs.length + k.toNat ≤ 52 ∧ ∀ c ∈ cs, ConSm 50 c) ∧ Fr B K39 ∧ OwnL 88 5 H35 K39 ConV v38 cs ∧ Fr B H35 ∧ q41 ≤ q27 + 100 * (2 - k).toNat := hJ43
 change KC _ _ (K39 :: _) [bxS br [vbr, .int .i64 (q41 : Int)] 84, bxS b20 [v15, v38] 26, H12, H35, bxS b1 [.slice none 0 0, .slice none 0 0] 26] _ ([(4, .int .i64 k)] ++ _)
 have hall := hi34.2.2.2
 refine cS (cS (cr (mv rfl (kl_gtr rfl rfl ?_))))
 refine mv rfl (jn 5 17 (.bool (decide ((0 : Int) < k) && decide ((cs.length : Int) < (6 : Int)))) (pk [0, 2, 3, 4, 10, 11, 12] rfl) (fun J46 => ?_) ?_)
 ·rcases Bool.eq_false_or_eq_true (decide ((0 : Int) < k)) with g44 | g44
  ·have g44p := of_decide_eq_true g44
   refine gT rfl rfl g44 (fV rfl (gT rfl rfl g44 (lB rfl rfl (gT rfl rfl g44 (lL rfl o36 (fun l45 => ?_))))))
   refine gT rfl rfl g44 (ls9 rfl rfl ?_)
   refine aT rfl rfl g44 ?_
   exact J46 _ (pk [17, 0, 2, 3, 4, 10, 11, 12] rfl)
  ·refine gF rfl rfl g44 (gF rfl rfl g44 (gF rfl rfl g44 (gF rfl rfl g44 (aF (decide ((cs.length : Int) < (6 : Int))) rfl rfl g44 ?_))))
   exact J46 _ (pk [17, 0, 2, 3, 4, 10, 11, 12] rfl)
 refine ln (qc (cd9 rfl (fun c47 => ?_) (fun c47 => ?_)))
 ·have c47r := c47
  try simp only [smpE] at c47
  refine sk (qc (cS (bl (kc_tree (fun i => ([8, 10] : List Nat).contains i) [bxS b20 [v15, v38] 26] (by kernel_rfl) ?_))))
  refine kt_q 0 (.cons _ (.cons_cons _ nsl)) rfl (by kernel_rfl) (fV rfl (ln (qq (kt_q 1 (.cons _ (.cons_cons _ nsl)) rfl (by kernel_rfl) (ld rfl (at_box (T := 26) (cs := [v15, v38]) (off := 1) (fz := (0, 0))) (ln (qq (kt_q 2 (.cons _ (.cons_cons _ nsl)) rfl (by kernel_rfl) (mv rfl (ln (qq ?_)))))))))))
  refine kt_q 3 (.cons _ (.cons_cons _ nsl)) rfl (by kernel_rfl) (fV rfl (ln (qq (kt_q 4 (.cons _ (.cons_cons _ nsl)) rfl (by kernel_rfl) (ld rfl (at_box (T := 26) (cs := [v15, v38]) (off := 0) (fz := (0, 0))) (ln (qq (kt_q 5 (.cons _ (.cons_cons _ nsl)) rfl (by kernel_rfl) (lL rfl o13 (fun l48 => ?_))))))))))
  refine ln (qq (ta 6 rfl (cT rfl rfl (randomConstraint_ok q41 (z10.doms.length : Int) (by first | assumption | omega) (by omega) hr) (fun v49 L1 Ln K53 h50 f51 f52 => ?_))))
  obtain ⟨q54, h55, rfl, z56, rfl, h60, h57⟩ := h50
  obtain ⟨_, rfl, h64⟩ := h60
  have h64' := h64
  obtain ⟨u61, u62, u63, rfl, h65, h66, h67⟩ := h64
  refine nm ?_
  refine ln (qa (.cons _ (.cons_cons _ nsl)) (ta 7 rfl (kl_bsK rfl (fun v68 H69 f70 r71 => ?_))))
  refine ln (qa (.cons _ (.cons_cons _ nsl)) (ta 8 rfl (cm9 K39 K53 (fun c72 => ?_))))
  have o73 := OwnL.mono (K' := orHp K39 K53) o36 orL
  refine aL9 z56 rfl rfl o73 r71 (RMono.mono (orC c72) ‹_›) (oc rfl (oc (Sl.oneCell ‹_›) (oc (Sl.oneCell ‹_›) (oc rfl (oc (Sl.oneCell ‹_›) oc_nil))))) (by omega) (by decide) (fun v74 H75 o76 f77 => ?_)
  have f78 := f77 B f37 (Nat.le_refl _)
  refine ln (qx rfl (kt_q 9 (.cons _ (.cons_cons _ nsl)) rfl (by kernel_rfl) (fV rfl (ln (qq (ta 10 rfl (sB rfl rfl rfl (OwnL.oneCell ‹_›) (OwnL.cells ‹_›) ?_)))))))
  refine cg [bxS br [vbr, .int .i64 (q54 : Int)] 84, bxS b20 [v15, v74] 26, H12, H75, bxS b1 [.slice none 0 0, .slice none 0 0] 26] rfl ?_
  refine ln (qx rfl (kt_end (by kernel_rfl) ?_))
  refine qc (cr (mv rfl (sb9 rfl rfl (by omega) ?_)))
  refine sg rfl (ln (tk [bxS br [vbr, .int .i64 (q54 : Int)] 84, bxS b20 [v15, v74] 26, H12, H75, bxS b1 [.slice none 0 0, .slice none 0 0] 26] ?_))
  refine kq_roundK ((k - (1 : Int)), (cs ++ [z56]), v74, H75, (orHp K39 K53), q54) (by (dsimp only; omega)) (⟨⟨by dsimp only; omega, by dsimp only; omega, by simp; omega, all_snoc hi34.2.2.2 ‹_›⟩, (fr_or f40 f52), o76, f78, (by first | omega | (dsimp only; omega))⟩) (pc 4 rfl pn) (pk [0, 2, 3] rfl) rfl slr9
 ·have c47r := c47
  try simp only [smpE] at c47
  refine ex9 (qc (cS (cS (cr (mv rfl (cT rfl rfl (pick_ok q41 (3 : Int) (by omega) hr) (fun v79 L1 Ln K83 h80 f81 f82 => ?_)))))))
  obtain ⟨q84, h85, rfl, rfl, z86, rfl, h87⟩ := h80
  refine nm ?_
  refine eq9 rfl rfl ?_
  refine mv rfl (jn 5 38 (.bool (decide (z86 = (0 : Int)) && decide ((cs.length : Int) < (6 : Int)))) (pk [2, 3, 33] rfl) (fun J92 => ?_) ?_)
  ·rcases Bool.eq_false_or_eq_true (decide (z86 = (0 : Int))) with g90 | g90
   ·have g90p := of_decide_eq_true g90
    refine gT rfl rfl g90 (fV rfl (gT rfl rfl g90 (lB rfl rfl (gT rfl rfl g90 (lL rfl o36 (fun l91 => ?_))))))
    refine gT rfl rfl g90 (ls9 rfl rfl ?_)
    refine aT rfl rfl g90 ?_
    exact J92 _ (pk [38, 2, 3, 33] rfl)
   ·refine gF rfl rfl g90 (gF rfl rfl g90 (gF rfl rfl g90 (gF rfl rfl g90 (aF (decide ((cs.length : Int) < (6 : Int))) rfl rfl g90 ?_))))
    exact J92 _ (pk [38, 2, 3, 33] rfl)
  refine mv rfl (jn 5 44 (.bool ((decide (z86 = (0 : Int)) && decide ((cs.length : Int) < (6 : Int))) && decide ((2 : Int) < (z10.doms.length : Int)))) (pk [2, 3, 39] rfl) (fun J95 => ?_) ?_)
  ·rcases Bool.eq_false_or_eq_true (decide (z86 = (0 : Int)) && decide ((cs.length : Int) < (6 : Int))) with g93 | g93
   ·have g93p := g93
    try simp only [smpD] at g93p
    refine gT rfl rfl g93 (fV rfl (gT rfl rfl g93 (lB rfl rfl (gT rfl rfl g93 (lL rfl o13 (fun l94 => ?_))))))
    refine gT rfl rfl g93 (kl_gtr rfl rfl ?_)
    refine aT rfl rfl g93 ?_
    exact J95 _ (pk [44, 2, 3, 39] rfl)
   ·refine gF rfl rfl g93 (gF rfl rfl g93 (gF rfl rfl g93 (gF rfl rfl g93 (aF (decide ((2 : Int) < (z10.doms.length : Int))) rfl rfl g93 ?_))))
    exact J95 _ (pk [44, 2, 3, 39] rfl)
  refine ln (qc (cd9 rfl (fun c96 => ?_) (fun c96 => ?_)))
  ·have c96r := c96
   try simp only [smpE] at c96
   have h3c := c96r
   simp only [Bool.and_eq_true, decide_eq_true_eq] at h3c
   refine cS (cS (cr (sg rfl (ln (qc (bl (kc_loopL (A := Nat × List Int × Value × Hp) (fun zz => (zz.1 ≤ 4) ∧ (2 < zz.2.1.length ∧ zz.2.1.length ≤ 4) ∧ OwnL 3 1 zz.2.2.2 noHp IntV zz.2.2.1 zz.2.1 ∧ Fr B zz.2.2.2) (fun zz => 4 - zz.1) (fun zz => [bxS br [vbr, .int .i64 (q84 : Int)] 84, bxS b20 [zz.2.2.1, v38] 26, zz.2.2.2, H35, bxS b1 [.slice none 0 0, .slice none 0 0] 26]) (fun zz => [(5, .int .i64 (zz.1 : Int))]) (0, z10.doms, v15, H12) (pk [2, 3] rfl) (pc 5 rfl pn) rfl ⟨Nat.zero_le _, ⟨by have h9 := h3c.2; dsimp only; omega, by dsimp only; omega⟩, o13, f18⟩ ?_)))))))
   rintro ⟨i, ds, v102, H99⟩ hJ103
   obtain ⟨hk97, hi98, o100, f101⟩ : (i ≤ 4) ∧ (2 < ds.length ∧ ds.length ≤ 4) ∧ OwnL 3 1 H99 noHp IntV v102 ds ∧ Fr B H99 := hJ103
   change KC _ _ (_) [bxS br [vbr, .int .i64 (q84 : Int)] 84, bxS b20 [v102, v38] 26, H99, H35, bxS b1 [.slice none 0 0, .slice none 0 0] 26] _ ([(5, .int .i64 (i : Int))] ++ _)
   refine cS (cS (cr (mv rfl (fV rfl (lB rfl rfl (lL rfl o100 (fun l104 => ?_)))))))
   refine ls9 rfl rfl ?_
   refine ln (qc (ci9 rfl (fun c105 => ?_) (fun c105 => ?_)))
   ·refine sk (qc (cS (bl (kc_tree (fun i => ([9] : List Nat).contains i) [bxS b20 [v102, v38] 26] (by kernel_rfl) ?_))))
    refine kt_q 0 (.cons _ (.cons_cons _ nsl)) rfl (by kernel_rfl) (fV rfl (ln (qq (kt_q 1 (.cons _ (.cons_cons _ nsl)) rfl (by kernel_rfl) (ld rfl (at_box (T := 26) (cs := [v102, v38]) (off := 0) (fz := (0, 0))) (ln (qq (kt_q 2 (.cons _ (.cons_cons _ nsl)) rfl (by kernel_rfl) (mv rfl (ln (qq ?_)))))))))))
    refine kt_q 3 (.cons _ (.cons_cons _ nsl)) rfl (by kernel_rfl) (fV rfl (ln (qq (kt_q 4 (.cons _ (.cons_cons _ nsl)) rfl (by kernel_rfl) (ld rfl (at_box (T := 26) (cs := [v102, v38]) (off := 0) (fz := (0, 0))) (ln (qq (kt_q 5 (.cons _ (.cons_cons _ nsl)) rfl (by kernel_rfl) (lL rfl o100 (fun l106 => ?_))))))))))
    refine ln (qq (kt_q 6 (.cons _ (.cons_cons _ nsl)) rfl (by kernel_rfl) (sb9 rfl rfl (by omega) ?_)))
    refine ln (qq (ta 7 rfl (kl_call rfl rfl (domainRange_ok (0 : Int) ((ds.length : Int) - (2 : Int))) (fun v107 H108 f109 h110 => ?_))))
    obtain ⟨z111, rfl, h112⟩ := h110
    refine ln (qa (.cons _ (.cons_cons _ nsl)) (kt_q 8 (.cons _ (.cons_cons _ nsl)) rfl (by kernel_rfl) (kl_ixLn rfl rfl ‹_› (by omega) (fun p113 q114 => ?_))))
    refine ln (qq (ta 9 rfl (kl_stL z111 rfl rfl ‹_› o100 (by omega) rfl rfl rfl (fun H115 o116 f117 => ?_))))
    have f118 := f117 _ f101
    refine cg [bxS br [vbr, .int .i64 (q84 : Int)] 84, bxS b20 [v102, v38] 26, H115, H35, bxS b1 [.slice none 0 0, .slice none 0 0] 26] rfl ?_
    refine ln (qx rfl (kt_end (by kernel_rfl) ?_))
    refine qc (cr (mv rfl (ic9 rfl rfl (by omega) ?_)))
    refine sg rfl (ln (tk [bxS br [vbr, .int .i64 (q84 : Int)] 84, bxS b20 [v102, v38] 26, H115, H35, bxS b1 [.slice none 0 0, .slice none 0 0] 26] ?_))
    refine rL ((i + 1), (ds.set i z111), v102, H115) (by omega) (⟨by omega, ⟨by simp; omega, by simp; omega⟩, o116, f118⟩) (pc 5 rfl pn) (pk [2, 3] rfl) rfl slr9
   ·refine ex9 (qc (kc_tree (fun i => ([8, 10] : List Nat).contains i) [bxS b20 [v102, v38] 26] (by kernel_rfl) ?_))
    refine kt_q 0 (.cons _ (.cons_cons _ nsl)) rfl (by kernel_rfl) (fV rfl (ln (qq (kt_q 1 (.cons _ (.cons_cons _ nsl)) rfl (by kernel_rfl) (ld rfl (at_box (T := 26) (cs := [v102, v38]) (off := 1) (fz := (0, 0))) (ln (qq (kt_q 2 (.cons _ (.cons_cons _ nsl)) rfl (by kernel_rfl) (fV rfl (ln (qq ?_)))))))))))
    refine kt_q 3 (.cons _ (.cons_cons _ nsl)) rfl (by kernel_rfl) (ld rfl (at_box (T := 26) (cs := [v102, v38]) (off := 0) (fz := (0, 0))) (ln (qq (kt_q 4 (.cons _ (.cons_cons _ nsl)) rfl (by kernel_rfl) (lL rfl o100 (fun l119 => ?_))))))
    refine ln (qq (ta 5 rfl (kl_callL rfl rfl (allIndices_ok (ds.length : Int) (by first | assumption | omega)) (fun v120 H121 f122 h123 => ?_))))
    obtain ⟨z124, o126, h125⟩ := h123
    refine ln (qa (.cons _ (.cons _ (.cons_cons _ nsl))) (ta 6 rfl (kl_bd rfl (cp rfl (cp (OwnL.cells ‹_›) cp_nil)) rfl ?_)))
    refine ln (qa (.cons _ (.cons _ (.cons_cons _ nsl))) (ta 7 rfl (kl_bsK rfl (fun v127 H128 f129 r130 => ?_))))
    refine ln (qa (.cons _ (.cons _ (.cons_cons _ nsl))) (kt_frz H121 ?_))
    have h131 := OwnL.ints o126
    refine ta 8 rfl (cm9 K39 H121 (fun c132 => ?_))
    have o133 := OwnL.mono (K' := orHp K39 H121) o36 orL
    refine aL9 ⟨(3 : Int), z124, [], (0 : Int), []⟩ rfl rfl o133 r130 ⟨_, _, _, rfl, (Sl.mono ‹_› (fun b o h => orC c132 b o h) (fun _ _ h => h)), Sl.nil, Sl.nil⟩ (oc rfl (oc (Sl.oneCell ‹_›) (oc rfl (oc rfl (oc rfl oc_nil))))) (by omega) (by decide) (fun v134 H135 o136 f137 => ?_)
    have f138 := f137 B f37 (Nat.le_refl _)
    refine ln (qx rfl (kt_q 9 (.cons _ (.cons_cons _ nsl)) rfl (by kernel_rfl) (fV rfl (ln (qq (ta 10 rfl (sB rfl rfl rfl (OwnL.oneCell ‹_›) (OwnL.cells ‹_›) ?_)))))))
    refine cg [bxS br [vbr, .int .i64 (q84 : Int)] 84, bxS b20 [v102, v134] 26, H99, H135, bxS b1 [.slice none 0 0, .slice none 0 0] 26] rfl ?_
    refine ln (qx rfl (kt_end (by kernel_rfl) ?_))
    refine qc (cS (cr (kl_ldW rfl rfl (kl_stW (us := [v102, v134]) rfl rfl rfl rfl (oc (OwnL.oneCell ‹_›) (oc (OwnL.oneCell ‹_›) oc_nil)) rfl ?_))))
    refine cg [bxS br [vbr, .int .i64 (q84 : Int)] 84, bxS b20 [v102, v134] 26, H99, H135, bxS b1 [v102, v134] 26] rfl ?_
    refine ln (qc (rt ?_))
    exact rC rfl rfl rfl [bxS br [vbr, .int .i64 (q84 : Int)] 84] [H99, H135] (orHp K39 H121) (frc f101 (fr1 f138)) (fr_or f40 f122) ⟨q84, by omega, rfl, H99, H135, _, _, (⟨ds, (cs ++ [⟨(3 : Int), z124, [], (0 : Int), []⟩])⟩ : Mod), rfl, rfl, o100, o136, by (constructor <;> dsimp only <;> first | omega | assumption | exact all_mono ‹_› | (simp; done) | (simp only [List.length_append, List.length_cons, List.length_nil]; omega) | exact all_snoc (all_mono hi34.2.2.2) (by constructor <;> dsimp only <;> first | (simp; done) | omega | exact all_nil))⟩
  ·have c96r := c96
   try simp only [smpE] at c96
   refine sk (qc (cS (cr (kl_ldW rfl rfl (kl_stW (us := [v15, v38]) rfl rfl rfl rfl (oc (OwnL.oneCell ‹_›) (oc (OwnL.oneCell ‹_›) oc_nil)) rfl ?_)))))
   refine cg [bxS br [vbr, .int .i64 (q84 : Int)] 84, bxS b20 [v15, v38] 26, H12, H35, bxS b1 [v15, v38] 26] rfl ?_
   refine ln (qc (rt ?_))
   exact rC rfl rfl rfl [bxS br [vbr, .int .i64 (q84 : Int)] 84] [H12, H35] K39 (frc f18 (fr1 f37)) f40 ⟨q84, by omega, rfl, H12, H35, _, _, (⟨z10.doms, cs⟩ : Mod), rfl, rfl, o13, o36, by (constructor <;> dsimp only <;> first | omega | assumption | exact all_mono ‹_› | (simp; done) | (simp only [List.length_append, List.length_cons, List.length_nil]; omega) | exact all_snoc (all_mono hi34.2.2.2) (by constructor <;> dsimp only <;> first | (simp; done) | omega | exact all_nil))⟩
set_option maxHeartbeats 1000000 in
theorem tightModel_ok {br : Nat} {vbr : Value} {Hr : Hp} {bsr : List Int} (pr : Nat) (hp : pr + (700) ≤ 1000000) (hr : Bytes Hr vbr bsr) : SpecT Tryz.prog 66 [.pointer (some ⟨br, 0, none⟩)] [bxS br [vbr, .int .i64 (pr : Int)] 84] [Hr] (fun vq L1 Ln Kq => ∃ q : Nat, q ≤ pr + (700) ∧ L1 = [bxS br [vbr, .int .i64 (q : Int)] 84] ∧ ∃ (Hq Mq : Hp) (va vc : Value) (mq : Mod), vq = .agg #[va, vc] ∧ Ln = [Hq, Mq] ∧ OwnL 3 1 Hq noHp IntV va mq.doms ∧ OwnL 88 5 Mq Kq ConV vc mq.cons ∧ ModSm 100 mq) := by
 refine specT_of Tryz.func66 rfl rfl rfl (fun B => ?_)
 refine cS (cr (kl_alloc (cs := [.slice none 0 0, .slice none 0 0]) rfl (fun b1 hb2 => ?_)))
 refine ln (qc (cS (cr (kl_bd rfl cp_nil rfl ?_))))
 refine kl_alloc (cs := [.slice none 0 0, .slice none 0 0]) rfl (fun b3 hb4 => ?_)
 refine kl_stW (us := [.slice none 0 0, .slice none 0 0]) rfl rfl rfl rfl (oc rfl (oc rfl oc_nil)) rfl ?_
 refine cg [bxS b3 [.slice none 0 0, .slice none 0 0] 26, bxS b1 [.slice none 0 0, .slice none 0 0] 26, bxS br [vbr, .int .i64 (pr : Int)] 84] rfl ?_
 refine ln (qc (cS (cr (mv rfl (cT rfl rfl (pick_ok pr (2 : Int) (by omega) hr) (fun v5 L1 Ln K9 h6 f7 f8 => ?_))))))
 obtain ⟨q10, h11, rfl, rfl, z12, rfl, h13⟩ := h6
 refine nm ?_
 refine ad9 rfl rfl (by omega) ?_
 refine sg rfl (ln (qc (cS (cS (cr (sg rfl (ln (qc (bl (kc_no ?_))))))))))
 refine kc_loopL (A := Nat × List Int × Value × Hp × Nat) (fun zz => (zz.1 ≤ 4) ∧ (zz.2.1.length = zz.1) ∧ OwnL 3 1 zz.2.2.2.1 noHp IntV zz.2.2.1 zz.2.1 ∧ Fr B zz.2.2.2.1 ∧ zz.2.2.2.2 ≤ q10 + 1 * zz.1) (fun zz => 4 - zz.1) (fun zz => [zz.2.2.2.1, bxS br [vbr, .int .i64 (zz.2.2.2.2 : Int)] 84, bxS b3 [zz.2.2.1, .slice none 0 0] 26, bxS b1 [.slice none 0 0, .slice none 0 0] 26]) (fun zz => [(5, .int .i64 (zz.1 : Int))]) (0, [], .slice none 0 0, noHp, q10) (pk [0, 2, 3, 4] rfl) (pc 5 rfl pn) rfl ⟨Nat.zero_le _, rfl, OwnL.nil, (fr_no _), (by first | omega | (dsimp only; omega))⟩ ?_
 rintro ⟨i, ds, v21, H18, q23⟩ hJ25
 obtain ⟨hk16, hi17, o19, f20, hq24⟩ : (i ≤ 4) ∧ (ds.length = i) ∧ OwnL 3 1 H18 noHp IntV v21 ds ∧ Fr B H18 ∧ q23 ≤ q10 + 1 * i := hJ25
 change KC _ _ (_) [H18, bxS br [vbr, .int .i64 (q23 : Int)] 84, bxS b3 [v21, .slice none 0 0] 26, bxS b1 [.slice none 0 0, .slice none 0 0] 26] _ ([(5, .int .i64 (i : Int))] ++ _)
 refine cS (cS (cr (mv rfl (mv rfl (ls9 rfl rfl ?_)))))
 refine ln (qc (ci9 rfl (fun c26 => ?_) (fun c26 => ?_)))
 ·refine sk (qc (cS (bl (kc_tree (fun i => ([7, 9] : List Nat).contains i) [bxS b3 [v21, .slice none 0 0] 26] (by kernel_rfl) ?_))))
  refine kt_q 0 (.cons _ (.cons _ (.cons_cons _ nsl))) rfl (by kernel_rfl) (fV rfl (ln (qq (kt_q 1 (.cons _ (.cons _ (.cons_cons _ nsl))) rfl (by kernel_rfl) (ld rfl (at_box (T := 26) (cs := [v21, .slice none 0 0]) (off := 0) (fz := (0, 0))) (ln (qq (kt_q 2 (.cons _ (.cons _ (.cons_cons _ nsl))) rfl (by kernel_rfl) (mv rfl ?_)))))))))
  refine ln (qq (ta 3 rfl (cT rfl rfl (pick_ok q23 (3 : Int) (by omega) hr) (fun v27 L1 Ln K31 h28 f29 f30 => ?_))))
  obtain ⟨q32, h33, rfl, rfl, z34, rfl, h35⟩ := h28
  refine nm ?_
  refine ln (qa (.cons _ (.cons _ (.cons_cons _ nsl))) (kt_q 4 (.cons _ (.cons _ (.cons_cons _ nsl))) rfl (by kernel_rfl) (ad9 rfl rfl (by omega) ?_)))
  refine ln (qq (ta 5 rfl (kl_call rfl rfl (domainRange_ok (0 : Int) ((2 : Int) + z34)) (fun v38 H39 f40 h41 => ?_))))
  obtain ⟨z42, rfl, h43⟩ := h41
  refine ln (qa (.cons _ (.cons _ (.cons_cons _ nsl))) (ta 6 rfl (bs9 rfl rfl rfl (by decide) (ca rfl ca_nil) (fun v44 H45 f46 r47 s48 => ?_))))
  have h49 : Ints H45 v44 [z42] := litInts (xs := [z42]) (by simpa using s48)
  refine ln (qa (.cons _ (.cons _ (.cons_cons _ nsl))) (ta 7 rfl (aL9 z42 rfl rfl o19 ‹_› rfl (oc rfl oc_nil) (by omega) (by decide) (fun v50 H51 o52 f53 => ?_))))
  have f54 := f53 B f20 (Nat.le_refl _)
  refine ln (qx rfl (kt_q 8 (.cons _ (.cons _ (.cons_cons _ nsl))) rfl (by kernel_rfl) (fV rfl (ln (qq (ta 9 rfl (sB rfl rfl rfl (OwnL.oneCell ‹_›) (OwnL.cells ‹_›) ?_)))))))
  refine cg [bxS br [vbr, .int .i64 (q32 : Int)] 84, H51, bxS b3 [v50, .slice none 0 0] 26, bxS b1 [.slice none 0 0, .slice none 0 0] 26] rfl ?_
  refine ln (qx rfl (kt_end (by kernel_rfl) ?_))
  refine qc (cr (mv rfl (ic9 rfl rfl (by omega) ?_)))
  refine sg rfl (ln (tk [H51, bxS br [vbr, .int .i64 (q32 : Int)] 84, bxS b3 [v50, .slice none 0 0] 26, bxS b1 [.slice none 0 0, .slice none 0 0] 26] ?_))
  refine rL ((i + 1), (ds ++ [z42]), v50, H51, q32) (by omega) (⟨by omega, (by simp; omega), o52, f54, (by first | omega | (dsimp only; omega))⟩) (pc 5 rfl pn) (pk [0, 2, 3, 4] rfl) rfl slr9
 ·refine ex9 (qc (cS (cS (cr (mv rfl (cT rfl rfl (pick_ok q23 (4 : Int) (by omega) hr) (fun v55 L1 Ln K59 h56 f57 f58 => ?_)))))))
  obtain ⟨q60, h61, rfl, rfl, z62, rfl, h63⟩ := h56
  refine nm ?_
  refine ad9 rfl rfl (by omega) ?_
  refine sg rfl (ln (qc (bl (kc_no ?_))))
  refine kc_loopK (A := Int × List Con × Value × Hp × Hp × Nat) (fun zz => (0 ≤ zz.1 ∧ zz.1 ≤ 5 ∧ zz.2.1.length + zz.1.toNat ≤ 5 ∧ ∀ c ∈ zz.2.1, ConSm 50 c) ∧ Fr B zz.2.2.2.2.1 ∧ OwnL 88 5 zz.2.2.2.1 zz.2.2.2.2.1 ConV zz.2.2.1 zz.2.1 ∧ Fr B zz.2.2.2.1 ∧ zz.2.2.2.2.2 ≤ q60 + 104 * (5 - zz.1).toNat) (fun zz => zz.1.toNat) (fun zz => zz.2.2.2.2.1) (fun zz => [zz.2.2.2.1, bxS br [vbr, .int .i64 (zz.2.2.2.2.2 : Int)] 84, H18, bxS b3 [v21, zz.2.2.1] 26, bxS b1 [.slice none 0 0, .slice none 0 0] 26]) (fun zz => [(6, .int .i64 zz.1)]) (((2 : Int) + z62), [], .slice none 0 0, noHp, noHp, q60) (pk [0, 2, 3, 4] rfl) (pc 6 rfl pn) rfl ⟨⟨by dsimp only; omega, by dsimp only; omega, by dsimp only; simp; omega, all_nil⟩, (fr_no _), OwnL.nil, (fr_no _), (by first | omega | (dsimp only; omega))⟩ ?_
  rintro ⟨k, cs, v71, H68, K72, q75⟩ hJ77
  obtain ⟨hi67, f73, o69, f70, hq76⟩ : (0 ≤ k ∧ k ≤ 5 ∧ cs.length + k.toNat ≤ 5 ∧ ∀ c ∈ cs, ConSm 50 c) ∧ Fr B K72 ∧ OwnL 88 5 H68 K72 ConV v71 cs ∧ Fr B H68 ∧ q75 ≤ q60 + 104 * (5 - k).toNat := hJ77
  change KC _ _ (K72 :: _) [H68, bxS br [vbr, .int .i64 (q75 : Int)] 84, H18, bxS b3 [v21, v71] 26, bxS b1 [.slice none 0 0, .slice none 0 0] 26] _ ([(6, .int .i64 k)] ++ _)
  have hall := hi67.2.2.2
  refine cS (cS (cr (mv rfl (kl_gtr rfl rfl ?_))))
  refine ln (qc (ci9 rfl (fun c78 => ?_) (fun c78 => ?_)))
  ·refine sk (qc (cS (bl (cS (cr (mv rfl (mv rfl (cT rfl rfl (pick_ok q75 ((3 : Int) + z12) (by omega) hr) (fun v79 L1 Ln K83 h80 f81 f82 => ?_)))))))))
   obtain ⟨q84, h85, rfl, rfl, z86, rfl, h87⟩ := h80
   refine nm ?_
   refine sg rfl (ln (qc (cS (kc_treeJ (A := Nat × Nat × Hp × Value × (List Int) × Hp × Value × (List Int)) (fun i => ([15, 17] : List Nat).contains i) [] (by kernel_rfl) (fun zz => B.heap.size ≤ zz.1 ∧ zz.2.1 ≤ q84 + 2 ∧ Ints zz.2.2.1 zz.2.2.2.1 zz.2.2.2.2.1 ∧ Fr B zz.2.2.1 ∧ zz.2.2.2.2.1.length = 2 ∧ Ints zz.2.2.2.2.2.1 zz.2.2.2.2.2.2.1 zz.2.2.2.2.2.2.2 ∧ Fr B zz.2.2.2.2.2.1 ∧ zz.2.2.2.2.2.2.2.length = 1) (fun zz => [zz.2.2.1, zz.2.2.2.2.2.1]) (fun zz => [sing zz.1 (.cells [.int .i64 (2 : Int), zz.2.2.2.1, zz.2.2.2.2.2.2.1, .int .i64 (0 : Int), .slice none 0 0].toArray 88 (0, 0)), bxS br [vbr, .int .i64 (zz.2.1 : Int)] 84, H68, H18, bxS b3 [v21, v71] 26, bxS b1 [.slice none 0 0, .slice none 0 0] 26]) (fun zz => [(0, .pointer (some ⟨br, 0, none⟩)), (2, .pointer (some ⟨b1, 0, none⟩)), (3, .pointer (some ⟨b3, 0, none⟩)), (4, .int .i64 ((3 : Int) + z12)), (6, .int .i64 k), (8, .pointer (some ⟨zz.1, 0, none⟩))]) ?_ ?_))))
   ·refine tq 0 nsl rfl (mv rfl (ln (qq (tq 1 nsl rfl (mv rfl (ln (qq (tq 2 nsl rfl (ad9 rfl rfl (by omega) ?_)))))))))
    refine ln (qq (tq 3 nsl rfl (mv rfl (ln (qq (tq 4 nsl rfl (mv rfl (ln (qq (tq 5 nsl rfl (sb9 rfl rfl (by omega) ?_)))))))))))
    refine ln (qq (tq 8 nsl rfl (mv rfl (ln (qq (tq 11 nsl rfl (mv rfl (ln (qq (kt_b 6 16 rfl rfl (by kernel_rfl) ?_ ?_))))))))))
    ·refine cT rfl rfl (pick_ok q84 (((3 : Int) + z12) - (1 : Int)) (by omega) hr) (fun v143 L1 Ln K147 h144 f145 f146 => ?_)
     obtain ⟨q148, h149, rfl, rfl, z150, rfl, h151⟩ := h144
     refine nm ?_
     refine ln (qa nsl (tq 7 nsl rfl (ad9 rfl rfl (by omega) ?_)))
     refine ln (qq (tq 9 nsl rfl ?_))
     have h154 := tmod_in (m := ((z86 + (1 : Int)) + z150)) (k := ((3 : Int) + z12)) (by omega) (by omega)
     refine kl_rem rfl rfl (by omega) ?_
     refine ln (qq (kt_c 10 12 16 rfl rfl rfl (by kernel_rfl) ?_ ?_ ?_))
     ·refine bs9 rfl rfl rfl (by decide) (ca rfl (ca rfl ca_nil)) (fun v155 H156 f157 r158 s159 => ?_)
      have h160 : Ints H156 v155 [z86, (Int.tmod ((z86 + (1 : Int)) + z150) ((3 : Int) + z12))] := litInts (xs := [z86, (Int.tmod ((z86 + (1 : Int)) + z150) ((3 : Int) + z12))]) (by simpa using s159)
      refine ln (qa nsl (kt_b 12 16 rfl rfl (by kernel_rfl) ?_ ?_))
      ·refine cT rfl rfl (pick_ok q148 (3 : Int) (by omega) hr) (fun v161 L1 Ln K165 h162 f163 f164 => ?_)
       obtain ⟨q166, h167, rfl, rfl, z168, rfl, h169⟩ := h162
       refine nm ?_
       refine ln (qa nsl (tq 13 nsl rfl (sb9 rfl rfl (by omega) ?_)))
       refine ln (qq (kt_b 14 16 rfl rfl (by kernel_rfl) ?_ ?_))
       ·refine bs9 rfl rfl rfl (by decide) (ca rfl ca_nil) (fun v172 H173 f174 r175 s176 => ?_)
        have h177 : Ints H173 v172 [(z168 - (1 : Int))] := litInts (xs := [(z168 - (1 : Int))]) (by simpa using s176)
        refine ln (qa nsl (kt_b 15 16 rfl rfl (by kernel_rfl) ?_ ?_))
        ·refine kl_bd rfl (cp rfl (cp (Sl.cells ‹_›) (cp (Sl.cells ‹_›) cp_nil))) rfl ?_
         refine ln (qx rfl (ta 16 rfl (kl_alloc (cs := [.int .i64 (0 : Int), .slice none 0 0, .slice none 0 0, .int .i64 (0 : Int), .slice none 0 0]) rfl (fun b178 hb179 => ?_))))
         refine ln (qa nsl (ta 17 rfl (kl_stW (us := [.int .i64 (2 : Int), v155, v172, .int .i64 (0 : Int), .slice none 0 0]) rfl rfl rfl rfl (oc rfl (oc (Sl.oneCell ‹_›) (oc (Sl.oneCell ‹_›) (oc rfl (oc rfl oc_nil))))) rfl ?_)))
         refine cg [bxS b178 [.int .i64 (2 : Int), v155, v172, .int .i64 (0 : Int), .slice none 0 0] 88, bxS br [vbr, .int .i64 (q166 : Int)] 84, H68, H18, bxS b3 [v21, v71] 26, bxS b1 [.slice none 0 0, .slice none 0 0] 26] rfl ?_
         refine ln (qx rfl (kt_end (by kernel_rfl) ?_))
         exact kq_rj (b178, q166, H156, v155, ([z86, (Int.tmod ((z86 + (1 : Int)) + z150) ((3 : Int) + z12))]), H173, v172, ([(z168 - (1 : Int))])) [H156, H173] [bxS b178 [.int .i64 (2 : Int), v155, v172, .int .i64 (0 : Int), .slice none 0 0] 88, bxS br [vbr, .int .i64 (q166 : Int)] 84, H68, H18, bxS b3 [v21, v71] 26, bxS b1 [.slice none 0 0, .slice none 0 0] 26] rfl rfl ⟨hb179, (by dsimp only; omega), ‹_›, f157, (by dsimp only; first | omega | (simp; done) | (simp; omega)), ‹_›, f174, (by dsimp only; first | omega | (simp; done) | (simp; omega))⟩ (pk [0, 2, 3, 4, 6, 8] rfl)
        ·refine kl_alloc (cs := [.int .i64 (0 : Int), .slice none 0 0, .slice none 0 0, .int .i64 (0 : Int), .slice none 0 0]) rfl (fun b180 hb181 => ?_)
         refine ln (qa nsl (ta 15 rfl (kl_bd rfl (cp rfl (cp (Sl.cells ‹_›) (cp (Sl.cells ‹_›) cp_nil))) rfl ?_)))
         refine ln (qx rfl (ta 17 rfl (kl_stW (us := [.int .i64 (2 : Int), v155, v172, .int .i64 (0 : Int), .slice none 0 0]) rfl rfl rfl rfl (oc rfl (oc (Sl.oneCell ‹_›) (oc (Sl.oneCell ‹_›) (oc rfl (oc rfl oc_nil))))) rfl ?_)))
         refine cg [bxS b180 [.int .i64 (2 : Int), v155, v172, .int .i64 (0 : Int), .slice none 0 0] 88, bxS br [vbr, .int .i64 (q166 : Int)] 84, H68, H18, bxS b3 [v21, v71] 26, bxS b1 [.slice none 0 0, .slice none 0 0] 26] rfl ?_
         refine ln (qx rfl (kt_end (by kernel_rfl) ?_))
         exact kq_rj (b180, q166, H156, v155, ([z86, (Int.tmod ((z86 + (1 : Int)) + z150) ((3 : Int) + z12))]), H173, v172, ([(z168 - (1 : Int))])) [H156, H173] [bxS b180 [.int .i64 (2 : Int), v155, v172, .int .i64 (0 : Int), .slice none 0 0] 88, bxS br [vbr, .int .i64 (q166 : Int)] 84, H68, H18, bxS b3 [v21, v71] 26, bxS b1 [.slice none 0 0, .slice none 0 0] 26] rfl rfl ⟨hb181, (by dsimp only; omega), ‹_›, f157, (by dsimp only; first | omega | (simp; done) | (simp; omega)), ‹_›, f174, (by dsimp only; first | omega | (simp; done) | (simp; omega))⟩ (pk [0, 2, 3, 4, 6, 8] rfl)
       ·refine kl_alloc (cs := [.int .i64 (0 : Int), .slice none 0 0, .slice none 0 0, .int .i64 (0 : Int), .slice none 0 0]) rfl (fun b182 hb183 => ?_)
        refine ln (qa nsl (ta 14 rfl (bs9 rfl rfl rfl (by decide) (ca rfl ca_nil) (fun v184 H185 f186 r187 s188 => ?_))))
        have h189 : Ints H185 v184 [(z168 - (1 : Int))] := litInts (xs := [(z168 - (1 : Int))]) (by simpa using s188)
        refine ln (qa nsl (ta 15 rfl (kl_bd rfl (cp rfl (cp (Sl.cells ‹_›) (cp (Sl.cells ‹_›) cp_nil))) rfl ?_)))
        refine ln (qx rfl (ta 17 rfl (kl_stW (us := [.int .i64 (2 : Int), v155, v184, .int .i64 (0 : Int), .slice none 0 0]) rfl rfl rfl rfl (oc rfl (oc (Sl.oneCell ‹_›) (oc (Sl.oneCell ‹_›) (oc rfl (oc rfl oc_nil))))) rfl ?_)))
        refine cg [bxS b182 [.int .i64 (2 : Int), v155, v184, .int .i64 (0 : Int), .slice none 0 0] 88, bxS br [vbr, .int .i64 (q166 : Int)] 84, H68, H18, bxS b3 [v21, v71] 26, bxS b1 [.slice none 0 0, .slice none 0 0] 26] rfl ?_
        refine ln (qx rfl (kt_end (by kernel_rfl) ?_))
        exact kq_rj (b182, q166, H156, v155, ([z86, (Int.tmod ((z86 + (1 : Int)) + z150) ((3 : Int) + z12))]), H185, v184, ([(z168 - (1 : Int))])) [H156, H185] [bxS b182 [.int .i64 (2 : Int), v155, v184, .int .i64 (0 : Int), .slice none 0 0] 88, bxS br [vbr, .int .i64 (q166 : Int)] 84, H68, H18, bxS b3 [v21, v71] 26, bxS b1 [.slice none 0 0, .slice none 0 0] 26] rfl rfl ⟨hb183, (by dsimp only; omega), ‹_›, f157, (by dsimp only; first | omega | (simp; done) | (simp; omega)), ‹_›, f186, (by dsimp only; first | omega | (simp; done) | (simp; omega))⟩ (pk [0, 2, 3, 4, 6, 8] rfl)
      ·refine kl_alloc (cs := [.int .i64 (0 : Int), .slice none 0 0, .slice none 0 0, .int .i64 (0 : Int), .slice none 0 0]) rfl (fun b190 hb191 => ?_)
       refine ln (qa nsl (ta 12 rfl (cT rfl rfl (pick_ok q148 (3 : Int) (by omega) hr) (fun v192 L1 Ln K196 h193 f194 f195 => ?_))))
       obtain ⟨q197, h198, rfl, rfl, z199, rfl, h200⟩ := h193
       refine nm ?_
       refine ln (qa nsl (tq 13 nsl rfl (sb9 rfl rfl (by omega) ?_)))
       refine ln (qq (ta 14 rfl (bs9 rfl rfl rfl (by decide) (ca rfl ca_nil) (fun v203 H204 f205 r206 s207 => ?_))))
       have h208 : Ints H204 v203 [(z199 - (1 : Int))] := litInts (xs := [(z199 - (1 : Int))]) (by simpa using s207)
       refine ln (qa nsl (ta 15 rfl (kl_bd rfl (cp rfl (cp (Sl.cells ‹_›) (cp (Sl.cells ‹_›) cp_nil))) rfl ?_)))
       refine ln (qx rfl (ta 17 rfl (kl_stW (us := [.int .i64 (2 : Int), v155, v203, .int .i64 (0 : Int), .slice none 0 0]) rfl rfl rfl rfl (oc rfl (oc (Sl.oneCell ‹_›) (oc (Sl.oneCell ‹_›) (oc rfl (oc rfl oc_nil))))) rfl ?_)))
       refine cg [bxS br [vbr, .int .i64 (q197 : Int)] 84, bxS b190 [.int .i64 (2 : Int), v155, v203, .int .i64 (0 : Int), .slice none 0 0] 88, H68, H18, bxS b3 [v21, v71] 26, bxS b1 [.slice none 0 0, .slice none 0 0] 26] rfl ?_
       refine ln (qx rfl (kt_end (by kernel_rfl) ?_))
       exact kq_rj (b190, q197, H156, v155, ([z86, (Int.tmod ((z86 + (1 : Int)) + z150) ((3 : Int) + z12))]), H204, v203, ([(z199 - (1 : Int))])) [H156, H204] [bxS b190 [.int .i64 (2 : Int), v155, v203, .int .i64 (0 : Int), .slice none 0 0] 88, bxS br [vbr, .int .i64 (q197 : Int)] 84, H68, H18, bxS b3 [v21, v71] 26, bxS b1 [.slice none 0 0, .slice none 0 0] 26] rfl rfl ⟨hb191, (by dsimp only; omega), ‹_›, f157, (by dsimp only; first | omega | (simp; done) | (simp; omega)), ‹_›, f205, (by dsimp only; first | omega | (simp; done) | (simp; omega))⟩ (pk [0, 2, 3, 4, 6, 8] rfl)
     ·refine cT rfl rfl (pick_ok q148 (3 : Int) (by omega) hr) (fun v209 L1 Ln K213 h210 f211 f212 => ?_)
      obtain ⟨q214, h215, rfl, rfl, z216, rfl, h217⟩ := h210
      refine nm ?_
      refine ln (qa nsl (tq 13 nsl rfl (sb9 rfl rfl (by omega) ?_)))
      refine ln (qq (kt_c 10 14 16 rfl rfl rfl (by kernel_rfl) ?_ ?_ ?_))
      ·refine bs9 rfl rfl rfl (by decide) (ca rfl (ca rfl ca_nil)) (fun v220 H221 f222 r223 s224 => ?_)
       have h225 : Ints H221 v220 [z86, (Int.tmod ((z86 + (1 : Int)) + z150) ((3 : Int) + z12))] := litInts (xs := [z86, (Int.tmod ((z86 + (1 : Int)) + z150) ((3 : Int) + z12))]) (by simpa using s224)
       refine ln (qa nsl (kt_b 14 16 rfl rfl (by kernel_rfl) ?_ ?_))
       ·refine bs9 rfl rfl rfl (by decide) (ca rfl ca_nil) (fun v226 H227 f228 r229 s230 => ?_)
        have h231 : Ints H227 v226 [(z216 - (1 : Int))] := litInts (xs := [(z216 - (1 : Int))]) (by simpa using s230)
        refine ln (qa nsl (kt_b 15 16 rfl rfl (by kernel_rfl) ?_ ?_))
        ·refine kl_bd rfl (cp rfl (cp (Sl.cells ‹_›) (cp (Sl.cells ‹_›) cp_nil))) rfl ?_
         refine ln (qx rfl (ta 16 rfl (kl_alloc (cs := [.int .i64 (0 : Int), .slice none 0 0, .slice none 0 0, .int .i64 (0 : Int), .slice none 0 0]) rfl (fun b232 hb233 => ?_))))
         refine ln (qa nsl (ta 17 rfl (kl_stW (us := [.int .i64 (2 : Int), v220, v226, .int .i64 (0 : Int), .slice none 0 0]) rfl rfl rfl rfl (oc rfl (oc (Sl.oneCell ‹_›) (oc (Sl.oneCell ‹_›) (oc rfl (oc rfl oc_nil))))) rfl ?_)))
         refine cg [bxS b232 [.int .i64 (2 : Int), v220, v226, .int .i64 (0 : Int), .slice none 0 0] 88, bxS br [vbr, .int .i64 (q214 : Int)] 84, H68, H18, bxS b3 [v21, v71] 26, bxS b1 [.slice none 0 0, .slice none 0 0] 26] rfl ?_
         refine ln (qx rfl (kt_end (by kernel_rfl) ?_))
         exact kq_rj (b232, q214, H221, v220, ([z86, (Int.tmod ((z86 + (1 : Int)) + z150) ((3 : Int) + z12))]), H227, v226, ([(z216 - (1 : Int))])) [H221, H227] [bxS b232 [.int .i64 (2 : Int), v220, v226, .int .i64 (0 : Int), .slice none 0 0] 88, bxS br [vbr, .int .i64 (q214 : Int)] 84, H68, H18, bxS b3 [v21, v71] 26, bxS b1 [.slice none 0 0, .slice none 0 0] 26] rfl rfl ⟨hb233, (by dsimp only; omega), ‹_›, f222, (by dsimp only; first | omega | (simp; done) | (simp; omega)), ‹_›, f228, (by dsimp only; first | omega | (simp; done) | (simp; omega))⟩ (pk [0, 2, 3, 4, 6, 8] rfl)
        ·refine kl_alloc (cs := [.int .i64 (0 : Int), .slice none 0 0, .slice none 0 0, .int .i64 (0 : Int), .slice none 0 0]) rfl (fun b234 hb235 => ?_)
         refine ln (qa nsl (ta 15 rfl (kl_bd rfl (cp rfl (cp (Sl.cells ‹_›) (cp (Sl.cells ‹_›) cp_nil))) rfl ?_)))
         refine ln (qx rfl (ta 17 rfl (kl_stW (us := [.int .i64 (2 : Int), v220, v226, .int .i64 (0 : Int), .slice none 0 0]) rfl rfl rfl rfl (oc rfl (oc (Sl.oneCell ‹_›) (oc (Sl.oneCell ‹_›) (oc rfl (oc rfl oc_nil))))) rfl ?_)))
         refine cg [bxS b234 [.int .i64 (2 : Int), v220, v226, .int .i64 (0 : Int), .slice none 0 0] 88, bxS br [vbr, .int .i64 (q214 : Int)] 84, H68, H18, bxS b3 [v21, v71] 26, bxS b1 [.slice none 0 0, .slice none 0 0] 26] rfl ?_
         refine ln (qx rfl (kt_end (by kernel_rfl) ?_))
         exact kq_rj (b234, q214, H221, v220, ([z86, (Int.tmod ((z86 + (1 : Int)) + z150) ((3 : Int) + z12))]), H227, v226, ([(z216 - (1 : Int))])) [H221, H227] [bxS b234 [.int .i64 (2 : Int), v220, v226, .int .i64 (0 : Int), .slice none 0 0] 88, bxS br [vbr, .int .i64 (q214 : Int)] 84, H68, H18, bxS b3 [v21, v71] 26, bxS b1 [.slice none 0 0, .slice none 0 0] 26] rfl rfl ⟨hb235, (by dsimp only; omega), ‹_›, f222, (by dsimp only; first | omega | (simp; done) | (simp; omega)), ‹_›, f228, (by dsimp only; first | omega | (simp; done) | (simp; omega))⟩ (pk [0, 2, 3, 4, 6, 8] rfl)
       ·refine kl_alloc (cs := [.int .i64 (0 : Int), .slice none 0 0, .slice none 0 0, .int .i64 (0 : Int), .slice none 0 0]) rfl (fun b236 hb237 => ?_)
        refine ln (qa nsl (ta 14 rfl (bs9 rfl rfl rfl (by decide) (ca rfl ca_nil) (fun v238 H239 f240 r241 s242 => ?_))))
        have h243 : Ints H239 v238 [(z216 - (1 : Int))] := litInts (xs := [(z216 - (1 : Int))]) (by simpa using s242)
        refine ln (qa nsl (ta 15 rfl (kl_bd rfl (cp rfl (cp (Sl.cells ‹_›) (cp (Sl.cells ‹_›) cp_nil))) rfl ?_)))
        refine ln (qx rfl (ta 17 rfl (kl_stW (us := [.int .i64 (2 : Int), v220, v238, .int .i64 (0 : Int), .slice none 0 0]) rfl rfl rfl rfl (oc rfl (oc (Sl.oneCell ‹_›) (oc (Sl.oneCell ‹_›) (oc rfl (oc rfl oc_nil))))) rfl ?_)))
        refine cg [bxS b236 [.int .i64 (2 : Int), v220, v238, .int .i64 (0 : Int), .slice none 0 0] 88, bxS br [vbr, .int .i64 (q214 : Int)] 84, H68, H18, bxS b3 [v21, v71] 26, bxS b1 [.slice none 0 0, .slice none 0 0] 26] rfl ?_
        refine ln (qx rfl (kt_end (by kernel_rfl) ?_))
        exact kq_rj (b236, q214, H221, v220, ([z86, (Int.tmod ((z86 + (1 : Int)) + z150) ((3 : Int) + z12))]), H239, v238, ([(z216 - (1 : Int))])) [H221, H239] [bxS b236 [.int .i64 (2 : Int), v220, v238, .int .i64 (0 : Int), .slice none 0 0] 88, bxS br [vbr, .int .i64 (q214 : Int)] 84, H68, H18, bxS b3 [v21, v71] 26, bxS b1 [.slice none 0 0, .slice none 0 0] 26] rfl rfl ⟨hb237, (by dsimp only; omega), ‹_›, f222, (by dsimp only; first | omega | (simp; done) | (simp; omega)), ‹_›, f240, (by dsimp only; first | omega | (simp; done) | (simp; omega))⟩ (pk [0, 2, 3, 4, 6, 8] rfl)
      ·refine bs9 rfl rfl rfl (by decide) (ca rfl ca_nil) (fun v244 H245 f246 r247 s248 => ?_)
       have h249 : Ints H245 v244 [(z216 - (1 : Int))] := litInts (xs := [(z216 - (1 : Int))]) (by simpa using s248)
       refine ln (qa nsl (kt_b 10 16 rfl rfl (by kernel_rfl) ?_ ?_))
       ·refine bs9 rfl rfl rfl (by decide) (ca rfl (ca rfl ca_nil)) (fun v250 H251 f252 r253 s254 => ?_)
        have h255 : Ints H251 v250 [z86, (Int.tmod ((z86 + (1 : Int)) + z150) ((3 : Int) + z12))] := litInts (xs := [z86, (Int.tmod ((z86 + (1 : Int)) + z150) ((3 : Int) + z12))]) (by simpa using s254)
        refine ln (qa nsl (kt_b 15 16 rfl rfl (by kernel_rfl) ?_ ?_))
        ·refine kl_bd rfl (cp rfl (cp (Sl.cells ‹_›) (cp (Sl.cells ‹_›) cp_nil))) rfl ?_
         refine ln (qx rfl (ta 16 rfl (kl_alloc (cs := [.int .i64 (0 : Int), .slice none 0 0, .slice none 0 0, .int .i64 (0 : Int), .slice none 0 0]) rfl (fun b256 hb257 => ?_))))
         refine ln (qa nsl (ta 17 rfl (kl_stW (us := [.int .i64 (2 : Int), v250, v244, .int .i64 (0 : Int), .slice none 0 0]) rfl rfl rfl rfl (oc rfl (oc (Sl.oneCell ‹_›) (oc (Sl.oneCell ‹_›) (oc rfl (oc rfl oc_nil))))) rfl ?_)))
         refine cg [bxS b256 [.int .i64 (2 : Int), v250, v244, .int .i64 (0 : Int), .slice none 0 0] 88, bxS br [vbr, .int .i64 (q214 : Int)] 84, H68, H18, bxS b3 [v21, v71] 26, bxS b1 [.slice none 0 0, .slice none 0 0] 26] rfl ?_
         refine ln (qx rfl (kt_end (by kernel_rfl) ?_))
         exact kq_rj (b256, q214, H251, v250, ([z86, (Int.tmod ((z86 + (1 : Int)) + z150) ((3 : Int) + z12))]), H245, v244, ([(z216 - (1 : Int))])) [H251, H245] [bxS b256 [.int .i64 (2 : Int), v250, v244, .int .i64 (0 : Int), .slice none 0 0] 88, bxS br [vbr, .int .i64 (q214 : Int)] 84, H68, H18, bxS b3 [v21, v71] 26, bxS b1 [.slice none 0 0, .slice none 0 0] 26] rfl rfl ⟨hb257, (by dsimp only; omega), ‹_›, f252, (by dsimp only; first | omega | (simp; done) | (simp; omega)), ‹_›, f246, (by dsimp only; first | omega | (simp; done) | (simp; omega))⟩ (pk [0, 2, 3, 4, 6, 8] rfl)
        ·refine kl_alloc (cs := [.int .i64 (0 : Int), .slice none 0 0, .slice none 0 0, .int .i64 (0 : Int), .slice none 0 0]) rfl (fun b258 hb259 => ?_)
         refine ln (qa nsl (ta 15 rfl (kl_bd rfl (cp rfl (cp (Sl.cells ‹_›) (cp (Sl.cells ‹_›) cp_nil))) rfl ?_)))
         refine ln (qx rfl (ta 17 rfl (kl_stW (us := [.int .i64 (2 : Int), v250, v244, .int .i64 (0 : Int), .slice none 0 0]) rfl rfl rfl rfl (oc rfl (oc (Sl.oneCell ‹_›) (oc (Sl.oneCell ‹_›) (oc rfl (oc rfl oc_nil))))) rfl ?_)))
         refine cg [bxS b258 [.int .i64 (2 : Int), v250, v244, .int .i64 (0 : Int), .slice none 0 0] 88, bxS br [vbr, .int .i64 (q214 : Int)] 84, H68, H18, bxS b3 [v21, v71] 26, bxS b1 [.slice none 0 0, .slice none 0 0] 26] rfl ?_
         refine ln (qx rfl (kt_end (by kernel_rfl) ?_))
         exact kq_rj (b258, q214, H251, v250, ([z86, (Int.tmod ((z86 + (1 : Int)) + z150) ((3 : Int) + z12))]), H245, v244, ([(z216 - (1 : Int))])) [H251, H245] [bxS b258 [.int .i64 (2 : Int), v250, v244, .int .i64 (0 : Int), .slice none 0 0] 88, bxS br [vbr, .int .i64 (q214 : Int)] 84, H68, H18, bxS b3 [v21, v71] 26, bxS b1 [.slice none 0 0, .slice none 0 0] 26] rfl rfl ⟨hb259, (by dsimp only; omega), ‹_›, f252, (by dsimp only; first | omega | (simp; done) | (simp; omega)), ‹_›, f246, (by dsimp only; first | omega | (simp; done) | (simp; omega))⟩ (pk [0, 2, 3, 4, 6, 8] rfl)
       ·refine kl_alloc (cs := [.int .i64 (0 : Int), .slice none 0 0, .slice none 0 0, .int .i64 (0 : Int), .slice none 0 0]) rfl (fun b260 hb261 => ?_)
        refine ln (qa nsl (ta 10 rfl (bs9 rfl rfl rfl (by decide) (ca rfl (ca rfl ca_nil)) (fun v262 H263 f264 r265 s266 => ?_))))
        have h267 : Ints H263 v262 [z86, (Int.tmod ((z86 + (1 : Int)) + z150) ((3 : Int) + z12))] := litInts (xs := [z86, (Int.tmod ((z86 + (1 : Int)) + z150) ((3 : Int) + z12))]) (by simpa using s266)
        refine ln (qa nsl (ta 15 rfl (kl_bd rfl (cp rfl (cp (Sl.cells ‹_›) (cp (Sl.cells ‹_›) cp_nil))) rfl ?_)))
        refine ln (qx rfl (ta 17 rfl (kl_stW (us := [.int .i64 (2 : Int), v262, v244, .int .i64 (0 : Int), .slice none 0 0]) rfl rfl rfl rfl (oc rfl (oc (Sl.oneCell ‹_›) (oc (Sl.oneCell ‹_›) (oc rfl (oc rfl oc_nil))))) rfl ?_)))
        refine cg [bxS b260 [.int .i64 (2 : Int), v262, v244, .int .i64 (0 : Int), .slice none 0 0] 88, bxS br [vbr, .int .i64 (q214 : Int)] 84, H68, H18, bxS b3 [v21, v71] 26, bxS b1 [.slice none 0 0, .slice none 0 0] 26] rfl ?_
        refine ln (qx rfl (kt_end (by kernel_rfl) ?_))
        exact kq_rj (b260, q214, H263, v262, ([z86, (Int.tmod ((z86 + (1 : Int)) + z150) ((3 : Int) + z12))]), H245, v244, ([(z216 - (1 : Int))])) [H263, H245] [bxS b260 [.int .i64 (2 : Int), v262, v244, .int .i64 (0 : Int), .slice none 0 0] 88, bxS br [vbr, .int .i64 (q214 : Int)] 84, H68, H18, bxS b3 [v21, v71] 26, bxS b1 [.slice none 0 0, .slice none 0 0] 26] rfl rfl ⟨hb261, (by dsimp only; omega), ‹_›, f264, (by dsimp only; first | omega | (simp; done) | (simp; omega)), ‹_›, f246, (by dsimp only; first | omega | (simp; done) | (simp; omega))⟩ (pk [0, 2, 3, 4, 6, 8] rfl)
      ·refine kl_alloc (cs := [.int .i64 (0 : Int), .slice none 0 0, .slice none 0 0, .int .i64 (0 : Int), .slice none 0 0]) rfl (fun b268 hb269 => ?_)
       refine ln (qa nsl (kt_b 10 14 rfl rfl (by kernel_rfl) ?_ ?_))
       ·refine bs9 rfl rfl rfl (by decide) (ca rfl (ca rfl ca_nil)) (fun v270 H271 f272 r273 s274 => ?_)
        have h275 : Ints H271 v270 [z86, (Int.tmod ((z86 + (1 : Int)) + z150) ((3 : Int) + z12))] := litInts (xs := [z86, (Int.tmod ((z86 + (1 : Int)) + z150) ((3 : Int) + z12))]) (by simpa using s274)
        refine ln (qa nsl (ta 14 rfl (bs9 rfl rfl rfl (by decide) (ca rfl ca_nil) (fun v276 H277 f278 r279 s280 => ?_))))
        have h281 : Ints H277 v276 [(z216 - (1 : Int))] := litInts (xs := [(z216 - (1 : Int))]) (by simpa using s280)
        refine ln (qa nsl (ta 15 rfl (kl_bd rfl (cp rfl (cp (Sl.cells ‹_›) (cp (Sl.cells ‹_›) cp_nil))) rfl ?_)))
        refine ln (qx rfl (ta 17 rfl (kl_stW (us := [.int .i64 (2 : Int), v270, v276, .int .i64 (0 : Int), .slice none 0 0]) rfl rfl rfl rfl (oc rfl (oc (Sl.oneCell ‹_›) (oc (Sl.oneCell ‹_›) (oc rfl (oc rfl oc_nil))))) rfl ?_)))
        refine cg [bxS b268 [.int .i64 (2 : Int), v270, v276, .int .i64 (0 : Int), .slice none 0 0] 88, bxS br [vbr, .int .i64 (q214 : Int)] 84, H68, H18, bxS b3 [v21, v71] 26, bxS b1 [.slice none 0 0, .slice none 0 0] 26] rfl ?_
        refine ln (qx rfl (kt_end (by kernel_rfl) ?_))
        exact kq_rj (b268, q214, H271, v270, ([z86, (Int.tmod ((z86 + (1 : Int)) + z150) ((3 : Int) + z12))]), H277, v276, ([(z216 - (1 : Int))])) [H271, H277] [bxS b268 [.int .i64 (2 : Int), v270, v276, .int .i64 (0 : Int), .slice none 0 0] 88, bxS br [vbr, .int .i64 (q214 : Int)] 84, H68, H18, bxS b3 [v21, v71] 26, bxS b1 [.slice none 0 0, .slice none 0 0] 26] rfl rfl ⟨hb269, (by dsimp only; omega), ‹_›, f272, (by dsimp only; first | omega | (simp; done) | (simp; omega)), ‹_›, f278, (by dsimp only; first | omega | (simp; done) | (simp; omega))⟩ (pk [0, 2, 3, 4, 6, 8] rfl)
       ·refine bs9 rfl rfl rfl (by decide) (ca rfl ca_nil) (fun v282 H283 f284 r285 s286 => ?_)
        have h287 : Ints H283 v282 [(z216 - (1 : Int))] := litInts (xs := [(z216 - (1 : Int))]) (by simpa using s286)
        refine ln (qa nsl (ta 10 rfl (bs9 rfl rfl rfl (by decide) (ca rfl (ca rfl ca_nil)) (fun v288 H289 f290 r291 s292 => ?_))))
        have h293 : Ints H289 v288 [z86, (Int.tmod ((z86 + (1 : Int)) + z150) ((3 : Int) + z12))] := litInts (xs := [z86, (Int.tmod ((z86 + (1 : Int)) + z150) ((3 : Int) + z12))]) (by simpa using s292)
        refine ln (qa nsl (ta 15 rfl (kl_bd rfl (cp rfl (cp (Sl.cells ‹_›) (cp (Sl.cells ‹_›) cp_nil))) rfl ?_)))
        refine ln (qx rfl (ta 17 rfl (kl_stW (us := [.int .i64 (2 : Int), v288, v282, .int .i64 (0 : Int), .slice none 0 0]) rfl rfl rfl rfl (oc rfl (oc (Sl.oneCell ‹_›) (oc (Sl.oneCell ‹_›) (oc rfl (oc rfl oc_nil))))) rfl ?_)))
        refine cg [bxS b268 [.int .i64 (2 : Int), v288, v282, .int .i64 (0 : Int), .slice none 0 0] 88, bxS br [vbr, .int .i64 (q214 : Int)] 84, H68, H18, bxS b3 [v21, v71] 26, bxS b1 [.slice none 0 0, .slice none 0 0] 26] rfl ?_
        refine ln (qx rfl (kt_end (by kernel_rfl) ?_))
        exact kq_rj (b268, q214, H289, v288, ([z86, (Int.tmod ((z86 + (1 : Int)) + z150) ((3 : Int) + z12))]), H283, v282, ([(z216 - (1 : Int))])) [H289, H283] [bxS b268 [.int .i64 (2 : Int), v288, v282, .int .i64 (0 : Int), .slice none 0 0] 88, bxS br [vbr, .int .i64 (q214 : Int)] 84, H68, H18, bxS b3 [v21, v71] 26, bxS b1 [.slice none 0 0, .slice none 0 0] 26] rfl rfl ⟨hb269, (by dsimp only; omega), ‹_›, f290, (by dsimp only; first | omega | (simp; done) | (simp; omega)), ‹_›, f284, (by dsimp only; first | omega | (simp; done) | (simp; omega))⟩ (pk [0, 2, 3, 4, 6, 8] rfl)
     ·refine kl_alloc (cs := [.int .i64 (0 : Int), .slice none 0 0, .slice none 0 0, .int .i64 (0 : Int), .slice none 0 0]) rfl (fun b294 hb295 => ?_)
      refine ln (qa nsl (kt_b 10 12 rfl rfl (by kernel_rfl) ?_ ?_))
      ·refine bs9 rfl rfl rfl (by decide) (ca rfl (ca rfl ca_nil)) (fun v296 H297 f298 r299 s300 => ?_)
       have h301 : Ints H297 v296 [z86, (Int.tmod ((z86 + (1 : Int)) + z150) ((3 : Int) + z12))] := litInts (xs := [z86, (Int.tmod ((z86 + (1 : Int)) + z150) ((3 : Int) + z12))]) (by simpa using s300)
       refine ln (qa nsl (ta 12 rfl (cT rfl rfl (pick_ok q148 (3 : Int) (by omega) hr) (fun v302 L1 Ln K306 h303 f304 f305 => ?_))))
       obtain ⟨q307, h308, rfl, rfl, z309, rfl, h310⟩ := h303
       refine nm ?_
       refine ln (qa nsl (tq 13 nsl rfl (sb9 rfl rfl (by omega) ?_)))
       refine ln (qq (ta 14 rfl (bs9 rfl rfl rfl (by decide) (ca rfl ca_nil) (fun v313 H314 f315 r316 s317 => ?_))))
       have h318 : Ints H314 v313 [(z309 - (1 : Int))] := litInts (xs := [(z309 - (1 : Int))]) (by simpa using s317)
       refine ln (qa nsl (ta 15 rfl (kl_bd rfl (cp rfl (cp (Sl.cells ‹_›) (cp (Sl.cells ‹_›) cp_nil))) rfl ?_)))
       refine ln (qx rfl (ta 17 rfl (kl_stW (us := [.int .i64 (2 : Int), v296, v313, .int .i64 (0 : Int), .slice none 0 0]) rfl rfl rfl rfl (oc rfl (oc (Sl.oneCell ‹_›) (oc (Sl.oneCell ‹_›) (oc rfl (oc rfl oc_nil))))) rfl ?_)))
       refine cg [bxS br [vbr, .int .i64 (q307 : Int)] 84, bxS b294 [.int .i64 (2 : Int), v296, v313, .int .i64 (0 : Int), .slice none 0 0] 88, H68, H18, bxS b3 [v21, v71] 26, bxS b1 [.slice none 0 0, .slice none 0 0] 26] rfl ?_
       refine ln (qx rfl (kt_end (by kernel_rfl) ?_))
       exact kq_rj (b294, q307, H297, v296, ([z86, (Int.tmod ((z86 + (1 : Int)) + z150) ((3 : Int) + z12))]), H314, v313, ([(z309 - (1 : Int))])) [H297, H314] [bxS b294 [.int .i64 (2 : Int), v296, v313, .int .i64 (0 : Int), .slice none 0 0] 88, bxS br [vbr, .int .i64 (q307 : Int)] 84, H68, H18, bxS b3 [v21, v71] 26, bxS b1 [.slice none 0 0, .slice none 0 0] 26] rfl rfl ⟨hb295, (by dsimp only; omega), ‹_›, f298, (by dsimp only; first | omega | (simp; done) | (simp; omega)), ‹_›, f315, (by dsimp only; first | omega | (simp; done) | (simp; omega))⟩ (pk [0, 2, 3, 4, 6, 8] rfl)
      ·refine cT rfl rfl (pick_ok q148 (3 : Int) (by omega) hr) (fun v319 L1 Ln K323 h320 f321 f322 => ?_)
       obtain ⟨q324, h325, rfl, rfl, z326, rfl, h327⟩ := h320
       refine nm ?_
       refine ln (qa nsl (tq 13 nsl rfl (sb9 rfl rfl (by omega) ?_)))
       refine ln (qq (kt_b 10 14 rfl rfl (by kernel_rfl) ?_ ?_))
       ·refine bs9 rfl rfl rfl (by decide) (ca rfl (ca rfl ca_nil)) (fun v330 H331 f332 r333 s334 => ?_)
        have h335 : Ints H331 v330 [z86, (Int.tmod ((z86 + (1 : Int)) + z150) ((3 : Int) + z12))] := litInts (xs := [z86, (Int.tmod ((z86 + (1 : Int)) + z150) ((3 : Int) + z12))]) (by simpa using s334)
        refine ln (qa nsl (ta 14 rfl (bs9 rfl rfl rfl (by decide) (ca rfl ca_nil) (fun v336 H337 f338 r339 s340 => ?_))))
        have h341 : Ints H337 v336 [(z326 - (1 : Int))] := litInts (xs := [(z326 - (1 : Int))]) (by simpa using s340)
        refine ln (qa nsl (ta 15 rfl (kl_bd rfl (cp rfl (cp (Sl.cells ‹_›) (cp (Sl.cells ‹_›) cp_nil))) rfl ?_)))
        refine ln (qx rfl (ta 17 rfl (kl_stW (us := [.int .i64 (2 : Int), v330, v336, .int .i64 (0 : Int), .slice none 0 0]) rfl rfl rfl rfl (oc rfl (oc (Sl.oneCell ‹_›) (oc (Sl.oneCell ‹_›) (oc rfl (oc rfl oc_nil))))) rfl ?_)))
        refine cg [bxS br [vbr, .int .i64 (q324 : Int)] 84, bxS b294 [.int .i64 (2 : Int), v330, v336, .int .i64 (0 : Int), .slice none 0 0] 88, H68, H18, bxS b3 [v21, v71] 26, bxS b1 [.slice none 0 0, .slice none 0 0] 26] rfl ?_
        refine ln (qx rfl (kt_end (by kernel_rfl) ?_))
        exact kq_rj (b294, q324, H331, v330, ([z86, (Int.tmod ((z86 + (1 : Int)) + z150) ((3 : Int) + z12))]), H337, v336, ([(z326 - (1 : Int))])) [H331, H337] [bxS b294 [.int .i64 (2 : Int), v330, v336, .int .i64 (0 : Int), .slice none 0 0] 88, bxS br [vbr, .int .i64 (q324 : Int)] 84, H68, H18, bxS b3 [v21, v71] 26, bxS b1 [.slice none 0 0, .slice none 0 0] 26] rfl rfl ⟨hb295, (by dsimp only; omega), ‹_›, f332, (by dsimp only; first | omega | (simp; done) | (simp; omega)), ‹_›, f338, (by dsimp only; first | omega | (simp; done) | (simp; omega))⟩ (pk [0, 2, 3, 4, 6, 8] rfl)
       ·refine bs9 rfl rfl rfl (by decide) (ca rfl ca_nil) (fun v342 H343 f344 r345 s346 => ?_)
        have h347 : Ints H343 v342 [(z326 - (1 : Int))] := litInts (xs := [(z326 - (1 : Int))]) (by simpa using s346)
        refine ln (qa nsl (ta 10 rfl (bs9 rfl rfl rfl (by decide) (ca rfl (ca rfl ca_nil)) (fun v348 H349 f350 r351 s352 => ?_))))
        have h353 : Ints H349 v348 [z86, (Int.tmod ((z86 + (1 : Int)) + z150) ((3 : Int) + z12))] := litInts (xs := [z86, (Int.tmod ((z86 + (1 : Int)) + z150) ((3 : Int) + z12))]) (by simpa using s352)
        refine ln (qa nsl (ta 15 rfl (kl_bd rfl (cp rfl (cp (Sl.cells ‹_›) (cp (Sl.cells ‹_›) cp_nil))) rfl ?_)))
        refine ln (qx rfl (ta 17 rfl (kl_stW (us := [.int .i64 (2 : Int), v348, v342, .int .i64 (0 : Int), .slice none 0 0]) rfl rfl rfl rfl (oc rfl (oc (Sl.oneCell ‹_›) (oc (Sl.oneCell ‹_›) (oc rfl (oc rfl oc_nil))))) rfl ?_)))
        refine cg [bxS br [vbr, .int .i64 (q324 : Int)] 84, bxS b294 [.int .i64 (2 : Int), v348, v342, .int .i64 (0 : Int), .slice none 0 0] 88, H68, H18, bxS b3 [v21, v71] 26, bxS b1 [.slice none 0 0, .slice none 0 0] 26] rfl ?_
        refine ln (qx rfl (kt_end (by kernel_rfl) ?_))
        exact kq_rj (b294, q324, H349, v348, ([z86, (Int.tmod ((z86 + (1 : Int)) + z150) ((3 : Int) + z12))]), H343, v342, ([(z326 - (1 : Int))])) [H349, H343] [bxS b294 [.int .i64 (2 : Int), v348, v342, .int .i64 (0 : Int), .slice none 0 0] 88, bxS br [vbr, .int .i64 (q324 : Int)] 84, H68, H18, bxS b3 [v21, v71] 26, bxS b1 [.slice none 0 0, .slice none 0 0] 26] rfl rfl ⟨hb295, (by dsimp only; omega), ‹_›, f350, (by dsimp only; first | omega | (simp; done) | (simp; omega)), ‹_›, f344, (by dsimp only; first | omega | (simp; done) | (simp; omega))⟩ (pk [0, 2, 3, 4, 6, 8] rfl)
    ·refine kl_alloc (cs := [.int .i64 (0 : Int), .slice none 0 0, .slice none 0 0, .int .i64 (0 : Int), .slice none 0 0]) rfl (fun b354 hb355 => ?_)
     refine ln (qa nsl (ta 6 rfl (cT rfl rfl (pick_ok q84 (((3 : Int) + z12) - (1 : Int)) (by omega) hr) (fun v356 L1 Ln K360 h357 f358 f359 => ?_))))
     obtain ⟨q361, h362, rfl, rfl, z363, rfl, h364⟩ := h357
     refine nm ?_
     refine ln (qa nsl (tq 7 nsl rfl (ad9 rfl rfl (by omega) ?_)))
     refine ln (qq (tq 9 nsl rfl ?_))
     have h367 := tmod_in (m := ((z86 + (1 : Int)) + z363)) (k := ((3 : Int) + z12)) (by omega) (by omega)
     refine kl_rem rfl rfl (by omega) ?_
     refine ln (qq (kt_b 10 12 rfl rfl (by kernel_rfl) ?_ ?_))
     ·refine bs9 rfl rfl rfl (by decide) (ca rfl (ca rfl ca_nil)) (fun v368 H369 f370 r371 s372 => ?_)
      have h373 : Ints H369 v368 [z86, (Int.tmod ((z86 + (1 : Int)) + z363) ((3 : Int) + z12))] := litInts (xs := [z86, (Int.tmod ((z86 + (1 : Int)) + z363) ((3 : Int) + z12))]) (by simpa using s372)
      refine ln (qa nsl (ta 12 rfl (cT rfl rfl (pick_ok q361 (3 : Int) (by omega) hr) (fun v374 L1 Ln K378 h375 f376 f377 => ?_))))
      obtain ⟨q379, h380, rfl, rfl, z381, rfl, h382⟩ := h375
      refine nm ?_
      refine ln (qa nsl (tq 13 nsl rfl (sb9 rfl rfl (by omega) ?_)))
      refine ln (qq (ta 14 rfl (bs9 rfl rfl rfl (by decide) (ca rfl ca_nil) (fun v385 H386 f387 r388 s389 => ?_))))
      have h390 : Ints H386 v385 [(z381 - (1 : Int))] := litInts (xs := [(z381 - (1 : Int))]) (by simpa using s389)
      refine ln (qa nsl (ta 15 rfl (kl_bd rfl (cp rfl (cp (Sl.cells ‹_›) (cp (Sl.cells ‹_›) cp_nil))) rfl ?_)))
      refine ln (qx rfl (ta 17 rfl (kl_stW (us := [.int .i64 (2 : Int), v368, v385, .int .i64 (0 : Int), .slice none 0 0]) rfl rfl rfl rfl (oc rfl (oc (Sl.oneCell ‹_›) (oc (Sl.oneCell ‹_›) (oc rfl (oc rfl oc_nil))))) rfl ?_)))
      refine cg [bxS br [vbr, .int .i64 (q379 : Int)] 84, bxS b354 [.int .i64 (2 : Int), v368, v385, .int .i64 (0 : Int), .slice none 0 0] 88, H68, H18, bxS b3 [v21, v71] 26, bxS b1 [.slice none 0 0, .slice none 0 0] 26] rfl ?_
      refine ln (qx rfl (kt_end (by kernel_rfl) ?_))
      exact kq_rj (b354, q379, H369, v368, ([z86, (Int.tmod ((z86 + (1 : Int)) + z363) ((3 : Int) + z12))]), H386, v385, ([(z381 - (1 : Int))])) [H369, H386] [bxS b354 [.int .i64 (2 : Int), v368, v385, .int .i64 (0 : Int), .slice none 0 0] 88, bxS br [vbr, .int .i64 (q379 : Int)] 84, H68, H18, bxS b3 [v21, v71] 26, bxS b1 [.slice none 0 0, .slice none 0 0] 26] rfl rfl ⟨hb355, (by dsimp only; omega), ‹_›, f370, (by dsimp only; first | omega | (simp; done) | (simp; omega)), ‹_›, f387, (by dsimp only; first | omega | (simp; done) | (simp; omega))⟩ (pk [0, 2, 3, 4, 6, 8] rfl)
     ·refine cT rfl rfl (pick_ok q361 (3 : Int) (by omega) hr) (fun v391 L1 Ln K395 h392 f393 f394 => ?_)
      obtain ⟨q396, h397, rfl, rfl, z398, rfl, h399⟩ := h392
      refine nm ?_
      refine ln (qa nsl (tq 13 nsl rfl (sb9 rfl rfl (by omega) ?_)))
      refine ln (qq (kt_b 10 14 rfl rfl (by kernel_rfl) ?_ ?_))
      ·refine bs9 rfl rfl rfl (by decide) (ca rfl (ca rfl ca_nil)) (fun v402 H403 f404 r405 s406 => ?_)
       have h407 : Ints H403 v402 [z86, (Int.tmod ((z86 + (1 : Int)) + z363) ((3 : Int) + z12))] := litInts (xs := [z86, (Int.tmod ((z86 + (1 : Int)) + z363) ((3 : Int) + z12))]) (by simpa using s406)
       refine ln (qa nsl (ta 14 rfl (bs9 rfl rfl rfl (by decide) (ca rfl ca_nil) (fun v408 H409 f410 r411 s412 => ?_))))
       have h413 : Ints H409 v408 [(z398 - (1 : Int))] := litInts (xs := [(z398 - (1 : Int))]) (by simpa using s412)
       refine ln (qa nsl (ta 15 rfl (kl_bd rfl (cp rfl (cp (Sl.cells ‹_›) (cp (Sl.cells ‹_›) cp_nil))) rfl ?_)))
       refine ln (qx rfl (ta 17 rfl (kl_stW (us := [.int .i64 (2 : Int), v402, v408, .int .i64 (0 : Int), .slice none 0 0]) rfl rfl rfl rfl (oc rfl (oc (Sl.oneCell ‹_›) (oc (Sl.oneCell ‹_›) (oc rfl (oc rfl oc_nil))))) rfl ?_)))
       refine cg [bxS br [vbr, .int .i64 (q396 : Int)] 84, bxS b354 [.int .i64 (2 : Int), v402, v408, .int .i64 (0 : Int), .slice none 0 0] 88, H68, H18, bxS b3 [v21, v71] 26, bxS b1 [.slice none 0 0, .slice none 0 0] 26] rfl ?_
       refine ln (qx rfl (kt_end (by kernel_rfl) ?_))
       exact kq_rj (b354, q396, H403, v402, ([z86, (Int.tmod ((z86 + (1 : Int)) + z363) ((3 : Int) + z12))]), H409, v408, ([(z398 - (1 : Int))])) [H403, H409] [bxS b354 [.int .i64 (2 : Int), v402, v408, .int .i64 (0 : Int), .slice none 0 0] 88, bxS br [vbr, .int .i64 (q396 : Int)] 84, H68, H18, bxS b3 [v21, v71] 26, bxS b1 [.slice none 0 0, .slice none 0 0] 26] rfl rfl ⟨hb355, (by dsimp only; omega), ‹_›, f404, (by dsimp only; first | omega | (simp; done) | (simp; omega)), ‹_›, f410, (by dsimp only; first | omega | (simp; done) | (simp; omega))⟩ (pk [0, 2, 3, 4, 6, 8] rfl)
      ·refine bs9 rfl rfl rfl (by decide) (ca rfl ca_nil) (fun v414 H415 f416 r417 s418 => ?_)
       have h419 : Ints H415 v414 [(z398 - (1 : Int))] := litInts (xs := [(z398 - (1 : Int))]) (by simpa using s418)
       refine ln (qa nsl (ta 10 rfl (bs9 rfl rfl rfl (by decide) (ca rfl (ca rfl ca_nil)) (fun v420 H421 f422 r423 s424 => ?_))))
       have h425 : Ints H421 v420 [z86, (Int.tmod ((z86 + (1 : Int)) + z363) ((3 : Int) + z12))] := litInts (xs := [z86, (Int.tmod ((z86 + (1 : Int)) + z363) ((3 : Int) + z12))]) (by simpa using s424)
       refine ln (qa nsl (ta 15 rfl (kl_bd rfl (cp rfl (cp (Sl.cells ‹_›) (cp (Sl.cells ‹_›) cp_nil))) rfl ?_)))
       refine ln (qx rfl (ta 17 rfl (kl_stW (us := [.int .i64 (2 : Int), v420, v414, .int .i64 (0 : Int), .slice none 0 0]) rfl rfl rfl rfl (oc rfl (oc (Sl.oneCell ‹_›) (oc (Sl.oneCell ‹_›) (oc rfl (oc rfl oc_nil))))) rfl ?_)))
       refine cg [bxS br [vbr, .int .i64 (q396 : Int)] 84, bxS b354 [.int .i64 (2 : Int), v420, v414, .int .i64 (0 : Int), .slice none 0 0] 88, H68, H18, bxS b3 [v21, v71] 26, bxS b1 [.slice none 0 0, .slice none 0 0] 26] rfl ?_
       refine ln (qx rfl (kt_end (by kernel_rfl) ?_))
       exact kq_rj (b354, q396, H421, v420, ([z86, (Int.tmod ((z86 + (1 : Int)) + z363) ((3 : Int) + z12))]), H415, v414, ([(z398 - (1 : Int))])) [H421, H415] [bxS b354 [.int .i64 (2 : Int), v420, v414, .int .i64 (0 : Int), .slice none 0 0] 88, bxS br [vbr, .int .i64 (q396 : Int)] 84, H68, H18, bxS b3 [v21, v71] 26, bxS b1 [.slice none 0 0, .slice none 0 0] 26] rfl rfl ⟨hb355, (by dsimp only; omega), ‹_›, f422, (by dsimp only; first | omega | (simp; done) | (simp; omega)), ‹_›, f416, (by dsimp only; first | omega | (simp; done) | (simp; omega))⟩ (pk [0, 2, 3, 4, 6, 8] rfl)
   ·rintro ⟨b127, q129, H131, v132, x133, H137, v138, x139⟩ hJ426
    obtain ⟨h128, h130, h134, h135, h136, h140, h141, h142⟩ : B.heap.size ≤ b127 ∧ q129 ≤ q84 + 2 ∧ Ints H131 v132 x133 ∧ Fr B H131 ∧ x133.length = 2 ∧ Ints H137 v138 x139 ∧ Fr B H137 ∧ x139.length = 1 := hJ426
    change KQ _ ([H131, H137] ++ _) [bxS b127 [.int .i64 (2 : Int), v132, v138, .int .i64 (0 : Int), .slice none 0 0] 88, bxS br [vbr, .int .i64 (q129 : Int)] 84, H68, H18, bxS b3 [v21, v71] 26, bxS b1 [.slice none 0 0, .slice none 0 0] 26] [(0, .pointer (some ⟨br, 0, none⟩)), (2, .pointer (some ⟨b1, 0, none⟩)), (3, .pointer (some ⟨b3, 0, none⟩)), (4, .int .i64 ((3 : Int) + z12)), (6, .int .i64 k), (8, .pointer (some ⟨b127, 0, none⟩))] _
    refine kq_normI ?_
    refine qc (cS (cS (cr (mv rfl (cT rfl rfl (pick_ok q129 (3 : Int) (by omega) hr) (fun v427 L1 Ln K431 h428 f429 f430 => ?_))))))
    obtain ⟨q432, h433, rfl, rfl, z434, rfl, h435⟩ := h428
    refine nm ?_
    refine eq9 rfl rfl ?_
    refine ln (qc (ci9 rfl (fun c438 => ?_) (fun c438 => ?_)))
    ·refine cr (mv rfl (mv rfl (cT rfl rfl (randomConstraint_ok q432 ((3 : Int) + z12) (by first | assumption | omega) (by omega) hr) (fun v439 L1 Ln K443 h440 f441 f442 => ?_))))
     obtain ⟨q444, h445, rfl, z446, rfl, h450, h447⟩ := h440
     obtain ⟨_, rfl, h454⟩ := h450
     have h454' := h454
     obtain ⟨u451, u452, u453, rfl, h455, h456, h457⟩ := h454
     refine nm ?_
     refine kl_stW (us := [.int .i64 z446.kind, u451, u452, .int .i64 z446.bound, u453]) rfl rfl rfl rfl (oc rfl (oc (Sl.oneCell ‹_›) (oc (Sl.oneCell ‹_›) (oc rfl (oc (Sl.oneCell ‹_›) oc_nil))))) rfl ?_
     refine cg [bxS br [vbr, .int .i64 (q444 : Int)] 84, bxS b127 [.int .i64 z446.kind, u451, u452, .int .i64 z446.bound, u453] 88, H68, H18, bxS b3 [v21, v71] 26, bxS b1 [.slice none 0 0, .slice none 0 0] 26] rfl ?_
     refine ln (qc (cr (fV rfl (lB rfl rfl (kl_ldW rfl rfl (kl_bsK rfl (fun v458 H459 f460 r461 => ?_)))))))
     refine cm9 K72 K443 (fun c462 => ?_)
     have o463 := OwnL.mono (K' := orHp K72 K443) o69 orL
     refine cm9 (orHp K72 K443) K443 (fun c464 => ?_)
     have o465 := OwnL.mono (K' := orHp (orHp K72 K443) K443) o463 orL
     refine cm9 (orHp (orHp K72 K443) K443) K443 (fun c466 => ?_)
     have o467 := OwnL.mono (K' := orHp (orHp (orHp K72 K443) K443) K443) o465 orL
     refine aL9 z446 rfl rfl o467 r461 ⟨_, _, _, rfl, (Sl.mono ‹_› (fun b o h => orL b o (orL b o (orC c462 b o h))) (fun _ _ h => h)), (Sl.mono ‹_› (fun b o h => orL b o (orC c464 b o h)) (fun _ _ h => h)), (Rows.mono' ‹_› (fun b o h => orC c466 b o h))⟩ (oc rfl (oc (Sl.oneCell ‹_›) (oc (Sl.oneCell ‹_›) (oc rfl (oc (Sl.oneCell ‹_›) oc_nil))))) (by omega) (by decide) (fun v468 H469 o470 f471 => ?_)
     have f472 := f471 B f70 (Nat.le_refl _)
     refine fV rfl (sB rfl rfl rfl (OwnL.oneCell ‹_›) (OwnL.cells ‹_›) ?_)
     refine cg [bxS br [vbr, .int .i64 (q444 : Int)] 84, bxS b127 [.int .i64 z446.kind, u451, u452, .int .i64 z446.bound, u453] 88, H469, H18, bxS b3 [v21, v468] 26, bxS b1 [.slice none 0 0, .slice none 0 0] 26] rfl ?_
     refine ln (qc (cr (mv rfl (sb9 rfl rfl (by omega) ?_))))
     refine sg rfl (ln (tk [H469, bxS br [vbr, .int .i64 (q444 : Int)] 84, H18, bxS b3 [v21, v468] 26, bxS b1 [.slice none 0 0, .slice none 0 0] 26] ?_))
     refine kq_roundK ((k - (1 : Int)), (cs ++ [z446]), v468, H469, (orHp (orHp (orHp K72 K443) K443) K443), q444) (by (dsimp only; omega)) (⟨⟨by dsimp only; omega, by dsimp only; omega, by simp; omega, all_snoc hi67.2.2.2 (by first | assumption | exact (by constructor <;> dsimp only <;> first | (simp; done) | omega | exact all_nil))⟩, (fr_or (fr_or (fr_or f73 f442) f442) f442), o470, f472, (by first | omega | (dsimp only; omega))⟩) (pc 6 rfl pn) (pk [0, 2, 3, 4] rfl) rfl slr9
    ·refine sk (qc (cr (fV rfl (lB rfl rfl (kl_ldW rfl rfl (kl_bsK rfl (fun v473 H474 f475 r476 => ?_)))))))
     refine cm9 K72 H131 (fun c477 => ?_)
     have o478 := OwnL.mono (K' := orHp K72 H131) o69 orL
     refine cm9 (orHp K72 H131) H137 (fun c479 => ?_)
     have o480 := OwnL.mono (K' := orHp (orHp K72 H131) H137) o478 orL
     refine aL9 ⟨(2 : Int), x133, x139, (0 : Int), []⟩ rfl rfl o480 r476 ⟨_, _, _, rfl, (Sl.mono ‹_› (fun b o h => orL b o (orC c477 b o h)) (fun _ _ h => h)), (Sl.mono ‹_› (fun b o h => orC c479 b o h) (fun _ _ h => h)), Sl.nil⟩ (oc rfl (oc (Sl.oneCell ‹_›) (oc (Sl.oneCell ‹_›) (oc rfl (oc rfl oc_nil))))) (by omega) (by decide) (fun v481 H482 o483 f484 => ?_)
     have f485 := f484 B f70 (Nat.le_refl _)
     refine fV rfl (sB rfl rfl rfl (OwnL.oneCell ‹_›) (OwnL.cells ‹_›) ?_)
     refine cg [bxS br [vbr, .int .i64 (q432 : Int)] 84, bxS b127 [.int .i64 (2 : Int), v132, v138, .int .i64 (0 : Int), .slice none 0 0] 88, H482, H18, bxS b3 [v21, v481] 26, bxS b1 [.slice none 0 0, .slice none 0 0] 26] rfl ?_
     refine ln (qc (cr (mv rfl (sb9 rfl rfl (by omega) ?_))))
     refine sg rfl (ln (tk [H482, bxS br [vbr, .int .i64 (q432 : Int)] 84, H18, bxS b3 [v21, v481] 26, bxS b1 [.slice none 0 0, .slice none 0 0] 26] ?_))
     refine kq_roundK ((k - (1 : Int)), (cs ++ [⟨(2 : Int), x133, x139, (0 : Int), []⟩]), v481, H482, (orHp (orHp K72 H131) H137), q432) (by (dsimp only; omega)) (⟨⟨by dsimp only; omega, by dsimp only; omega, by simp; omega, all_snoc hi67.2.2.2 (by first | assumption | exact (by constructor <;> dsimp only <;> first | (simp; done) | omega | exact all_nil))⟩, (fr_or (fr_or f73 h135) h141), o483, f485, (by first | omega | (dsimp only; omega))⟩) (pc 6 rfl pn) (pk [0, 2, 3, 4] rfl) rfl slr9
  ·refine ex9 (qc (cS (cr (kl_ldW rfl rfl (kl_stW (us := [v21, v71]) rfl rfl rfl rfl (oc (OwnL.oneCell ‹_›) (oc (OwnL.oneCell ‹_›) oc_nil)) rfl ?_)))))
   refine cg [H68, bxS br [vbr, .int .i64 (q75 : Int)] 84, H18, bxS b3 [v21, v71] 26, bxS b1 [v21, v71] 26] rfl ?_
   refine ln (qc (rt ?_))
   exact rC rfl rfl rfl [bxS br [vbr, .int .i64 (q75 : Int)] 84] [H18, H68] K72 (frc f20 (fr1 f70)) f73 ⟨q75, by omega, rfl, H18, H68, _, _, (⟨ds, cs⟩ : Mod), rfl, rfl, o19, o69, by (constructor <;> dsimp only <;> first | omega | assumption | exact all_mono ‹_› | (simp; done) | (simp only [List.length_append, List.length_cons, List.length_nil]; omega) | exact all_snoc (all_mono hi17.2.2.2) (by constructor <;> dsimp only <;> first | (simp; done) | omega | exact all_nil))⟩
theorem searchModel_ok {br : Nat} {vbr : Value} {Hr : Hp} {bsr : List Int} (pr : Nat) (hp : pr + (900) ≤ 1000000) (hr : Bytes Hr vbr bsr) : SpecT Tryz.prog 29 [.pointer (some ⟨br, 0, none⟩)] [bxS br [vbr, .int .i64 (pr : Int)] 84] [Hr] (fun vq L1 Ln Kq => ∃ q : Nat, q ≤ pr + (900) ∧ L1 = [bxS br [vbr, .int .i64 (q : Int)] 84] ∧ ∃ (Hq Mq : Hp) (va vc : Value) (mq : Mod), vq = .agg #[va, vc] ∧ Ln = [Hq, Mq] ∧ OwnL 3 1 Hq noHp IntV va mq.doms ∧ OwnL 88 5 Mq Kq ConV vc mq.cons ∧ ModSm 100 mq) := by
 refine specT_of Tryz.func29 rfl rfl rfl (fun B => ?_)
 refine cS (cr (kl_alloc (cs := [.slice none 0 0, .slice none 0 0]) rfl (fun b1 hb2 => ?_)))
 refine ln (qc (cS (cS (cr (mv rfl (cT rfl rfl (pick_ok pr (5 : Int) (by omega) hr) (fun v3 L1 Ln K7 h4 f5 f6 => ?_)))))))
 obtain ⟨q8, h9, rfl, rfl, z10, rfl, h11⟩ := h4
 refine nm ?_
 refine ln (qc (bl (cS (cr (eq9 rfl rfl ?_)))))
 refine sg rfl (ln (qc (ci9 rfl (fun c14 => ?_) (fun c14 => ?_))))
 ·refine cS (cr (mv rfl (cT rfl rfl (anyModel_ok q8 (by omega) hr) (fun v15 L1 Ln K19 h16 f17 f18 => ?_))))
  obtain ⟨q20, h21, rfl, H24, M26, v27, v28, z22, rfl, rfl, o25, o29, h23⟩ := h16
  have f30 := f17 _ (.head _)
  have f31 := f17 _ (.tail _ (.head _))
  refine nm ?_
  refine kl_stW (us := [v27, v28]) rfl rfl rfl rfl (oc (OwnL.oneCell ‹_›) (oc (OwnL.oneCell ‹_›) oc_nil)) rfl ?_
  refine cg [bxS br [vbr, .int .i64 (q20 : Int)] 84, H24, M26, bxS b1 [v27, v28] 26] rfl ?_
  refine ln (qc (rt ?_))
  exact rC rfl rfl rfl [bxS br [vbr, .int .i64 (q20 : Int)] 84] [H24, M26] K19 (frc f30 (fr1 f31)) f18 ⟨q20, by omega, rfl, H24, M26, _, _, (⟨z22.doms, z22.cons⟩ : Mod), rfl, rfl, o25, o29, by first | assumption | trivial⟩
 ·refine cS (cr (eq9 rfl rfl ?_))
  refine sg rfl (ln (qc (ci9 rfl (fun c32 => ?_) (fun c32 => ?_))))
  ·refine cS (cr (mv rfl (cT rfl rfl (hardModel_ok q8 (by omega) hr) (fun v33 L1 Ln K37 h34 f35 f36 => ?_))))
   obtain ⟨q38, h39, rfl, H42, M44, v45, v46, z40, rfl, rfl, o43, o47, h41⟩ := h34
   have f48 := f35 _ (.head _)
   have f49 := f35 _ (.tail _ (.head _))
   refine nm ?_
   refine kl_stW (us := [v45, v46]) rfl rfl rfl rfl (oc (OwnL.oneCell ‹_›) (oc (OwnL.oneCell ‹_›) oc_nil)) rfl ?_
   refine cg [bxS br [vbr, .int .i64 (q38 : Int)] 84, H42, M44, bxS b1 [v45, v46] 26] rfl ?_
   refine ln (qc (rt ?_))
   exact rC rfl rfl rfl [bxS br [vbr, .int .i64 (q38 : Int)] 84] [H42, M44] K37 (frc f48 (fr1 f49)) f36 ⟨q38, by omega, rfl, H42, M44, _, _, (⟨z40.doms, z40.cons⟩ : Mod), rfl, rfl, o43, o47, by first | assumption | trivial⟩
  ·refine sk (qc (cS (cr (mv rfl (cT rfl rfl (tightModel_ok q8 (by omega) hr) (fun v50 L1 Ln K54 h51 f52 f53 => ?_))))))
   obtain ⟨q55, h56, rfl, H59, M61, v62, v63, z57, rfl, rfl, o60, o64, h58⟩ := h51
   have f65 := f52 _ (.head _)
   have f66 := f52 _ (.tail _ (.head _))
   refine nm ?_
   refine kl_stW (us := [v62, v63]) rfl rfl rfl rfl (oc (OwnL.oneCell ‹_›) (oc (OwnL.oneCell ‹_›) oc_nil)) rfl ?_
   refine cg [bxS br [vbr, .int .i64 (q55 : Int)] 84, H59, M61, bxS b1 [v62, v63] 26] rfl ?_
   refine ln (qc (rt ?_))
   exact rC rfl rfl rfl [bxS br [vbr, .int .i64 (q55 : Int)] 84] [H59, M61] K54 (frc f65 (fr1 f66)) f53 ⟨q55, by omega, rfl, H59, M61, _, _, (⟨z57.doms, z57.cons⟩ : Mod), rfl, rfl, o60, o64, by first | assumption | trivial⟩
end
section
theorem objective_ok {br : Nat} {vbr : Value} {Hr : Hp} {bsr : List Int} (pr : Nat) (n : Int) (hn : 0 ≤ n ∧ n ≤ 4) (hp : pr + (6) ≤ 1000000) (hr : Bytes Hr vbr bsr) : SpecT Tryz.prog 30 [.pointer (some ⟨br, 0, none⟩), .int .i64 n] [bxS br [vbr, .int .i64 (pr : Int)] 84] [Hr] (fun vq L1 Ln Kq => ∃ q : Nat, q ≤ pr + (6) ∧ L1 = [bxS br [vbr, .int .i64 (q : Int)] 84] ∧ ∃ (Hq : Hp) (xq : List Int), Ln = [Hq] ∧ OwnL 3 1 Hq noHp IntV vq xq ∧ ((xq.length : Int) = n → Coef xq) ∧ xq.length ≤ 5) := by
 refine specT_of Tryz.func30 rfl rfl rfl (fun B => ?_)
 refine cS (cr (sg rfl (ln (qc (cS (cr (kl_bsI [] rfl rfl rfl (by decide) (fun v1 H2 f3 o4 => ?_))))))))
 refine sg rfl (ln (qc (cS (cS (cr (sg rfl (ln (qc (bl (kc_loopL (A := Nat × List Int × Value × Hp × Nat) (fun zz => (zz.1 ≤ n.toNat) ∧ (zz.2.1.length = zz.1 ∧ Coef zz.2.1) ∧ OwnL 3 1 zz.2.2.2.1 noHp IntV zz.2.2.1 zz.2.1 ∧ Fr B zz.2.2.2.1 ∧ zz.2.2.2.2 ≤ pr + zz.1) (fun zz => n.toNat - zz.1) (fun zz => [zz.2.2.2.1, bxS br [vbr, .int .i64 (zz.2.2.2.2 : Int)] 84]) (fun zz => [(6, .int .i64 (zz.1 : Int)), (5, zz.2.2.1)]) (0, ([]), v1, H2, pr) (pk [0, 1, 4] rfl) (pk [6, 5] rfl) rfl ⟨Nat.zero_le _, ⟨rfl, all_nil⟩, o4, f3, (by first | omega | (dsimp only; omega))⟩ ?_))))))))))
 rintro ⟨i, out, v10, H7, q11⟩ hJ13
 obtain ⟨hk5, hi6, o8, f9, hq12⟩ : (i ≤ n.toNat) ∧ (out.length = i ∧ Coef out) ∧ OwnL 3 1 H7 noHp IntV v10 out ∧ Fr B H7 ∧ q11 ≤ pr + i := hJ13
 change KC _ _ (_) [H7, bxS br [vbr, .int .i64 (q11 : Int)] 84] _ ([(6, .int .i64 (i : Int)), (5, v10)] ++ _)
 refine cS (cS (cr (mv rfl (mv rfl (ls9 rfl rfl ?_)))))
 refine ln (qc (ci9 rfl (fun c14 => ?_) (fun c14 => ?_)))
 ·refine sk (qc (cS (bl (cr (mv rfl (mv rfl (bs9 rfl rfl rfl (by decide) (ca rfl (ca rfl (ca rfl (ca rfl (ca rfl (ca rfl ca_nil)))))) (fun v15 H16 f17 r18 s19 => ?_))))))))
  have h20 : Ints H16 v15 [(1 : Int), (0 : Int), (-1 : Int), (2 : Int), (-9 : Int), (9 : Int)] := litInts (xs := [(1 : Int), (0 : Int), (-1 : Int), (2 : Int), (-9 : Int), (9 : Int)]) (by simpa using s19)
  refine cT rfl rfl (one_ok q11 ([(1 : Int), (0 : Int), (-1 : Int), (2 : Int), (-9 : Int), (9 : Int)]) (by simp) (by omega) hr ‹_›) (fun v21 L1 Ln K25 h22 f23 f24 => ?_)
  obtain ⟨q26, h27, rfl, rfl, z28, rfl, h29⟩ := h22
  have ho9 := obj_one h29
  refine nm ?_
  refine bs9 rfl rfl rfl (by decide) (ca rfl ca_nil) (fun v32 H33 f34 r35 s36 => ?_)
  have h37 : Ints H33 v32 [z28] := litInts (xs := [z28]) (by simpa using s36)
  refine aL9 z28 rfl rfl o8 ‹_› rfl (oc rfl oc_nil) (by omega) (by decide) (fun v38 H39 o40 f41 => ?_)
  have f42 := f41 B f9 (Nat.le_refl _)
  refine sg rfl (ln (qc (cr (mv rfl (ic9 rfl rfl (by omega) ?_)))))
  refine sg rfl (ln (tk [H39, bxS br [vbr, .int .i64 (q26 : Int)] 84] ?_))
  refine rL ((i + 1), (out ++ [z28]), v38, H39, q26) (by omega) (⟨by omega, ⟨by simp; omega, all_snoc hi6.2 ho9⟩, o40, f42, (by first | omega | (dsimp only; omega))⟩) (pk [6, 5] rfl) (pk [0, 1, 4] rfl) rfl slr9
 ·refine ex9 (qc (cS (cS (cr (mv rfl (cT rfl rfl (pick_ok q11 (14 : Int) (by omega) hr) (fun v43 L1 Ln K47 h44 f45 f46 => ?_)))))))
  obtain ⟨q48, h49, rfl, rfl, z50, rfl, h51⟩ := h44
  refine nm ?_
  refine eq9 rfl rfl ?_
  refine ln (qc (ci9 rfl (fun c54 => ?_) (fun c54 => ?_)))
  ·refine cS (cr (mv rfl (bs9 rfl rfl rfl (by decide) (ca rfl ca_nil) (fun v55 H56 f57 r58 s59 => ?_))))
   have h60 : Ints H56 v55 [(10 : Int)] := litInts (xs := [(10 : Int)]) (by simpa using s59)
   refine aL9 (10 : Int) rfl rfl o8 ‹_› rfl (oc rfl oc_nil) (by omega) (by decide) (fun v61 H62 o63 f64 => ?_)
   have f65 := f64 B f9 (Nat.le_refl _)
   refine sg rfl (ln (qc (rt ?_)))
   exact kq_retT rfl rfl [bxS br [vbr, .int .i64 (q48 : Int)] 84] [H62] noHp (fr1 f65) (fr_no _) ⟨q48, by omega, rfl, H62, (out ++ [(10 : Int)]), rfl, o63, by first | exact ⟨fun _ => hi6.2, by omega⟩ | exact ⟨fun h => by have h8 := hi6.1; simp at h; omega, by simp; omega⟩⟩
  ·refine sk (qc (cS (cr (mv rfl (sg rfl (ln (qc (rt ?_))))))))
   exact kq_retT rfl rfl [bxS br [vbr, .int .i64 (q48 : Int)] 84] [H7] noHp (fr1 f9) (fr_no _) ⟨q48, by omega, rfl, H7, out, rfl, o8, by first | exact ⟨fun _ => hi6.2, by omega⟩ | exact ⟨fun h => by have h8 := hi6.1; simp at h; omega, by simp; omega⟩⟩
end
section
/-- No constraint changes these domains, and none is empty. -/
structure FixC (m : Mod) (F : List Int) : Prop where
  ok : DOk m.doms.length F
  z : F.contains 0 = false
  c : consB m.cons F = true
def FixU (cls : List (List Lit)) (F : List Int) : Prop := ∀ c ∈ cls, unitL c F = F
theorem unitA_fix {n : Nat} : ∀ {cls : List (List Lit)} {d : List Int}, DOk n d → ClsIn n cls → unitA cls d = d → FixU cls d
  | [], _, _, _, _ => fun _ h => (by cases h)
  | c :: cs, d, hd, h, e => by
    have h1 := unit_ok hd (h c (.head _))
    have h2 := unitA_ok (cls := cs) h1.1 (fun k hk => h k (.tail _ hk))
    have e1 : unitA cs (unitL c d) = d := e
    have e2 : unitL c d = d := by
      by_cases hne : unitL c d = d
      · exact hne
      · have a := h1.2.lt h1.1.d hd.d hne
        have b := h2.2.sum h2.1.d h1.1.d
        rw [e1] at b; omega
    rw [e2] at e1
    intro k hk
    rcases List.mem_cons.1 hk with rfl | hk
    · exact e2
    · exact unitA_fix hd (fun k hk => h k (.tail _ hk)) e1 k hk
theorem stepW_fix {m : Mod} {cls : List (List Lit)} {d : List Int} (hM : MOk m) (hd : DOk m.doms.length d) (hc : ClsIn m.doms.length cls) (hz : d.contains 0 = false) (e : stepW m cls d = d) : FixC m d ∧ FixU cls d := by
  have hp := propOk hM hd
  have h2 := unitA_ok hp.ok hc
  have e2 : unitA cls (prop m d) = d := e
  have e1 : prop m d = d := by
    by_cases hne : prop m d = d
    · exact hne
    · have a := hp.sub.lt hp.ok.d hd.d hne
      have b := h2.2.sum h2.1.d hp.ok.d
      rw [e2] at b; omega
  rw [e1] at e2
  have h3 := hp.fix
  rw [e1] at h3
  exact ⟨⟨hd, hz, h3.resolve_left (by rw [hz]; simp)⟩, unitA_fix hd hc e2⟩
theorem wcl_false {m : Mod} {cls : List (List Lit)} (hM : MOk m) (hc : ClsIn m.doms.length cls) : ∀ (k : Nat) {d : List Int}, sumN d = k → DOk m.doms.length d → (wcl m cls d).getD 0 0 ≠ 0 → ∃ F, FixC m F ∧ FixU cls F ∧ SubD F d := by
  intro k
  induction k using Nat.strongRecOn with
  | _ k ih =>
    intro d hk hd h
    cases h0 : d.contains 0 with
    | true => rw [wcl_0 h0, zeros_0] at h; exact absurd rfl h
    | false =>
      by_cases e : stepW m cls d = d
      · have := stepW_fix hM hd hc h0 e
        exact ⟨d, this.1, this.2, SubD.refl d⟩
      · rw [← wcl_step hM hd hc h0 e] at h
        have hs := stepW_ok hM hd hc
        obtain ⟨F, h1, h2, h3⟩ := ih _ (hk ▸ stepW_lt hM hd hc e) rfl hs.1 h
        exact ⟨F, h1, h2, h3.trans hs.2⟩
theorem nz_has {d e : Int} (hd : 0 ≤ d ∧ d ≤ 63) (he : 0 ≤ e ∧ e ≤ 63) : iand d e ≠ 0 ↔ ∃ v : Int, (0 ≤ v ∧ v ≤ 5) ∧ hasB d v = true ∧ hasB e v = true := by
  have h1 := and_has hd he
  constructor
  · intro h
    obtain ⟨v, hv⟩ := List.exists_mem_of_ne_nil _ (valsI_ne h1.1 h)
    have h2 := mem_valsI.1 hv
    have h3 := h2.2
    rw [h1.2 v h2.1, Bool.and_eq_true] at h3
    exact ⟨v, h2.1, h3⟩
  · rintro ⟨v, hv, h2, h3⟩ e
    have : v ∈ valsI (iand d _) := mem_valsI.2 ⟨hv, by rw [h1.2 v hv, h2, h3]; rfl⟩
    rw [e, valsI_0] at this; cases this
theorem FixC.ne {m : Mod} {F : List Int} (h : FixC m F) {i : Nat} (hi : i < m.doms.length) : ∃ v : Int, (0 ≤ v ∧ v ≤ 5) ∧ hasB (F.getD i 0) v = true := by
  have hi' : i < F.length := by rw [h.ok.l]; exact hi
  have h1 := h.ok.d.at hi'
  have h2 : F.getD i 0 ≠ 0 := fun e => by
    have h3 := getD_mem (d := (0 : Int)) hi'
    rw [e] at h3
    have h4 := List.contains_iff_mem.2 h3
    rw [h.z] at h4; cases h4
  obtain ⟨v, hv⟩ := List.exists_mem_of_ne_nil _ (valsI_ne h1 h2)
  exact ⟨v, mem_valsI.1 hv⟩
theorem FixC.nz {m : Mod} {F : List Int} (hM : MOk m) (h : FixC m F) : F ≠ zerosL F.length := fun e => by
  have hn := hM.n
  have h1 := h.z
  have h2 := zeros_all (d := F) hn.1 h.ok.l
  rw [← e, h1] at h2; cases h2
theorem opn_iff {n : Nat} {c : List Lit} {d : List Int} (hd : DOk n d) (hc : ClIn n c) {l : Lit} : l ∈ opnL c d ↔ l ∈ c ∧ ∃ v : Int, (0 ≤ v ∧ v ≤ 5) ∧ hasB (d.getD l.var.toNat 0) v = true ∧ hasB (truesI l) v = true := by
  unfold opnL
  rw [List.mem_filter]
  refine and_congr_right fun hl => ?_
  have h1 := hc l hl
  have h0 := h1.1
  rw [decide_eq_true_eq]
  exact nz_has (hd.d.at (by rw [hd.l]; omega)) (trues_ok h1.2)
theorem opn_T1 {l : Lit} {d : List Int} (h : iand (d.getD l.var.toNat 0) (truesI l) ≠ 0) : opnL [l] d = [l] := by
  unfold opnL; rw [List.filter_cons, if_pos (decide_eq_true h)]; rfl
theorem opn_F1 {l : Lit} {d : List Int} (h : ¬ iand (d.getD l.var.toNat 0) (truesI l) ≠ 0) : opnL [l] d = [] := by
  unfold opnL; rw [List.filter_cons, if_neg (by rw [decide_eq_false h]; simp)]; rfl
theorem opn_sub {n : Nat} {c : List Lit} {d e : List Int} (hd : DOk n d) (he : DOk n e) (hc : ClIn n c) (hs : SubD e d) : opnL c e = opnL (opnL c d) e := by
  unfold opnL
  rw [List.filter_filter]
  refine List.filter_congr fun l hl => ?_
  have h1 := hc l hl
  have h0 := h1.1
  have hi : l.var.toNat < d.length := by rw [hd.l]; omega
  by_cases h : iand (e.getD l.var.toNat 0) (truesI l) ≠ 0
  · obtain ⟨v, hv, h2, h3⟩ := (nz_has (he.d.at (by rw [he.l]; omega)) (trues_ok h1.2)).1 h
    have h4 := (nz_has (hd.d.at hi) (trues_ok h1.2)).2 ⟨v, hv, hs.2 _ hi v hv h2, h3⟩
    rw [decide_eq_true h, decide_eq_true h4]; rfl
  · rw [decide_eq_false h]; simp
theorem unit_mono {m : Mod} {c : List Lit} {F d : List Int} (hM : MOk m) (hF : FixC m F) (hd : DOk m.doms.length d) (hc : ClIn m.doms.length c) (hs : SubD F d) (hu : unitL c F = F) : SubD F (unitL c d) := by
  have e := opn_sub hd hF.ok hc hs
  match h : opnL c d with
  | [] =>
    rw [h] at e
    have := unit_0 e
    rw [hu] at this
    exact absurd this (hF.nz hM)
  | [l] =>
    have hl := hc l (opn_mem (by rw [h]; exact .head _))
    rw [h] at e
    rw [unit_1 h]
    have hF1 : setT F l = F := by
      by_cases h1 : iand (F.getD l.var.toNat 0) (truesI l) ≠ 0
      · rw [← unit_1 (c := c) (l := l) (e.trans (opn_T1 h1))]; exact hu
      · have h2 : opnL [l] F = [] := opn_F1 h1
        rw [h2] at e
        have := unit_0 e
        rw [hu] at this
        exact absurd this (hF.nz hM)
    refine ⟨by rw [setT_len]; exact hs.1, fun i hi v hv h3 => ?_⟩
    rw [setT_len, hd.l] at hi
    rw [setT_has hd hl hi hv, hs.2 i (by rw [hd.l]; exact hi) v hv h3, Bool.true_and]
    rw [← hF1, setT_has hF.ok hl hi hv, Bool.and_eq_true] at h3
    exact h3.2
  | a :: b :: r => rw [unit_2 (by rw [h]; simp)]; exact hs
theorem unitA_mono {m : Mod} {F : List Int} (hM : MOk m) (hF : FixC m F) : ∀ {cls : List (List Lit)} {d : List Int}, DOk m.doms.length d → ClsIn m.doms.length cls → SubD F d → FixU cls F → SubD F (unitA cls d)
  | [], _, _, _, hs, _ => hs
  | c :: cs, d, hd, hc, hs, hu => by
    have h1 := unit_mono hM hF hd (hc c (.head _)) hs (hu c (.head _))
    exact unitA_mono hM hF (cls := cs) (unit_ok hd (hc c (.head _))).1 (fun k hk => hc k (.tail _ hk)) h1 (fun k hk => hu k (.tail _ hk))
theorem FixC.fix {m : Mod} {F : List Int} (hM : MOk m) (h : FixC m F) : filtA m F = F := (filtA_fix hM h.ok).2 h.c
theorem FixC.prop {m : Mod} {F d : List Int} (hM : MOk m) (h : FixC m F) (hd : DOk m.doms.length d) (hs : SubD F d) : SubD F (prop m d) := prop_top hM h.ok (h.fix hM) h.z _ rfl hd hs
theorem FixC.has {m : Mod} {F d : List Int} (h : FixC m F) (hd : DOk m.doms.length d) (hs : SubD F d) : d.contains 0 = false := by
  cases h0 : d.contains 0 with
  | false => rfl
  | true =>
    exfalso
    obtain ⟨i, hi, h1⟩ := List.getElem_of_mem (List.contains_iff_mem.1 h0)
    have h2 : d.getD i 0 = 0 := by simp [List.getD, hi, h1]
    obtain ⟨v, hv, h3⟩ := h.ne (i := i) (by rw [← hd.l]; exact hi)
    have h4 : v ∈ valsI (d.getD i 0) := mem_valsI.2 ⟨hv, hs.2 i hi v hv h3⟩
    rw [h2, valsI_0] at h4; cases h4
theorem wcl_top {m : Mod} {cls : List (List Lit)} {F : List Int} (hM : MOk m) (hc : ClsIn m.doms.length cls) (hF : FixC m F) (hu : FixU cls F) : ∀ (k : Nat) {d : List Int}, sumN d = k → DOk m.doms.length d → SubD F d → SubD F (wcl m cls d) := by
  intro k
  induction k using Nat.strongRecOn with
  | _ k ih =>
    intro d hk hd hs
    have h0 := hF.has hd hs
    by_cases e : stepW m cls d = d
    · rw [wcl_fix h0 e]; exact hs
    · rw [← wcl_step hM hd hc h0 e]
      exact ih _ (hk ▸ stepW_lt hM hd hc e) rfl (stepW_ok hM hd hc).1 (unitA_mono hM hF (propOk hM hd).ok hc (hF.prop hM hd hs) hu)
/-- A refutation fails if and only if something is left. -/
theorem rf_iff {m : Mod} {cls : List (List Lit)} {d : List Int} (hM : MOk m) (hc : ClsIn m.doms.length cls) (hd : DOk m.doms.length d) : rfE m cls d = false ↔ ∃ F, FixC m F ∧ FixU cls F ∧ SubD F d := by
  unfold rfE
  rw [decide_eq_false_iff_not]
  constructor
  · exact wcl_false hM hc _ rfl hd
  · rintro ⟨F, h1, h2, h3⟩ e
    have hn := hM.n
    have h4 := wcl_top hM hc h1 h2 _ rfl hd h3
    obtain ⟨v, hv, h5⟩ := h1.ne (i := 0) (by omega)
    have h6 : v ∈ valsI ((wcl m cls d).getD 0 0) := mem_valsI.2 ⟨hv, h4.2 0 (by rw [← h4.1, h1.ok.l]; omega) v hv h5⟩
    rw [e, valsI_0] at h6; cases h6
theorem imp_iff {m : Mod} {cls : List (List Lit)} {c : List Lit} (hM : MOk m) (hc : ClsIn m.doms.length cls) (h : ClIn m.doms.length c) : impB m cls c = false ↔ ∃ F, FixC m F ∧ FixU cls F ∧ SubD F (rstN m.doms c) :=
  rf_iff hM hc (rstL_ok hM.dok (negs_in h)).1
theorem rstN_ok {n : Nat} {d : List Int} {c : List Lit} (hd : DOk n d) (hc : ClIn n c) : DOk n (rstN d c) := (rstL_ok hd (negs_in hc)).1
theorem rstN_has {n : Nat} {d : List Int} {c : List Lit} (hd : DOk n d) (hc : ClIn n c) {i : Nat} (hi : i < n) {v : Int} (hv : 0 ≤ v ∧ v ≤ 5) : hasB ((rstN d c).getD i 0) v = true ↔ hasB (d.getD i 0) v = true ∧ ∀ l ∈ c, i = l.var.toNat → hasB (truesI (negL l)) v = true := by
  unfold rstN
  rw [rstL_has hi hv hd (negs_in hc), Bool.and_eq_true, List.all_eq_true]
  refine and_congr_right fun _ => ?_
  constructor
  · intro h l hl e
    have := h (negL l) (List.mem_map.2 ⟨l, hl, rfl⟩)
    rw [Bool.or_eq_true] at this
    rcases this with h1 | h1
    · rw [show (negL l).var = l.var from rfl, decide_eq_true e] at h1; cases h1
    · exact h1
  · intro h k hk
    obtain ⟨l, hl, rfl⟩ := List.mem_map.1 hk
    rw [Bool.or_eq_true]
    by_cases e : i = l.var.toNat
    · exact .inr (h l hl e)
    · left; rw [show (negL l).var = l.var from rfl, decide_eq_false e]; rfl
theorem neg_no {l : Lit} {v : Int} (hl : 0 ≤ l.val ∧ l.val ≤ 5) (hv : 0 ≤ v ∧ v ≤ 5) : hasB (truesI (negL l)) v = !(hasB (truesI l) v) := by
  rw [trues_has (l := negL l) hl hv, trues_has hl hv]
  show (decide (v = l.val) != !l.neg) = !(decide (v = l.val) != l.neg)
  cases decide (v = l.val) <;> cases l.neg <;> rfl
/-! What accepted proofs say. -/
def snglL (x : List Int) : List Int := x.map (fun v => ishl 1 v)
theorem sngl_at {x : List Int} {i : Nat} (hi : i < x.length) : (snglL x).getD i 0 = ishl 1 (x.getD i 0) := by simp [snglL, List.getD, hi]
theorem sngl_has {x : List Int} (hx : Vals x) {i : Nat} (hi : i < x.length) {v : Int} (hv : 0 ≤ v ∧ v ≤ 5) : hasB ((snglL x).getD i 0) v = true ↔ v = x.getD i 0 := by
  rw [sngl_at hi]
  have h1 := hx.at hi
  have h2 : v ∈ valsI (ishl 1 (x.getD i 0)) ↔ v = x.getD i 0 := by rw [valsI_one h1, List.mem_singleton]
  rw [← h2, mem_valsI]
  exact ⟨fun h => ⟨hv, h⟩, fun h => h.2⟩
theorem sngl_ok {x : List Int} (hx : Vals x) : DOk x.length (snglL x) := ⟨by simp [snglL], fun d hd => by
  obtain ⟨v, hv, rfl⟩ := List.mem_map.1 hd
  have := ishl_small (hx v hv)
  omega⟩
theorem sngl_sub {x d : List Int} (hx : Vals x) : SubD (snglL x) d ↔ Box d x := by
  constructor
  · rintro ⟨h1, h2⟩
    have hl : x.length = d.length := by rw [← h1]; simp [snglL]
    refine ⟨hl, fun i hi => ?_⟩
    have hv := hx.at (k := i) (by omega)
    exact mem_valsI.2 ⟨hv, h2 i hi _ hv ((sngl_has hx (by omega) hv).2 rfl)⟩
  · rintro ⟨h1, h2⟩
    refine ⟨by simp [snglL, h1], fun i hi v hv h => ?_⟩
    rw [(sngl_has hx (by omega) hv).1 h]
    exact (mem_valsI.1 (h2 i hi)).2
theorem subD_anti {n : Nat} {a b : List Int} (ha : DOk n a) (hb : DOk n b) (h1 : SubD a b) (h2 : SubD b a) : a = b :=
  domL_ext ha hb (fun i hi v hv => Bool.eq_iff_iff.2 ⟨h1.2 i (by rw [hb.l]; exact hi) v hv, h2.2 i (by rw [ha.l]; exact hi) v hv⟩)
theorem sngl_fix {m : Mod} {x : List Int} (hM : MOk m) (hx : x ∈ sols m) : FixC m (snglL x) := by
  have hv := sols_vals hx
  have hl := sols_len hx
  have ok : DOk m.doms.length (snglL x) := hl ▸ sngl_ok hv
  refine ⟨ok, ?_, ?_⟩
  · rw [Bool.eq_false_iff]
    intro h
    have h1 := (ok.d _ (List.contains_iff_mem.1 h))
    obtain ⟨v, hv2, h2⟩ := List.mem_map.1 (List.contains_iff_mem.1 h)
    have := ishl_small (hv v hv2)
    omega
  · unfold consB
    rw [List.all_eq_true]
    intro c hc
    have h1 := (sols_mem.1 hx).2
    have h2 := hM.cons c hc
    have h3 : Box (snglL x) x := (sngl_sub hv).1 (SubD.refl _)
    have h4 := filt_sound h2 ok.l h3 (List.all_eq_true.1 h1 c hc)
    rw [decide_eq_true_eq]
    exact subD_anti ⟨(filtL_len _ _).trans ok.l, filt_dom h2 ok.l ok.d⟩ ok (filt_sub h2 ok.l) ((sngl_sub hv).2 h4)
def clH (x : List Int) (c : List Lit) : Bool := c.any (holdL x)
theorem hold_has {l : Lit} {x : List Int} (hl : 0 ≤ l.val ∧ l.val ≤ 5) (hx : 0 ≤ x.getD l.var.toNat 0 ∧ x.getD l.var.toNat 0 ≤ 5) : hasB (truesI l) (x.getD l.var.toNat 0) = holdL x l := trues_has hl hx
theorem sngl_unit {c : List Lit} {x : List Int} (hx : Vals x) (hc : ClIn x.length c) (h : clH x c = true) : unitL c (snglL x) = snglL x := by
  have ok := sngl_ok hx
  have key : ∀ l ∈ opnL c (snglL x), holdL x l = true := fun l hl => by
    obtain ⟨h1, v, hv, h2, h3⟩ := (opn_iff ok hc).1 hl
    have hin := hc l h1
    have hin1 := hin.1
    have e := (sngl_has hx (by omega) hv).1 h2
    subst e
    rwa [hold_has hin.2 hv] at h3
  obtain ⟨l, hl, h1⟩ := List.any_eq_true.1 h
  have hin := hc l hl
  have hin1 := hin.1
  have hvx := hx.at (k := l.var.toNat) (by omega)
  have hm : l ∈ opnL c (snglL x) := (opn_iff ok hc).2 ⟨hl, _, hvx, (sngl_has hx (by omega) hvx).2 rfl, by rw [hold_has hin.2 hvx]; exact h1⟩
  match h2 : opnL c (snglL x), hm with
  | [], hm => cases hm
  | [k], hm =>
    have e := List.mem_singleton.1 hm
    subst e
    rw [unit_1 h2]
    refine domL_ext (setT_ok ok hin).1 ok (fun i hi v hv => ?_)
    rw [setT_has ok hin hi hv]
    cases h3 : hasB ((snglL x).getD i 0) v with
    | false => rfl
    | true =>
      have e := (sngl_has hx hi hv).1 h3
      subst e
      by_cases e2 : i = l.var.toNat
      · subst e2; rw [hold_has hin.2 hvx, h1]; simp
      · rw [decide_eq_false e2]; rfl
  | a :: b :: r, _ => exact unit_2 (by rw [h2]; simp)
theorem imp_sound {m : Mod} {cls : List (List Lit)} {c : List Lit} {x : List Int} (hM : MOk m) (hcl : ClsIn m.doms.length cls) (hc : ClIn m.doms.length c) (hx : x ∈ sols m) (h : ∀ k ∈ cls, clH x k = true) (hi : impB m cls c = true) : clH x c = true := by
  cases h9 : clH x c with
  | true => rfl
  | false =>
    exfalso
    have hv := sols_vals hx
    have hl := sols_len hx
    have hb := (sols_mem.1 hx).1
    have : impB m cls c = false := by
      refine (imp_iff hM hcl hc).2 ⟨snglL x, sngl_fix hM hx, fun k hk => sngl_unit hv (hl ▸ hcl k hk) (h k hk), ?_⟩
      refine (sngl_sub hv).2 ⟨by rw [hl, (rstN_ok hM.dok hc).l], fun i hi => ?_⟩
      rw [(rstN_ok hM.dok hc).l] at hi
      have hxi := hv.at (k := i) (by omega)
      refine mem_valsI.2 ⟨hxi, (rstN_has hM.dok hc hi hxi).2 ⟨(mem_valsI.1 (hb.2 i hi)).2, fun l hl2 e => ?_⟩⟩
      subst e
      rw [neg_no (hc l hl2).2 hxi, hold_has (hc l hl2).2 hxi]
      have := List.any_eq_false.1 h9 l hl2
      simpa using this
    rw [this] at hi; cases hi
theorem chk_all {m : Mod} {p : List (List Lit)} (h : chkP m p = true) : CkOk m p ∧ ∀ i, i < p.length → impB m (p.take i) (p.getD i []) = true := by
  unfold chkP at h
  split at h
  · cases h
  · rename_i h1
    exact ⟨ck_ok (by simpa using h1), fun i hi => List.all_eq_true.1 h i (List.mem_range.2 hi)⟩
theorem chk_sound {m : Mod} {p : List (List Lit)} (h : chkP m p = true) {x : List Int} (hx : x ∈ sols m) : False := by
  obtain ⟨ck, hall⟩ := chk_all h
  have key : ∀ k, k ≤ p.length → ∀ c ∈ p.take k, clH x c = true := by
    intro k
    induction k with
    | zero => intro _ c hc; simp at hc
    | succ k ih =>
      intro hk c hc
      have ih := ih (by omega)
      rw [take_succ_getD [] (by omega)] at hc
      rcases List.mem_append.1 hc with hc | hc
      · exact ih c hc
      · rw [List.mem_singleton.1 hc]
        exact imp_sound ck.hM (cls_take ck.hp k) (cls_at ck.hp (by omega)) hx ih (hall k (by omega))
  have h0 := ck.h0
  have := key p.length (Nat.le_refl _) (p.getD (p.length - 1) []) (by rw [List.take_length]; exact getD_mem (by omega))
  rw [ck.hl] at this
  cases this
/-! The bound. -/
theorem iota_word {x : List Int} : wordL (iotaN x.length) x = x := by
  apply List.ext_getElem
  · simp [wordL, iotaN]
  · intro i h1 h2
    simp [wordL, iotaN, List.getD, h2]
theorem low_at {obj x : List Int} {b : Int} (hl : obj.length = x.length) : conAt x (lowC obj.length obj b) = decide (dotTo obj x x.length ≤ b) := by
  unfold conAt
  rw [sat_1 rfl]
  show decide (dotTo obj (wordL (iotaN obj.length) x) (wordL (iotaN obj.length) x).length ≤ b) = _
  rw [hl, iota_word]
theorem bd_go {m : Mod} {obj : List Int} {b : Int} (h : (bdR m obj b).2 = true) : bdG m obj b = true ∧ validModB (withC m (lowC obj.length obj (b - 1))) = true ∧ (bdR m obj b).1 = withC m (lowC obj.length obj (b - 1)) := by
  unfold bdR wcR at h ⊢
  by_cases h1 : bdG m obj b = true
  · rw [if_pos h1] at h ⊢
    by_cases h2 : validModB (withC m (lowC obj.length obj (b - 1))) = true
    · rw [if_pos h2]; exact ⟨h1, h2, rfl⟩
    · rw [if_neg h2] at h; cases h
  · rw [if_neg h1] at h; cases h
theorem withC_sol {m : Mod} {c : Con} {x : List Int} (hx : x ∈ sols m) (h : conAt x c = true) : x ∈ sols (withC m c) := by
  have h1 := sols_mem.1 hx
  refine sols_mem.2 ⟨h1.1, ?_⟩
  unfold metB withC
  rw [List.all_append, Bool.and_eq_true]
  exact ⟨h1.2, by simpa using h⟩
theorem chkB_go {m : Mod} {obj : List Int} {b : Int} {p : List (List Lit)} (h : chkB m obj b p = true) : (bdR m obj b).2 = true ∧ chkP (withC m (lowC obj.length obj (b - 1))) p = true ∧ bdG m obj b = true ∧ validModB (withC m (lowC obj.length obj (b - 1))) = true := by
  unfold chkB at h
  rw [Bool.and_eq_true] at h
  have h1 := bd_go h.1
  rw [h1.2.2] at h
  exact ⟨h.1, h.2, h1.1, h1.2.1⟩
theorem bdG_obj {m : Mod} {obj : List Int} {b : Int} (h : bdG m obj b = true) : objOkB m obj = true ∧ -998 ≤ b ∧ b ≤ 1000 := by
  unfold bdG at h
  rw [Bool.and_eq_true, withinB_iff] at h
  exact h
/-- An accepted bound is true. -/
theorem chkB_sound {m : Mod} {obj : List Int} {b : Int} {p : List (List Lit)} (h : chkB m obj b p = true) {x : List Int} (hx : x ∈ sols m) : b ≤ objVal obj x := by
  obtain ⟨h1, h2, h3, h4⟩ := chkB_go h
  have ho := objok (bdG_obj h3).1
  have hl := sols_len hx
  rw [objVal_sol (bdG_obj h3).1 hx]
  by_cases h5 : b ≤ dotTo obj x m.doms.length
  · exact h5
  · exact (chk_sound h2 (withC_sol hx (by rw [low_at (by rw [ho.2.1, hl]), hl]; exact decide_eq_true (by omega)))).elim
/-! A written proof is accepted. -/
def Inv (m : Mod) (ds : List Int) (cl : List Lit) : Prop := ∀ F, FixC m F → SubD F (rstN m.doms cl) → SubD F ds
theorem fold_ok {f : Int → List (List Lit) × Bool} : ∀ {vs : List Int}, (foldR f vs).2 = true → ∀ v ∈ vs, (f v).2 = true ∧ ∀ c ∈ (f v).1, c ∈ (foldR f vs).1
  | [], _, _, hv => (by cases hv)
  | u :: vs, h, v, hv => by
    rw [foldR] at h ⊢
    split at h
    · rename_i h1
      rw [if_pos h1]
      rcases List.mem_cons.1 hv with rfl | hv
      · exact ⟨h1, fun c hc => List.mem_append_left _ hc⟩
      · have := fold_ok (vs := vs) h v hv
        exact ⟨this.1, fun c hc => List.mem_append_right _ (this.2 c hc)⟩
    · cases h
theorem ref_end {m : Mod} : ∀ {k : Nat} {ds : List Int} {cl : List Lit}, (refF k m ds cl).2 = true → ∃ s, (refF k m ds cl).1 = s ++ [cl] := by
  intro k ds cl h
  cases h0 : (prop m ds).contains 0 with
  | true => rw [ref_0 h0]; exact ⟨[], rfl⟩
  | false =>
    by_cases ho : opI (prop m ds) < 0
    · rw [ref_leaf h0 ho] at h; cases h
    · cases k with
      | zero => unfold refF at h; rw [if_neg (by rw [h0]; simp)] at h; cases h
      | succ k =>
        rw [ref_node h0 ho] at h ⊢
        unfold endR at h ⊢
        split at h
        · rename_i h1; rw [if_pos h1]; exact ⟨_, rfl⟩
        · cases h
theorem rst_snoc {m : Mod} {cl : List Lit} {l : Lit} : rstN m.doms (cl ++ [l]) = setT (rstN m.doms cl) (negL l) := by
  unfold rstN rstL; rw [List.map_append, List.foldl_append]; rfl
structure Acc (m : Mod) (pre s : List (List Lit)) : Prop where
  c : ∀ i, i < s.length → impB m (pre ++ s.take i) (s.getD i []) = true
theorem Acc.app {m : Mod} {pre a b : List (List Lit)} (h1 : Acc m pre a) (h2 : Acc m (pre ++ a) b) : Acc m pre (a ++ b) := ⟨fun i hi => by
  rw [List.length_append] at hi
  by_cases h : i < a.length
  · have := h1.c i h
    rw [List.take_append_of_le_length (by omega), show (a ++ b).getD i [] = a.getD i [] from by simp [List.getD, List.getElem?_append_left h]]
    exact this
  · have := h2.c (i - a.length) (by omega)
    rw [List.take_append, List.take_of_length_le (by omega : a.length ≤ i), ← List.append_assoc, show (a ++ b).getD i [] = b.getD (i - a.length) [] from by simp [List.getD, List.getElem?_append_right (by omega : a.length ≤ i)]]
    exact this⟩
theorem Acc.one {m : Mod} {pre : List (List Lit)} {c : List Lit} (h : impB m pre c = true) : Acc m pre [c] := ⟨fun i hi => by
  have : i = 0 := by simpa using hi
  subst this; simpa using h⟩
theorem Acc.nil {m : Mod} {pre : List (List Lit)} : Acc m pre [] := ⟨fun i hi => (by simp at hi)⟩
theorem cls_app {n : Nat} {a b : List (List Lit)} (h1 : ClsIn n a) (h2 : ClsIn n b) : ClsIn n (a ++ b) := fun c hc => (List.mem_append.1 hc).elim (h1 c) (h2 c)
theorem path_cl {n : Nat} {ds : List Int} {cl : List Lit} (h : PathOk n ds cl) : ClIn n cl := fun l hl => (h.l l hl).1
/-- What is fixed on the way: the clause of a node is refuted by what its children left. -/
theorem node_ref {m : Mod} {pre : List (List Lit)} {ds : List Int} {cl : List Lit} (hM : MOk m) (hp : ClsIn m.doms.length pre) (hd : DOk m.doms.length ds) (hpa : PathOk m.doms.length ds cl) (hi : Inv m ds cl) (h0 : (prop m ds).contains 0 = false) (ho : ¬ opI (prop m ds) < 0) (hch : ∀ v ∈ valsI ((prop m ds).getD (opI (prop m ds)).toNat 0), cl ++ [⟨opI (prop m ds), v, true⟩] ∈ pre) : impB m pre cl = true := by
  cases h : impB m pre cl with
  | true => rfl
  | false =>
    exfalso
    have hcl := path_cl hpa
    obtain ⟨F, f1, f2, f3⟩ := (imp_iff hM hp hcl).1 h
    have hP := propOk hM hd
    have f4 := f1.prop hM hd (hi F f1 f3)
    have hpin := op_in ho
    have hin : (opI (prop m ds)).toNat < m.doms.length := by rw [← hP.ok.l]; omega
    obtain ⟨v, hv, h1⟩ := f1.ne hin
    have h2 : v ∈ valsI ((prop m ds).getD (opI (prop m ds)).toNat 0) := mem_valsI.2 ⟨hv, f4.2 _ (by rw [hP.ok.l]; exact hin) v hv h1⟩
    have hk := hch v h2
    have hu := f2 _ hk
    have hlv : LitIn m.doms.length ⟨opI (prop m ds), v, true⟩ := ⟨⟨by dsimp only; omega, by dsimp only; rw [← hP.ok.l]; omega⟩, hv⟩
    have e1 : opnL cl F = [] := by
      rw [List.eq_nil_iff_forall_not_mem]
      intro l hl
      obtain ⟨hl, w, hw, h3, h4⟩ := (opn_iff f1.ok hcl).1 hl
      have hli := hcl l hl
      have hlt : l.var.toNat < m.doms.length := by have := hli.1; omega
      have h5 := f3.2 l.var.toNat (by rw [(rstN_ok hM.dok hcl).l]; exact hlt) w hw h3
      have h6 := ((rstN_has hM.dok hcl hlt hw).1 h5).2 l hl rfl
      rw [neg_no hli.2 hw, h4] at h6; cases h6
    have e2 : opnL (cl ++ [⟨opI (prop m ds), v, true⟩]) F = opnL [⟨opI (prop m ds), v, true⟩] F := by
      have : opnL (cl ++ [⟨opI (prop m ds), v, true⟩]) F = opnL cl F ++ opnL [⟨opI (prop m ds), v, true⟩] F := by unfold opnL; rw [List.filter_append]
      rw [this, e1, List.nil_append]
    by_cases h5 : iand (F.getD (opI (prop m ds)).toNat 0) (truesI ⟨opI (prop m ds), v, true⟩) ≠ 0
    · have e3 : opnL [⟨opI (prop m ds), v, true⟩] F = [⟨opI (prop m ds), v, true⟩] := opn_T1 (l := ⟨opI (prop m ds), v, true⟩) h5
      rw [unit_1 (e2.trans e3)] at hu
      have h8 := setT_has f1.ok hlv hin hv
      rw [hu, h1, Bool.true_and] at h8
      have h6 : hasB (truesI ⟨opI (prop m ds), v, true⟩) v = true := by simpa using h8.symm
      rw [trues_has (l := ⟨opI (prop m ds), v, true⟩) hv hv] at h6
      simp at h6
    · have e3 : opnL [⟨opI (prop m ds), v, true⟩] F = [] := opn_F1 (l := ⟨opI (prop m ds), v, true⟩) h5
      rw [unit_0 (e2.trans e3)] at hu
      exact f1.nz hM hu.symm
theorem inv_child {m : Mod} {ds : List Int} {cl : List Lit} {v : Int} (hM : MOk m) (hd : DOk m.doms.length ds) (hpa : PathOk m.doms.length ds cl) (hi : Inv m ds cl) (ho : ¬ opI (prop m ds) < 0) (hv : 0 ≤ v ∧ v ≤ 5) : Inv m ((prop m ds).set (opI (prop m ds)).toNat (ishl 1 v)) (cl ++ [⟨opI (prop m ds), v, true⟩]) := fun F f1 f3 => by
  have hP := propOk hM hd
  have hpin := op_in ho
  have hcl := path_cl hpa
  have hlv : LitIn m.doms.length ⟨opI (prop m ds), v, true⟩ := ⟨⟨by dsimp only; omega, by dsimp only; rw [← hP.ok.l]; omega⟩, hv⟩
  rw [rst_snoc] at f3
  have hok := rstN_ok hM.dok hcl
  have hst := setT_ok (l := negL ⟨opI (prop m ds), v, true⟩) hok hlv
  have f4 := f1.prop hM hd (hi F f1 (f3.trans hst.2))
  refine ⟨by rw [List.length_set]; exact f4.1, fun i hi2 w hw h9 => ?_⟩
  rw [List.length_set, hP.ok.l] at hi2
  by_cases e : i = (opI (prop m ds)).toNat
  · have h1 := f3.2 i (by rw [hst.1.l]; exact hi2) w hw h9
    have h2 := setT_has (d := rstN m.doms cl) (l := negL ⟨opI (prop m ds), v, true⟩) hok hlv hi2 hw
    rw [h1] at h2
    have h3 : hasB (truesI (negL ⟨opI (prop m ds), v, true⟩)) w = true := by
      have h4 := h2.symm
      rw [Bool.and_eq_true, Bool.or_eq_true] at h4
      rcases h4.2 with h5 | h5
      · rw [show (negL ⟨opI (prop m ds), v, true⟩).var = opI (prop m ds) from rfl, decide_eq_true e] at h5; cases h5
      · exact h5
    rw [neg_no (l := ⟨opI (prop m ds), v, true⟩) hv hw, trues_has (l := ⟨opI (prop m ds), v, true⟩) hv hw] at h3
    have e3 : w = v := by simpa using h3
    subst e3
    rw [show ((prop m ds).set (opI (prop m ds)).toNat (ishl 1 w)).getD i 0 = ishl 1 w from by rw [e]; simp [List.getD, (by rw [hP.ok.l, ← e]; exact hi2 : (opI (prop m ds)).toNat < (prop m ds).length)]]
    exact (mem_valsI.1 (by rw [valsI_one hv]; exact .head _ : w ∈ valsI (ishl 1 w))).2
  · have e' : (opI (prop m ds)).toNat ≠ i := fun h => e h.symm
    rw [show ((prop m ds).set (opI (prop m ds)).toNat (ishl 1 v)).getD i 0 = (prop m ds).getD i 0 from by simp [List.getD, List.getElem?_set, e']]
    exact f4.2 i (by rw [hP.ok.l]; exact hi2) w hw h9
/-- Clauses that the search writes are valid. -/
theorem path_clI {m : Mod} {ds : List Int} {cl : List Lit} (hM : MOk m) (h : PathOk m.doms.length ds cl) : clI (m.doms.length : Int) cl = true := by
  have hn := hM.n
  have hl := path_len h
  unfold clI clTo
  rw [Bool.and_eq_true, Bool.and_eq_true, List.all_eq_true]
  refine ⟨fun i hi => ?_, withinB_iff.2 (by omega), decide_eq_true (by omega)⟩
  have hi := List.mem_range.1 hi
  have h1 := (h.l _ (getD_mem (d := nilLit) hi)).1
  unfold clAt litOkB
  rw [Bool.and_eq_true, Bool.and_eq_true]
  refine ⟨⟨withinB_iff.2 (by have := h1.1; omega), withinB_iff.2 h1.2⟩, ?_⟩
  by_cases h0 : i = 0
  · subst h0; simp
  · have h2 := (List.pairwise_iff_getElem.1 h.s) (i - 1) i (by omega) hi (by omega)
    have e : litLt (cl.getD ((i : Int) - 1).toNat nilLit) (cl.getD i nilLit) = true := by
      rw [show ((i : Int) - 1).toNat = i - 1 from by omega, litLt_iff]
      left
      simpa [List.getD, hi, (by omega : i - 1 < cl.length)] using h2
    rw [e]; simp
theorem op_child {m : Mod} {ds : List Int} {cl : List Lit} {v : Int} (hM : MOk m) (hd : DOk m.doms.length ds) (hpa : PathOk m.doms.length ds cl) (ho : ¬ opI (prop m ds) < 0) (hv : 0 ≤ v ∧ v ≤ 5) : DOk m.doms.length ((prop m ds).set (opI (prop m ds)).toNat (ishl 1 v)) ∧ PathOk m.doms.length ((prop m ds).set (opI (prop m ds)).toNat (ishl 1 v)) (cl ++ [⟨opI (prop m ds), v, true⟩]) := by
  have hP := propOk hM hd
  refine ⟨⟨by rw [List.length_set]; exact hP.ok.l, fun d hm => ?_⟩, path_child (path_prop hM hd hpa) hP.ok.l ho hv⟩
  rcases List.mem_or_eq_of_mem_set hm with h | h
  · exact hP.ok.d d h
  · rw [h]; have := ishl_small hv; omega
theorem ref_acc {m : Mod} (hM : MOk m) : ∀ (k : Nat) {ds : List Int} {cl : List Lit} {pre : List (List Lit)}, DOk m.doms.length ds → PathOk m.doms.length ds cl → Inv m ds cl → ClsIn m.doms.length pre → (refF k m ds cl).2 = true →
    Acc m pre (refF k m ds cl).1 ∧ ∀ c ∈ (refF k m ds cl).1, ClIn m.doms.length c ∧ clI (m.doms.length : Int) c = true := by
  intro k
  induction k with
  | zero =>
    intro ds cl pre hd hpa hi hp h
    cases h0 : (prop m ds).contains 0 with
    | true =>
      rw [ref_0 h0]
      refine ⟨Acc.one ?_, fun c hc => by rw [List.mem_singleton.1 hc]; exact ⟨path_cl hpa, path_clI hM hpa⟩⟩
      cases h1 : impB m pre cl with
      | true => rfl
      | false =>
        exfalso
        obtain ⟨F, f1, f2, f3⟩ := (imp_iff hM hp (path_cl hpa)).1 h1
        have := f1.has (propOk hM hd).ok (f1.prop hM hd (hi F f1 f3))
        rw [h0] at this; cases this
    | false => unfold refF at h; rw [if_neg (by rw [h0]; simp)] at h; cases h
  | succ k ih =>
    intro ds cl pre hd hpa hi hp h
    cases h0 : (prop m ds).contains 0 with
    | true =>
      rw [ref_0 h0]
      refine ⟨Acc.one ?_, fun c hc => by rw [List.mem_singleton.1 hc]; exact ⟨path_cl hpa, path_clI hM hpa⟩⟩
      cases h1 : impB m pre cl with
      | true => rfl
      | false =>
        exfalso
        obtain ⟨F, f1, f2, f3⟩ := (imp_iff hM hp (path_cl hpa)).1 h1
        have := f1.has (propOk hM hd).ok (f1.prop hM hd (hi F f1 f3))
        rw [h0] at this; cases this
    | false =>
      by_cases ho : opI (prop m ds) < 0
      · rw [ref_leaf h0 ho] at h; cases h
      · rw [ref_node h0 ho] at h ⊢
        have h2 : (foldR (chR k m (prop m ds) cl) (valsI ((prop m ds).getD (opI (prop m ds)).toNat 0))).2 = true := by
          unfold endR at h; split at h
          · assumption
          · cases h
        have hfold : ∀ (vs : List Int) (pre : List (List Lit)), (∀ v ∈ vs, 0 ≤ v ∧ v ≤ 5) → ClsIn m.doms.length pre → (foldR (chR k m (prop m ds) cl) vs).2 = true →
            Acc m pre (foldR (chR k m (prop m ds) cl) vs).1 ∧ ∀ c ∈ (foldR (chR k m (prop m ds) cl) vs).1, ClIn m.doms.length c ∧ clI (m.doms.length : Int) c = true := by
          intro vs
          induction vs with
          | nil => intro pre _ _ _; exact ⟨Acc.nil, fun _ h => (by cases h)⟩
          | cons v vs ihv =>
            intro pre hvs hp h
            rw [foldR] at h ⊢
            split at h
            · rename_i h3
              rw [if_pos h3]
              have hv := hvs v (.head _)
              have hc := op_child hM hd hpa ho hv
              have a1 := ih (pre := pre) hc.1 hc.2 (inv_child hM hd hpa hi ho hv) hp h3
              have a2 := ihv (pre ++ (chR k m (prop m ds) cl v).1) (fun u hu => hvs u (.tail _ hu)) (cls_app hp (fun c hc => (a1.2 c hc).1)) h
              refine ⟨a1.1.app a2.1, fun c hc => ?_⟩
              rcases List.mem_append.1 hc with hc | hc
              · exact a1.2 c hc
              · exact a2.2 c hc
            · cases h
        have hf := hfold _ pre (fun v hv => valsI_mem hv) hp h2
        unfold endR
        rw [if_pos h2]
        refine ⟨hf.1.app (Acc.one (node_ref hM (cls_app hp (fun c hc => (hf.2 c hc).1)) hd hpa hi h0 ho (fun v hv => ?_))), fun c hc => ?_⟩
        · have h3 := fold_ok h2 v hv
          obtain ⟨s, e⟩ := ref_end h3.1
          refine List.mem_append_right _ (h3.2 _ ?_)
          show cl ++ [⟨opI (prop m ds), v, true⟩] ∈ (refF k m ((prop m ds).set (opI (prop m ds)).toNat (ishl 1 v)) (cl ++ [⟨opI (prop m ds), v, true⟩])).1
          have e2 : (refF k m ((prop m ds).set (opI (prop m ds)).toNat (ishl 1 v)) (cl ++ [⟨opI (prop m ds), v, true⟩])).1 = s ++ [cl ++ [⟨opI (prop m ds), v, true⟩]] := e
          rw [e2]; exact List.mem_append_right _ (.head _)
        · rcases List.mem_append.1 hc with hc | hc
          · exact hf.2 c hc
          · rw [List.mem_singleton.1 hc]; exact ⟨path_cl hpa, path_clI hM hpa⟩
theorem inf_chk {m : Mod} (h : (infR m).2 = true) : chkP m (infR m).1 = true := by
  cases hv : validModB m with
  | false => rw [inf_nv hv] at h; cases h
  | true =>
    have hM : MOk m := ⟨hv⟩
    rw [inf_v hv] at h ⊢
    unfold limO at h ⊢
    split at h
    · rename_i h1
      rw [if_pos h1]
      dsimp only
      have ha := ref_acc hM m.doms.length (ds := m.doms) (cl := []) (pre := []) hM.dok (path_nil _ _) (fun F _ h => h) (fun _ h => (by cases h)) h1.1
      obtain ⟨s, e⟩ := ref_end h1.1
      have hlen : (refF m.doms.length m m.doms []).1.length = s.length + 1 := by rw [e]; simp
      have hg : ckG m (refF m.doms.length m m.doms []).1 = false := by
        unfold ckG
        have h2 : prfB (m.doms.length : Int) (refF m.doms.length m m.doms []).1 = true := by
          unfold prfB
          rw [Bool.and_eq_true]
          refine ⟨decide_eq_true (by omega), ?_⟩
          rw [Bool.not_eq_true', List.any_eq_false]
          intro c hc
          rw [(ha.2 c hc).2]; simp
        rw [hv, h2, show (refF m.doms.length m m.doms []).1.getD (((refF m.doms.length m m.doms []).1.length : Int) - 1).toNat [] = [] from by
          rw [hlen, show (((s.length + 1 : Nat) : Int) - 1).toNat = s.length from by omega, e]; simp [List.getD]]
        simp
        intro h9; rw [h9] at hlen; simp at hlen
      unfold chkP
      rw [if_neg (by rw [hg]; simp), List.all_eq_true]
      intro i hi
      have := ha.1.c i (List.mem_range.1 hi)
      rwa [List.nil_append] at this
    · cases h
/-- A bound that is proved is accepted, and true. -/
theorem pb_law {m : Mod} {obj : List Int} {b : Int} (h : (pbR m obj b).2 = true) : chkB m obj b (pbR m obj b).1 = true := by
  unfold pbR at h ⊢
  split at h
  · rename_i h1
    rw [if_pos h1]
    unfold chkB
    rw [h1, inf_chk h]; rfl
  · cases h
theorem pb_min {m : Mod} {obj : List Int} {b : Int} (h : (pbR m obj b).2 = true) (hs : (minI m obj).2 = true) : b ≤ objVal obj (minI m obj).1 := by
  have h1 := pb_law h
  have h2 := (bdG_obj (chkB_go h1).2.2.1).1
  refine chkB_sound h1 ?_
  rw [min_yes h2] at hs ⊢
  exact (best_in hs).1
/-! What the laws' walks ask. -/
theorem objS_ok {m : Mod} {obj : List Int} (h : (validModB m && objOkS m obj) = true) : MOk m ∧ obj.length = m.doms.length ∧ Coef obj := objok (by rw [obj_eq]; exact h)
theorem valB_in {m : Mod} {obj : List Int} (h : MOk m ∧ obj.length = m.doms.length ∧ Coef obj) (hs : (bestI (fun x => dotTo obj x x.length) (sols m)).2 = true) :
    Vals (bestI (fun x => dotTo obj x x.length) (sols m)).1 ∧ obj.length = (bestI (fun x => dotTo obj x x.length) (sols m)).1.length ∧ (bestI (fun x => dotTo obj x x.length) (sols m)).1.length ≤ 4 ∧
      -180 ≤ dotTo obj (bestI (fun x => dotTo obj x x.length) (sols m)).1 (bestI (fun x => dotTo obj x x.length) (sols m)).1.length ∧ dotTo obj (bestI (fun x => dotTo obj x x.length) (sols m)).1 (bestI (fun x => dotTo obj x x.length) (sols m)).1.length ≤ 180 := by
  have h1 := (best_in hs).1
  have h2 := sols_len h1
  have h3 := sols_vals h1
  have hn := h.1.n
  have h4 := dot_le h.2.2 h3 _ (by rw [h2, h.2.1]; exact Nat.le_refl _) (Nat.le_refl _)
  exact ⟨h3, by rw [h2, h.2.1], by omega, by omega, by omega⟩
theorem pb_one {z : Int} (h : z ∈ [-1000, 1001, -998, 1000]) : -1000 ≤ z ∧ z ≤ 1001 := by simp at h; omega
theorem pv_go {A : Type} [DecidableEq A] {a : A} {x : Bool} (h : (((x != x) || !(decide (a = a))) || !x) = false) : x = true := by cases x <;> simp at h ⊢
theorem pv_fin {m : Mod} {obj : List Int} {b : Int} (h : (pbR m obj b).2 = true) : (chkB m obj b (pbR m obj b).1 && (!((minI m obj).2) || decide (b ≤ objVal obj (minI m obj).1))) = true := by
  rw [pb_law h, Bool.true_and]
  cases hs : (minI m obj).2 with
  | false => rfl
  | true => rw [decide_eq_true (pb_min h hs)]; rfl
/-! The optimum. -/
end
section
/-! Sets of variables, in order. -/
/-! The order of lists of numbers. -/
/-! The search. -/
/-! The whole. -/
/-! The answer as a function. -/
/-! What the walks ask. -/
/-! The next set. -/
theorem sol_at {m : Mod} {obj : List Int} {k : Nat} (hM : MOk m) (ho : obj.length = m.doms.length) (hk : k < (sols m).length) : Vals ((sols m).getD k []) ∧ obj.length = ((sols m).getD k []).length ∧ ((sols m).getD k []).length ≤ 4 := by
  have h := getD_mem (d := []) hk
  have := sols_len h
  have := hM.n
  exact ⟨sols_vals h, by omega, by omega⟩
/-! The laws, with the answer as a function. -/
end
section
theorem minS_ok {Hmd : Hp} {vmd : Value} {Hmc : Hp} {vmc : Value} {Hobj : Hp} {vobj : Value} (m : Mod) (obj : List Int) (hM : MOk m) (ho : obj.length = m.doms.length) (hO : Coef obj) (hmd : Ints Hmd vmd m.doms) (hmc : Cons Hmc vmc m.cons) (hobj : Ints Hobj vobj obj) : Spec Tryz.prog 34 [.agg #[vmd, vmc], vobj] [Hmd, Hmc, Hobj] (fun Hq vq => ∃ uq0 : Value, vq = .tuple #[uq0, .bool ((bestI (fun x => dotTo obj x x.length) (sols m)).2)] ∧ Ints Hq uq0 ((bestI (fun x => dotTo obj x x.length) (sols m)).1)) := by
 have hn := hM.n
 have hfw := sols_few hM
 refine spec_of Tryz.func34 rfl rfl rfl (fun B => ?_)
 refine cS (cr (kl_box rfl rfl (fun p1 H2 f3 a4 => ?_)))
 refine sg rfl (sg rfl (ln (qc (cS (cr (kl_ldS rfl ‹_› rfl ?_))))))
 refine kl_call rfl rfl (solve_ok m hM ‹_› ‹_›) (fun v5 H6 f7 h8 => ?_)
 obtain ⟨z11, z14, u12, rfl, h13, h10⟩ := h8
 subst h10
 refine mv rfl (kl_xt rfl rfl (kl_xt rfl rfl (sg rfl (sg rfl (ln (qc (cS (cr (sg rfl (ln (qc (cS ?_))))))))))))
 refine cS (cr (sg rfl (ln (qc (bl (kc_loop0 (A := Nat × Int) (fun zz => (zz.1 ≤ (sols m).length) ∧ (zz.2 = argTo (fun x => dotTo obj x x.length) (sols m) zz.1)) (fun zz => (sols m).length - zz.1) (fun zz => [(9, .int .i64 (zz.1 : Int)), (8, .int .i64 zz.2)]) (0, (-1 : Int)) (pk [1, 4, 5, 6] rfl) (pk [9, 8] rfl) ⟨Nat.zero_le _, rfl⟩ ?_))))))
 rintro ⟨k, z⟩ hJ17
 obtain ⟨hk15, hi16⟩ : (k ≤ (sols m).length) ∧ (z = argTo (fun x => dotTo obj x x.length) (sols m) k) := hJ17
 change KC _ _ (_) _ _ ([(9, .int .i64 (k : Int)), (8, .int .i64 z)] ++ _)
 refine cS (cS (cr (mv rfl (mv rfl (le9 rfl ‹_› (fun l18 => ?_))))))
 refine ls9 rfl rfl ?_
 refine ln (qc (ci9 rfl (fun c19 => ?_) (fun c19 => ?_)))
 ·have hsk := sol_at hM ho (by omega : k < (sols m).length)
  have hin := arg_in hi16
  refine sk (qc (cS (bl (cS (kc_tree (fun i => ([14] : List Nat).contains i) [] (by kernel_rfl) ?_)))))
  refine tq 0 nsl rfl (mv rfl (ln (qq (tq 1 nsl rfl (ls9 rfl rfl ?_)))))
  refine ln (qq (tq 2 nsl rfl (mv rfl (ln (qq ?_)))))
  rcases Bool.eq_false_or_eq_true (decide (z < (0 : Int))) with g20 | g20
  ·have g20p := of_decide_eq_true g20
   refine tq 3 nsl rfl (gF rfl rfl g20 (ln (qq (tq 4 nsl rfl (gF rfl rfl g20 (ln (qq (tq 5 nsl rfl (gF rfl rfl g20 (ln (qq ?_)))))))))))
   refine tq 6 nsl rfl (gF rfl rfl g20 (ln (qq (tq 7 nsl rfl (gF rfl rfl g20 (ln (qq (tq 9 nsl rfl (gF rfl rfl g20 (ln (qq ?_)))))))))))
   refine tq 10 nsl rfl (gF rfl rfl g20 (ln (qq (tq 11 nsl rfl (gF rfl rfl g20 (ln (qq (tq 12 nsl rfl (gF rfl rfl g20 (ln (qq ?_)))))))))))
   refine tq 13 nsl rfl (gF rfl rfl g20 (ln (qq (ta 8 rfl (gF rfl rfl g20 (ln (qa nsl (ta 14 rfl (gF rfl rfl g20 (ln (qx rfl ?_)))))))))))
   refine tq 15 nsl rfl (gF rfl rfl g20 (ln (qq (tq 16 nsl rfl (kl_pickT rfl g20 rfl ?_)))))
   refine ln (qq (kt_end (by kernel_rfl) ?_))
   refine qc (cd9 rfl (fun c21 => ?_) (fun c21 => ?_))
   ·have c21r := c21
    try simp only [smpE] at c21
    refine cr (mv rfl (sg rfl (ln (qc (cr (mv rfl (ic9 rfl rfl (by omega) ?_)))))))
    refine sg rfl (ln (kq_round0 ((k + 1), (k : Int)) (by omega) (⟨by omega, (by first | exact arg_T hi16 (.inl ‹_›) | exact arg_T hi16 (.inr ‹_›) | exact arg_F hi16 (fun h9 => h9.elim ‹_› ‹_›))⟩) (pk [9, 8] rfl) (pk [1, 4, 5, 6] rfl) slr9))
   ·have c21r := c21
    try simp only [smpE] at c21
    exact absurd c21 (by decide)
  ·have g20p := of_decide_eq_false g20
   have hsb := sol_at hM ho (by omega : z.toNat < (sols m).length)
   refine tq 3 nsl rfl (gT rfl rfl g20 (mv rfl (ln (qq (tq 4 nsl rfl (gT rfl rfl g20 (mv rfl (ln (qq (tq 5 nsl rfl ?_))))))))))
   refine gT rfl rfl g20 (mv rfl (ln (qq (tq 6 nsl rfl (gT rfl rfl g20 (kl_inS rfl rfl ‹_› (by omega) (fun p22 u24 h25 a23 => ?_)))))))
   refine ln (qq (tq 7 nsl rfl (gT rfl rfl g20 (ld rfl ‹_› (ln (qq (tq 9 nsl rfl (gT rfl rfl g20 (mv rfl (ln (qq ?_)))))))))))
   refine tq 10 nsl rfl (gT rfl rfl g20 (mv rfl (ln (qq (tq 11 nsl rfl (gT rfl rfl g20 (mv rfl (ln (qq (tq 12 nsl rfl ?_))))))))))
   refine gT rfl rfl g20 (kl_ixS rfl rfl ‹_› (by omega) (by omega) (fun p26 u28 h29 a27 => ?_))
   refine ln (qq (tq 13 nsl rfl (gT rfl rfl g20 (ld rfl ‹_› (ln (qq (ta 8 rfl (gT rfl rfl g20 (cP rfl rfl (svalue_ok obj ((sols m).getD k []) hO hsk.1 hsk.2.1 hsk.2.2 ‹_› ‹_›) ?_)))))))))
   refine ln (qa nsl (ta 14 rfl (gT rfl rfl g20 (cP rfl rfl (svalue_ok obj ((sols m).getD z.toNat []) hO hsb.1 hsb.2.1 hsb.2.2 ‹_› ‹_›) ?_))))
   refine ln (qx rfl (tq 15 nsl rfl (gT rfl rfl g20 (ls9 rfl rfl ?_))))
   refine ln (qq (tq 16 nsl rfl (kl_pickF rfl g20 rfl ?_)))
   refine ln (qq (kt_end (by kernel_rfl) ?_))
   refine qc (ci9 rfl (fun c30 => ?_) (fun c30 => ?_))
   ·refine cr (mv rfl (sg rfl (ln (qc (cr (mv rfl (ic9 rfl rfl (by omega) ?_)))))))
    refine sg rfl (ln (kq_round0 ((k + 1), (k : Int)) (by omega) (⟨by omega, (by first | exact arg_T hi16 (.inl ‹_›) | exact arg_T hi16 (.inr ‹_›) | exact arg_F hi16 (fun h9 => h9.elim ‹_› ‹_›))⟩) (pk [9, 8] rfl) (pk [1, 4, 5, 6] rfl) slr9))
   ·refine sk (qc (cr (mv rfl (ic9 rfl rfl (by omega) ?_))))
    refine sg rfl (ln (kq_round0 ((k + 1), z) (by omega) (⟨by omega, (by first | exact arg_T hi16 (.inl ‹_›) | exact arg_T hi16 (.inr ‹_›) | exact arg_F hi16 (fun h9 => h9.elim ‹_› ‹_›))⟩) (pk [9, 8] rfl) (pk [1, 4, 5, 6] rfl) slr9))
 ·have hin := arg_in hi16
  have hae : z = argTo (fun x => dotTo obj x x.length) (sols m) (sols m).length := (by rw [hi16, show k = (sols m).length from by omega])
  refine ex9 (qc (cS (cS (cr (mv rfl (ls9 rfl rfl ?_))))))
  refine ln (qc (ci9 rfl (fun c31 => ?_) (fun c31 => ?_)))
  ·refine cS (cr (sg rfl (sg rfl (ln (qc (rt (kq_ret2 rfl rfl rfl noHp (fr_no _) ⟨_, tup2 rfl (congrArg Value.bool (by rw [best_none hae ‹_›])), ?_⟩)))))))
   exact (by have e9 : (bestI (fun x => dotTo obj x x.length) (sols m)).1 = [] := (by rw [best_none hae ‹_›]); rw [e9]; exact Sl.nil)
  ·refine sk (qc (cS (cr (mv rfl (mv rfl (kl_ixS rfl rfl ‹_› (by omega) (by omega) (fun p32 u34 h35 a33 => ?_)))))))
   refine ld rfl ‹_› (sg rfl (sg rfl (ln (qc (rt (kq_ret2 rfl rfl rfl H6 f7 ⟨_, tup2 rfl (congrArg Value.bool (by rw [best_arg hae ‹_›])), ?_⟩))))))
   exact (by have e9 : (bestI (fun x => dotTo obj x x.length) (sols m)).1 = ((sols m).getD z.toNat []) := (by rw [best_arg hae ‹_›]); rw [e9]; assumption)
theorem drawPb_ok {Hcode : Hp} {vcode : Value} (code : List Int) (hcode : Bytes Hcode vcode code) : Spec Tryz.prog 7 [vcode] [Hcode] (fun Hq vq => ∃ (mq : Mod) (oq : List Int) (z : Int) (uq0a uq0b uq1 : Value), vq = .tuple #[.agg #[uq0a, uq0b], uq1, .int .i64 z] ∧ Ints Hq uq0a mq.doms ∧ Cons Hq uq0b mq.cons ∧ Ints Hq uq1 oq ∧ ModSm 100 mq ∧ oq.length ≤ 5 ∧ -2000 ≤ z ∧ z ≤ 2000) := by
 refine spec_ofR Tryz.func7 rfl rfl rfl (fun B => ?_)
 refine cS (cr (kl_alloc (cs := [.slice none 0 0, .slice none 0 0]) rfl (fun b1 hb2 => ?_)))
 refine sg rfl (sg rfl (ln (qc (cS (cr (mv rfl (cT rfl rfl (newReader_ok code hcode) (fun v3 L1 Ln K7 h4 f5 f6 => ?_))))))))
 obtain ⟨rfl, b8, v9, x10, rfl, rfl, h11⟩ := h4
 refine nm ?_
 refine sg rfl (ln (qc (cS (cr (mv rfl (cT rfl rfl (searchModel_ok 0 (by omega) h11) (fun v12 L1 Ln K16 h13 f14 f15 => ?_)))))))
 obtain ⟨q17, h18, rfl, H21, M23, v24, v25, z19, rfl, rfl, o22, o26, h20⟩ := h13
 have f27 := f14 _ (.head _)
 have f28 := f14 _ (.tail _ (.head _))
 have hd1 := h20.d1
 have hd4 := h20.d
 have hc1 := h20.c
 have hcc := h20.cc
 refine nm ?_
 refine fZ H21 ?_
 have h29 := OwnL.ints o22
 refine fZ M23 ?_
 refine cm9 M23 K16 (fun c30 => ?_)
 have h31 := OwnL.consK o26 c30
 refine kl_alloc (cs := [.slice none 0 0, .slice none 0 0]) rfl (fun b32 hb33 => ?_)
 refine kl_stW (us := [v24, v25]) rfl rfl rfl rfl (oc (Sl.oneCell ‹_›) (oc (Sl.oneCell ‹_›) oc_nil)) rfl ?_
 refine cg [bxS b32 [v24, v25] 26, bxS b8 [v9, .int .i64 (q17 : Int)] 84, bxS b1 [.slice none 0 0, .slice none 0 0] 26] rfl ?_
 refine ln (qc (cS (cr (mv rfl (fV rfl (lB rfl rfl (le9 rfl ‹_› (fun l34 => ?_))))))))
 refine cT rfl rfl (objective_ok q17 (z19.doms.length : Int) (by first | assumption | omega) (by omega) h11) (fun v35 L1 Ln K39 h36 f37 f38 => ?_)
 obtain ⟨q40, h41, rfl, H44, z42, rfl, o45, h43⟩ := h36
 have f46 := f37 _ (.head _)
 have hj9 := h43
 refine nm ?_
 refine sg rfl (ln (qc (cS (cr (mv rfl (cT rfl rfl (pick_ok q40 (12 : Int) (by omega) h11) (fun v47 L1 Ln K51 h48 f49 f50 => ?_)))))))
 obtain ⟨q52, h53, rfl, rfl, z54, rfl, h55⟩ := h48
 refine nm ?_
 refine sb9 rfl rfl (by omega) ?_
 refine sg rfl (ln (qc (cS (cS (cr (kl_ldW rfl rfl (cP rfl rfl (svalidMod_ok z19 ‹_› ‹_›) ?_)))))))
 refine mv rfl (jn 4 29 (.bool ((validModB z19) && (objOkS z19 z42))) (pk [2, 3, 4, 5, 6, 7, 8, 25] rfl) (fun J59 => ?_) ?_)
 ·rcases Bool.eq_false_or_eq_true (validModB z19) with g58 | g58
  ·have g58p := g58
   try simp only [smpD] at g58p
   refine gT rfl rfl g58 (kl_ldW rfl rfl (gT rfl rfl g58 (mv rfl (gT rfl rfl g58 (cP rfl rfl (validObjective_ok z19 z42 ‹_› ‹_› (OwnL.ints o45)) ?_)))))
   refine aT rfl rfl g58 ?_
   exact J59 _ (pk [29, 2, 3, 4, 5, 6, 7, 8, 25] rfl)
  ·refine gF rfl rfl g58 (gF rfl rfl g58 (gF rfl rfl g58 (aF (objOkS z19 z42) rfl rfl g58 ?_)))
   exact J59 _ (pk [29, 2, 3, 4, 5, 6, 7, 8, 25] rfl)
 refine ln (qc (cd9 rfl (fun c60 => ?_) (fun c60 => ?_)))
 ·have c60r := c60
  try simp only [smpE] at c60
  have hob := objS_ok c60r
  refine cS (cr (kl_ldW rfl rfl (mv rfl (kl_call rfl rfl (minS_ok z19 z42 hob.1 hob.2.1 hob.2.2 ‹_› ‹_› (OwnL.ints o45)) (fun v61 H62 f63 h64 => ?_)))))
  obtain ⟨u65, rfl, h66⟩ := h64
  refine mv rfl (kl_xt rfl rfl (kl_xt rfl rfl (sg rfl (sg rfl (ln (qc (cS (cr (mv rfl (ln (qc (cd9 rfl (fun c67 => ?_) (fun c67 => ?_)))))))))))))
  ·have c67r := c67
   try simp only [smpE] at c67
   have hvb := valB_in hob c67r
   refine cr (mv rfl (mv rfl (cP rfl rfl (svalue_ok z42 ((bestI (fun x => dotTo z42 x x.length) (sols z19)).1) hob.2.2 hvb.1 hvb.2.1 hvb.2.2.1 (OwnL.ints o45) ‹_›) ?_)))
   refine mv rfl (cT rfl rfl (pick_ok q52 (4 : Int) (by omega) h11) (fun v68 L1 Ln K72 h69 f70 f71 => ?_))
   obtain ⟨q73, h74, rfl, rfl, z75, rfl, h76⟩ := h69
   refine nm ?_
   refine ad9 rfl rfl (by omega) ?_
   refine sb9 rfl rfl (by omega) ?_
   refine sg rfl (ln (qc (cS (cS (cr (mv rfl (cT rfl rfl (pick_ok q73 (14 : Int) (by omega) h11) (fun v79 L1 Ln K83 h80 f81 f82 => ?_))))))))
   obtain ⟨q84, h85, rfl, rfl, z86, rfl, h87⟩ := h80
   refine nm ?_
   refine eq9 rfl rfl ?_
   refine ln (qc (ci9 rfl (fun c90 => ?_) (fun c90 => ?_)))
   ·refine cr (mv rfl (bs9 rfl rfl rfl (by decide) (ca rfl (ca rfl (ca rfl (ca rfl ca_nil)))) (fun v91 H92 f93 r94 s95 => ?_)))
    have h96 : Ints H92 v91 [(-1000 : Int), (1001 : Int), (-998 : Int), (1000 : Int)] := litInts (xs := [(-1000 : Int), (1001 : Int), (-998 : Int), (1000 : Int)]) (by simpa using s95)
    refine cT rfl rfl (one_ok q84 ([(-1000 : Int), (1001 : Int), (-998 : Int), (1000 : Int)]) (by simp) (by omega) h11 ‹_›) (fun v97 L1 Ln K101 h98 f99 f100 => ?_)
    obtain ⟨q102, h103, rfl, rfl, z104, rfl, h105⟩ := h98
    have ho9 := pb_one h105
    refine nm ?_
    refine sg rfl (ln (qc (cS (cr (kl_ldW rfl rfl (mv rfl (mv rfl (kl_stW (us := [v24, v25]) rfl rfl rfl rfl (oc (Sl.oneCell ‹_›) (oc (Sl.oneCell ‹_›) oc_nil)) rfl ?_))))))))
    refine cg [bxS b8 [v9, .int .i64 (q102 : Int)] 84, H44, bxS b32 [v24, v25] 26, bxS b1 [v24, v25] 26] rfl ?_
    refine sg rfl (sg rfl (ln (qc (rt (kq_frz H44 ?_)))))
    refine kq_cmp (orHp M23 K16) H44 (fun c108 => ?_)
    refine kq_cmp H21 (orHp (orHp M23 K16) H44) (fun c109 => ?_)
    exact kq_retR (rss3 rfl (rs_agg rfl rfl) (rs_tmp rfl) (rs_tmp rfl)) (orHp H21 (orHp (orHp M23 K16) H44)) (fr_or f27 (fr_or (fr_or f28 f15) f46)) ⟨(⟨z19.doms, z19.cons⟩ : Mod), z42, z104, _, _, _, rfl, (Sl.mono ‹_› (fun b o h => orL b o h) (fun _ _ h => h)), (Cons.mono' ‹_› (fun b o h => orC c109 b o (orL b o h))), (Sl.mono (OwnL.ints o45) (fun b o h => orC c109 b o (orC c108 b o h)) (fun _ _ h => h)), by exact ⟨by assumption, hj9.2, by omega, by omega⟩⟩ .none
   ·refine sk (qc (cS (cr (kl_ldW rfl rfl (mv rfl (mv rfl (kl_stW (us := [v24, v25]) rfl rfl rfl rfl (oc (Sl.oneCell ‹_›) (oc (Sl.oneCell ‹_›) oc_nil)) rfl ?_)))))))
    refine cg [bxS b8 [v9, .int .i64 (q84 : Int)] 84, H44, bxS b32 [v24, v25] 26, bxS b1 [v24, v25] 26] rfl ?_
    refine sg rfl (sg rfl (ln (qc (rt (kq_frz H44 ?_)))))
    refine kq_cmp (orHp M23 K16) H44 (fun c110 => ?_)
    refine kq_cmp H21 (orHp (orHp M23 K16) H44) (fun c111 => ?_)
    exact kq_retR (rss3 rfl (rs_agg rfl rfl) (rs_tmp rfl) (rs_tmp rfl)) (orHp H21 (orHp (orHp M23 K16) H44)) (fr_or f27 (fr_or (fr_or f28 f15) f46)) ⟨(⟨z19.doms, z19.cons⟩ : Mod), z42, (((dotTo z42 ((bestI (fun x => dotTo z42 x x.length) (sols z19)).1) ((bestI (fun x => dotTo z42 x x.length) (sols z19)).1).length) + z75) - (2 : Int)), _, _, _, rfl, (Sl.mono ‹_› (fun b o h => orL b o h) (fun _ _ h => h)), (Cons.mono' ‹_› (fun b o h => orC c111 b o (orL b o h))), (Sl.mono (OwnL.ints o45) (fun b o h => orC c111 b o (orC c110 b o h)) (fun _ _ h => h)), by exact ⟨by assumption, hj9.2, by omega, by omega⟩⟩ .none
  ·have c67r := c67
   try simp only [smpE] at c67
   refine sk (qc (cS (cS (cr (mv rfl (cT rfl rfl (pick_ok q52 (14 : Int) (by omega) h11) (fun v112 L1 Ln K116 h113 f114 f115 => ?_)))))))
   obtain ⟨q117, h118, rfl, rfl, z119, rfl, h120⟩ := h113
   refine nm ?_
   refine eq9 rfl rfl ?_
   refine ln (qc (ci9 rfl (fun c123 => ?_) (fun c123 => ?_)))
   ·refine cr (mv rfl (bs9 rfl rfl rfl (by decide) (ca rfl (ca rfl (ca rfl (ca rfl ca_nil)))) (fun v124 H125 f126 r127 s128 => ?_)))
    have h129 : Ints H125 v124 [(-1000 : Int), (1001 : Int), (-998 : Int), (1000 : Int)] := litInts (xs := [(-1000 : Int), (1001 : Int), (-998 : Int), (1000 : Int)]) (by simpa using s128)
    refine cT rfl rfl (one_ok q117 ([(-1000 : Int), (1001 : Int), (-998 : Int), (1000 : Int)]) (by simp) (by omega) h11 ‹_›) (fun v130 L1 Ln K134 h131 f132 f133 => ?_)
    obtain ⟨q135, h136, rfl, rfl, z137, rfl, h138⟩ := h131
    have ho9 := pb_one h138
    refine nm ?_
    refine sg rfl (ln (qc (cS (cr (kl_ldW rfl rfl (mv rfl (mv rfl (kl_stW (us := [v24, v25]) rfl rfl rfl rfl (oc (Sl.oneCell ‹_›) (oc (Sl.oneCell ‹_›) oc_nil)) rfl ?_))))))))
    refine cg [bxS b8 [v9, .int .i64 (q135 : Int)] 84, H44, bxS b32 [v24, v25] 26, bxS b1 [v24, v25] 26] rfl ?_
    refine sg rfl (sg rfl (ln (qc (rt (kq_frz H44 ?_)))))
    refine kq_cmp (orHp M23 K16) H44 (fun c141 => ?_)
    refine kq_cmp H21 (orHp (orHp M23 K16) H44) (fun c142 => ?_)
    exact kq_retR (rss3 rfl (rs_agg rfl rfl) (rs_tmp rfl) (rs_tmp rfl)) (orHp H21 (orHp (orHp M23 K16) H44)) (fr_or f27 (fr_or (fr_or f28 f15) f46)) ⟨(⟨z19.doms, z19.cons⟩ : Mod), z42, z137, _, _, _, rfl, (Sl.mono ‹_› (fun b o h => orL b o h) (fun _ _ h => h)), (Cons.mono' ‹_› (fun b o h => orC c142 b o (orL b o h))), (Sl.mono (OwnL.ints o45) (fun b o h => orC c142 b o (orC c141 b o h)) (fun _ _ h => h)), by exact ⟨by assumption, hj9.2, by omega, by omega⟩⟩ .none
   ·refine sk (qc (cS (cr (kl_ldW rfl rfl (mv rfl (mv rfl (kl_stW (us := [v24, v25]) rfl rfl rfl rfl (oc (Sl.oneCell ‹_›) (oc (Sl.oneCell ‹_›) oc_nil)) rfl ?_)))))))
    refine cg [bxS b8 [v9, .int .i64 (q117 : Int)] 84, H44, bxS b32 [v24, v25] 26, bxS b1 [v24, v25] 26] rfl ?_
    refine sg rfl (sg rfl (ln (qc (rt (kq_frz H44 ?_)))))
    refine kq_cmp (orHp M23 K16) H44 (fun c143 => ?_)
    refine kq_cmp H21 (orHp (orHp M23 K16) H44) (fun c144 => ?_)
    exact kq_retR (rss3 rfl (rs_agg rfl rfl) (rs_tmp rfl) (rs_tmp rfl)) (orHp H21 (orHp (orHp M23 K16) H44)) (fr_or f27 (fr_or (fr_or f28 f15) f46)) ⟨(⟨z19.doms, z19.cons⟩ : Mod), z42, (z54 - (4 : Int)), _, _, _, rfl, (Sl.mono ‹_› (fun b o h => orL b o h) (fun _ _ h => h)), (Cons.mono' ‹_› (fun b o h => orC c144 b o (orL b o h))), (Sl.mono (OwnL.ints o45) (fun b o h => orC c144 b o (orC c143 b o h)) (fun _ _ h => h)), by exact ⟨by assumption, hj9.2, by omega, by omega⟩⟩ .none
 ·have c60r := c60
  try simp only [smpE] at c60
  refine sk (qc (cS (cS (cr (mv rfl (cT rfl rfl (pick_ok q52 (14 : Int) (by omega) h11) (fun v145 L1 Ln K149 h146 f147 f148 => ?_)))))))
  obtain ⟨q150, h151, rfl, rfl, z152, rfl, h153⟩ := h146
  refine nm ?_
  refine eq9 rfl rfl ?_
  refine ln (qc (ci9 rfl (fun c156 => ?_) (fun c156 => ?_)))
  ·refine cr (mv rfl (bs9 rfl rfl rfl (by decide) (ca rfl (ca rfl (ca rfl (ca rfl ca_nil)))) (fun v157 H158 f159 r160 s161 => ?_)))
   have h162 : Ints H158 v157 [(-1000 : Int), (1001 : Int), (-998 : Int), (1000 : Int)] := litInts (xs := [(-1000 : Int), (1001 : Int), (-998 : Int), (1000 : Int)]) (by simpa using s161)
   refine cT rfl rfl (one_ok q150 ([(-1000 : Int), (1001 : Int), (-998 : Int), (1000 : Int)]) (by simp) (by omega) h11 ‹_›) (fun v163 L1 Ln K167 h164 f165 f166 => ?_)
   obtain ⟨q168, h169, rfl, rfl, z170, rfl, h171⟩ := h164
   have ho9 := pb_one h171
   refine nm ?_
   refine sg rfl (ln (qc (cS (cr (kl_ldW rfl rfl (mv rfl (mv rfl (kl_stW (us := [v24, v25]) rfl rfl rfl rfl (oc (Sl.oneCell ‹_›) (oc (Sl.oneCell ‹_›) oc_nil)) rfl ?_))))))))
   refine cg [bxS b8 [v9, .int .i64 (q168 : Int)] 84, H44, bxS b32 [v24, v25] 26, bxS b1 [v24, v25] 26] rfl ?_
   refine sg rfl (sg rfl (ln (qc (rt (kq_frz H44 ?_)))))
   refine kq_cmp (orHp M23 K16) H44 (fun c174 => ?_)
   refine kq_cmp H21 (orHp (orHp M23 K16) H44) (fun c175 => ?_)
   exact kq_retR (rss3 rfl (rs_agg rfl rfl) (rs_tmp rfl) (rs_tmp rfl)) (orHp H21 (orHp (orHp M23 K16) H44)) (fr_or f27 (fr_or (fr_or f28 f15) f46)) ⟨(⟨z19.doms, z19.cons⟩ : Mod), z42, z170, _, _, _, rfl, (Sl.mono ‹_› (fun b o h => orL b o h) (fun _ _ h => h)), (Cons.mono' ‹_› (fun b o h => orC c175 b o (orL b o h))), (Sl.mono (OwnL.ints o45) (fun b o h => orC c175 b o (orC c174 b o h)) (fun _ _ h => h)), by exact ⟨by assumption, hj9.2, by omega, by omega⟩⟩ .none
  ·refine sk (qc (cS (cr (kl_ldW rfl rfl (mv rfl (mv rfl (kl_stW (us := [v24, v25]) rfl rfl rfl rfl (oc (Sl.oneCell ‹_›) (oc (Sl.oneCell ‹_›) oc_nil)) rfl ?_)))))))
   refine cg [bxS b8 [v9, .int .i64 (q150 : Int)] 84, H44, bxS b32 [v24, v25] 26, bxS b1 [v24, v25] 26] rfl ?_
   refine sg rfl (sg rfl (ln (qc (rt (kq_frz H44 ?_)))))
   refine kq_cmp (orHp M23 K16) H44 (fun c176 => ?_)
   refine kq_cmp H21 (orHp (orHp M23 K16) H44) (fun c177 => ?_)
   exact kq_retR (rss3 rfl (rs_agg rfl rfl) (rs_tmp rfl) (rs_tmp rfl)) (orHp H21 (orHp (orHp M23 K16) H44)) (fr_or f27 (fr_or (fr_or f28 f15) f46)) ⟨(⟨z19.doms, z19.cons⟩ : Mod), z42, (z54 - (4 : Int)), _, _, _, rfl, (Sl.mono ‹_› (fun b o h => orL b o h) (fun _ _ h => h)), (Cons.mono' ‹_› (fun b o h => orC c177 b o (orL b o h))), (Sl.mono (OwnL.ints o45) (fun b o h => orC c177 b o (orC c176 b o h)) (fun _ _ h => h)), by exact ⟨by assumption, hj9.2, by omega, by omega⟩⟩ .none
end
section
theorem valueOk_ok (v : Int) : SpecP Tryz.prog 162 [.int .i64 v] [] (.bool (withinB v 0 5)) := by
 refine spec_of Tryz.func162 rfl rfl rfl (fun B => ?_)
 refine cS (cr (sg rfl (ln (qc (cS (cr (mv rfl (cP rfl rfl (within_ok v (0 : Int) (5 : Int)) ?_))))))))
 refine sg rfl (ln (qc (rt (kq_retP rfl rfl (congrArg Value.bool ?_)))))
 rfl
end
section
theorem isNaN_ok (x : Int) : SpecP Tryz.prog 196 [.int .i64 x] [] (.bool false) := by
 refine spec_of Tryz.func196 rfl rfl rfl (fun B => ?_)
 refine cS (cr (sg rfl (ln (qc (cS (cr (mv rfl (mv rfl (kl_neq rfl rfl ?_)))))))))
 refine sg rfl (ln (qc (rt (kq_retP rfl rfl (congrArg Value.bool ?_)))))
 simp
theorem cmpInt_ok (a : Int) (b : Int) : SpecP Tryz.prog 185 [.int .i64 a, .int .i64 b] [] (.int .i64 (cmpI a b)) := by
 refine spec_of Tryz.func185 rfl rfl rfl (fun B => ?_)
 refine cS (cr (sg rfl (ln (qc (cS (cr (mv rfl (cP rfl rfl (isNaN_ok a) ?_))))))))
 refine sg rfl (ln (qc (cS (cr (mv rfl (cP rfl rfl (isNaN_ok b) ?_))))))
 refine sg rfl (ln (qc (cS (cS (cr (mv rfl (ln (qc (cd9 rfl (fun c1 => ?_) (fun c1 => ?_))))))))))
 ·have c1r := c1
  try simp only [smpE] at c1
  exact absurd c1r (by decide)
 ·have c1r := c1
  try simp only [smpE] at c1
  refine sk (qc (cS (cS (cr (mv rfl (ln (qc (cd9 rfl (fun c2 => ?_) (fun c2 => ?_)))))))))
  ·have c2r := c2
   try simp only [smpE] at c2
   exact absurd c2r (by decide)
  ·have c2r := c2
   try simp only [smpE] at c2
   refine sk (qc (cS (cS (cr (mv rfl (mv rfl (ls9 rfl rfl ?_)))))))
   refine ln (qc (ci9 rfl (fun c3 => ?_) (fun c3 => ?_)))
   ·refine cS (cr (sg rfl (ln (qc (rt (kq_retP rfl rfl (congrArg (Value.int .i64) ?_)))))))
    exact cmpI_1 ‹_›
   ·refine sk (qc (cS (cS (cr (mv rfl (mv rfl (kl_gtr rfl rfl ?_)))))))
    refine ln (qc (ci9 rfl (fun c4 => ?_) (fun c4 => ?_)))
    ·refine cS (cr (sg rfl (ln (qc (rt (kq_retP rfl rfl (congrArg (Value.int .i64) ?_)))))))
     exact cmpI_2 ‹_› ‹_›
    ·refine sk (qc (cS (cr (sg rfl (ln (qc (rt (kq_retP rfl rfl (congrArg (Value.int .i64) ?_)))))))))
     exact cmpI_3 ‹_› ‹_›
end
section
theorem truesL_ok (l : Lit) (h0 : 0 ≤ l.val) : SpecP Tryz.prog 166 [.agg #[.int .i64 l.var, .int .i64 l.val, .bool l.neg]] [] (.int .i64 (truesI l)) := by
 refine spec_of Tryz.func166 rfl rfl rfl (fun B => ?_)
 refine cS (cr (kl_box rfl rfl (fun p1 H2 f3 a4 => ?_)))
 refine sg rfl (ln (qc (cS (cS (cr (fd9 rfl ‹_› (fun p5 a6 => ?_)))))))
 refine ld rfl ‹_› (ln (qc (cd9 rfl (fun c7 => ?_) (fun c7 => ?_))))
 ·have c7r := c7
  try simp only [smpE] at c7
  refine cS (cr (fd9 rfl ‹_› (fun p8 a9 => ?_)))
  refine ld rfl ‹_› (kl_shl rfl rfl (by omega) ?_)
  refine kl_andNot rfl rfl ?_
  refine sg rfl (ln (qc (rt (kq_retP rfl rfl (congrArg (Value.int .i64) ?_)))))
  exact trues_T ‹_›
 ·have c7r := c7
  try simp only [smpE] at c7
  refine sk (qc (cS (cr (fd9 rfl ‹_› (fun p10 a11 => ?_)))))
  refine ld rfl ‹_› (kl_shl rfl rfl (by omega) ?_)
  refine sg rfl (ln (qc (rt (kq_retP rfl rfl (congrArg (Value.int .i64) ?_)))))
  exact trues_F ‹_›
theorem orInt_ok {Hxs : Hp} {vxs : Value} (xs : List Int) (hxs : Ints Hxs vxs xs) : SpecP Tryz.prog 184 [vxs] [Hxs] (.int .i64 (orI xs)) := by
 refine spec_of Tryz.func184 rfl rfl rfl (fun B => ?_)
 refine cS (cr (sg rfl (ln (qc (cS (cr (sg rfl (ln (qc (cS (cS (cr (mv rfl (le9 rfl ‹_› (fun l1 => ?_)))))))))))))))
 refine mv rfl (ln (qc (bl (kc_loop0 (A := Nat) (fun zz => (zz ≤ xs.length) ∧ ((xs.take zz).all (fun x => decide (x = 0)) = true)) (fun zz => xs.length - zz) (fun zz => [(8, .int .i64 (zz : Int))]) (0) (pk [3, 6, 7] rfl) (pc 8 rfl pn) ⟨Nat.zero_le _, by simp⟩ ?_))))
 rintro k hJ4
 obtain ⟨hk2, hi3⟩ : (k ≤ xs.length) ∧ ((xs.take k).all (fun x => decide (x = 0)) = true) := hJ4
 change KC _ _ (_) _ _ ([(8, .int .i64 (k : Int))] ++ _)
 refine cS (cr (ls9 rfl rfl ?_))
 refine ln (qc (cS (ci9 rfl (fun c5 => ?_) (fun c5 => ?_))))
 ·refine sk (qc (cS (bl (cS (cr (kl_inI rfl rfl ‹_› (by omega) (fun p6 a7 => ?_)))))))
  refine ld rfl ‹_› (sg rfl (ln (qc (cS (cr (mv rfl (mv rfl (kl_neq rfl rfl ?_))))))))
  refine ln (qc (ci9 rfl (fun c8 => ?_) (fun c8 => ?_)))
  ·refine cS (cr (mv rfl (sg rfl (ln (qc (rt (kq_retP rfl rfl (congrArg (Value.int .i64) ?_))))))))
   exact orI_at (by omega) hi3 ‹_›
  ·refine sk (qc (cr (ic9 rfl rfl (by omega) ?_)))
   refine mv rfl (ln (kq_round0 ((k + 1)) (by omega) (⟨by omega, all0_step (by omega) hi3 ‹_›⟩) (pc 8 rfl pn) (pk [3, 6, 7] rfl) slr9))
 ·refine ex9 (qc (cS (cr (mv rfl (sg rfl (ln (qc (rt (kq_retP rfl rfl (congrArg (Value.int .i64) ?_))))))))))
  exact all0_end (by omega) hi3
theorem litCmp_ok (a : Lit) (b : Lit) : SpecP Tryz.prog 163 [.agg #[.int .i64 a.var, .int .i64 a.val, .bool a.neg], .agg #[.int .i64 b.var, .int .i64 b.val, .bool b.neg]] [] (.int .i64 (litCmp a b)) := by
 refine spec_of Tryz.func163 rfl rfl rfl (fun B => ?_)
 refine cS (cr (kl_box rfl rfl (fun p1 H2 f3 a4 => ?_)))
 refine kl_box rfl rfl (fun p5 H6 f7 a8 => ?_)
 refine sg rfl (ln (qc (cS (cr (kl_mkMap (fun b9 hb10 => ?_))))))
 refine kl_insB rfl rfl rfl ?_
 refine fZ (sing b9 (.map #[⟨.bool true, .int .i64 (1 : Int), 0⟩] 1)) ?_
 refine mv rfl (sg rfl (ln (qc (cS (kc_tree (fun i => ([18, 19, 20] : List Nat).contains i) [] (by kernel_rfl) ?_)))))
 refine tq 0 nsl rfl (fd9 rfl ‹_› (fun p11 a12 => ?_))
 refine ln (qq (tq 1 nsl rfl (ld rfl ‹_› (ln (qq (tq 2 nsl rfl (fd9 rfl ‹_› (fun p13 a14 => ?_))))))))
 refine ln (qq (tq 3 nsl rfl (ld rfl ‹_› (ln (qq (tq 5 nsl rfl (fd9 rfl ‹_› (fun p15 a16 => ?_))))))))
 refine ln (qq (tq 6 nsl rfl (ld rfl ‹_› (ln (qq (tq 7 nsl rfl (fd9 rfl ‹_› (fun p17 a18 => ?_))))))))
 refine ln (qq (tq 8 nsl rfl (ld rfl ‹_› (ln (qq (tq 10 nsl rfl (mv rfl (ln (qq (tq 11 nsl rfl (fd9 rfl ‹_› (fun p19 a20 => ?_))))))))))))
 refine ln (qq (tq 12 nsl rfl (ld rfl ‹_› (ln (qq (tq 13 nsl rfl (kl_lkB rfl rfl ?_)))))))
 refine ln (qq (tq 14 nsl rfl (mv rfl (ln (qq (tq 15 nsl rfl (fd9 rfl ‹_› (fun p21 a22 => ?_))))))))
 refine ln (qq (tq 16 nsl rfl (ld rfl ‹_› (ln (qq (tq 17 nsl rfl (kl_lkB rfl rfl ?_)))))))
 refine ln (qq (ta 4 rfl (cP rfl rfl (cmpInt_ok a.var b.var) ?_)))
 refine ln (qa nsl (ta 9 rfl (cP rfl rfl (cmpInt_ok a.val b.val) ?_)))
 refine ln (qa nsl (ta 18 rfl (cP rfl rfl (cmpInt_ok (if a.neg = true then 1 else 0) (if b.neg = true then 1 else 0)) ?_)))
 refine ln (qx rfl (ta 19 rfl (bs9 rfl rfl rfl (by decide) (ca rfl (ca rfl (ca rfl ca_nil))) (fun v23 H24 f25 r26 s27 => ?_))))
 have h28 : Ints H24 v23 [(cmpI a.var b.var), (cmpI a.val b.val), (cmpI (if a.neg = true then 1 else 0) (if b.neg = true then 1 else 0))] := litInts (xs := [(cmpI a.var b.var), (cmpI a.val b.val), (cmpI (if a.neg = true then 1 else 0) (if b.neg = true then 1 else 0))]) (by simpa using s27)
 refine ln (qx rfl (ta 20 rfl (cP rfl rfl (orInt_ok ([(cmpI a.var b.var), (cmpI a.val b.val), (cmpI (if a.neg = true then 1 else 0) (if b.neg = true then 1 else 0))]) ‹_›) ?_)))
 refine ln (qx rfl (tq 21 nsl rfl (sg rfl (ln (qq (kt_end (by kernel_rfl) ?_))))))
 refine qc (rt (kq_retP rfl rfl (congrArg (Value.int .i64) ?_)))
 rfl
theorem validClI_ok {Hc : Hp} {vc : Value} (c : List Lit) (n : Int) (hn : -9223372036854775807 ≤ n ∧ n ≤ 9223372036854775807) (hc : Lits Hc vc c) : SpecP Tryz.prog 123 [vc, .int .i64 n] [Hc] (.bool (clI n c)) := by
 refine spec_of Tryz.func123 rfl rfl rfl (fun B => ?_)
 refine cS (cr (sg rfl (ln (qc (cS (cS (cr (mv rfl (le9 rfl ‹_› (fun l1 => ?_))))))))))
 refine mv rfl (ln (qc (bl (kc_loop0 (A := Nat) (fun zz => (zz ≤ c.length) ∧ (clTo n c zz = true)) (fun zz => c.length - zz) (fun zz => [(9, .int .i64 (zz : Int))]) (0) (pk [0, 1, 7, 8] rfl) (pc 9 rfl pn) ⟨Nat.zero_le _, rfl⟩ ?_))))
 rintro k hJ4
 obtain ⟨hk2, hi3⟩ : (k ≤ c.length) ∧ (clTo n c k = true) := hJ4
 change KC _ _ (_) _ _ ([(9, .int .i64 (k : Int))] ++ _)
 refine cS (cr (ls9 rfl rfl ?_))
 refine ln (qc (cS (ci9 rfl (fun c5 => ?_) (fun c5 => ?_))))
 ·refine sk (qc (cS (bl (cS (cr (mv rfl (kl_inQ rfl rfl ‹_› (by omega) (fun p6 a7 => ?_))))))))
  refine kl_ldS rfl ‹_› rfl ?_
  refine kl_alloc (cs := [.int .i64 (0 : Int), .int .i64 (0 : Int), .bool false]) rfl (fun b8 hb9 => ?_)
  refine sg rfl (kl_stW (us := [.int .i64 ((c.getD k nilLit).var), .int .i64 ((c.getD k nilLit).val), .bool ((c.getD k nilLit).neg)]) rfl rfl rfl rfl (oc rfl (oc rfl (oc rfl oc_nil))) rfl ?_)
  refine ln (qc (cS (kc_draw 26 [true, true, true, true, false, true, true, true, true, false, true, true, true, true, true, true, true, true, true, true, true, true, false, true, true, true] (by kernel_rfl) (by kernel_rfl) ?_)))
  refine fV rfl (lB rfl rfl (mv rfl (sb9 rfl rfl (by omega) ?_)))
  refine cP rfl rfl (within_ok ((c.getD k nilLit).var) (0 : Int) (n - (1 : Int))) ?_
  refine nt9 rfl (mv rfl (jn 5 25 (.bool (!(withinB ((c.getD k nilLit).var) (0 : Int) (n - (1 : Int))) || !(withinB ((c.getD k nilLit).val) 0 5))) (pk [0, 1, 5, 6, 7, 8, 9, 10, 11, 12, 13, 14, 15, 16, 17, 18, 19, 20] rfl) (fun J11 => ?_) ?_))
  ·rcases Bool.eq_false_or_eq_true (!(withinB ((c.getD k nilLit).var) (0 : Int) (n - (1 : Int)))) with g10 | g10
   ·refine gF rfl rfl g10 (gF rfl rfl g10 (gF rfl rfl g10 (gF rfl rfl g10 (oT (!(withinB ((c.getD k nilLit).val) 0 5)) rfl rfl g10 ?_))))
    exact J11 _ (pk [25, 0, 1, 5, 6, 7, 8, 9, 10, 11, 12, 13, 14, 15, 16, 17, 18, 19, 20] rfl)
   ·have g10p := g10
    try simp only [smpD] at g10p
    refine gT rfl rfl g10 (fV rfl (gT rfl rfl g10 (lB rfl rfl (gT rfl rfl g10 (cP rfl rfl (valueOk_ok ((c.getD k nilLit).val)) ?_)))))
    refine gT rfl rfl g10 (nt9 rfl (oF rfl rfl g10 ?_))
    exact J11 _ (pk [25, 0, 1, 5, 6, 7, 8, 9, 10, 11, 12, 13, 14, 15, 16, 17, 18, 19, 20] rfl)
  refine mv rfl (jn 13 39 (.bool ((!(withinB ((c.getD k nilLit).var) (0 : Int) (n - (1 : Int))) || !(withinB ((c.getD k nilLit).val) 0 5)) || (decide ((0 : Int) < (k : Int)) && decide ((0 : Int) ≤ (litCmp (c.getD ((k : Int) - (1 : Int)).toNat nilLit) (c.getD k nilLit)))))) (pk [0, 1, 5, 6, 7, 8, 9, 10, 11, 12, 13, 14, 15, 16, 17, 18, 19, 20, 25, 26] rfl) (fun J17 => ?_) ?_)
  ·rcases Bool.eq_false_or_eq_true (!(withinB ((c.getD k nilLit).var) (0 : Int) (n - (1 : Int))) || !(withinB ((c.getD k nilLit).val) 0 5)) with g12 | g12
   ·refine gF rfl rfl g12 (gF rfl rfl g12 (gF rfl rfl g12 (kl_gU rfl rfl (kl_gU rfl rfl (kl_gU rfl rfl (kl_gU rfl rfl (kl_gU rfl rfl (kl_gU rfl rfl ?_))))))))
    refine kl_gU rfl rfl (kl_gU rfl rfl (gF rfl rfl g12 (oT (decide ((0 : Int) < (k : Int)) && decide ((0 : Int) ≤ (litCmp (c.getD ((k : Int) - (1 : Int)).toNat nilLit) (c.getD k nilLit)))) rfl rfl g12 ?_)))
    exact J17 _ (pk [39, 0, 1, 5, 6, 7, 8, 9, 10, 11, 12, 13, 14, 15, 16, 17, 18, 19, 20, 25, 26] rfl)
   ·have g12p := g12
    try simp only [smpD] at g12p
    refine gT rfl rfl g12 (mv rfl (gT rfl rfl g12 (kl_gtr rfl rfl ?_)))
    refine gT rfl rfl g12 (mv rfl (jn 9 38 (.bool (decide ((0 : Int) < (k : Int)) && decide ((0 : Int) ≤ (litCmp (c.getD ((k : Int) - (1 : Int)).toNat nilLit) (c.getD k nilLit))))) (pk [0, 1, 5, 6, 7, 8, 9, 10, 11, 12, 13, 14, 15, 16, 17, 18, 19, 20, 25, 26, 27, 28, 29] rfl) (fun J16 => ?_) ?_))
    ·rcases Bool.eq_false_or_eq_true (decide ((0 : Int) < (k : Int))) with g13 | g13
     ·have g13p := of_decide_eq_true g13
      refine gT rfl rfl g13 (mv rfl (gT rfl rfl g13 (mv rfl (gT rfl rfl g13 (sb9 rfl rfl (by omega) ?_)))))
      refine gT rfl rfl g13 (kl_ixQ rfl rfl ‹_› (by omega) (by omega) (fun p14 a15 => ?_))
      refine gT rfl rfl g13 (kl_ldS rfl ‹_› rfl ?_)
      refine gT rfl rfl g13 (kl_ldW rfl rfl (gT rfl rfl g13 (cP rfl rfl (litCmp_ok (c.getD ((k : Int) - (1 : Int)).toNat nilLit) (c.getD k nilLit)) ?_)))
      refine gT rfl rfl g13 (kl_geq rfl rfl ?_)
      refine gT rfl rfl g12 (aT rfl rfl g13 ?_)
      exact J16 _ (pk [38, 0, 1, 5, 6, 7, 8, 9, 10, 11, 12, 13, 14, 15, 16, 17, 18, 19, 20, 25, 26, 27, 28, 29] rfl)
     ·refine gF rfl rfl g13 (gF rfl rfl g13 (gF rfl rfl g13 (gF rfl rfl g13 (gF rfl rfl g13 (gF rfl rfl g13 (gF rfl rfl g13 (gF rfl rfl g13 (gT rfl rfl g12 ?_))))))))
      refine aF (decide ((0 : Int) ≤ (litCmp (c.getD ((k : Int) - (1 : Int)).toNat nilLit) (c.getD k nilLit)))) rfl rfl g13 ?_
      exact J16 _ (pk [38, 0, 1, 5, 6, 7, 8, 9, 10, 11, 12, 13, 14, 15, 16, 17, 18, 19, 20, 25, 26, 27, 28, 29] rfl)
    refine oF rfl rfl g12 ?_
    exact J17 _ (pk [39, 0, 1, 5, 6, 7, 8, 9, 10, 11, 12, 13, 14, 15, 16, 17, 18, 19, 20, 25, 26] rfl)
  refine ln (qc (cd9 rfl (fun c18 => ?_) (fun c18 => ?_)))
  ·have c18r := c18
   try simp only [smpE] at c18
   refine cS (cr (sg rfl (ln (qc (rt (kq_retP rfl rfl (congrArg Value.bool ?_)))))))
   exact cl_noI (k := k) (by omega) ‹_›
  ·have c18r := c18
   try simp only [smpE] at c18
   refine sk (qc (cr (ic9 rfl rfl (by omega) ?_)))
   refine mv rfl (ln (kq_round0 ((k + 1)) (by omega) (⟨by omega, cl_stepI hi3 ‹_›⟩) (pc 9 rfl pn) (pk [0, 1, 7, 8] rfl) (.cons _ slr9)))
 ·refine ex9 (qc (cS (cr (mv rfl (cP rfl rfl (within_ok n (1 : Int) (4 : Int)) ?_)))))
  refine mv rfl (jn 4 47 (.bool ((withinB n (1 : Int) (4 : Int)) && decide ((c.length : Int) ≤ (12 : Int)))) (pc 43 rfl pn) (fun J21 => ?_) ?_)
  ·rcases Bool.eq_false_or_eq_true (withinB n (1 : Int) (4 : Int)) with g19 | g19
   ·have g19p := g19
    try simp only [smpD] at g19p
    refine gT rfl rfl g19 (mv rfl (gT rfl rfl g19 (le9 rfl ‹_› (fun l20 => ?_))))
    refine gT rfl rfl g19 (kl_leq rfl rfl ?_)
    refine aT rfl rfl g19 ?_
    exact J21 _ (pk [47, 43] rfl)
   ·refine gF rfl rfl g19 (gF rfl rfl g19 (gF rfl rfl g19 (aF (decide ((c.length : Int) ≤ (12 : Int))) rfl rfl g19 ?_)))
    exact J21 _ (pk [47, 43] rfl)
  refine sg rfl (ln (qc (rt (kq_retP rfl rfl (congrArg Value.bool ?_)))))
  exact cl_yesI (k := k) (by omega) hi3
end
section
class Enc {A : Type} (enc : A → Value) : Prop where
  one : ∀ a, (enc a).oneCell' = true
  cells : ∀ a, (enc a).cells = [enc a].toArray
def encB (b : Bool) : Value := .bool b
def encI (n : Int) : Value := .int .i64 n
instance : Enc encB := ⟨fun _ => rfl, fun _ => rfl⟩
instance : Enc encI := ⟨fun _ => rfl, fun _ => rfl⟩
/-- u is a row that lies in the block b of K, from its head on. -/
def BlkR {A : Type} (E : Nat) (enc : A → Value) (K : Hp) (b : Nat) (xs : List A) (u : Value) : Prop :=
  ∃ c cur, u = .slice (some ⟨b, 0, none⟩) xs.length c ∧ xs.length ≤ c ∧ c ≤ maxLen ∧ c ≤ cur.size ∧ xs.length ≤ 140737488355328 ∧ cur.toList.take xs.length = xs.map enc ∧ K b = some (.cells cur E (0, 0))
/-- v, whose cells H holds, is a list of rows (their slices: us), each in a block of its own in K. -/
structure Mat {A : Type} (EH E : Nat) (enc : A → Value) (H K : Hp) (v : Value) (us : List Value) (xss : List (List A)) : Prop where
  hd : OwnS EH 1 H v xss.length us
  bs : ∃ bs : List Nat, bs.length = xss.length ∧ bs.Nodup ∧ ∀ i, i < xss.length → BlkR E enc K (bs.getD i 0) (xss.getD i []) (us.getD i undef)
  lq : Liq K
variable {A : Type} {enc : A → Value}
theorem Mat.ulen {EH E : Nat} {H K : Hp} {v : Value} {us : List Value} {xss : List (List A)} (h : Mat EH E enc H K v us xss) : us.length = xss.length := by have := h.hd.1; omega
theorem Mat.nil {EH E : Nat} {H : Hp} {v : Value} (h : OwnS EH 1 H v 0 []) : Mat EH E enc H noHp v [] [] := ⟨h, ⟨[], rfl, List.nodup_nil, fun i h => absurd h (Nat.not_lt_zero i)⟩, fun b o hb => by cases hb⟩
theorem BlkR.mono {E b : Nat} {K K' : Hp} {xs : List A} {u : Value} (h : BlkR E enc K b xs u) (hk : K' b = K b) : BlkR E enc K' b xs u := by
  obtain ⟨c, cur, h1, h2, h3, h4, h5, h6, h7⟩ := h
  exact ⟨c, cur, h1, h2, h3, h4, h5, h6, by rw [hk]; exact h7⟩
theorem blk_of {E : Nat} {K : Hp} {u : Value} {xs : List A} (h : OwnS E 1 K u xs.length (xs.map enc)) (h0 : 0 < xs.length) : ∃ b, BlkR E enc K b xs u ∧ K b ≠ none := by
  obtain ⟨h1, h2, h3⟩ := h
  rcases h3 with ⟨_, _, hn, _⟩ | ⟨b, c, cur, rfl, h4, h5, h6, h7, rfl⟩
  · omega
  · exact ⟨b, ⟨c, cur, rfl, h4, h5, by simpa using h6, h2, by simpa using h7, by simp⟩, by simp⟩
/-- A row of its own is put behind. -/
theorem Mat.push {EH E : Nat} {H H' K Hr : Hp} {v v' u : Value} {us : List Value} {xss : List (List A)} {r : List A} (h : Mat EH E enc H K v us xss) (ho : OwnS EH 1 H' v' (xss.length + 1) (us ++ [u])) (hr : OwnS E 1 Hr u r.length (r.map enc)) (h0 : 0 < r.length) (lr : Liq Hr) (ap : Apart K Hr) :
    Mat EH E enc H' (orHp K Hr) v' (us ++ [u]) (xss ++ [r]) := by
  obtain ⟨bs, h1, h2, h3⟩ := h.bs
  obtain ⟨b, hb, hbn⟩ := blk_of hr h0
  have hul := h.ulen
  have hK : ∀ q, Hr q ≠ none → K q = none := fun q hq => (ap q).resolve_right hq
  refine ⟨by simpa using ho, ⟨bs ++ [b], by simp [h1], ?_, fun i hi => ?_⟩, fun q o hq => ?_⟩
  · rw [List.nodup_append]
    refine ⟨h2, by simp, fun x hx y hy e => ?_⟩
    rw [List.mem_singleton] at hy
    subst hy e
    obtain ⟨i, hi, rfl⟩ := List.getElem_of_mem hx
    obtain ⟨c, cur, _, _, _, _, _, _, h9⟩ := h3 i (by omega)
    rw [List.getD_eq_getElem?_getD, List.getElem?_eq_getElem hi, Option.getD_some, hK _ hbn] at h9
    cases h9
  · simp only [List.length_append, List.length_singleton] at hi
    by_cases e : i < xss.length
    · have h4 := h3 i e
      have e1 : (bs ++ [b]).getD i 0 = bs.getD i 0 := by simp [List.getD, List.getElem?_append, h1, e]
      have e2 : (xss ++ [r]).getD i [] = xss.getD i [] := by simp [List.getD, List.getElem?_append, e]
      have e3 : (us ++ [u]).getD i undef = us.getD i undef := by simp [List.getD, List.getElem?_append, hul, e]
      rw [e1, e2, e3]
      obtain ⟨c, cur, q1, q2, q3, q4, q5, q6, q7⟩ := h4
      exact ⟨c, cur, q1, q2, q3, q4, q5, q6, by unfold orHp; rw [q7]; rfl⟩
    · have ei : i = xss.length := by omega
      subst ei
      have e1 : (bs ++ [b]).getD xss.length 0 = b := by simp [List.getD, List.getElem?_append, h1]
      have e2 : (xss ++ [r]).getD xss.length [] = r := by simp [List.getD, List.getElem?_append]
      have e3 : (us ++ [u]).getD xss.length undef = u := by simp [List.getD, List.getElem?_append, hul]
      rw [e1, e2, e3]
      refine hb.mono ?_
      simp [orHp, hK b hbn]
  · unfold orHp at hq
    cases e : K q with
    | none => rw [e] at hq; exact lr q o (by simpa using hq)
    | some x => rw [e] at hq; exact h.lq q o (by rw [e]; simpa using hq)
theorem enc_get {xs : List A} {cur : Array Value} {d : A} (h : cur.toList.take xs.length = xs.map enc) {j : Nat} (hj : j < xs.length) : cur[j]? = some (enc (xs.getD j d)) := by
  have h1 : (cur.toList.take xs.length)[j]? = some (enc (xs.getD j d)) := by rw [h]; simp [List.getD, hj]
  rw [List.getElem?_take, if_pos hj] at h1
  rw [← Array.getElem?_toList]; exact h1
section ops
variable {C : Cx} {dr : Bool} {ops : Array Oper} {Q : Post} {ims L : List Hp} {G : Env} {fl : List Bool} {rest : List Oper} {d ty : Nat} {pos : String} {af : Array Edge}
variable {EH E i j : Nat} {H K : Hp} {v p u : Value} {us : List Value} {xss : List (List A)} {x y : Operand} {T E' by' : Nat} {z : Value}
/-- Two heaplets of the call's own lie apart. -/
theorem kl_apart (K H : Hp) {L' : List Hp} [t : TakeL [K, H] L L'] (h : Apart K H → KL C dr ops Q ims L fl rest G) : KL C dr ops Q ims L fl rest G := fun a w hf hs =>
  h ((List.pairwise_cons.1 (hs.perm t.t).nd).1 H (.head _)) a w hf hs
/-- An owned heaplet of two parts is two. -/
theorem St.split {B : World} {X : Side} {ims L' : List Hp} {w : World} {K H : Hp} (h : St B X ims (orHp K H :: L') w) (ap : Apart K H) : St B X ims (K :: H :: L') w := by
  have hk := h.own _ (.head _)
  have d1 : ∀ b, K b ≠ none → orHp K H b ≠ none := fun b hb e => by
    cases e1 : K b with
    | none => exact hb e1
    | some o => simp [orHp, e1] at e
  have d2 : ∀ b, H b ≠ none → orHp K H b ≠ none := fun b hb e => by
    have := (ap b).resolve_right hb
    simp [orHp, this] at e; exact hb e
  have a1 : Agree K w := fun b o hb => hk.1 b o (by simp [orHp, hb])
  have a2 : Agree H w := fun b o hb => hk.1 b o (by
    have := (ap b).resolve_right (by rw [hb]; simp)
    simp [orHp, this, hb])
  have sub : ∀ M : Hp, Apart (orHp K H) M → Apart K M ∧ Apart H M := fun M ha => ⟨fun b => by
      by_cases e : K b = none
      · exact .inl e
      · exact .inr ((ha b).resolve_left (d1 b e)), fun b => by
      by_cases e : H b = none
      · exact .inl e
      · exact .inr ((ha b).resolve_left (d2 b e))⟩
  have hnd := List.pairwise_cons.1 h.nd
  refine h.still (fun b hb => ?_) h.im (fun M hM => ?_) ?_
  · rcases hb with ⟨M, hM, hb⟩ | hb
    · cases hM with
      | head => exact .inl ⟨_, .head _, d1 b hb⟩
      | tail _ hM => cases hM with
        | head => exact .inl ⟨_, .head _, d2 b hb⟩
        | tail _ hM => exact .inl ⟨M, .tail _ hM, hb⟩
    · exact .inr hb
  · cases hM with
    | head => exact ⟨a1, fun b hb => hk.2.1 b (d1 b hb), fun I hI => (sub I (hk.2.2 I hI)).1⟩
    | tail _ hM => cases hM with
      | head => exact ⟨a2, fun b hb => hk.2.1 b (d2 b hb), fun I hI => (sub I (hk.2.2 I hI)).2⟩
      | tail _ hM => exact h.own M (.tail _ hM)
  · refine List.pairwise_cons.2 ⟨fun M hM => ?_, List.pairwise_cons.2 ⟨fun M hM => (sub M (hnd.1 M hM)).2, hnd.2⟩⟩
    cases hM with
    | head => exact ap
    | tail _ hM => exact (sub M (hnd.1 M hM)).1
end ops
/-- A list of rows that a call gives: header and rows in one heaplet. -/
def MatR (EH E : Nat) (enc : A → Value) (Hq : Hp) (v : Value) (xss : List (List A)) : Prop := ∃ (H K : Hp) (us : List Value), Hq = orHp H K ∧ Apart H K ∧ Mat EH E enc H K v us xss
/-- What it reads as. -/
theorem Mat.rows {EH E : Nat} {H K M : Hp} {v : Value} {us : List Value} {xss : List (List Int)} (h : Mat EH E encI H K v us xss) (h1 : ∀ b o, H b = some o → M b = some o) (h2 : ∀ b o, K b = some o → M b = some o) : Rows M v xss := by
  obtain ⟨bs, hb1, hb2, h3⟩ := h.bs
  refine h.hd.sl (k := 1) (K := M) (R := SlC M 1 IntC) rfl h1 (fun i hi => ?_)
  obtain ⟨c, cur, e, q2, q3, q4, q5, q6, q7⟩ := h3 i hi
  have hu : i < us.length := by rw [h.ulen]; exact hi
  rw [Nat.mul_one, List.drop_eq_getElem_cons hu, List.take_succ_cons, List.take_zero]
  have e1 : us.getD i undef = us[i] := by simp [List.getD, hu]
  have e2 : xss.getD i [] = xss[i] := by simp [List.getD, hi]
  rw [e1, e2] at e
  rw [e2] at q2 q5 q6
  refine ⟨us[i], rfl, some ⟨bs.getD i 0, 0, none⟩, c, e, q2, q5, fun j hj => ⟨_, 0, rfl, [.int .i64 xss[i][j]], rfl, rfl, _, 0 + j * 1, cur, E, (0, 0), rfl, h2 _ _ q7, fun q w hq => ?_⟩⟩
  cases q with
  | zero =>
    simp only [List.getElem?_cons_zero, Option.some.injEq] at hq
    subst hq
    have := enc_get (enc := encI) (d := 0) q6 hj
    have e3 : (xss[i]).getD j 0 = xss[i][j] := by simp [List.getD, hj]
    rw [e3] at this
    simpa [encI] using this
  | succ q => simp at hq
theorem kq_apart {C : Cx} {ims L : List Hp} {G : Env} {p : Act → World → Prop} (K H : Hp) {L' : List Hp} [t : TakeL [K, H] L L'] (h : Apart K H → KQ C ims L G p) : KQ C ims L G p := fun a w hf hs =>
  h ((List.pairwise_cons.1 (hs.perm t.t).nd).1 H (.head _)) a w hf hs
end
section
theorem kq_own {P : Program} {n : Nat} {B : World} {ims L : List Hp} {G : Env} {p : Act → World → Prop} (H : Hp) [i : In H L] (l : Liq H) (h : Fr B H → KQ ⟨P, n, B, noS, false, [], none⟩ ims L G p) : KQ ⟨P, n, B, noS, false, [], none⟩ ims L G p := fun a w hf hs =>
  h ⟨fun b hb => ((hs.own H i.mem).2.1 b hb).elim id (fun h9 => h9.elim), l⟩ a w hf hs
theorem SpecP.ims {P : Program} {f : FuncId} {args : List Value} {ims ims' : List Hp} {v : Value} (h : SpecP P f args ims v) (hs : ∀ I ∈ ims, I ∈ ims') : SpecP P f args ims' v := fun w hA => h w (fun I hI => hA I (hs I hI))
theorem MatR.rows {EH E : Nat} {H : Hp} {v : Value} {xss : List (List Int)} (h : MatR EH E encI H v xss) : Rows H v xss := by
  obtain ⟨H1, K, us, rfl, ap, hm⟩ := h
  refine hm.rows orL (fun b o hb => ?_)
  have := (ap b).resolve_right (by rw [hb]; simp)
  simp [orHp, this, hb]
section ops
variable {C : Cx} {dr : Bool} {ops : Array Oper} {Q : Post} {ims L : List Hp} {G : Env} {fl : List Bool} {rest : List Oper} {d ty : Nat} {pos : String} {af : Array Edge}
end ops
end
section
theorem lenZ64_ok (x : Int) (hb : 0 ≤ x ∧ x < 64) : Spec Tryz.prog 208 [.int .u64 x] [] (fun Hq vq => ∃ z : Int, vq = .int .i64 z ∧ 0 ≤ z ∧ z ≤ 100) := by
 refine spec_of Tryz.func208 rfl rfl rfl (fun B => ?_)
 refine cS (cr (sg rfl (ln (qc (cS (cS (cr (mv rfl (kl_geqK rfl rfl ?_)))))))))
 refine ln (qc (ci9 rfl (fun c1 => ?_) (fun c1 => ?_)))
 ·exfalso; omega
 ·refine sk (qc (cS (cS (cr (mv rfl (kl_geqK rfl rfl ?_))))))
  refine ln (qc (ci9 rfl (fun c2 => ?_) (fun c2 => ?_)))
  ·exfalso; omega
  ·refine sk (qc (cS (cS (cr (mv rfl (kl_geqK rfl rfl ?_))))))
   refine ln (qc (ci9 rfl (fun c3 => ?_) (fun c3 => ?_)))
   ·exfalso; omega
   ·refine sk (qc (cS (cr (mv rfl (mv rfl (kl_cv rfl ?_))))))
    refine kl_ixLen0 (m := x) (by kernel_rfl) rfl hb (fun z4 h5 => ?_)
    refine kl_cvi rfl (by omega) ?_
    refine ad9 rfl rfl (by omega) ?_
    refine sg rfl (ln (qc (rt ?_)))
    exact kq_retP rfl rfl ⟨_, rfl, by omega⟩
theorem lenZ_ok (x : Int) (hb : 0 ≤ x ∧ x < 64) : Spec Tryz.prog 194 [.int .u64 x] [] (fun Hq vq => ∃ z : Int, vq = .int .i64 z ∧ 0 ≤ z ∧ z ≤ 100) := by
 refine spec_of Tryz.func194 rfl rfl rfl (fun B => ?_)
 refine cS (cr (sg rfl (ln (qc (cS (kc_condF ?_))))))
 refine sk (qc (cS (cr (mv rfl (kl_call rfl rfl (lenZ64_ok x hb) (fun v1 H2 f3 h4 => ?_))))))
 obtain ⟨z5, rfl, h6⟩ := h4
 refine sg rfl (ln (qc (rt ?_)))
 exact kq_retP rfl rfl ⟨_, rfl, by omega⟩
theorem insL_ok {Hs : Hp} {vs : Value} (xs : List Lit) (a b : Int) (ha : a = 0) (hb : b = (xs.length : Int)) (hn : xs.length ≤ 12) (os : OwnL 100 3 Hs noHp LitV vs xs) : SpecT Tryz.prog 199 [vs, .int .i64 a, .int .i64 b, .func (.func 163) #[] #[]] [Hs] [] (fun vq L1 Ln _ => ∃ (Hq : Hp) (ys : List Lit), L1 = [Hq] ∧ Ln = [] ∧ OwnL 100 3 Hq noHp LitV vs ys ∧ SrtA litCmp nilLit xs ys xs.length) := by
 subst ha
 subst hb
 have hlen := os.len
 refine specT_of Tryz.func199 rfl rfl rfl (fun B => ?_)
 refine cS (cr (mv rfl (ad9 rfl rfl (by omega) ?_)))
 refine sg rfl (ln (qc (bl (kc_loopL (A := Nat × List Lit × Hp) (fun zz => (1 ≤ zz.1) ∧ (SrtA litCmp nilLit xs zz.2.1 zz.1) ∧ OwnL 100 3 zz.2.2 noHp LitV vs zz.2.1) (fun zz => xs.length - zz.1) (fun zz => [zz.2.2]) (fun zz => [(8, .int .i64 (zz.1 : Int))]) (1, xs, Hs) (pk [0, 1, 2, 3] rfl) (pc 8 rfl pn) rfl ⟨(Nat.le_refl 1), (SrtA.zero _), os⟩ ?_))))
 rintro ⟨i, ys, H3⟩ hJ6
 obtain ⟨hk1, hi2, o4⟩ : (1 ≤ i) ∧ (SrtA litCmp nilLit xs ys i) ∧ OwnL 100 3 H3 noHp LitV vs ys := hJ6
 change KC _ _ (_) [H3] _ ([(8, .int .i64 (i : Int))] ++ _)
 have hyl := hi2.perm.length_eq
 refine cS (cS (cr (mv rfl (mv rfl (ls9 rfl rfl ?_)))))
 refine ln (qc (ci9 rfl (fun c7 => ?_) (fun c7 => ?_)))
 ·refine sk (qc (cS (bl (cS (cr (mv rfl (sg rfl (ln (qc (bl ?_))))))))))
  refine kc_loopL (A := Nat × Int × List Lit × Hp) (fun zz => (zz.1 ≤ i) ∧ (zz.2.1 = (zz.1 : Int) ∧ InsA litCmp nilLit xs zz.2.2.1 i zz.1) ∧ OwnL 100 3 zz.2.2.2 noHp LitV vs zz.2.2.1) (fun zz => zz.1) (fun zz => [zz.2.2.2]) (fun zz => [(9, .int .i64 zz.2.1)]) (i, (i : Int), ys, H3) (pk [0, 1, 2, 3, 8, 12, 13, 14, 17] rfl) (pc 9 rfl pn) rfl ⟨(Nat.le_refl _), ⟨rfl, SrtA.go hi2⟩, o4⟩ ?_
  rintro ⟨j, z, ws, H10⟩ hJ13
  obtain ⟨hk8, hi9, o11⟩ : (j ≤ i) ∧ (z = (j : Int) ∧ InsA litCmp nilLit xs ws i j) ∧ OwnL 100 3 H10 noHp LitV vs ws := hJ13
  change KC _ _ (_) [H10] _ ([(9, .int .i64 z)] ++ _)
  have hz := hi9.1
  have hwl := hi9.2.perm.length_eq
  refine cS (cS (kc_draw 17 [true, true, true, true, true, true, true, true, true, true, true, true, true, true, false, true, true] (by kernel_rfl) (by kernel_rfl) ?_))
  refine mv rfl (mv rfl (kl_gtr rfl rfl ?_))
  refine mv rfl (jn 13 34 (.bool (decide ((0 : Int) < z) && decide ((litCmp (ws.getD z.toNat nilLit) (ws.getD ((z - (1 : Int)).toNat) nilLit)) < (0 : Int)))) (pk [0, 1, 2, 3, 8, 9, 12, 13, 14, 17, 18, 19, 20, 21] rfl) (fun J19 => ?_) ?_)
  ·rcases Bool.eq_false_or_eq_true (decide ((0 : Int) < z)) with g14 | g14
   ·have g14p := of_decide_eq_true g14
    refine gT rfl rfl g14 (mv rfl (gT rfl rfl g14 (mv rfl (gT rfl rfl g14 (mv rfl (gT rfl rfl g14 (kl_ixL rfl rfl ‹_› (by first | omega | (simp only [List.length_set]; omega)) (by first | omega | (simp only [List.length_set]; omega)) (fun p15 q16 => ?_))))))))
    refine gT rfl rfl g14 (kl_ldSL rfl (OwnL.atQ o11 ‹_› (by first | omega | (simp only [List.length_set]; omega) : z.toNat < ws.length)) rfl ?_)
    refine gT rfl rfl g14 (mv rfl (gT rfl rfl g14 (mv rfl (gT rfl rfl g14 (sb9 rfl rfl (by omega) ?_)))))
    refine gT rfl rfl g14 (kl_ixL rfl rfl ‹_› (by first | omega | (simp only [List.length_set]; omega)) (by first | omega | (simp only [List.length_set]; omega)) (fun p17 q18 => ?_))
    refine gT rfl rfl g14 (kl_ldSL rfl (OwnL.atQ o11 ‹_› (by first | omega | (simp only [List.length_set]; omega) : (z - (1 : Int)).toNat < ws.length)) rfl ?_)
    refine gT rfl rfl g14 (cP rfl rfl (litCmp_ok (ws.getD z.toNat nilLit) (ws.getD ((z - (1 : Int)).toNat) nilLit)) ?_)
    refine gT rfl rfl g14 (ls9 rfl rfl ?_)
    refine aT rfl rfl g14 ?_
    exact J19 _ (pk [34, 0, 1, 2, 3, 8, 9, 12, 13, 14, 17, 18, 19, 20, 21] rfl)
   ·refine gF rfl rfl g14 (gF rfl rfl g14 (gF rfl rfl g14 (gF rfl rfl g14 (gF rfl rfl g14 (gF rfl rfl g14 (gF rfl rfl g14 (gF rfl rfl g14 (gF rfl rfl g14 ?_))))))))
    refine gF rfl rfl g14 (gF rfl rfl g14 (gF rfl rfl g14 (aF (decide ((litCmp (ws.getD z.toNat nilLit) (ws.getD ((z - (1 : Int)).toNat) nilLit)) < (0 : Int))) rfl rfl g14 ?_)))
    exact J19 _ (pk [34, 0, 1, 2, 3, 8, 9, 12, 13, 14, 17, 18, 19, 20, 21] rfl)
  refine ln (qc (cd9 rfl (fun c20 => ?_) (fun c20 => ?_)))
  ·have c20r := c20
   try simp only [smpE] at c20
   refine sk (qc (cS (bl (kc_tree (fun i => ([2, 3, 4, 15, 16, 17] : List Nat).contains i) [H10] (by kernel_rfl) ?_))))
   refine kt_p 2 rfl rfl (by kernel_rfl) (py_mv rfl) ?_
   refine kt_p 3 rfl rfl (by kernel_rfl) (py_mv rfl) ?_
   refine kt_p 4 rfl rfl (by kernel_rfl) (py_sub rfl rfl (by omega)) ?_
   refine tq 0 (.cons_cons _ nsl) rfl (mv rfl (ln (qq (tq 1 (.cons_cons _ nsl) rfl (mv rfl (ln (qq (tq 5 (.cons_cons _ nsl) rfl (mv rfl (ln (qq ?_)))))))))))
   refine tq 6 (.cons_cons _ nsl) rfl (mv rfl (ln (qq (tq 7 (.cons_cons _ nsl) rfl (sb9 rfl rfl (by omega) ?_)))))
   refine ln (qq (tq 8 (.cons_cons _ nsl) rfl (kl_ixL rfl rfl ‹_› (by first | omega | (simp only [List.length_set]; omega)) (by first | omega | (simp only [List.length_set]; omega)) (fun p21 q22 => ?_))))
   refine ln (qq (tq 9 (.cons_cons _ nsl) rfl (kl_ldS rfl (OwnL.atQ o11 ‹_› (by first | omega | (simp only [List.length_set]; omega) : (z - (1 : Int)).toNat < ws.length)) rfl ?_)))
   refine ln (qq (tq 10 (.cons_cons _ nsl) rfl (mv rfl (ln (qq (tq 11 (.cons_cons _ nsl) rfl (mv rfl (ln (qq (tq 12 (.cons_cons _ nsl) rfl (kl_ixL rfl rfl ‹_› (by first | omega | (simp only [List.length_set]; omega)) (by first | omega | (simp only [List.length_set]; omega)) (fun p23 q24 => ?_))))))))))))
   refine ln (qq (tq 13 (.cons_cons _ nsl) rfl (kl_ldS rfl (OwnL.atQ o11 ‹_› (by first | omega | (simp only [List.length_set]; omega) : z.toNat < ws.length)) rfl ?_)))
   refine ln (qq (tq 14 (.cons_cons _ nsl) rfl (kl_ixL rfl rfl ‹_› (by first | omega | (simp only [List.length_set]; omega)) (by first | omega | (simp only [List.length_set]; omega)) (fun p25 q26 => ?_))))
   refine ln (qq (ta 15 rfl (kl_stLk (us := [.int .i64 ((ws.getD ((z - (1 : Int)).toNat) nilLit).var), .int .i64 ((ws.getD ((z - (1 : Int)).toNat) nilLit).val), .bool ((ws.getD ((z - (1 : Int)).toNat) nilLit).neg)]) (ws.getD ((z - (1 : Int)).toNat) nilLit) rfl rfl ‹_› o11 (by first | omega | (simp only [List.length_set]; omega)) rfl rfl (oc rfl (oc rfl (oc rfl oc_nil))) rfl (fun H27 o28 f29 => ?_))))
   refine cg [H27] rfl ?_
   refine ln (qx rfl (ta 16 rfl (kl_ixL rfl rfl ‹_› (by first | omega | (simp only [List.length_set]; omega)) (by first | omega | (simp only [List.length_set]; omega)) (fun p31 q32 => ?_))))
   refine ln (qx rfl (ta 17 rfl (kl_stLk (us := [.int .i64 ((ws.getD z.toNat nilLit).var), .int .i64 ((ws.getD z.toNat nilLit).val), .bool ((ws.getD z.toNat nilLit).neg)]) (ws.getD z.toNat nilLit) rfl rfl ‹_› o28 (by first | omega | (simp only [List.length_set]; omega)) rfl rfl (oc rfl (oc rfl (oc rfl oc_nil))) rfl (fun H33 o34 f35 => ?_))))
   refine cg [H33] rfl ?_
   refine ln (qx rfl (kt_end (by kernel_rfl) ?_))
   refine qc (cr (mv rfl (sb9 rfl rfl (by omega) ?_)))
   refine sg rfl (ln (tk [H33] ?_))
   refine rL ((j - 1), (z - (1 : Int)), ((ws.set z.toNat (ws.getD ((z - (1 : Int)).toNat) nilLit)).set ((z - (1 : Int)).toNat) (ws.getD z.toNat nilLit)), H33) (by omega) (⟨(by omega), (so_step litC_tot hi9 (by omega) ‹_›), o34⟩) (pc 9 rfl pn) (pk [0, 1, 2, 3, 8, 12, 13, 14, 17] rfl) rfl slr9
  ·have c20r := c20
   try simp only [smpE] at c20
   refine ex9 (qc (cr (mv rfl (ic9 rfl rfl (by omega) ?_))))
   refine sg rfl (ln (tk [H10] ?_))
   refine rL ((i + 1), ws, H10) (by omega) (⟨by omega, (so_exit litC_tot hi9 ‹_›), o11⟩) (pc 8 rfl pn) (pk [0, 1, 2, 3] rfl) rfl slr9
 ·refine ex9 ?_
  exact kq_retT0 rfl [H3] [] noHp frn (fr_no _) ⟨H3, _, rfl, rfl, o4, (SrtA.le hi2 (by omega))⟩
theorem pdqL_ok {Hs : Hp} {vs : Value} (xs : List Lit) (l : Int) (hn : xs.length ≤ 12) (os : OwnL 100 3 Hs noHp LitV vs xs) : SpecT Tryz.prog 193 [vs, .int .i64 0, .int .i64 (xs.length : Int), .int .i64 l, .func (.func 163) #[] #[]] [Hs] [] (fun vq L1 Ln _ => ∃ (Hq : Hp) (ys : List Lit), L1 = [Hq] ∧ Ln = [] ∧ OwnL 100 3 Hq noHp LitV vs ys ∧ SrtA litCmp nilLit xs ys xs.length) := by
 have hlen := os.len
 refine specT_of Tryz.func193 rfl rfl rfl (fun B => ?_)
 refine cS (cr (sg rfl (ln (qc (cS (cr (sg rfl (ln (qc (bl (kc_loop0 (A := Int × Int × Int × Bool × Bool) (fun zz => (zz.1 = 0 ∧ zz.2.1 = (xs.length : Int))) (fun zz => 0) (fun zz => [(1, .int .i64 zz.1), (2, .int .i64 zz.2.1), (3, .int .i64 zz.2.2.1), (10, .bool zz.2.2.2.1), (11, .bool zz.2.2.2.2)]) ((0 : Int), (xs.length : Int), l, true, true) (pk [0, 4] rfl) (pk [1, 2, 3, 10, 11] rfl) (⟨rfl, rfl⟩) ?_)))))))))))
 rintro ⟨za, zb, zl, p, q⟩ hJ3
 have hi2 : (za = 0 ∧ zb = (xs.length : Int)) := hJ3
 change KC _ _ (_) _ _ ([(1, .int .i64 za), (2, .int .i64 zb), (3, .int .i64 zl), (10, .bool p), (11, .bool q)] ++ _)
 refine bl (cS (cr (mv rfl (mv rfl (sb9 rfl rfl (by omega) ?_)))))
 refine sg rfl (ln (qc (cS (cS (cr (mv rfl (kl_leq rfl rfl ?_)))))))
 refine ln (qc (ci9 rfl (fun c4 => ?_) (fun c4 => ?_)))
 ·refine cS (cr (mv rfl (mv rfl (mv rfl (mv rfl (cT rfl rfl (insL_ok xs za zb (by omega) (by omega)  (by omega) os) (fun v5 L1 Ln K6 h7 g8 g9 => ?_)))))))
  obtain ⟨H10, y11, rfl, rfl, o12, h13⟩ := h7
  refine nm ?_
  refine ln (qc (rt ?_))
  exact kq_retT0 rfl [H10] [] noHp frn (fr_no _) ⟨H10, _, rfl, rfl, o12, h13⟩
 ·exfalso; omega
theorem srtL_ok {Hs : Hp} {vs : Value} (xs : List Lit) (hn : xs.length ≤ 12) (os : OwnL 100 3 Hs noHp LitV vs xs) : SpecT Tryz.prog 180 [vs, .func (.func 163) #[] #[]] [Hs] [] (fun vq L1 Ln _ => ∃ (Hq : Hp) (ys : List Lit), L1 = [Hq] ∧ Ln = [] ∧ OwnL 100 3 Hq noHp LitV vs ys ∧ SrtA litCmp nilLit xs ys xs.length) := by
 have hlen := os.len
 refine specT_of Tryz.func180 rfl rfl rfl (fun B => ?_)
 refine cS (cr (mv rfl (lL rfl os (fun l1 => ?_))))
 refine sg rfl (ln (qc (cr (mv rfl (mv rfl (mv rfl (kl_cvu rfl (by omega) ?_)))))))
 refine kl_call rfl rfl (lenZ_ok (xs.length : Int) (by omega)) (fun v2 H3 f4 h5 => ?_)
 obtain ⟨z6, rfl, h7⟩ := h5
 refine mv rfl (cT rfl rfl (pdqL_ok xs z6  (by omega) os) (fun v8 L1 Ln K9 h10 g11 g12 => ?_))
 obtain ⟨H13, y14, rfl, rfl, o15, h16⟩ := h10
 refine nm ?_
 refine ln ?_
 exact kq_retT0 rfl [H13] [] noHp frn (fr_no _) ⟨H13, _, rfl, rfl, o15, h16⟩
theorem compactL_ok {Hxs : Hp} {vxs : Value} (xs : List Lit) (hd : ∀ k : Nat, 0 < k → k < xs.length → xs.getD k nilLit ≠ xs.getD ((k : Int) - 1).toNat nilLit) (hxs : Lits Hxs vxs xs) : Spec Tryz.prog 182 [vxs] [Hxs] ((fun Hq vq => vq = vxs)) := by
 refine spec_of Tryz.func182 rfl rfl rfl (fun B => ?_)
 refine cS (cr (sg rfl (ln (qc (cS (cS (cr (mv rfl (le9 rfl ‹_› (fun l1 => ?_))))))))))
 refine ls9 rfl rfl ?_
 refine ln (qc (ci9 rfl (fun c2 => ?_) (fun c2 => ?_)))
 ·refine cS (cr (mv rfl (sg rfl (ln (qc (rt ?_))))))
  exact kq_ret rfl rfl noHp (fr_no _) rfl
 ·refine sk (qc (cS (cS (cr (sg rfl (ln (qc (bl (kc_loop0 (A := Nat) (fun zz => (1 ≤ zz) ∧ (True)) (fun zz => xs.length - zz) (fun zz => [(3, .int .i64 (zz : Int))]) (1) (pc 0 rfl pn) (pc 3 rfl pn) ⟨(Nat.le_refl 1), trivial⟩ ?_)))))))))
  rintro k hJ5
  obtain ⟨hk3, hi4⟩ : (1 ≤ k) ∧ (True) := hJ5
  change KC _ _ (_) _ _ ([(3, .int .i64 (k : Int))] ++ _)
  refine cS (cS (cr (mv rfl (mv rfl (le9 rfl ‹_› (fun l6 => ?_))))))
  refine ls9 rfl rfl ?_
  refine ln (qc (ci9 rfl (fun c7 => ?_) (fun c7 => ?_)))
  ·refine sk (qc (cS (bl (cS (kc_draw 10 [true, true, true, true, true, true, true, true, true, true] (by kernel_rfl) (by kernel_rfl) ?_)))))
   refine mv rfl (mv rfl (kl_inQ rfl rfl ‹_› (by omega) (fun p8 a9 => ?_)))
   refine kl_ldS rfl ‹_› rfl ?_
   refine mv rfl (mv rfl (sb9 rfl rfl (by omega) ?_))
   refine kl_ixQ rfl rfl ‹_› (by omega) (by omega) (fun p10 a11 => ?_)
   refine kl_ldS rfl ‹_› rfl ?_
   refine kl_eqlQ rfl rfl ?_
   refine ln (qc (cd9 rfl (fun c12 => ?_) (fun c12 => ?_)))
   ·have c12r := c12
    try simp only [smpE] at c12
    exact absurd c12 (hd k (by omega) (by omega))
   ·have c12r := c12
    try simp only [smpE] at c12
    refine sk (qc (cr (mv rfl (ic9 rfl rfl (by omega) ?_))))
    refine sg rfl (ln (kq_round0 ((k + 1)) (by omega) (⟨by omega, trivial⟩) (pc 3 rfl pn) (pc 0 rfl pn) slr9))
  ·refine ex9 (qc (cS (cr (mv rfl (sg rfl (ln (qc (rt ?_))))))))
   exact kq_ret rfl rfl noHp (fr_no _) rfl
theorem cloneL_ok {Hxs : Hp} {vxs : Value} (xs : List Lit) (hb : xs.length ≤ 1000) (hxs : Lits Hxs vxs xs) : Spec Tryz.prog 113 [vxs] [Hxs] (fun Hq vq => OwnL 100 3 Hq noHp LitV vq xs) := by
 refine spec_of Tryz.func113 rfl rfl rfl (fun B => ?_)
 refine cS (cr (sg rfl (ln (qc (cS (cS (cr (mv rfl (kl_eqlnilX rfl rfl ‹_› (fun bn nn nx => ?_))))))))))
 refine ln (qc (cd9 rfl (fun c3 => ?_) (fun c3 => ?_)))
 ·have c3r := c3
  try simp only [smpE] at c3
  refine cS (cr (sg rfl (ln (qc (rt ?_)))))
  exact kq_ret rfl rfl noHp (fr_no _) (by rw [nn ‹_›]; exact OwnL.nil)
 ·have c3r := c3
  try simp only [smpE] at c3
  refine sk (qc (cS (cr (kl_bs0k (K := noHp) LitV rfl (fun v4 H5 f6 o7 => ?_)))))
  refine mv rfl (kl_apS rfl rfl o7 ‹_› (fun _ _ h => h) (by simp; omega) (by decide) (fun v8 H9 o10 f11 => ?_))
  have f12 := f11 B f6 (Nat.le_refl _)
  refine sg rfl (ln (qc (rt ?_)))
  exact kq_ret rfl rfl H9 f12 o10
theorem clipL_ok {Hxs : Hp} {vxs : Value} (xs : List Lit) (hxs : Lits Hxs vxs xs) : Spec Tryz.prog 181 [vxs] [Hxs] (fun _ vq => Lits Hxs vq xs ∧ ClipV vxs vq xs.length) := by
 refine spec_of Tryz.func181 rfl rfl rfl (fun B => ?_)
 refine cS (cr (sg rfl (ln (qc (cS (cr (mv rfl (mv rfl (le9 rfl ‹_› (fun l1 => ?_))))))))))
 refine mv rfl (le9 rfl ‹_› (fun l2 => ?_))
 refine kl_clipV rfl rfl rfl ‹_› (by omega) (fun u3 h4 h4v => ?_)
 refine sg rfl (ln (qc (rt ?_)))
 exact kq_ret rfl rfl noHp (fr_no _) ⟨by assumption, by assumption⟩
theorem sortedL_ok {Hc : Hp} {vc : Value} (c : List Lit) (hnd : c.Nodup) (hn : c.length ≤ 12) (hc : Lits Hc vc c) : Spec Tryz.prog 156 [vc] [Hc] ((fun Hq vq => ∃ ys : List Lit, Lits Hq vq ys ∧ ys.Perm c ∧ SrtL litCmp nilLit ys)) := by
 refine spec_of Tryz.func156 rfl rfl rfl (fun B => ?_)
 refine cS (cr (sg rfl (ln (qc (cS (cr (mv rfl (kl_callL rfl rfl (cloneL_ok c (by omega) ‹_›) (fun v1 H2 f3 o4 => ?_)))))))))
 refine sg rfl (ln (qc (cS (cr (mv rfl (cT rfl rfl (srtL_ok c  (by omega) o4) (fun v5 L1 Ln K6 h7 g8 g9 => ?_)))))))
 obtain ⟨H10, y11, rfl, rfl, o12, h13⟩ := h7
 refine nm ?_
 have hcp := srt_cpt hnd h13
 refine ln (qc (cS (cr (mv rfl (kl_call rfl rfl (compactL_ok y11 hcp.1 (OwnL.lits o12)) (fun v14 H15 f16 h17 => ?_))))))
 subst h17
 refine kl_call rfl rfl (clipL_ok y11 (OwnL.lits o12)) (fun v18 H19 f20 h21 => ?_)
 obtain ⟨h21, h22⟩ := h21
 refine sg rfl (ln (qc (rt (kq_own H10 (OwnL.liq (OwnL.clip o12 h22)) (fun f23 => ?_)))))
 exact kq_ret rfl rfl H10 f23 ⟨_, OwnL.lits (OwnL.clip o12 h22), hcp.2.2.1, hcp.2.2.2⟩
theorem negatedL_ok (l : Lit) : Spec Tryz.prog 155 [.agg #[.int .i64 l.var, .int .i64 l.val, .bool l.neg]] [] ((fun Hq vq => vq = .agg #[.int .i64 l.var, .int .i64 l.val, .bool (!l.neg)])) := by
 refine spec_of Tryz.func155 rfl rfl rfl (fun B => ?_)
 refine cS (cr (kl_boxL (cs := [.int .i64 l.var, .int .i64 l.val, .bool l.neg]) rfl rfl (fun b1 hb2 => ?_)))
 refine kl_alloc (cs := [.int .i64 (0 : Int), .int .i64 (0 : Int), .bool false]) rfl (fun b3 hb4 => ?_)
 refine ln (qc (cS (cr (fV rfl (lB rfl rfl (nt9 rfl (fV rfl (sB rfl rfl rfl rfl rfl ?_))))))))
 refine cg [bxS b3 [.int .i64 (0 : Int), .int .i64 (0 : Int), .bool false] 100, bxS b1 [.int .i64 l.var, .int .i64 l.val, .bool (!l.neg)] 100] rfl ?_
 refine ln (qc (cS (cr (kl_ldW rfl rfl (kl_stW (us := [.int .i64 l.var, .int .i64 l.val, .bool (!l.neg)]) rfl rfl rfl rfl (oc rfl (oc rfl (oc rfl oc_nil))) rfl ?_)))))
 refine cg [bxS b3 [.int .i64 l.var, .int .i64 l.val, .bool (!l.neg)] 100, bxS b1 [.int .i64 l.var, .int .i64 l.val, .bool (!l.neg)] 100] rfl ?_
 refine ln (qc (rt ?_))
 exact kq_retC rfl rfl rfl noHp (fr_no _) rfl
theorem negsL_ok {Hc : Hp} {vc : Value} (c : List Lit) (hnd : c.Nodup) (hn : c.length ≤ 12) (hc : Lits Hc vc c) : Spec Tryz.prog 114 [vc] [Hc] ((fun Hq vq => ∃ ys : List Lit, Lits Hq vq ys ∧ NegR c ys)) := by
 refine spec_of Tryz.func114 rfl rfl rfl (fun B => ?_)
 refine cS (cr (sg rfl (ln (qc (cS (cr (mv rfl (le9 rfl ‹_› (fun l1 => ?_)))))))))
 refine kl_mkL0 (R := LitV) rfl rfl (by omega) (by omega) (by decide) (fun v2 H3 f4 o5 => ?_)
 refine sg rfl (ln (qc (cS (cS (cr (mv rfl (le9 rfl ‹_› (fun l6 => ?_))))))))
 refine mv rfl (ln (qc (bl (kc_loopL (A := Nat × List Lit × Value × Hp) (fun zz => (zz.1 ≤ c.length) ∧ (zz.2.1 = negTo c zz.1) ∧ OwnL 100 3 zz.2.2.2 noHp LitV zz.2.2.1 zz.2.1 ∧ Fr B zz.2.2.2) (fun zz => c.length - zz.1) (fun zz => [zz.2.2.2]) (fun zz => [(11, .int .i64 (zz.1 : Int)), (3, zz.2.2.1)]) (0, ([]), v2, H3) (pk [2, 9, 10] rfl) (pk [11, 3] rfl) rfl ⟨Nat.zero_le _, rfl, o5, f4⟩ ?_))))
 rintro ⟨k, out, v12, H9⟩ hJ13
 obtain ⟨hk7, hi8, o10, f11⟩ : (k ≤ c.length) ∧ (out = negTo c k) ∧ OwnL 100 3 H9 noHp LitV v12 out ∧ Fr B H9 := hJ13
 change KC _ _ (_) [H9] _ ([(11, .int .i64 (k : Int)), (3, v12)] ++ _)
 refine cS (cr (ls9 rfl rfl ?_))
 refine ln (qc (cS (ci9 rfl (fun c14 => ?_) (fun c14 => ?_))))
 ·refine sk (qc (cS (bl (cS (cr (kl_inQ rfl rfl ‹_› (by omega) (fun p15 a16 => ?_)))))))
  refine kl_ldS rfl ‹_› rfl ?_
  refine kl_alloc (cs := [.int .i64 (0 : Int), .int .i64 (0 : Int), .bool false]) rfl (fun b17 hb18 => ?_)
  refine kl_stW (us := [.int .i64 ((c.getD k nilLit).var), .int .i64 ((c.getD k nilLit).val), .bool ((c.getD k nilLit).neg)]) rfl rfl rfl rfl (oc rfl (oc rfl (oc rfl oc_nil))) rfl ?_
  refine cg [bxS b17 [.int .i64 ((c.getD k nilLit).var), .int .i64 ((c.getD k nilLit).val), .bool ((c.getD k nilLit).neg)] 100, H9] rfl ?_
  refine ln (qc (cr (mv rfl (kl_ldW rfl rfl (kl_call rfl rfl (negatedL_ok (c.getD k nilLit)) (fun v19 H20 f21 h22 => ?_))))))
  subst h22
  refine kl_bsQ rfl (fun v23 H24 f25 r26 h27 => ?_)
  refine aL9 (⟨(c.getD k nilLit).var, (c.getD k nilLit).val, !(c.getD k nilLit).neg⟩ : Lit) rfl rfl o10 r26 rfl (oc rfl (oc rfl (oc rfl oc_nil))) (by (have h9 := congrArg List.length hi8; simp [negTo] at h9; omega)) (by decide) (fun v28 H29 o30 f31 => ?_)
  have f32 := f31 B f11 (Nat.le_refl _)
  refine sg rfl (ln (qc (cr (ic9 rfl rfl (by omega) ?_))))
  refine mv rfl (ln (tk [H29] ?_))
  refine rL ((k + 1), (out ++ [(⟨(c.getD k nilLit).var, (c.getD k nilLit).val, !(c.getD k nilLit).neg⟩ : Lit)]), v28, H29) (by omega) (⟨by omega, (negTo_step hi8 (by omega)), o30, f32⟩) (pk [11, 3] rfl) (pk [2, 9, 10] rfl) rfl slr9
 ·have hnp := neg_pre hnd hi8 (by omega) hn
  refine ex9 (qc (cS (cr (mv rfl (kl_call rfl rfl (sortedL_ok out hnp.1 hnp.2.1 (OwnL.lits o10)) (fun v33 H34 f35 h36 => ?_))))))
  obtain ⟨y37, h38, h39, h40⟩ := h36
  have hsrt := And.intro h39 h40
  refine sg rfl (ln (qc (rt ?_)))
  exact kq_ret rfl rfl H34 f35 ⟨_, ‹_›, ⟨by rw [← hnp.2.2]; exact hsrt.1, hsrt.2⟩⟩
end
section
section ops
variable {C : Cx} {dr : Bool} {ops : Array Oper} {Q : Post} {ims L : List Hp} {G : Env} {fl : List Bool} {rest : List Oper} {d ty : Nat} {pos : String} {af : Array Edge}
end ops
end
section
theorem objectiveOk_ok {Hmd : Hp} {vmd : Value} {Hmc : Hp} {vmc : Value} {Hobj : Hp} {vobj : Value} (m : Mod) (obj : List Int) (hmd : Ints Hmd vmd m.doms) (hmc : Cons Hmc vmc m.cons) (hobj : Ints Hobj vobj obj) : SpecP Tryz.prog 43 [.agg #[vmd, vmc], vobj] [Hmd, Hmc, Hobj] (.bool (objOkB m obj)) := by
 refine spec_of Tryz.func43 rfl rfl rfl (fun B => ?_)
 refine cS (cr (kl_box rfl rfl (fun p1 H2 f3 a4 => ?_)))
 refine sg rfl (ln (qc (cS (cr (kl_ldS rfl ‹_› rfl ?_)))))
 refine cP rfl rfl (validMod_ok m ‹_› ‹_›) ?_
 refine mv rfl (jn 7 14 (.bool ((validModB m) && decide ((obj.length : Int) = (m.doms.length : Int)))) (pk [1, 4, 7] rfl) (fun J10 => ?_) ?_)
 ·rcases Bool.eq_false_or_eq_true (validModB m) with g5 | g5
  ·have g5p := g5
   try simp only [smpD] at g5p
   refine gT rfl rfl g5 (mv rfl (gT rfl rfl g5 (le9 rfl ‹_› (fun l6 => ?_))))
   refine gT rfl rfl g5 (fd9 rfl ‹_› (fun p7 a8 => ?_))
   refine gT rfl rfl g5 (ld rfl ‹_› (gT rfl rfl g5 (le9 rfl ‹_› (fun l9 => ?_))))
   refine gT rfl rfl g5 (eq9 rfl rfl ?_)
   refine aT rfl rfl g5 ?_
   exact J10 _ (pk [14, 1, 4, 7] rfl)
  ·refine gF rfl rfl g5 (gF rfl rfl g5 (gF rfl rfl g5 (gF rfl rfl g5 (gF rfl rfl g5 (gF rfl rfl g5 (aF (decide ((obj.length : Int) = (m.doms.length : Int))) rfl rfl g5 ?_))))))
   exact J10 _ (pk [14, 1, 4, 7] rfl)
 refine mv rfl (jn 3 18 (.bool (((validModB m) && decide ((obj.length : Int) = (m.doms.length : Int))) && (allInB obj (-9 : Int) (9 : Int)))) (pk [4, 15] rfl) (fun J12 => ?_) ?_)
 ·rcases Bool.eq_false_or_eq_true ((validModB m) && decide ((obj.length : Int) = (m.doms.length : Int))) with g11 | g11
  ·have g11p := g11
   try simp only [smpD] at g11p
   refine gT rfl rfl g11 (mv rfl (gT rfl rfl g11 (cP rfl rfl (allIn_ok obj (-9 : Int) (9 : Int) ‹_›) ?_)))
   refine aT rfl rfl g11 ?_
   exact J12 _ (pk [18, 4, 15] rfl)
  ·refine gF rfl rfl g11 (gF rfl rfl g11 (aF (allInB obj (-9 : Int) (9 : Int)) rfl rfl g11 ?_))
   exact J12 _ (pk [18, 4, 15] rfl)
 refine sg rfl (ln (qc (rt (kq_retP rfl rfl (congrArg Value.bool ?_)))))
 rfl
end
section
theorem open1_ok (d : Int) (hb : 0 ≤ d ∧ d ≤ 63) : SpecP Tryz.prog 152 [.int .i64 d] [] (.bool (decide ((1 : Int) < popI d))) := by
 refine spec_of Tryz.func152 rfl rfl rfl (fun B => ?_)
 refine cS (cr (sg rfl (ln (qc (cS (cr (mv rfl (cP rfl rfl (size_ok d hb) ?_))))))))
 refine kl_gtr rfl rfl ?_
 refine sg rfl (ln (qc (rt (kq_retP rfl rfl (congrArg Value.bool ?_)))))
 rfl
theorem openI_ok {Hds : Hp} {vds : Value} (ds : List Int) (hD : DomV ds) (hds : Ints Hds vds ds) : SpecP Tryz.prog 110 [vds] [Hds] (.int .i64 (opI ds)) := by
 refine spec_of Tryz.func110 rfl rfl rfl (fun B => ?_)
 refine cS (cr (sg rfl (ln (qc (cS (cr (mv rfl (cP rfl rfl (ixf_int_ok ds (fun x0 => decide ((1 : Int) < popI x0)) ‹_› (fun x0 hmx0 => open1_ok x0 (hD _ hmx0))) ?_))))))))
 refine sg rfl (ln (qc (rt (kq_retP rfl rfl (congrArg (Value.int .i64) ?_)))))
 rfl
theorem limited_ok {Hds : Hp} {vds : Value} (ds : List Int) (i : Int) (d : Int) (hb : ds.length ≤ 1000) (hi : 0 ≤ i ∧ i < (ds.length : Int)) (hds : Ints Hds vds ds) : Spec Tryz.prog 112 [vds, .int .i64 i, .int .i64 d] [Hds] (fun Hq vq => Ints Hq vq (ds.set i.toNat (iand (ds.getD i.toNat 0) d))) := by
 refine spec_of Tryz.func112 rfl rfl rfl (fun B => ?_)
 refine cS (cr (sg rfl (ln (qc (cS (cr (mv rfl (kl_callL rfl rfl (copied_ok ds (by omega) ‹_›) (fun v1 H2 f3 o4 => ?_)))))))))
 refine sg rfl (ln (qc (cS (cr (mv rfl (mv rfl (kl_ixL rfl rfl ‹_› (by omega) (by omega) (fun p5 q6 => ?_))))))))
 refine kl_ldLI rfl ‹_› ‹_› (by omega) ?_
 refine mv rfl (kl_and rfl rfl ?_)
 refine kl_ixL rfl rfl ‹_› (by omega) (by omega) (fun p7 q8 => ?_)
 refine kl_stL (iand (ds.getD i.toNat 0) d) rfl rfl ‹_› o4 (by omega) rfl rfl rfl (fun H9 o10 f11 => ?_)
 have f12 := f11 _ f3
 refine ln (qc (cS (cr (mv rfl (sg rfl (ln (qc (rt ?_))))))))
 exact kq_ret rfl rfl H9 f12 (OwnL.ints o10)
end
section
theorem Mat.one {A : Type} {enc : A → Value} {EH E : Nat} {H Hr : Hp} {v u : Value} {r : List A} (o : OwnS EH 1 H v 1 [u]) (hr : OwnS E 1 Hr u r.length (r.map enc)) (h0 : 0 < r.length) (lr : Liq Hr) : Mat EH E enc H Hr v [u] [r] := by
  have h := Mat.push (Mat.nil (enc := enc) (E := E) (OwnS.nil (T := EH) (k := 1))) (H' := H) (v' := v) (by simpa using o) hr h0 lr (fun _ => .inl rfl)
  have e : orHp noHp Hr = Hr := by funext b; rfl
  rw [e] at h
  simpa using h
theorem OwnS.clip {E k n : Nat} {H : Hp} {v u : Value} {cs : List Value} (h : OwnS E k H v n cs) (hc : ClipV v u n) : OwnS E k H u n cs := by
  obtain ⟨h1, h2, h3⟩ := h
  obtain ⟨a, c, e, hle, rfl⟩ := hc
  refine ⟨h1, h2, ?_⟩
  rcases h3 with ⟨a0, rfl, h0, rfl⟩ | ⟨b, c', cur, rfl, g1, g2, g3, g4, rfl⟩
  · simp only [Value.slice.injEq] at e
    obtain ⟨rfl, e1, e2⟩ := e
    exact .inl ⟨a0, by rw [h0], h0, rfl⟩
  · simp only [Value.slice.injEq] at e
    obtain ⟨rfl, e1, e2⟩ := e
    exact .inr ⟨b, n, cur, rfl, Nat.le_refl _, Nat.le_trans g1 g2, Nat.le_trans (Nat.mul_le_mul_right _ g1) g3, g4, rfl⟩
theorem Mat.clip {A : Type} {enc : A → Value} {EH E : Nat} {H K : Hp} {v u : Value} {us : List Value} {xss : List (List A)} (h : Mat EH E enc H K v us xss) (hc : ClipV v u xss.length) : Mat EH E enc H K u us xss := ⟨h.hd.clip hc, h.bs, h.lq⟩
theorem kt_mrg {C : Cx} {ops : Array Oper} {Q : Post} {ims L : List Hp} {G : Env} {fx : Nat → Bool} {LS : List Hp} {fuel : Nat} {listed : Array Bool} (K H : Hp) {L' : List Hp} [t : TakeL [K, H] L L'] (h : KT C ops Q fx LS fuel listed ims (orHp K H :: L') G) : KT C ops Q fx LS fuel listed ims L G := fun a w hf hs hdc =>
  h a w hf (hs.perm t.t).mrg hdc
section ops
variable {C : Cx} {dr : Bool} {ops : Array Oper} {Q : Post} {ims L : List Hp} {G : Env} {fl : List Bool} {rest : List Oper} {d ty : Nat} {pos : String} {af : Array Edge}
end ops
theorem BlkR.ints {E b : Nat} {K M : Hp} {xs : List Int} {u : Value} (h : BlkR E encI K b xs u) (hk : M b = K b) : Ints M u xs := by
  obtain ⟨c, cur, e, q2, q3, q4, q5, q6, q7⟩ := h
  refine ⟨some ⟨b, 0, none⟩, c, e, q2, q5, fun j hj => ⟨_, 0, rfl, [.int .i64 xs[j]], rfl, rfl, _, 0 + j * 1, cur, E, (0, 0), rfl, by rw [hk]; exact q7, fun q w hq => ?_⟩⟩
  cases q with
  | zero =>
    simp only [List.getElem?_cons_zero, Option.some.injEq] at hq
    subst hq
    have := enc_get (enc := encI) (d := 0) q6 hj
    have e3 : xs.getD j 0 = xs[j] := by simp [List.getD, hj]
    rw [e3] at this
    simpa [encI] using this
  | succ q => simp at hq
theorem Mat.two {A : Type} {enc : A → Value} {EH E : Nat} {H H1 H2 : Hp} {v u1 u2 : Value} {r1 r2 : List A} (o : OwnS EH 1 H v 2 [u1, u2]) (h1 : OwnS E 1 H1 u1 r1.length (r1.map enc)) (p1 : 0 < r1.length) (l1 : Liq H1)
    (h2 : OwnS E 1 H2 u2 r2.length (r2.map enc)) (p2 : 0 < r2.length) (l2 : Liq H2) (ap : Apart H1 H2) : Mat EH E enc H (orHp H1 H2) v [u1, u2] [r1, r2] := by
  obtain ⟨b1, hb1, n1⟩ := blk_of h1 p1
  obtain ⟨b2, hb2, n2⟩ := blk_of h2 p2
  have e1 : H2 b1 = none := (ap b1).resolve_left n1
  have e2 : H1 b2 = none := (ap b2).resolve_right n2
  refine ⟨o, ⟨[b1, b2], rfl, ?_, fun i hi => ?_⟩, fun q x hq => ?_⟩
  · simp only [List.nodup_cons, List.mem_singleton, List.not_mem_nil, not_false_eq_true, List.nodup_nil, and_true]
    intro e; rw [e] at n1; exact n1 e2
  · match i, hi with
    | 0, _ => exact hb1.mono (by unfold orHp; rw [e1]; cases H1 b1 <;> rfl)
    | 1, _ => exact hb2.mono (by unfold orHp; rw [e2]; rfl)
    | i + 2, hi => exact absurd hi (by simp)
  · unfold orHp at hq
    cases e : H1 q with
    | none => rw [e] at hq; exact l2 q x (by simpa using hq)
    | some y => rw [e] at hq; exact l1 q x (by rw [e]; simpa using hq)
theorem St.orI {B : World} {X : Side} {ims L : List Hp} {w : World} {H K : Hp} (hH : H ∈ ims) (hK : K ∈ ims) (h : St B X ims L w) : St B X (orHp H K :: ims) L w := by
  have ap : ∀ b, orHp H K b ≠ none → H b ≠ none ∨ K b ≠ none := fun b hb => by
    unfold orHp at hb
    cases e : H b with
    | none => rw [e] at hb; exact .inr (by simpa using hb)
    | some x => exact .inl (by simp)
  refine h.still (fun b hb => ?_) (fun I hI => ?_) (fun O hO => ⟨(h.own O hO).1, (h.own O hO).2.1, fun I hI => ?_⟩) h.nd
  · rcases hb with ⟨O, hO, hb⟩ | ⟨hB, I, hI, hb⟩
    · exact .inl ⟨O, hO, hb⟩
    · rcases List.mem_cons.1 hI with rfl | hI
      · rcases ap b hb with e | e
        · exact .inr ⟨hB, H, hH, e⟩
        · exact .inr ⟨hB, K, hK, e⟩
      · exact .inr ⟨hB, I, hI, hb⟩
  · rcases List.mem_cons.1 hI with rfl | hI
    · exact agree_or (h.im H hH) (h.im K hK)
    · exact h.im I hI
  · rcases List.mem_cons.1 hI with rfl | hI
    · intro b
      have h1 := (h.own O hO).2.2 H hH b
      have h2 := (h.own O hO).2.2 K hK b
      by_cases e : O b = none
      · exact .inl e
      · right; unfold orHp; rw [h1.resolve_left e, h2.resolve_left e]; rfl
    · exact (h.own O hO).2.2 I hI
end
section
/-- One row alone, the others beside it. -/
theorem Mat.row {EH E : Nat} {H K : Hp} {v : Value} {us : List Value} {xss : List (List Int)} (h : Mat EH E encI H K v us xss) {i : Nat} (hi : i < xss.length) :
    ∃ Ki Kr : Hp, K = orHp Ki Kr ∧ Apart Ki Kr ∧ Liq Ki ∧ Ints Ki (us.getD i undef) (xss.getD i []) ∧
      ∀ (Ki' : Hp) (ys : List Int), Mk Ki Ki' → Ints Ki' (us.getD i undef) ys → ys.length = (xss.getD i []).length → Mat EH E encI H (orHp Ki' Kr) v us (xss.set i ys) := by
  obtain ⟨bs, h1, h2, h3⟩ := h.bs
  have hb := h3 i hi
  obtain ⟨b, hbb⟩ : ∃ b, bs.getD i 0 = b := ⟨_, rfl⟩
  rw [hbb] at hb
  obtain ⟨Ki, hKi⟩ : ∃ Ki : Hp, Ki = fun b' => if b' = b then K b' else none := ⟨_, rfl⟩
  obtain ⟨Kr, hKr⟩ : ∃ Kr : Hp, Kr = fun b' => if b' = b then none else K b' := ⟨_, rfl⟩
  have i1 : Ki b = K b := by rw [hKi]; simp
  have i2 : ∀ b', b' ≠ b → Ki b' = none := fun b' hn => by rw [hKi]; simp [hn]
  have r1 : Kr b = none := by rw [hKr]; simp
  have r2 : ∀ b', b' ≠ b → Kr b' = K b' := fun b' hn => by rw [hKr]; simp [hn]
  have hs : Ints Ki (us.getD i undef) (xss.getD i []) := hb.ints i1
  obtain ⟨c, cur, eu, q2, q3, q4, q5, q6, q7⟩ := hb
  have lq : Liq Ki := fun q o hq => by
    by_cases e : q = b
    · subst e; rw [i1] at hq; exact h.lq q o hq
    · rw [i2 q e] at hq; cases hq
  refine ⟨Ki, Kr, ?_, ?_, lq, hs, ?_⟩
  · funext b'
    by_cases e : b' = b
    · subst e; unfold orHp; rw [i1, r1]; cases K b' <;> rfl
    · unfold orHp; rw [i2 b' e, r2 b' e]; rfl
  · intro b'
    by_cases e : b' = b
    · subst e; exact .inr r1
    · exact .inl (i2 b' e)
  · intro Ki' ys hm hy hl
    obtain ⟨cur', k1, k2, _⟩ := hm.2 b cur E (0, 0) (by rw [i1]; exact q7)
    have n1 : ∀ b', b' ≠ b → Ki' b' = none := fun b' hn => hm.1 b' (i2 b' hn)
    refine ⟨by rw [List.length_set]; exact h.hd, ⟨bs, by rw [List.length_set]; exact h1, h2, fun q hq => ?_⟩, ?_⟩
    · rw [List.length_set] at hq
      by_cases e : q = i
      · subst e
        have e1 : (xss.set q ys).getD q [] = ys := by simp [List.getD, hq]
        rw [e1, hbb]
        obtain ⟨a2, c2, ea, _, _, hcell⟩ := hy
        refine ⟨c, cur', by rw [hl]; exact eu, by rw [hl]; exact q2, q3, by rw [k2]; exact q4, by rw [hl]; exact q5, ?_, by unfold orHp; rw [k1]; rfl⟩
        apply List.ext_getElem
        · simp; omega
        · intro j j1 j2
          have hj : j < ys.length := by simpa using j2
          obtain ⟨b3, o3, e3, vs, l3, r3, t3⟩ := hcell j hj
          rw [eu] at ea
          simp only [Value.slice.injEq] at ea
          rw [e3] at ea
          simp only [Option.some.injEq, Addr.mk.injEq, and_true] at ea
          obtain ⟨⟨rfl, rfl⟩, _, _⟩ := ea
          obtain ⟨b4, o4, cs4, T4, fz4, e4, e5, e6⟩ := t3
          simp only [Value.pointer.injEq, Option.some.injEq, Addr.mk.injEq, and_true] at e4
          obtain ⟨rfl, rfl⟩ := e4
          rw [k1] at e5
          simp only [Option.some.injEq, Obj.cells.injEq] at e5
          obtain ⟨rfl, _, _⟩ := e5
          unfold IntC at r3
          subst r3
          have h9 := e6 0 (.int .i64 ys[j]) rfl
          rw [List.getElem_take, List.getElem_map]
          have hjs : j < cur'.size := by
            have : ys.length ≤ cur'.size := by rw [hl, k2]; omega
            omega
          have h8 : cur'[j]? = some (.int .i64 ys[j]) := by simpa using h9
          rw [Array.getElem?_eq_getElem hjs] at h8
          simpa [encI] using h8
      · have e1 : (xss.set i ys).getD q [] = xss.getD q [] := by
          have e' : i ≠ q := fun h => e h.symm
          simp [List.getD, List.getElem?_set, e']
        rw [e1]
        have hne : bs.getD q 0 ≠ b := fun e2 => by
          have hq1 : q < bs.length := by omega
          have hi1 : i < bs.length := by omega
          rw [← hbb, List.getD_eq_getElem?_getD, List.getElem?_eq_getElem hq1, List.getD_eq_getElem?_getD, List.getElem?_eq_getElem hi1, Option.getD_some, Option.getD_some] at e2
          rcases Nat.lt_or_gt_of_ne e with h9 | h9
          · exact absurd e2 (List.pairwise_iff_getElem.1 h2 q i hq1 hi1 h9)
          · exact absurd e2.symm (List.pairwise_iff_getElem.1 h2 i q hi1 hq1 h9)
        refine (h3 q hq).mono ?_
        unfold orHp
        rw [n1 _ hne, r2 _ hne]; rfl
    · refine liq_or (hm.liq lq) (fun q o hq => ?_)
      by_cases e : q = b
      · subst e; rw [r1] at hq; cases hq
      · rw [r2 q e] at hq; exact h.lq q o hq
/-! The marks themselves. -/
end
section
/-! Heaplets side by side. -/
theorem orHp_assoc (A B C : Hp) : orHp (orHp A B) C = orHp A (orHp B C) := by
  funext b; unfold orHp; cases A b <;> rfl
theorem orHp_no (A : Hp) : orHp A noHp = A := by
  funext b; unfold orHp; cases A b <;> rfl
theorem no_orHp (A : Hp) : orHp noHp A = A := by funext b; rfl
theorem apart_symm {A B : Hp} (h : Apart A B) : Apart B A := fun b => (h b).symm
theorem orHp_comm {A B : Hp} (h : Apart A B) : orHp A B = orHp B A := by
  funext b; unfold orHp
  rcases h b with e | e
  · rw [e]; cases B b <;> rfl
  · rw [e]; cases A b <;> rfl
theorem orHp_swap {A B C : Hp} (h : Apart A B) : orHp A (orHp B C) = orHp B (orHp A C) := by
  rw [← orHp_assoc, orHp_comm h, orHp_assoc]
theorem apart_or {A B C : Hp} : Apart A (orHp B C) ↔ Apart A B ∧ Apart A C := by
  constructor
  · intro h
    refine ⟨fun b => ?_, fun b => ?_⟩
    · rcases h b with e | e
      · exact .inl e
      · unfold orHp at e; right; cases e2 : B b with
        | none => rfl
        | some x => rw [e2] at e; cases e
    · rcases h b with e | e
      · exact .inl e
      · unfold orHp at e; right; cases e2 : B b with
        | none => rw [e2] at e; simpa using e
        | some x => rw [e2] at e; cases e
  · rintro ⟨h1, h2⟩ b
    rcases h1 b with e | e
    · exact .inl e
    · rcases h2 b with e2 | e2
      · exact .inl e2
      · right; unfold orHp; rw [e, e2]; rfl
theorem apart_orL {A B C : Hp} : Apart (orHp B C) A ↔ Apart B A ∧ Apart C A :=
  ⟨fun h => let g := apart_or.1 (apart_symm h); ⟨apart_symm g.1, apart_symm g.2⟩, fun h => apart_symm (apart_or.2 ⟨apart_symm h.1, apart_symm h.2⟩)⟩
theorem apart_no (A : Hp) : Apart A noHp := fun _ => .inr rfl
/-! Constraints as they lie in the header. -/
structure RawC where
  kind : Int
  va : Value
  vb : Value
  bound : Int
  vr : Value
def nilRaw : RawC := ⟨0, undef, undef, 0, undef⟩
def RawV (H : Hp) (vs : List Value) (r : RawC) : Prop := vs = [.int .i64 r.kind, r.va, r.vb, .int .i64 r.bound, r.vr]
/-- The parts of one constraint: its variables, its numbers, its rows (heads and blocks). -/
structure Pc4 (EH E : Nat) (Hv Ha Hh Hk : Hp) (us : List Value) (r : RawC) (c : Con) : Prop where
  a1 : Apart Hv (orHp Ha (orHp Hh Hk))
  a2 : Apart Ha (orHp Hh Hk)
  a3 : Apart Hh Hk
  iv : Ints Hv r.va c.vars
  lv : Liq Hv
  ia : Ints Ha r.vb c.args
  la : Liq Ha
  mr : Mat EH E encI Hh Hk r.vr us c.rows
  ek : r.kind = c.kind
  eb : r.bound = c.bound
def Pc (EH E : Nat) (P : Hp) (r : RawC) (c : Con) : Prop := ∃ (Hv Ha Hh Hk : Hp) (us : List Value), P = orHp Hv (orHp Ha (orHp Hh Hk)) ∧ Pc4 EH E Hv Ha Hh Hk us r c
def uniHp : List Hp → Hp
  | [] => noHp
  | P :: Ps => orHp P (uniHp Ps)
def Scs (EH E : Nat) : List Hp → List RawC → List Con → Prop
  | [], [], [] => True
  | P :: Ps, r :: rs, c :: cs => Pc EH E P r c ∧ Scs EH E Ps rs cs ∧ Apart P (uniHp Ps)
  | _, _, _ => False
def SepCs (EH E : Nat) (K : Hp) (raws : List RawC) (cs : List Con) : Prop := ∃ Ps, K = uniHp Ps ∧ Scs EH E Ps raws cs
theorem Scs.len {EH E : Nat} : ∀ {Ps : List Hp} {rs : List RawC} {cs : List Con}, Scs EH E Ps rs cs → rs.length = cs.length
  | [], [], [], _ => rfl
  | P :: Ps, r :: rs, c :: cs, h => by simp only [List.length_cons]; rw [h.2.1.len]
  | [], [], _ :: _, h => h.elim
  | [], _ :: _, _, h => h.elim
  | _ :: _, [], _, h => h.elim
  | _ :: _, _ :: _, [], h => h.elim
theorem SepCs.len {EH E : Nat} {K : Hp} {rs : List RawC} {cs : List Con} (h : SepCs EH E K rs cs) : rs.length = cs.length := by obtain ⟨Ps, _, h⟩ := h; exact h.len
theorem SepCs.nil {EH E : Nat} : SepCs EH E noHp [] [] := ⟨[], rfl, trivial⟩
/-- One constraint alone, the others beside it. -/
theorem SepCs.split {EH E : Nat} : ∀ {i : Nat} {K : Hp} {rs : List RawC} {cs : List Con}, SepCs EH E K rs cs → i < cs.length →
    ∃ Pi Ki, K = orHp Pi Ki ∧ Apart Pi Ki ∧ Pc EH E Pi (rs.getD i nilRaw) (cs.getD i nilCon) ∧
      ∀ P' r' c', Apart P' Ki → Pc EH E P' r' c' → SepCs EH E (orHp P' Ki) (rs.set i r') (cs.set i c')
  | i, K, rs, [], h, hi => absurd hi (Nat.not_lt_zero _)
  | i, K, [], c :: cs, h, hi => by have := h.len; simp at this
  | 0, K, r :: rs, c :: cs, h, _ => by
    obtain ⟨Ps, rfl, h⟩ := h
    match Ps, h with
    | P :: Ps, h =>
      exact ⟨P, uniHp Ps, rfl, h.2.2, h.1, fun P' r' c' ap hp => ⟨P' :: Ps, rfl, hp, h.2.1, ap⟩⟩
  | i + 1, K, r :: rs, c :: cs, h, hi => by
    obtain ⟨Ps, rfl, h⟩ := h
    match Ps, h with
    | P :: Ps, h =>
      obtain ⟨Pi, Ki, e, ap, hp, back⟩ := SepCs.split (i := i) (K := uniHp Ps) ⟨Ps, rfl, h.2.1⟩ (by simpa using hi)
      have hP := h.2.2
      rw [e, apart_or] at hP
      refine ⟨Pi, orHp P Ki, ?_, apart_or.2 ⟨apart_symm hP.1, ap⟩, by simpa using hp, fun P' r' c' ap' hp' => ?_⟩
      · rw [uniHp, e, orHp_swap hP.1]
      · obtain ⟨ap1, ap2⟩ := apart_or.1 ap'
        obtain ⟨Ps', e', h'⟩ := back P' r' c' ap2 hp'
        refine ⟨P :: Ps', ?_, h.1, h', ?_⟩
        · rw [uniHp, ← e', orHp_swap ap1]
        · rw [← e']; exact apart_or.2 ⟨apart_symm ap1, hP.2⟩
theorem SepCs.snoc {EH E : Nat} {K P : Hp} {rs : List RawC} {cs : List Con} {r : RawC} {c : Con} (h : SepCs EH E K rs cs) (hp : Pc EH E P r c) (ap : Apart K P) : SepCs EH E (orHp K P) (rs ++ [r]) (cs ++ [c]) := by
  obtain ⟨Ps, rfl, h⟩ := h
  induction Ps generalizing rs cs with
  | nil =>
    match rs, cs, h with
    | [], [], _ => exact ⟨[P], by rw [uniHp, uniHp, uniHp, no_orHp, orHp_no], hp, trivial, apart_no _⟩
  | cons Q Ps ih =>
    match rs, cs, h with
    | r0 :: rs, c0 :: cs, h =>
      obtain ⟨a1, a2⟩ := apart_orL.1 ap
      obtain ⟨Ps', e, h'⟩ := ih h.2.1 a2
      exact ⟨Q :: Ps', by rw [uniHp, uniHp, ← e, orHp_assoc], h.1, h', by rw [← e]; exact apart_or.2 ⟨h.2.2, a1⟩⟩
theorem Pc.con {EH E : Nat} {P : Hp} {r : RawC} {c : Con} (h : Pc EH E P r c) : ConV P [.int .i64 r.kind, r.va, r.vb, .int .i64 r.bound, r.vr] c := by
  obtain ⟨Hv, Ha, Hh, Hk, us, rfl, q⟩ := h
  have i1 : ∀ b o, Ha b = some o → orHp Hv (orHp Ha (orHp Hh Hk)) b = some o := fun b o h => by
    rw [orHp_swap (apart_or.1 q.a1).1]; exact orL b o h
  have i2 : ∀ b o, orHp Hh Hk b = some o → orHp Hv (orHp Ha (orHp Hh Hk)) b = some o := fun b o h => by
    rw [← orHp_assoc, orHp_comm (apart_orL.2 ⟨(apart_or.1 q.a1).2, q.a2⟩)]; exact orL b o h
  refine ⟨_, _, _, by rw [q.ek, q.eb], Sl.mono q.iv orL (fun _ _ h => h), Sl.mono q.ia i1 (fun _ _ h => h), q.mr.rows (fun b o h => i2 b o (orL b o h)) (fun b o h => i2 b o ?_)⟩
  rw [orHp_comm q.a3]; exact orL b o h
theorem SepCs.at {EH E : Nat} {K : Hp} {rs : List RawC} {cs : List Con} (h : SepCs EH E K rs cs) {i : Nat} (hi : i < cs.length) : ConV K [.int .i64 (rs.getD i nilRaw).kind, (rs.getD i nilRaw).va, (rs.getD i nilRaw).vb, .int .i64 (rs.getD i nilRaw).bound, (rs.getD i nilRaw).vr] (cs.getD i nilCon) := by
  obtain ⟨Pi, Ki, e, _, hp, _⟩ := h.split hi
  rw [e]
  obtain ⟨a, b, r, e1, h1, h2, h3⟩ := hp.con
  exact ⟨a, b, r, e1, Sl.mono h1 orL (fun _ _ h => h), Sl.mono h2 orL (fun _ _ h => h), Rows.mono' h3 orL⟩
/-- Read as a list of constraints. -/
theorem SepCs.own {EH E EC : Nat} {Hc K : Hp} {v : Value} {rs : List RawC} {cs : List Con} (h : SepCs EH E K rs cs) (o : OwnL EC 5 Hc noHp RawV v rs) : OwnL EC 5 Hc K ConV v cs := by
  obtain ⟨cells, h1, h2⟩ := o
  have hl := h.len
  refine ⟨cells, by rw [← hl]; exact h1, fun i hi => ?_⟩
  have h3 := h2 i (by omega)
  unfold RawV at h3
  rw [h3]
  have h4 := h.at hi
  have e1 : rs.getD i nilRaw = rs[i]'(by omega) := by simp [List.getD_eq_getElem?_getD, show i < rs.length by omega]
  have e2 : cs.getD i nilCon = cs[i] := by simp [List.getD_eq_getElem?_getD, hi]
  rw [e1, e2] at h4
  exact h4
/-! The header's cells. -/
section ops
variable {C : Cx} {dr : Bool} {ops : Array Oper} {Q : Post} {ims L : List Hp} {G : Env} {fl : List Bool} {rest : List Oper} {d ty : Nat} {pos : String} {af : Array Edge}
end ops
theorem apart_cmp {H K : Hp} (a : Apart H K) : Cmp H K := fun b o o' h1 h2 => by
  rcases a b with e | e
  · rw [e] at h1; cases h1
  · rw [e] at h2; cases h2
theorem Pc.one {EH E : Nat} {P : Hp} {r : RawC} {c : Con} (h : Pc EH E P r c) : ∀ x ∈ [Value.int .i64 r.kind, r.va, r.vb, .int .i64 r.bound, r.vr], x.oneCell' = true := by
  obtain ⟨Hv, Ha, Hh, Hk, us, rfl, q⟩ := h
  exact oc rfl (oc (Sl.oneCell q.iv) (oc (Sl.oneCell q.ia) (oc rfl (oc (Sl.oneCell (q.mr.rows (M := orHp Hh Hk) orL (by rw [orHp_comm q.a3]; exact orL))) oc_nil))))
/-- A list of constraints with a header and parts apart. -/
structure SepM (EC EH E : Nat) (H K : Hp) (v : Value) (rs : List RawC) (cs : List Con) : Prop where
  hd : OwnL EC 5 H noHp RawV v rs
  sp : SepCs EH E K rs cs
theorem SepM.push {EC EH E : Nat} {H H' K P : Hp} {v v' : Value} {rs : List RawC} {cs : List Con} {r : RawC} {c : Con} (h : SepM EC EH E H K v rs cs) (o : OwnL EC 5 H' noHp RawV v' (rs ++ [r])) (p : Pc EH E P r c) (ap : Apart K P) :
    SepM EC EH E H' (orHp K P) v' (rs ++ [r]) (cs ++ [c]) := ⟨o, h.sp.snoc p ap⟩
theorem SepM.cons {EC EH E : Nat} {H K : Hp} {v : Value} {rs : List RawC} {cs : List Con} (h : SepM EC EH E H K v rs cs) (ap : Apart H K) : Cons (orHp H K) v cs := (h.sp.own h.hd).consK (apart_cmp ap)
/-- A model with a header and parts apart, all in one heaplet. -/
def ModX (EC EH E : Nat) (M : Hp) (vd vc : Value) (m : Mod) : Prop :=
  ∃ (Hd Hc K : Hp) (rs : List RawC), M = orHp Hd (orHp Hc K) ∧ Apart Hd (orHp Hc K) ∧ Apart Hc K ∧ Liq Hd ∧ Ints Hd vd m.doms ∧ SepM EC EH E Hc K vc rs m.cons
theorem ModX.doms {EC EH E : Nat} {M : Hp} {vd vc : Value} {m : Mod} (h : ModX EC EH E M vd vc m) : Ints M vd m.doms := by
  obtain ⟨Hd, Hc, K, rs, rfl, a1, a2, lq, iv, sm⟩ := h
  exact Sl.mono iv orL (fun _ _ h => h)
theorem ModX.cons {EC EH E : Nat} {M : Hp} {vd vc : Value} {m : Mod} (h : ModX EC EH E M vd vc m) : Cons M vc m.cons := by
  obtain ⟨Hd, Hc, K, rs, rfl, a1, a2, lq, iv, sm⟩ := h
  exact Cons.mono' (sm.cons a2) (orC (apart_cmp a1))
theorem ModX.nil {EC EH E : Nat} : ModX EC EH E noHp (.slice none 0 0) (.slice none 0 0) ⟨[], []⟩ :=
  ⟨noHp, noHp, noHp, [], rfl, fun _ => .inl rfl, fun _ => .inl rfl, fun _ _ h => (by cases h), Sl.nil, ⟨OwnL.nil, SepCs.nil⟩⟩
end
end Go.Proofs.YtolndgeihijlbaaGreat
