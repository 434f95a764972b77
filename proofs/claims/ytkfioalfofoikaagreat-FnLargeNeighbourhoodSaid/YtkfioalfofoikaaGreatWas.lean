/- Walks of functions of the program: each returns what the plain function gives. Conditions: those that each statement names. -/
import Derived.Test.YtkfioalfofoikaaGreatWrd
import Derived.Test.YtkfioalfofoikaaGreatWwalk
namespace Go.Proofs.YtkfioalfofoikaaGreat
open Go
set_option linter.unusedSimpArgs false
set_option linter.unusedVariables false
theorem assignment_ok {br : Nat} {vbr : Value} {Hr : Hp} {bsr : List Int} {Hmd : Hp} {vmd : Value} {Hmc : Hp} {vmc : Value} (pr : Nat) (m : Mod) (hd1 : 1 ≤ m.doms.length) (hd4 : m.doms.length ≤ 4) (hp : pr + (30) ≤ 1000000) (hr : Bytes Hr vbr bsr) (hmd : Ints Hmd vmd m.doms) (hmc : Cons Hmc vmc m.cons) : SpecT Tryz.prog 48 [.pointer (some ⟨br, 0, none⟩), .agg #[vmd, vmc]] [sing br (.cells [vbr, .int .i64 (pr : Int)].toArray 92 (0, 0))] [Hr, Hmd, Hmc] (fun vq L1 Ln Kq => ∃ q : Nat, q ≤ pr + (30) ∧ L1 = [sing br (.cells [vbr, .int .i64 (q : Int)].toArray 92 (0, 0))] ∧ ∃ (Hq : Hp) (xq : List Int), Ln = [Hq] ∧ OwnL 3 1 Hq noHp IntV vq xq ∧ xq.length ≤ 5) := by
 refine specT_of Tryz.func48 rfl rfl rfl (fun B => ?_)
 refine kc_seq (kc_region (kl_box rfl rfl (fun p1 H2 f3 a4 => ?_)))
 refine kl_as rfl (kl_nil (kq_code (kc_seq (kc_seq (kc_region (kl_ldS rfl (by assumption) rfl ?_))))))
 refine kl_callP rfl rfl (svalidMod_ok m (by assumption) (by assumption)) ?_
 refine kl_mv rfl ?_
 rcases Bool.eq_false_or_eq_true (validModB m) with g5 | g5
 ·skip
  have g5p := g5
  have hM : MOk m := ⟨g5p⟩
  refine kl_gT rfl rfl g5 (kl_mv rfl (kl_gT rfl rfl g5 (kl_callT rfl rfl (pick_ok pr (3 : Int) (by omega) hr) (fun v6 L1 Ln K10 h7 f8 f9 => ?_))))
  obtain ⟨q11, h12, rfl, rfl, z13, rfl, h14⟩ := h7
  try have hr9 := hrq _ (getD_mem (d := []) (show Int.toNat z13 < _ from by omega))
  refine kl_norm ?_
  refine kl_gT rfl rfl g5 (kl_gtr rfl rfl ?_)
  refine kl_pickT rfl g5 rfl ?_
  refine kl_nil (kq_code (kc_if rfl (fun c17 => ?_) (fun c17 => ?_)))
  ·skip
   refine kc_seq (kc_region (kl_ldS rfl (by assumption) rfl ?_))
   refine kl_call rfl rfl (solveW_ok m hM (by assumption) (by assumption)) (fun v18 H19 f20 h21 => ?_)
   obtain ⟨z24, z27, u25, rfl, h26, h23⟩ := h21
   have hrq := h23.2
   have hrl := h23.1
   refine kl_mv rfl (kl_xt rfl rfl (kl_xt rfl rfl (kl_as rfl (kl_as rfl (kl_nil (kq_code (kc_seq (kc_region (kl_mv rfl (kl_len rfl (by assumption) (fun l28 => ?_)))))))))))
   refine kl_gtr rfl rfl ?_
   refine kl_nil (kq_code (kc_if rfl (fun c29 => ?_) (fun c29 => ?_)))
   ·skip
    refine kc_seq (kc_region (kl_mv rfl (kl_mv rfl (kl_mv rfl (kl_len rfl (by assumption) (fun l30 => ?_))))))
    refine kl_callT rfl rfl (pick_ok q11 (z24.length : Int) (by omega) hr) (fun v31 L1 Ln K35 h32 f33 f34 => ?_)
    obtain ⟨q36, h37, rfl, rfl, z38, rfl, h39⟩ := h32
    try have hr9 := hrq _ (getD_mem (d := []) (show Int.toNat z38 < _ from by omega))
    refine kl_norm ?_
    refine kl_ixS rfl rfl (by assumption) (by first | omega | (simp; omega)) (by first | omega | (simp; omega)) (fun p42 u44 h45 a43 => ?_)
    refine kl_ld rfl (by assumption) (kl_callL rfl rfl (copyInts_ok (z24.getD z38.toNat []) (by omega) (by assumption)) (fun v46 H47 f48 o49 => ?_))
    refine kl_as rfl (kl_nil (kq_code (kc_seq (kc_seq (kc_region (kl_mv rfl (kl_callT rfl rfl (pick_ok q36 (3 : Int) (by omega) hr) (fun v50 L1 Ln K54 h51 f52 f53 => ?_))))))))
    obtain ⟨q55, h56, rfl, rfl, z57, rfl, h58⟩ := h51
    try have hr9 := hrq _ (getD_mem (d := []) (show Int.toNat z57 < _ from by omega))
    refine kl_norm ?_
    refine kl_eql rfl rfl ?_
    refine kl_nil (kq_code (kc_if rfl (fun c61 => ?_) (fun c61 => ?_)))
    ·skip
     refine kc_region (kl_mv rfl (kl_mv rfl (kl_mv rfl (kl_lenL rfl o49 (fun l62 => ?_)))))
     refine kl_callT rfl rfl (pick_ok q55 ((z24.getD z38.toNat []).length : Int) (by omega) hr) (fun v63 L1 Ln K67 h64 f65 f66 => ?_)
     obtain ⟨q68, h69, rfl, rfl, z70, rfl, h71⟩ := h64
     try have hr9 := hrq _ (getD_mem (d := []) (show Int.toNat z70 < _ from by omega))
     refine kl_norm ?_
     refine kl_mv rfl (kl_callT rfl rfl (pick_ok q68 (6 : Int) (by omega) hr) (fun v74 L1 Ln K78 h75 f76 f77 => ?_))
     obtain ⟨q79, h80, rfl, rfl, z81, rfl, h82⟩ := h75
     try have hr9 := hrq _ (getD_mem (d := []) (show Int.toNat z81 < _ from by omega))
     refine kl_norm ?_
     refine kl_ixL rfl rfl (by assumption) (by first | omega | (simp; omega)) (by first | omega | (simp; omega)) (fun p85 q86 => ?_)
     refine kl_stL z81 rfl rfl (by assumption) o49 (by first | omega | (simp; omega)) rfl rfl rfl (fun H87 o88 f89 => ?_)
     have f90 := f89 _ f48
     refine kl_chg [sing br (.cells [vbr, .int .i64 (q79 : Int)].toArray 92 (0, 0)), H87] rfl ?_
     refine kl_nil (kq_code (kc_seq (kc_region (kl_mv rfl (kl_as rfl (kl_nil (kq_code (kc_ret ?_))))))))
     exact kq_retT rfl rfl [sing br (.cells [vbr, .int .i64 (q79 : Int)].toArray 92 (0, 0))] [H87] noHp (fr1 f90) (fr_no _) ⟨q79, by omega, rfl, H87, ((z24.getD z38.toNat []).set z70.toNat z81), rfl, o88, by first | omega | (simp only [List.length_set, List.length_append, List.length_cons, List.length_nil]; omega) | (simp; omega)⟩
    ·skip
     refine kc_skipQ (kq_code (kc_seq (kc_region (kl_mv rfl (kl_as rfl (kl_nil (kq_code (kc_ret ?_))))))))
     exact kq_retT rfl rfl [sing br (.cells [vbr, .int .i64 (q55 : Int)].toArray 92 (0, 0))] [H47] noHp (fr1 f48) (fr_no _) ⟨q55, by omega, rfl, H47, (z24.getD z38.toNat []), rfl, o49, by first | omega | (simp only [List.length_set, List.length_append, List.length_cons, List.length_nil]; omega) | (simp; omega)⟩
   ·skip
    refine kc_skipQ (kq_code (kc_seq (kc_region (kl_mv rfl (kl_fd rfl (by assumption) (fun p91 a92 => ?_))))))
    refine kl_ld rfl (by assumption) (kl_len rfl (by assumption) (fun l93 => ?_))
    refine kl_callT rfl rfl (randomRow_ok q11 (m.doms.length : Int) (by omega) (by omega) hr) (fun v94 L1 Ln K98 h95 f96 f97 => ?_)
    obtain ⟨q99, h100, rfl, H103, z101, rfl, o104, h102⟩ := h95
    have f105 := f96 _ (.head _)
    refine kl_norm ?_
    refine kl_as rfl (kl_nil (kq_code (kc_seq (kc_seq (kc_region (kl_mv rfl (kl_callT rfl rfl (pick_ok q99 (14 : Int) (by omega) hr) (fun v106 L1 Ln K110 h107 f108 f109 => ?_))))))))
    obtain ⟨q111, h112, rfl, rfl, z113, rfl, h114⟩ := h107
    try have hr9 := hrq _ (getD_mem (d := []) (show Int.toNat z113 < _ from by omega))
    refine kl_norm ?_
    refine kl_eql rfl rfl ?_
    refine kl_nil (kq_code (kc_if rfl (fun c117 => ?_) (fun c117 => ?_)))
    ·skip
     refine kc_seq (kc_region (kl_mv rfl (kl_mv rfl (kl_bs rfl rfl rfl (by decide) (ca rfl (ca rfl ca_nil)) (fun v118 H119 f120 r121 s122 => ?_)))))
     have h123 : Ints H119 v118 [(0 : Int), (6 : Int)] := litInts (xs := [(0 : Int), (6 : Int)]) (by simpa using s122)
     refine kl_callT rfl rfl (one_ok q111 ([(0 : Int), (6 : Int)]) (by simp) (by omega) hr (by assumption)) (fun v124 L1 Ln K128 h125 f126 f127 => ?_)
     obtain ⟨q129, h130, rfl, rfl, z131, rfl, h132⟩ := h125
     refine kl_norm ?_
     refine kl_bs rfl rfl rfl (by decide) (ca rfl ca_nil) (fun v135 H136 f137 r138 s139 => ?_)
     have h140 : Ints H136 v135 [z131] := litInts (xs := [z131]) (by simpa using s139)
     refine kl_apL z131 rfl rfl o104 (by assumption) rfl (oc rfl oc_nil) (by (simp; omega)) (by decide) (fun v141 H142 o143 f144 => ?_)
     have f145 := f144 B f105 (Nat.le_refl _)
     refine kl_as rfl (kl_nil (kq_code (kc_ret ?_)))
     exact kq_retT rfl rfl [sing br (.cells [vbr, .int .i64 (q129 : Int)].toArray 92 (0, 0))] [H142] noHp (fr1 f145) (fr_no _) ⟨q129, by omega, rfl, H142, (z101 ++ [z131]), rfl, o143, by first | omega | (simp only [List.length_set, List.length_append, List.length_cons, List.length_nil]; omega) | (simp; omega)⟩
    ·skip
     refine kc_skipQ (kq_code (kc_seq (kc_region (kl_mv rfl (kl_as rfl (kl_nil (kq_code (kc_ret ?_))))))))
     exact kq_retT rfl rfl [sing br (.cells [vbr, .int .i64 (q111 : Int)].toArray 92 (0, 0))] [H103] noHp (fr1 f105) (fr_no _) ⟨q111, by omega, rfl, H103, z101, rfl, o104, by first | omega | (simp only [List.length_set, List.length_append, List.length_cons, List.length_nil]; omega) | (simp; omega)⟩
  ·skip
   refine kc_skipQ (kq_code (kc_seq (kc_region (kl_mv rfl (kl_fd rfl (by assumption) (fun p146 a147 => ?_))))))
   refine kl_ld rfl (by assumption) (kl_len rfl (by assumption) (fun l148 => ?_))
   refine kl_callT rfl rfl (randomRow_ok q11 (m.doms.length : Int) (by omega) (by omega) hr) (fun v149 L1 Ln K153 h150 f151 f152 => ?_)
   obtain ⟨q154, h155, rfl, H158, z156, rfl, o159, h157⟩ := h150
   have f160 := f151 _ (.head _)
   refine kl_norm ?_
   refine kl_as rfl (kl_nil (kq_code (kc_seq (kc_seq (kc_region (kl_mv rfl (kl_callT rfl rfl (pick_ok q154 (14 : Int) (by omega) hr) (fun v161 L1 Ln K165 h162 f163 f164 => ?_))))))))
   obtain ⟨q166, h167, rfl, rfl, z168, rfl, h169⟩ := h162
   try have hr9 := hrq _ (getD_mem (d := []) (show Int.toNat z168 < _ from by omega))
   refine kl_norm ?_
   refine kl_eql rfl rfl ?_
   refine kl_nil (kq_code (kc_if rfl (fun c172 => ?_) (fun c172 => ?_)))
   ·skip
    refine kc_seq (kc_region (kl_mv rfl (kl_mv rfl (kl_bs rfl rfl rfl (by decide) (ca rfl (ca rfl ca_nil)) (fun v173 H174 f175 r176 s177 => ?_)))))
    have h178 : Ints H174 v173 [(0 : Int), (6 : Int)] := litInts (xs := [(0 : Int), (6 : Int)]) (by simpa using s177)
    refine kl_callT rfl rfl (one_ok q166 ([(0 : Int), (6 : Int)]) (by simp) (by omega) hr (by assumption)) (fun v179 L1 Ln K183 h180 f181 f182 => ?_)
    obtain ⟨q184, h185, rfl, rfl, z186, rfl, h187⟩ := h180
    refine kl_norm ?_
    refine kl_bs rfl rfl rfl (by decide) (ca rfl ca_nil) (fun v190 H191 f192 r193 s194 => ?_)
    have h195 : Ints H191 v190 [z186] := litInts (xs := [z186]) (by simpa using s194)
    refine kl_apL z186 rfl rfl o159 (by assumption) rfl (oc rfl oc_nil) (by (simp; omega)) (by decide) (fun v196 H197 o198 f199 => ?_)
    have f200 := f199 B f160 (Nat.le_refl _)
    refine kl_as rfl (kl_nil (kq_code (kc_ret ?_)))
    exact kq_retT rfl rfl [sing br (.cells [vbr, .int .i64 (q184 : Int)].toArray 92 (0, 0))] [H197] noHp (fr1 f200) (fr_no _) ⟨q184, by omega, rfl, H197, (z156 ++ [z186]), rfl, o198, by first | omega | (simp only [List.length_set, List.length_append, List.length_cons, List.length_nil]; omega) | (simp; omega)⟩
   ·skip
    refine kc_skipQ (kq_code (kc_seq (kc_region (kl_mv rfl (kl_as rfl (kl_nil (kq_code (kc_ret ?_))))))))
    exact kq_retT rfl rfl [sing br (.cells [vbr, .int .i64 (q166 : Int)].toArray 92 (0, 0))] [H158] noHp (fr1 f160) (fr_no _) ⟨q166, by omega, rfl, H158, z156, rfl, o159, by first | omega | (simp only [List.length_set, List.length_append, List.length_cons, List.length_nil]; omega) | (simp; omega)⟩
 ·skip
  have g5p := g5
  refine kl_gF rfl rfl g5 (kl_gF rfl rfl g5 (kl_gF rfl rfl g5 (kl_pickF rfl g5 rfl ?_)))
  refine kl_nil (kq_code (kc_cond rfl (fun c201 => ?_) (fun c201 => ?_)))
  ·skip
   have c201r := c201
   try simp only [smpC, decide_eq_true_eq, decide_eq_false_iff_not] at c201
   exact absurd c201 (by decide)
  ·skip
   have c201r := c201
   try simp only [smpC, decide_eq_true_eq, decide_eq_false_iff_not] at c201
   refine kc_skipQ (kq_code (kc_seq (kc_region (kl_mv rfl (kl_fd rfl (by assumption) (fun p202 a203 => ?_))))))
   refine kl_ld rfl (by assumption) (kl_len rfl (by assumption) (fun l204 => ?_))
   refine kl_callT rfl rfl (randomRow_ok pr (m.doms.length : Int) (by omega) (by omega) hr) (fun v205 L1 Ln K209 h206 f207 f208 => ?_)
   obtain ⟨q210, h211, rfl, H214, z212, rfl, o215, h213⟩ := h206
   have f216 := f207 _ (.head _)
   refine kl_norm ?_
   refine kl_as rfl (kl_nil (kq_code (kc_seq (kc_seq (kc_region (kl_mv rfl (kl_callT rfl rfl (pick_ok q210 (14 : Int) (by omega) hr) (fun v217 L1 Ln K221 h218 f219 f220 => ?_))))))))
   obtain ⟨q222, h223, rfl, rfl, z224, rfl, h225⟩ := h218
   try have hr9 := hrq _ (getD_mem (d := []) (show Int.toNat z224 < _ from by omega))
   refine kl_norm ?_
   refine kl_eql rfl rfl ?_
   refine kl_nil (kq_code (kc_if rfl (fun c228 => ?_) (fun c228 => ?_)))
   ·skip
    refine kc_seq (kc_region (kl_mv rfl (kl_mv rfl (kl_bs rfl rfl rfl (by decide) (ca rfl (ca rfl ca_nil)) (fun v229 H230 f231 r232 s233 => ?_)))))
    have h234 : Ints H230 v229 [(0 : Int), (6 : Int)] := litInts (xs := [(0 : Int), (6 : Int)]) (by simpa using s233)
    refine kl_callT rfl rfl (one_ok q222 ([(0 : Int), (6 : Int)]) (by simp) (by omega) hr (by assumption)) (fun v235 L1 Ln K239 h236 f237 f238 => ?_)
    obtain ⟨q240, h241, rfl, rfl, z242, rfl, h243⟩ := h236
    refine kl_norm ?_
    refine kl_bs rfl rfl rfl (by decide) (ca rfl ca_nil) (fun v246 H247 f248 r249 s250 => ?_)
    have h251 : Ints H247 v246 [z242] := litInts (xs := [z242]) (by simpa using s250)
    refine kl_apL z242 rfl rfl o215 (by assumption) rfl (oc rfl oc_nil) (by (simp; omega)) (by decide) (fun v252 H253 o254 f255 => ?_)
    have f256 := f255 B f216 (Nat.le_refl _)
    refine kl_as rfl (kl_nil (kq_code (kc_ret ?_)))
    exact kq_retT rfl rfl [sing br (.cells [vbr, .int .i64 (q240 : Int)].toArray 92 (0, 0))] [H253] noHp (fr1 f256) (fr_no _) ⟨q240, by omega, rfl, H253, (z212 ++ [z242]), rfl, o254, by first | omega | (simp only [List.length_set, List.length_append, List.length_cons, List.length_nil]; omega) | (simp; omega)⟩
   ·skip
    refine kc_skipQ (kq_code (kc_seq (kc_region (kl_mv rfl (kl_as rfl (kl_nil (kq_code (kc_ret ?_))))))))
    exact kq_retT rfl rfl [sing br (.cells [vbr, .int .i64 (q222 : Int)].toArray 92 (0, 0))] [H214] noHp (fr1 f216) (fr_no _) ⟨q222, by omega, rfl, H214, z212, rfl, o215, by first | omega | (simp only [List.length_set, List.length_append, List.length_cons, List.length_nil]; omega) | (simp; omega)⟩
theorem drawLn_ok {Hcode : Hp} {vcode : Value} (code : List Int) (hcode : Bytes Hcode vcode code) : Spec Tryz.prog 16 [vcode] [Hcode] (fun Hq vq => ∃ (mq : Mod) (oq : List Int) (xq : List Int) (z : Int) (uq0a uq0b uq1 uq2 : Value), vq = .tuple #[.agg #[uq0a, uq0b], uq1, uq2, .int .i64 z] ∧ Ints Hq uq0a mq.doms ∧ Cons Hq uq0b mq.cons ∧ Ints Hq uq1 oq ∧ Ints Hq uq2 xq ∧ ModSm 100 mq) := by
 refine spec_ofR Tryz.func16 rfl rfl rfl (fun B => ?_)
 refine kc_seq (kc_region (kl_alloc (cs := [.slice none 0 0, .slice none 0 0]) rfl (fun b1 hb2 => ?_)))
 refine kl_as rfl (kl_as rfl (kl_as rfl (kl_nil (kq_code (kc_seq (kc_region (kl_mv rfl (kl_callT rfl rfl (newReader_ok code hcode) (fun v3 L1 Ln K7 h4 f5 f6 => ?_)))))))))
 obtain ⟨rfl, b8, v9, x10, rfl, rfl, h11⟩ := h4
 refine kl_norm ?_
 refine kl_as rfl (kl_nil (kq_code (kc_seq (kc_region (kl_mv rfl (kl_callT rfl rfl (anyModel_ok 0 (by omega) h11) (fun v12 L1 Ln K16 h13 f14 f15 => ?_)))))))
 obtain ⟨q17, h18, rfl, H21, M23, v24, v25, z19, rfl, rfl, o22, o26, h20⟩ := h13
 have f27 := f14 _ (.head _)
 have f28 := f14 _ (.tail _ (.head _))
 have hd1 := h20.d1
 have hd4 := h20.d
 have hc1 := h20.c
 have hcc := h20.cc
 refine kl_norm ?_
 refine kl_frz H21 ?_
 have h29 := OwnL.ints o22
 refine kl_frz M23 ?_
 refine kl_cmp M23 K16 (fun c30 => ?_)
 have h31 := OwnL.consK o26 c30
 refine kl_alloc (cs := [.slice none 0 0, .slice none 0 0]) rfl (fun b32 hb33 => ?_)
 refine kl_stW (us := [v24, v25]) rfl rfl rfl rfl (oc (Sl.oneCell (by assumption)) (oc (Sl.oneCell (by assumption)) oc_nil)) rfl ?_
 refine kl_chg [sing b32 (.cells [v24, v25].toArray 31 (0, 0)), sing b8 (.cells [v9, .int .i64 (q17 : Int)].toArray 92 (0, 0)), sing b1 (.cells [.slice none 0 0, .slice none 0 0].toArray 31 (0, 0))] rfl ?_
 refine kl_nil (kq_code (kc_seq (kc_region (kl_mv rfl (kl_fdV rfl (kl_ldB rfl rfl (kl_len rfl (by assumption) (fun l34 => ?_))))))))
 refine kl_callT rfl rfl (objective_ok q17 (z19.doms.length : Int) (by first | assumption | omega) (by omega) h11) (fun v35 L1 Ln K39 h36 f37 f38 => ?_)
 obtain ⟨q40, h41, rfl, H44, z42, rfl, o45, h43⟩ := h36
 have f46 := f37 _ (.head _)
 have hj9 := h43
 refine kl_norm ?_
 refine kl_as rfl (kl_nil (kq_code (kc_seq (kc_region (kl_mv rfl (kl_ldW rfl rfl (kl_callT rfl rfl (assignment_ok q40 z19 hd1 hd4 (by omega) h11 (by assumption) (by assumption)) (fun v47 L1 Ln K51 h48 f49 f50 => ?_))))))))
 obtain ⟨q52, h53, rfl, H56, z54, rfl, o57, h55⟩ := h48
 have f58 := f49 _ (.head _)
 have ha9 := h55
 refine kl_norm ?_
 refine kl_as rfl (kl_nil (kq_code (kc_seq (kc_tree (fun i => ([] : List Nat).contains i) [sing b32 (.cells [v24, v25].toArray 31 (0, 0))] (by kernel_rfl) ?_))))
 refine kt_q 0 (.cons _ (.cons _ (.cons _ (.cons_cons _ (List.nil_sublist _))))) rfl (by kernel_rfl) (kl_ldS rfl (at_box (T := 31) (cs := [v24, v25]) (off := 0) (fz := (0, 0))) rfl ?_)
 refine kl_nil (kq_q (kt_q 1 (.cons _ (.cons _ (.cons _ (.cons_cons _ (List.nil_sublist _))))) rfl (by kernel_rfl) (kl_mv rfl (kl_nil (kq_q (kt_q 2 (.cons _ (.cons _ (.cons _ (.cons_cons _ (List.nil_sublist _))))) rfl (by kernel_rfl) (kl_mv rfl (kl_nil (kq_q (kt_q 3 (.cons _ (.cons _ (.cons _ (.cons_cons _ (List.nil_sublist _))))) rfl (by kernel_rfl) (kl_mv rfl ?_)))))))))))
 refine kl_nil (kq_q (kt_a 4 rfl (by kernel_rfl) (kl_bs rfl rfl rfl (by decide) (ca rfl (ca rfl (ca rfl (ca rfl (ca rfl (ca rfl (ca rfl ca_nil))))))) (fun v59 H60 f61 r62 s63 => ?_))))
 have h64 : Ints H60 v59 [(1 : Int), (1 : Int), (2 : Int), (2 : Int), (3 : Int), (4 : Int), (0 : Int)] := litInts (xs := [(1 : Int), (1 : Int), (2 : Int), (2 : Int), (3 : Int), (4 : Int), (0 : Int)]) (by simpa using s63)
 refine kl_nil (kq_a (.cons _ (.cons _ (.cons _ (.cons_cons _ (List.nil_sublist _))))) (kt_a 5 rfl (by kernel_rfl) (kl_callT rfl rfl (one_ok q52 ([(1 : Int), (1 : Int), (2 : Int), (2 : Int), (3 : Int), (4 : Int), (0 : Int)]) (by simp) (by omega) h11 (by assumption)) (fun v65 L1 Ln K69 h66 f67 f68 => ?_))))
 obtain ⟨q70, h71, rfl, rfl, z72, rfl, h73⟩ := h66
 refine kl_norm ?_
 refine kl_nil (kq_a (.cons _ (.cons _ (.cons _ (.cons_cons _ (List.nil_sublist _))))) (kt_a 6 rfl (by kernel_rfl) (kl_stW (us := [v24, v25]) rfl rfl rfl rfl (oc (Sl.oneCell (by assumption)) (oc (Sl.oneCell (by assumption)) oc_nil)) rfl ?_)))
 refine kl_chg [sing b8 (.cells [v9, .int .i64 (q70 : Int)].toArray 92 (0, 0)), H56, H44, sing b32 (.cells [v24, v25].toArray 31 (0, 0)), sing b1 (.cells [v24, v25].toArray 31 (0, 0))] rfl ?_
 refine kl_nil (kq_a (.cons _ (.cons _ (.cons _ (.cons_cons _ (List.nil_sublist _))))) (kt_q 7 (.cons _ (.cons _ (.cons _ (.cons_cons _ (List.nil_sublist _))))) rfl (by kernel_rfl) (kl_as rfl (kl_nil (kq_q (kt_q 8 (.cons _ (.cons _ (.cons _ (.cons_cons _ (List.nil_sublist _))))) rfl (by kernel_rfl) (kl_as rfl (kl_nil (kq_q (kt_q 9 (.cons _ (.cons _ (.cons _ (.cons_cons _ (List.nil_sublist _))))) rfl (by kernel_rfl) ?_))))))))))
 refine kl_as rfl (kl_nil (kq_q (kt_end (by kernel_rfl) ?_)))
 refine kq_code (kc_ret (kq_frz H44 ?_))
 refine kq_frz H56 ?_
 refine kq_cmp H44 H56 (fun c76 => ?_)
 refine kq_cmp (orHp M23 K16) (orHp H44 H56) (fun c77 => ?_)
 refine kq_cmp H21 (orHp (orHp M23 K16) (orHp H44 H56)) (fun c78 => ?_)
 exact kq_retR (rss4 rfl (rs_agg rfl rfl) (rs_tmp rfl) (rs_tmp rfl) (rs_tmp rfl)) (orHp H21 (orHp (orHp M23 K16) (orHp H44 H56))) (fr_or f27 (fr_or (fr_or f28 f15) (fr_or f46 f58))) ⟨(⟨z19.doms, z19.cons⟩ : Mod), z42, z54, z72, _, _, _, _, rfl, (Sl.mono (by assumption) (fun b o h => orL b o h) (fun _ _ h => h)), (Cons.mono' (by assumption) (fun b o h => orC c78 b o (orL b o h))), (Sl.mono (OwnL.ints o45) (fun b o h => orC c78 b o (orC c77 b o (orL b o h))) (fun _ _ h => h)), (Sl.mono (OwnL.ints o57) (fun b o h => orC c78 b o (orC c77 b o (orC c76 b o h))) (fun _ _ h => h)), by assumption⟩ .none
end Go.Proofs.YtkfioalfofoikaaGreat
