/- Parts of the proof: a logic of partial frames, plain functions, walks of the program's functions. Conditions: those that each statement names. -/
import Derived.Test.YtolndgeihijlbaaGreatKBoundOptimal7
import Derived.ProofKit
import Derived.SizedLaws
import Derived.Test.YtolndgeihijlbaaGreatRows
namespace Go.Proofs.YtolndgeihijlbaaGreat
open Go
set_option linter.unusedSimpArgs false
set_option linter.unusedVariables false
section
/-- No constraint changes these domains, and none is empty. -/
structure FixC (m : Mod) (F : List Int) : Prop where
  ok : DOk m.doms.length F
  z : F.contains 0 = false
  c : consB m.cons F = true
theorem FixC.ne {m : Mod} {F : List Int} (h : FixC m F) {i : Nat} (hi : i < m.doms.length) : ∃ v : Int, (0 ≤ v ∧ v ≤ 5) ∧ hasB (F.getD i 0) v = true := by
  have hi' : i < F.length := by rw [h.ok.l]; exact hi
  have h1 := h.ok.d.at hi'
  have h2 : F.getD i 0 ≠ 0 := fun e => by
    have h3 := getD_mem (d := (0 : Int)) hi'
    rw [e] at h3
    have h4 := List.contains_iff_mem.2 h3
    rw [h.z] at h4; cases h4
  obtain ⟨v, hv⟩ := List.exists_mem_of_ne_nil _ (valsI_ne h1 h2)
  exact ⟨v, mem_valsI.1 hv⟩
theorem FixC.fix {m : Mod} {F : List Int} (hM : MOk m) (h : FixC m F) : filtA m F = F := (filtA_fix hM h.ok).2 h.c
theorem FixC.prop {m : Mod} {F d : List Int} (hM : MOk m) (h : FixC m F) (hd : DOk m.doms.length d) (hs : SubD F d) : SubD F (prop m d) := prop_top hM h.ok (h.fix hM) h.z _ rfl hd hs
theorem FixC.has {m : Mod} {F d : List Int} (h : FixC m F) (hd : DOk m.doms.length d) (hs : SubD F d) : d.contains 0 = false := by
  cases h0 : d.contains 0 with
  | false => rfl
  | true =>
    exfalso
    obtain ⟨i, hi, h1⟩ := List.getElem_of_mem (List.contains_iff_mem.1 h0)
    have h2 : d.getD i 0 = 0 := by simp [List.getD, hi, h1]
    obtain ⟨v, hv, h3⟩ := h.ne (i := i) (by rw [← hd.l]; exact hi)
    have h4 : v ∈ valsI (d.getD i 0) := mem_valsI.2 ⟨hv, hs.2 i hi v hv h3⟩
    rw [h2, valsI_0] at h4; cases h4
/-! What accepted proofs say. -/
/-! The bound. -/
/-! A written proof is accepted. -/
structure Acc (m : Mod) (pre s : List (List Lit)) : Prop where
  c : ∀ i, i < s.length → impB m (pre ++ s.take i) (s.getD i []) = true
theorem Acc.one {m : Mod} {pre : List (List Lit)} {c : List Lit} (h : impB m pre c = true) : Acc m pre [c] := ⟨fun i hi => by
  have : i = 0 := by simpa using hi
  subst this; simpa using h⟩
theorem Acc.nil {m : Mod} {pre : List (List Lit)} : Acc m pre [] := ⟨fun i hi => (by simp at hi)⟩
/-! What the laws' walks ask. -/
theorem pb_len {m : Mod} {obj : List Int} {b : Int} {z : List (List Lit)} {o : Bool} (h : (z, o) = pbR m obj b) : z.length ≤ 200 := by
  have e : z = (pbR m obj b).1 := by rw [← h]
  rw [e]
  unfold pbR
  split
  · unfold infR
    split
    · unfold limO
      split
      · rename_i h1; exact h1.2
      · simp
    · simp
  · simp
theorem objS_ok {m : Mod} {obj : List Int} (h : (validModB m && objOkS m obj) = true) : MOk m ∧ obj.length = m.doms.length ∧ Coef obj := objok (by rw [obj_eq]; exact h)
theorem valB_in {m : Mod} {obj : List Int} (h : MOk m ∧ obj.length = m.doms.length ∧ Coef obj) (hs : (bestI (fun x => dotTo obj x x.length) (sols m)).2 = true) :
    Vals (bestI (fun x => dotTo obj x x.length) (sols m)).1 ∧ obj.length = (bestI (fun x => dotTo obj x x.length) (sols m)).1.length ∧ (bestI (fun x => dotTo obj x x.length) (sols m)).1.length ≤ 4 ∧
      -180 ≤ dotTo obj (bestI (fun x => dotTo obj x x.length) (sols m)).1 (bestI (fun x => dotTo obj x x.length) (sols m)).1.length ∧ dotTo obj (bestI (fun x => dotTo obj x x.length) (sols m)).1 (bestI (fun x => dotTo obj x x.length) (sols m)).1.length ≤ 180 := by
  have h1 := (best_in hs).1
  have h2 := sols_len h1
  have h3 := sols_vals h1
  have hn := h.1.n
  have h4 := dot_le h.2.2 h3 _ (by rw [h2, h.2.1]; exact Nat.le_refl _) (Nat.le_refl _)
  exact ⟨h3, by rw [h2, h.2.1], by omega, by omega, by omega⟩
theorem pb_one {z : Int} (h : z ∈ [-1000, 1001, -998, 1000]) : -1000 ≤ z ∧ z ≤ 1001 := by simp at h; omega
/-! The optimum. -/
def btR (m : Mod) (obj x : List Int) : Mod × Bool := if (objOkB m obj && isSolT m x) = true then wcR m (lowC obj.length obj (dotTo obj x x.length - 1)) else (⟨[], []⟩, false)
def chkO (m : Mod) (obj x : List Int) (p : List (List Lit)) : Bool := (btR m obj x).2 && chkP (btR m obj x).1 p
theorem bt_no {m : Mod} {obj x : List Int} (h : (!(objOkB m obj) || !(isSolT m x)) = true) : btR m obj x = (⟨[], []⟩, false) := by
  unfold btR; rw [if_neg]; intro h2; rw [Bool.and_eq_true] at h2; rw [h2.1, h2.2] at h; simp at h
theorem bt_yes {m : Mod} {obj x : List Int} (h : (!(objOkB m obj) || !(isSolT m x)) = false) : btR m obj x = wcR m (lowC obj.length obj (dotTo obj x x.length - 1)) := by
  unfold btR; rw [if_pos]
  simp only [Bool.or_eq_false_iff, Bool.not_eq_false'] at h
  rw [h.1, h.2]; rfl
theorem bt_ok {m : Mod} {obj x : List Int} (h : (!(objOkB m obj) || !(isSolT m x)) = false) : m.cons.length ≤ 100 ∧ obj.length ≤ 100 ∧ Coef obj ∧ Vals x ∧ obj.length = x.length ∧ x.length ≤ 4 ∧ -180 ≤ dotTo obj x x.length ∧ dotTo obj x x.length ≤ 180 := by
  obtain ⟨h1, hM, h2, h3, h4, h5, h6⟩ := gap_g h
  have hn := hM.n
  have hf := hM.few
  have h7 := dot_le h3 h6 _ (by rw [h5, h2]; exact Nat.le_refl _) (Nat.le_refl _)
  exact ⟨by omega, by omega, h3, h6, by rw [h2, h5], by omega, by omega, by omega⟩
theorem bo_law {m : Mod} {obj : List Int} {p : List (List Lit)} (h : (minI m obj).2 = true) : chkB m obj (objVal obj (minI m obj).1) p = chkO m obj (minI m obj).1 p := by
  have ho : objOkB m obj = true := by
    cases h1 : objOkB m obj with
    | true => rfl
    | false => rw [min_no (by rw [h1]; rfl)] at h; cases h
  have hx : (minI m obj).1 ∈ sols m := by rw [min_yes ho] at h ⊢; exact (best_in h).1
  have hk := objok ho
  have hs : isSolT m (minI m obj).1 = true := sols_isSol hk.1 hx
  have hg : (!(objOkB m obj) || !(isSolT m (minI m obj).1)) = false := by rw [ho, hs]; rfl
  have hb := bt_ok hg
  have e : objVal obj (minI m obj).1 = dotTo obj (minI m obj).1 (minI m obj).1.length := by rw [objVal_sol ho hx, sols_len hx]
  unfold chkB chkO
  rw [bt_yes hg, e]
  unfold bdR bdG
  rw [ho, withinB_iff.2 (by omega)]
  rfl
theorem bo_beq {m : Mod} {obj : List Int} {p : List (List Lit)} (h : (minI m obj).2 = true) : (chkB m obj (objVal obj (minI m obj).1) p == chkO m obj (minI m obj).1 p) = true := by rw [bo_law h]; simp
end
section
/-! Sets of variables, in order. -/
/-! The order of lists of numbers. -/
/-! The search. -/
/-! The whole. -/
/-! The answer as a function. -/
/-! What the walks ask. -/
/-! The next set. -/
theorem sol_at {m : Mod} {obj : List Int} {k : Nat} (hM : MOk m) (ho : obj.length = m.doms.length) (hk : k < (sols m).length) : Vals ((sols m).getD k []) ∧ obj.length = ((sols m).getD k []).length ∧ ((sols m).getD k []).length ≤ 4 := by
  have h := getD_mem (d := []) hk
  have := sols_len h
  have := hM.n
  exact ⟨sols_vals h, by omega, by omega⟩
/-! The laws, with the answer as a function. -/
end
section
theorem minS_ok {Hmd : Hp} {vmd : Value} {Hmc : Hp} {vmc : Value} {Hobj : Hp} {vobj : Value} (m : Mod) (obj : List Int) (hM : MOk m) (ho : obj.length = m.doms.length) (hO : Coef obj) (hmd : Ints Hmd vmd m.doms) (hmc : Cons Hmc vmc m.cons) (hobj : Ints Hobj vobj obj) : Spec Tryz.prog 34 [.agg #[vmd, vmc], vobj] [Hmd, Hmc, Hobj] (fun Hq vq => ∃ uq0 : Value, vq = .tuple #[uq0, .bool ((bestI (fun x => dotTo obj x x.length) (sols m)).2)] ∧ Ints Hq uq0 ((bestI (fun x => dotTo obj x x.length) (sols m)).1)) := by
 have hn := hM.n
 have hfw := sols_few hM
 refine spec_of Tryz.func34 rfl rfl rfl (fun B => ?_)
 refine cS (cr (kl_box rfl rfl (fun p1 H2 f3 a4 => ?_)))
 refine sg rfl (sg rfl (ln (qc (cS (cr (kl_ldS rfl ‹_› rfl ?_))))))
 refine kl_call rfl rfl (solve_ok m hM ‹_› ‹_›) (fun v5 H6 f7 h8 => ?_)
 obtain ⟨z11, z14, u12, rfl, h13, h10⟩ := h8
 subst h10
 refine mv rfl (kl_xt rfl rfl (kl_xt rfl rfl (sg rfl (sg rfl (ln (qc (cS (cr (sg rfl (ln (qc (cS ?_))))))))))))
 refine cS (cr (sg rfl (ln (qc (bl (kc_loop0 (A := Nat × Int) (fun zz => (zz.1 ≤ (sols m).length) ∧ (zz.2 = argTo (fun x => dotTo obj x x.length) (sols m) zz.1)) (fun zz => (sols m).length - zz.1) (fun zz => [(9, .int .i64 (zz.1 : Int)), (8, .int .i64 zz.2)]) (0, (-1 : Int)) (pk [1, 4, 5, 6] rfl) (pk [9, 8] rfl) ⟨Nat.zero_le _, rfl⟩ ?_))))))
 rintro ⟨k, z⟩ hJ17
 obtain ⟨hk15, hi16⟩ : (k ≤ (sols m).length) ∧ (z = argTo (fun x => dotTo obj x x.length) (sols m) k) := hJ17
 change KC _ _ (_) _ _ ([(9, .int .i64 (k : Int)), (8, .int .i64 z)] ++ _)
 refine cS (cS (cr (mv rfl (mv rfl (le9 rfl ‹_› (fun l18 => ?_))))))
 refine ls9 rfl rfl ?_
 refine ln (qc (ci9 rfl (fun c19 => ?_) (fun c19 => ?_)))
 ·have hsk := sol_at hM ho (by omega : k < (sols m).length)
  have hin := arg_in hi16
  refine sk (qc (cS (bl (cS (kc_tree (fun i => ([14] : List Nat).contains i) [] (by kernel_rfl) ?_)))))
  refine tq 0 nsl rfl (mv rfl (ln (qq (tq 1 nsl rfl (ls9 rfl rfl ?_)))))
  refine ln (qq (tq 2 nsl rfl (mv rfl (ln (qq ?_)))))
  rcases Bool.eq_false_or_eq_true (decide (z < (0 : Int))) with g20 | g20
  ·have g20p := of_decide_eq_true g20
   refine tq 3 nsl rfl (gF rfl rfl g20 (ln (qq (tq 4 nsl rfl (gF rfl rfl g20 (ln (qq (tq 5 nsl rfl (gF rfl rfl g20 (ln (qq ?_)))))))))))
   refine tq 6 nsl rfl (gF rfl rfl g20 (ln (qq (tq 7 nsl rfl (gF rfl rfl g20 (ln (qq (tq 9 nsl rfl (gF rfl rfl g20 (ln (qq ?_)))))))))))
   refine tq 10 nsl rfl (gF rfl rfl g20 (ln (qq (tq 11 nsl rfl (gF rfl rfl g20 (ln (qq (tq 12 nsl rfl (gF rfl rfl g20 (ln (qq ?_)))))))))))
   refine tq 13 nsl rfl (gF rfl rfl g20 (ln (qq (ta 8 rfl (gF rfl rfl g20 (ln (qa nsl (ta 14 rfl (gF rfl rfl g20 (ln (qx rfl ?_)))))))))))
   refine tq 15 nsl rfl (gF rfl rfl g20 (ln (qq (tq 16 nsl rfl (kl_pickT rfl g20 rfl ?_)))))
   refine ln (qq (kt_end (by kernel_rfl) ?_))
   refine qc (cd9 rfl (fun c21 => ?_) (fun c21 => ?_))
   ·have c21r := c21
    try simp only [smpE] at c21
    refine cr (mv rfl (sg rfl (ln (qc (cr (mv rfl (ic9 rfl rfl (by omega) ?_)))))))
    refine sg rfl (ln (kq_round0 ((k + 1), (k : Int)) (by omega) (⟨by omega, (by first | exact arg_T hi16 (.inl ‹_›) | exact arg_T hi16 (.inr ‹_›) | exact arg_F hi16 (fun h9 => h9.elim ‹_› ‹_›))⟩) (pk [9, 8] rfl) (pk [1, 4, 5, 6] rfl) slr9))
   ·have c21r := c21
    try simp only [smpE] at c21
    exact absurd c21 (by decide)
  ·have g20p := of_decide_eq_false g20
   have hsb := sol_at hM ho (by omega : z.toNat < (sols m).length)
   refine tq 3 nsl rfl (gT rfl rfl g20 (mv rfl (ln (qq (tq 4 nsl rfl (gT rfl rfl g20 (mv rfl (ln (qq (tq 5 nsl rfl ?_))))))))))
   refine gT rfl rfl g20 (mv rfl (ln (qq (tq 6 nsl rfl (gT rfl rfl g20 (kl_inS rfl rfl ‹_› (by omega) (fun p22 u24 h25 a23 => ?_)))))))
   refine ln (qq (tq 7 nsl rfl (gT rfl rfl g20 (ld rfl ‹_› (ln (qq (tq 9 nsl rfl (gT rfl rfl g20 (mv rfl (ln (qq ?_)))))))))))
   refine tq 10 nsl rfl (gT rfl rfl g20 (mv rfl (ln (qq (tq 11 nsl rfl (gT rfl rfl g20 (mv rfl (ln (qq (tq 12 nsl rfl ?_))))))))))
   refine gT rfl rfl g20 (kl_ixS rfl rfl ‹_› (by omega) (by omega) (fun p26 u28 h29 a27 => ?_))
   refine ln (qq (tq 13 nsl rfl (gT rfl rfl g20 (ld rfl ‹_› (ln (qq (ta 8 rfl (gT rfl rfl g20 (cP rfl rfl (svalue_ok obj ((sols m).getD k []) hO hsk.1 hsk.2.1 hsk.2.2 ‹_› ‹_›) ?_)))))))))
   refine ln (qa nsl (ta 14 rfl (gT rfl rfl g20 (cP rfl rfl (svalue_ok obj ((sols m).getD z.toNat []) hO hsb.1 hsb.2.1 hsb.2.2 ‹_› ‹_›) ?_))))
   refine ln (qx rfl (tq 15 nsl rfl (gT rfl rfl g20 (ls9 rfl rfl ?_))))
   refine ln (qq (tq 16 nsl rfl (kl_pickF rfl g20 rfl ?_)))
   refine ln (qq (kt_end (by kernel_rfl) ?_))
   refine qc (ci9 rfl (fun c30 => ?_) (fun c30 => ?_))
   ·refine cr (mv rfl (sg rfl (ln (qc (cr (mv rfl (ic9 rfl rfl (by omega) ?_)))))))
    refine sg rfl (ln (kq_round0 ((k + 1), (k : Int)) (by omega) (⟨by omega, (by first | exact arg_T hi16 (.inl ‹_›) | exact arg_T hi16 (.inr ‹_›) | exact arg_F hi16 (fun h9 => h9.elim ‹_› ‹_›))⟩) (pk [9, 8] rfl) (pk [1, 4, 5, 6] rfl) slr9))
   ·refine sk (qc (cr (mv rfl (ic9 rfl rfl (by omega) ?_))))
    refine sg rfl (ln (kq_round0 ((k + 1), z) (by omega) (⟨by omega, (by first | exact arg_T hi16 (.inl ‹_›) | exact arg_T hi16 (.inr ‹_›) | exact arg_F hi16 (fun h9 => h9.elim ‹_› ‹_›))⟩) (pk [9, 8] rfl) (pk [1, 4, 5, 6] rfl) slr9))
 ·have hin := arg_in hi16
  have hae : z = argTo (fun x => dotTo obj x x.length) (sols m) (sols m).length := (by rw [hi16, show k = (sols m).length from by omega])
  refine ex9 (qc (cS (cS (cr (mv rfl (ls9 rfl rfl ?_))))))
  refine ln (qc (ci9 rfl (fun c31 => ?_) (fun c31 => ?_)))
  ·refine cS (cr (sg rfl (sg rfl (ln (qc (rt (kq_ret2 rfl rfl rfl noHp (fr_no _) ⟨_, tup2 rfl (congrArg Value.bool (by rw [best_none hae ‹_›])), ?_⟩)))))))
   exact (by have e9 : (bestI (fun x => dotTo obj x x.length) (sols m)).1 = [] := (by rw [best_none hae ‹_›]); rw [e9]; exact Sl.nil)
  ·refine sk (qc (cS (cr (mv rfl (mv rfl (kl_ixS rfl rfl ‹_› (by omega) (by omega) (fun p32 u34 h35 a33 => ?_)))))))
   refine ld rfl ‹_› (sg rfl (sg rfl (ln (qc (rt (kq_ret2 rfl rfl rfl H6 f7 ⟨_, tup2 rfl (congrArg Value.bool (by rw [best_arg hae ‹_›])), ?_⟩))))))
   exact (by have e9 : (bestI (fun x => dotTo obj x x.length) (sols m)).1 = ((sols m).getD z.toNat []) := (by rw [best_arg hae ‹_›]); rw [e9]; assumption)
theorem drawPb_ok {Hcode : Hp} {vcode : Value} (code : List Int) (hcode : Bytes Hcode vcode code) : Spec Tryz.prog 7 [vcode] [Hcode] (fun Hq vq => ∃ (mq : Mod) (oq : List Int) (z : Int) (uq0a uq0b uq1 : Value), vq = .tuple #[.agg #[uq0a, uq0b], uq1, .int .i64 z] ∧ Ints Hq uq0a mq.doms ∧ Cons Hq uq0b mq.cons ∧ Ints Hq uq1 oq ∧ ModSm 100 mq ∧ oq.length ≤ 5 ∧ -2000 ≤ z ∧ z ≤ 2000) := by
 refine spec_ofR Tryz.func7 rfl rfl rfl (fun B => ?_)
 refine cS (cr (kl_alloc (cs := [.slice none 0 0, .slice none 0 0]) rfl (fun b1 hb2 => ?_)))
 refine sg rfl (sg rfl (ln (qc (cS (cr (mv rfl (cT rfl rfl (newReader_ok code hcode) (fun v3 L1 Ln K7 h4 f5 f6 => ?_))))))))
 obtain ⟨rfl, b8, v9, x10, rfl, rfl, h11⟩ := h4
 refine nm ?_
 refine sg rfl (ln (qc (cS (cr (mv rfl (cT rfl rfl (searchModel_ok 0 (by omega) h11) (fun v12 L1 Ln K16 h13 f14 f15 => ?_)))))))
 obtain ⟨q17, h18, rfl, H21, M23, v24, v25, z19, rfl, rfl, o22, o26, h20⟩ := h13
 have f27 := f14 _ (.head _)
 have f28 := f14 _ (.tail _ (.head _))
 have hd1 := h20.d1
 have hd4 := h20.d
 have hc1 := h20.c
 have hcc := h20.cc
 refine nm ?_
 refine fZ H21 ?_
 have h29 := OwnL.ints o22
 refine fZ M23 ?_
 refine cm9 M23 K16 (fun c30 => ?_)
 have h31 := OwnL.consK o26 c30
 refine kl_alloc (cs := [.slice none 0 0, .slice none 0 0]) rfl (fun b32 hb33 => ?_)
 refine kl_stW (us := [v24, v25]) rfl rfl rfl rfl (oc (Sl.oneCell ‹_›) (oc (Sl.oneCell ‹_›) oc_nil)) rfl ?_
 refine cg [sing b32 (.cells [v24, v25].toArray 26 (0, 0)), sing b8 (.cells [v9, .int .i64 (q17 : Int)].toArray 84 (0, 0)), sing b1 (.cells [.slice none 0 0, .slice none 0 0].toArray 26 (0, 0))] rfl ?_
 refine ln (qc (cS (cr (mv rfl (fV rfl (lB rfl rfl (le9 rfl ‹_› (fun l34 => ?_))))))))
 refine cT rfl rfl (objective_ok q17 (z19.doms.length : Int) (by first | assumption | omega) (by omega) h11) (fun v35 L1 Ln K39 h36 f37 f38 => ?_)
 obtain ⟨q40, h41, rfl, H44, z42, rfl, o45, h43⟩ := h36
 have f46 := f37 _ (.head _)
 have hj9 := h43
 refine nm ?_
 refine sg rfl (ln (qc (cS (cr (mv rfl (cT rfl rfl (pick_ok q40 (12 : Int) (by omega) h11) (fun v47 L1 Ln K51 h48 f49 f50 => ?_)))))))
 obtain ⟨q52, h53, rfl, rfl, z54, rfl, h55⟩ := h48
 refine nm ?_
 refine sb9 rfl rfl (by omega) ?_
 refine sg rfl (ln (qc (cS (cS (cr (kl_ldW rfl rfl (cP rfl rfl (svalidMod_ok z19 ‹_› ‹_›) ?_)))))))
 refine mv rfl (jn 4 29 (.bool ((validModB z19) && (objOkS z19 z42))) (pk [2, 3, 4, 5, 6, 7, 8, 25] rfl) (fun J59 => ?_) ?_)
 ·rcases Bool.eq_false_or_eq_true (validModB z19) with g58 | g58
  ·have g58p := g58
   try simp only [smpD] at g58p
   refine gT rfl rfl g58 (kl_ldW rfl rfl (gT rfl rfl g58 (mv rfl (gT rfl rfl g58 (cP rfl rfl (validObjective_ok z19 z42 ‹_› ‹_› (OwnL.ints o45)) ?_)))))
   refine aT rfl rfl g58 ?_
   exact J59 _ (pk [29, 2, 3, 4, 5, 6, 7, 8, 25] rfl)
  ·refine gF rfl rfl g58 (gF rfl rfl g58 (gF rfl rfl g58 (aF (objOkS z19 z42) rfl rfl g58 ?_)))
   exact J59 _ (pk [29, 2, 3, 4, 5, 6, 7, 8, 25] rfl)
 refine ln (qc (cd9 rfl (fun c60 => ?_) (fun c60 => ?_)))
 ·have c60r := c60
  try simp only [smpE] at c60
  have hob := objS_ok c60r
  refine cS (cr (kl_ldW rfl rfl (mv rfl (kl_call rfl rfl (minS_ok z19 z42 hob.1 hob.2.1 hob.2.2 ‹_› ‹_› (OwnL.ints o45)) (fun v61 H62 f63 h64 => ?_)))))
  obtain ⟨u65, rfl, h66⟩ := h64
  refine mv rfl (kl_xt rfl rfl (kl_xt rfl rfl (sg rfl (sg rfl (ln (qc (cS (cr (mv rfl (ln (qc (cd9 rfl (fun c67 => ?_) (fun c67 => ?_)))))))))))))
  ·have c67r := c67
   try simp only [smpE] at c67
   have hvb := valB_in hob c67r
   refine cr (mv rfl (mv rfl (cP rfl rfl (svalue_ok z42 ((bestI (fun x => dotTo z42 x x.length) (sols z19)).1) hob.2.2 hvb.1 hvb.2.1 hvb.2.2.1 (OwnL.ints o45) ‹_›) ?_)))
   refine mv rfl (cT rfl rfl (pick_ok q52 (4 : Int) (by omega) h11) (fun v68 L1 Ln K72 h69 f70 f71 => ?_))
   obtain ⟨q73, h74, rfl, rfl, z75, rfl, h76⟩ := h69
   refine nm ?_
   refine ad9 rfl rfl (by omega) ?_
   refine sb9 rfl rfl (by omega) ?_
   refine sg rfl (ln (qc (cS (cS (cr (mv rfl (cT rfl rfl (pick_ok q73 (14 : Int) (by omega) h11) (fun v79 L1 Ln K83 h80 f81 f82 => ?_))))))))
   obtain ⟨q84, h85, rfl, rfl, z86, rfl, h87⟩ := h80
   refine nm ?_
   refine eq9 rfl rfl ?_
   refine ln (qc (ci9 rfl (fun c90 => ?_) (fun c90 => ?_)))
   ·refine cr (mv rfl (bs9 rfl rfl rfl (by decide) (ca rfl (ca rfl (ca rfl (ca rfl ca_nil)))) (fun v91 H92 f93 r94 s95 => ?_)))
    have h96 : Ints H92 v91 [(-1000 : Int), (1001 : Int), (-998 : Int), (1000 : Int)] := litInts (xs := [(-1000 : Int), (1001 : Int), (-998 : Int), (1000 : Int)]) (by simpa using s95)
    refine cT rfl rfl (one_ok q84 ([(-1000 : Int), (1001 : Int), (-998 : Int), (1000 : Int)]) (by simp) (by omega) h11 ‹_›) (fun v97 L1 Ln K101 h98 f99 f100 => ?_)
    obtain ⟨q102, h103, rfl, rfl, z104, rfl, h105⟩ := h98
    have ho9 := pb_one h105
    refine nm ?_
    refine sg rfl (ln (qc (cS (cr (kl_ldW rfl rfl (mv rfl (mv rfl (kl_stW (us := [v24, v25]) rfl rfl rfl rfl (oc (Sl.oneCell ‹_›) (oc (Sl.oneCell ‹_›) oc_nil)) rfl ?_))))))))
    refine cg [sing b8 (.cells [v9, .int .i64 (q102 : Int)].toArray 84 (0, 0)), H44, sing b32 (.cells [v24, v25].toArray 26 (0, 0)), sing b1 (.cells [v24, v25].toArray 26 (0, 0))] rfl ?_
    refine sg rfl (sg rfl (ln (qc (rt (kq_frz H44 ?_)))))
    refine kq_cmp (orHp M23 K16) H44 (fun c108 => ?_)
    refine kq_cmp H21 (orHp (orHp M23 K16) H44) (fun c109 => ?_)
    exact kq_retR (rss3 rfl (rs_agg rfl rfl) (rs_tmp rfl) (rs_tmp rfl)) (orHp H21 (orHp (orHp M23 K16) H44)) (fr_or f27 (fr_or (fr_or f28 f15) f46)) ⟨(⟨z19.doms, z19.cons⟩ : Mod), z42, z104, _, _, _, rfl, (Sl.mono ‹_› (fun b o h => orL b o h) (fun _ _ h => h)), (Cons.mono' ‹_› (fun b o h => orC c109 b o (orL b o h))), (Sl.mono (OwnL.ints o45) (fun b o h => orC c109 b o (orC c108 b o h)) (fun _ _ h => h)), by exact ⟨by assumption, hj9.2, by omega, by omega⟩⟩ .none
   ·refine sk (qc (cS (cr (kl_ldW rfl rfl (mv rfl (mv rfl (kl_stW (us := [v24, v25]) rfl rfl rfl rfl (oc (Sl.oneCell ‹_›) (oc (Sl.oneCell ‹_›) oc_nil)) rfl ?_)))))))
    refine cg [sing b8 (.cells [v9, .int .i64 (q84 : Int)].toArray 84 (0, 0)), H44, sing b32 (.cells [v24, v25].toArray 26 (0, 0)), sing b1 (.cells [v24, v25].toArray 26 (0, 0))] rfl ?_
    refine sg rfl (sg rfl (ln (qc (rt (kq_frz H44 ?_)))))
    refine kq_cmp (orHp M23 K16) H44 (fun c110 => ?_)
    refine kq_cmp H21 (orHp (orHp M23 K16) H44) (fun c111 => ?_)
    exact kq_retR (rss3 rfl (rs_agg rfl rfl) (rs_tmp rfl) (rs_tmp rfl)) (orHp H21 (orHp (orHp M23 K16) H44)) (fr_or f27 (fr_or (fr_or f28 f15) f46)) ⟨(⟨z19.doms, z19.cons⟩ : Mod), z42, (((dotTo z42 ((bestI (fun x => dotTo z42 x x.length) (sols z19)).1) ((bestI (fun x => dotTo z42 x x.length) (sols z19)).1).length) + z75) - (2 : Int)), _, _, _, rfl, (Sl.mono ‹_› (fun b o h => orL b o h) (fun _ _ h => h)), (Cons.mono' ‹_› (fun b o h => orC c111 b o (orL b o h))), (Sl.mono (OwnL.ints o45) (fun b o h => orC c111 b o (orC c110 b o h)) (fun _ _ h => h)), by exact ⟨by assumption, hj9.2, by omega, by omega⟩⟩ .none
  ·have c67r := c67
   try simp only [smpE] at c67
   refine sk (qc (cS (cS (cr (mv rfl (cT rfl rfl (pick_ok q52 (14 : Int) (by omega) h11) (fun v112 L1 Ln K116 h113 f114 f115 => ?_)))))))
   obtain ⟨q117, h118, rfl, rfl, z119, rfl, h120⟩ := h113
   refine nm ?_
   refine eq9 rfl rfl ?_
   refine ln (qc (ci9 rfl (fun c123 => ?_) (fun c123 => ?_)))
   ·refine cr (mv rfl (bs9 rfl rfl rfl (by decide) (ca rfl (ca rfl (ca rfl (ca rfl ca_nil)))) (fun v124 H125 f126 r127 s128 => ?_)))
    have h129 : Ints H125 v124 [(-1000 : Int), (1001 : Int), (-998 : Int), (1000 : Int)] := litInts (xs := [(-1000 : Int), (1001 : Int), (-998 : Int), (1000 : Int)]) (by simpa using s128)
    refine cT rfl rfl (one_ok q117 ([(-1000 : Int), (1001 : Int), (-998 : Int), (1000 : Int)]) (by simp) (by omega) h11 ‹_›) (fun v130 L1 Ln K134 h131 f132 f133 => ?_)
    obtain ⟨q135, h136, rfl, rfl, z137, rfl, h138⟩ := h131
    have ho9 := pb_one h138
    refine nm ?_
    refine sg rfl (ln (qc (cS (cr (kl_ldW rfl rfl (mv rfl (mv rfl (kl_stW (us := [v24, v25]) rfl rfl rfl rfl (oc (Sl.oneCell ‹_›) (oc (Sl.oneCell ‹_›) oc_nil)) rfl ?_))))))))
    refine cg [sing b8 (.cells [v9, .int .i64 (q135 : Int)].toArray 84 (0, 0)), H44, sing b32 (.cells [v24, v25].toArray 26 (0, 0)), sing b1 (.cells [v24, v25].toArray 26 (0, 0))] rfl ?_
    refine sg rfl (sg rfl (ln (qc (rt (kq_frz H44 ?_)))))
    refine kq_cmp (orHp M23 K16) H44 (fun c141 => ?_)
    refine kq_cmp H21 (orHp (orHp M23 K16) H44) (fun c142 => ?_)
    exact kq_retR (rss3 rfl (rs_agg rfl rfl) (rs_tmp rfl) (rs_tmp rfl)) (orHp H21 (orHp (orHp M23 K16) H44)) (fr_or f27 (fr_or (fr_or f28 f15) f46)) ⟨(⟨z19.doms, z19.cons⟩ : Mod), z42, z137, _, _, _, rfl, (Sl.mono ‹_› (fun b o h => orL b o h) (fun _ _ h => h)), (Cons.mono' ‹_› (fun b o h => orC c142 b o (orL b o h))), (Sl.mono (OwnL.ints o45) (fun b o h => orC c142 b o (orC c141 b o h)) (fun _ _ h => h)), by exact ⟨by assumption, hj9.2, by omega, by omega⟩⟩ .none
   ·refine sk (qc (cS (cr (kl_ldW rfl rfl (mv rfl (mv rfl (kl_stW (us := [v24, v25]) rfl rfl rfl rfl (oc (Sl.oneCell ‹_›) (oc (Sl.oneCell ‹_›) oc_nil)) rfl ?_)))))))
    refine cg [sing b8 (.cells [v9, .int .i64 (q117 : Int)].toArray 84 (0, 0)), H44, sing b32 (.cells [v24, v25].toArray 26 (0, 0)), sing b1 (.cells [v24, v25].toArray 26 (0, 0))] rfl ?_
    refine sg rfl (sg rfl (ln (qc (rt (kq_frz H44 ?_)))))
    refine kq_cmp (orHp M23 K16) H44 (fun c143 => ?_)
    refine kq_cmp H21 (orHp (orHp M23 K16) H44) (fun c144 => ?_)
    exact kq_retR (rss3 rfl (rs_agg rfl rfl) (rs_tmp rfl) (rs_tmp rfl)) (orHp H21 (orHp (orHp M23 K16) H44)) (fr_or f27 (fr_or (fr_or f28 f15) f46)) ⟨(⟨z19.doms, z19.cons⟩ : Mod), z42, (z54 - (4 : Int)), _, _, _, rfl, (Sl.mono ‹_› (fun b o h => orL b o h) (fun _ _ h => h)), (Cons.mono' ‹_› (fun b o h => orC c144 b o (orL b o h))), (Sl.mono (OwnL.ints o45) (fun b o h => orC c144 b o (orC c143 b o h)) (fun _ _ h => h)), by exact ⟨by assumption, hj9.2, by omega, by omega⟩⟩ .none
 ·have c60r := c60
  try simp only [smpE] at c60
  refine sk (qc (cS (cS (cr (mv rfl (cT rfl rfl (pick_ok q52 (14 : Int) (by omega) h11) (fun v145 L1 Ln K149 h146 f147 f148 => ?_)))))))
  obtain ⟨q150, h151, rfl, rfl, z152, rfl, h153⟩ := h146
  refine nm ?_
  refine eq9 rfl rfl ?_
  refine ln (qc (ci9 rfl (fun c156 => ?_) (fun c156 => ?_)))
  ·refine cr (mv rfl (bs9 rfl rfl rfl (by decide) (ca rfl (ca rfl (ca rfl (ca rfl ca_nil)))) (fun v157 H158 f159 r160 s161 => ?_)))
   have h162 : Ints H158 v157 [(-1000 : Int), (1001 : Int), (-998 : Int), (1000 : Int)] := litInts (xs := [(-1000 : Int), (1001 : Int), (-998 : Int), (1000 : Int)]) (by simpa using s161)
   refine cT rfl rfl (one_ok q150 ([(-1000 : Int), (1001 : Int), (-998 : Int), (1000 : Int)]) (by simp) (by omega) h11 ‹_›) (fun v163 L1 Ln K167 h164 f165 f166 => ?_)
   obtain ⟨q168, h169, rfl, rfl, z170, rfl, h171⟩ := h164
   have ho9 := pb_one h171
   refine nm ?_
   refine sg rfl (ln (qc (cS (cr (kl_ldW rfl rfl (mv rfl (mv rfl (kl_stW (us := [v24, v25]) rfl rfl rfl rfl (oc (Sl.oneCell ‹_›) (oc (Sl.oneCell ‹_›) oc_nil)) rfl ?_))))))))
   refine cg [sing b8 (.cells [v9, .int .i64 (q168 : Int)].toArray 84 (0, 0)), H44, sing b32 (.cells [v24, v25].toArray 26 (0, 0)), sing b1 (.cells [v24, v25].toArray 26 (0, 0))] rfl ?_
   refine sg rfl (sg rfl (ln (qc (rt (kq_frz H44 ?_)))))
   refine kq_cmp (orHp M23 K16) H44 (fun c174 => ?_)
   refine kq_cmp H21 (orHp (orHp M23 K16) H44) (fun c175 => ?_)
   exact kq_retR (rss3 rfl (rs_agg rfl rfl) (rs_tmp rfl) (rs_tmp rfl)) (orHp H21 (orHp (orHp M23 K16) H44)) (fr_or f27 (fr_or (fr_or f28 f15) f46)) ⟨(⟨z19.doms, z19.cons⟩ : Mod), z42, z170, _, _, _, rfl, (Sl.mono ‹_› (fun b o h => orL b o h) (fun _ _ h => h)), (Cons.mono' ‹_› (fun b o h => orC c175 b o (orL b o h))), (Sl.mono (OwnL.ints o45) (fun b o h => orC c175 b o (orC c174 b o h)) (fun _ _ h => h)), by exact ⟨by assumption, hj9.2, by omega, by omega⟩⟩ .none
  ·refine sk (qc (cS (cr (kl_ldW rfl rfl (mv rfl (mv rfl (kl_stW (us := [v24, v25]) rfl rfl rfl rfl (oc (Sl.oneCell ‹_›) (oc (Sl.oneCell ‹_›) oc_nil)) rfl ?_)))))))
   refine cg [sing b8 (.cells [v9, .int .i64 (q150 : Int)].toArray 84 (0, 0)), H44, sing b32 (.cells [v24, v25].toArray 26 (0, 0)), sing b1 (.cells [v24, v25].toArray 26 (0, 0))] rfl ?_
   refine sg rfl (sg rfl (ln (qc (rt (kq_frz H44 ?_)))))
   refine kq_cmp (orHp M23 K16) H44 (fun c176 => ?_)
   refine kq_cmp H21 (orHp (orHp M23 K16) H44) (fun c177 => ?_)
   exact kq_retR (rss3 rfl (rs_agg rfl rfl) (rs_tmp rfl) (rs_tmp rfl)) (orHp H21 (orHp (orHp M23 K16) H44)) (fr_or f27 (fr_or (fr_or f28 f15) f46)) ⟨(⟨z19.doms, z19.cons⟩ : Mod), z42, (z54 - (4 : Int)), _, _, _, rfl, (Sl.mono ‹_› (fun b o h => orL b o h) (fun _ _ h => h)), (Cons.mono' ‹_› (fun b o h => orC c177 b o (orL b o h))), (Sl.mono (OwnL.ints o45) (fun b o h => orC c177 b o (orC c176 b o h)) (fun _ _ h => h)), by exact ⟨by assumption, hj9.2, by omega, by omega⟩⟩ .none
theorem clauseList_ok {br : Nat} {vbr : Value} {Hr : Hp} {bsr : List Int} (pr : Nat) (n : Int) (hp : pr + (400) ≤ 1000000) (hr : Bytes Hr vbr bsr) : SpecT Tryz.prog 48 [.pointer (some ⟨br, 0, none⟩), .int .i64 n] [sing br (.cells [vbr, .int .i64 (pr : Int)].toArray 84 (0, 0))] [Hr] (fun vq L1 Ln Kq => ∃ q : Nat, q ≤ pr + (400) ∧ L1 = [sing br (.cells [vbr, .int .i64 (q : Int)].toArray 84 (0, 0))] ∧ ∃ (Hq : Hp) (xq : List (List Lit)), Ln = [Hq] ∧ OwnL 69 1 Hq Kq LRowV vq xq ∧ xq.length ≤ 5) := by
 refine specT_of Tryz.func48 rfl rfl rfl (fun B => ?_)
 refine cS (cr (sg rfl (ln (qc (cS (cr (kl_bs0 LRowV rfl (fun v1 H2 f3 o4 => ?_))))))))
 refine sg rfl (ln (qc (cS (cS (cr (mv rfl (cT rfl rfl (pick_ok pr (5 : Int) (by omega) hr) (fun v5 L1 Ln K9 h6 f7 f8 => ?_))))))))
 obtain ⟨q10, h11, rfl, rfl, z12, rfl, h13⟩ := h6
 refine nm ?_
 refine sg rfl (ln (qc (bl (kc_loopK (A := Int × List (List Lit) × Value × Hp × Hp × Nat) (fun zz => (0 ≤ zz.1 ∧ zz.1 ≤ 4 ∧ zz.2.1.length + zz.1.toNat ≤ 4) ∧ Fr B zz.2.2.2.2.1 ∧ OwnL 69 1 zz.2.2.2.1 zz.2.2.2.2.1 LRowV zz.2.2.1 zz.2.1 ∧ Fr B zz.2.2.2.1 ∧ zz.2.2.2.2.2 ≤ q10 + 60 * (4 - zz.1).toNat) (fun zz => zz.1.toNat) (fun zz => zz.2.2.2.2.1) (fun zz => [sing br (.cells [vbr, .int .i64 (zz.2.2.2.2.2 : Int)].toArray 84 (0, 0)), zz.2.2.2.1]) (fun zz => [(6, .int .i64 zz.1), (5, zz.2.2.1)]) (z12, ([]), v1, H2, noHp, q10) (pk [0, 1, 4] rfl) (pk [6, 5] rfl) rfl ⟨⟨by dsimp only; omega, by dsimp only; omega, by simp; omega⟩, (fr_no _), o4, f3, (by first | omega | (dsimp only; omega))⟩ ?_))))
 rintro ⟨k, out, v21, H18, K22, q24⟩ hJ26
 obtain ⟨hi17, f23, o19, f20, hq25⟩ : (0 ≤ k ∧ k ≤ 4 ∧ out.length + k.toNat ≤ 4) ∧ Fr B K22 ∧ OwnL 69 1 H18 K22 LRowV v21 out ∧ Fr B H18 ∧ q24 ≤ q10 + 60 * (4 - k).toNat := hJ26
 change KC _ _ (K22 :: _) [sing br (.cells [vbr, .int .i64 (q24 : Int)].toArray 84 (0, 0)), H18] _ ([(6, .int .i64 k), (5, v21)] ++ _)
 refine cS (cS (cr (mv rfl (kl_gtr rfl rfl ?_))))
 refine ln (qc (ci9 rfl (fun c27 => ?_) (fun c27 => ?_)))
 ·refine sk (qc (cS (bl (cr (mv rfl (mv rfl (mv rfl (cT rfl rfl (randomClause_ok q24 n (by omega) hr) (fun v28 L1 Ln K32 h29 f30 f31 => ?_)))))))))
  obtain ⟨q33, h34, rfl, H37, z35, rfl, o38, h36⟩ := h29
  have f39 := f30 _ (.head _)
  have hrc := h36
  refine nm ?_
  refine bs9 rfl rfl rfl (by decide) (ca (by first | exact Sl.cells ‹_› | exact OwnL.cells ‹_›) ca_nil) (fun v40 H41 f42 r43 s44 => ?_)
  refine fZ H37 ?_
  have h45 := OwnL.lits o38
  refine cm9 K22 H37 (fun c46 => ?_)
  have o47 := OwnL.mono (K' := orHp K22 H37) o19 orL
  refine aL9 z35 rfl rfl o47 ‹_› ⟨_, rfl, Sl.mono ‹_› (orC c46) (fun _ _ h => h)⟩ (oc (OwnL.oneCell ‹_›) oc_nil) (by omega) (by decide) (fun v48 H49 o50 f51 => ?_)
  have f52 := f51 B f20 (Nat.le_refl _)
  refine sg rfl (ln (qc (cr (mv rfl (sb9 rfl rfl (by omega) ?_)))))
  refine sg rfl (ln (tk [sing br (.cells [vbr, .int .i64 (q33 : Int)].toArray 84 (0, 0)), H49] ?_))
  refine kq_roundK ((k - (1 : Int)), (out ++ [z35]), v48, H49, (orHp K22 H37), q33) (by (dsimp only; omega)) (⟨⟨by dsimp only; omega, by dsimp only; omega, by simp; omega⟩, (fr_or f23 f39), o50, f52, (by first | omega | (dsimp only; omega))⟩) (pk [6, 5] rfl) (pk [0, 1, 4] rfl) rfl slr9
 ·refine ex9 (qc (cS (cS (cr (mv rfl (cT rfl rfl (pick_ok q24 (14 : Int) (by omega) hr) (fun v53 L1 Ln K57 h54 f55 f56 => ?_)))))))
  obtain ⟨q58, h59, rfl, rfl, z60, rfl, h61⟩ := h54
  refine nm ?_
  refine eq9 rfl rfl ?_
  refine ln (qc (ci9 rfl (fun c64 => ?_) (fun c64 => ?_)))
  ·refine cr (mv rfl (mv rfl (mv rfl (cT rfl rfl (anyClause_ok q58 n (by omega) hr) (fun v65 L1 Ln K69 h66 f67 f68 => ?_)))))
   obtain ⟨q70, h71, rfl, H74, z72, rfl, o75, h73⟩ := h66
   have f76 := f67 _ (.head _)
   have hac := h73
   refine nm ?_
   refine bs9 rfl rfl rfl (by decide) (ca (by first | exact Sl.cells ‹_› | exact OwnL.cells ‹_›) ca_nil) (fun v77 H78 f79 r80 s81 => ?_)
   refine fZ H74 ?_
   have h82 := OwnL.lits o75
   refine cm9 K22 H74 (fun c83 => ?_)
   have o84 := OwnL.mono (K' := orHp K22 H74) o19 orL
   refine aL9 z72 rfl rfl o84 ‹_› ⟨_, rfl, Sl.mono ‹_› (orC c83) (fun _ _ h => h)⟩ (oc (OwnL.oneCell ‹_›) oc_nil) (by omega) (by decide) (fun v85 H86 o87 f88 => ?_)
   have f89 := f88 B f20 (Nat.le_refl _)
   refine sg rfl (ln (qc (cS (cr (mv rfl (sg rfl (ln (qc (rt ?_)))))))))
   exact kq_retT rfl rfl [sing br (.cells [vbr, .int .i64 (q70 : Int)].toArray 84 (0, 0))] [H86] (orHp K22 H74) (fr1 f89) (fr_or f23 f76) ⟨q70, by omega, rfl, H86, (out ++ [z72]), rfl, o87, by first | omega | (simp; omega)⟩
  ·refine sk (qc (cS (cr (mv rfl (sg rfl (ln (qc (rt ?_))))))))
   exact kq_retT rfl rfl [sing br (.cells [vbr, .int .i64 (q58 : Int)].toArray 84 (0, 0))] [H18] K22 (fr1 f20) f23 ⟨q58, by omega, rfl, H18, out, rfl, o19, by first | omega | (simp; omega)⟩
theorem bend_ok {br : Nat} {vbr : Value} {Hr : Hp} {bsr : List Int} {Hcs : Hp} {vcs : Value} (pr : Nat) (cs : List (List Lit)) (n : Int) (hb : cs.length ≤ 1000) (hp : pr + (70) ≤ 1000000) (hr : Bytes Hr vbr bsr) (hcs : LRows Hcs vcs cs) : SpecT Tryz.prog 49 [.pointer (some ⟨br, 0, none⟩), vcs, .int .i64 n] [sing br (.cells [vbr, .int .i64 (pr : Int)].toArray 84 (0, 0))] [Hr, Hcs] (fun vq L1 Ln Kq => ∃ q : Nat, q ≤ pr + (70) ∧ L1 = [sing br (.cells [vbr, .int .i64 (q : Int)].toArray 84 (0, 0))] ∧ ∃ xq : List (List Lit), Ln = [] ∧ LRows (orHp Kq Hcs) vq xq ∧ True) := by
 refine specT_of Tryz.func49 rfl rfl rfl (fun B => ?_)
 refine cS (cr (sg rfl (ln (qc (cS (cr (kl_bs0k (K := Hcs) LRowV rfl (fun v1 H2 f3 o4 => ?_))))))))
 refine mv rfl (kl_apS rfl rfl o4 ‹_› (fun _ _ h => h) (by (simp; omega)) (by decide) (fun v5 H6 o7 f8 => ?_))
 have f9 := f8 B f3 (Nat.le_refl _)
 have o10 : OwnL 69 1 H6 Hcs LRowV v5 cs := o7
 refine sg rfl (ln (qc (cS (cS (cr (mv rfl (lL rfl o10 (fun l11 => ?_))))))))
 refine eq9 rfl rfl ?_
 refine ln (qc (ci9 rfl (fun c12 => ?_) (fun c12 => ?_)))
 ·refine cS (cr (kl_bs0k (K := noHp) LitV rfl (fun v13 H14 f15 o16 => ?_)))
  refine fZ H14 ?_
  have h17 := OwnL.lits o16
  refine kl_bsO (us := [v13]) rfl rfl rfl (by decide) (fun _ h => by rw [List.mem_singleton.1 h]; exact Sl.cells ‹_›) (fun v18 H19 f20 o21 => ?_)
  have o22 : OwnL 69 1 H19 H14 LRowV v18 [[]] := OwnL.lrow1 o21 ‹_›
  refine sg rfl (ln (qc (rt (kq_frz H19 ?_))))
  refine kq_cmp H19 H14 (fun c23 => ?_)
  exact kq_retT rfl rfl [sing br (.cells [vbr, .int .i64 (pr : Int)].toArray 84 (0, 0))] [] (orHp H19 H14) frn (fr_or f20 f15) ⟨pr, by omega, rfl, ([[]]), rfl, (LRows.mono' (OwnL.lrowsK o22 c23) orL), by trivial⟩
 ·refine sk (qc (cS (cr (mv rfl (mv rfl (lL rfl o10 (fun l24 => ?_)))))))
  refine cT rfl rfl (pick_ok pr (cs.length : Int) (by omega) hr) (fun v25 L1 Ln K29 h26 f27 f28 => ?_)
  obtain ⟨q30, h31, rfl, rfl, z32, rfl, h33⟩ := h26
  obtain ⟨n36, rfl⟩ : ∃ n : Nat, z32 = (n : Int) := ⟨Int.toNat z32, by omega⟩
  refine nm ?_
  refine sg rfl (ln (qc (cS (cS (cr (mv rfl (cT rfl rfl (pick_ok q30 (4 : Int) (by omega) hr) (fun v37 L1 Ln K41 h38 f39 f40 => ?_))))))))
  obtain ⟨q42, h43, rfl, rfl, z44, rfl, h45⟩ := h38
  refine nm ?_
  refine ln (qc (bl (cS (cr (eq9 rfl rfl ?_)))))
  refine sg rfl (ln (qc (ci9 rfl (fun c48 => ?_) (fun c48 => ?_))))
  ·refine cS (kc_tree (fun i => ([7] : List Nat).contains i) [] (by kernel_rfl) ?_)
   refine tq 0 nsl rfl (mv rfl (ln (qq (tq 1 nsl rfl (mv rfl (ln (qq (tq 2 nsl rfl (kl_head (i := n36) rfl rfl o10 (by omega) (by (first | omega | (simp; omega))) (fun u49 h50 => ?_))))))))))
   refine ln (qq (tq 3 nsl rfl (mv rfl (ln (qq (tq 4 nsl rfl (mv rfl (ln (qq (tq 5 nsl rfl (ic9 rfl rfl (by omega) ?_)))))))))))
   refine ln (qq (tq 6 nsl rfl (kl_tail (j := (n36 + 1)) rfl rfl o10 (by omega) (by (first | omega | (simp; omega))) (fun u51 h52 => ?_))))
   refine ln (qq (ta 7 rfl (kl_apT rfl rfl h50 h52 o10 (by omega) (by omega) (by (first | omega | (simp; omega))) (fun v53 H54 o55 c56 f57 => ?_))))
   have f58 := f57 _ f9
   refine ln (qx rfl (tq 8 nsl rfl (sg rfl (ln (qq (kt_end (by kernel_rfl) ?_))))))
   refine qc (rt (kq_frz H54 ?_))
   refine kq_cmp H54 Hcs (fun c59 => ?_)
   exact kq_retT rfl rfl [sing br (.cells [vbr, .int .i64 (q42 : Int)].toArray 84 (0, 0))] [] H54 frn f58 ⟨q42, by omega, rfl, (cs.take n36 ++ cs.drop (n36 + 1)), rfl, (OwnL.lrowsK o55 c59), by trivial⟩
  ·refine cS (cr (eq9 rfl rfl ?_))
   refine sg rfl (ln (qc (ci9 rfl (fun c60 => ?_) (fun c60 => ?_))))
   ·refine cr (mv rfl (mv rfl (mv rfl (mv rfl (cT rfl rfl (randomClause_ok q42 n (by omega) hr) (fun v61 L1 Ln K65 h62 f63 f64 => ?_))))))
    obtain ⟨q66, h67, rfl, H70, z68, rfl, o71, h69⟩ := h62
    have f72 := f63 _ (.head _)
    have hrc := h69
    refine nm ?_
    refine kl_ixLn rfl rfl ‹_› (by first | omega | (simp; omega)) (fun p73 q74 => ?_)
    refine fZ H70 ?_
    have h79 := OwnL.lits o71
    refine cm9 Hcs H70 (fun c80 => ?_)
    have o81 := OwnL.mono (K' := orHp Hcs H70) o10 orL
    refine kl_stL z68 rfl rfl ‹_› o81 (by first | omega | (simp; omega)) ⟨_, rfl, Sl.mono ‹_› (orC c80) (fun _ _ h => h)⟩ (OwnL.oneCell ‹_›) (OwnL.cells ‹_›) (fun H75 o76 f77 => ?_)
    have f78 := f77 _ f9
    refine cg [sing br (.cells [vbr, .int .i64 (q66 : Int)].toArray 84 (0, 0)), H75] rfl ?_
    refine ln (qc (cS (cr (mv rfl (sg rfl (ln (qc (rt (kq_frz H75 ?_)))))))))
    refine kq_cmp H75 (orHp Hcs H70) (fun c82 => ?_)
    exact kq_retT rfl rfl [sing br (.cells [vbr, .int .i64 (q66 : Int)].toArray 84 (0, 0))] [] (orHp H75 H70) frn (fr_or f78 f72) ⟨q66, by omega, rfl, (cs.set n36 z68), rfl, (lrows_re c80 (OwnL.lrowsK o76 c82)), by trivial⟩
   ·refine cS (cr (eq9 rfl rfl ?_))
    refine sg rfl (ln (qc (ci9 rfl (fun c83 => ?_) (fun c83 => ?_))))
    ·refine cS (cr (mv rfl (mv rfl (lL rfl o10 (fun l84 => ?_)))))
     refine sb9 rfl rfl (by omega) ?_
     have e87 : ((cs.length : Int) - (1 : Int)) = (((Int.toNat ((cs.length : Int) - (1 : Int))) : Nat) : Int) := by first | omega | (simp only [List.length_append, List.length_cons, List.length_nil]; omega)
     refine kl_slTakeL (i := (Int.toNat ((cs.length : Int) - (1 : Int)))) rfl (by rw [← e87]; rfl) o10 (by (first | omega | (simp; omega))) (fun u85 o86 => ?_)
     refine sg rfl (ln (qc (rt (kq_frz H6 ?_))))
     refine kq_cmp H6 Hcs (fun c88 => ?_)
     exact kq_retT rfl rfl [sing br (.cells [vbr, .int .i64 (q42 : Int)].toArray 84 (0, 0))] [] H6 frn f9 ⟨q42, by omega, rfl, (cs.take (Int.toNat ((cs.length : Int) - (1 : Int)))), rfl, (OwnL.lrowsK o86 c88), by trivial⟩
    ·refine sk (qc (cS (cr (mv rfl (sg rfl (ln (qc (rt (kq_frz H6 ?_)))))))))
     refine kq_cmp H6 Hcs (fun c89 => ?_)
     exact kq_retT rfl rfl [sing br (.cells [vbr, .int .i64 (q42 : Int)].toArray 84 (0, 0))] [] H6 frn f9 ⟨q42, by omega, rfl, cs, rfl, (OwnL.lrowsK o10 c89), by trivial⟩
theorem drawCb_ok {Hcode : Hp} {vcode : Value} (code : List Int) (hcode : Bytes Hcode vcode code) : Spec Tryz.prog 14 [vcode] [Hcode] (fun Hq vq => ∃ (mq : Mod) (oq : List Int) (z : Int) (pq : List (List Lit)) (uq0a uq0b uq1 uq3 : Value), vq = .tuple #[.agg #[uq0a, uq0b], uq1, .int .i64 z, uq3] ∧ Ints Hq uq0a mq.doms ∧ Cons Hq uq0b mq.cons ∧ Ints Hq uq1 oq ∧ LRows Hq uq3 pq ∧ ModSm 100 mq ∧ oq.length ≤ 5 ∧ -2000 ≤ z ∧ z ≤ 2000) := by
 refine spec_ofR Tryz.func14 rfl rfl rfl (fun B => ?_)
 refine cS (cr (kl_alloc (cs := [.slice none 0 0, .slice none 0 0]) rfl (fun b1 hb2 => ?_)))
 refine sg rfl (sg rfl (sg rfl (ln (qc (cS (cr (mv rfl (kl_call rfl rfl (drawPb_ok code hcode) (fun v3 H4 f5 h6 => ?_)))))))))
 obtain ⟨z9, z14, z17, u10, u11, u15, rfl, h12, h13, h16, h8⟩ := h6
 have hdp := h8
 refine mv rfl (kl_xt rfl rfl (kl_xt rfl rfl (kl_xt rfl rfl (kl_alloc (cs := [.slice none 0 0, .slice none 0 0]) rfl (fun b18 hb19 => ?_)))))
 refine kl_stW (us := [u10, u11]) rfl rfl rfl rfl (oc (Sl.oneCell ‹_›) (oc (Sl.oneCell ‹_›) oc_nil)) rfl ?_
 refine cg [sing b18 (.cells [u10, u11].toArray 26 (0, 0)), sing b1 (.cells [.slice none 0 0, .slice none 0 0].toArray 26 (0, 0))] rfl ?_
 refine sg rfl (sg rfl (ln (qc (cS (cr (mv rfl (cT rfl rfl (newReader_ok code hcode) (fun v20 L1 Ln K24 h21 f22 f23 => ?_))))))))
 obtain ⟨rfl, b25, v26, x27, rfl, rfl, h28⟩ := h21
 refine nm ?_
 refine sg rfl (ln (qc (cS (cr (kl_ldW rfl rfl (mv rfl (mv rfl (kl_call rfl rfl (pbS_ok z9 z14 z17 ‹_› ‹_› ‹_›) (fun v29 H30 f31 h32 => ?_)))))))))
 obtain ⟨z35, z38, u36, rfl, h37, h34⟩ := h32
 have hpl := pb_len h34
 refine mv rfl (kl_xt rfl rfl (kl_xt rfl rfl (sg rfl (sg rfl (ln (qc (cS (cS (cr (mv rfl ?_))))))))))
 refine nt9 rfl (ln (qc (cd9 rfl (fun c39 => ?_) (fun c39 => ?_))))
 ·have c39r := c39
  try simp only [smpE] at c39
  refine cr (mv rfl (fV rfl (lB rfl rfl (le9 rfl ‹_› (fun l40 => ?_)))))
  refine cT rfl rfl (clauseList_ok 0 (z9.doms.length : Int) (by omega) h28) (fun v41 L1 Ln K45 h42 f43 f44 => ?_)
  obtain ⟨q46, h47, rfl, H50, z48, rfl, o51, h49⟩ := h42
  have f52 := f43 _ (.head _)
  have hcl := h49
  refine nm ?_
  refine sg rfl (ln (qc (cS (cS (kc_cmp H50 K45 (fun c53 => ?_))))))
  have h54 := OwnL.lrowsK o51 c53
  refine kc_frz H50 ?_
  refine cr (mv rfl (cT rfl rfl (pick_ok q46 (3 : Int) (by omega) h28) (fun v55 L1 Ln K59 h56 f57 f58 => ?_)))
  obtain ⟨q60, h61, rfl, rfl, z62, rfl, h63⟩ := h56
  refine nm ?_
  refine eq9 rfl rfl ?_
  refine ln (qc (ci9 rfl (fun c66 => ?_) (fun c66 => ?_)))
  ·refine cr (mv rfl (mv rfl (fV rfl (lB rfl rfl (le9 rfl ‹_› (fun l67 => ?_))))))
   refine cT rfl rfl (bend_ok q60 z48 (z9.doms.length : Int) (by omega) (by omega) h28 ‹_›) (fun v68 L1 Ln K72 h69 f70 f71 => ?_)
   obtain ⟨q73, h74, rfl, z75, rfl, h79, h76⟩ := h69
   refine nm ?_
   refine sg rfl (ln (qc (cS (cr (kl_ldW rfl rfl (mv rfl (mv rfl (mv rfl (kl_stW (us := [u10, u11]) rfl rfl rfl rfl (oc (Sl.oneCell ‹_›) (oc (Sl.oneCell ‹_›) oc_nil)) rfl ?_)))))))))
   refine cg [sing b25 (.cells [v26, .int .i64 (q73 : Int)].toArray 84 (0, 0)), sing b18 (.cells [u10, u11].toArray 26 (0, 0)), sing b1 (.cells [u10, u11].toArray 26 (0, 0))] rfl ?_
   refine sg rfl (sg rfl (sg rfl (ln (qc (rt (kq_cmp H4 (orHp K72 (orHp H50 K45)) (fun c80 => ?_)))))))
   refine kq_cmp H4 (orHp H4 (orHp K72 (orHp H50 K45))) (fun c81 => ?_)
   refine kq_cmp H4 (orHp H4 (orHp H4 (orHp K72 (orHp H50 K45)))) (fun c82 => ?_)
   exact kq_retR (rss4 rfl (rs_agg rfl rfl) (rs_tmp rfl) (rs_tmp rfl) (rs_tmp rfl)) (orHp H4 (orHp H4 (orHp H4 (orHp K72 (orHp H50 K45))))) (fr_or f5 (fr_or f5 (fr_or f5 (fr_or f71 (fr_or f52 f44))))) ⟨(⟨z9.doms, z9.cons⟩ : Mod), z14, z17, z75, _, _, _, _, rfl, (Sl.mono ‹_› (fun b o h => orL b o h) (fun _ _ h => h)), (Cons.mono' ‹_› (fun b o h => orC c82 b o (orL b o h))), (Sl.mono ‹_› (fun b o h => orC c82 b o (orC c81 b o (orL b o h))) (fun _ _ h => h)), (LRows.mono' ‹_› (fun b o h => orC c82 b o (orC c81 b o (orC c80 b o h)))), by exact hdp⟩ .none
  ·refine sk (qc (cS (cr (kl_ldW rfl rfl (mv rfl (mv rfl (mv rfl (kl_stW (us := [u10, u11]) rfl rfl rfl rfl (oc (Sl.oneCell ‹_›) (oc (Sl.oneCell ‹_›) oc_nil)) rfl ?_))))))))
   refine cg [sing b25 (.cells [v26, .int .i64 (q60 : Int)].toArray 84 (0, 0)), sing b18 (.cells [u10, u11].toArray 26 (0, 0)), sing b1 (.cells [u10, u11].toArray 26 (0, 0))] rfl ?_
   refine sg rfl (sg rfl (sg rfl (ln (qc (rt (kq_cmp H4 (orHp H50 K45) (fun c83 => ?_)))))))
   refine kq_cmp H4 (orHp H4 (orHp H50 K45)) (fun c84 => ?_)
   refine kq_cmp H4 (orHp H4 (orHp H4 (orHp H50 K45))) (fun c85 => ?_)
   exact kq_retR (rss4 rfl (rs_agg rfl rfl) (rs_tmp rfl) (rs_tmp rfl) (rs_tmp rfl)) (orHp H4 (orHp H4 (orHp H4 (orHp H50 K45)))) (fr_or f5 (fr_or f5 (fr_or f5 (fr_or f52 f44)))) ⟨(⟨z9.doms, z9.cons⟩ : Mod), z14, z17, z48, _, _, _, _, rfl, (Sl.mono ‹_› (fun b o h => orL b o h) (fun _ _ h => h)), (Cons.mono' ‹_› (fun b o h => orC c85 b o (orL b o h))), (Sl.mono ‹_› (fun b o h => orC c85 b o (orC c84 b o (orL b o h))) (fun _ _ h => h)), (LRows.mono' ‹_› (fun b o h => orC c85 b o (orC c84 b o (orC c83 b o h)))), by exact hdp⟩ .none
 ·have c39r := c39
  try simp only [smpE] at c39
  refine sk (qc (cS (cS (cr (mv rfl (cT rfl rfl (pick_ok 0 (3 : Int) (by omega) h28) (fun v86 L1 Ln K90 h87 f88 f89 => ?_)))))))
  obtain ⟨q91, h92, rfl, rfl, z93, rfl, h94⟩ := h87
  refine nm ?_
  refine eq9 rfl rfl ?_
  refine ln (qc (ci9 rfl (fun c97 => ?_) (fun c97 => ?_)))
  ·refine cr (mv rfl (mv rfl (fV rfl (lB rfl rfl (le9 rfl ‹_› (fun l98 => ?_))))))
   refine cT rfl rfl (bend_ok q91 z35 (z9.doms.length : Int) (by omega) (by omega) h28 ‹_›) (fun v99 L1 Ln K103 h100 f101 f102 => ?_)
   obtain ⟨q104, h105, rfl, z106, rfl, h110, h107⟩ := h100
   refine nm ?_
   refine sg rfl (ln (qc (cS (cr (kl_ldW rfl rfl (mv rfl (mv rfl (mv rfl (kl_stW (us := [u10, u11]) rfl rfl rfl rfl (oc (Sl.oneCell ‹_›) (oc (Sl.oneCell ‹_›) oc_nil)) rfl ?_)))))))))
   refine cg [sing b25 (.cells [v26, .int .i64 (q104 : Int)].toArray 84 (0, 0)), sing b18 (.cells [u10, u11].toArray 26 (0, 0)), sing b1 (.cells [u10, u11].toArray 26 (0, 0))] rfl ?_
   refine sg rfl (sg rfl (sg rfl (ln (qc (rt (kq_cmp H4 (orHp K103 H30) (fun c111 => ?_)))))))
   refine kq_cmp H4 (orHp H4 (orHp K103 H30)) (fun c112 => ?_)
   refine kq_cmp H4 (orHp H4 (orHp H4 (orHp K103 H30))) (fun c113 => ?_)
   exact kq_retR (rss4 rfl (rs_agg rfl rfl) (rs_tmp rfl) (rs_tmp rfl) (rs_tmp rfl)) (orHp H4 (orHp H4 (orHp H4 (orHp K103 H30)))) (fr_or f5 (fr_or f5 (fr_or f5 (fr_or f102 f31)))) ⟨(⟨z9.doms, z9.cons⟩ : Mod), z14, z17, z106, _, _, _, _, rfl, (Sl.mono ‹_› (fun b o h => orL b o h) (fun _ _ h => h)), (Cons.mono' ‹_› (fun b o h => orC c113 b o (orL b o h))), (Sl.mono ‹_› (fun b o h => orC c113 b o (orC c112 b o (orL b o h))) (fun _ _ h => h)), (LRows.mono' ‹_› (fun b o h => orC c113 b o (orC c112 b o (orC c111 b o h)))), by exact hdp⟩ .none
  ·refine sk (qc (cS (cr (kl_ldW rfl rfl (mv rfl (mv rfl (mv rfl (kl_stW (us := [u10, u11]) rfl rfl rfl rfl (oc (Sl.oneCell ‹_›) (oc (Sl.oneCell ‹_›) oc_nil)) rfl ?_))))))))
   refine cg [sing b25 (.cells [v26, .int .i64 (q91 : Int)].toArray 84 (0, 0)), sing b18 (.cells [u10, u11].toArray 26 (0, 0)), sing b1 (.cells [u10, u11].toArray 26 (0, 0))] rfl ?_
   refine sg rfl (sg rfl (sg rfl (ln (qc (rt (kq_cmp H4 H30 (fun c114 => ?_)))))))
   refine kq_cmp H4 (orHp H4 H30) (fun c115 => ?_)
   refine kq_cmp H4 (orHp H4 (orHp H4 H30)) (fun c116 => ?_)
   exact kq_retR (rss4 rfl (rs_agg rfl rfl) (rs_tmp rfl) (rs_tmp rfl) (rs_tmp rfl)) (orHp H4 (orHp H4 (orHp H4 H30))) (fr_or f5 (fr_or f5 (fr_or f5 f31))) ⟨(⟨z9.doms, z9.cons⟩ : Mod), z14, z17, z35, _, _, _, _, rfl, (Sl.mono ‹_› (fun b o h => orL b o h) (fun _ _ h => h)), (Cons.mono' ‹_› (fun b o h => orC c116 b o (orL b o h))), (Sl.mono ‹_› (fun b o h => orC c116 b o (orC c115 b o (orL b o h))) (fun _ _ h => h)), (LRows.mono' ‹_› (fun b o h => orC c116 b o (orC c115 b o (orC c114 b o h)))), by exact hdp⟩ .none
end
section
theorem valueOk_ok (v : Int) : SpecP Tryz.prog 162 [.int .i64 v] [] (.bool (withinB v 0 5)) := by
 refine spec_of Tryz.func162 rfl rfl rfl (fun B => ?_)
 refine cS (cr (sg rfl (ln (qc (cS (cr (mv rfl (cP rfl rfl (within_ok v (0 : Int) (5 : Int)) ?_))))))))
 refine sg rfl (ln (qc (rt (kq_retP rfl rfl (congrArg Value.bool ?_)))))
 rfl
end
section
theorem isNaN_ok (x : Int) : SpecP Tryz.prog 196 [.int .i64 x] [] (.bool false) := by
 refine spec_of Tryz.func196 rfl rfl rfl (fun B => ?_)
 refine cS (cr (sg rfl (ln (qc (cS (cr (mv rfl (mv rfl (kl_neq rfl rfl ?_)))))))))
 refine sg rfl (ln (qc (rt (kq_retP rfl rfl (congrArg Value.bool ?_)))))
 simp
theorem cmpInt_ok (a : Int) (b : Int) : SpecP Tryz.prog 185 [.int .i64 a, .int .i64 b] [] (.int .i64 (cmpI a b)) := by
 refine spec_of Tryz.func185 rfl rfl rfl (fun B => ?_)
 refine cS (cr (sg rfl (ln (qc (cS (cr (mv rfl (cP rfl rfl (isNaN_ok a) ?_))))))))
 refine sg rfl (ln (qc (cS (cr (mv rfl (cP rfl rfl (isNaN_ok b) ?_))))))
 refine sg rfl (ln (qc (cS (cS (cr (mv rfl (ln (qc (cd9 rfl (fun c1 => ?_) (fun c1 => ?_))))))))))
 ·have c1r := c1
  try simp only [smpE] at c1
  exact absurd c1r (by decide)
 ·have c1r := c1
  try simp only [smpE] at c1
  refine sk (qc (cS (cS (cr (mv rfl (ln (qc (cd9 rfl (fun c2 => ?_) (fun c2 => ?_)))))))))
  ·have c2r := c2
   try simp only [smpE] at c2
   exact absurd c2r (by decide)
  ·have c2r := c2
   try simp only [smpE] at c2
   refine sk (qc (cS (cS (cr (mv rfl (mv rfl (ls9 rfl rfl ?_)))))))
   refine ln (qc (ci9 rfl (fun c3 => ?_) (fun c3 => ?_)))
   ·refine cS (cr (sg rfl (ln (qc (rt (kq_retP rfl rfl (congrArg (Value.int .i64) ?_)))))))
    exact cmpI_1 ‹_›
   ·refine sk (qc (cS (cS (cr (mv rfl (mv rfl (kl_gtr rfl rfl ?_)))))))
    refine ln (qc (ci9 rfl (fun c4 => ?_) (fun c4 => ?_)))
    ·refine cS (cr (sg rfl (ln (qc (rt (kq_retP rfl rfl (congrArg (Value.int .i64) ?_)))))))
     exact cmpI_2 ‹_› ‹_›
    ·refine sk (qc (cS (cr (sg rfl (ln (qc (rt (kq_retP rfl rfl (congrArg (Value.int .i64) ?_)))))))))
     exact cmpI_3 ‹_› ‹_›
end
section
theorem truesL_ok (l : Lit) (h0 : 0 ≤ l.val) : SpecP Tryz.prog 166 [.agg #[.int .i64 l.var, .int .i64 l.val, .bool l.neg]] [] (.int .i64 (truesI l)) := by
 refine spec_of Tryz.func166 rfl rfl rfl (fun B => ?_)
 refine cS (cr (kl_box rfl rfl (fun p1 H2 f3 a4 => ?_)))
 refine sg rfl (ln (qc (cS (cS (cr (fd9 rfl ‹_› (fun p5 a6 => ?_)))))))
 refine ld rfl ‹_› (ln (qc (cd9 rfl (fun c7 => ?_) (fun c7 => ?_))))
 ·have c7r := c7
  try simp only [smpE] at c7
  refine cS (cr (fd9 rfl ‹_› (fun p8 a9 => ?_)))
  refine ld rfl ‹_› (kl_shl rfl rfl (by omega) ?_)
  refine kl_andNot rfl rfl ?_
  refine sg rfl (ln (qc (rt (kq_retP rfl rfl (congrArg (Value.int .i64) ?_)))))
  exact trues_T ‹_›
 ·have c7r := c7
  try simp only [smpE] at c7
  refine sk (qc (cS (cr (fd9 rfl ‹_› (fun p10 a11 => ?_)))))
  refine ld rfl ‹_› (kl_shl rfl rfl (by omega) ?_)
  refine sg rfl (ln (qc (rt (kq_retP rfl rfl (congrArg (Value.int .i64) ?_)))))
  exact trues_F ‹_›
theorem orInt_ok {Hxs : Hp} {vxs : Value} (xs : List Int) (hxs : Ints Hxs vxs xs) : SpecP Tryz.prog 184 [vxs] [Hxs] (.int .i64 (orI xs)) := by
 refine spec_of Tryz.func184 rfl rfl rfl (fun B => ?_)
 refine cS (cr (sg rfl (ln (qc (cS (cr (sg rfl (ln (qc (cS (cS (cr (mv rfl (le9 rfl ‹_› (fun l1 => ?_)))))))))))))))
 refine mv rfl (ln (qc (bl (kc_loop0 (A := Nat) (fun zz => (zz ≤ xs.length) ∧ ((xs.take zz).all (fun x => decide (x = 0)) = true)) (fun zz => xs.length - zz) (fun zz => [(8, .int .i64 (zz : Int))]) (0) (pk [3, 6, 7] rfl) (pc 8 rfl pn) ⟨Nat.zero_le _, by simp⟩ ?_))))
 rintro k hJ4
 obtain ⟨hk2, hi3⟩ : (k ≤ xs.length) ∧ ((xs.take k).all (fun x => decide (x = 0)) = true) := hJ4
 change KC _ _ (_) _ _ ([(8, .int .i64 (k : Int))] ++ _)
 refine cS (cr (ls9 rfl rfl ?_))
 refine ln (qc (cS (ci9 rfl (fun c5 => ?_) (fun c5 => ?_))))
 ·refine sk (qc (cS (bl (cS (cr (kl_inI rfl rfl ‹_› (by omega) (fun p6 a7 => ?_)))))))
  refine ld rfl ‹_› (sg rfl (ln (qc (cS (cr (mv rfl (mv rfl (kl_neq rfl rfl ?_))))))))
  refine ln (qc (ci9 rfl (fun c8 => ?_) (fun c8 => ?_)))
  ·refine cS (cr (mv rfl (sg rfl (ln (qc (rt (kq_retP rfl rfl (congrArg (Value.int .i64) ?_))))))))
   exact orI_at (by omega) hi3 ‹_›
  ·refine sk (qc (cr (ic9 rfl rfl (by omega) ?_)))
   refine mv rfl (ln (kq_round0 ((k + 1)) (by omega) (⟨by omega, all0_step (by omega) hi3 ‹_›⟩) (pc 8 rfl pn) (pk [3, 6, 7] rfl) slr9))
 ·refine ex9 (qc (cS (cr (mv rfl (sg rfl (ln (qc (rt (kq_retP rfl rfl (congrArg (Value.int .i64) ?_))))))))))
  exact all0_end (by omega) hi3
theorem litCmp_ok (a : Lit) (b : Lit) : SpecP Tryz.prog 163 [.agg #[.int .i64 a.var, .int .i64 a.val, .bool a.neg], .agg #[.int .i64 b.var, .int .i64 b.val, .bool b.neg]] [] (.int .i64 (litCmp a b)) := by
 refine spec_of Tryz.func163 rfl rfl rfl (fun B => ?_)
 refine cS (cr (kl_box rfl rfl (fun p1 H2 f3 a4 => ?_)))
 refine kl_box rfl rfl (fun p5 H6 f7 a8 => ?_)
 refine sg rfl (ln (qc (cS (cr (kl_mkMap (fun b9 hb10 => ?_))))))
 refine kl_insB rfl rfl rfl ?_
 refine fZ (sing b9 (.map #[⟨.bool true, .int .i64 (1 : Int), 0⟩] 1)) ?_
 refine mv rfl (sg rfl (ln (qc (cS (kc_tree (fun i => ([18, 19, 20] : List Nat).contains i) [] (by kernel_rfl) ?_)))))
 refine tq 0 nsl rfl (fd9 rfl ‹_› (fun p11 a12 => ?_))
 refine ln (qq (tq 1 nsl rfl (ld rfl ‹_› (ln (qq (tq 2 nsl rfl (fd9 rfl ‹_› (fun p13 a14 => ?_))))))))
 refine ln (qq (tq 3 nsl rfl (ld rfl ‹_› (ln (qq (tq 5 nsl rfl (fd9 rfl ‹_› (fun p15 a16 => ?_))))))))
 refine ln (qq (tq 6 nsl rfl (ld rfl ‹_› (ln (qq (tq 7 nsl rfl (fd9 rfl ‹_› (fun p17 a18 => ?_))))))))
 refine ln (qq (tq 8 nsl rfl (ld rfl ‹_› (ln (qq (tq 10 nsl rfl (mv rfl (ln (qq (tq 11 nsl rfl (fd9 rfl ‹_› (fun p19 a20 => ?_))))))))))))
 refine ln (qq (tq 12 nsl rfl (ld rfl ‹_› (ln (qq (tq 13 nsl rfl (kl_lkB rfl rfl ?_)))))))
 refine ln (qq (tq 14 nsl rfl (mv rfl (ln (qq (tq 15 nsl rfl (fd9 rfl ‹_› (fun p21 a22 => ?_))))))))
 refine ln (qq (tq 16 nsl rfl (ld rfl ‹_› (ln (qq (tq 17 nsl rfl (kl_lkB rfl rfl ?_)))))))
 refine ln (qq (ta 4 rfl (cP rfl rfl (cmpInt_ok a.var b.var) ?_)))
 refine ln (qa nsl (ta 9 rfl (cP rfl rfl (cmpInt_ok a.val b.val) ?_)))
 refine ln (qa nsl (ta 18 rfl (cP rfl rfl (cmpInt_ok (if a.neg = true then 1 else 0) (if b.neg = true then 1 else 0)) ?_)))
 refine ln (qx rfl (ta 19 rfl (bs9 rfl rfl rfl (by decide) (ca rfl (ca rfl (ca rfl ca_nil))) (fun v23 H24 f25 r26 s27 => ?_))))
 have h28 : Ints H24 v23 [(cmpI a.var b.var), (cmpI a.val b.val), (cmpI (if a.neg = true then 1 else 0) (if b.neg = true then 1 else 0))] := litInts (xs := [(cmpI a.var b.var), (cmpI a.val b.val), (cmpI (if a.neg = true then 1 else 0) (if b.neg = true then 1 else 0))]) (by simpa using s27)
 refine ln (qx rfl (ta 20 rfl (cP rfl rfl (orInt_ok ([(cmpI a.var b.var), (cmpI a.val b.val), (cmpI (if a.neg = true then 1 else 0) (if b.neg = true then 1 else 0))]) ‹_›) ?_)))
 refine ln (qx rfl (tq 21 nsl rfl (sg rfl (ln (qq (kt_end (by kernel_rfl) ?_))))))
 refine qc (rt (kq_retP rfl rfl (congrArg (Value.int .i64) ?_)))
 rfl
theorem validClI_ok {Hc : Hp} {vc : Value} (c : List Lit) (n : Int) (hn : -9223372036854775807 ≤ n ∧ n ≤ 9223372036854775807) (hc : Lits Hc vc c) : SpecP Tryz.prog 123 [vc, .int .i64 n] [Hc] (.bool (clI n c)) := by
 refine spec_of Tryz.func123 rfl rfl rfl (fun B => ?_)
 refine cS (cr (sg rfl (ln (qc (cS (cS (cr (mv rfl (le9 rfl ‹_› (fun l1 => ?_))))))))))
 refine mv rfl (ln (qc (bl (kc_loop0 (A := Nat) (fun zz => (zz ≤ c.length) ∧ (clTo n c zz = true)) (fun zz => c.length - zz) (fun zz => [(9, .int .i64 (zz : Int))]) (0) (pk [0, 1, 7, 8] rfl) (pc 9 rfl pn) ⟨Nat.zero_le _, rfl⟩ ?_))))
 rintro k hJ4
 obtain ⟨hk2, hi3⟩ : (k ≤ c.length) ∧ (clTo n c k = true) := hJ4
 change KC _ _ (_) _ _ ([(9, .int .i64 (k : Int))] ++ _)
 refine cS (cr (ls9 rfl rfl ?_))
 refine ln (qc (cS (ci9 rfl (fun c5 => ?_) (fun c5 => ?_))))
 ·refine sk (qc (cS (bl (cS (cr (mv rfl (kl_inQ rfl rfl ‹_› (by omega) (fun p6 a7 => ?_))))))))
  refine kl_ldS rfl ‹_› rfl ?_
  refine kl_alloc (cs := [.int .i64 (0 : Int), .int .i64 (0 : Int), .bool false]) rfl (fun b8 hb9 => ?_)
  refine sg rfl (kl_stW (us := [.int .i64 ((c.getD k nilLit).var), .int .i64 ((c.getD k nilLit).val), .bool ((c.getD k nilLit).neg)]) rfl rfl rfl rfl (oc rfl (oc rfl (oc rfl oc_nil))) rfl ?_)
  refine ln (qc (cS (kc_draw 26 [true, true, true, true, false, true, true, true, true, false, true, true, true, true, true, true, true, true, true, true, true, true, false, true, true, true] (by kernel_rfl) (by kernel_rfl) ?_)))
  refine fV rfl (lB rfl rfl (mv rfl (sb9 rfl rfl (by omega) ?_)))
  refine cP rfl rfl (within_ok ((c.getD k nilLit).var) (0 : Int) (n - (1 : Int))) ?_
  refine nt9 rfl (mv rfl (jn 5 25 (.bool (!(withinB ((c.getD k nilLit).var) (0 : Int) (n - (1 : Int))) || !(withinB ((c.getD k nilLit).val) 0 5))) (pk [0, 1, 5, 6, 7, 8, 9, 10, 11, 12, 13, 14, 15, 16, 17, 18, 19, 20] rfl) (fun J11 => ?_) ?_))
  ·rcases Bool.eq_false_or_eq_true (!(withinB ((c.getD k nilLit).var) (0 : Int) (n - (1 : Int)))) with g10 | g10
   ·refine gF rfl rfl g10 (gF rfl rfl g10 (gF rfl rfl g10 (gF rfl rfl g10 (oT (!(withinB ((c.getD k nilLit).val) 0 5)) rfl rfl g10 ?_))))
    exact J11 _ (pk [25, 0, 1, 5, 6, 7, 8, 9, 10, 11, 12, 13, 14, 15, 16, 17, 18, 19, 20] rfl)
   ·have g10p := g10
    try simp only [smpD] at g10p
    refine gT rfl rfl g10 (fV rfl (gT rfl rfl g10 (lB rfl rfl (gT rfl rfl g10 (cP rfl rfl (valueOk_ok ((c.getD k nilLit).val)) ?_)))))
    refine gT rfl rfl g10 (nt9 rfl (oF rfl rfl g10 ?_))
    exact J11 _ (pk [25, 0, 1, 5, 6, 7, 8, 9, 10, 11, 12, 13, 14, 15, 16, 17, 18, 19, 20] rfl)
  refine mv rfl (jn 13 39 (.bool ((!(withinB ((c.getD k nilLit).var) (0 : Int) (n - (1 : Int))) || !(withinB ((c.getD k nilLit).val) 0 5)) || (decide ((0 : Int) < (k : Int)) && decide ((0 : Int) ≤ (litCmp (c.getD ((k : Int) - (1 : Int)).toNat nilLit) (c.getD k nilLit)))))) (pk [0, 1, 5, 6, 7, 8, 9, 10, 11, 12, 13, 14, 15, 16, 17, 18, 19, 20, 25, 26] rfl) (fun J17 => ?_) ?_)
  ·rcases Bool.eq_false_or_eq_true (!(withinB ((c.getD k nilLit).var) (0 : Int) (n - (1 : Int))) || !(withinB ((c.getD k nilLit).val) 0 5)) with g12 | g12
   ·refine gF rfl rfl g12 (gF rfl rfl g12 (gF rfl rfl g12 (kl_gU rfl rfl (kl_gU rfl rfl (kl_gU rfl rfl (kl_gU rfl rfl (kl_gU rfl rfl (kl_gU rfl rfl ?_))))))))
    refine kl_gU rfl rfl (kl_gU rfl rfl (gF rfl rfl g12 (oT (decide ((0 : Int) < (k : Int)) && decide ((0 : Int) ≤ (litCmp (c.getD ((k : Int) - (1 : Int)).toNat nilLit) (c.getD k nilLit)))) rfl rfl g12 ?_)))
    exact J17 _ (pk [39, 0, 1, 5, 6, 7, 8, 9, 10, 11, 12, 13, 14, 15, 16, 17, 18, 19, 20, 25, 26] rfl)
   ·have g12p := g12
    try simp only [smpD] at g12p
    refine gT rfl rfl g12 (mv rfl (gT rfl rfl g12 (kl_gtr rfl rfl ?_)))
    refine gT rfl rfl g12 (mv rfl (jn 9 38 (.bool (decide ((0 : Int) < (k : Int)) && decide ((0 : Int) ≤ (litCmp (c.getD ((k : Int) - (1 : Int)).toNat nilLit) (c.getD k nilLit))))) (pk [0, 1, 5, 6, 7, 8, 9, 10, 11, 12, 13, 14, 15, 16, 17, 18, 19, 20, 25, 26, 27, 28, 29] rfl) (fun J16 => ?_) ?_))
    ·rcases Bool.eq_false_or_eq_true (decide ((0 : Int) < (k : Int))) with g13 | g13
     ·have g13p := of_decide_eq_true g13
      refine gT rfl rfl g13 (mv rfl (gT rfl rfl g13 (mv rfl (gT rfl rfl g13 (sb9 rfl rfl (by omega) ?_)))))
      refine gT rfl rfl g13 (kl_ixQ rfl rfl ‹_› (by omega) (by omega) (fun p14 a15 => ?_))
      refine gT rfl rfl g13 (kl_ldS rfl ‹_› rfl ?_)
      refine gT rfl rfl g13 (kl_ldW rfl rfl (gT rfl rfl g13 (cP rfl rfl (litCmp_ok (c.getD ((k : Int) - (1 : Int)).toNat nilLit) (c.getD k nilLit)) ?_)))
      refine gT rfl rfl g13 (kl_geq rfl rfl ?_)
      refine gT rfl rfl g12 (aT rfl rfl g13 ?_)
      exact J16 _ (pk [38, 0, 1, 5, 6, 7, 8, 9, 10, 11, 12, 13, 14, 15, 16, 17, 18, 19, 20, 25, 26, 27, 28, 29] rfl)
     ·refine gF rfl rfl g13 (gF rfl rfl g13 (gF rfl rfl g13 (gF rfl rfl g13 (gF rfl rfl g13 (gF rfl rfl g13 (gF rfl rfl g13 (gF rfl rfl g13 (gT rfl rfl g12 ?_))))))))
      refine aF (decide ((0 : Int) ≤ (litCmp (c.getD ((k : Int) - (1 : Int)).toNat nilLit) (c.getD k nilLit)))) rfl rfl g13 ?_
      exact J16 _ (pk [38, 0, 1, 5, 6, 7, 8, 9, 10, 11, 12, 13, 14, 15, 16, 17, 18, 19, 20, 25, 26, 27, 28, 29] rfl)
    refine oF rfl rfl g12 ?_
    exact J17 _ (pk [39, 0, 1, 5, 6, 7, 8, 9, 10, 11, 12, 13, 14, 15, 16, 17, 18, 19, 20, 25, 26] rfl)
  refine ln (qc (cd9 rfl (fun c18 => ?_) (fun c18 => ?_)))
  ·have c18r := c18
   try simp only [smpE] at c18
   refine cS (cr (sg rfl (ln (qc (rt (kq_retP rfl rfl (congrArg Value.bool ?_)))))))
   exact cl_noI (k := k) (by omega) ‹_›
  ·have c18r := c18
   try simp only [smpE] at c18
   refine sk (qc (cr (ic9 rfl rfl (by omega) ?_)))
   refine mv rfl (ln (kq_round0 ((k + 1)) (by omega) (⟨by omega, cl_stepI hi3 ‹_›⟩) (pc 9 rfl pn) (pk [0, 1, 7, 8] rfl) (.cons _ slr9)))
 ·refine ex9 (qc (cS (cr (mv rfl (cP rfl rfl (within_ok n (1 : Int) (4 : Int)) ?_)))))
  refine mv rfl (jn 4 47 (.bool ((withinB n (1 : Int) (4 : Int)) && decide ((c.length : Int) ≤ (12 : Int)))) (pc 43 rfl pn) (fun J21 => ?_) ?_)
  ·rcases Bool.eq_false_or_eq_true (withinB n (1 : Int) (4 : Int)) with g19 | g19
   ·have g19p := g19
    try simp only [smpD] at g19p
    refine gT rfl rfl g19 (mv rfl (gT rfl rfl g19 (le9 rfl ‹_› (fun l20 => ?_))))
    refine gT rfl rfl g19 (kl_leq rfl rfl ?_)
    refine aT rfl rfl g19 ?_
    exact J21 _ (pk [47, 43] rfl)
   ·refine gF rfl rfl g19 (gF rfl rfl g19 (gF rfl rfl g19 (aF (decide ((c.length : Int) ≤ (12 : Int))) rfl rfl g19 ?_)))
    exact J21 _ (pk [47, 43] rfl)
  refine sg rfl (ln (qc (rt (kq_retP rfl rfl (congrArg Value.bool ?_)))))
  exact cl_yesI (k := k) (by omega) hi3
end
section
class Enc {A : Type} (enc : A → Value) : Prop where
  one : ∀ a, (enc a).oneCell' = true
  cells : ∀ a, (enc a).cells = [enc a].toArray
def encB (b : Bool) : Value := .bool b
def encI (n : Int) : Value := .int .i64 n
instance : Enc encB := ⟨fun _ => rfl, fun _ => rfl⟩
instance : Enc encI := ⟨fun _ => rfl, fun _ => rfl⟩
/-- u is a row that lies in the block b of K, from its head on. -/
def BlkR {A : Type} (E : Nat) (enc : A → Value) (K : Hp) (b : Nat) (xs : List A) (u : Value) : Prop :=
  ∃ c cur, u = .slice (some ⟨b, 0, none⟩) xs.length c ∧ xs.length ≤ c ∧ c ≤ maxLen ∧ c ≤ cur.size ∧ xs.length ≤ 140737488355328 ∧ cur.toList.take xs.length = xs.map enc ∧ K b = some (.cells cur E (0, 0))
/-- v, whose cells H holds, is a list of rows (their slices: us), each in a block of its own in K. -/
structure Mat {A : Type} (EH E : Nat) (enc : A → Value) (H K : Hp) (v : Value) (us : List Value) (xss : List (List A)) : Prop where
  hd : OwnS EH 1 H v xss.length us
  bs : ∃ bs : List Nat, bs.length = xss.length ∧ bs.Nodup ∧ ∀ i, i < xss.length → BlkR E enc K (bs.getD i 0) (xss.getD i []) (us.getD i undef)
  lq : Liq K
variable {A : Type} {enc : A → Value}
theorem Mat.ulen {EH E : Nat} {H K : Hp} {v : Value} {us : List Value} {xss : List (List A)} (h : Mat EH E enc H K v us xss) : us.length = xss.length := by have := h.hd.1; omega
theorem Mat.nil {EH E : Nat} {H : Hp} {v : Value} (h : OwnS EH 1 H v 0 []) : Mat EH E enc H noHp v [] [] := ⟨h, ⟨[], rfl, List.nodup_nil, fun i h => absurd h (Nat.not_lt_zero i)⟩, fun b o hb => by cases hb⟩
theorem BlkR.mono {E b : Nat} {K K' : Hp} {xs : List A} {u : Value} (h : BlkR E enc K b xs u) (hk : K' b = K b) : BlkR E enc K' b xs u := by
  obtain ⟨c, cur, h1, h2, h3, h4, h5, h6, h7⟩ := h
  exact ⟨c, cur, h1, h2, h3, h4, h5, h6, by rw [hk]; exact h7⟩
theorem enc_get {xs : List A} {cur : Array Value} {d : A} (h : cur.toList.take xs.length = xs.map enc) {j : Nat} (hj : j < xs.length) : cur[j]? = some (enc (xs.getD j d)) := by
  have h1 : (cur.toList.take xs.length)[j]? = some (enc (xs.getD j d)) := by rw [h]; simp [List.getD, hj]
  rw [List.getElem?_take, if_pos hj] at h1
  rw [← Array.getElem?_toList]; exact h1
section ops
variable {C : Cx} {dr : Bool} {ops : Array Oper} {Q : Post} {ims L : List Hp} {G : Env} {fl : List Bool} {rest : List Oper} {d ty : Nat} {pos : String} {af : Array Edge}
variable {EH E i j : Nat} {H K : Hp} {v p u : Value} {us : List Value} {xss : List (List A)} {x y : Operand} {T E' by' : Nat} {z : Value}
end ops
/-- A list of rows that a call gives: header and rows in one heaplet. -/
def MatR (EH E : Nat) (enc : A → Value) (Hq : Hp) (v : Value) (xss : List (List A)) : Prop := ∃ (H K : Hp) (us : List Value), Hq = orHp H K ∧ Apart H K ∧ Mat EH E enc H K v us xss
/-- What it reads as. -/
theorem Mat.rows {EH E : Nat} {H K M : Hp} {v : Value} {us : List Value} {xss : List (List Int)} (h : Mat EH E encI H K v us xss) (h1 : ∀ b o, H b = some o → M b = some o) (h2 : ∀ b o, K b = some o → M b = some o) : Rows M v xss := by
  obtain ⟨bs, hb1, hb2, h3⟩ := h.bs
  refine h.hd.sl (k := 1) (K := M) (R := SlC M 1 IntC) rfl h1 (fun i hi => ?_)
  obtain ⟨c, cur, e, q2, q3, q4, q5, q6, q7⟩ := h3 i hi
  have hu : i < us.length := by rw [h.ulen]; exact hi
  rw [Nat.mul_one, List.drop_eq_getElem_cons hu, List.take_succ_cons, List.take_zero]
  have e1 : us.getD i undef = us[i] := by simp [List.getD, hu]
  have e2 : xss.getD i [] = xss[i] := by simp [List.getD, hi]
  rw [e1, e2] at e
  rw [e2] at q2 q5 q6
  refine ⟨us[i], rfl, some ⟨bs.getD i 0, 0, none⟩, c, e, q2, q5, fun j hj => ⟨_, 0, rfl, [.int .i64 xss[i][j]], rfl, rfl, _, 0 + j * 1, cur, E, (0, 0), rfl, h2 _ _ q7, fun q w hq => ?_⟩⟩
  cases q with
  | zero =>
    simp only [List.getElem?_cons_zero, Option.some.injEq] at hq
    subst hq
    have := enc_get (enc := encI) (d := 0) q6 hj
    have e3 : (xss[i]).getD j 0 = xss[i][j] := by simp [List.getD, hj]
    rw [e3] at this
    simpa [encI] using this
  | succ q => simp at hq
end
section
theorem kq_own {P : Program} {n : Nat} {B : World} {ims L : List Hp} {G : Env} {p : Act → World → Prop} (H : Hp) [i : In H L] (l : Liq H) (h : Fr B H → KQ ⟨P, n, B, noS, false, [], none⟩ ims L G p) : KQ ⟨P, n, B, noS, false, [], none⟩ ims L G p := fun a w hf hs =>
  h ⟨fun b hb => ((hs.own H i.mem).2.1 b hb).elim id (fun h9 => h9.elim), l⟩ a w hf hs
theorem SpecP.ims {P : Program} {f : FuncId} {args : List Value} {ims ims' : List Hp} {v : Value} (h : SpecP P f args ims v) (hs : ∀ I ∈ ims, I ∈ ims') : SpecP P f args ims' v := fun w hA => h w (fun I hI => hA I (hs I hI))
theorem MatR.rows {EH E : Nat} {H : Hp} {v : Value} {xss : List (List Int)} (h : MatR EH E encI H v xss) : Rows H v xss := by
  obtain ⟨H1, K, us, rfl, ap, hm⟩ := h
  refine hm.rows orL (fun b o hb => ?_)
  have := (ap b).resolve_right (by rw [hb]; simp)
  simp [orHp, this, hb]
section ops
variable {C : Cx} {dr : Bool} {ops : Array Oper} {Q : Post} {ims L : List Hp} {G : Env} {fl : List Bool} {rest : List Oper} {d ty : Nat} {pos : String} {af : Array Edge}
end ops
end
section
theorem lenZ64_ok (x : Int) (hb : 0 ≤ x ∧ x < 64) : Spec Tryz.prog 208 [.int .u64 x] [] (fun Hq vq => ∃ z : Int, vq = .int .i64 z ∧ 0 ≤ z ∧ z ≤ 100) := by
 refine spec_of Tryz.func208 rfl rfl rfl (fun B => ?_)
 refine cS (cr (sg rfl (ln (qc (cS (cS (cr (mv rfl (kl_geqK rfl rfl ?_)))))))))
 refine ln (qc (ci9 rfl (fun c1 => ?_) (fun c1 => ?_)))
 ·exfalso; omega
 ·refine sk (qc (cS (cS (cr (mv rfl (kl_geqK rfl rfl ?_))))))
  refine ln (qc (ci9 rfl (fun c2 => ?_) (fun c2 => ?_)))
  ·exfalso; omega
  ·refine sk (qc (cS (cS (cr (mv rfl (kl_geqK rfl rfl ?_))))))
   refine ln (qc (ci9 rfl (fun c3 => ?_) (fun c3 => ?_)))
   ·exfalso; omega
   ·refine sk (qc (cS (cr (mv rfl (mv rfl (kl_cv rfl ?_))))))
    refine kl_ixLen0 (m := x) (by kernel_rfl) rfl hb (fun z4 h5 => ?_)
    refine kl_cvi rfl (by omega) ?_
    refine ad9 rfl rfl (by omega) ?_
    refine sg rfl (ln (qc (rt ?_)))
    exact kq_retP rfl rfl ⟨_, rfl, by omega⟩
theorem lenZ_ok (x : Int) (hb : 0 ≤ x ∧ x < 64) : Spec Tryz.prog 194 [.int .u64 x] [] (fun Hq vq => ∃ z : Int, vq = .int .i64 z ∧ 0 ≤ z ∧ z ≤ 100) := by
 refine spec_of Tryz.func194 rfl rfl rfl (fun B => ?_)
 refine cS (cr (sg rfl (ln (qc (cS (kc_condF ?_))))))
 refine sk (qc (cS (cr (mv rfl (kl_call rfl rfl (lenZ64_ok x hb) (fun v1 H2 f3 h4 => ?_))))))
 obtain ⟨z5, rfl, h6⟩ := h4
 refine sg rfl (ln (qc (rt ?_)))
 exact kq_retP rfl rfl ⟨_, rfl, by omega⟩
theorem insL_ok {Hs : Hp} {vs : Value} (xs : List Lit) (a b : Int) (ha : a = 0) (hb : b = (xs.length : Int)) (hn : xs.length ≤ 12) (os : OwnL 100 3 Hs noHp LitV vs xs) : SpecT Tryz.prog 199 [vs, .int .i64 a, .int .i64 b, .func (.func 163) #[] #[]] [Hs] [] (fun vq L1 Ln _ => ∃ (Hq : Hp) (ys : List Lit), L1 = [Hq] ∧ Ln = [] ∧ OwnL 100 3 Hq noHp LitV vs ys ∧ SrtA litCmp nilLit xs ys xs.length) := by
 subst ha
 subst hb
 have hlen := os.len
 refine specT_of Tryz.func199 rfl rfl rfl (fun B => ?_)
 refine cS (cr (mv rfl (ad9 rfl rfl (by omega) ?_)))
 refine sg rfl (ln (qc (bl (kc_loopL (A := Nat × List Lit × Hp) (fun zz => (1 ≤ zz.1) ∧ (SrtA litCmp nilLit xs zz.2.1 zz.1) ∧ OwnL 100 3 zz.2.2 noHp LitV vs zz.2.1) (fun zz => xs.length - zz.1) (fun zz => [zz.2.2]) (fun zz => [(8, .int .i64 (zz.1 : Int))]) (1, xs, Hs) (pk [0, 1, 2, 3] rfl) (pc 8 rfl pn) rfl ⟨(Nat.le_refl 1), (SrtA.zero _), os⟩ ?_))))
 rintro ⟨i, ys, H3⟩ hJ6
 obtain ⟨hk1, hi2, o4⟩ : (1 ≤ i) ∧ (SrtA litCmp nilLit xs ys i) ∧ OwnL 100 3 H3 noHp LitV vs ys := hJ6
 change KC _ _ (_) [H3] _ ([(8, .int .i64 (i : Int))] ++ _)
 have hyl := hi2.perm.length_eq
 refine cS (cS (cr (mv rfl (mv rfl (ls9 rfl rfl ?_)))))
 refine ln (qc (ci9 rfl (fun c7 => ?_) (fun c7 => ?_)))
 ·refine sk (qc (cS (bl (cS (cr (mv rfl (sg rfl (ln (qc (bl ?_))))))))))
  refine kc_loopL (A := Nat × Int × List Lit × Hp) (fun zz => (zz.1 ≤ i) ∧ (zz.2.1 = (zz.1 : Int) ∧ InsA litCmp nilLit xs zz.2.2.1 i zz.1) ∧ OwnL 100 3 zz.2.2.2 noHp LitV vs zz.2.2.1) (fun zz => zz.1) (fun zz => [zz.2.2.2]) (fun zz => [(9, .int .i64 zz.2.1)]) (i, (i : Int), ys, H3) (pk [0, 1, 2, 3, 8, 12, 13, 14, 17] rfl) (pc 9 rfl pn) rfl ⟨(Nat.le_refl _), ⟨rfl, SrtA.go hi2⟩, o4⟩ ?_
  rintro ⟨j, z, ws, H10⟩ hJ13
  obtain ⟨hk8, hi9, o11⟩ : (j ≤ i) ∧ (z = (j : Int) ∧ InsA litCmp nilLit xs ws i j) ∧ OwnL 100 3 H10 noHp LitV vs ws := hJ13
  change KC _ _ (_) [H10] _ ([(9, .int .i64 z)] ++ _)
  have hz := hi9.1
  have hwl := hi9.2.perm.length_eq
  refine cS (cS (kc_draw 17 [true, true, true, true, true, true, true, true, true, true, true, true, true, true, false, true, true] (by kernel_rfl) (by kernel_rfl) ?_))
  refine mv rfl (mv rfl (kl_gtr rfl rfl ?_))
  refine mv rfl (jn 13 34 (.bool (decide ((0 : Int) < z) && decide ((litCmp (ws.getD z.toNat nilLit) (ws.getD ((z - (1 : Int)).toNat) nilLit)) < (0 : Int)))) (pk [0, 1, 2, 3, 8, 9, 12, 13, 14, 17, 18, 19, 20, 21] rfl) (fun J19 => ?_) ?_)
  ·rcases Bool.eq_false_or_eq_true (decide ((0 : Int) < z)) with g14 | g14
   ·have g14p := of_decide_eq_true g14
    refine gT rfl rfl g14 (mv rfl (gT rfl rfl g14 (mv rfl (gT rfl rfl g14 (mv rfl (gT rfl rfl g14 (kl_ixL rfl rfl ‹_› (by first | omega | (simp only [List.length_set]; omega)) (by first | omega | (simp only [List.length_set]; omega)) (fun p15 q16 => ?_))))))))
    refine gT rfl rfl g14 (kl_ldSL rfl (OwnL.atQ o11 ‹_› (by first | omega | (simp only [List.length_set]; omega) : z.toNat < ws.length)) rfl ?_)
    refine gT rfl rfl g14 (mv rfl (gT rfl rfl g14 (mv rfl (gT rfl rfl g14 (sb9 rfl rfl (by omega) ?_)))))
    refine gT rfl rfl g14 (kl_ixL rfl rfl ‹_› (by first | omega | (simp only [List.length_set]; omega)) (by first | omega | (simp only [List.length_set]; omega)) (fun p17 q18 => ?_))
    refine gT rfl rfl g14 (kl_ldSL rfl (OwnL.atQ o11 ‹_› (by first | omega | (simp only [List.length_set]; omega) : (z - (1 : Int)).toNat < ws.length)) rfl ?_)
    refine gT rfl rfl g14 (cP rfl rfl (litCmp_ok (ws.getD z.toNat nilLit) (ws.getD ((z - (1 : Int)).toNat) nilLit)) ?_)
    refine gT rfl rfl g14 (ls9 rfl rfl ?_)
    refine aT rfl rfl g14 ?_
    exact J19 _ (pk [34, 0, 1, 2, 3, 8, 9, 12, 13, 14, 17, 18, 19, 20, 21] rfl)
   ·refine gF rfl rfl g14 (gF rfl rfl g14 (gF rfl rfl g14 (gF rfl rfl g14 (gF rfl rfl g14 (gF rfl rfl g14 (gF rfl rfl g14 (gF rfl rfl g14 (gF rfl rfl g14 ?_))))))))
    refine gF rfl rfl g14 (gF rfl rfl g14 (gF rfl rfl g14 (aF (decide ((litCmp (ws.getD z.toNat nilLit) (ws.getD ((z - (1 : Int)).toNat) nilLit)) < (0 : Int))) rfl rfl g14 ?_)))
    exact J19 _ (pk [34, 0, 1, 2, 3, 8, 9, 12, 13, 14, 17, 18, 19, 20, 21] rfl)
  refine ln (qc (cd9 rfl (fun c20 => ?_) (fun c20 => ?_)))
  ·have c20r := c20
   try simp only [smpE] at c20
   refine sk (qc (cS (bl (kc_tree (fun i => ([2, 3, 4, 15, 16, 17] : List Nat).contains i) [H10] (by kernel_rfl) ?_))))
   refine kt_p 2 rfl rfl (by kernel_rfl) (py_mv rfl) ?_
   refine kt_p 3 rfl rfl (by kernel_rfl) (py_mv rfl) ?_
   refine kt_p 4 rfl rfl (by kernel_rfl) (py_sub rfl rfl (by omega)) ?_
   refine tq 0 (.cons_cons _ nsl) rfl (mv rfl (ln (qq (tq 1 (.cons_cons _ nsl) rfl (mv rfl (ln (qq (tq 5 (.cons_cons _ nsl) rfl (mv rfl (ln (qq ?_)))))))))))
   refine tq 6 (.cons_cons _ nsl) rfl (mv rfl (ln (qq (tq 7 (.cons_cons _ nsl) rfl (sb9 rfl rfl (by omega) ?_)))))
   refine ln (qq (tq 8 (.cons_cons _ nsl) rfl (kl_ixL rfl rfl ‹_› (by first | omega | (simp only [List.length_set]; omega)) (by first | omega | (simp only [List.length_set]; omega)) (fun p21 q22 => ?_))))
   refine ln (qq (tq 9 (.cons_cons _ nsl) rfl (kl_ldS rfl (OwnL.atQ o11 ‹_› (by first | omega | (simp only [List.length_set]; omega) : (z - (1 : Int)).toNat < ws.length)) rfl ?_)))
   refine ln (qq (tq 10 (.cons_cons _ nsl) rfl (mv rfl (ln (qq (tq 11 (.cons_cons _ nsl) rfl (mv rfl (ln (qq (tq 12 (.cons_cons _ nsl) rfl (kl_ixL rfl rfl ‹_› (by first | omega | (simp only [List.length_set]; omega)) (by first | omega | (simp only [List.length_set]; omega)) (fun p23 q24 => ?_))))))))))))
   refine ln (qq (tq 13 (.cons_cons _ nsl) rfl (kl_ldS rfl (OwnL.atQ o11 ‹_› (by first | omega | (simp only [List.length_set]; omega) : z.toNat < ws.length)) rfl ?_)))
   refine ln (qq (tq 14 (.cons_cons _ nsl) rfl (kl_ixL rfl rfl ‹_› (by first | omega | (simp only [List.length_set]; omega)) (by first | omega | (simp only [List.length_set]; omega)) (fun p25 q26 => ?_))))
   refine ln (qq (ta 15 rfl (kl_stLk (us := [.int .i64 ((ws.getD ((z - (1 : Int)).toNat) nilLit).var), .int .i64 ((ws.getD ((z - (1 : Int)).toNat) nilLit).val), .bool ((ws.getD ((z - (1 : Int)).toNat) nilLit).neg)]) (ws.getD ((z - (1 : Int)).toNat) nilLit) rfl rfl ‹_› o11 (by first | omega | (simp only [List.length_set]; omega)) rfl rfl (oc rfl (oc rfl (oc rfl oc_nil))) rfl (fun H27 o28 f29 => ?_))))
   refine cg [H27] rfl ?_
   refine ln (qx rfl (ta 16 rfl (kl_ixL rfl rfl ‹_› (by first | omega | (simp only [List.length_set]; omega)) (by first | omega | (simp only [List.length_set]; omega)) (fun p31 q32 => ?_))))
   refine ln (qx rfl (ta 17 rfl (kl_stLk (us := [.int .i64 ((ws.getD z.toNat nilLit).var), .int .i64 ((ws.getD z.toNat nilLit).val), .bool ((ws.getD z.toNat nilLit).neg)]) (ws.getD z.toNat nilLit) rfl rfl ‹_› o28 (by first | omega | (simp only [List.length_set]; omega)) rfl rfl (oc rfl (oc rfl (oc rfl oc_nil))) rfl (fun H33 o34 f35 => ?_))))
   refine cg [H33] rfl ?_
   refine ln (qx rfl (kt_end (by kernel_rfl) ?_))
   refine qc (cr (mv rfl (sb9 rfl rfl (by omega) ?_)))
   refine sg rfl (ln (tk [H33] ?_))
   refine rL ((j - 1), (z - (1 : Int)), ((ws.set z.toNat (ws.getD ((z - (1 : Int)).toNat) nilLit)).set ((z - (1 : Int)).toNat) (ws.getD z.toNat nilLit)), H33) (by omega) (⟨(by omega), (so_step litC_tot hi9 (by omega) ‹_›), o34⟩) (pc 9 rfl pn) (pk [0, 1, 2, 3, 8, 12, 13, 14, 17] rfl) rfl slr9
  ·have c20r := c20
   try simp only [smpE] at c20
   refine ex9 (qc (cr (mv rfl (ic9 rfl rfl (by omega) ?_))))
   refine sg rfl (ln (tk [H10] ?_))
   refine rL ((i + 1), ws, H10) (by omega) (⟨by omega, (so_exit litC_tot hi9 ‹_›), o11⟩) (pc 8 rfl pn) (pk [0, 1, 2, 3] rfl) rfl slr9
 ·refine ex9 ?_
  exact kq_retT0 rfl [H3] [] noHp frn (fr_no _) ⟨H3, _, rfl, rfl, o4, (SrtA.le hi2 (by omega))⟩
theorem pdqL_ok {Hs : Hp} {vs : Value} (xs : List Lit) (l : Int) (hn : xs.length ≤ 12) (os : OwnL 100 3 Hs noHp LitV vs xs) : SpecT Tryz.prog 193 [vs, .int .i64 0, .int .i64 (xs.length : Int), .int .i64 l, .func (.func 163) #[] #[]] [Hs] [] (fun vq L1 Ln _ => ∃ (Hq : Hp) (ys : List Lit), L1 = [Hq] ∧ Ln = [] ∧ OwnL 100 3 Hq noHp LitV vs ys ∧ SrtA litCmp nilLit xs ys xs.length) := by
 have hlen := os.len
 refine specT_of Tryz.func193 rfl rfl rfl (fun B => ?_)
 refine cS (cr (sg rfl (ln (qc (cS (cr (sg rfl (ln (qc (bl (kc_loop0 (A := Int × Int × Int × Bool × Bool) (fun zz => (zz.1 = 0 ∧ zz.2.1 = (xs.length : Int))) (fun zz => 0) (fun zz => [(1, .int .i64 zz.1), (2, .int .i64 zz.2.1), (3, .int .i64 zz.2.2.1), (10, .bool zz.2.2.2.1), (11, .bool zz.2.2.2.2)]) ((0 : Int), (xs.length : Int), l, true, true) (pk [0, 4] rfl) (pk [1, 2, 3, 10, 11] rfl) (⟨rfl, rfl⟩) ?_)))))))))))
 rintro ⟨za, zb, zl, p, q⟩ hJ3
 have hi2 : (za = 0 ∧ zb = (xs.length : Int)) := hJ3
 change KC _ _ (_) _ _ ([(1, .int .i64 za), (2, .int .i64 zb), (3, .int .i64 zl), (10, .bool p), (11, .bool q)] ++ _)
 refine bl (cS (cr (mv rfl (mv rfl (sb9 rfl rfl (by omega) ?_)))))
 refine sg rfl (ln (qc (cS (cS (cr (mv rfl (kl_leq rfl rfl ?_)))))))
 refine ln (qc (ci9 rfl (fun c4 => ?_) (fun c4 => ?_)))
 ·refine cS (cr (mv rfl (mv rfl (mv rfl (mv rfl (cT rfl rfl (insL_ok xs za zb (by omega) (by omega)  (by omega) os) (fun v5 L1 Ln K6 h7 g8 g9 => ?_)))))))
  obtain ⟨H10, y11, rfl, rfl, o12, h13⟩ := h7
  refine nm ?_
  refine ln (qc (rt ?_))
  exact kq_retT0 rfl [H10] [] noHp frn (fr_no _) ⟨H10, _, rfl, rfl, o12, h13⟩
 ·exfalso; omega
theorem srtL_ok {Hs : Hp} {vs : Value} (xs : List Lit) (hn : xs.length ≤ 12) (os : OwnL 100 3 Hs noHp LitV vs xs) : SpecT Tryz.prog 180 [vs, .func (.func 163) #[] #[]] [Hs] [] (fun vq L1 Ln _ => ∃ (Hq : Hp) (ys : List Lit), L1 = [Hq] ∧ Ln = [] ∧ OwnL 100 3 Hq noHp LitV vs ys ∧ SrtA litCmp nilLit xs ys xs.length) := by
 have hlen := os.len
 refine specT_of Tryz.func180 rfl rfl rfl (fun B => ?_)
 refine cS (cr (mv rfl (lL rfl os (fun l1 => ?_))))
 refine sg rfl (ln (qc (cr (mv rfl (mv rfl (mv rfl (kl_cvu rfl (by omega) ?_)))))))
 refine kl_call rfl rfl (lenZ_ok (xs.length : Int) (by omega)) (fun v2 H3 f4 h5 => ?_)
 obtain ⟨z6, rfl, h7⟩ := h5
 refine mv rfl (cT rfl rfl (pdqL_ok xs z6  (by omega) os) (fun v8 L1 Ln K9 h10 g11 g12 => ?_))
 obtain ⟨H13, y14, rfl, rfl, o15, h16⟩ := h10
 refine nm ?_
 refine ln ?_
 exact kq_retT0 rfl [H13] [] noHp frn (fr_no _) ⟨H13, _, rfl, rfl, o15, h16⟩
theorem compactL_ok {Hxs : Hp} {vxs : Value} (xs : List Lit) (hd : ∀ k : Nat, 0 < k → k < xs.length → xs.getD k nilLit ≠ xs.getD ((k : Int) - 1).toNat nilLit) (hxs : Lits Hxs vxs xs) : Spec Tryz.prog 182 [vxs] [Hxs] ((fun Hq vq => vq = vxs)) := by
 refine spec_of Tryz.func182 rfl rfl rfl (fun B => ?_)
 refine cS (cr (sg rfl (ln (qc (cS (cS (cr (mv rfl (le9 rfl ‹_› (fun l1 => ?_))))))))))
 refine ls9 rfl rfl ?_
 refine ln (qc (ci9 rfl (fun c2 => ?_) (fun c2 => ?_)))
 ·refine cS (cr (mv rfl (sg rfl (ln (qc (rt ?_))))))
  exact kq_ret rfl rfl noHp (fr_no _) rfl
 ·refine sk (qc (cS (cS (cr (sg rfl (ln (qc (bl (kc_loop0 (A := Nat) (fun zz => (1 ≤ zz) ∧ (True)) (fun zz => xs.length - zz) (fun zz => [(3, .int .i64 (zz : Int))]) (1) (pc 0 rfl pn) (pc 3 rfl pn) ⟨(Nat.le_refl 1), trivial⟩ ?_)))))))))
  rintro k hJ5
  obtain ⟨hk3, hi4⟩ : (1 ≤ k) ∧ (True) := hJ5
  change KC _ _ (_) _ _ ([(3, .int .i64 (k : Int))] ++ _)
  refine cS (cS (cr (mv rfl (mv rfl (le9 rfl ‹_› (fun l6 => ?_))))))
  refine ls9 rfl rfl ?_
  refine ln (qc (ci9 rfl (fun c7 => ?_) (fun c7 => ?_)))
  ·refine sk (qc (cS (bl (cS (kc_draw 10 [true, true, true, true, true, true, true, true, true, true] (by kernel_rfl) (by kernel_rfl) ?_)))))
   refine mv rfl (mv rfl (kl_inQ rfl rfl ‹_› (by omega) (fun p8 a9 => ?_)))
   refine kl_ldS rfl ‹_› rfl ?_
   refine mv rfl (mv rfl (sb9 rfl rfl (by omega) ?_))
   refine kl_ixQ rfl rfl ‹_› (by omega) (by omega) (fun p10 a11 => ?_)
   refine kl_ldS rfl ‹_› rfl ?_
   refine kl_eqlQ rfl rfl ?_
   refine ln (qc (cd9 rfl (fun c12 => ?_) (fun c12 => ?_)))
   ·have c12r := c12
    try simp only [smpE] at c12
    exact absurd c12 (hd k (by omega) (by omega))
   ·have c12r := c12
    try simp only [smpE] at c12
    refine sk (qc (cr (mv rfl (ic9 rfl rfl (by omega) ?_))))
    refine sg rfl (ln (kq_round0 ((k + 1)) (by omega) (⟨by omega, trivial⟩) (pc 3 rfl pn) (pc 0 rfl pn) slr9))
  ·refine ex9 (qc (cS (cr (mv rfl (sg rfl (ln (qc (rt ?_))))))))
   exact kq_ret rfl rfl noHp (fr_no _) rfl
theorem cloneL_ok {Hxs : Hp} {vxs : Value} (xs : List Lit) (hb : xs.length ≤ 1000) (hxs : Lits Hxs vxs xs) : Spec Tryz.prog 113 [vxs] [Hxs] (fun Hq vq => OwnL 100 3 Hq noHp LitV vq xs) := by
 refine spec_of Tryz.func113 rfl rfl rfl (fun B => ?_)
 refine cS (cr (sg rfl (ln (qc (cS (cS (cr (mv rfl (kl_eqlnilX rfl rfl ‹_› (fun bn nn nx => ?_))))))))))
 refine ln (qc (cd9 rfl (fun c3 => ?_) (fun c3 => ?_)))
 ·have c3r := c3
  try simp only [smpE] at c3
  refine cS (cr (sg rfl (ln (qc (rt ?_)))))
  exact kq_ret rfl rfl noHp (fr_no _) (by rw [nn ‹_›]; exact OwnL.nil)
 ·have c3r := c3
  try simp only [smpE] at c3
  refine sk (qc (cS (cr (kl_bs0k (K := noHp) LitV rfl (fun v4 H5 f6 o7 => ?_)))))
  refine mv rfl (kl_apS rfl rfl o7 ‹_› (fun _ _ h => h) (by simp; omega) (by decide) (fun v8 H9 o10 f11 => ?_))
  have f12 := f11 B f6 (Nat.le_refl _)
  refine sg rfl (ln (qc (rt ?_)))
  exact kq_ret rfl rfl H9 f12 o10
theorem clipL_ok {Hxs : Hp} {vxs : Value} (xs : List Lit) (hxs : Lits Hxs vxs xs) : Spec Tryz.prog 181 [vxs] [Hxs] (fun _ vq => Lits Hxs vq xs ∧ ClipV vxs vq xs.length) := by
 refine spec_of Tryz.func181 rfl rfl rfl (fun B => ?_)
 refine cS (cr (sg rfl (ln (qc (cS (cr (mv rfl (mv rfl (le9 rfl ‹_› (fun l1 => ?_))))))))))
 refine mv rfl (le9 rfl ‹_› (fun l2 => ?_))
 refine kl_clipV rfl rfl rfl ‹_› (by omega) (fun u3 h4 h4v => ?_)
 refine sg rfl (ln (qc (rt ?_)))
 exact kq_ret rfl rfl noHp (fr_no _) ⟨by assumption, by assumption⟩
theorem sortedL_ok {Hc : Hp} {vc : Value} (c : List Lit) (hnd : c.Nodup) (hn : c.length ≤ 12) (hc : Lits Hc vc c) : Spec Tryz.prog 156 [vc] [Hc] ((fun Hq vq => ∃ ys : List Lit, Lits Hq vq ys ∧ ys.Perm c ∧ SrtL litCmp nilLit ys)) := by
 refine spec_of Tryz.func156 rfl rfl rfl (fun B => ?_)
 refine cS (cr (sg rfl (ln (qc (cS (cr (mv rfl (kl_callL rfl rfl (cloneL_ok c (by omega) ‹_›) (fun v1 H2 f3 o4 => ?_)))))))))
 refine sg rfl (ln (qc (cS (cr (mv rfl (cT rfl rfl (srtL_ok c  (by omega) o4) (fun v5 L1 Ln K6 h7 g8 g9 => ?_)))))))
 obtain ⟨H10, y11, rfl, rfl, o12, h13⟩ := h7
 refine nm ?_
 have hcp := srt_cpt hnd h13
 refine ln (qc (cS (cr (mv rfl (kl_call rfl rfl (compactL_ok y11 hcp.1 (OwnL.lits o12)) (fun v14 H15 f16 h17 => ?_))))))
 subst h17
 refine kl_call rfl rfl (clipL_ok y11 (OwnL.lits o12)) (fun v18 H19 f20 h21 => ?_)
 obtain ⟨h21, h22⟩ := h21
 refine sg rfl (ln (qc (rt (kq_own H10 (OwnL.liq (OwnL.clip o12 h22)) (fun f23 => ?_)))))
 exact kq_ret rfl rfl H10 f23 ⟨_, OwnL.lits (OwnL.clip o12 h22), hcp.2.2.1, hcp.2.2.2⟩
theorem negatedL_ok (l : Lit) : Spec Tryz.prog 155 [.agg #[.int .i64 l.var, .int .i64 l.val, .bool l.neg]] [] ((fun Hq vq => vq = .agg #[.int .i64 l.var, .int .i64 l.val, .bool (!l.neg)])) := by
 refine spec_of Tryz.func155 rfl rfl rfl (fun B => ?_)
 refine cS (cr (kl_boxL (cs := [.int .i64 l.var, .int .i64 l.val, .bool l.neg]) rfl rfl (fun b1 hb2 => ?_)))
 refine kl_alloc (cs := [.int .i64 (0 : Int), .int .i64 (0 : Int), .bool false]) rfl (fun b3 hb4 => ?_)
 refine ln (qc (cS (cr (fV rfl (lB rfl rfl (nt9 rfl (fV rfl (sB rfl rfl rfl rfl rfl ?_))))))))
 refine cg [sing b3 (.cells [.int .i64 (0 : Int), .int .i64 (0 : Int), .bool false].toArray 100 (0, 0)), sing b1 (.cells [.int .i64 l.var, .int .i64 l.val, .bool (!l.neg)].toArray 100 (0, 0))] rfl ?_
 refine ln (qc (cS (cr (kl_ldW rfl rfl (kl_stW (us := [.int .i64 l.var, .int .i64 l.val, .bool (!l.neg)]) rfl rfl rfl rfl (oc rfl (oc rfl (oc rfl oc_nil))) rfl ?_)))))
 refine cg [sing b3 (.cells [.int .i64 l.var, .int .i64 l.val, .bool (!l.neg)].toArray 100 (0, 0)), sing b1 (.cells [.int .i64 l.var, .int .i64 l.val, .bool (!l.neg)].toArray 100 (0, 0))] rfl ?_
 refine ln (qc (rt ?_))
 exact kq_retC rfl rfl rfl noHp (fr_no _) rfl
theorem negsL_ok {Hc : Hp} {vc : Value} (c : List Lit) (hnd : c.Nodup) (hn : c.length ≤ 12) (hc : Lits Hc vc c) : Spec Tryz.prog 114 [vc] [Hc] ((fun Hq vq => ∃ ys : List Lit, Lits Hq vq ys ∧ NegR c ys)) := by
 refine spec_of Tryz.func114 rfl rfl rfl (fun B => ?_)
 refine cS (cr (sg rfl (ln (qc (cS (cr (mv rfl (le9 rfl ‹_› (fun l1 => ?_)))))))))
 refine kl_mkL0 (R := LitV) rfl rfl (by omega) (by omega) (by decide) (fun v2 H3 f4 o5 => ?_)
 refine sg rfl (ln (qc (cS (cS (cr (mv rfl (le9 rfl ‹_› (fun l6 => ?_))))))))
 refine mv rfl (ln (qc (bl (kc_loopL (A := Nat × List Lit × Value × Hp) (fun zz => (zz.1 ≤ c.length) ∧ (zz.2.1 = negTo c zz.1) ∧ OwnL 100 3 zz.2.2.2 noHp LitV zz.2.2.1 zz.2.1 ∧ Fr B zz.2.2.2) (fun zz => c.length - zz.1) (fun zz => [zz.2.2.2]) (fun zz => [(11, .int .i64 (zz.1 : Int)), (3, zz.2.2.1)]) (0, ([]), v2, H3) (pk [2, 9, 10] rfl) (pk [11, 3] rfl) rfl ⟨Nat.zero_le _, rfl, o5, f4⟩ ?_))))
 rintro ⟨k, out, v12, H9⟩ hJ13
 obtain ⟨hk7, hi8, o10, f11⟩ : (k ≤ c.length) ∧ (out = negTo c k) ∧ OwnL 100 3 H9 noHp LitV v12 out ∧ Fr B H9 := hJ13
 change KC _ _ (_) [H9] _ ([(11, .int .i64 (k : Int)), (3, v12)] ++ _)
 refine cS (cr (ls9 rfl rfl ?_))
 refine ln (qc (cS (ci9 rfl (fun c14 => ?_) (fun c14 => ?_))))
 ·refine sk (qc (cS (bl (cS (cr (kl_inQ rfl rfl ‹_› (by omega) (fun p15 a16 => ?_)))))))
  refine kl_ldS rfl ‹_› rfl ?_
  refine kl_alloc (cs := [.int .i64 (0 : Int), .int .i64 (0 : Int), .bool false]) rfl (fun b17 hb18 => ?_)
  refine kl_stW (us := [.int .i64 ((c.getD k nilLit).var), .int .i64 ((c.getD k nilLit).val), .bool ((c.getD k nilLit).neg)]) rfl rfl rfl rfl (oc rfl (oc rfl (oc rfl oc_nil))) rfl ?_
  refine cg [sing b17 (.cells [.int .i64 ((c.getD k nilLit).var), .int .i64 ((c.getD k nilLit).val), .bool ((c.getD k nilLit).neg)].toArray 100 (0, 0)), H9] rfl ?_
  refine ln (qc (cr (mv rfl (kl_ldW rfl rfl (kl_call rfl rfl (negatedL_ok (c.getD k nilLit)) (fun v19 H20 f21 h22 => ?_))))))
  subst h22
  refine kl_bsQ rfl (fun v23 H24 f25 r26 h27 => ?_)
  refine aL9 (⟨(c.getD k nilLit).var, (c.getD k nilLit).val, !(c.getD k nilLit).neg⟩ : Lit) rfl rfl o10 r26 rfl (oc rfl (oc rfl (oc rfl oc_nil))) (by (have h9 := congrArg List.length hi8; simp [negTo] at h9; omega)) (by decide) (fun v28 H29 o30 f31 => ?_)
  have f32 := f31 B f11 (Nat.le_refl _)
  refine sg rfl (ln (qc (cr (ic9 rfl rfl (by omega) ?_))))
  refine mv rfl (ln (tk [H29] ?_))
  refine rL ((k + 1), (out ++ [(⟨(c.getD k nilLit).var, (c.getD k nilLit).val, !(c.getD k nilLit).neg⟩ : Lit)]), v28, H29) (by omega) (⟨by omega, (negTo_step hi8 (by omega)), o30, f32⟩) (pk [11, 3] rfl) (pk [2, 9, 10] rfl) rfl slr9
 ·have hnp := neg_pre hnd hi8 (by omega) hn
  refine ex9 (qc (cS (cr (mv rfl (kl_call rfl rfl (sortedL_ok out hnp.1 hnp.2.1 (OwnL.lits o10)) (fun v33 H34 f35 h36 => ?_))))))
  obtain ⟨y37, h38, h39, h40⟩ := h36
  have hsrt := And.intro h39 h40
  refine sg rfl (ln (qc (rt ?_)))
  exact kq_ret rfl rfl H34 f35 ⟨_, ‹_›, ⟨by rw [← hnp.2.2]; exact hsrt.1, hsrt.2⟩⟩
end
section
section ops
variable {C : Cx} {dr : Bool} {ops : Array Oper} {Q : Post} {ims L : List Hp} {G : Env} {fl : List Bool} {rest : List Oper} {d ty : Nat} {pos : String} {af : Array Edge}
end ops
end
section
theorem objectiveOk_ok {Hmd : Hp} {vmd : Value} {Hmc : Hp} {vmc : Value} {Hobj : Hp} {vobj : Value} (m : Mod) (obj : List Int) (hmd : Ints Hmd vmd m.doms) (hmc : Cons Hmc vmc m.cons) (hobj : Ints Hobj vobj obj) : SpecP Tryz.prog 43 [.agg #[vmd, vmc], vobj] [Hmd, Hmc, Hobj] (.bool (objOkB m obj)) := by
 refine spec_of Tryz.func43 rfl rfl rfl (fun B => ?_)
 refine cS (cr (kl_box rfl rfl (fun p1 H2 f3 a4 => ?_)))
 refine sg rfl (ln (qc (cS (cr (kl_ldS rfl ‹_› rfl ?_)))))
 refine cP rfl rfl (validMod_ok m ‹_› ‹_›) ?_
 refine mv rfl (jn 7 14 (.bool ((validModB m) && decide ((obj.length : Int) = (m.doms.length : Int)))) (pk [1, 4, 7] rfl) (fun J10 => ?_) ?_)
 ·rcases Bool.eq_false_or_eq_true (validModB m) with g5 | g5
  ·have g5p := g5
   try simp only [smpD] at g5p
   refine gT rfl rfl g5 (mv rfl (gT rfl rfl g5 (le9 rfl ‹_› (fun l6 => ?_))))
   refine gT rfl rfl g5 (fd9 rfl ‹_› (fun p7 a8 => ?_))
   refine gT rfl rfl g5 (ld rfl ‹_› (gT rfl rfl g5 (le9 rfl ‹_› (fun l9 => ?_))))
   refine gT rfl rfl g5 (eq9 rfl rfl ?_)
   refine aT rfl rfl g5 ?_
   exact J10 _ (pk [14, 1, 4, 7] rfl)
  ·refine gF rfl rfl g5 (gF rfl rfl g5 (gF rfl rfl g5 (gF rfl rfl g5 (gF rfl rfl g5 (gF rfl rfl g5 (aF (decide ((obj.length : Int) = (m.doms.length : Int))) rfl rfl g5 ?_))))))
   exact J10 _ (pk [14, 1, 4, 7] rfl)
 refine mv rfl (jn 3 18 (.bool (((validModB m) && decide ((obj.length : Int) = (m.doms.length : Int))) && (allInB obj (-9 : Int) (9 : Int)))) (pk [4, 15] rfl) (fun J12 => ?_) ?_)
 ·rcases Bool.eq_false_or_eq_true ((validModB m) && decide ((obj.length : Int) = (m.doms.length : Int))) with g11 | g11
  ·have g11p := g11
   try simp only [smpD] at g11p
   refine gT rfl rfl g11 (mv rfl (gT rfl rfl g11 (cP rfl rfl (allIn_ok obj (-9 : Int) (9 : Int) ‹_›) ?_)))
   refine aT rfl rfl g11 ?_
   exact J12 _ (pk [18, 4, 15] rfl)
  ·refine gF rfl rfl g11 (gF rfl rfl g11 (aF (allInB obj (-9 : Int) (9 : Int)) rfl rfl g11 ?_))
   exact J12 _ (pk [18, 4, 15] rfl)
 refine sg rfl (ln (qc (rt (kq_retP rfl rfl (congrArg Value.bool ?_)))))
 rfl
end
section
theorem limited_ok {Hds : Hp} {vds : Value} (ds : List Int) (i : Int) (d : Int) (hb : ds.length ≤ 1000) (hi : 0 ≤ i ∧ i < (ds.length : Int)) (hds : Ints Hds vds ds) : Spec Tryz.prog 112 [vds, .int .i64 i, .int .i64 d] [Hds] (fun Hq vq => Ints Hq vq (ds.set i.toNat (iand (ds.getD i.toNat 0) d))) := by
 refine spec_of Tryz.func112 rfl rfl rfl (fun B => ?_)
 refine cS (cr (sg rfl (ln (qc (cS (cr (mv rfl (kl_callL rfl rfl (copied_ok ds (by omega) ‹_›) (fun v1 H2 f3 o4 => ?_)))))))))
 refine sg rfl (ln (qc (cS (cr (mv rfl (mv rfl (kl_ixL rfl rfl ‹_› (by omega) (by omega) (fun p5 q6 => ?_))))))))
 refine kl_ldLI rfl ‹_› ‹_› (by omega) ?_
 refine mv rfl (kl_and rfl rfl ?_)
 refine kl_ixL rfl rfl ‹_› (by omega) (by omega) (fun p7 q8 => ?_)
 refine kl_stL (iand (ds.getD i.toNat 0) d) rfl rfl ‹_› o4 (by omega) rfl rfl rfl (fun H9 o10 f11 => ?_)
 have f12 := f11 _ f3
 refine ln (qc (cS (cr (mv rfl (sg rfl (ln (qc (rt ?_))))))))
 exact kq_ret rfl rfl H9 f12 (OwnL.ints o10)
end
section
theorem withI_ok {Hmd : Hp} {vmd : Value} {Hmc : Hp} {vmc : Value} {Hcv : Hp} {vcv : Value} {Hca : Hp} {vca : Value} {Hcr : Hp} {vcr : Value} (m : Mod) (c : Con) (hl : m.cons.length ≤ 100) (hmd : Ints Hmd vmd m.doms) (hmc : Cons Hmc vmc m.cons) (hcv : Ints Hcv vcv c.vars) (hca : Ints Hca vca c.args) (hcr : Rows Hcr vcr c.rows) : Spec Tryz.prog 109 [.agg #[vmd, vmc], .agg #[.int .i64 c.kind, vcv, vca, .int .i64 c.bound, vcr]] [Hmd, Hmc, Hcv, Hca, Hcr] (fun Hq vq => ∃ (mq : Mod) (bq : Bool) (uq0a uq0b : Value), vq = .tuple #[.agg #[uq0a, uq0b], .bool bq] ∧ Ints Hq uq0a mq.doms ∧ Cons Hq uq0b mq.cons ∧ (mq, bq) = wcR m c) := by
 refine spec_ofR Tryz.func109 rfl rfl rfl (fun B => ?_)
 refine cS (cr (kl_box rfl rfl (fun p1 H2 f3 a4 => ?_)))
 refine kl_box rfl rfl (fun p5 H6 f7 a8 => ?_)
 refine kl_alloc (cs := [.slice none 0 0, .slice none 0 0]) rfl (fun b9 hb10 => ?_)
 refine sg rfl (ln (qc (cS (kc_tree (fun i => ([8, 10] : List Nat).contains i) [] (by kernel_rfl) ?_))))
 refine tq 0 nsl rfl (fd9 rfl ‹_› (fun p11 a12 => ?_))
 refine ln (qq (tq 1 nsl rfl (ld rfl ‹_› (ln (qq (tq 2 nsl rfl (fd9 rfl ‹_› (fun p13 a14 => ?_))))))))
 refine ln (qq (tq 3 nsl rfl (ld rfl ‹_› (ln (qq (tq 5 nsl rfl (kl_ldS rfl ‹_› rfl ?_)))))))
 refine ln (qq (kt_c 4 6 9 rfl rfl rfl (by kernel_rfl) ?_ ?_ ?_))
 ·refine kl_callL rfl rfl (cloneC_ok m.cons (by omega) ‹_›) (fun v15 H16 f17 o18 => ?_)
  refine ln (qa nsl (kt_b 6 9 rfl rfl (by kernel_rfl) ?_ ?_))
  ·refine kl_bsK rfl (fun v19 H20 f21 r22 => ?_)
   refine ln (qa nsl (kt_b 7 9 rfl rfl (by kernel_rfl) ?_ ?_))
   ·refine cm9 Hmc Hcv (fun c23 => ?_)
    have o24 := OwnL.mono (K' := orHp Hmc Hcv) o18 orL
    refine cm9 (orHp Hmc Hcv) Hca (fun c25 => ?_)
    have o26 := OwnL.mono (K' := orHp (orHp Hmc Hcv) Hca) o24 orL
    refine cm9 (orHp (orHp Hmc Hcv) Hca) Hcr (fun c27 => ?_)
    have o28 := OwnL.mono (K' := orHp (orHp (orHp Hmc Hcv) Hca) Hcr) o26 orL
    refine aL9 c rfl rfl o28 r22 ⟨_, _, _, rfl, (Sl.mono ‹_› (fun b o h => orL b o (orL b o (orC c23 b o h))) (fun _ _ h => h)), (Sl.mono ‹_› (fun b o h => orL b o (orC c25 b o h)) (fun _ _ h => h)), (Rows.mono' ‹_› (fun b o h => orC c27 b o h))⟩ (oc rfl (oc (Sl.oneCell ‹_›) (oc (Sl.oneCell ‹_›) (oc rfl (oc (Sl.oneCell ‹_›) oc_nil))))) (by (simp; omega)) (by decide) (fun v29 H30 o31 f32 => ?_)
    have f33 := f32 B f17 (Nat.le_refl _)
    refine ln (qa nsl (kt_b 8 9 rfl rfl (by kernel_rfl) ?_ ?_))
    ·refine kl_bd rfl (cp (Sl.cells ‹_›) (cp (OwnL.cells ‹_›) cp_nil)) rfl ?_
     refine ln (qx rfl (ta 9 rfl (kl_alloc (cs := [.slice none 0 0, .slice none 0 0]) rfl (fun b34 hb35 => ?_))))
     refine ln (qa nsl (ta 10 rfl (kl_stW (us := [vmd, v29]) rfl rfl rfl rfl (oc (Sl.oneCell ‹_›) (oc (OwnL.oneCell ‹_›) oc_nil)) rfl ?_)))
     refine cg [sing b34 (.cells [vmd, v29].toArray 26 (0, 0)), H30, sing b9 (.cells [.slice none 0 0, .slice none 0 0].toArray 26 (0, 0))] rfl ?_
     refine ln (qx rfl (kt_end (by kernel_rfl) ?_))
     refine qc (cS (cS (cr (kl_ldW rfl rfl (cm9 H30 (orHp (orHp (orHp Hmc Hcv) Hca) Hcr) (fun c37 => ?_))))))
     have h36 := OwnL.consK o31 c37
     refine cP rfl rfl (validMod_ok (⟨m.doms, (m.cons ++ [c])⟩ : Mod) ‹_› ‹_›) ?_
     refine nt9 rfl (ln (qc (cd9 rfl (fun c38 => ?_) (fun c38 => ?_))))
     ·have c38r := c38
      try simp only [smpE] at c38
      have hv := c38r
      have hv2 : validModB (withC m c) = false := by simpa [withC] using hv
      refine cS (cr (kl_bd rfl cp_nil rfl ?_))
      refine kl_stW (us := [.slice none 0 0, .slice none 0 0]) rfl rfl rfl rfl (oc rfl (oc rfl oc_nil)) rfl ?_
      refine cg [sing b34 (.cells [vmd, v29].toArray 26 (0, 0)), H30, sing b9 (.cells [.slice none 0 0, .slice none 0 0].toArray 26 (0, 0))] rfl ?_
      refine sg rfl (ln (qc (rt (kq_cmp noHp noHp (fun c39 => ?_)))))
      exact kq_retR (rss2 rfl (rs_agg rfl rfl) (rs_tmp rfl)) (orHp noHp noHp) (fr_or (fr_no _) (fr_no _)) ⟨(⟨[], []⟩ : Mod), false, _, _, rfl, (Sl.mono Sl.nil (fun b o h => orL b o h) (fun _ _ h => h)), (Sl.mono Sl.nil (fun b o h => orC c39 b o h) (fun _ _ h => h)), by first | exact (wc_no hv2).symm | exact (wc_yes hv2).symm⟩ .none
     ·have c38r := c38
      try simp only [smpE] at c38
      have hv := c38r
      have hv2 : validModB (withC m c) = true := by simpa [withC] using hv
      refine sk (qc (cS (cr (kl_ldW rfl rfl (cm9 H30 (orHp (orHp (orHp Hmc Hcv) Hca) Hcr) (fun c41 => ?_))))))
      have h40 := OwnL.consK o31 c41
      refine kl_call rfl rfl (copyModI_ok (⟨m.doms, (m.cons ++ [c])⟩ : Mod) (ok_small ⟨hv2⟩) ‹_› ‹_›) (fun v42 H43 f44 h45 => ?_)
      obtain ⟨u46, u47, rfl, h48, h49⟩ := h45
      refine kl_stW (us := [u46, u47]) rfl rfl rfl rfl (oc (Sl.oneCell ‹_›) (oc (Sl.oneCell ‹_›) oc_nil)) rfl ?_
      refine cg [sing b34 (.cells [vmd, v29].toArray 26 (0, 0)), H30, sing b9 (.cells [u46, u47].toArray 26 (0, 0))] rfl ?_
      refine sg rfl (ln (qc (rt (kq_cmp H43 H43 (fun c50 => ?_)))))
      exact kq_retR (rss2 rfl (rs_agg rfl rfl) (rs_tmp rfl)) (orHp H43 H43) (fr_or f44 f44) ⟨(⟨(⟨m.doms, (m.cons ++ [c])⟩ : Mod).doms, (⟨m.doms, (m.cons ++ [c])⟩ : Mod).cons⟩ : Mod), true, _, _, rfl, (Sl.mono ‹_› (fun b o h => orL b o h) (fun _ _ h => h)), (Cons.mono' ‹_› (fun b o h => orC c50 b o h)), by first | exact (wc_no hv2).symm | exact (wc_yes hv2).symm⟩ .none
    ·refine kl_alloc (cs := [.slice none 0 0, .slice none 0 0]) rfl (fun b51 hb52 => ?_)
     refine ln (qa nsl (ta 8 rfl (kl_bd rfl (cp (Sl.cells ‹_›) (cp (OwnL.cells ‹_›) cp_nil)) rfl ?_)))
     refine ln (qx rfl (ta 10 rfl (kl_stW (us := [vmd, v29]) rfl rfl rfl rfl (oc (Sl.oneCell ‹_›) (oc (OwnL.oneCell ‹_›) oc_nil)) rfl ?_)))
     refine cg [sing b51 (.cells [vmd, v29].toArray 26 (0, 0)), H30, sing b9 (.cells [.slice none 0 0, .slice none 0 0].toArray 26 (0, 0))] rfl ?_
     refine ln (qx rfl (kt_end (by kernel_rfl) ?_))
     refine qc (cS (cS (cr (kl_ldW rfl rfl (cm9 H30 (orHp (orHp (orHp Hmc Hcv) Hca) Hcr) (fun c54 => ?_))))))
     have h53 := OwnL.consK o31 c54
     refine cP rfl rfl (validMod_ok (⟨m.doms, (m.cons ++ [c])⟩ : Mod) ‹_› ‹_›) ?_
     refine nt9 rfl (ln (qc (cd9 rfl (fun c55 => ?_) (fun c55 => ?_))))
     ·have c55r := c55
      try simp only [smpE] at c55
      have hv := c55r
      have hv2 : validModB (withC m c) = false := by simpa [withC] using hv
      refine cS (cr (kl_bd rfl cp_nil rfl ?_))
      refine kl_stW (us := [.slice none 0 0, .slice none 0 0]) rfl rfl rfl rfl (oc rfl (oc rfl oc_nil)) rfl ?_
      refine cg [sing b51 (.cells [vmd, v29].toArray 26 (0, 0)), H30, sing b9 (.cells [.slice none 0 0, .slice none 0 0].toArray 26 (0, 0))] rfl ?_
      refine sg rfl (ln (qc (rt (kq_cmp noHp noHp (fun c56 => ?_)))))
      exact kq_retR (rss2 rfl (rs_agg rfl rfl) (rs_tmp rfl)) (orHp noHp noHp) (fr_or (fr_no _) (fr_no _)) ⟨(⟨[], []⟩ : Mod), false, _, _, rfl, (Sl.mono Sl.nil (fun b o h => orL b o h) (fun _ _ h => h)), (Sl.mono Sl.nil (fun b o h => orC c56 b o h) (fun _ _ h => h)), by first | exact (wc_no hv2).symm | exact (wc_yes hv2).symm⟩ .none
     ·have c55r := c55
      try simp only [smpE] at c55
      have hv := c55r
      have hv2 : validModB (withC m c) = true := by simpa [withC] using hv
      refine sk (qc (cS (cr (kl_ldW rfl rfl (cm9 H30 (orHp (orHp (orHp Hmc Hcv) Hca) Hcr) (fun c58 => ?_))))))
      have h57 := OwnL.consK o31 c58
      refine kl_call rfl rfl (copyModI_ok (⟨m.doms, (m.cons ++ [c])⟩ : Mod) (ok_small ⟨hv2⟩) ‹_› ‹_›) (fun v59 H60 f61 h62 => ?_)
      obtain ⟨u63, u64, rfl, h65, h66⟩ := h62
      refine kl_stW (us := [u63, u64]) rfl rfl rfl rfl (oc (Sl.oneCell ‹_›) (oc (Sl.oneCell ‹_›) oc_nil)) rfl ?_
      refine cg [sing b51 (.cells [vmd, v29].toArray 26 (0, 0)), H30, sing b9 (.cells [u63, u64].toArray 26 (0, 0))] rfl ?_
      refine sg rfl (ln (qc (rt (kq_cmp H60 H60 (fun c67 => ?_)))))
      exact kq_retR (rss2 rfl (rs_agg rfl rfl) (rs_tmp rfl)) (orHp H60 H60) (fr_or f61 f61) ⟨(⟨(⟨m.doms, (m.cons ++ [c])⟩ : Mod).doms, (⟨m.doms, (m.cons ++ [c])⟩ : Mod).cons⟩ : Mod), true, _, _, rfl, (Sl.mono ‹_› (fun b o h => orL b o h) (fun _ _ h => h)), (Cons.mono' ‹_› (fun b o h => orC c67 b o h)), by first | exact (wc_no hv2).symm | exact (wc_yes hv2).symm⟩ .none
   ·refine kl_alloc (cs := [.slice none 0 0, .slice none 0 0]) rfl (fun b68 hb69 => ?_)
    refine ln (qa nsl (ta 7 rfl (cm9 Hmc Hcv (fun c70 => ?_))))
    have o71 := OwnL.mono (K' := orHp Hmc Hcv) o18 orL
    refine cm9 (orHp Hmc Hcv) Hca (fun c72 => ?_)
    have o73 := OwnL.mono (K' := orHp (orHp Hmc Hcv) Hca) o71 orL
    refine cm9 (orHp (orHp Hmc Hcv) Hca) Hcr (fun c74 => ?_)
    have o75 := OwnL.mono (K' := orHp (orHp (orHp Hmc Hcv) Hca) Hcr) o73 orL
    refine aL9 c rfl rfl o75 r22 ⟨_, _, _, rfl, (Sl.mono ‹_› (fun b o h => orL b o (orL b o (orC c70 b o h))) (fun _ _ h => h)), (Sl.mono ‹_› (fun b o h => orL b o (orC c72 b o h)) (fun _ _ h => h)), (Rows.mono' ‹_› (fun b o h => orC c74 b o h))⟩ (oc rfl (oc (Sl.oneCell ‹_›) (oc (Sl.oneCell ‹_›) (oc rfl (oc (Sl.oneCell ‹_›) oc_nil))))) (by (simp; omega)) (by decide) (fun v76 H77 o78 f79 => ?_)
    have f80 := f79 B f17 (Nat.le_refl _)
    refine ln (qa nsl (ta 8 rfl (kl_bd rfl (cp (Sl.cells ‹_›) (cp (OwnL.cells ‹_›) cp_nil)) rfl ?_)))
    refine ln (qx rfl (ta 10 rfl (kl_stW (us := [vmd, v76]) rfl rfl rfl rfl (oc (Sl.oneCell ‹_›) (oc (OwnL.oneCell ‹_›) oc_nil)) rfl ?_)))
    refine cg [sing b68 (.cells [vmd, v76].toArray 26 (0, 0)), H77, sing b9 (.cells [.slice none 0 0, .slice none 0 0].toArray 26 (0, 0))] rfl ?_
    refine ln (qx rfl (kt_end (by kernel_rfl) ?_))
    refine qc (cS (cS (cr (kl_ldW rfl rfl (cm9 H77 (orHp (orHp (orHp Hmc Hcv) Hca) Hcr) (fun c82 => ?_))))))
    have h81 := OwnL.consK o78 c82
    refine cP rfl rfl (validMod_ok (⟨m.doms, (m.cons ++ [c])⟩ : Mod) ‹_› ‹_›) ?_
    refine nt9 rfl (ln (qc (cd9 rfl (fun c83 => ?_) (fun c83 => ?_))))
    ·have c83r := c83
     try simp only [smpE] at c83
     have hv := c83r
     have hv2 : validModB (withC m c) = false := by simpa [withC] using hv
     refine cS (cr (kl_bd rfl cp_nil rfl ?_))
     refine kl_stW (us := [.slice none 0 0, .slice none 0 0]) rfl rfl rfl rfl (oc rfl (oc rfl oc_nil)) rfl ?_
     refine cg [sing b68 (.cells [vmd, v76].toArray 26 (0, 0)), H77, sing b9 (.cells [.slice none 0 0, .slice none 0 0].toArray 26 (0, 0))] rfl ?_
     refine sg rfl (ln (qc (rt (kq_cmp noHp noHp (fun c84 => ?_)))))
     exact kq_retR (rss2 rfl (rs_agg rfl rfl) (rs_tmp rfl)) (orHp noHp noHp) (fr_or (fr_no _) (fr_no _)) ⟨(⟨[], []⟩ : Mod), false, _, _, rfl, (Sl.mono Sl.nil (fun b o h => orL b o h) (fun _ _ h => h)), (Sl.mono Sl.nil (fun b o h => orC c84 b o h) (fun _ _ h => h)), by first | exact (wc_no hv2).symm | exact (wc_yes hv2).symm⟩ .none
    ·have c83r := c83
     try simp only [smpE] at c83
     have hv := c83r
     have hv2 : validModB (withC m c) = true := by simpa [withC] using hv
     refine sk (qc (cS (cr (kl_ldW rfl rfl (cm9 H77 (orHp (orHp (orHp Hmc Hcv) Hca) Hcr) (fun c86 => ?_))))))
     have h85 := OwnL.consK o78 c86
     refine kl_call rfl rfl (copyModI_ok (⟨m.doms, (m.cons ++ [c])⟩ : Mod) (ok_small ⟨hv2⟩) ‹_› ‹_›) (fun v87 H88 f89 h90 => ?_)
     obtain ⟨u91, u92, rfl, h93, h94⟩ := h90
     refine kl_stW (us := [u91, u92]) rfl rfl rfl rfl (oc (Sl.oneCell ‹_›) (oc (Sl.oneCell ‹_›) oc_nil)) rfl ?_
     refine cg [sing b68 (.cells [vmd, v76].toArray 26 (0, 0)), H77, sing b9 (.cells [u91, u92].toArray 26 (0, 0))] rfl ?_
     refine sg rfl (ln (qc (rt (kq_cmp H88 H88 (fun c95 => ?_)))))
     exact kq_retR (rss2 rfl (rs_agg rfl rfl) (rs_tmp rfl)) (orHp H88 H88) (fr_or f89 f89) ⟨(⟨(⟨m.doms, (m.cons ++ [c])⟩ : Mod).doms, (⟨m.doms, (m.cons ++ [c])⟩ : Mod).cons⟩ : Mod), true, _, _, rfl, (Sl.mono ‹_› (fun b o h => orL b o h) (fun _ _ h => h)), (Cons.mono' ‹_› (fun b o h => orC c95 b o h)), by first | exact (wc_no hv2).symm | exact (wc_yes hv2).symm⟩ .none
  ·refine kl_alloc (cs := [.slice none 0 0, .slice none 0 0]) rfl (fun b96 hb97 => ?_)
   refine ln (qa nsl (ta 6 rfl (kl_bsK rfl (fun v98 H99 f100 r101 => ?_))))
   refine ln (qa nsl (ta 7 rfl (cm9 Hmc Hcv (fun c102 => ?_))))
   have o103 := OwnL.mono (K' := orHp Hmc Hcv) o18 orL
   refine cm9 (orHp Hmc Hcv) Hca (fun c104 => ?_)
   have o105 := OwnL.mono (K' := orHp (orHp Hmc Hcv) Hca) o103 orL
   refine cm9 (orHp (orHp Hmc Hcv) Hca) Hcr (fun c106 => ?_)
   have o107 := OwnL.mono (K' := orHp (orHp (orHp Hmc Hcv) Hca) Hcr) o105 orL
   refine aL9 c rfl rfl o107 r101 ⟨_, _, _, rfl, (Sl.mono ‹_› (fun b o h => orL b o (orL b o (orC c102 b o h))) (fun _ _ h => h)), (Sl.mono ‹_› (fun b o h => orL b o (orC c104 b o h)) (fun _ _ h => h)), (Rows.mono' ‹_› (fun b o h => orC c106 b o h))⟩ (oc rfl (oc (Sl.oneCell ‹_›) (oc (Sl.oneCell ‹_›) (oc rfl (oc (Sl.oneCell ‹_›) oc_nil))))) (by (simp; omega)) (by decide) (fun v108 H109 o110 f111 => ?_)
   have f112 := f111 B f17 (Nat.le_refl _)
   refine ln (qa nsl (ta 8 rfl (kl_bd rfl (cp (Sl.cells ‹_›) (cp (OwnL.cells ‹_›) cp_nil)) rfl ?_)))
   refine ln (qx rfl (ta 10 rfl (kl_stW (us := [vmd, v108]) rfl rfl rfl rfl (oc (Sl.oneCell ‹_›) (oc (OwnL.oneCell ‹_›) oc_nil)) rfl ?_)))
   refine cg [sing b96 (.cells [vmd, v108].toArray 26 (0, 0)), H109, sing b9 (.cells [.slice none 0 0, .slice none 0 0].toArray 26 (0, 0))] rfl ?_
   refine ln (qx rfl (kt_end (by kernel_rfl) ?_))
   refine qc (cS (cS (cr (kl_ldW rfl rfl (cm9 H109 (orHp (orHp (orHp Hmc Hcv) Hca) Hcr) (fun c114 => ?_))))))
   have h113 := OwnL.consK o110 c114
   refine cP rfl rfl (validMod_ok (⟨m.doms, (m.cons ++ [c])⟩ : Mod) ‹_› ‹_›) ?_
   refine nt9 rfl (ln (qc (cd9 rfl (fun c115 => ?_) (fun c115 => ?_))))
   ·have c115r := c115
    try simp only [smpE] at c115
    have hv := c115r
    have hv2 : validModB (withC m c) = false := by simpa [withC] using hv
    refine cS (cr (kl_bd rfl cp_nil rfl ?_))
    refine kl_stW (us := [.slice none 0 0, .slice none 0 0]) rfl rfl rfl rfl (oc rfl (oc rfl oc_nil)) rfl ?_
    refine cg [sing b96 (.cells [vmd, v108].toArray 26 (0, 0)), H109, sing b9 (.cells [.slice none 0 0, .slice none 0 0].toArray 26 (0, 0))] rfl ?_
    refine sg rfl (ln (qc (rt (kq_cmp noHp noHp (fun c116 => ?_)))))
    exact kq_retR (rss2 rfl (rs_agg rfl rfl) (rs_tmp rfl)) (orHp noHp noHp) (fr_or (fr_no _) (fr_no _)) ⟨(⟨[], []⟩ : Mod), false, _, _, rfl, (Sl.mono Sl.nil (fun b o h => orL b o h) (fun _ _ h => h)), (Sl.mono Sl.nil (fun b o h => orC c116 b o h) (fun _ _ h => h)), by first | exact (wc_no hv2).symm | exact (wc_yes hv2).symm⟩ .none
   ·have c115r := c115
    try simp only [smpE] at c115
    have hv := c115r
    have hv2 : validModB (withC m c) = true := by simpa [withC] using hv
    refine sk (qc (cS (cr (kl_ldW rfl rfl (cm9 H109 (orHp (orHp (orHp Hmc Hcv) Hca) Hcr) (fun c118 => ?_))))))
    have h117 := OwnL.consK o110 c118
    refine kl_call rfl rfl (copyModI_ok (⟨m.doms, (m.cons ++ [c])⟩ : Mod) (ok_small ⟨hv2⟩) ‹_› ‹_›) (fun v119 H120 f121 h122 => ?_)
    obtain ⟨u123, u124, rfl, h125, h126⟩ := h122
    refine kl_stW (us := [u123, u124]) rfl rfl rfl rfl (oc (Sl.oneCell ‹_›) (oc (Sl.oneCell ‹_›) oc_nil)) rfl ?_
    refine cg [sing b96 (.cells [vmd, v108].toArray 26 (0, 0)), H109, sing b9 (.cells [u123, u124].toArray 26 (0, 0))] rfl ?_
    refine sg rfl (ln (qc (rt (kq_cmp H120 H120 (fun c127 => ?_)))))
    exact kq_retR (rss2 rfl (rs_agg rfl rfl) (rs_tmp rfl)) (orHp H120 H120) (fr_or f121 f121) ⟨(⟨(⟨m.doms, (m.cons ++ [c])⟩ : Mod).doms, (⟨m.doms, (m.cons ++ [c])⟩ : Mod).cons⟩ : Mod), true, _, _, rfl, (Sl.mono ‹_› (fun b o h => orL b o h) (fun _ _ h => h)), (Cons.mono' ‹_› (fun b o h => orC c127 b o h)), by first | exact (wc_no hv2).symm | exact (wc_yes hv2).symm⟩ .none
 ·refine kl_bsK rfl (fun v128 H129 f130 r131 => ?_)
  refine ln (qa nsl (kt_b 4 9 rfl rfl (by kernel_rfl) ?_ ?_))
  ·refine kl_callL rfl rfl (cloneC_ok m.cons (by omega) ‹_›) (fun v132 H133 f134 o135 => ?_)
   refine ln (qa nsl (kt_b 7 9 rfl rfl (by kernel_rfl) ?_ ?_))
   ·refine cm9 Hmc Hcv (fun c136 => ?_)
    have o137 := OwnL.mono (K' := orHp Hmc Hcv) o135 orL
    refine cm9 (orHp Hmc Hcv) Hca (fun c138 => ?_)
    have o139 := OwnL.mono (K' := orHp (orHp Hmc Hcv) Hca) o137 orL
    refine cm9 (orHp (orHp Hmc Hcv) Hca) Hcr (fun c140 => ?_)
    have o141 := OwnL.mono (K' := orHp (orHp (orHp Hmc Hcv) Hca) Hcr) o139 orL
    refine aL9 c rfl rfl o141 r131 ⟨_, _, _, rfl, (Sl.mono ‹_› (fun b o h => orL b o (orL b o (orC c136 b o h))) (fun _ _ h => h)), (Sl.mono ‹_› (fun b o h => orL b o (orC c138 b o h)) (fun _ _ h => h)), (Rows.mono' ‹_› (fun b o h => orC c140 b o h))⟩ (oc rfl (oc (Sl.oneCell ‹_›) (oc (Sl.oneCell ‹_›) (oc rfl (oc (Sl.oneCell ‹_›) oc_nil))))) (by (simp; omega)) (by decide) (fun v142 H143 o144 f145 => ?_)
    have f146 := f145 B f134 (Nat.le_refl _)
    refine ln (qa nsl (kt_b 8 9 rfl rfl (by kernel_rfl) ?_ ?_))
    ·refine kl_bd rfl (cp (Sl.cells ‹_›) (cp (OwnL.cells ‹_›) cp_nil)) rfl ?_
     refine ln (qx rfl (ta 9 rfl (kl_alloc (cs := [.slice none 0 0, .slice none 0 0]) rfl (fun b147 hb148 => ?_))))
     refine ln (qa nsl (ta 10 rfl (kl_stW (us := [vmd, v142]) rfl rfl rfl rfl (oc (Sl.oneCell ‹_›) (oc (OwnL.oneCell ‹_›) oc_nil)) rfl ?_)))
     refine cg [sing b147 (.cells [vmd, v142].toArray 26 (0, 0)), H143, sing b9 (.cells [.slice none 0 0, .slice none 0 0].toArray 26 (0, 0))] rfl ?_
     refine ln (qx rfl (kt_end (by kernel_rfl) ?_))
     refine qc (cS (cS (cr (kl_ldW rfl rfl (cm9 H143 (orHp (orHp (orHp Hmc Hcv) Hca) Hcr) (fun c150 => ?_))))))
     have h149 := OwnL.consK o144 c150
     refine cP rfl rfl (validMod_ok (⟨m.doms, (m.cons ++ [c])⟩ : Mod) ‹_› ‹_›) ?_
     refine nt9 rfl (ln (qc (cd9 rfl (fun c151 => ?_) (fun c151 => ?_))))
     ·have c151r := c151
      try simp only [smpE] at c151
      have hv := c151r
      have hv2 : validModB (withC m c) = false := by simpa [withC] using hv
      refine cS (cr (kl_bd rfl cp_nil rfl ?_))
      refine kl_stW (us := [.slice none 0 0, .slice none 0 0]) rfl rfl rfl rfl (oc rfl (oc rfl oc_nil)) rfl ?_
      refine cg [sing b147 (.cells [vmd, v142].toArray 26 (0, 0)), H143, sing b9 (.cells [.slice none 0 0, .slice none 0 0].toArray 26 (0, 0))] rfl ?_
      refine sg rfl (ln (qc (rt (kq_cmp noHp noHp (fun c152 => ?_)))))
      exact kq_retR (rss2 rfl (rs_agg rfl rfl) (rs_tmp rfl)) (orHp noHp noHp) (fr_or (fr_no _) (fr_no _)) ⟨(⟨[], []⟩ : Mod), false, _, _, rfl, (Sl.mono Sl.nil (fun b o h => orL b o h) (fun _ _ h => h)), (Sl.mono Sl.nil (fun b o h => orC c152 b o h) (fun _ _ h => h)), by first | exact (wc_no hv2).symm | exact (wc_yes hv2).symm⟩ .none
     ·have c151r := c151
      try simp only [smpE] at c151
      have hv := c151r
      have hv2 : validModB (withC m c) = true := by simpa [withC] using hv
      refine sk (qc (cS (cr (kl_ldW rfl rfl (cm9 H143 (orHp (orHp (orHp Hmc Hcv) Hca) Hcr) (fun c154 => ?_))))))
      have h153 := OwnL.consK o144 c154
      refine kl_call rfl rfl (copyModI_ok (⟨m.doms, (m.cons ++ [c])⟩ : Mod) (ok_small ⟨hv2⟩) ‹_› ‹_›) (fun v155 H156 f157 h158 => ?_)
      obtain ⟨u159, u160, rfl, h161, h162⟩ := h158
      refine kl_stW (us := [u159, u160]) rfl rfl rfl rfl (oc (Sl.oneCell ‹_›) (oc (Sl.oneCell ‹_›) oc_nil)) rfl ?_
      refine cg [sing b147 (.cells [vmd, v142].toArray 26 (0, 0)), H143, sing b9 (.cells [u159, u160].toArray 26 (0, 0))] rfl ?_
      refine sg rfl (ln (qc (rt (kq_cmp H156 H156 (fun c163 => ?_)))))
      exact kq_retR (rss2 rfl (rs_agg rfl rfl) (rs_tmp rfl)) (orHp H156 H156) (fr_or f157 f157) ⟨(⟨(⟨m.doms, (m.cons ++ [c])⟩ : Mod).doms, (⟨m.doms, (m.cons ++ [c])⟩ : Mod).cons⟩ : Mod), true, _, _, rfl, (Sl.mono ‹_› (fun b o h => orL b o h) (fun _ _ h => h)), (Cons.mono' ‹_› (fun b o h => orC c163 b o h)), by first | exact (wc_no hv2).symm | exact (wc_yes hv2).symm⟩ .none
    ·refine kl_alloc (cs := [.slice none 0 0, .slice none 0 0]) rfl (fun b164 hb165 => ?_)
     refine ln (qa nsl (ta 8 rfl (kl_bd rfl (cp (Sl.cells ‹_›) (cp (OwnL.cells ‹_›) cp_nil)) rfl ?_)))
     refine ln (qx rfl (ta 10 rfl (kl_stW (us := [vmd, v142]) rfl rfl rfl rfl (oc (Sl.oneCell ‹_›) (oc (OwnL.oneCell ‹_›) oc_nil)) rfl ?_)))
     refine cg [sing b164 (.cells [vmd, v142].toArray 26 (0, 0)), H143, sing b9 (.cells [.slice none 0 0, .slice none 0 0].toArray 26 (0, 0))] rfl ?_
     refine ln (qx rfl (kt_end (by kernel_rfl) ?_))
     refine qc (cS (cS (cr (kl_ldW rfl rfl (cm9 H143 (orHp (orHp (orHp Hmc Hcv) Hca) Hcr) (fun c167 => ?_))))))
     have h166 := OwnL.consK o144 c167
     refine cP rfl rfl (validMod_ok (⟨m.doms, (m.cons ++ [c])⟩ : Mod) ‹_› ‹_›) ?_
     refine nt9 rfl (ln (qc (cd9 rfl (fun c168 => ?_) (fun c168 => ?_))))
     ·have c168r := c168
      try simp only [smpE] at c168
      have hv := c168r
      have hv2 : validModB (withC m c) = false := by simpa [withC] using hv
      refine cS (cr (kl_bd rfl cp_nil rfl ?_))
      refine kl_stW (us := [.slice none 0 0, .slice none 0 0]) rfl rfl rfl rfl (oc rfl (oc rfl oc_nil)) rfl ?_
      refine cg [sing b164 (.cells [vmd, v142].toArray 26 (0, 0)), H143, sing b9 (.cells [.slice none 0 0, .slice none 0 0].toArray 26 (0, 0))] rfl ?_
      refine sg rfl (ln (qc (rt (kq_cmp noHp noHp (fun c169 => ?_)))))
      exact kq_retR (rss2 rfl (rs_agg rfl rfl) (rs_tmp rfl)) (orHp noHp noHp) (fr_or (fr_no _) (fr_no _)) ⟨(⟨[], []⟩ : Mod), false, _, _, rfl, (Sl.mono Sl.nil (fun b o h => orL b o h) (fun _ _ h => h)), (Sl.mono Sl.nil (fun b o h => orC c169 b o h) (fun _ _ h => h)), by first | exact (wc_no hv2).symm | exact (wc_yes hv2).symm⟩ .none
     ·have c168r := c168
      try simp only [smpE] at c168
      have hv := c168r
      have hv2 : validModB (withC m c) = true := by simpa [withC] using hv
      refine sk (qc (cS (cr (kl_ldW rfl rfl (cm9 H143 (orHp (orHp (orHp Hmc Hcv) Hca) Hcr) (fun c171 => ?_))))))
      have h170 := OwnL.consK o144 c171
      refine kl_call rfl rfl (copyModI_ok (⟨m.doms, (m.cons ++ [c])⟩ : Mod) (ok_small ⟨hv2⟩) ‹_› ‹_›) (fun v172 H173 f174 h175 => ?_)
      obtain ⟨u176, u177, rfl, h178, h179⟩ := h175
      refine kl_stW (us := [u176, u177]) rfl rfl rfl rfl (oc (Sl.oneCell ‹_›) (oc (Sl.oneCell ‹_›) oc_nil)) rfl ?_
      refine cg [sing b164 (.cells [vmd, v142].toArray 26 (0, 0)), H143, sing b9 (.cells [u176, u177].toArray 26 (0, 0))] rfl ?_
      refine sg rfl (ln (qc (rt (kq_cmp H173 H173 (fun c180 => ?_)))))
      exact kq_retR (rss2 rfl (rs_agg rfl rfl) (rs_tmp rfl)) (orHp H173 H173) (fr_or f174 f174) ⟨(⟨(⟨m.doms, (m.cons ++ [c])⟩ : Mod).doms, (⟨m.doms, (m.cons ++ [c])⟩ : Mod).cons⟩ : Mod), true, _, _, rfl, (Sl.mono ‹_› (fun b o h => orL b o h) (fun _ _ h => h)), (Cons.mono' ‹_› (fun b o h => orC c180 b o h)), by first | exact (wc_no hv2).symm | exact (wc_yes hv2).symm⟩ .none
   ·refine kl_alloc (cs := [.slice none 0 0, .slice none 0 0]) rfl (fun b181 hb182 => ?_)
    refine ln (qa nsl (ta 7 rfl (cm9 Hmc Hcv (fun c183 => ?_))))
    have o184 := OwnL.mono (K' := orHp Hmc Hcv) o135 orL
    refine cm9 (orHp Hmc Hcv) Hca (fun c185 => ?_)
    have o186 := OwnL.mono (K' := orHp (orHp Hmc Hcv) Hca) o184 orL
    refine cm9 (orHp (orHp Hmc Hcv) Hca) Hcr (fun c187 => ?_)
    have o188 := OwnL.mono (K' := orHp (orHp (orHp Hmc Hcv) Hca) Hcr) o186 orL
    refine aL9 c rfl rfl o188 r131 ⟨_, _, _, rfl, (Sl.mono ‹_› (fun b o h => orL b o (orL b o (orC c183 b o h))) (fun _ _ h => h)), (Sl.mono ‹_› (fun b o h => orL b o (orC c185 b o h)) (fun _ _ h => h)), (Rows.mono' ‹_› (fun b o h => orC c187 b o h))⟩ (oc rfl (oc (Sl.oneCell ‹_›) (oc (Sl.oneCell ‹_›) (oc rfl (oc (Sl.oneCell ‹_›) oc_nil))))) (by (simp; omega)) (by decide) (fun v189 H190 o191 f192 => ?_)
    have f193 := f192 B f134 (Nat.le_refl _)
    refine ln (qa nsl (ta 8 rfl (kl_bd rfl (cp (Sl.cells ‹_›) (cp (OwnL.cells ‹_›) cp_nil)) rfl ?_)))
    refine ln (qx rfl (ta 10 rfl (kl_stW (us := [vmd, v189]) rfl rfl rfl rfl (oc (Sl.oneCell ‹_›) (oc (OwnL.oneCell ‹_›) oc_nil)) rfl ?_)))
    refine cg [sing b181 (.cells [vmd, v189].toArray 26 (0, 0)), H190, sing b9 (.cells [.slice none 0 0, .slice none 0 0].toArray 26 (0, 0))] rfl ?_
    refine ln (qx rfl (kt_end (by kernel_rfl) ?_))
    refine qc (cS (cS (cr (kl_ldW rfl rfl (cm9 H190 (orHp (orHp (orHp Hmc Hcv) Hca) Hcr) (fun c195 => ?_))))))
    have h194 := OwnL.consK o191 c195
    refine cP rfl rfl (validMod_ok (⟨m.doms, (m.cons ++ [c])⟩ : Mod) ‹_› ‹_›) ?_
    refine nt9 rfl (ln (qc (cd9 rfl (fun c196 => ?_) (fun c196 => ?_))))
    ·have c196r := c196
     try simp only [smpE] at c196
     have hv := c196r
     have hv2 : validModB (withC m c) = false := by simpa [withC] using hv
     refine cS (cr (kl_bd rfl cp_nil rfl ?_))
     refine kl_stW (us := [.slice none 0 0, .slice none 0 0]) rfl rfl rfl rfl (oc rfl (oc rfl oc_nil)) rfl ?_
     refine cg [sing b181 (.cells [vmd, v189].toArray 26 (0, 0)), H190, sing b9 (.cells [.slice none 0 0, .slice none 0 0].toArray 26 (0, 0))] rfl ?_
     refine sg rfl (ln (qc (rt (kq_cmp noHp noHp (fun c197 => ?_)))))
     exact kq_retR (rss2 rfl (rs_agg rfl rfl) (rs_tmp rfl)) (orHp noHp noHp) (fr_or (fr_no _) (fr_no _)) ⟨(⟨[], []⟩ : Mod), false, _, _, rfl, (Sl.mono Sl.nil (fun b o h => orL b o h) (fun _ _ h => h)), (Sl.mono Sl.nil (fun b o h => orC c197 b o h) (fun _ _ h => h)), by first | exact (wc_no hv2).symm | exact (wc_yes hv2).symm⟩ .none
    ·have c196r := c196
     try simp only [smpE] at c196
     have hv := c196r
     have hv2 : validModB (withC m c) = true := by simpa [withC] using hv
     refine sk (qc (cS (cr (kl_ldW rfl rfl (cm9 H190 (orHp (orHp (orHp Hmc Hcv) Hca) Hcr) (fun c199 => ?_))))))
     have h198 := OwnL.consK o191 c199
     refine kl_call rfl rfl (copyModI_ok (⟨m.doms, (m.cons ++ [c])⟩ : Mod) (ok_small ⟨hv2⟩) ‹_› ‹_›) (fun v200 H201 f202 h203 => ?_)
     obtain ⟨u204, u205, rfl, h206, h207⟩ := h203
     refine kl_stW (us := [u204, u205]) rfl rfl rfl rfl (oc (Sl.oneCell ‹_›) (oc (Sl.oneCell ‹_›) oc_nil)) rfl ?_
     refine cg [sing b181 (.cells [vmd, v189].toArray 26 (0, 0)), H190, sing b9 (.cells [u204, u205].toArray 26 (0, 0))] rfl ?_
     refine sg rfl (ln (qc (rt (kq_cmp H201 H201 (fun c208 => ?_)))))
     exact kq_retR (rss2 rfl (rs_agg rfl rfl) (rs_tmp rfl)) (orHp H201 H201) (fr_or f202 f202) ⟨(⟨(⟨m.doms, (m.cons ++ [c])⟩ : Mod).doms, (⟨m.doms, (m.cons ++ [c])⟩ : Mod).cons⟩ : Mod), true, _, _, rfl, (Sl.mono ‹_› (fun b o h => orL b o h) (fun _ _ h => h)), (Cons.mono' ‹_› (fun b o h => orC c208 b o h)), by first | exact (wc_no hv2).symm | exact (wc_yes hv2).symm⟩ .none
  ·refine kl_alloc (cs := [.slice none 0 0, .slice none 0 0]) rfl (fun b209 hb210 => ?_)
   refine ln (qa nsl (ta 4 rfl (kl_callL rfl rfl (cloneC_ok m.cons (by omega) ‹_›) (fun v211 H212 f213 o214 => ?_))))
   refine ln (qa nsl (ta 7 rfl (cm9 Hmc Hcv (fun c215 => ?_))))
   have o216 := OwnL.mono (K' := orHp Hmc Hcv) o214 orL
   refine cm9 (orHp Hmc Hcv) Hca (fun c217 => ?_)
   have o218 := OwnL.mono (K' := orHp (orHp Hmc Hcv) Hca) o216 orL
   refine cm9 (orHp (orHp Hmc Hcv) Hca) Hcr (fun c219 => ?_)
   have o220 := OwnL.mono (K' := orHp (orHp (orHp Hmc Hcv) Hca) Hcr) o218 orL
   refine aL9 c rfl rfl o220 r131 ⟨_, _, _, rfl, (Sl.mono ‹_› (fun b o h => orL b o (orL b o (orC c215 b o h))) (fun _ _ h => h)), (Sl.mono ‹_› (fun b o h => orL b o (orC c217 b o h)) (fun _ _ h => h)), (Rows.mono' ‹_› (fun b o h => orC c219 b o h))⟩ (oc rfl (oc (Sl.oneCell ‹_›) (oc (Sl.oneCell ‹_›) (oc rfl (oc (Sl.oneCell ‹_›) oc_nil))))) (by (simp; omega)) (by decide) (fun v221 H222 o223 f224 => ?_)
   have f225 := f224 B f213 (Nat.le_refl _)
   refine ln (qa nsl (ta 8 rfl (kl_bd rfl (cp (Sl.cells ‹_›) (cp (OwnL.cells ‹_›) cp_nil)) rfl ?_)))
   refine ln (qx rfl (ta 10 rfl (kl_stW (us := [vmd, v221]) rfl rfl rfl rfl (oc (Sl.oneCell ‹_›) (oc (OwnL.oneCell ‹_›) oc_nil)) rfl ?_)))
   refine cg [H222, sing b209 (.cells [vmd, v221].toArray 26 (0, 0)), sing b9 (.cells [.slice none 0 0, .slice none 0 0].toArray 26 (0, 0))] rfl ?_
   refine ln (qx rfl (kt_end (by kernel_rfl) ?_))
   refine qc (cS (cS (cr (kl_ldW rfl rfl (cm9 H222 (orHp (orHp (orHp Hmc Hcv) Hca) Hcr) (fun c227 => ?_))))))
   have h226 := OwnL.consK o223 c227
   refine cP rfl rfl (validMod_ok (⟨m.doms, (m.cons ++ [c])⟩ : Mod) ‹_› ‹_›) ?_
   refine nt9 rfl (ln (qc (cd9 rfl (fun c228 => ?_) (fun c228 => ?_))))
   ·have c228r := c228
    try simp only [smpE] at c228
    have hv := c228r
    have hv2 : validModB (withC m c) = false := by simpa [withC] using hv
    refine cS (cr (kl_bd rfl cp_nil rfl ?_))
    refine kl_stW (us := [.slice none 0 0, .slice none 0 0]) rfl rfl rfl rfl (oc rfl (oc rfl oc_nil)) rfl ?_
    refine cg [H222, sing b209 (.cells [vmd, v221].toArray 26 (0, 0)), sing b9 (.cells [.slice none 0 0, .slice none 0 0].toArray 26 (0, 0))] rfl ?_
    refine sg rfl (ln (qc (rt (kq_cmp noHp noHp (fun c229 => ?_)))))
    exact kq_retR (rss2 rfl (rs_agg rfl rfl) (rs_tmp rfl)) (orHp noHp noHp) (fr_or (fr_no _) (fr_no _)) ⟨(⟨[], []⟩ : Mod), false, _, _, rfl, (Sl.mono Sl.nil (fun b o h => orL b o h) (fun _ _ h => h)), (Sl.mono Sl.nil (fun b o h => orC c229 b o h) (fun _ _ h => h)), by first | exact (wc_no hv2).symm | exact (wc_yes hv2).symm⟩ .none
   ·have c228r := c228
    try simp only [smpE] at c228
    have hv := c228r
    have hv2 : validModB (withC m c) = true := by simpa [withC] using hv
    refine sk (qc (cS (cr (kl_ldW rfl rfl (cm9 H222 (orHp (orHp (orHp Hmc Hcv) Hca) Hcr) (fun c231 => ?_))))))
    have h230 := OwnL.consK o223 c231
    refine kl_call rfl rfl (copyModI_ok (⟨m.doms, (m.cons ++ [c])⟩ : Mod) (ok_small ⟨hv2⟩) ‹_› ‹_›) (fun v232 H233 f234 h235 => ?_)
    obtain ⟨u236, u237, rfl, h238, h239⟩ := h235
    refine kl_stW (us := [u236, u237]) rfl rfl rfl rfl (oc (Sl.oneCell ‹_›) (oc (Sl.oneCell ‹_›) oc_nil)) rfl ?_
    refine cg [H222, sing b209 (.cells [vmd, v221].toArray 26 (0, 0)), sing b9 (.cells [u236, u237].toArray 26 (0, 0))] rfl ?_
    refine sg rfl (ln (qc (rt (kq_cmp H233 H233 (fun c240 => ?_)))))
    exact kq_retR (rss2 rfl (rs_agg rfl rfl) (rs_tmp rfl)) (orHp H233 H233) (fr_or f234 f234) ⟨(⟨(⟨m.doms, (m.cons ++ [c])⟩ : Mod).doms, (⟨m.doms, (m.cons ++ [c])⟩ : Mod).cons⟩ : Mod), true, _, _, rfl, (Sl.mono ‹_› (fun b o h => orL b o h) (fun _ _ h => h)), (Cons.mono' ‹_› (fun b o h => orC c240 b o h)), by first | exact (wc_no hv2).symm | exact (wc_yes hv2).symm⟩ .none
 ·refine kl_alloc (cs := [.slice none 0 0, .slice none 0 0]) rfl (fun b241 hb242 => ?_)
  refine ln (qa nsl (kt_b 4 6 rfl rfl (by kernel_rfl) ?_ ?_))
  ·refine kl_callL rfl rfl (cloneC_ok m.cons (by omega) ‹_›) (fun v243 H244 f245 o246 => ?_)
   refine ln (qa nsl (ta 6 rfl (kl_bsK rfl (fun v247 H248 f249 r250 => ?_))))
   refine ln (qa nsl (ta 7 rfl (cm9 Hmc Hcv (fun c251 => ?_))))
   have o252 := OwnL.mono (K' := orHp Hmc Hcv) o246 orL
   refine cm9 (orHp Hmc Hcv) Hca (fun c253 => ?_)
   have o254 := OwnL.mono (K' := orHp (orHp Hmc Hcv) Hca) o252 orL
   refine cm9 (orHp (orHp Hmc Hcv) Hca) Hcr (fun c255 => ?_)
   have o256 := OwnL.mono (K' := orHp (orHp (orHp Hmc Hcv) Hca) Hcr) o254 orL
   refine aL9 c rfl rfl o256 r250 ⟨_, _, _, rfl, (Sl.mono ‹_› (fun b o h => orL b o (orL b o (orC c251 b o h))) (fun _ _ h => h)), (Sl.mono ‹_› (fun b o h => orL b o (orC c253 b o h)) (fun _ _ h => h)), (Rows.mono' ‹_› (fun b o h => orC c255 b o h))⟩ (oc rfl (oc (Sl.oneCell ‹_›) (oc (Sl.oneCell ‹_›) (oc rfl (oc (Sl.oneCell ‹_›) oc_nil))))) (by (simp; omega)) (by decide) (fun v257 H258 o259 f260 => ?_)
   have f261 := f260 B f245 (Nat.le_refl _)
   refine ln (qa nsl (ta 8 rfl (kl_bd rfl (cp (Sl.cells ‹_›) (cp (OwnL.cells ‹_›) cp_nil)) rfl ?_)))
   refine ln (qx rfl (ta 10 rfl (kl_stW (us := [vmd, v257]) rfl rfl rfl rfl (oc (Sl.oneCell ‹_›) (oc (OwnL.oneCell ‹_›) oc_nil)) rfl ?_)))
   refine cg [H258, sing b241 (.cells [vmd, v257].toArray 26 (0, 0)), sing b9 (.cells [.slice none 0 0, .slice none 0 0].toArray 26 (0, 0))] rfl ?_
   refine ln (qx rfl (kt_end (by kernel_rfl) ?_))
   refine qc (cS (cS (cr (kl_ldW rfl rfl (cm9 H258 (orHp (orHp (orHp Hmc Hcv) Hca) Hcr) (fun c263 => ?_))))))
   have h262 := OwnL.consK o259 c263
   refine cP rfl rfl (validMod_ok (⟨m.doms, (m.cons ++ [c])⟩ : Mod) ‹_› ‹_›) ?_
   refine nt9 rfl (ln (qc (cd9 rfl (fun c264 => ?_) (fun c264 => ?_))))
   ·have c264r := c264
    try simp only [smpE] at c264
    have hv := c264r
    have hv2 : validModB (withC m c) = false := by simpa [withC] using hv
    refine cS (cr (kl_bd rfl cp_nil rfl ?_))
    refine kl_stW (us := [.slice none 0 0, .slice none 0 0]) rfl rfl rfl rfl (oc rfl (oc rfl oc_nil)) rfl ?_
    refine cg [H258, sing b241 (.cells [vmd, v257].toArray 26 (0, 0)), sing b9 (.cells [.slice none 0 0, .slice none 0 0].toArray 26 (0, 0))] rfl ?_
    refine sg rfl (ln (qc (rt (kq_cmp noHp noHp (fun c265 => ?_)))))
    exact kq_retR (rss2 rfl (rs_agg rfl rfl) (rs_tmp rfl)) (orHp noHp noHp) (fr_or (fr_no _) (fr_no _)) ⟨(⟨[], []⟩ : Mod), false, _, _, rfl, (Sl.mono Sl.nil (fun b o h => orL b o h) (fun _ _ h => h)), (Sl.mono Sl.nil (fun b o h => orC c265 b o h) (fun _ _ h => h)), by first | exact (wc_no hv2).symm | exact (wc_yes hv2).symm⟩ .none
   ·have c264r := c264
    try simp only [smpE] at c264
    have hv := c264r
    have hv2 : validModB (withC m c) = true := by simpa [withC] using hv
    refine sk (qc (cS (cr (kl_ldW rfl rfl (cm9 H258 (orHp (orHp (orHp Hmc Hcv) Hca) Hcr) (fun c267 => ?_))))))
    have h266 := OwnL.consK o259 c267
    refine kl_call rfl rfl (copyModI_ok (⟨m.doms, (m.cons ++ [c])⟩ : Mod) (ok_small ⟨hv2⟩) ‹_› ‹_›) (fun v268 H269 f270 h271 => ?_)
    obtain ⟨u272, u273, rfl, h274, h275⟩ := h271
    refine kl_stW (us := [u272, u273]) rfl rfl rfl rfl (oc (Sl.oneCell ‹_›) (oc (Sl.oneCell ‹_›) oc_nil)) rfl ?_
    refine cg [H258, sing b241 (.cells [vmd, v257].toArray 26 (0, 0)), sing b9 (.cells [u272, u273].toArray 26 (0, 0))] rfl ?_
    refine sg rfl (ln (qc (rt (kq_cmp H269 H269 (fun c276 => ?_)))))
    exact kq_retR (rss2 rfl (rs_agg rfl rfl) (rs_tmp rfl)) (orHp H269 H269) (fr_or f270 f270) ⟨(⟨(⟨m.doms, (m.cons ++ [c])⟩ : Mod).doms, (⟨m.doms, (m.cons ++ [c])⟩ : Mod).cons⟩ : Mod), true, _, _, rfl, (Sl.mono ‹_› (fun b o h => orL b o h) (fun _ _ h => h)), (Cons.mono' ‹_› (fun b o h => orC c276 b o h)), by first | exact (wc_no hv2).symm | exact (wc_yes hv2).symm⟩ .none
  ·refine kl_bsK rfl (fun v277 H278 f279 r280 => ?_)
   refine ln (qa nsl (ta 4 rfl (kl_callL rfl rfl (cloneC_ok m.cons (by omega) ‹_›) (fun v281 H282 f283 o284 => ?_))))
   refine ln (qa nsl (ta 7 rfl (cm9 Hmc Hcv (fun c285 => ?_))))
   have o286 := OwnL.mono (K' := orHp Hmc Hcv) o284 orL
   refine cm9 (orHp Hmc Hcv) Hca (fun c287 => ?_)
   have o288 := OwnL.mono (K' := orHp (orHp Hmc Hcv) Hca) o286 orL
   refine cm9 (orHp (orHp Hmc Hcv) Hca) Hcr (fun c289 => ?_)
   have o290 := OwnL.mono (K' := orHp (orHp (orHp Hmc Hcv) Hca) Hcr) o288 orL
   refine aL9 c rfl rfl o290 r280 ⟨_, _, _, rfl, (Sl.mono ‹_› (fun b o h => orL b o (orL b o (orC c285 b o h))) (fun _ _ h => h)), (Sl.mono ‹_› (fun b o h => orL b o (orC c287 b o h)) (fun _ _ h => h)), (Rows.mono' ‹_› (fun b o h => orC c289 b o h))⟩ (oc rfl (oc (Sl.oneCell ‹_›) (oc (Sl.oneCell ‹_›) (oc rfl (oc (Sl.oneCell ‹_›) oc_nil))))) (by (simp; omega)) (by decide) (fun v291 H292 o293 f294 => ?_)
   have f295 := f294 B f283 (Nat.le_refl _)
   refine ln (qa nsl (ta 8 rfl (kl_bd rfl (cp (Sl.cells ‹_›) (cp (OwnL.cells ‹_›) cp_nil)) rfl ?_)))
   refine ln (qx rfl (ta 10 rfl (kl_stW (us := [vmd, v291]) rfl rfl rfl rfl (oc (Sl.oneCell ‹_›) (oc (OwnL.oneCell ‹_›) oc_nil)) rfl ?_)))
   refine cg [H292, sing b241 (.cells [vmd, v291].toArray 26 (0, 0)), sing b9 (.cells [.slice none 0 0, .slice none 0 0].toArray 26 (0, 0))] rfl ?_
   refine ln (qx rfl (kt_end (by kernel_rfl) ?_))
   refine qc (cS (cS (cr (kl_ldW rfl rfl (cm9 H292 (orHp (orHp (orHp Hmc Hcv) Hca) Hcr) (fun c297 => ?_))))))
   have h296 := OwnL.consK o293 c297
   refine cP rfl rfl (validMod_ok (⟨m.doms, (m.cons ++ [c])⟩ : Mod) ‹_› ‹_›) ?_
   refine nt9 rfl (ln (qc (cd9 rfl (fun c298 => ?_) (fun c298 => ?_))))
   ·have c298r := c298
    try simp only [smpE] at c298
    have hv := c298r
    have hv2 : validModB (withC m c) = false := by simpa [withC] using hv
    refine cS (cr (kl_bd rfl cp_nil rfl ?_))
    refine kl_stW (us := [.slice none 0 0, .slice none 0 0]) rfl rfl rfl rfl (oc rfl (oc rfl oc_nil)) rfl ?_
    refine cg [H292, sing b241 (.cells [vmd, v291].toArray 26 (0, 0)), sing b9 (.cells [.slice none 0 0, .slice none 0 0].toArray 26 (0, 0))] rfl ?_
    refine sg rfl (ln (qc (rt (kq_cmp noHp noHp (fun c299 => ?_)))))
    exact kq_retR (rss2 rfl (rs_agg rfl rfl) (rs_tmp rfl)) (orHp noHp noHp) (fr_or (fr_no _) (fr_no _)) ⟨(⟨[], []⟩ : Mod), false, _, _, rfl, (Sl.mono Sl.nil (fun b o h => orL b o h) (fun _ _ h => h)), (Sl.mono Sl.nil (fun b o h => orC c299 b o h) (fun _ _ h => h)), by first | exact (wc_no hv2).symm | exact (wc_yes hv2).symm⟩ .none
   ·have c298r := c298
    try simp only [smpE] at c298
    have hv := c298r
    have hv2 : validModB (withC m c) = true := by simpa [withC] using hv
    refine sk (qc (cS (cr (kl_ldW rfl rfl (cm9 H292 (orHp (orHp (orHp Hmc Hcv) Hca) Hcr) (fun c301 => ?_))))))
    have h300 := OwnL.consK o293 c301
    refine kl_call rfl rfl (copyModI_ok (⟨m.doms, (m.cons ++ [c])⟩ : Mod) (ok_small ⟨hv2⟩) ‹_› ‹_›) (fun v302 H303 f304 h305 => ?_)
    obtain ⟨u306, u307, rfl, h308, h309⟩ := h305
    refine kl_stW (us := [u306, u307]) rfl rfl rfl rfl (oc (Sl.oneCell ‹_›) (oc (Sl.oneCell ‹_›) oc_nil)) rfl ?_
    refine cg [H292, sing b241 (.cells [vmd, v291].toArray 26 (0, 0)), sing b9 (.cells [u306, u307].toArray 26 (0, 0))] rfl ?_
    refine sg rfl (ln (qc (rt (kq_cmp H303 H303 (fun c310 => ?_)))))
    exact kq_retR (rss2 rfl (rs_agg rfl rfl) (rs_tmp rfl)) (orHp H303 H303) (fr_or f304 f304) ⟨(⟨(⟨m.doms, (m.cons ++ [c])⟩ : Mod).doms, (⟨m.doms, (m.cons ++ [c])⟩ : Mod).cons⟩ : Mod), true, _, _, rfl, (Sl.mono ‹_› (fun b o h => orL b o h) (fun _ _ h => h)), (Cons.mono' ‹_› (fun b o h => orC c310 b o h)), by first | exact (wc_no hv2).symm | exact (wc_yes hv2).symm⟩ .none
theorem belowI_ok {Hmd : Hp} {vmd : Value} {Hmc : Hp} {vmc : Value} {Hobj : Hp} {vobj : Value} (m : Mod) (obj : List Int) (b : Int) (hl : m.cons.length ≤ 100) (ho : obj.length ≤ 100) (hmd : Ints Hmd vmd m.doms) (hmc : Cons Hmc vmc m.cons) (hobj : Ints Hobj vobj obj) : Spec Tryz.prog 71 [.agg #[vmd, vmc], vobj, .int .i64 b] [Hmd, Hmc, Hobj] (fun Hq vq => ∃ (mq : Mod) (bq : Bool) (uq0a uq0b : Value), vq = .tuple #[.agg #[uq0a, uq0b], .bool bq] ∧ Ints Hq uq0a mq.doms ∧ Cons Hq uq0b mq.cons ∧ (mq, bq) = wcR m (lowC obj.length obj b)) := by
 refine spec_ofR Tryz.func71 rfl rfl rfl (fun B => ?_)
 refine cS (cr (kl_box rfl rfl (fun p1 H2 f3 a4 => ?_)))
 refine kl_alloc (cs := [.slice none 0 0, .slice none 0 0]) rfl (fun b5 hb6 => ?_)
 refine sg rfl (ln (qc (cS (cr (mv rfl (le9 rfl ‹_› (fun l7 => ?_)))))))
 refine kl_mkL0 (R := IntV) rfl rfl (by omega) (by omega) (by decide) (fun v8 H9 f10 o11 => ?_)
 refine sg rfl (ln (qc (cS (cS (cr (mv rfl (le9 rfl ‹_› (fun l12 => ?_))))))))
 refine mv rfl (ln (qc (bl (kc_loopL (A := Nat × List Int × Value × Hp) (fun zz => (zz.1 ≤ obj.length) ∧ (zz.2.1 = iotaN zz.1) ∧ OwnL 3 1 zz.2.2.2 noHp IntV zz.2.2.1 zz.2.1 ∧ Fr B zz.2.2.2) (fun zz => obj.length - zz.1) (fun zz => [zz.2.2.2, sing b5 (.cells [.slice none 0 0, .slice none 0 0].toArray 26 (0, 0))]) (fun zz => [(15, .int .i64 (zz.1 : Int)), (8, zz.2.2.1)]) (0, ([]), v8, H9) (pk [1, 2, 3, 6, 7, 14] rfl) (pk [15, 8] rfl) rfl ⟨Nat.zero_le _, rfl, o11, f10⟩ ?_))))
 rintro ⟨k, vs, v18, H15⟩ hJ19
 obtain ⟨hk13, hi14, o16, f17⟩ : (k ≤ obj.length) ∧ (vs = iotaN k) ∧ OwnL 3 1 H15 noHp IntV v18 vs ∧ Fr B H15 := hJ19
 change KC _ _ (_) [H15, sing b5 (.cells [.slice none 0 0, .slice none 0 0].toArray 26 (0, 0))] _ ([(15, .int .i64 (k : Int)), (8, v18)] ++ _)
 refine cS (cr (ls9 rfl rfl ?_))
 refine ln (qc (cS (ci9 rfl (fun c20 => ?_) (fun c20 => ?_))))
 ·refine sk (qc (cS (bl (cS (cr (mv rfl (sg rfl (ln (qc (cr ?_))))))))))
  refine mv rfl (mv rfl (bs9 rfl rfl rfl (by decide) (ca rfl ca_nil) (fun v21 H22 f23 r24 s25 => ?_)))
  have h26 : Ints H22 v21 [(k : Int)] := litInts (xs := [(k : Int)]) (by simpa using s25)
  refine aL9 (k : Int) rfl rfl o16 ‹_› rfl (oc rfl oc_nil) (by (have h9 := congrArg List.length hi14; rw [iota_len] at h9; omega)) (by decide) (fun v27 H28 o29 f30 => ?_)
  have f31 := f30 B f17 (Nat.le_refl _)
  refine sg rfl (ln (qc (cr (ic9 rfl rfl (by omega) ?_))))
  refine mv rfl (ln (tk [H28, sing b5 (.cells [.slice none 0 0, .slice none 0 0].toArray 26 (0, 0))] ?_))
  refine rL ((k + 1), (vs ++ [(k : Int)]), v27, H28) (by omega) (⟨by omega, (iotaN_step hi14), o29, f31⟩) (pk [15, 8] rfl) (pk [1, 2, 3, 6, 7, 14] rfl) rfl slr9
 ·refine ex9 (qc (cS (cr (kl_ldS rfl ‹_› rfl ?_))))
  refine mv rfl (mv rfl (mv rfl (kl_bd rfl (cp rfl (cp (OwnL.cells ‹_›) (cp (Sl.cells ‹_›) (cp rfl cp_nil)))) rfl ?_)))
  refine kl_call rfl rfl (withI_ok m ⟨(1 : Int), vs, obj, b, []⟩ hl ‹_› ‹_› (OwnL.ints o16) ‹_› (Sl.nil (H := noHp))) (fun v32 H33 f34 h35 => ?_)
  obtain ⟨z38, z43, u39, u40, rfl, h41, h42, h37⟩ := h35
  have hwc := h37
  refine kl_xt rfl rfl (kl_xt rfl rfl (kl_stW (us := [u39, u40]) rfl rfl rfl rfl (oc (Sl.oneCell ‹_›) (oc (Sl.oneCell ‹_›) oc_nil)) rfl ?_))
  refine cg [H15, sing b5 (.cells [u39, u40].toArray 26 (0, 0))] rfl ?_
  refine sg rfl (ln (qc (rt (kq_cmp H33 H33 (fun c44 => ?_)))))
  exact kq_retR (rss2 rfl (rs_agg rfl rfl) (rs_tmp rfl)) (orHp H33 H33) (fr_or f34 f34) ⟨(⟨z38.doms, z38.cons⟩ : Mod), z43, _, _, rfl, (Sl.mono ‹_› (fun b o h => orL b o h) (fun _ _ h => h)), (Cons.mono' ‹_› (fun b o h => orC c44 b o h)), by (have h9 := hi14; rw [show k = obj.length from by omega] at h9; rw [h9] at hwc; exact hwc)⟩ .none
theorem boundedI_ok {Hmd : Hp} {vmd : Value} {Hmc : Hp} {vmc : Value} {Hobj : Hp} {vobj : Value} (m : Mod) (obj : List Int) (b : Int) (hmd : Ints Hmd vmd m.doms) (hmc : Cons Hmc vmc m.cons) (hobj : Ints Hobj vobj obj) : Spec Tryz.prog 37 [.agg #[vmd, vmc], vobj, .int .i64 b] [Hmd, Hmc, Hobj] (fun Hq vq => ∃ (mq : Mod) (bq : Bool) (uq0a uq0b : Value), vq = .tuple #[.agg #[uq0a, uq0b], .bool bq] ∧ Ints Hq uq0a mq.doms ∧ Cons Hq uq0b mq.cons ∧ (mq, bq) = bdR m obj b) := by
 refine spec_ofR Tryz.func37 rfl rfl rfl (fun B => ?_)
 refine cS (cr (kl_box rfl rfl (fun p1 H2 f3 a4 => ?_)))
 refine kl_alloc (cs := [.slice none 0 0, .slice none 0 0]) rfl (fun b5 hb6 => ?_)
 refine sg rfl (ln (qc (cS (cS (cr (kl_ldS rfl ‹_› rfl ?_))))))
 refine mv rfl (cP rfl rfl (objectiveOk_ok m obj ‹_› ‹_› ‹_›) ?_)
 refine nt9 rfl (mv rfl (jn 4 16 (.bool (!(objOkB m obj) || !(withinB b (-998 : Int) (1000 : Int)))) (pk [1, 2, 3, 6, 7, 12] rfl) (fun J8 => ?_) ?_))
 ·rcases Bool.eq_false_or_eq_true (!(objOkB m obj)) with g7 | g7
  ·refine gF rfl rfl g7 (gF rfl rfl g7 (gF rfl rfl g7 (oT (!(withinB b (-998 : Int) (1000 : Int))) rfl rfl g7 ?_)))
   exact J8 _ (pk [16, 1, 2, 3, 6, 7, 12] rfl)
  ·have g7p := g7
   try simp only [smpD] at g7p
   refine gT rfl rfl g7 (mv rfl (gT rfl rfl g7 (cP rfl rfl (within_ok b (-998 : Int) (1000 : Int)) ?_)))
   refine gT rfl rfl g7 (nt9 rfl (oF rfl rfl g7 ?_))
   exact J8 _ (pk [16, 1, 2, 3, 6, 7, 12] rfl)
 refine ln (qc (cd9 rfl (fun c9 => ?_) (fun c9 => ?_)))
 ·have c9r := c9
  try simp only [smpE] at c9
  have hno := c9r
  refine cS (cr (kl_bd rfl cp_nil rfl ?_))
  refine kl_stW (us := [.slice none 0 0, .slice none 0 0]) rfl rfl rfl rfl (oc rfl (oc rfl oc_nil)) rfl ?_
  refine cg [sing b5 (.cells [.slice none 0 0, .slice none 0 0].toArray 26 (0, 0))] rfl ?_
  refine sg rfl (ln (qc (rt (kq_cmp noHp noHp (fun c10 => ?_)))))
  exact kq_retR (rss2 rfl (rs_agg rfl rfl) (rs_tmp rfl)) (orHp noHp noHp) (fr_or (fr_no _) (fr_no _)) ⟨(⟨[], []⟩ : Mod), false, _, _, rfl, (Sl.mono Sl.nil (fun b o h => orL b o h) (fun _ _ h => h)), (Sl.mono Sl.nil (fun b o h => orC c10 b o h) (fun _ _ h => h)), by first | exact (bd_no hno).symm | (rw [bd_yes hgo]; exact hbl)⟩ .none
 ·have c9r := c9
  try simp only [smpE] at c9
  have hgo := c9r
  have hok := bd_ok hgo
  refine sk (qc (cS (cr (kl_ldS rfl ‹_› rfl ?_))))
  refine mv rfl (mv rfl (sb9 rfl rfl (by omega) ?_))
  refine kl_call rfl rfl (belowI_ok m obj (b - (1 : Int)) hok.1 hok.2.1 ‹_› ‹_› ‹_›) (fun v11 H12 f13 h14 => ?_)
  obtain ⟨z17, z22, u18, u19, rfl, h20, h21, h16⟩ := h14
  have hbl := h16
  refine kl_xt rfl rfl (kl_xt rfl rfl (kl_stW (us := [u18, u19]) rfl rfl rfl rfl (oc (Sl.oneCell ‹_›) (oc (Sl.oneCell ‹_›) oc_nil)) rfl ?_))
  refine cg [sing b5 (.cells [u18, u19].toArray 26 (0, 0))] rfl ?_
  refine sg rfl (ln (qc (rt (kq_cmp H12 H12 (fun c23 => ?_)))))
  exact kq_retR (rss2 rfl (rs_agg rfl rfl) (rs_tmp rfl)) (orHp H12 H12) (fr_or f13 f13) ⟨(⟨z17.doms, z17.cons⟩ : Mod), z22, _, _, rfl, (Sl.mono ‹_› (fun b o h => orL b o h) (fun _ _ h => h)), (Cons.mono' ‹_› (fun b o h => orC c23 b o h)), by first | exact (bd_no hno).symm | (rw [bd_yes hgo]; exact hbl)⟩ .none
theorem restrI_ok (n : Nat) {Hds : Hp} {vds : Value} {Hc : Hp} {vc : Value} (ds : List Int) (c : List Lit) (hd : DOk n ds) (hci : ClIn n c) (hn : n ≤ 4) (hds : Ints Hds vds ds) (hc : Lits Hc vc c) : Spec Tryz.prog 125 [vds, vc] [Hds, Hc] (fun Hq vq => Ints Hq vq (rstL ds c)) := by
 refine spec_of Tryz.func125 rfl rfl rfl (fun B => ?_)
 refine cS (cr (sg rfl (ln (qc (cS (cr (mv rfl (kl_callL rfl rfl (copied_ok ds (by have := hd.l; omega) ‹_›) (fun v1 H2 f3 o4 => ?_)))))))))
 refine sg rfl (ln (qc (cS (cS (cr (mv rfl (le9 rfl ‹_› (fun l5 => ?_))))))))
 refine mv rfl (ln (qc (bl (kc_loopL (A := Nat × List Int × Hp) (fun zz => (zz.1 ≤ c.length) ∧ (zz.2.1 = rstL ds (c.take zz.1)) ∧ OwnL 3 1 zz.2.2 noHp IntV v1 zz.2.1 ∧ Fr B zz.2.2) (fun zz => c.length - zz.1) (fun zz => [zz.2.2]) (fun zz => [(12, .int .i64 (zz.1 : Int))]) (0, ds, H2) (pk [4, 5, 10, 11] rfl) (pc 12 rfl pn) rfl ⟨Nat.zero_le _, rfl, o4, f3⟩ ?_))))
 rintro ⟨k, xs, H8⟩ hJ11
 obtain ⟨hk6, hi7, o9, f10⟩ : (k ≤ c.length) ∧ (xs = rstL ds (c.take k)) ∧ OwnL 3 1 H8 noHp IntV v1 xs ∧ Fr B H8 := hJ11
 change KC _ _ (_) [H8] _ ([(12, .int .i64 (k : Int))] ++ _)
 have hxl : xs.length = n := (by rw [hi7]; exact (rstL_ok hd (fun l hl => hci l (List.mem_of_mem_take hl))).1.l)
 refine cS (cr (ls9 rfl rfl ?_))
 refine ln (qc (cS (ci9 rfl (fun c12 => ?_) (fun c12 => ?_))))
 ·have hlk := hci _ (getD_mem (d := nilLit) (by omega : k < c.length))
  have hlv := hlk.1
  have hlu := hlk.2
  refine sk (qc (cS (bl (cS (cr (kl_inQ rfl rfl ‹_› (by first | omega | (simp; omega)) (fun p13 a14 => ?_)))))))
  refine kl_ldS rfl ‹_› rfl ?_
  refine kl_alloc (cs := [.int .i64 (0 : Int), .int .i64 (0 : Int), .bool false]) rfl (fun b15 hb16 => ?_)
  refine kl_stW (us := [.int .i64 ((c.getD k nilLit).var), .int .i64 ((c.getD k nilLit).val), .bool ((c.getD k nilLit).neg)]) rfl rfl rfl rfl (oc rfl (oc rfl (oc rfl oc_nil))) rfl ?_
  refine cg [sing b15 (.cells [.int .i64 ((c.getD k nilLit).var), .int .i64 ((c.getD k nilLit).val), .bool ((c.getD k nilLit).neg)].toArray 100 (0, 0)), H8] rfl ?_
  refine ln (qc (kc_tree (fun i => ([9] : List Nat).contains i) [sing b15 (.cells [.int .i64 ((c.getD k nilLit).var), .int .i64 ((c.getD k nilLit).val), .bool ((c.getD k nilLit).neg)].toArray 100 (0, 0)), H8] (by kernel_rfl) ?_))
  refine kt_q 0 (.cons_cons _ (.cons_cons _ nsl)) rfl (by kernel_rfl) (mv rfl (ln (qq (kt_q 1 (.cons_cons _ (.cons_cons _ nsl)) rfl (by kernel_rfl) (fV rfl (ln (qq (kt_q 2 (.cons_cons _ (.cons_cons _ nsl)) rfl (by kernel_rfl) (ld rfl (at_box (T := 100) (cs := [.int .i64 ((c.getD k nilLit).var), .int .i64 ((c.getD k nilLit).val), .bool ((c.getD k nilLit).neg)]) (off := 0) (fz := (0, 0))) ?_)))))))))
  refine ln (qq (kt_q 3 (.cons_cons _ (.cons_cons _ nsl)) rfl (by kernel_rfl) (kl_ixL rfl rfl ‹_› (by first | omega | (simp; omega)) (by first | omega | (simp; omega)) (fun p17 q18 => ?_))))
  refine ln (qq (kt_q 4 (.cons_cons _ (.cons_cons _ nsl)) rfl (by kernel_rfl) (kl_ldLIe rfl ‹_› ‹_› (by first | omega | (simp; omega)) ?_)))
  refine ln (qq (kt_q 5 (.cons_cons _ (.cons_cons _ nsl)) rfl (by kernel_rfl) (kl_ldS rfl (at_box (T := 100) (cs := [.int .i64 ((c.getD k nilLit).var), .int .i64 ((c.getD k nilLit).val), .bool ((c.getD k nilLit).neg)]) (off := 0) (fz := (0, 0))) rfl ?_)))
  refine ln (qq (ta 6 rfl (cP rfl rfl (truesL_ok (c.getD k nilLit) (by omega)) ?_)))
  refine ln (qa (.cons_cons _ (.cons_cons _ nsl)) (kt_q 7 (.cons_cons _ (.cons_cons _ nsl)) rfl (by kernel_rfl) (kl_and rfl rfl ?_)))
  refine ln (qq (kt_q 8 (.cons_cons _ (.cons_cons _ nsl)) rfl (by kernel_rfl) (kl_ixL rfl rfl ‹_› (by first | omega | (simp; omega)) (by first | omega | (simp; omega)) (fun p19 q20 => ?_))))
  refine ln (qq (ta 9 rfl (kl_stL (iand (xs.getD (((c.getD k nilLit).var).toNat) 0) (truesI (c.getD k nilLit))) rfl rfl ‹_› o9 (by first | omega | (simp; omega)) rfl rfl rfl (fun H21 o22 f23 => ?_))))
  have f24 := f23 _ f10
  refine cg [sing b15 (.cells [.int .i64 ((c.getD k nilLit).var), .int .i64 ((c.getD k nilLit).val), .bool ((c.getD k nilLit).neg)].toArray 100 (0, 0)), H21] rfl ?_
  refine ln (qx rfl (kt_end (by kernel_rfl) ?_))
  refine qc (cr (ic9 rfl rfl (by omega) ?_))
  refine mv rfl (ln (tk [H21] ?_))
  refine rL ((k + 1), (xs.set (((c.getD k nilLit).var).toNat) (iand (xs.getD (((c.getD k nilLit).var).toNat) 0) (truesI (c.getD k nilLit)))), H21) (by omega) (⟨by omega, (by rw [← rst_step (by omega), ← hi7]; rfl), o22, f24⟩) (pc 12 rfl pn) (pk [4, 5, 10, 11] rfl) rfl slr9
 ·refine ex9 (qc (cS (cr (mv rfl (sg rfl (ln (qc (rt ?_))))))))
  have e9 : xs = rstL ds c := by (rw [hi7, List.take_of_length_le (by omega)])
  exact kq_ret rfl rfl H8 f10 (e9 ▸ OwnL.ints o9)
theorem unitI_ok (n : Nat) {Hc : Hp} {vc : Value} {Hds : Hp} {vds : Value} (c : List Lit) (ds : List Int) (hd : DOk n ds) (hci : ClIn n c) (hn : n ≤ 4) (hc : Lits Hc vc c) (hds : Ints Hds vds ds) : Spec Tryz.prog 165 [vc, vds] [Hc, Hds] (fun Hq vq => Ints Hq vq (unitL c ds)) := by
 have hdl := hd.l
 refine spec_of Tryz.func165 rfl rfl rfl (fun B => ?_)
 refine cS (cr (sg rfl (ln (qc (cS (cr (kl_bd rfl cp_nil rfl ?_)))))))
 refine kl_alloc (cs := [.int .i64 (0 : Int), .int .i64 (0 : Int), .bool false]) rfl (fun b1 hb2 => ?_)
 refine kl_stW (us := [.int .i64 (0 : Int), .int .i64 (0 : Int), .bool false]) rfl rfl rfl rfl (oc rfl (oc rfl (oc rfl oc_nil))) rfl ?_
 refine cg [sing b1 (.cells [.int .i64 (0 : Int), .int .i64 (0 : Int), .bool false].toArray 100 (0, 0))] rfl ?_
 refine sg rfl (ln (qc (cS (cS (cr (mv rfl (le9 rfl ‹_› (fun l3 => ?_))))))))
 refine mv rfl (ln (qc (bl (kc_loopL (A := Nat × Int × Int × Int × Bool) (fun zz => (zz.1 ≤ c.length) ∧ (zz.2.1 = ((opnL (c.take zz.1) ds).length : Int) ∧ LstL (opnL (c.take zz.1) ds) ⟨zz.2.2.1, zz.2.2.2.1, zz.2.2.2.2⟩)) (fun zz => c.length - zz.1) (fun zz => [sing b1 (.cells [.int .i64 zz.2.2.1, .int .i64 zz.2.2.2.1, .bool zz.2.2.2.2].toArray 100 (0, 0))]) (fun zz => [(12, .int .i64 (zz.1 : Int)), (6, .int .i64 zz.2.1)]) (0, (0 : Int), (0 : Int), (0 : Int), false) (pk [1, 4, 5, 10, 11] rfl) (pk [12, 6] rfl) rfl ⟨Nat.zero_le _, ⟨rfl, rfl⟩⟩ ?_))))
 rintro ⟨k, q, la, lb, lc⟩ hJ6
 obtain ⟨hk4, hi5⟩ : (k ≤ c.length) ∧ (q = ((opnL (c.take k) ds).length : Int) ∧ LstL (opnL (c.take k) ds) ⟨la, lb, lc⟩) := hJ6
 change KC _ _ (_) [sing b1 (.cells [.int .i64 la, .int .i64 lb, .bool lc].toArray 100 (0, 0))] _ ([(12, .int .i64 (k : Int)), (6, .int .i64 q)] ++ _)
 have hql := opn_len c ds k
 refine cS (cr (ls9 rfl rfl ?_))
 refine ln (qc (cS (ci9 rfl (fun c7 => ?_) (fun c7 => ?_))))
 ·have hlk := hci _ (getD_mem (d := nilLit) (by omega : k < c.length))
  have hlv := hlk.1
  have hlu := hlk.2
  refine sk (qc (cS (bl (cS (cr (kl_inQ rfl rfl ‹_› (by omega) (fun p8 a9 => ?_)))))))
  refine kl_ldS rfl ‹_› rfl ?_
  refine kl_alloc (cs := [.int .i64 (0 : Int), .int .i64 (0 : Int), .bool false]) rfl (fun b10 hb11 => ?_)
  refine kl_stW (us := [.int .i64 ((c.getD k nilLit).var), .int .i64 ((c.getD k nilLit).val), .bool ((c.getD k nilLit).neg)]) rfl rfl rfl rfl (oc rfl (oc rfl (oc rfl oc_nil))) rfl ?_
  refine cg [sing b10 (.cells [.int .i64 ((c.getD k nilLit).var), .int .i64 ((c.getD k nilLit).val), .bool ((c.getD k nilLit).neg)].toArray 100 (0, 0)), sing b1 (.cells [.int .i64 la, .int .i64 lb, .bool lc].toArray 100 (0, 0))] rfl ?_
  refine ln (qc (cS (kc_tree (fun i => ([] : List Nat).contains i) [sing b10 (.cells [.int .i64 ((c.getD k nilLit).var), .int .i64 ((c.getD k nilLit).val), .bool ((c.getD k nilLit).neg)].toArray 100 (0, 0))] (by kernel_rfl) ?_)))
  refine tq 0 (.cons_cons _ nsl) rfl (mv rfl (ln (qq (tq 1 (.cons_cons _ nsl) rfl (fV rfl (ln (qq (tq 2 (.cons_cons _ nsl) rfl (ld rfl (at_box (T := 100) (cs := [.int .i64 ((c.getD k nilLit).var), .int .i64 ((c.getD k nilLit).val), .bool ((c.getD k nilLit).neg)]) (off := 0) (fz := (0, 0))) ?_)))))))))
  refine ln (qq (tq 3 (.cons_cons _ nsl) rfl (kl_ixI rfl rfl ‹_› (by omega) (by omega) (fun p12 a13 => ?_))))
  refine ln (qq (tq 4 (.cons_cons _ nsl) rfl (ld rfl ‹_› (ln (qq (tq 5 (.cons_cons _ nsl) rfl (kl_ldS rfl (at_box (T := 100) (cs := [.int .i64 ((c.getD k nilLit).var), .int .i64 ((c.getD k nilLit).val), .bool ((c.getD k nilLit).neg)]) (off := 0) (fz := (0, 0))) rfl ?_)))))))
  refine ln (qq (ta 6 rfl (cP rfl rfl (truesL_ok (c.getD k nilLit) (by first | omega | (have h9 := un_last hci hi5 (by omega) (by omega); exact h9.2.1))) ?_)))
  refine ln (qa (.cons_cons _ nsl) (tq 7 (.cons_cons _ nsl) rfl (kl_and rfl rfl ?_)))
  refine ln (qq (tq 8 (.cons_cons _ nsl) rfl (kl_neq rfl rfl ?_)))
  refine ln (qq (kt_end (by kernel_rfl) ?_))
  refine qc (ci9 rfl (fun c14 => ?_) (fun c14 => ?_))
  ·refine cS (cr (kl_ldW rfl rfl (kl_stW (us := [.int .i64 ((c.getD k nilLit).var), .int .i64 ((c.getD k nilLit).val), .bool ((c.getD k nilLit).neg)]) rfl rfl rfl rfl (oc rfl (oc rfl (oc rfl oc_nil))) rfl ?_)))
   refine cg [sing b10 (.cells [.int .i64 ((c.getD k nilLit).var), .int .i64 ((c.getD k nilLit).val), .bool ((c.getD k nilLit).neg)].toArray 100 (0, 0)), sing b1 (.cells [.int .i64 ((c.getD k nilLit).var), .int .i64 ((c.getD k nilLit).val), .bool ((c.getD k nilLit).neg)].toArray 100 (0, 0))] rfl ?_
   refine ln (qc (cr (mv rfl (ad9 rfl rfl (by omega) ?_))))
   refine sg rfl (ln (qc (cr (ic9 rfl rfl (by omega) ?_))))
   refine mv rfl (ln (tk [sing b1 (.cells [.int .i64 ((c.getD k nilLit).var), .int .i64 ((c.getD k nilLit).val), .bool ((c.getD k nilLit).neg)].toArray 100 (0, 0))] ?_))
   refine rL ((k + 1), (q + (1 : Int)), ((c.getD k nilLit).var), ((c.getD k nilLit).val), ((c.getD k nilLit).neg)) (by omega) (⟨by omega, (by first | exact un_T hi5 (by omega) ‹_› | exact un_F hi5 (by omega) ‹_›)⟩) (pk [12, 6] rfl) (pk [1, 4, 5, 10, 11] rfl) rfl slr9
  ·refine sk (qc (cr (ic9 rfl rfl (by omega) ?_)))
   refine mv rfl (ln (tk [sing b1 (.cells [.int .i64 la, .int .i64 lb, .bool lc].toArray 100 (0, 0))] ?_))
   refine rL ((k + 1), q, la, lb, lc) (by omega) (⟨by omega, (by first | exact un_T hi5 (by omega) ‹_› | exact un_F hi5 (by omega) ‹_›)⟩) (pk [12, 6] rfl) (pk [1, 4, 5, 10, 11] rfl) rfl slr9
 ·refine ex9 (qc (cS (cS (cr (mv rfl (ln (qc (bl (cS (cr (eq9 rfl rfl ?_)))))))))))
  refine sg rfl (ln (qc (ci9 rfl (fun c15 => ?_) (fun c15 => ?_))))
  ·refine cS (cr (mv rfl (le9 rfl ‹_› (fun l16 => ?_))))
   refine kl_mkL (R := IntV) (0 : Int) rfl rfl (by omega) (by decide) (by exact rfl) (fun v17 H18 f19 o20 => ?_)
   refine sg rfl (ln (qc (rt ?_)))
   have e9 : (List.replicate ds.length (0 : Int)) = unitL c ds := by (rw [un_0 hi5 (by omega) ‹_›]; rfl)
   exact kq_ret rfl rfl H18 f19 (e9 ▸ OwnL.ints o20)
  ·refine cS (cr (eq9 rfl rfl ?_))
   refine sg rfl (ln (qc (ci9 rfl (fun c21 => ?_) (fun c21 => ?_))))
   ·refine cS (kc_tree (fun i => ([5] : List Nat).contains i) [sing b1 (.cells [.int .i64 la, .int .i64 lb, .bool lc].toArray 100 (0, 0))] (by kernel_rfl) ?_)
    refine tq 0 (.cons_cons _ nsl) rfl (mv rfl (ln (qq (tq 1 (.cons_cons _ nsl) rfl (fV rfl (ln (qq (tq 2 (.cons_cons _ nsl) rfl (ld rfl (at_box (T := 100) (cs := [.int .i64 la, .int .i64 lb, .bool lc]) (off := 0) (fz := (0, 0))) (ln (qq ?_)))))))))))
    refine tq 3 (.cons_cons _ nsl) rfl (kl_ldS rfl (at_box (T := 100) (cs := [.int .i64 la, .int .i64 lb, .bool lc]) (off := 0) (fz := (0, 0))) rfl ?_)
    refine ln (qq (ta 4 rfl (cP rfl rfl (truesL_ok (⟨la, lb, lc⟩ : Lit) (by first | omega | (have h9 := un_last hci hi5 (by omega) (by omega); exact h9.2.1))) ?_)))
    refine ln (qa (.cons_cons _ nsl) (ta 5 rfl (kl_call rfl rfl (limited_ok ds la (truesI (⟨la, lb, lc⟩ : Lit)) (by omega) (by have h9 := un_last hci hi5 (by omega) (by omega); omega) ‹_›) (fun v22 H23 f24 h25 => ?_))))
    refine ln (qx rfl (tq 6 (.cons_cons _ nsl) rfl (sg rfl (ln (qq (kt_end (by kernel_rfl) ?_))))))
    refine qc (rt ?_)
    have e9 : (ds.set la.toNat (iand (ds.getD la.toNat 0) (truesI (⟨la, lb, lc⟩ : Lit)))) = unitL c ds := by (rw [un_1 hi5 (by omega) ‹_›]; rfl)
    exact kq_ret rfl rfl H23 f24 (e9 ▸ (by assumption : Ints _ _ (ds.set la.toNat (iand (ds.getD la.toNat 0) (truesI (⟨la, lb, lc⟩ : Lit))))))
   ·refine sk (qc (cS (cr (mv rfl (kl_call rfl rfl (copied_ok ds (by omega) ‹_›) (fun v26 H27 f28 o29 => ?_))))))
    have h30 := OwnL.ints o29
    refine sg rfl (ln (qc (rt ?_)))
    have e9 : ds = unitL c ds := by (rw [un_2 hi5 (by omega) ‹_› ‹_›])
    exact kq_ret rfl rfl H27 f28 (e9 ▸ (by assumption : Ints _ _ ds))
theorem wcl1_ok {Hds : Hp} {vds : Value} {Hmd : Hp} {vmd : Value} {Hmc : Hp} {vmc : Value} {Hpm : Hp} {ptrpm : Value} {Hcls : Hp} {vcls : Value} {Hpc : Hp} {ptrpc : Value} (ds : List Int) (m : Mod) (cls : List (List Lit)) (hM : MOk m) (hcl : ClsIn m.doms.length cls) (hd : DOk m.doms.length ds) (hds : Ints Hds vds ds) (hmd : Ints Hmd vmd m.doms) (hmc : Cons Hmc vmc m.cons) (apm : At Hpm ptrpm [vmd, vmc]) (hcls : LRows Hcls vcls cls) (apc : At Hpc ptrpc [vcls]) : Spec Tryz.prog 164 [vds, ptrpm, ptrpc] [Hds, Hmd, Hmc, Hpm, Hcls, Hpc] (fun Hq vq => Ints Hq vq (stepW m cls ds)) := by
 have hn := hM.n
 have hp := propOk hM hd
 refine spec_of Tryz.func164 rfl rfl rfl (fun B => ?_)
 refine cS (cr (sg rfl (ln (qc (cS (cr (kl_ldS rfl ‹_› rfl ?_)))))))
 refine mv rfl (kl_call rfl rfl (propagate_ok m ds hM hd ‹_› ‹_› ‹_›) (fun v1 H2 f3 h4 => ?_))
 refine sg rfl (ln (qc (cS (cS (cr (ld rfl ‹_› (le9 rfl ‹_› (fun l5 => ?_))))))))
 refine mv rfl (ln (qc (bl (kc_loopK (A := Nat × List Int × Value × Hp) (fun zz => (zz.1 ≤ cls.length) ∧ (zz.2.1 = unitA (cls.take zz.1) (prop m ds)) ∧ Fr B zz.2.2.2 ∧ Ints zz.2.2.2 zz.2.2.1 zz.2.1) (fun zz => cls.length - zz.1) (fun zz => zz.2.2.2) (fun zz => []) (fun zz => [(12, .int .i64 (zz.1 : Int)), (0, zz.2.2.1)]) (0, (prop m ds), v1, H2) (pk [4, 10, 11] rfl) (pk [12, 0] rfl) rfl ⟨Nat.zero_le _, rfl, f3, ‹_›⟩ ?_))))
 rintro ⟨k, xs, v8, K9⟩ hJ12
 obtain ⟨hk6, hi7, f10, h11⟩ : (k ≤ cls.length) ∧ (xs = unitA (cls.take k) (prop m ds)) ∧ Fr B K9 ∧ Ints K9 v8 xs := hJ12
 change KC _ _ (K9 :: _) [] _ ([(12, .int .i64 (k : Int)), (0, v8)] ++ _)
 refine cS (cr (ls9 rfl rfl ?_))
 refine ln (qc (cS (ci9 rfl (fun c13 => ?_) (fun c13 => ?_))))
 ·refine sk (qc (cS (bl (cS (cr (kl_inS rfl rfl ‹_› (by omega) (fun p14 u16 h17 a15 => ?_)))))))
  refine ld rfl ‹_› (sg rfl (ln (qc (cr (mv rfl (mv rfl (kl_call rfl rfl (unitI_ok m.doms.length (cls.getD k []) xs (by rw [hi7]; exact (unitA_ok hp.ok (cls_take hcl k)).1) (cls_at hcl (by omega)) hn.2 ‹_› ‹_›) (fun v18 H19 f20 h21 => ?_))))))))
  refine sg rfl (ln (qc (cr (ic9 rfl rfl (by omega) ?_))))
  refine mv rfl (ln (kq_roundK ((k + 1), (unitL (cls.getD k []) xs), v18, H19) (by omega) (⟨by omega, (by rw [← unitA_step (by omega), ← hi7]), f20, ‹_›⟩) (pk [12, 0] rfl) (pk [4, 10, 11] rfl) rfl slr9))
 ·refine ex9 (qc (cS (cr (mv rfl (sg rfl (ln (qc (rt ?_))))))))
  have e9 : xs = stepW m cls ds := by (rw [hi7, List.take_of_length_le (by omega)]; rfl)
  exact kq_ret rfl rfl K9 f10 (e9 ▸ (by assumption : Ints _ _ xs))
theorem fixW_ok {Hds : Hp} {vds : Value} {Hmd : Hp} {vmd : Value} {Hmc : Hp} {vmc : Value} {Hpm : Hp} {ptrpm : Value} {Hcls : Hp} {vcls : Value} {Hpc : Hp} {ptrpc : Value} (ds : List Int) (m : Mod) (cls : List (List Lit)) (hM : MOk m) (hcl : ClsIn m.doms.length cls) (hd : DOk m.doms.length ds) (hds : Ints Hds vds ds) (hmd : Ints Hmd vmd m.doms) (hmc : Cons Hmc vmc m.cons) (apm : At Hpm ptrpm [vmd, vmc]) (hcls : LRows Hcls vcls cls) (apc : At Hpc ptrpc [vcls]) : Spec Tryz.prog 135 [vds, .func (.func 164) #[] #[ptrpm, ptrpc]] [Hds, Hmd, Hmc, Hpm, Hcls, Hpc] (fun Hq vq => Ints Hq vq (wcl m cls ds)) := by
 refine spec_of Tryz.func135 rfl rfl rfl (fun B => ?_)
 refine cS (cr (sg rfl (ln (qc (cS (cr (mv rfl (kl_call rfl rfl (copied_ok ds (by have := hd.l; have := hM.n; omega) ‹_›) (fun v1 H2 f3 o4 => ?_)))))))))
 have h5 := OwnL.ints o4
 refine sg rfl (ln (qc (bl (kc_loopK (A := List Int × Value × Hp) (fun zz => (DOk m.doms.length zz.1 ∧ wcl m cls zz.1 = wcl m cls ds) ∧ Fr B zz.2.2 ∧ Ints zz.2.2 zz.2.1 zz.1) (fun zz => sumN zz.1) (fun zz => zz.2.2) (fun zz => []) (fun zz => [(5, zz.2.1)]) (ds, v1, H2) (pc 1 rfl pn) (pc 5 rfl pn) rfl ⟨⟨hd, rfl⟩, f3, ‹_›⟩ ?_))))
 rintro ⟨xs, v8, K9⟩ hJ12
 obtain ⟨hi7, f10, h11⟩ : (DOk m.doms.length xs ∧ wcl m cls xs = wcl m cls ds) ∧ Fr B K9 ∧ Ints K9 v8 xs := hJ12
 change KC _ _ (K9 :: _) [] _ ([(5, v8)] ++ _)
 have hD := hi7.1
 refine bl (cS (cS (cr (mv rfl (cP rfl rfl (containsInts_ok xs (0 : Int) ‹_›) ?_)))))
 refine ln (qc (cd9 rfl (fun c13 => ?_) (fun c13 => ?_)))
 ·have c13r := c13
  try simp only [smpE] at c13
  refine cS (cr (mv rfl (le9 rfl ‹_› (fun l14 => ?_))))
  refine kl_mkL (R := IntV) (0 : Int) rfl rfl (by (have := hD.l; have := hM.n; omega)) (by decide) (by exact rfl) (fun v15 H16 f17 o18 => ?_)
  refine sg rfl (ln (qc (rt ?_)))
  have e9 : (List.replicate xs.length (0 : Int)) = wcl m cls ds := by (rw [← hi7.2]; exact (wcl_0 ‹_›).symm)
  exact kq_ret rfl rfl H16 f17 (e9 ▸ OwnL.ints o18)
 ·have c13r := c13
  try simp only [smpE] at c13
  refine sk (qc (cS (cr (mv rfl (mv rfl (kl_call rfl rfl (wcl1_ok xs m cls hM hcl hD ‹_› ‹_› ‹_› ‹_› ‹_› ‹_›) (fun v19 H20 f21 h22 => ?_)))))))
  refine sg rfl (ln (qc (cS (cS (cr (mv rfl (mv rfl (cP rfl rfl (equal_ok (stepW m cls xs) xs ‹_› ‹_›) ?_))))))))
  refine ln (qc (cd9 rfl (fun c23 => ?_) (fun c23 => ?_)))
  ·have c23r := c23
   try simp only [smpE] at c23
   refine cS (cr (mv rfl (sg rfl (ln (qc (rt ?_))))))
   have e9 : xs = wcl m cls ds := by (rw [← hi7.2]; exact (wcl_fix ‹_› ‹_›).symm)
   exact kq_ret rfl rfl K9 f10 (e9 ▸ (by assumption : Ints _ _ xs))
  ·have c23r := c23
   try simp only [smpE] at c23
   refine sk (qc (cr (mv rfl (sg rfl (ln (kq_roundK ((stepW m cls xs), v19, H20) (by (dsimp only; exact stepW_lt hM hD hcl ‹_›)) (⟨⟨(stepW_ok hM hD hcl).1, (wcl_step hM hD hcl ‹_› ‹_›).trans hi7.2⟩, f21, ‹_›⟩) (pc 5 rfl pn) (pc 1 rfl pn) rfl slr9))))))
theorem wclI_ok {Hmd : Hp} {vmd : Value} {Hmc : Hp} {vmc : Value} {Hcls : Hp} {vcls : Value} {Hds : Hp} {vds : Value} (m : Mod) (cls : List (List Lit)) (ds : List Int) (hM : MOk m) (hcl : ClsIn m.doms.length cls) (hd : DOk m.doms.length ds) (hmd : Ints Hmd vmd m.doms) (hmc : Cons Hmc vmc m.cons) (hcls : LRows Hcls vcls cls) (hds : Ints Hds vds ds) : Spec Tryz.prog 124 [.agg #[vmd, vmc], vcls, vds] [Hmd, Hmc, Hcls, Hds] (fun Hq vq => Ints Hq vq (wcl m cls ds)) := by
 refine spec_of Tryz.func124 rfl rfl rfl (fun B => ?_)
 refine cS (cr (kl_box rfl rfl (fun p1 H2 f3 a4 => ?_)))
 refine kl_box rfl (Sl.cells ‹_›) (fun p5 H6 f7 a8 => ?_)
 refine sg rfl (ln (qc (cS (cr (mv rfl (kl_mkf rfl ?_))))))
 refine kl_call rfl rfl (fixW_ok ds m cls hM hcl hd ‹_› ‹_› ‹_› ‹_› ‹_› ‹_›) (fun v9 H10 f11 h12 => ?_)
 refine sg rfl (ln (qc (rt ?_)))
 exact kq_ret rfl rfl H10 f11 ‹_›
theorem impliedI_ok {Hmd : Hp} {vmd : Value} {Hmc : Hp} {vmc : Value} {Hcls : Hp} {vcls : Value} {Hc : Hp} {vc : Value} (m : Mod) (cls : List (List Lit)) (c : List Lit) (hM : MOk m) (hcl : ClsIn m.doms.length cls) (hl : LOk m c) (hlc : clI (m.doms.length : Int) c = true) (hmd : Ints Hmd vmd m.doms) (hmc : Cons Hmc vmc m.cons) (hcls : LRows Hcls vcls cls) (hc : Lits Hc vc c) : SpecP Tryz.prog 80 [.agg #[vmd, vmc], vcls, vc] [Hmd, Hmc, Hcls, Hc] (.bool (impB m cls c)) := by
 have hn := hM.n
 have hnd := cl_nodup hlc
 refine spec_of Tryz.func80 rfl rfl rfl (fun B => ?_)
 refine cS (cr (kl_box rfl rfl (fun p1 H2 f3 a4 => ?_)))
 refine sg rfl (ln (qc (cS (kc_tree (fun i => ([7] : List Nat).contains i) [] (by kernel_rfl) ?_))))
 refine tq 0 nsl rfl (kl_ldS rfl ‹_› rfl ?_)
 refine ln (qq (tq 1 nsl rfl (mv rfl (ln (qq (tq 2 nsl rfl (fd9 rfl ‹_› (fun p5 a6 => ?_))))))))
 refine ln (qq (tq 3 nsl rfl (ld rfl ‹_› (ln (qq (tq 4 nsl rfl (mv rfl (ln (qq (ta 5 rfl (kl_call rfl rfl (negsL_ok c hnd.1 hl.n ‹_›) (fun v7 H8 f9 h10 => ?_))))))))))))
 obtain ⟨y11, h12, h13⟩ := h10
 have hng := h13
 refine ln (qa nsl (ta 6 rfl (kl_call rfl rfl (restrI_ok m.doms.length m.doms y11 hM.dok (negR_in hl.h hng) hn.2 ‹_› ‹_›) (fun v14 H15 f16 h17 => ?_))))
 refine ln (qa nsl (ta 7 rfl (kl_call rfl rfl (wclI_ok m cls (rstL m.doms y11) hM hcl (rstL_ok hM.dok (negR_in hl.h hng)).1 ‹_› ‹_› ‹_› ‹_›) (fun v18 H19 f20 h21 => ?_))))
 refine ln (qx rfl (tq 8 nsl rfl (kl_inI (i := 0) rfl rfl ‹_› (by (have h9 := (wclOk hM hcl (rstL_ok hM.dok (negR_in hl.h hng)).1).l; omega)) (fun p22 a23 => ?_))))
 refine ln (qq (tq 9 nsl rfl (ld rfl ‹_› (ln (qq (tq 10 nsl rfl (eq9 rfl rfl ?_)))))))
 refine ln (qq (tq 11 nsl rfl (sg rfl (ln (qq (kt_end (by kernel_rfl) ?_))))))
 refine qc (rt (kq_retP rfl rfl (congrArg Value.bool ?_)))
 (unfold impB rfE; rw [rst_neg hM.dok hl.h hng])
theorem ixf_lrow_ok {Hxs : Hp} {vxs : Value} {gp : Nat} {capsp : Array Value} {imp : List Hp} [FnC Tryz.prog gp] (xs : List (List Lit)) (p : List Lit → Bool) (hxs : LRows Hxs vxs xs) (hp : ∀ (H : Hp) (u : Value) (r : List Lit), r ∈ xs → Lits H u r → SpecP Tryz.prog gp (u :: capsp.toList) (H :: imp) (.bool (p r))) : SpecP Tryz.prog 161 [vxs, .func (.func gp) #[] capsp] (Hxs :: imp) (.int .i64 (indexBy p xs)) := by
 refine spec_of Tryz.func161 rfl rfl rfl (fun B => ?_)
 refine cS (cr (sg rfl (ln (qc (cS (cS (cr (mv rfl (le9 rfl ‹_› (fun l1 => ?_))))))))))
 refine mv rfl (ln (qc (bl (kc_loop0 (A := Nat) (fun zz => (zz ≤ xs.length) ∧ ((xs.take zz).any p = false)) (fun zz => xs.length - zz) (fun zz => [(8, .int .i64 (zz : Int))]) (0) (pk [0, 1, 7] rfl) (pc 8 rfl pn) ⟨Nat.zero_le _, by simp⟩ ?_))))
 rintro k hJ4
 obtain ⟨hk2, hi3⟩ : (k ≤ xs.length) ∧ ((xs.take k).any p = false) := hJ4
 change KC _ _ (_) _ _ ([(8, .int .i64 (k : Int))] ++ _)
 refine cS (cr (ls9 rfl rfl ?_))
 refine ln (qc (cS (ci9 rfl (fun c5 => ?_) (fun c5 => ?_))))
 ·refine sk (qc (cS (bl (cS (cr (mv rfl (sg rfl (ln (qc (cS (cr (mv rfl ?_))))))))))))
  refine mv rfl (mv rfl (kl_inS rfl rfl ‹_› (by omega) (fun p6 u8 h9 a7 => ?_)))
  refine ld rfl ‹_› (cP rfl rfl (hp _ _ (xs.getD k []) (getD_mem (by omega)) ‹_›) ?_)
  refine ln (qc (cd9 rfl (fun c10 => ?_) (fun c10 => ?_)))
  ·have c10r := c10
   try simp only [smpE] at c10
   refine cS (cr (mv rfl (sg rfl (ln (qc (rt (kq_retP rfl rfl (congrArg (Value.int .i64) ?_))))))))
   exact indexBy_hit (d := ([] : List Lit)) (by omega) ‹_› ‹_›
  ·have c10r := c10
   try simp only [smpE] at c10
   refine sk (qc (cr (ic9 rfl rfl (by omega) ?_)))
   refine mv rfl (ln (kq_round0 ((k + 1)) (by omega) (⟨by omega, any_take_step (d := ([] : List Lit)) (by omega) hi3 ‹_›⟩) (pc 8 rfl pn) (pk [0, 1, 7] rfl) slr9))
 ·refine ex9 (qc (cS (cr (sg rfl (ln (qc (rt (kq_retP rfl rfl (congrArg (Value.int .i64) ?_)))))))))
  exact indexBy_none (by omega) ‹_›
theorem cf_lrow_ok {Hxs : Hp} {vxs : Value} {gp : Nat} {capsp : Array Value} {imp : List Hp} [FnC Tryz.prog gp] (xs : List (List Lit)) (p : List Lit → Bool) (hxs : LRows Hxs vxs xs) (hp : ∀ (H : Hp) (u : Value) (r : List Lit), r ∈ xs → Lits H u r → SpecP Tryz.prog gp (u :: capsp.toList) (H :: imp) (.bool (p r))) : SpecP Tryz.prog 121 [vxs, .func (.func gp) #[] capsp] (Hxs :: imp) (.bool (xs.any p)) := by
 refine spec_of Tryz.func121 rfl rfl rfl (fun B => ?_)
 refine cS (cr (sg rfl (ln (qc (cS (cr (mv rfl (mv rfl (cP rfl rfl (ixf_lrow_ok xs p ‹_› hp) ?_)))))))))
 refine kl_geq rfl rfl ?_
 refine sg rfl (ln (qc (rt (kq_retP rfl rfl (congrArg Value.bool ?_)))))
 exact indexBy_any p xs
theorem prfOk1_ok {Hc : Hp} {vc : Value} {Hpn : Hp} {ptrpn : Value} (c : List Lit) (n : Int) (hn : -9223372036854775807 ≤ n ∧ n ≤ 9223372036854775807) (hc : Lits Hc vc c) (apn : At Hpn ptrpn [.int .i64 n]) : SpecP Tryz.prog 122 [vc, ptrpn] [Hc, Hpn] (.bool (!(clI n c))) := by
 refine spec_of Tryz.func122 rfl rfl rfl (fun B => ?_)
 refine cS (cr (sg rfl (ln (qc (cS (cr (mv rfl (ld rfl ‹_› (cP rfl rfl (validClI_ok c n (by first | assumption | omega) ‹_›) ?_)))))))))
 refine nt9 rfl (sg rfl (ln (qc (rt (kq_retP rfl rfl (congrArg Value.bool ?_))))))
 rfl
theorem prfOk_ok {Hp : Hp} {vp : Value} (n : Int) (p : List (List Lit)) (hn : -9223372036854775807 ≤ n ∧ n ≤ 9223372036854775807) (hp : LRows Hp vp p) : SpecP Tryz.prog 79 [.int .i64 n, vp] [Hp] (.bool (prfB n p)) := by
 refine spec_of Tryz.func79 rfl rfl rfl (fun B => ?_)
 refine cS (cr (kl_box rfl rfl (fun p1 H2 f3 a4 => ?_)))
 refine sg rfl (ln (qc (cS (cr (mv rfl (le9 rfl ‹_› (fun l5 => ?_)))))))
 refine kl_leq rfl rfl ?_
 refine mv rfl (jn 5 13 (.bool (decide ((p.length : Int) ≤ (200 : Int)) && !(p.any (fun x6 => !(clI n x6))))) (pk [4, 8] rfl) (fun J8 => ?_) ?_)
 ·rcases Bool.eq_false_or_eq_true (decide ((p.length : Int) ≤ (200 : Int))) with g6 | g6
  ·have g6p := of_decide_eq_true g6
   refine gT rfl rfl g6 (mv rfl (gT rfl rfl g6 (kl_mkf rfl ?_)))
   refine gT rfl rfl g6 (cP rfl rfl (cf_lrow_ok p (fun x6 => !(clI n x6)) ‹_› (fun _ ux6 x6 _ hux6 => prfOk1_ok x6 n (by first | assumption | omega) hux6 ‹_›)) ?_)
   refine gT rfl rfl g6 (nt9 rfl (aT rfl rfl g6 ?_))
   exact J8 _ (pk [13, 4, 8] rfl)
  ·refine gF rfl rfl g6 (gF rfl rfl g6 (gF rfl rfl g6 (gF rfl rfl g6 (aF (!(p.any (fun x6 => !(clI n x6)))) rfl rfl g6 ?_))))
   exact J8 _ (pk [13, 4, 8] rfl)
 refine sg rfl (ln (qc (rt (kq_retP rfl rfl (congrArg Value.bool ?_)))))
 rfl
theorem chkPI_ok {Hmd : Hp} {vmd : Value} {Hmc : Hp} {vmc : Value} {Hp : Hp} {vp : Value} (m : Mod) (p : List (List Lit)) (hmd : Ints Hmd vmd m.doms) (hmc : Cons Hmc vmc m.cons) (hp : LRows Hp vp p) : SpecP Tryz.prog 45 [.agg #[vmd, vmc], vp] [Hmd, Hmc, Hp] (.bool (chkP m p)) := by
 refine spec_of Tryz.func45 rfl rfl rfl (fun B => ?_)
 refine cS (cr (kl_box rfl rfl (fun p1 H2 f3 a4 => ?_)))
 refine sg rfl (ln (qc (cS (cS (cr (kl_ldS rfl ‹_› rfl ?_))))))
 refine cP rfl rfl (validMod_ok m ‹_› ‹_›) ?_
 refine nt9 rfl (mv rfl (jn 7 17 (.bool (!(validModB m) || !(prfB (m.doms.length : Int) p))) (pk [1, 2, 4, 10] rfl) (fun J9 => ?_) ?_))
 ·rcases Bool.eq_false_or_eq_true (!(validModB m)) with g5 | g5
  ·refine gF rfl rfl g5 (gF rfl rfl g5 (gF rfl rfl g5 (gF rfl rfl g5 (gF rfl rfl g5 (gF rfl rfl g5 (oT (!(prfB (m.doms.length : Int) p)) rfl rfl g5 ?_))))))
   exact J9 _ (pk [17, 1, 2, 4, 10] rfl)
  ·have g5p := g5
   try simp only [smpD] at g5p
   refine gT rfl rfl g5 (fd9 rfl ‹_› (fun p6 a7 => ?_))
   refine gT rfl rfl g5 (ld rfl ‹_› (gT rfl rfl g5 (le9 rfl ‹_› (fun l8 => ?_))))
   refine gT rfl rfl g5 (mv rfl (gT rfl rfl g5 (cP rfl rfl (prfOk_ok (m.doms.length : Int) p (by omega) ‹_›) ?_)))
   refine gT rfl rfl g5 (nt9 rfl (oF rfl rfl g5 ?_))
   exact J9 _ (pk [17, 1, 2, 4, 10] rfl)
 refine mv rfl (jn 4 22 (.bool ((!(validModB m) || !(prfB (m.doms.length : Int) p)) || decide ((p.length : Int) = (0 : Int)))) (pk [1, 2, 4, 18] rfl) (fun J12 => ?_) ?_)
 ·rcases Bool.eq_false_or_eq_true (!(validModB m) || !(prfB (m.doms.length : Int) p)) with g10 | g10
  ·refine gF rfl rfl g10 (gF rfl rfl g10 (gF rfl rfl g10 (oT (decide ((p.length : Int) = (0 : Int))) rfl rfl g10 ?_)))
   exact J12 _ (pk [22, 1, 2, 4, 18] rfl)
  ·have g10p := g10
   try simp only [smpD] at g10p
   refine gT rfl rfl g10 (mv rfl (gT rfl rfl g10 (le9 rfl ‹_› (fun l11 => ?_))))
   refine gT rfl rfl g10 (eq9 rfl rfl ?_)
   refine oF rfl rfl g10 ?_
   exact J12 _ (pk [22, 1, 2, 4, 18] rfl)
 refine mv rfl (jn 9 32 (.bool (((!(validModB m) || !(prfB (m.doms.length : Int) p)) || decide ((p.length : Int) = (0 : Int))) || decide ((0 : Int) < ((p.getD ((p.length : Int) - (1 : Int)).toNat []).length : Int)))) (pk [1, 2, 4, 23] rfl) (fun J20 => ?_) ?_)
 ·rcases Bool.eq_false_or_eq_true ((!(validModB m) || !(prfB (m.doms.length : Int) p)) || decide ((p.length : Int) = (0 : Int))) with g13 | g13
  ·refine gF rfl rfl g13 (gF rfl rfl g13 (gF rfl rfl g13 (gF rfl rfl g13 (gF rfl rfl g13 (gF rfl rfl g13 (gF rfl rfl g13 (gF rfl rfl g13 (oT (decide ((0 : Int) < ((p.getD ((p.length : Int) - (1 : Int)).toNat []).length : Int))) rfl rfl g13 ?_))))))))
   exact J20 _ (pk [32, 1, 2, 4, 23] rfl)
  ·have g13p := g13
   try simp only [smpD] at g13p
   refine gT rfl rfl g13 (mv rfl (gT rfl rfl g13 (mv rfl (gT rfl rfl g13 (le9 rfl ‹_› (fun l14 => ?_))))))
   refine gT rfl rfl g13 (sb9 rfl rfl (by omega) ?_)
   refine gT rfl rfl g13 (kl_ixS rfl rfl ‹_› (by omega) (by omega) (fun p15 u17 h18 a16 => ?_))
   refine gT rfl rfl g13 (ld rfl ‹_› (gT rfl rfl g13 (le9 rfl ‹_› (fun l19 => ?_))))
   refine gT rfl rfl g13 (kl_gtr rfl rfl ?_)
   refine oF rfl rfl g13 ?_
   exact J20 _ (pk [32, 1, 2, 4, 23] rfl)
 refine ln (qc (cd9 rfl (fun c21 => ?_) (fun c21 => ?_)))
 ·have c21r := c21
  try simp only [smpE] at c21
  have hno := c21r
  refine cS (cr (sg rfl (ln (qc (rt (kq_retP rfl rfl (congrArg Value.bool ?_)))))))
  exact ck_no hno
 ·have c21r := c21
  try simp only [smpE] at c21
  have hgo := c21r
  have hck := ck_ok hgo
  refine sk (qc (cS (cS (cr (mv rfl (le9 rfl ‹_› (fun l22 => ?_)))))))
  refine mv rfl (ln (qc (bl (kc_loop0 (A := Nat) (fun zz => (zz ≤ p.length) ∧ ((List.range zz).all (fun i => impB m (p.take i) (p.getD i [])) = true)) (fun zz => p.length - zz) (fun zz => [(35, .int .i64 (zz : Int))]) (0) (pk [1, 2, 33, 34] rfl) (pc 35 rfl pn) ⟨Nat.zero_le _, rfl⟩ ?_))))
  rintro k hJ25
  obtain ⟨hk23, hi24⟩ : (k ≤ p.length) ∧ ((List.range k).all (fun i => impB m (p.take i) (p.getD i [])) = true) := hJ25
  change KC _ _ (_) _ _ ([(35, .int .i64 (k : Int))] ++ _)
  refine cS (cr (ls9 rfl rfl ?_))
  refine ln (qc (cS (ci9 rfl (fun c26 => ?_) (fun c26 => ?_))))
  ·refine sk (qc (cS (bl (cS (cr (mv rfl (kl_inS rfl rfl ‹_› (by omega) (fun p27 u29 h30 a28 => ?_))))))))
   refine ld rfl ‹_› (sg rfl (sg rfl (ln (qc (cS (kc_draw 7 [true, true, true, true, true, false, true] (by kernel_rfl) (by kernel_rfl) ?_))))))
   refine kl_ldS rfl ‹_› rfl ?_
   refine mv rfl (mv rfl (kl_slTake rfl rfl ‹_› (by omega) (fun u31 h32 => ?_)))
   refine mv rfl (cP rfl rfl (impliedI_ok m (p.take k) (p.getD k []) hck.hM (cls_take hck.hp _) (hck.hc _ (getD_mem (by omega))).1 (hck.hc _ (getD_mem (by omega))).2 ‹_› ‹_› ‹_› ‹_›) ?_)
   refine nt9 rfl (ln (qc (cd9 rfl (fun c33 => ?_) (fun c33 => ?_))))
   ·have c33r := c33
    try simp only [smpE] at c33
    have hib := c33r
    refine cS (cr (sg rfl (ln (qc (rt (kq_retP rfl rfl (congrArg Value.bool ?_)))))))
    exact ck_hit (k := k) hgo (by omega) (by simpa using hib)
   ·have c33r := c33
    try simp only [smpE] at c33
    have hib := c33r
    refine sk (qc (cr (ic9 rfl rfl (by omega) ?_)))
    refine mv rfl (ln (kq_round0 ((k + 1)) (by omega) (⟨by omega, (ck_step hi24 (by simpa using hib))⟩) (pc 35 rfl pn) (pk [1, 2, 33, 34] rfl) slr9))
  ·refine ex9 (qc (cS (cr (sg rfl (ln (qc (rt (kq_retP rfl rfl (congrArg Value.bool ?_)))))))))
   exact ck_end hgo (by omega) hi24
theorem chkBI_ok {Hmd : Hp} {vmd : Value} {Hmc : Hp} {vmc : Value} {Hobj : Hp} {vobj : Value} {Hp : Hp} {vp : Value} (m : Mod) (obj : List Int) (b : Int) (p : List (List Lit)) (hmd : Ints Hmd vmd m.doms) (hmc : Cons Hmc vmc m.cons) (hobj : Ints Hobj vobj obj) (hp : LRows Hp vp p) : SpecP Tryz.prog 12 [.agg #[vmd, vmc], vobj, .int .i64 b, vp] [Hmd, Hmc, Hobj, Hp] (.bool (chkB m obj b p)) := by
 refine spec_of Tryz.func12 rfl rfl rfl (fun B => ?_)
 refine cS (cr (kl_box rfl rfl (fun p1 H2 f3 a4 => ?_)))
 refine sg rfl (ln (qc (cS (cr (kl_ldS rfl ‹_› rfl ?_)))))
 refine mv rfl (mv rfl (kl_call rfl rfl (boundedI_ok m obj b ‹_› ‹_› ‹_›) (fun v5 H6 f7 h8 => ?_)))
 obtain ⟨z11, z16, u12, u13, rfl, h14, h15, h10⟩ := h8
 obtain ⟨e91, e92⟩ := pairOf h10
 refine mv rfl (kl_xt rfl rfl (kl_xt rfl rfl (kl_alloc (cs := [.slice none 0 0, .slice none 0 0]) rfl (fun b17 hb18 => ?_))))
 refine kl_stW (us := [u12, u13]) rfl rfl rfl rfl (oc (Sl.oneCell ‹_›) (oc (Sl.oneCell ‹_›) oc_nil)) rfl ?_
 refine cg [sing b17 (.cells [u12, u13].toArray 26 (0, 0))] rfl ?_
 refine sg rfl (ln (qc (cS (cr (mv rfl (mv rfl (jn 4 23 (.bool (z16 && (chkP z11 p))) (pk [8, 19] rfl) (fun J20 => ?_) ?_)))))))
 ·rcases Bool.eq_false_or_eq_true z16 with g19 | g19
  ·have g19p := g19
   try simp only [smpD] at g19p
   refine gT rfl rfl g19 (kl_ldW rfl rfl (gT rfl rfl g19 (mv rfl (gT rfl rfl g19 (cP rfl rfl (chkPI_ok z11 p ‹_› ‹_› ‹_›) ?_)))))
   refine aT rfl rfl g19 ?_
   exact J20 _ (pk [23, 8, 19] rfl)
  ·refine gF rfl rfl g19 (gF rfl rfl g19 (gF rfl rfl g19 (aF (chkP z11 p) rfl rfl g19 ?_)))
   exact J20 _ (pk [23, 8, 19] rfl)
 refine sg rfl (ln (qc (rt (kq_retP rfl rfl (congrArg Value.bool ?_)))))
 (unfold chkB; rw [← e91, ← e92])
end
section
theorem best_ok {Hxs : Hp} {vxs : Value} {gp : Nat} {capsp : Array Value} {imp : List Hp} [FnC Tryz.prog gp] (xs : List (List Int)) (p : List Int → Int) (hn : ∀ x ∈ xs, x ≠ []) (hl : ∀ x ∈ xs, x.length ≤ 4) (hxs : Rows Hxs vxs xs) (hp : ∀ (H : Hp) (u : Value) (r : List Int), r ∈ xs → Ints H u r → SpecP Tryz.prog gp (u :: capsp.toList) (H :: imp) (.int .i64 (p r))) : Spec Tryz.prog 77 [vxs, .func (.func gp) #[] capsp] (Hxs :: imp) (fun Hq vq => ∃ uq0 : Value, vq = .tuple #[uq0, .bool ((bestI p xs).2)] ∧ Ints Hq uq0 ((bestI p xs).1)) := by
 refine spec_of Tryz.func77 rfl rfl rfl (fun B => ?_)
 refine cS (cr (sg rfl (sg rfl (ln (qc (cS (cr (sg rfl (ln (qc (cS (cr (sg rfl (ln (qc (cS ?_))))))))))))))))
 refine cS (cr (mv rfl (le9 rfl ‹_› (fun l1 => ?_))))
 refine mv rfl (ln (qc (bl (kc_loop0 (A := Nat × Int × List Int × Value) (fun zz => (zz.1 ≤ xs.length) ∧ ((zz.2.2.1, zz.2.1) = bestTo p xs zz.1 ∧ (zz.1 = 0 → zz.2.2.2 = .slice none 0 0)) ∧ Ints Hxs zz.2.2.2 zz.2.2.1) (fun zz => xs.length - zz.1) (fun zz => [(13, .int .i64 (zz.1 : Int)), (7, .int .i64 zz.2.1), (6, zz.2.2.2)]) (0, (0 : Int), [], (.slice none 0 0)) (pk [1, 4, 5, 11, 12] rfl) (pk [13, 7, 6] rfl) ⟨Nat.zero_le _, ⟨rfl, fun _ => rfl⟩, Sl.nil⟩ ?_))))
 rintro ⟨k, s, o, vo⟩ hJ5
 obtain ⟨hk2, hi3, h4⟩ : (k ≤ xs.length) ∧ ((o, s) = bestTo p xs k ∧ (k = 0 → vo = .slice none 0 0)) ∧ Ints Hxs vo o := hJ5
 change KC _ _ (_) _ _ ([(13, .int .i64 (k : Int)), (7, .int .i64 s), (6, vo)] ++ _)
 refine cS (cr (ls9 rfl rfl ?_))
 refine ln (qc (cS (ci9 rfl (fun c6 => ?_) (fun c6 => ?_))))
 ·have hk9 : k < xs.length := (by omega)
  refine sk (qc (cS (bl (cS (cr (kl_inS rfl rfl ‹_› (by omega) (fun p7 u9 h10 a8 => ?_)))))))
  refine ld rfl ‹_› (sg rfl (ln (qc (cS (cr (mv rfl (mv rfl (cP rfl rfl (hp _ _ (xs.getD k []) (getD_mem (by omega)) ‹_›) ?_))))))))
  refine sg rfl (ln (qc (cS (cr (mv rfl (kl_eqlnilX rfl rfl ‹_› (fun bn nn nx => ?_)))))))
  refine mv rfl (jn 4 26 (.bool (bn || decide ((p (xs.getD k [])) < s))) (pk [1, 4, 5, 6, 7, 9, 10, 11, 12, 13, 14, 15, 16, 17, 18, 19, 20, 21, 22] rfl) (fun J14 => ?_) ?_)
  ·rcases Bool.eq_false_or_eq_true bn with g13 | g13
   ·refine gF rfl rfl g13 (gF rfl rfl g13 (gF rfl rfl g13 (oT (decide ((p (xs.getD k [])) < s)) rfl rfl g13 ?_)))
    exact J14 _ (pk [26, 1, 4, 5, 6, 7, 9, 10, 11, 12, 13, 14, 15, 16, 17, 18, 19, 20, 21, 22] rfl)
   ·have g13p := g13
    try simp only [smpD] at g13p
    refine gT rfl rfl g13 (mv rfl (gT rfl rfl g13 (mv rfl (gT rfl rfl g13 (ls9 rfl rfl ?_)))))
    refine oF rfl rfl g13 ?_
    exact J14 _ (pk [26, 1, 4, 5, 6, 7, 9, 10, 11, 12, 13, 14, 15, 16, 17, 18, 19, 20, 21, 22] rfl)
  refine ln (qc (cd9 rfl (fun c15 => ?_) (fun c15 => ?_)))
  ·have c15r := c15
   try simp only [smpE] at c15
   refine cr (mv rfl (mv rfl (sg rfl (sg rfl (ln (qc (cr (ic9 rfl rfl (by omega) ?_))))))))
   refine mv rfl (ln (kq_round0 ((k + 1), (p (xs.getD k [])), (xs.getD k []), u9) (by omega) (⟨by omega, (by first | exact ⟨br_T hi3.1 hn hk9 nn ‹_›, fun h => absurd h (by omega)⟩ | exact ⟨br_F hi3.1 (fun h => nx (hi3.2 h)) ‹_›, fun h => absurd h (by omega)⟩ | skip), ‹_›⟩) (pk [13, 7, 6] rfl) (pk [1, 4, 5, 11, 12] rfl) slr9))
  ·have c15r := c15
   try simp only [smpE] at c15
   refine sk (qc (cr (ic9 rfl rfl (by omega) ?_)))
   refine mv rfl (ln (kq_round0 ((k + 1), s, o, vo) (by omega) (⟨by omega, (by first | exact ⟨br_T hi3.1 hn hk9 nn ‹_›, fun h => absurd h (by omega)⟩ | exact ⟨br_F hi3.1 (fun h => nx (hi3.2 h)) ‹_›, fun h => absurd h (by omega)⟩ | skip), ‹_›⟩) (pk [13, 7, 6] rfl) (pk [1, 4, 5, 11, 12] rfl) slr9))
 ·have hk8 : k = xs.length := (by omega)
  refine ex9 (qc (cS (cr (mv rfl (kl_call rfl rfl (copied_ok o (best_cp hl hi3.1 (by omega)) ‹_›) (fun v16 H17 f18 o19 => ?_))))))
  have h20 := OwnL.ints o19
  refine mv rfl (kl_neqnilX rfl rfl ‹_› (fun bn nn nx => ?_))
  refine sg rfl (sg rfl (ln (qc (rt (kq_ret2 rfl rfl rfl H17 f18 ⟨_, tup2 rfl (congrArg Value.bool (by exact (best_b hi3.1 (by omega) hn nn (fun h => nx (hi3.2 h))).symm)), ?_⟩)))))
  exact (by have e9 : (bestI p xs).1 = o := (by exact best_o hi3.1 (by omega)); rw [e9]; assumption)
end
section
theorem min1_ok {Hx : Hp} {vx : Value} {Hobj : Hp} {vobj : Value} {Hpo : Hp} {ptrpo : Value} (x : List Int) (obj : List Int) (hO : Coef obj) (hX : Vals x) (hl : obj.length = x.length) (h4 : x.length ≤ 4) (hx : Ints Hx vx x) (hobj : Ints Hobj vobj obj) (apo : At Hpo ptrpo [vobj]) : SpecP Tryz.prog 78 [vx, ptrpo] [Hx, Hobj, Hpo] (.int .i64 (dotTo obj x x.length)) := by
 refine spec_of Tryz.func78 rfl rfl rfl (fun B => ?_)
 refine cS (cr (sg rfl (ln (qc (cS (cr (ld rfl ‹_› (mv rfl (cP rfl rfl (weighted_ok obj x hO hX hl h4 ‹_› ‹_›) ?_)))))))))
 refine sg rfl (ln (qc (rt (kq_retP rfl rfl (congrArg (Value.int .i64) ?_)))))
 rfl
theorem minM_ok {Hmd : Hp} {vmd : Value} {Hmc : Hp} {vmc : Value} {Hobj : Hp} {vobj : Value} (m : Mod) (obj : List Int) (hM : MOk m) (ho : obj.length = m.doms.length) (hO : Coef obj) (hmd : Ints Hmd vmd m.doms) (hmc : Cons Hmc vmc m.cons) (hobj : Ints Hobj vobj obj) : Spec Tryz.prog 44 [.agg #[vmd, vmc], vobj] [Hmd, Hmc, Hobj] (fun Hq vq => ∃ uq0 : Value, vq = .tuple #[uq0, .bool ((bestI (fun x => dotTo obj x x.length) (sols m)).2)] ∧ Ints Hq uq0 ((bestI (fun x => dotTo obj x x.length) (sols m)).1)) := by
 have hn := hM.n
 refine spec_of Tryz.func44 rfl rfl rfl (fun B => ?_)
 refine cS (cr (kl_box rfl rfl (fun p1 H2 f3 a4 => ?_)))
 refine kl_box rfl (Sl.cells ‹_›) (fun p5 H6 f7 a8 => ?_)
 refine sg rfl (sg rfl (ln (qc (cS (cr (kl_ldS rfl ‹_› rfl ?_))))))
 refine kl_call rfl rfl (solutions_ok m hM ‹_› ‹_›) (fun v9 H10 f11 h12 => ?_)
 refine kl_mkf rfl ?_
 refine kl_call rfl rfl (best_ok (sols m) (fun x12 => dotTo obj x12 x12.length) (sols_ne hM) (fun y hy => by have h5 := sols_len hy; omega) ‹_› (fun _ ux12 x12 hmx12 hux12 => min1_ok x12 obj hO (sols_vals hmx12) (by rw [sols_len hmx12]; exact ho) (by rw [sols_len hmx12]; omega) hux12 ‹_› ‹_›)) (fun v14 H15 f16 h17 => ?_)
 obtain ⟨u18, rfl, h19⟩ := h17
 refine kl_xt rfl rfl (kl_xt rfl rfl (sg rfl (sg rfl (ln (qc (rt (kq_ret2 rfl rfl rfl H15 f16 ⟨_, tup2 rfl (congrArg Value.bool (by rfl)), ?_⟩)))))))
 exact (by have e9 : (bestI (fun x => dotTo obj x x.length) (sols m)).1 = ((bestI (fun x12 => dotTo obj x12 x12.length) (sols m)).1) := (by rfl); rw [e9]; assumption)
theorem minI_ok {Hmd : Hp} {vmd : Value} {Hmc : Hp} {vmc : Value} {Hobj : Hp} {vobj : Value} (m : Mod) (obj : List Int) (hmd : Ints Hmd vmd m.doms) (hmc : Cons Hmc vmc m.cons) (hobj : Ints Hobj vobj obj) : Spec Tryz.prog 11 [.agg #[vmd, vmc], vobj] [Hmd, Hmc, Hobj] (fun Hq vq => ∃ uq0 : Value, vq = .tuple #[uq0, .bool ((minI m obj).2)] ∧ Ints Hq uq0 ((minI m obj).1)) := by
 refine spec_of Tryz.func11 rfl rfl rfl (fun B => ?_)
 refine cS (cr (kl_box rfl rfl (fun p1 H2 f3 a4 => ?_)))
 refine sg rfl (sg rfl (ln (qc (cS (cS (cr (kl_ldS rfl ‹_› rfl ?_)))))))
 refine mv rfl (cP rfl rfl (objectiveOk_ok m obj ‹_› ‹_› ‹_›) ?_)
 refine nt9 rfl (ln (qc (cd9 rfl (fun c5 => ?_) (fun c5 => ?_))))
 ·have c5r := c5
  try simp only [smpE] at c5
  refine cS (cr (sg rfl (sg rfl (ln (qc (rt (kq_ret2 rfl rfl rfl noHp (fr_no _) ⟨_, tup2 rfl (congrArg Value.bool (by rw [min_no ‹_›])), ?_⟩)))))))
  exact (by have e9 : (minI m obj).1 = [] := (by rw [min_no ‹_›]); rw [e9]; exact Sl.nil)
 ·have c5r := c5
  try simp only [smpE] at c5
  have hob : objOkB m obj = true := (by simpa using c5r)
  have ho := objok hob
  refine sk (qc (cS (cr (kl_ldS rfl ‹_› rfl ?_))))
  refine mv rfl (kl_call rfl rfl (minM_ok m obj ho.1 ho.2.1 ho.2.2 ‹_› ‹_› ‹_›) (fun v6 H7 f8 h9 => ?_))
  obtain ⟨u10, rfl, h11⟩ := h9
  refine kl_xt rfl rfl (kl_xt rfl rfl (sg rfl (sg rfl (ln (qc (rt (kq_ret2 rfl rfl rfl H7 f8 ⟨_, tup2 rfl (congrArg Value.bool (by rw [min_yes hob])), ?_⟩)))))))
  exact (by have e9 : (minI m obj).1 = ((bestI (fun x => dotTo obj x x.length) (sols m)).1) := (by rw [min_yes hob]); rw [e9]; assumption)
theorem objValI_ok {Hobj : Hp} {vobj : Value} {Hx : Hp} {vx : Value} (obj : List Int) (x : List Int) (hobj : Ints Hobj vobj obj) (hx : Ints Hx vx x) : SpecP Tryz.prog 13 [vobj, vx] [Hobj, Hx] (.int .i64 (objVal obj x)) := by
 refine spec_of Tryz.func13 rfl rfl rfl (fun B => ?_)
 refine cS (cr (sg rfl (ln (qc (cS (cS (cr (mv rfl (le9 rfl ‹_› (fun l1 => ?_))))))))))
 refine mv rfl (le9 rfl ‹_› (fun l2 => ?_))
 refine kl_neq rfl rfl ?_
 refine mv rfl (jn 4 14 (.bool (decide ((obj.length : Int) ≠ (x.length : Int)) || decide ((4 : Int) < (obj.length : Int)))) (pk [0, 1, 4, 10] rfl) (fun J5 => ?_) ?_)
 ·rcases Bool.eq_false_or_eq_true (decide ((obj.length : Int) ≠ (x.length : Int))) with g3 | g3
  ·refine gF rfl rfl g3 (gF rfl rfl g3 (gF rfl rfl g3 (oT (decide ((4 : Int) < (obj.length : Int))) rfl rfl g3 ?_)))
   exact J5 _ (pk [14, 0, 1, 4, 10] rfl)
  ·have g3p := of_decide_eq_false g3
   refine gT rfl rfl g3 (mv rfl (gT rfl rfl g3 (le9 rfl ‹_› (fun l4 => ?_))))
   refine gT rfl rfl g3 (kl_gtr rfl rfl ?_)
   refine oF rfl rfl g3 ?_
   exact J5 _ (pk [14, 0, 1, 4, 10] rfl)
 refine mv rfl (jn 4 19 (.bool ((decide ((obj.length : Int) ≠ (x.length : Int)) || decide ((4 : Int) < (obj.length : Int))) || !(allInB obj (-9 : Int) (9 : Int)))) (pk [0, 1, 4, 15] rfl) (fun J7 => ?_) ?_)
 ·rcases Bool.eq_false_or_eq_true (decide ((obj.length : Int) ≠ (x.length : Int)) || decide ((4 : Int) < (obj.length : Int))) with g6 | g6
  ·refine gF rfl rfl g6 (gF rfl rfl g6 (gF rfl rfl g6 (oT (!(allInB obj (-9 : Int) (9 : Int))) rfl rfl g6 ?_)))
   exact J7 _ (pk [19, 0, 1, 4, 15] rfl)
  ·have g6p := g6
   try simp only [smpD] at g6p
   refine gT rfl rfl g6 (mv rfl (gT rfl rfl g6 (cP rfl rfl (allIn_ok obj (-9 : Int) (9 : Int) ‹_›) ?_)))
   refine gT rfl rfl g6 (nt9 rfl (oF rfl rfl g6 ?_))
   exact J7 _ (pk [19, 0, 1, 4, 15] rfl)
 refine mv rfl (jn 4 24 (.bool (((decide ((obj.length : Int) ≠ (x.length : Int)) || decide ((4 : Int) < (obj.length : Int))) || !(allInB obj (-9 : Int) (9 : Int))) || !(allInB x (0 : Int) (5 : Int)))) (pk [0, 1, 4, 20] rfl) (fun J9 => ?_) ?_)
 ·rcases Bool.eq_false_or_eq_true ((decide ((obj.length : Int) ≠ (x.length : Int)) || decide ((4 : Int) < (obj.length : Int))) || !(allInB obj (-9 : Int) (9 : Int))) with g8 | g8
  ·refine gF rfl rfl g8 (gF rfl rfl g8 (gF rfl rfl g8 (oT (!(allInB x (0 : Int) (5 : Int))) rfl rfl g8 ?_)))
   exact J9 _ (pk [24, 0, 1, 4, 20] rfl)
  ·have g8p := g8
   try simp only [smpD] at g8p
   refine gT rfl rfl g8 (mv rfl (gT rfl rfl g8 (cP rfl rfl (allIn_ok x (0 : Int) (5 : Int) ‹_›) ?_)))
   refine gT rfl rfl g8 (nt9 rfl (oF rfl rfl g8 ?_))
   exact J9 _ (pk [24, 0, 1, 4, 20] rfl)
 refine ln (qc (cd9 rfl (fun c10 => ?_) (fun c10 => ?_)))
 ·have c10r := c10
  try simp only [smpE] at c10
  refine cS (cr (sg rfl (ln (qc (rt (kq_retP rfl rfl (congrArg (Value.int .i64) ?_)))))))
  exact objVal_0 ‹_›
 ·have c10r := c10
  try simp only [smpE] at c10
  have hov := objVal_ok c10r
  refine sk (qc (cS (cr (mv rfl (mv rfl (cP rfl rfl (weighted_ok obj x hov.1 hov.2.1 hov.2.2.1.symm hov.2.2.2 ‹_› ‹_›) ?_))))))
  refine sg rfl (ln (qc (rt (kq_retP rfl rfl (congrArg (Value.int .i64) ?_)))))
  exact objVal_1 ‹_›
end
section
theorem betterI_ok {Hmd : Hp} {vmd : Value} {Hmc : Hp} {vmc : Value} {Hobj : Hp} {vobj : Value} {Hx : Hp} {vx : Value} (m : Mod) (obj : List Int) (x : List Int) (hmd : Ints Hmd vmd m.doms) (hmc : Cons Hmc vmc m.cons) (hobj : Ints Hobj vobj obj) (hx : Ints Hx vx x) : Spec Tryz.prog 55 [.agg #[vmd, vmc], vobj, vx] [Hmd, Hmc, Hobj, Hx] (fun Hq vq => ∃ (mq : Mod) (bq : Bool) (uq0a uq0b : Value), vq = .tuple #[.agg #[uq0a, uq0b], .bool bq] ∧ Ints Hq uq0a mq.doms ∧ Cons Hq uq0b mq.cons ∧ (mq, bq) = btR m obj x) := by
 refine spec_ofR Tryz.func55 rfl rfl rfl (fun B => ?_)
 refine cS (cr (kl_box rfl rfl (fun p1 H2 f3 a4 => ?_)))
 refine kl_alloc (cs := [.slice none 0 0, .slice none 0 0]) rfl (fun b5 hb6 => ?_)
 refine sg rfl (ln (qc (cS (cS (cr (kl_ldS rfl ‹_› rfl ?_))))))
 refine mv rfl (cP rfl rfl (objectiveOk_ok m obj ‹_› ‹_› ‹_›) ?_)
 refine nt9 rfl (mv rfl (jn 5 17 (.bool (!(objOkB m obj) || !(isSolT m x))) (pk [1, 2, 3, 6, 7, 12] rfl) (fun J8 => ?_) ?_))
 ·rcases Bool.eq_false_or_eq_true (!(objOkB m obj)) with g7 | g7
  ·refine gF rfl rfl g7 (gF rfl rfl g7 (gF rfl rfl g7 (gF rfl rfl g7 (oT (!(isSolT m x)) rfl rfl g7 ?_))))
   exact J8 _ (pk [17, 1, 2, 3, 6, 7, 12] rfl)
  ·have g7p := g7
   try simp only [smpD] at g7p
   refine gT rfl rfl g7 (kl_ldS rfl ‹_› rfl ?_)
   refine gT rfl rfl g7 (mv rfl (gT rfl rfl g7 (cP rfl rfl (isSolI_ok m x ‹_› ‹_› ‹_›) ?_)))
   refine gT rfl rfl g7 (nt9 rfl (oF rfl rfl g7 ?_))
   exact J8 _ (pk [17, 1, 2, 3, 6, 7, 12] rfl)
 refine ln (qc (cd9 rfl (fun c9 => ?_) (fun c9 => ?_)))
 ·have c9r := c9
  try simp only [smpE] at c9
  have hno := c9r
  refine cS (cr (kl_bd rfl cp_nil rfl ?_))
  refine kl_stW (us := [.slice none 0 0, .slice none 0 0]) rfl rfl rfl rfl (oc rfl (oc rfl oc_nil)) rfl ?_
  refine cg [sing b5 (.cells [.slice none 0 0, .slice none 0 0].toArray 26 (0, 0))] rfl ?_
  refine sg rfl (ln (qc (rt (kq_cmp noHp noHp (fun c10 => ?_)))))
  exact kq_retR (rss2 rfl (rs_agg rfl rfl) (rs_tmp rfl)) (orHp noHp noHp) (fr_or (fr_no _) (fr_no _)) ⟨(⟨[], []⟩ : Mod), false, _, _, rfl, (Sl.mono Sl.nil (fun b o h => orL b o h) (fun _ _ h => h)), (Sl.mono Sl.nil (fun b o h => orC c10 b o h) (fun _ _ h => h)), by first | exact (bt_no hno).symm | (rw [bt_yes hgo]; exact hbl)⟩ .none
 ·have c9r := c9
  try simp only [smpE] at c9
  have hgo := c9r
  have hok := bt_ok hgo
  refine sk (qc (cS (kc_tree (fun i => ([6, 9] : List Nat).contains i) [] (by kernel_rfl) ?_)))
  refine tq 0 nsl rfl (kl_ldS rfl ‹_› rfl ?_)
  refine ln (qq (tq 1 nsl rfl (mv rfl (ln (qq (tq 2 nsl rfl (mv rfl (ln (qq (tq 3 nsl rfl (mv rfl ?_)))))))))))
  refine ln (qq (ta 4 rfl (cP rfl rfl (weighted_ok obj x hok.2.2.1 hok.2.2.2.1 hok.2.2.2.2.1 hok.2.2.2.2.2.1 ‹_› ‹_›) ?_)))
  refine ln (qa nsl (tq 5 nsl rfl (sb9 rfl rfl (by omega) ?_)))
  refine ln (qq (ta 6 rfl (kl_call rfl rfl (belowI_ok m obj ((dotTo obj x x.length) - (1 : Int)) hok.1 hok.2.1 ‹_› ‹_› ‹_›) (fun v11 H12 f13 h14 => ?_))))
  obtain ⟨z17, z22, u18, u19, rfl, h20, h21, h16⟩ := h14
  have hbl := h16
  refine ln (qx rfl (tq 7 nsl rfl (kl_xt rfl rfl (ln (qq (tq 8 nsl rfl (kl_xt rfl rfl (ln (qq (ta 9 rfl (kl_stW (us := [u18, u19]) rfl rfl rfl rfl (oc (Sl.oneCell ‹_›) (oc (Sl.oneCell ‹_›) oc_nil)) rfl ?_)))))))))))
  refine cg [sing b5 (.cells [u18, u19].toArray 26 (0, 0))] rfl ?_
  refine ln (qx rfl (tq 10 nsl rfl (sg rfl (ln (qq (kt_end (by kernel_rfl) ?_))))))
  refine qc (rt (kq_cmp H12 H12 (fun c23 => ?_)))
  exact kq_retR (rss2 rfl (rs_agg rfl rfl) (rs_tmp rfl)) (orHp H12 H12) (fr_or f13 f13) ⟨(⟨z17.doms, z17.cons⟩ : Mod), z22, _, _, rfl, (Sl.mono ‹_› (fun b o h => orL b o h) (fun _ _ h => h)), (Cons.mono' ‹_› (fun b o h => orC c23 b o h)), by first | exact (bt_no hno).symm | (rw [bt_yes hgo]; exact hbl)⟩ .none
theorem chkOI_ok {Hmd : Hp} {vmd : Value} {Hmc : Hp} {vmc : Value} {Hobj : Hp} {vobj : Value} {Hx : Hp} {vx : Value} {Hp : Hp} {vp : Value} (m : Mod) (obj : List Int) (x : List Int) (p : List (List Lit)) (hmd : Ints Hmd vmd m.doms) (hmc : Cons Hmc vmc m.cons) (hobj : Ints Hobj vobj obj) (hx : Ints Hx vx x) (hp : LRows Hp vp p) : SpecP Tryz.prog 17 [.agg #[vmd, vmc], vobj, vx, vp] [Hmd, Hmc, Hobj, Hx, Hp] (.bool (chkO m obj x p)) := by
 refine spec_of Tryz.func17 rfl rfl rfl (fun B => ?_)
 refine cS (cr (kl_box rfl rfl (fun p1 H2 f3 a4 => ?_)))
 refine sg rfl (ln (qc (cS (cr (kl_ldS rfl ‹_› rfl ?_)))))
 refine mv rfl (mv rfl (kl_call rfl rfl (betterI_ok m obj x ‹_› ‹_› ‹_› ‹_›) (fun v5 H6 f7 h8 => ?_)))
 obtain ⟨z11, z16, u12, u13, rfl, h14, h15, h10⟩ := h8
 obtain ⟨e91, e92⟩ := pairOf h10
 refine mv rfl (kl_xt rfl rfl (kl_xt rfl rfl (kl_alloc (cs := [.slice none 0 0, .slice none 0 0]) rfl (fun b17 hb18 => ?_))))
 refine kl_stW (us := [u12, u13]) rfl rfl rfl rfl (oc (Sl.oneCell ‹_›) (oc (Sl.oneCell ‹_›) oc_nil)) rfl ?_
 refine cg [sing b17 (.cells [u12, u13].toArray 26 (0, 0))] rfl ?_
 refine sg rfl (ln (qc (cS (cr (mv rfl (mv rfl (jn 4 23 (.bool (z16 && (chkP z11 p))) (pk [8, 19] rfl) (fun J20 => ?_) ?_)))))))
 ·rcases Bool.eq_false_or_eq_true z16 with g19 | g19
  ·have g19p := g19
   try simp only [smpD] at g19p
   refine gT rfl rfl g19 (kl_ldW rfl rfl (gT rfl rfl g19 (mv rfl (gT rfl rfl g19 (cP rfl rfl (chkPI_ok z11 p ‹_› ‹_› ‹_›) ?_)))))
   refine aT rfl rfl g19 ?_
   exact J20 _ (pk [23, 8, 19] rfl)
  ·refine gF rfl rfl g19 (gF rfl rfl g19 (gF rfl rfl g19 (aF (chkP z11 p) rfl rfl g19 ?_)))
   exact J20 _ (pk [23, 8, 19] rfl)
 refine sg rfl (ln (qc (rt (kq_retP rfl rfl (congrArg Value.bool ?_)))))
 (unfold chkO; rw [← e91, ← e92])
theorem lawFnBop_ok {Hcode : Hp} {vcode : Value} (code : List Int) (hcode : Bytes Hcode vcode code) : SpecP Tryz.prog 5 [vcode] [Hcode] (.bool true) := by
 refine spec_of Tryz.func5 rfl rfl rfl (fun B => ?_)
 refine cS (cr (sg rfl (ln (qc (cS (cS (cr (mv rfl (le9 rfl ‹_› (fun l1 => ?_))))))))))
 refine kl_gtr rfl rfl ?_
 refine ln (qc (ci9 rfl (fun c2 => ?_) (fun c2 => ?_)))
 ·refine cS (cr (sg rfl (ln (qc (rt (kq_retP rfl rfl (congrArg Value.bool ?_)))))))
  first | rfl | (simp; done) | exact bo_beq (by simpa using hms)
 ·refine sk (qc (cS (cr (mv rfl (kl_call rfl rfl (drawCb_ok code hcode) (fun v3 H4 f5 h6 => ?_))))))
  obtain ⟨z9, z14, z17, z18, u10, u11, u15, u19, rfl, h12, h13, h16, h20, h8⟩ := h6
  have hzl := h8.2.2.1
  have hzu := h8.2.2.2
  refine mv rfl (kl_xt rfl rfl (kl_xt rfl rfl (kl_xt rfl rfl (kl_xt rfl rfl (kl_alloc (cs := [.slice none 0 0, .slice none 0 0]) rfl (fun b21 hb22 => ?_))))))
  refine kl_stW (us := [u10, u11]) rfl rfl rfl rfl (oc (Sl.oneCell ‹_›) (oc (Sl.oneCell ‹_›) oc_nil)) rfl ?_
  refine cg [sing b21 (.cells [u10, u11].toArray 26 (0, 0))] rfl ?_
  refine sg rfl (sg rfl (sg rfl (ln (qc (cS (cr (kl_ldW rfl rfl (mv rfl (mv rfl (mv rfl (cP rfl rfl (chkBI_ok z9 z14 z17 z18 ‹_› ‹_› ‹_› ‹_›) ?_)))))))))))
  refine sg rfl (ln (qc (cS (cS (cr (mv rfl (kl_ldW rfl rfl (mv rfl (mv rfl (mv rfl ?_))))))))))
  refine cP rfl rfl (chkBS_ok z9 z14 z17 z18 ‹_› ‹_› ‹_› ‹_›) ?_
  refine kl_bne rfl rfl ?_
  refine ln (qc (cd9 rfl (fun c23 => ?_) (fun c23 => ?_)))
  ·have c23r := c23
   try simp only [smpE] at c23
   exact absurd c23r (by simp)
  ·have c23r := c23
   try simp only [smpE] at c23
   refine sk (qc (cS (cr (kl_ldW rfl rfl (mv rfl (kl_call rfl rfl (minI_ok z9 z14 ‹_› ‹_› ‹_›) (fun v24 H25 f26 h27 => ?_)))))))
   obtain ⟨u28, rfl, h29⟩ := h27
   refine mv rfl (kl_xt rfl rfl (kl_xt rfl rfl (sg rfl (sg rfl (ln (qc (cS (cS (cr (mv rfl ?_))))))))))
   refine nt9 rfl (ln (qc (cd9 rfl (fun c30 => ?_) (fun c30 => ?_))))
   ·have c30r := c30
    try simp only [smpE] at c30
    refine cS (cr (sg rfl (ln (qc (rt (kq_retP rfl rfl (congrArg Value.bool ?_)))))))
    first | rfl | (simp; done) | exact bo_beq (by simpa using hms)
   ·have c30r := c30
    try simp only [smpE] at c30
    have hms := c30r
    refine sk (qc (cS (kc_tree (fun i => ([11] : List Nat).contains i) [sing b21 (.cells [u10, u11].toArray 26 (0, 0))] (by kernel_rfl) ?_)))
    refine tq 0 (.cons_cons _ nsl) rfl (kl_ldS rfl (at_box (T := 26) (cs := [u10, u11]) (off := 0) (fz := (0, 0))) rfl ?_)
    refine ln (qq (tq 1 (.cons_cons _ nsl) rfl (mv rfl (ln (qq (tq 2 (.cons_cons _ nsl) rfl (mv rfl (ln (qq (tq 3 (.cons_cons _ nsl) rfl (mv rfl ?_)))))))))))
    refine ln (qq (tq 5 (.cons_cons _ nsl) rfl (mv rfl (ln (qq (tq 7 (.cons_cons _ nsl) rfl (kl_ldS rfl (at_box (T := 26) (cs := [u10, u11]) (off := 0) (fz := (0, 0))) rfl ?_)))))))
    refine ln (qq (tq 8 (.cons_cons _ nsl) rfl (mv rfl (ln (qq (tq 9 (.cons_cons _ nsl) rfl (mv rfl (ln (qq (tq 10 (.cons_cons _ nsl) rfl (mv rfl ?_)))))))))))
    refine ln (qq (ta 4 rfl (cP rfl rfl (objValI_ok z14 ((minI z9 z14).1) ‹_› ‹_›) ?_)))
    refine ln (qa (.cons_cons _ nsl) (ta 6 rfl (cP rfl rfl (chkBI_ok z9 z14 (objVal z14 ((minI z9 z14).1)) z18 ‹_› ‹_› ‹_› ‹_›) ?_)))
    refine ln (qa (.cons_cons _ nsl) (ta 11 rfl (cP rfl rfl (chkOI_ok z9 z14 ((minI z9 z14).1) z18 ‹_› ‹_› ‹_› ‹_› ‹_›) ?_)))
    refine ln (qx rfl (tq 12 (.cons_cons _ nsl) rfl (kl_beq rfl rfl ?_)))
    refine ln (qq (tq 13 (.cons_cons _ nsl) rfl (sg rfl (ln (qq (kt_end (by kernel_rfl) ?_))))))
    refine qc (rt (kq_retP rfl rfl (congrArg Value.bool ?_)))
    first | rfl | (simp; done) | exact bo_beq (by simpa using hms)
end
section
open Go Go.ChangeShapes Go.WideShapes Go.ChangeAt Go.RowKit
/-- All of a world's memory. -/
def allHp (w : World) : Hp := fun b => w.heap[b]?
theorem agree_all (w : World) : Agree (allHp w) w := fun _ _ h => h
section
variable {H : Type} {enc : TypeId × Value → H} {P : Program} {w : World} {base : Nat} {spare : Nat → Bool} {held : Bool}
theorem cellAt {b o : Nat} {v : Value} (h : w.cell? ⟨b, o, none⟩ = some v) : ∃ cs T fz, w.heap[b]? = some (.cells cs T fz) ∧ cs[o]? = some v := by
  unfold World.cell? at h
  cases hh : w.heap[b]? with
  | none => simp [hh] at h
  | some ob =>
    cases ob with
    | cells cs T fz => simp [hh] at h; exact ⟨cs, T, fz, rfl, h⟩
    | map es c => simp [hh] at h
    | _ => simp [hh] at h
theorem trod_int {t : TypeId} {k : IntKind} {n : Nat} {vs : List Value} {y : DataW H × List MemPlace} (ht : P.underlying t = some (.int k)) (h : DataW.trod enc P w base spare held n t vs = some y) : ∃ a : Int, vs = [.int k a] := by
  cases n with
  | zero => simp [DataW.trod] at h
  | succ n =>
    unfold DataW.trod at h
    rw [ht] at h
    split at h <;> simp_all
/-- The reading fits into what an address can reach. -/
def Wt (P : Program) (t : TypeId) (d : DataW H) : Prop := (d.weights P t).all (· ≤ reachBytes) = true
theorem wtAll {e : TypeId} : ∀ {ds : List (DataW H)}, (DataW.weightsAll P e ds).all (· ≤ reachBytes) = true → ∀ d ∈ ds, Wt P e d
  | [], _, _, h => by cases h
  | d :: ds, hw, x, h => by
    simp only [DataW.weightsAll, List.all_append, Bool.and_eq_true] at hw
    cases h with
    | head => exact hw.1
    | tail _ h => exact wtAll hw.2 x h
theorem wt_slice {t e : TypeId} {ds sp : List (DataW H)} (ht : P.underlying t = some (.slice e)) (h : Wt P t (.slice ds sp)) : (ds.length + sp.length) * P.bytesOf e ≤ reachBytes ∧ ∀ d ∈ ds, Wt P e d := by
  unfold Wt DataW.weights at h
  rw [ht] at h
  simp only [List.all_cons, List.all_append, Bool.and_eq_true, decide_eq_true_eq] at h
  exact ⟨h.1, wtAll h.2.1⟩
theorem wtEach : ∀ {ts : List TypeId} {ds : List (DataW H)}, (DataW.weightsEach P ts ds).all (· ≤ reachBytes) = true → ∀ (i : Nat) (t : TypeId) (d : DataW H), ts[i]? = some t → ds[i]? = some d → Wt P t d
  | [], _, _, i, _, _, h, _ => by cases i <;> simp at h
  | _ :: _, [], _, i, _, _, _, h => by cases i <;> simp at h
  | t :: ts, d :: ds, hw, i, t', d', h1, h2 => by
    simp only [DataW.weightsEach, List.all_append, Bool.and_eq_true] at hw
    cases i with
    | zero => simp at h1 h2; subst h1 h2; exact hw.1
    | succ i => exact wtEach hw.2 i t' d' (by simpa using h1) (by simpa using h2)
theorem trod_sl {A : Type} {R : List Value → A → Prop} {t e : TypeId} {k fuel : Nat} {cs : List Value} {x : DataW H × List MemPlace} (ht : P.underlying t = some (.slice e)) (hk : P.cellsOf e = k) (k0 : 0 < k) (hb : 0 < P.bytesOf e)
    (hel : ∀ n vs y, vs.length = k → DataW.trod enc P w base spare held n e vs = some y → Wt P e y.1 → ∃ a : A, R vs a) (h : DataW.trod enc P w base spare held fuel t cs = some x) (hw : Wt P t x.1) :
    ∃ v xs, cs = [v] ∧ Sl (allHp w) k R v xs := by
  rcases DataW.trod_slice ht h with ⟨h0, _⟩ | ⟨a, len, cap, elems, rest, n, _, rfl, rfl, _, hl, hm, hlen, hE, _⟩
  · exact ⟨_, [], h0, Sl.nil⟩
  · rw [hk] at hE
    obtain ⟨hw1, hw2⟩ := wt_slice ht hw
    have hreach : len ≤ 140737488355328 := by
      simp only [List.length_map, hlen, reachBytes] at hw1
      have h1 : len * 1 ≤ (len + rest.length) * P.bytesOf e := Nat.mul_le_mul (by omega) hb
      omega
    obtain ⟨b, o, sp⟩ := a
    have raw : ∀ i, i < len → ∃ vs : List Value, (∃ x : A, R vs x) ∧ vs.length = k ∧ ∀ j, j < k → w.cell? (((⟨b, o, sp⟩ : Addr).add (i * k)).add j) = vs[j]? := fun i hi => by
      have h1 := hE i hi
      rw [List.getElem?_eq_getElem (by omega), Option.bind_eq_some_iff] at h1
      obtain ⟨vs, h2, h3⟩ := h1
      obtain ⟨_, h4, h5⟩ := World.cells?_some h2
      exact ⟨vs, hel _ _ _ h4 h3 (hw2 _ (List.mem_map.2 ⟨_, List.getElem_mem _, rfl⟩)), h4, h5⟩
    by_cases h0 : len = 0
    · subst h0
      exact ⟨_, [], rfl, some ⟨b, o, sp⟩, cap, rfl, Nat.zero_le _, Nat.zero_le _, fun i h => absurd h (Nat.not_lt_zero i)⟩
    · have hsp : sp = none := by
        obtain ⟨vs, _, h4, h5⟩ := raw 0 (by omega)
        have h6 := h5 0 k0
        rw [List.getElem?_eq_getElem (by omega)] at h6
        have e : (((⟨b, o, sp⟩ : Addr).add (0 * k)).add 0) = ⟨b, o, sp⟩ := by simp [Addr.add]
        rw [e] at h6
        unfold World.cell? at h6
        cases sp with
        | none => rfl
        | some q =>
          simp only [Option.isSome_some, if_true] at h6
          split at h6 <;> cases h6
      subst hsp
      have each : ∀ i, ∃ x : A, i < len → ∃ vs : List Value, vs.length = k ∧ R vs x ∧ At (allHp w) (.pointer (some ⟨b, o + i * k, none⟩)) vs := fun i => by
        by_cases hi : i < len
        · obtain ⟨vs, ⟨x, hx⟩, h4, h5⟩ := raw i hi
          have h6 := h5 0 k0
          simp only [Addr.add_lit] at h5 h6
          rw [List.getElem?_eq_getElem (by omega)] at h6
          obtain ⟨cs, T, fz, h7, h8⟩ := cellAt h6
          refine ⟨x, fun _ => ⟨vs, h4, hx, b, o + i * k, cs, T, fz, rfl, h7, fun j u hj => ?_⟩⟩
          have hjk : j < k := by rw [← h4]; exact (List.getElem?_eq_some_iff.1 hj).1
          have h9 := h5 j hjk
          rw [hj] at h9
          obtain ⟨cs', T', fz', h10, h11⟩ := cellAt h9
          rw [h7] at h10
          obtain ⟨rfl, _, _⟩ := by simpa using h10
          exact h11
        · obtain ⟨vs, ⟨x, hx⟩, _⟩ := raw 0 (by omega)
          exact ⟨x, fun h => absurd h hi⟩
      refine ⟨_, (List.range len).map (fun i => Classical.choose (each i)), rfl, some ⟨b, o, none⟩, cap, by simp, by simpa using hl, by simpa using hreach, fun i hi => ⟨b, o, rfl, ?_⟩⟩
      have hi' : i < len := by simpa using hi
      obtain ⟨vs, h1, h2, h3⟩ := Classical.choose_spec (each i) hi'
      exact ⟨vs, h1, by simpa using h2, h3⟩
theorem trod_byte {t : TypeId} {n : Nat} {vs : List Value} {y : DataW H × List MemPlace} (ht : P.underlying t = some (.int .u8)) (h : DataW.trod enc P w base spare held n t vs = some y) : ∃ a : Int, vs = [.int .u8 a] ∧ 0 ≤ a ∧ a < 256 := by
  obtain ⟨a, rfl⟩ := trod_int ht h
  refine ⟨a, rfl, ?_⟩
  cases n with
  | zero => simp [DataW.trod] at h
  | succ n =>
    unfold DataW.trod at h
    rw [ht] at h
    simp only at h
    split at h
    · rename_i hc
      have h2 := hc.2
      simp only [Lit.wf, Bool.and_eq_true, decide_eq_true_eq] at h2
      have e1 : IntKind.u8.min = 0 := rfl
      have e2 : IntKind.u8.max = 255 := rfl
      omega
    · cases h
theorem open_bytesA {t e : TypeId} {r : Reach} {b0 : Nat} {v : Value} {d : DataW H} {ps : List MemPlace} (ht : P.underlying t = some (.slice e)) (he : P.underlying e = some (.int .u8)) (hk : P.cellsOf e = 1) (hb : 0 < P.bytesOf e)
    (hval : Value.okWide P w r b0 t v) (h : DataW.Trod enc P w base spare held t v d ps) (hw : Wt P t d) : ∃ xs : List Int, Sl (allHp w) 1 (fun vs (n : Int) => vs = [.int .u8 n] ∧ 0 ≤ n ∧ n < 256) v xs := by
  obtain ⟨a, l, c, rfl⟩ := okWide_slice ht hval
  obtain ⟨n, h⟩ := h
  obtain ⟨v, xs, e, h1⟩ := trod_sl (R := fun vs (n : Int) => vs = [.int .u8 n] ∧ 0 ≤ n ∧ n < 256) ht hk (by decide) hb (fun _ _ _ _ h _ => trod_byte he h) h hw
  have : [Value.slice a l c] = [v] := e
  simp only [List.cons.injEq, and_true] at this
  exact ⟨xs, this ▸ h1⟩
theorem sameAt_of {W W' : World} (h : Ext NoX W W') {p : MemPlace} (hp : p.block < W.heap.size) : W.sameAt W' p := by
  cases p with
  | cell b o => exact World.cell?_of_block (w := W) (h.same b hp (fun x => x))
  | map b => exact h.same b hp (fun x => x)
theorem kept_of {W W' : World} (h : Ext NoX W W') (may : MemPlace → Prop) : W.keptBut W' may := by
  refine ⟨h.io.1, h.io.2, fun i hi => ?_⟩
  rw [h.same i hi (fun x => x)]
  split <;> simp_all
theorem trodAll_stays (hl : laidOutB P = true) {W W' : World} {sp : Nat → Bool} : ∀ {ts : List TypeId} {vs : List Value} {ds : List (DataW H)} {ps : List MemPlace},
    (∀ t ∈ ts, P.readableRec t = true ∧ t < P.types.size) → DataW.TrodAll enc P W 0 (fun _ => true) true ts vs ds ps → (∀ p ∈ ps, W.sameAt W' p) → (∀ p ∈ ps, sp p.block = true) → DataW.TrodAll enc P W' 0 sp true ts vs ds ps
  | [], vs, ds, ps, _, h, _, _ => by obtain ⟨rfl, rfl, rfl⟩ := trodAll_nil h; exact rfl
  | t :: ts, vs, ds, ps, hr, h, h1, h2 => by
    obtain ⟨v, vs, d, ds, p, q, rfl, rfl, rfl, h3, h4⟩ := trodAll_cons h
    exact ⟨p, q, WideElems.Trod_stays hl (hr t (.head _)).1 (hr t (.head _)).2 h3 (fun x hx => h1 x (List.mem_append_left _ hx)) (fun x hx => h2 x (List.mem_append_left _ hx)),
      trodAll_stays hl (fun t ht => hr t (.tail _ ht)) h4 (fun x hx => h1 x (List.mem_append_right _ hx)) (fun x hx => h2 x (List.mem_append_right _ hx)), rfl⟩
/-- A law that returned true and wrote nothing of what was there. -/
theorem post_true {f : Func} {s : ChangeSpec} {W W' : World} {args : Array Value} {ds gs : List (DataW H)} {before : List MemPlace} {tb : TypeId} (hl : laidOutB P = true)
    (hr : ∀ t ∈ f.params.toList, P.readableRec t = true ∧ t < P.types.size) (hv : s.vars = []) (ht : f.resultTypes = #[tb]) (hb : P.underlying tb = some .bool)
    (hW : DataW.Whole enc P f.params.toList s.vars false W args.toList ds gs before) (he : Ext NoX W W')
    (hres : (s.fn H (ds ++ gs)).results = [.lit (.bool true)]) (hargs : (s.fn H (ds ++ gs)).args = ds) (hvs : (s.fn H (ds ++ gs)).vars = []) :
    s.post enc P f false true false false W args (.bool true) W' := by
  have hW' := hW
  obtain ⟨p, q, hA, hV, rfl, _, _⟩ := hW
  rw [hv] at hV
  obtain ⟨rfl, rfl⟩ := trodVars_none hV
  have hlt := fun x hx => hW'.lt x hx
  refine ⟨ds, [], p ++ [], [], p, [], hW', ?_, ?_, ?_, kept_of he _, fun h => by cases h⟩
  · rw [hres, ht]
    exact trodAll_mk1 (shut_bool hb true)
  · rw [hargs]
    exact trodAll_stays hl hr hA (fun x hx => sameAt_of he (hlt x (by simpa using hx))) (fun x hx => by simpa using hlt x (by simpa using hx))
  · rw [hvs, hv]; exact rfl
end
end
section
open Go Go.ChangeShapes Go.WideShapes Go.ChangeAt Go.RowKit
theorem Tryz.own : ownKnob Tryz.prog.godebug = none := by kernel_rfl
theorem Tryz.laidOut : laidOutB Tryz.prog = true := by kernel_rfl
end
end Go.Proofs.YtolndgeihijlbaaGreat
