/- Walks of functions of the program: each returns what the plain function gives. Conditions: those that each statement names. -/
import Derived.Test.YtojinjdobjodaaaGreatWfilt
import Derived.Test.YtojinjdobjodaaaGreatWwo
import Derived.Test.YtojinjdobjodaaaGreatTys
import Derived.Test.YtojinjdobjodaaaGreatRdr
import Derived.Test.YtojinjdobjodaaaGreatPureQ
import Derived.Test.YtojinjdobjodaaaGreatPureY
import Derived.Test.YtojinjdobjodaaaGreatWvalid
import Derived.Test.YtojinjdobjodaaaGreatPurePf
import Derived.Test.YtojinjdobjodaaaGreatPurePg
import Derived.Test.YtojinjdobjodaaaGreatWssat
import Derived.Test.YtojinjdobjodaaaGreatWspecv
namespace Go.Proofs.YtojinjdobjodaaaGreat
open Go
set_option linter.unusedSimpArgs false
set_option linter.unusedVariables false
theorem withI_ok {Hmd : Hp} {vmd : Value} {Hmc : Hp} {vmc : Value} {Hcv : Hp} {vcv : Value} {Hca : Hp} {vca : Value} {Hcr : Hp} {vcr : Value} (m : Mod) (c : Con) (hl : m.cons.length ≤ 100) (hmd : Ints Hmd vmd m.doms) (hmc : Cons Hmc vmc m.cons) (hcv : Ints Hcv vcv c.vars) (hca : Ints Hca vca c.args) (hcr : Rows Hcr vcr c.rows) : Spec Tryz.prog 115 [.agg #[vmd, vmc], .agg #[.int .i64 c.kind, vcv, vca, .int .i64 c.bound, vcr]] [Hmd, Hmc, Hcv, Hca, Hcr] (fun Hq vq => ∃ (mq : Mod) (bq : Bool) (uq0a uq0b : Value), vq = .tuple #[.agg #[uq0a, uq0b], .bool bq] ∧ Ints Hq uq0a mq.doms ∧ Cons Hq uq0b mq.cons ∧ (mq, bq) = wcR m c) := by
 refine spec_ofR Tryz.func115 rfl rfl rfl (fun B => ?_)
 refine kc_seq (kc_region (kl_box rfl rfl (fun p1 H2 f3 a4 => ?_)))
 refine kl_box rfl rfl (fun p5 H6 f7 a8 => ?_)
 refine kl_alloc (cs := [.slice none 0 0, .slice none 0 0]) rfl (fun b9 hb10 => ?_)
 refine kl_as rfl (kl_nil (kq_code (kc_seq (kc_tree (fun i => ([8, 10] : List Nat).contains i) [] (by kernel_rfl) ?_))))
 refine kt_q 0 (List.nil_sublist _) rfl (by kernel_rfl) (kl_fd rfl (by assumption) (fun p11 a12 => ?_))
 refine kl_nil (kq_q (kt_q 1 (List.nil_sublist _) rfl (by kernel_rfl) (kl_ld rfl (by assumption) (kl_nil (kq_q (kt_q 2 (List.nil_sublist _) rfl (by kernel_rfl) (kl_fd rfl (by assumption) (fun p13 a14 => ?_))))))))
 refine kl_nil (kq_q (kt_q 3 (List.nil_sublist _) rfl (by kernel_rfl) (kl_ld rfl (by assumption) (kl_nil (kq_q (kt_q 5 (List.nil_sublist _) rfl (by kernel_rfl) (kl_ldS rfl (by assumption) rfl ?_)))))))
 refine kl_nil (kq_q (kt_c 4 6 9 rfl rfl rfl (by kernel_rfl) ?_ ?_ ?_))
 ·skip
  refine kl_callL rfl rfl (cloneC_ok m.cons (by omega) (by assumption)) (fun v15 H16 f17 o18 => ?_)
  refine kl_nil (kq_a (List.nil_sublist _) (kt_b 6 9 rfl rfl (by kernel_rfl) ?_ ?_))
  ·skip
   refine kl_bsK rfl (fun v19 H20 f21 r22 => ?_)
   refine kl_nil (kq_a (List.nil_sublist _) (kt_b 7 9 rfl rfl (by kernel_rfl) ?_ ?_))
   ·skip
    refine kl_cmp Hmc Hcv (fun c23 => ?_)
    have o24 := OwnL.mono (K' := orHp Hmc Hcv) o18 orL
    refine kl_cmp (orHp Hmc Hcv) Hca (fun c25 => ?_)
    have o26 := OwnL.mono (K' := orHp (orHp Hmc Hcv) Hca) o24 orL
    refine kl_cmp (orHp (orHp Hmc Hcv) Hca) Hcr (fun c27 => ?_)
    have o28 := OwnL.mono (K' := orHp (orHp (orHp Hmc Hcv) Hca) Hcr) o26 orL
    refine kl_apL c rfl rfl o28 r22 ⟨_, _, _, rfl, (Sl.mono (by assumption) (fun b o h => orL b o (orL b o (orC c23 b o h))) (fun _ _ h => h)), (Sl.mono (by assumption) (fun b o h => orL b o (orC c25 b o h)) (fun _ _ h => h)), (Rows.mono' (by assumption) (fun b o h => orC c27 b o h))⟩ (oc rfl (oc (Sl.oneCell (by assumption)) (oc (Sl.oneCell (by assumption)) (oc rfl (oc (Sl.oneCell (by assumption)) oc_nil))))) (by (simp; omega)) (by decide) (fun v29 H30 o31 f32 => ?_)
    have f33 := f32 B f17 (Nat.le_refl _)
    refine kl_nil (kq_a (List.nil_sublist _) (kt_b 8 9 rfl rfl (by kernel_rfl) ?_ ?_))
    ·skip
     refine kl_bd rfl (cp (Sl.cells (by assumption)) (cp (OwnL.cells (by assumption)) cp_nil)) rfl ?_
     refine kl_nil (kq_x rfl (kt_a 9 rfl (by kernel_rfl) (kl_alloc (cs := [.slice none 0 0, .slice none 0 0]) rfl (fun b34 hb35 => ?_))))
     refine kl_nil (kq_a (List.nil_sublist _) (kt_a 10 rfl (by kernel_rfl) (kl_stW (us := [vmd, v29]) rfl rfl rfl rfl (oc (Sl.oneCell (by assumption)) (oc (OwnL.oneCell (by assumption)) oc_nil)) rfl ?_)))
     refine kl_chg [sing b34 (.cells [vmd, v29].toArray 26 (0, 0)), H30, sing b9 (.cells [.slice none 0 0, .slice none 0 0].toArray 26 (0, 0))] rfl ?_
     refine kl_nil (kq_x rfl (kt_end (by kernel_rfl) ?_))
     refine kq_code (kc_seq (kc_seq (kc_region (kl_ldW rfl rfl (kl_cmp H30 (orHp (orHp (orHp Hmc Hcv) Hca) Hcr) (fun c37 => ?_))))))
     have h36 := OwnL.consK o31 c37
     refine kl_callP rfl rfl (validMod_ok (⟨m.doms, (m.cons ++ [c])⟩ : Mod) (by assumption) (by assumption)) ?_
     refine kl_not rfl (kl_nil (kq_code (kc_cond rfl (fun c38 => ?_) (fun c38 => ?_))))
     ·skip
      have c38r := c38
      try simp only [smpC, decide_eq_true_eq, decide_eq_false_iff_not] at c38
      have hv := c38r
      have hv2 : validModB (withC m c) = false := by simpa [withC] using hv
      refine kc_seq (kc_region (kl_bd rfl cp_nil rfl ?_))
      refine kl_stW (us := [.slice none 0 0, .slice none 0 0]) rfl rfl rfl rfl (oc rfl (oc rfl oc_nil)) rfl ?_
      refine kl_chg [sing b34 (.cells [vmd, v29].toArray 26 (0, 0)), H30, sing b9 (.cells [.slice none 0 0, .slice none 0 0].toArray 26 (0, 0))] rfl ?_
      refine kl_as rfl (kl_nil (kq_code (kc_ret (kq_cmp noHp noHp (fun c39 => ?_)))))
      exact kq_retR (rss2 rfl (rs_agg rfl rfl) (rs_tmp rfl)) (orHp noHp noHp) (fr_or (fr_no _) (fr_no _)) ⟨(⟨[], []⟩ : Mod), false, _, _, rfl, (Sl.mono Sl.nil (fun b o h => orL b o h) (fun _ _ h => h)), (Sl.mono Sl.nil (fun b o h => orC c39 b o h) (fun _ _ h => h)), by first | exact (wc_no hv2).symm | exact (wc_yes hv2).symm⟩ .none
     ·skip
      have c38r := c38
      try simp only [smpC, decide_eq_true_eq, decide_eq_false_iff_not] at c38
      have hv := c38r
      have hv2 : validModB (withC m c) = true := by simpa [withC] using hv
      refine kc_skipQ (kq_code (kc_seq (kc_region (kl_ldW rfl rfl (kl_cmp H30 (orHp (orHp (orHp Hmc Hcv) Hca) Hcr) (fun c41 => ?_))))))
      have h40 := OwnL.consK o31 c41
      refine kl_call rfl rfl (copyModI_ok (⟨m.doms, (m.cons ++ [c])⟩ : Mod) (ok_small ⟨hv2⟩) (by assumption) (by assumption)) (fun v42 H43 f44 h45 => ?_)
      obtain ⟨u46, u47, rfl, h48, h49⟩ := h45
      refine kl_stW (us := [u46, u47]) rfl rfl rfl rfl (oc (Sl.oneCell (by assumption)) (oc (Sl.oneCell (by assumption)) oc_nil)) rfl ?_
      refine kl_chg [sing b34 (.cells [vmd, v29].toArray 26 (0, 0)), H30, sing b9 (.cells [u46, u47].toArray 26 (0, 0))] rfl ?_
      refine kl_as rfl (kl_nil (kq_code (kc_ret (kq_cmp H43 H43 (fun c50 => ?_)))))
      exact kq_retR (rss2 rfl (rs_agg rfl rfl) (rs_tmp rfl)) (orHp H43 H43) (fr_or f44 f44) ⟨(⟨(⟨m.doms, (m.cons ++ [c])⟩ : Mod).doms, (⟨m.doms, (m.cons ++ [c])⟩ : Mod).cons⟩ : Mod), true, _, _, rfl, (Sl.mono (by assumption) (fun b o h => orL b o h) (fun _ _ h => h)), (Cons.mono' (by assumption) (fun b o h => orC c50 b o h)), by first | exact (wc_no hv2).symm | exact (wc_yes hv2).symm⟩ .none
    ·skip
     refine kl_alloc (cs := [.slice none 0 0, .slice none 0 0]) rfl (fun b51 hb52 => ?_)
     refine kl_nil (kq_a (List.nil_sublist _) (kt_a 8 rfl (by kernel_rfl) (kl_bd rfl (cp (Sl.cells (by assumption)) (cp (OwnL.cells (by assumption)) cp_nil)) rfl ?_)))
     refine kl_nil (kq_x rfl (kt_a 10 rfl (by kernel_rfl) (kl_stW (us := [vmd, v29]) rfl rfl rfl rfl (oc (Sl.oneCell (by assumption)) (oc (OwnL.oneCell (by assumption)) oc_nil)) rfl ?_)))
     refine kl_chg [sing b51 (.cells [vmd, v29].toArray 26 (0, 0)), H30, sing b9 (.cells [.slice none 0 0, .slice none 0 0].toArray 26 (0, 0))] rfl ?_
     refine kl_nil (kq_x rfl (kt_end (by kernel_rfl) ?_))
     refine kq_code (kc_seq (kc_seq (kc_region (kl_ldW rfl rfl (kl_cmp H30 (orHp (orHp (orHp Hmc Hcv) Hca) Hcr) (fun c54 => ?_))))))
     have h53 := OwnL.consK o31 c54
     refine kl_callP rfl rfl (validMod_ok (⟨m.doms, (m.cons ++ [c])⟩ : Mod) (by assumption) (by assumption)) ?_
     refine kl_not rfl (kl_nil (kq_code (kc_cond rfl (fun c55 => ?_) (fun c55 => ?_))))
     ·skip
      have c55r := c55
      try simp only [smpC, decide_eq_true_eq, decide_eq_false_iff_not] at c55
      have hv := c55r
      have hv2 : validModB (withC m c) = false := by simpa [withC] using hv
      refine kc_seq (kc_region (kl_bd rfl cp_nil rfl ?_))
      refine kl_stW (us := [.slice none 0 0, .slice none 0 0]) rfl rfl rfl rfl (oc rfl (oc rfl oc_nil)) rfl ?_
      refine kl_chg [sing b51 (.cells [vmd, v29].toArray 26 (0, 0)), H30, sing b9 (.cells [.slice none 0 0, .slice none 0 0].toArray 26 (0, 0))] rfl ?_
      refine kl_as rfl (kl_nil (kq_code (kc_ret (kq_cmp noHp noHp (fun c56 => ?_)))))
      exact kq_retR (rss2 rfl (rs_agg rfl rfl) (rs_tmp rfl)) (orHp noHp noHp) (fr_or (fr_no _) (fr_no _)) ⟨(⟨[], []⟩ : Mod), false, _, _, rfl, (Sl.mono Sl.nil (fun b o h => orL b o h) (fun _ _ h => h)), (Sl.mono Sl.nil (fun b o h => orC c56 b o h) (fun _ _ h => h)), by first | exact (wc_no hv2).symm | exact (wc_yes hv2).symm⟩ .none
     ·skip
      have c55r := c55
      try simp only [smpC, decide_eq_true_eq, decide_eq_false_iff_not] at c55
      have hv := c55r
      have hv2 : validModB (withC m c) = true := by simpa [withC] using hv
      refine kc_skipQ (kq_code (kc_seq (kc_region (kl_ldW rfl rfl (kl_cmp H30 (orHp (orHp (orHp Hmc Hcv) Hca) Hcr) (fun c58 => ?_))))))
      have h57 := OwnL.consK o31 c58
      refine kl_call rfl rfl (copyModI_ok (⟨m.doms, (m.cons ++ [c])⟩ : Mod) (ok_small ⟨hv2⟩) (by assumption) (by assumption)) (fun v59 H60 f61 h62 => ?_)
      obtain ⟨u63, u64, rfl, h65, h66⟩ := h62
      refine kl_stW (us := [u63, u64]) rfl rfl rfl rfl (oc (Sl.oneCell (by assumption)) (oc (Sl.oneCell (by assumption)) oc_nil)) rfl ?_
      refine kl_chg [sing b51 (.cells [vmd, v29].toArray 26 (0, 0)), H30, sing b9 (.cells [u63, u64].toArray 26 (0, 0))] rfl ?_
      refine kl_as rfl (kl_nil (kq_code (kc_ret (kq_cmp H60 H60 (fun c67 => ?_)))))
      exact kq_retR (rss2 rfl (rs_agg rfl rfl) (rs_tmp rfl)) (orHp H60 H60) (fr_or f61 f61) ⟨(⟨(⟨m.doms, (m.cons ++ [c])⟩ : Mod).doms, (⟨m.doms, (m.cons ++ [c])⟩ : Mod).cons⟩ : Mod), true, _, _, rfl, (Sl.mono (by assumption) (fun b o h => orL b o h) (fun _ _ h => h)), (Cons.mono' (by assumption) (fun b o h => orC c67 b o h)), by first | exact (wc_no hv2).symm | exact (wc_yes hv2).symm⟩ .none
   ·skip
    refine kl_alloc (cs := [.slice none 0 0, .slice none 0 0]) rfl (fun b68 hb69 => ?_)
    refine kl_nil (kq_a (List.nil_sublist _) (kt_a 7 rfl (by kernel_rfl) (kl_cmp Hmc Hcv (fun c70 => ?_))))
    have o71 := OwnL.mono (K' := orHp Hmc Hcv) o18 orL
    refine kl_cmp (orHp Hmc Hcv) Hca (fun c72 => ?_)
    have o73 := OwnL.mono (K' := orHp (orHp Hmc Hcv) Hca) o71 orL
    refine kl_cmp (orHp (orHp Hmc Hcv) Hca) Hcr (fun c74 => ?_)
    have o75 := OwnL.mono (K' := orHp (orHp (orHp Hmc Hcv) Hca) Hcr) o73 orL
    refine kl_apL c rfl rfl o75 r22 ⟨_, _, _, rfl, (Sl.mono (by assumption) (fun b o h => orL b o (orL b o (orC c70 b o h))) (fun _ _ h => h)), (Sl.mono (by assumption) (fun b o h => orL b o (orC c72 b o h)) (fun _ _ h => h)), (Rows.mono' (by assumption) (fun b o h => orC c74 b o h))⟩ (oc rfl (oc (Sl.oneCell (by assumption)) (oc (Sl.oneCell (by assumption)) (oc rfl (oc (Sl.oneCell (by assumption)) oc_nil))))) (by (simp; omega)) (by decide) (fun v76 H77 o78 f79 => ?_)
    have f80 := f79 B f17 (Nat.le_refl _)
    refine kl_nil (kq_a (List.nil_sublist _) (kt_a 8 rfl (by kernel_rfl) (kl_bd rfl (cp (Sl.cells (by assumption)) (cp (OwnL.cells (by assumption)) cp_nil)) rfl ?_)))
    refine kl_nil (kq_x rfl (kt_a 10 rfl (by kernel_rfl) (kl_stW (us := [vmd, v76]) rfl rfl rfl rfl (oc (Sl.oneCell (by assumption)) (oc (OwnL.oneCell (by assumption)) oc_nil)) rfl ?_)))
    refine kl_chg [sing b68 (.cells [vmd, v76].toArray 26 (0, 0)), H77, sing b9 (.cells [.slice none 0 0, .slice none 0 0].toArray 26 (0, 0))] rfl ?_
    refine kl_nil (kq_x rfl (kt_end (by kernel_rfl) ?_))
    refine kq_code (kc_seq (kc_seq (kc_region (kl_ldW rfl rfl (kl_cmp H77 (orHp (orHp (orHp Hmc Hcv) Hca) Hcr) (fun c82 => ?_))))))
    have h81 := OwnL.consK o78 c82
    refine kl_callP rfl rfl (validMod_ok (⟨m.doms, (m.cons ++ [c])⟩ : Mod) (by assumption) (by assumption)) ?_
    refine kl_not rfl (kl_nil (kq_code (kc_cond rfl (fun c83 => ?_) (fun c83 => ?_))))
    ·skip
     have c83r := c83
     try simp only [smpC, decide_eq_true_eq, decide_eq_false_iff_not] at c83
     have hv := c83r
     have hv2 : validModB (withC m c) = false := by simpa [withC] using hv
     refine kc_seq (kc_region (kl_bd rfl cp_nil rfl ?_))
     refine kl_stW (us := [.slice none 0 0, .slice none 0 0]) rfl rfl rfl rfl (oc rfl (oc rfl oc_nil)) rfl ?_
     refine kl_chg [sing b68 (.cells [vmd, v76].toArray 26 (0, 0)), H77, sing b9 (.cells [.slice none 0 0, .slice none 0 0].toArray 26 (0, 0))] rfl ?_
     refine kl_as rfl (kl_nil (kq_code (kc_ret (kq_cmp noHp noHp (fun c84 => ?_)))))
     exact kq_retR (rss2 rfl (rs_agg rfl rfl) (rs_tmp rfl)) (orHp noHp noHp) (fr_or (fr_no _) (fr_no _)) ⟨(⟨[], []⟩ : Mod), false, _, _, rfl, (Sl.mono Sl.nil (fun b o h => orL b o h) (fun _ _ h => h)), (Sl.mono Sl.nil (fun b o h => orC c84 b o h) (fun _ _ h => h)), by first | exact (wc_no hv2).symm | exact (wc_yes hv2).symm⟩ .none
    ·skip
     have c83r := c83
     try simp only [smpC, decide_eq_true_eq, decide_eq_false_iff_not] at c83
     have hv := c83r
     have hv2 : validModB (withC m c) = true := by simpa [withC] using hv
     refine kc_skipQ (kq_code (kc_seq (kc_region (kl_ldW rfl rfl (kl_cmp H77 (orHp (orHp (orHp Hmc Hcv) Hca) Hcr) (fun c86 => ?_))))))
     have h85 := OwnL.consK o78 c86
     refine kl_call rfl rfl (copyModI_ok (⟨m.doms, (m.cons ++ [c])⟩ : Mod) (ok_small ⟨hv2⟩) (by assumption) (by assumption)) (fun v87 H88 f89 h90 => ?_)
     obtain ⟨u91, u92, rfl, h93, h94⟩ := h90
     refine kl_stW (us := [u91, u92]) rfl rfl rfl rfl (oc (Sl.oneCell (by assumption)) (oc (Sl.oneCell (by assumption)) oc_nil)) rfl ?_
     refine kl_chg [sing b68 (.cells [vmd, v76].toArray 26 (0, 0)), H77, sing b9 (.cells [u91, u92].toArray 26 (0, 0))] rfl ?_
     refine kl_as rfl (kl_nil (kq_code (kc_ret (kq_cmp H88 H88 (fun c95 => ?_)))))
     exact kq_retR (rss2 rfl (rs_agg rfl rfl) (rs_tmp rfl)) (orHp H88 H88) (fr_or f89 f89) ⟨(⟨(⟨m.doms, (m.cons ++ [c])⟩ : Mod).doms, (⟨m.doms, (m.cons ++ [c])⟩ : Mod).cons⟩ : Mod), true, _, _, rfl, (Sl.mono (by assumption) (fun b o h => orL b o h) (fun _ _ h => h)), (Cons.mono' (by assumption) (fun b o h => orC c95 b o h)), by first | exact (wc_no hv2).symm | exact (wc_yes hv2).symm⟩ .none
  ·skip
   refine kl_alloc (cs := [.slice none 0 0, .slice none 0 0]) rfl (fun b96 hb97 => ?_)
   refine kl_nil (kq_a (List.nil_sublist _) (kt_a 6 rfl (by kernel_rfl) (kl_bsK rfl (fun v98 H99 f100 r101 => ?_))))
   refine kl_nil (kq_a (List.nil_sublist _) (kt_a 7 rfl (by kernel_rfl) (kl_cmp Hmc Hcv (fun c102 => ?_))))
   have o103 := OwnL.mono (K' := orHp Hmc Hcv) o18 orL
   refine kl_cmp (orHp Hmc Hcv) Hca (fun c104 => ?_)
   have o105 := OwnL.mono (K' := orHp (orHp Hmc Hcv) Hca) o103 orL
   refine kl_cmp (orHp (orHp Hmc Hcv) Hca) Hcr (fun c106 => ?_)
   have o107 := OwnL.mono (K' := orHp (orHp (orHp Hmc Hcv) Hca) Hcr) o105 orL
   refine kl_apL c rfl rfl o107 r101 ⟨_, _, _, rfl, (Sl.mono (by assumption) (fun b o h => orL b o (orL b o (orC c102 b o h))) (fun _ _ h => h)), (Sl.mono (by assumption) (fun b o h => orL b o (orC c104 b o h)) (fun _ _ h => h)), (Rows.mono' (by assumption) (fun b o h => orC c106 b o h))⟩ (oc rfl (oc (Sl.oneCell (by assumption)) (oc (Sl.oneCell (by assumption)) (oc rfl (oc (Sl.oneCell (by assumption)) oc_nil))))) (by (simp; omega)) (by decide) (fun v108 H109 o110 f111 => ?_)
   have f112 := f111 B f17 (Nat.le_refl _)
   refine kl_nil (kq_a (List.nil_sublist _) (kt_a 8 rfl (by kernel_rfl) (kl_bd rfl (cp (Sl.cells (by assumption)) (cp (OwnL.cells (by assumption)) cp_nil)) rfl ?_)))
   refine kl_nil (kq_x rfl (kt_a 10 rfl (by kernel_rfl) (kl_stW (us := [vmd, v108]) rfl rfl rfl rfl (oc (Sl.oneCell (by assumption)) (oc (OwnL.oneCell (by assumption)) oc_nil)) rfl ?_)))
   refine kl_chg [sing b96 (.cells [vmd, v108].toArray 26 (0, 0)), H109, sing b9 (.cells [.slice none 0 0, .slice none 0 0].toArray 26 (0, 0))] rfl ?_
   refine kl_nil (kq_x rfl (kt_end (by kernel_rfl) ?_))
   refine kq_code (kc_seq (kc_seq (kc_region (kl_ldW rfl rfl (kl_cmp H109 (orHp (orHp (orHp Hmc Hcv) Hca) Hcr) (fun c114 => ?_))))))
   have h113 := OwnL.consK o110 c114
   refine kl_callP rfl rfl (validMod_ok (⟨m.doms, (m.cons ++ [c])⟩ : Mod) (by assumption) (by assumption)) ?_
   refine kl_not rfl (kl_nil (kq_code (kc_cond rfl (fun c115 => ?_) (fun c115 => ?_))))
   ·skip
    have c115r := c115
    try simp only [smpC, decide_eq_true_eq, decide_eq_false_iff_not] at c115
    have hv := c115r
    have hv2 : validModB (withC m c) = false := by simpa [withC] using hv
    refine kc_seq (kc_region (kl_bd rfl cp_nil rfl ?_))
    refine kl_stW (us := [.slice none 0 0, .slice none 0 0]) rfl rfl rfl rfl (oc rfl (oc rfl oc_nil)) rfl ?_
    refine kl_chg [sing b96 (.cells [vmd, v108].toArray 26 (0, 0)), H109, sing b9 (.cells [.slice none 0 0, .slice none 0 0].toArray 26 (0, 0))] rfl ?_
    refine kl_as rfl (kl_nil (kq_code (kc_ret (kq_cmp noHp noHp (fun c116 => ?_)))))
    exact kq_retR (rss2 rfl (rs_agg rfl rfl) (rs_tmp rfl)) (orHp noHp noHp) (fr_or (fr_no _) (fr_no _)) ⟨(⟨[], []⟩ : Mod), false, _, _, rfl, (Sl.mono Sl.nil (fun b o h => orL b o h) (fun _ _ h => h)), (Sl.mono Sl.nil (fun b o h => orC c116 b o h) (fun _ _ h => h)), by first | exact (wc_no hv2).symm | exact (wc_yes hv2).symm⟩ .none
   ·skip
    have c115r := c115
    try simp only [smpC, decide_eq_true_eq, decide_eq_false_iff_not] at c115
    have hv := c115r
    have hv2 : validModB (withC m c) = true := by simpa [withC] using hv
    refine kc_skipQ (kq_code (kc_seq (kc_region (kl_ldW rfl rfl (kl_cmp H109 (orHp (orHp (orHp Hmc Hcv) Hca) Hcr) (fun c118 => ?_))))))
    have h117 := OwnL.consK o110 c118
    refine kl_call rfl rfl (copyModI_ok (⟨m.doms, (m.cons ++ [c])⟩ : Mod) (ok_small ⟨hv2⟩) (by assumption) (by assumption)) (fun v119 H120 f121 h122 => ?_)
    obtain ⟨u123, u124, rfl, h125, h126⟩ := h122
    refine kl_stW (us := [u123, u124]) rfl rfl rfl rfl (oc (Sl.oneCell (by assumption)) (oc (Sl.oneCell (by assumption)) oc_nil)) rfl ?_
    refine kl_chg [sing b96 (.cells [vmd, v108].toArray 26 (0, 0)), H109, sing b9 (.cells [u123, u124].toArray 26 (0, 0))] rfl ?_
    refine kl_as rfl (kl_nil (kq_code (kc_ret (kq_cmp H120 H120 (fun c127 => ?_)))))
    exact kq_retR (rss2 rfl (rs_agg rfl rfl) (rs_tmp rfl)) (orHp H120 H120) (fr_or f121 f121) ⟨(⟨(⟨m.doms, (m.cons ++ [c])⟩ : Mod).doms, (⟨m.doms, (m.cons ++ [c])⟩ : Mod).cons⟩ : Mod), true, _, _, rfl, (Sl.mono (by assumption) (fun b o h => orL b o h) (fun _ _ h => h)), (Cons.mono' (by assumption) (fun b o h => orC c127 b o h)), by first | exact (wc_no hv2).symm | exact (wc_yes hv2).symm⟩ .none
 ·skip
  refine kl_bsK rfl (fun v128 H129 f130 r131 => ?_)
  refine kl_nil (kq_a (List.nil_sublist _) (kt_b 4 9 rfl rfl (by kernel_rfl) ?_ ?_))
  ·skip
   refine kl_callL rfl rfl (cloneC_ok m.cons (by omega) (by assumption)) (fun v132 H133 f134 o135 => ?_)
   refine kl_nil (kq_a (List.nil_sublist _) (kt_b 7 9 rfl rfl (by kernel_rfl) ?_ ?_))
   ·skip
    refine kl_cmp Hmc Hcv (fun c136 => ?_)
    have o137 := OwnL.mono (K' := orHp Hmc Hcv) o135 orL
    refine kl_cmp (orHp Hmc Hcv) Hca (fun c138 => ?_)
    have o139 := OwnL.mono (K' := orHp (orHp Hmc Hcv) Hca) o137 orL
    refine kl_cmp (orHp (orHp Hmc Hcv) Hca) Hcr (fun c140 => ?_)
    have o141 := OwnL.mono (K' := orHp (orHp (orHp Hmc Hcv) Hca) Hcr) o139 orL
    refine kl_apL c rfl rfl o141 r131 ⟨_, _, _, rfl, (Sl.mono (by assumption) (fun b o h => orL b o (orL b o (orC c136 b o h))) (fun _ _ h => h)), (Sl.mono (by assumption) (fun b o h => orL b o (orC c138 b o h)) (fun _ _ h => h)), (Rows.mono' (by assumption) (fun b o h => orC c140 b o h))⟩ (oc rfl (oc (Sl.oneCell (by assumption)) (oc (Sl.oneCell (by assumption)) (oc rfl (oc (Sl.oneCell (by assumption)) oc_nil))))) (by (simp; omega)) (by decide) (fun v142 H143 o144 f145 => ?_)
    have f146 := f145 B f134 (Nat.le_refl _)
    refine kl_nil (kq_a (List.nil_sublist _) (kt_b 8 9 rfl rfl (by kernel_rfl) ?_ ?_))
    ·skip
     refine kl_bd rfl (cp (Sl.cells (by assumption)) (cp (OwnL.cells (by assumption)) cp_nil)) rfl ?_
     refine kl_nil (kq_x rfl (kt_a 9 rfl (by kernel_rfl) (kl_alloc (cs := [.slice none 0 0, .slice none 0 0]) rfl (fun b147 hb148 => ?_))))
     refine kl_nil (kq_a (List.nil_sublist _) (kt_a 10 rfl (by kernel_rfl) (kl_stW (us := [vmd, v142]) rfl rfl rfl rfl (oc (Sl.oneCell (by assumption)) (oc (OwnL.oneCell (by assumption)) oc_nil)) rfl ?_)))
     refine kl_chg [sing b147 (.cells [vmd, v142].toArray 26 (0, 0)), H143, sing b9 (.cells [.slice none 0 0, .slice none 0 0].toArray 26 (0, 0))] rfl ?_
     refine kl_nil (kq_x rfl (kt_end (by kernel_rfl) ?_))
     refine kq_code (kc_seq (kc_seq (kc_region (kl_ldW rfl rfl (kl_cmp H143 (orHp (orHp (orHp Hmc Hcv) Hca) Hcr) (fun c150 => ?_))))))
     have h149 := OwnL.consK o144 c150
     refine kl_callP rfl rfl (validMod_ok (⟨m.doms, (m.cons ++ [c])⟩ : Mod) (by assumption) (by assumption)) ?_
     refine kl_not rfl (kl_nil (kq_code (kc_cond rfl (fun c151 => ?_) (fun c151 => ?_))))
     ·skip
      have c151r := c151
      try simp only [smpC, decide_eq_true_eq, decide_eq_false_iff_not] at c151
      have hv := c151r
      have hv2 : validModB (withC m c) = false := by simpa [withC] using hv
      refine kc_seq (kc_region (kl_bd rfl cp_nil rfl ?_))
      refine kl_stW (us := [.slice none 0 0, .slice none 0 0]) rfl rfl rfl rfl (oc rfl (oc rfl oc_nil)) rfl ?_
      refine kl_chg [sing b147 (.cells [vmd, v142].toArray 26 (0, 0)), H143, sing b9 (.cells [.slice none 0 0, .slice none 0 0].toArray 26 (0, 0))] rfl ?_
      refine kl_as rfl (kl_nil (kq_code (kc_ret (kq_cmp noHp noHp (fun c152 => ?_)))))
      exact kq_retR (rss2 rfl (rs_agg rfl rfl) (rs_tmp rfl)) (orHp noHp noHp) (fr_or (fr_no _) (fr_no _)) ⟨(⟨[], []⟩ : Mod), false, _, _, rfl, (Sl.mono Sl.nil (fun b o h => orL b o h) (fun _ _ h => h)), (Sl.mono Sl.nil (fun b o h => orC c152 b o h) (fun _ _ h => h)), by first | exact (wc_no hv2).symm | exact (wc_yes hv2).symm⟩ .none
     ·skip
      have c151r := c151
      try simp only [smpC, decide_eq_true_eq, decide_eq_false_iff_not] at c151
      have hv := c151r
      have hv2 : validModB (withC m c) = true := by simpa [withC] using hv
      refine kc_skipQ (kq_code (kc_seq (kc_region (kl_ldW rfl rfl (kl_cmp H143 (orHp (orHp (orHp Hmc Hcv) Hca) Hcr) (fun c154 => ?_))))))
      have h153 := OwnL.consK o144 c154
      refine kl_call rfl rfl (copyModI_ok (⟨m.doms, (m.cons ++ [c])⟩ : Mod) (ok_small ⟨hv2⟩) (by assumption) (by assumption)) (fun v155 H156 f157 h158 => ?_)
      obtain ⟨u159, u160, rfl, h161, h162⟩ := h158
      refine kl_stW (us := [u159, u160]) rfl rfl rfl rfl (oc (Sl.oneCell (by assumption)) (oc (Sl.oneCell (by assumption)) oc_nil)) rfl ?_
      refine kl_chg [sing b147 (.cells [vmd, v142].toArray 26 (0, 0)), H143, sing b9 (.cells [u159, u160].toArray 26 (0, 0))] rfl ?_
      refine kl_as rfl (kl_nil (kq_code (kc_ret (kq_cmp H156 H156 (fun c163 => ?_)))))
      exact kq_retR (rss2 rfl (rs_agg rfl rfl) (rs_tmp rfl)) (orHp H156 H156) (fr_or f157 f157) ⟨(⟨(⟨m.doms, (m.cons ++ [c])⟩ : Mod).doms, (⟨m.doms, (m.cons ++ [c])⟩ : Mod).cons⟩ : Mod), true, _, _, rfl, (Sl.mono (by assumption) (fun b o h => orL b o h) (fun _ _ h => h)), (Cons.mono' (by assumption) (fun b o h => orC c163 b o h)), by first | exact (wc_no hv2).symm | exact (wc_yes hv2).symm⟩ .none
    ·skip
     refine kl_alloc (cs := [.slice none 0 0, .slice none 0 0]) rfl (fun b164 hb165 => ?_)
     refine kl_nil (kq_a (List.nil_sublist _) (kt_a 8 rfl (by kernel_rfl) (kl_bd rfl (cp (Sl.cells (by assumption)) (cp (OwnL.cells (by assumption)) cp_nil)) rfl ?_)))
     refine kl_nil (kq_x rfl (kt_a 10 rfl (by kernel_rfl) (kl_stW (us := [vmd, v142]) rfl rfl rfl rfl (oc (Sl.oneCell (by assumption)) (oc (OwnL.oneCell (by assumption)) oc_nil)) rfl ?_)))
     refine kl_chg [sing b164 (.cells [vmd, v142].toArray 26 (0, 0)), H143, sing b9 (.cells [.slice none 0 0, .slice none 0 0].toArray 26 (0, 0))] rfl ?_
     refine kl_nil (kq_x rfl (kt_end (by kernel_rfl) ?_))
     refine kq_code (kc_seq (kc_seq (kc_region (kl_ldW rfl rfl (kl_cmp H143 (orHp (orHp (orHp Hmc Hcv) Hca) Hcr) (fun c167 => ?_))))))
     have h166 := OwnL.consK o144 c167
     refine kl_callP rfl rfl (validMod_ok (⟨m.doms, (m.cons ++ [c])⟩ : Mod) (by assumption) (by assumption)) ?_
     refine kl_not rfl (kl_nil (kq_code (kc_cond rfl (fun c168 => ?_) (fun c168 => ?_))))
     ·skip
      have c168r := c168
      try simp only [smpC, decide_eq_true_eq, decide_eq_false_iff_not] at c168
      have hv := c168r
      have hv2 : validModB (withC m c) = false := by simpa [withC] using hv
      refine kc_seq (kc_region (kl_bd rfl cp_nil rfl ?_))
      refine kl_stW (us := [.slice none 0 0, .slice none 0 0]) rfl rfl rfl rfl (oc rfl (oc rfl oc_nil)) rfl ?_
      refine kl_chg [sing b164 (.cells [vmd, v142].toArray 26 (0, 0)), H143, sing b9 (.cells [.slice none 0 0, .slice none 0 0].toArray 26 (0, 0))] rfl ?_
      refine kl_as rfl (kl_nil (kq_code (kc_ret (kq_cmp noHp noHp (fun c169 => ?_)))))
      exact kq_retR (rss2 rfl (rs_agg rfl rfl) (rs_tmp rfl)) (orHp noHp noHp) (fr_or (fr_no _) (fr_no _)) ⟨(⟨[], []⟩ : Mod), false, _, _, rfl, (Sl.mono Sl.nil (fun b o h => orL b o h) (fun _ _ h => h)), (Sl.mono Sl.nil (fun b o h => orC c169 b o h) (fun _ _ h => h)), by first | exact (wc_no hv2).symm | exact (wc_yes hv2).symm⟩ .none
     ·skip
      have c168r := c168
      try simp only [smpC, decide_eq_true_eq, decide_eq_false_iff_not] at c168
      have hv := c168r
      have hv2 : validModB (withC m c) = true := by simpa [withC] using hv
      refine kc_skipQ (kq_code (kc_seq (kc_region (kl_ldW rfl rfl (kl_cmp H143 (orHp (orHp (orHp Hmc Hcv) Hca) Hcr) (fun c171 => ?_))))))
      have h170 := OwnL.consK o144 c171
      refine kl_call rfl rfl (copyModI_ok (⟨m.doms, (m.cons ++ [c])⟩ : Mod) (ok_small ⟨hv2⟩) (by assumption) (by assumption)) (fun v172 H173 f174 h175 => ?_)
      obtain ⟨u176, u177, rfl, h178, h179⟩ := h175
      refine kl_stW (us := [u176, u177]) rfl rfl rfl rfl (oc (Sl.oneCell (by assumption)) (oc (Sl.oneCell (by assumption)) oc_nil)) rfl ?_
      refine kl_chg [sing b164 (.cells [vmd, v142].toArray 26 (0, 0)), H143, sing b9 (.cells [u176, u177].toArray 26 (0, 0))] rfl ?_
      refine kl_as rfl (kl_nil (kq_code (kc_ret (kq_cmp H173 H173 (fun c180 => ?_)))))
      exact kq_retR (rss2 rfl (rs_agg rfl rfl) (rs_tmp rfl)) (orHp H173 H173) (fr_or f174 f174) ⟨(⟨(⟨m.doms, (m.cons ++ [c])⟩ : Mod).doms, (⟨m.doms, (m.cons ++ [c])⟩ : Mod).cons⟩ : Mod), true, _, _, rfl, (Sl.mono (by assumption) (fun b o h => orL b o h) (fun _ _ h => h)), (Cons.mono' (by assumption) (fun b o h => orC c180 b o h)), by first | exact (wc_no hv2).symm | exact (wc_yes hv2).symm⟩ .none
   ·skip
    refine kl_alloc (cs := [.slice none 0 0, .slice none 0 0]) rfl (fun b181 hb182 => ?_)
    refine kl_nil (kq_a (List.nil_sublist _) (kt_a 7 rfl (by kernel_rfl) (kl_cmp Hmc Hcv (fun c183 => ?_))))
    have o184 := OwnL.mono (K' := orHp Hmc Hcv) o135 orL
    refine kl_cmp (orHp Hmc Hcv) Hca (fun c185 => ?_)
    have o186 := OwnL.mono (K' := orHp (orHp Hmc Hcv) Hca) o184 orL
    refine kl_cmp (orHp (orHp Hmc Hcv) Hca) Hcr (fun c187 => ?_)
    have o188 := OwnL.mono (K' := orHp (orHp (orHp Hmc Hcv) Hca) Hcr) o186 orL
    refine kl_apL c rfl rfl o188 r131 ⟨_, _, _, rfl, (Sl.mono (by assumption) (fun b o h => orL b o (orL b o (orC c183 b o h))) (fun _ _ h => h)), (Sl.mono (by assumption) (fun b o h => orL b o (orC c185 b o h)) (fun _ _ h => h)), (Rows.mono' (by assumption) (fun b o h => orC c187 b o h))⟩ (oc rfl (oc (Sl.oneCell (by assumption)) (oc (Sl.oneCell (by assumption)) (oc rfl (oc (Sl.oneCell (by assumption)) oc_nil))))) (by (simp; omega)) (by decide) (fun v189 H190 o191 f192 => ?_)
    have f193 := f192 B f134 (Nat.le_refl _)
    refine kl_nil (kq_a (List.nil_sublist _) (kt_a 8 rfl (by kernel_rfl) (kl_bd rfl (cp (Sl.cells (by assumption)) (cp (OwnL.cells (by assumption)) cp_nil)) rfl ?_)))
    refine kl_nil (kq_x rfl (kt_a 10 rfl (by kernel_rfl) (kl_stW (us := [vmd, v189]) rfl rfl rfl rfl (oc (Sl.oneCell (by assumption)) (oc (OwnL.oneCell (by assumption)) oc_nil)) rfl ?_)))
    refine kl_chg [sing b181 (.cells [vmd, v189].toArray 26 (0, 0)), H190, sing b9 (.cells [.slice none 0 0, .slice none 0 0].toArray 26 (0, 0))] rfl ?_
    refine kl_nil (kq_x rfl (kt_end (by kernel_rfl) ?_))
    refine kq_code (kc_seq (kc_seq (kc_region (kl_ldW rfl rfl (kl_cmp H190 (orHp (orHp (orHp Hmc Hcv) Hca) Hcr) (fun c195 => ?_))))))
    have h194 := OwnL.consK o191 c195
    refine kl_callP rfl rfl (validMod_ok (⟨m.doms, (m.cons ++ [c])⟩ : Mod) (by assumption) (by assumption)) ?_
    refine kl_not rfl (kl_nil (kq_code (kc_cond rfl (fun c196 => ?_) (fun c196 => ?_))))
    ·skip
     have c196r := c196
     try simp only [smpC, decide_eq_true_eq, decide_eq_false_iff_not] at c196
     have hv := c196r
     have hv2 : validModB (withC m c) = false := by simpa [withC] using hv
     refine kc_seq (kc_region (kl_bd rfl cp_nil rfl ?_))
     refine kl_stW (us := [.slice none 0 0, .slice none 0 0]) rfl rfl rfl rfl (oc rfl (oc rfl oc_nil)) rfl ?_
     refine kl_chg [sing b181 (.cells [vmd, v189].toArray 26 (0, 0)), H190, sing b9 (.cells [.slice none 0 0, .slice none 0 0].toArray 26 (0, 0))] rfl ?_
     refine kl_as rfl (kl_nil (kq_code (kc_ret (kq_cmp noHp noHp (fun c197 => ?_)))))
     exact kq_retR (rss2 rfl (rs_agg rfl rfl) (rs_tmp rfl)) (orHp noHp noHp) (fr_or (fr_no _) (fr_no _)) ⟨(⟨[], []⟩ : Mod), false, _, _, rfl, (Sl.mono Sl.nil (fun b o h => orL b o h) (fun _ _ h => h)), (Sl.mono Sl.nil (fun b o h => orC c197 b o h) (fun _ _ h => h)), by first | exact (wc_no hv2).symm | exact (wc_yes hv2).symm⟩ .none
    ·skip
     have c196r := c196
     try simp only [smpC, decide_eq_true_eq, decide_eq_false_iff_not] at c196
     have hv := c196r
     have hv2 : validModB (withC m c) = true := by simpa [withC] using hv
     refine kc_skipQ (kq_code (kc_seq (kc_region (kl_ldW rfl rfl (kl_cmp H190 (orHp (orHp (orHp Hmc Hcv) Hca) Hcr) (fun c199 => ?_))))))
     have h198 := OwnL.consK o191 c199
     refine kl_call rfl rfl (copyModI_ok (⟨m.doms, (m.cons ++ [c])⟩ : Mod) (ok_small ⟨hv2⟩) (by assumption) (by assumption)) (fun v200 H201 f202 h203 => ?_)
     obtain ⟨u204, u205, rfl, h206, h207⟩ := h203
     refine kl_stW (us := [u204, u205]) rfl rfl rfl rfl (oc (Sl.oneCell (by assumption)) (oc (Sl.oneCell (by assumption)) oc_nil)) rfl ?_
     refine kl_chg [sing b181 (.cells [vmd, v189].toArray 26 (0, 0)), H190, sing b9 (.cells [u204, u205].toArray 26 (0, 0))] rfl ?_
     refine kl_as rfl (kl_nil (kq_code (kc_ret (kq_cmp H201 H201 (fun c208 => ?_)))))
     exact kq_retR (rss2 rfl (rs_agg rfl rfl) (rs_tmp rfl)) (orHp H201 H201) (fr_or f202 f202) ⟨(⟨(⟨m.doms, (m.cons ++ [c])⟩ : Mod).doms, (⟨m.doms, (m.cons ++ [c])⟩ : Mod).cons⟩ : Mod), true, _, _, rfl, (Sl.mono (by assumption) (fun b o h => orL b o h) (fun _ _ h => h)), (Cons.mono' (by assumption) (fun b o h => orC c208 b o h)), by first | exact (wc_no hv2).symm | exact (wc_yes hv2).symm⟩ .none
  ·skip
   refine kl_alloc (cs := [.slice none 0 0, .slice none 0 0]) rfl (fun b209 hb210 => ?_)
   refine kl_nil (kq_a (List.nil_sublist _) (kt_a 4 rfl (by kernel_rfl) (kl_callL rfl rfl (cloneC_ok m.cons (by omega) (by assumption)) (fun v211 H212 f213 o214 => ?_))))
   refine kl_nil (kq_a (List.nil_sublist _) (kt_a 7 rfl (by kernel_rfl) (kl_cmp Hmc Hcv (fun c215 => ?_))))
   have o216 := OwnL.mono (K' := orHp Hmc Hcv) o214 orL
   refine kl_cmp (orHp Hmc Hcv) Hca (fun c217 => ?_)
   have o218 := OwnL.mono (K' := orHp (orHp Hmc Hcv) Hca) o216 orL
   refine kl_cmp (orHp (orHp Hmc Hcv) Hca) Hcr (fun c219 => ?_)
   have o220 := OwnL.mono (K' := orHp (orHp (orHp Hmc Hcv) Hca) Hcr) o218 orL
   refine kl_apL c rfl rfl o220 r131 ⟨_, _, _, rfl, (Sl.mono (by assumption) (fun b o h => orL b o (orL b o (orC c215 b o h))) (fun _ _ h => h)), (Sl.mono (by assumption) (fun b o h => orL b o (orC c217 b o h)) (fun _ _ h => h)), (Rows.mono' (by assumption) (fun b o h => orC c219 b o h))⟩ (oc rfl (oc (Sl.oneCell (by assumption)) (oc (Sl.oneCell (by assumption)) (oc rfl (oc (Sl.oneCell (by assumption)) oc_nil))))) (by (simp; omega)) (by decide) (fun v221 H222 o223 f224 => ?_)
   have f225 := f224 B f213 (Nat.le_refl _)
   refine kl_nil (kq_a (List.nil_sublist _) (kt_a 8 rfl (by kernel_rfl) (kl_bd rfl (cp (Sl.cells (by assumption)) (cp (OwnL.cells (by assumption)) cp_nil)) rfl ?_)))
   refine kl_nil (kq_x rfl (kt_a 10 rfl (by kernel_rfl) (kl_stW (us := [vmd, v221]) rfl rfl rfl rfl (oc (Sl.oneCell (by assumption)) (oc (OwnL.oneCell (by assumption)) oc_nil)) rfl ?_)))
   refine kl_chg [H222, sing b209 (.cells [vmd, v221].toArray 26 (0, 0)), sing b9 (.cells [.slice none 0 0, .slice none 0 0].toArray 26 (0, 0))] rfl ?_
   refine kl_nil (kq_x rfl (kt_end (by kernel_rfl) ?_))
   refine kq_code (kc_seq (kc_seq (kc_region (kl_ldW rfl rfl (kl_cmp H222 (orHp (orHp (orHp Hmc Hcv) Hca) Hcr) (fun c227 => ?_))))))
   have h226 := OwnL.consK o223 c227
   refine kl_callP rfl rfl (validMod_ok (⟨m.doms, (m.cons ++ [c])⟩ : Mod) (by assumption) (by assumption)) ?_
   refine kl_not rfl (kl_nil (kq_code (kc_cond rfl (fun c228 => ?_) (fun c228 => ?_))))
   ·skip
    have c228r := c228
    try simp only [smpC, decide_eq_true_eq, decide_eq_false_iff_not] at c228
    have hv := c228r
    have hv2 : validModB (withC m c) = false := by simpa [withC] using hv
    refine kc_seq (kc_region (kl_bd rfl cp_nil rfl ?_))
    refine kl_stW (us := [.slice none 0 0, .slice none 0 0]) rfl rfl rfl rfl (oc rfl (oc rfl oc_nil)) rfl ?_
    refine kl_chg [H222, sing b209 (.cells [vmd, v221].toArray 26 (0, 0)), sing b9 (.cells [.slice none 0 0, .slice none 0 0].toArray 26 (0, 0))] rfl ?_
    refine kl_as rfl (kl_nil (kq_code (kc_ret (kq_cmp noHp noHp (fun c229 => ?_)))))
    exact kq_retR (rss2 rfl (rs_agg rfl rfl) (rs_tmp rfl)) (orHp noHp noHp) (fr_or (fr_no _) (fr_no _)) ⟨(⟨[], []⟩ : Mod), false, _, _, rfl, (Sl.mono Sl.nil (fun b o h => orL b o h) (fun _ _ h => h)), (Sl.mono Sl.nil (fun b o h => orC c229 b o h) (fun _ _ h => h)), by first | exact (wc_no hv2).symm | exact (wc_yes hv2).symm⟩ .none
   ·skip
    have c228r := c228
    try simp only [smpC, decide_eq_true_eq, decide_eq_false_iff_not] at c228
    have hv := c228r
    have hv2 : validModB (withC m c) = true := by simpa [withC] using hv
    refine kc_skipQ (kq_code (kc_seq (kc_region (kl_ldW rfl rfl (kl_cmp H222 (orHp (orHp (orHp Hmc Hcv) Hca) Hcr) (fun c231 => ?_))))))
    have h230 := OwnL.consK o223 c231
    refine kl_call rfl rfl (copyModI_ok (⟨m.doms, (m.cons ++ [c])⟩ : Mod) (ok_small ⟨hv2⟩) (by assumption) (by assumption)) (fun v232 H233 f234 h235 => ?_)
    obtain ⟨u236, u237, rfl, h238, h239⟩ := h235
    refine kl_stW (us := [u236, u237]) rfl rfl rfl rfl (oc (Sl.oneCell (by assumption)) (oc (Sl.oneCell (by assumption)) oc_nil)) rfl ?_
    refine kl_chg [H222, sing b209 (.cells [vmd, v221].toArray 26 (0, 0)), sing b9 (.cells [u236, u237].toArray 26 (0, 0))] rfl ?_
    refine kl_as rfl (kl_nil (kq_code (kc_ret (kq_cmp H233 H233 (fun c240 => ?_)))))
    exact kq_retR (rss2 rfl (rs_agg rfl rfl) (rs_tmp rfl)) (orHp H233 H233) (fr_or f234 f234) ⟨(⟨(⟨m.doms, (m.cons ++ [c])⟩ : Mod).doms, (⟨m.doms, (m.cons ++ [c])⟩ : Mod).cons⟩ : Mod), true, _, _, rfl, (Sl.mono (by assumption) (fun b o h => orL b o h) (fun _ _ h => h)), (Cons.mono' (by assumption) (fun b o h => orC c240 b o h)), by first | exact (wc_no hv2).symm | exact (wc_yes hv2).symm⟩ .none
 ·skip
  refine kl_alloc (cs := [.slice none 0 0, .slice none 0 0]) rfl (fun b241 hb242 => ?_)
  refine kl_nil (kq_a (List.nil_sublist _) (kt_b 4 6 rfl rfl (by kernel_rfl) ?_ ?_))
  ·skip
   refine kl_callL rfl rfl (cloneC_ok m.cons (by omega) (by assumption)) (fun v243 H244 f245 o246 => ?_)
   refine kl_nil (kq_a (List.nil_sublist _) (kt_a 6 rfl (by kernel_rfl) (kl_bsK rfl (fun v247 H248 f249 r250 => ?_))))
   refine kl_nil (kq_a (List.nil_sublist _) (kt_a 7 rfl (by kernel_rfl) (kl_cmp Hmc Hcv (fun c251 => ?_))))
   have o252 := OwnL.mono (K' := orHp Hmc Hcv) o246 orL
   refine kl_cmp (orHp Hmc Hcv) Hca (fun c253 => ?_)
   have o254 := OwnL.mono (K' := orHp (orHp Hmc Hcv) Hca) o252 orL
   refine kl_cmp (orHp (orHp Hmc Hcv) Hca) Hcr (fun c255 => ?_)
   have o256 := OwnL.mono (K' := orHp (orHp (orHp Hmc Hcv) Hca) Hcr) o254 orL
   refine kl_apL c rfl rfl o256 r250 ⟨_, _, _, rfl, (Sl.mono (by assumption) (fun b o h => orL b o (orL b o (orC c251 b o h))) (fun _ _ h => h)), (Sl.mono (by assumption) (fun b o h => orL b o (orC c253 b o h)) (fun _ _ h => h)), (Rows.mono' (by assumption) (fun b o h => orC c255 b o h))⟩ (oc rfl (oc (Sl.oneCell (by assumption)) (oc (Sl.oneCell (by assumption)) (oc rfl (oc (Sl.oneCell (by assumption)) oc_nil))))) (by (simp; omega)) (by decide) (fun v257 H258 o259 f260 => ?_)
   have f261 := f260 B f245 (Nat.le_refl _)
   refine kl_nil (kq_a (List.nil_sublist _) (kt_a 8 rfl (by kernel_rfl) (kl_bd rfl (cp (Sl.cells (by assumption)) (cp (OwnL.cells (by assumption)) cp_nil)) rfl ?_)))
   refine kl_nil (kq_x rfl (kt_a 10 rfl (by kernel_rfl) (kl_stW (us := [vmd, v257]) rfl rfl rfl rfl (oc (Sl.oneCell (by assumption)) (oc (OwnL.oneCell (by assumption)) oc_nil)) rfl ?_)))
   refine kl_chg [H258, sing b241 (.cells [vmd, v257].toArray 26 (0, 0)), sing b9 (.cells [.slice none 0 0, .slice none 0 0].toArray 26 (0, 0))] rfl ?_
   refine kl_nil (kq_x rfl (kt_end (by kernel_rfl) ?_))
   refine kq_code (kc_seq (kc_seq (kc_region (kl_ldW rfl rfl (kl_cmp H258 (orHp (orHp (orHp Hmc Hcv) Hca) Hcr) (fun c263 => ?_))))))
   have h262 := OwnL.consK o259 c263
   refine kl_callP rfl rfl (validMod_ok (⟨m.doms, (m.cons ++ [c])⟩ : Mod) (by assumption) (by assumption)) ?_
   refine kl_not rfl (kl_nil (kq_code (kc_cond rfl (fun c264 => ?_) (fun c264 => ?_))))
   ·skip
    have c264r := c264
    try simp only [smpC, decide_eq_true_eq, decide_eq_false_iff_not] at c264
    have hv := c264r
    have hv2 : validModB (withC m c) = false := by simpa [withC] using hv
    refine kc_seq (kc_region (kl_bd rfl cp_nil rfl ?_))
    refine kl_stW (us := [.slice none 0 0, .slice none 0 0]) rfl rfl rfl rfl (oc rfl (oc rfl oc_nil)) rfl ?_
    refine kl_chg [H258, sing b241 (.cells [vmd, v257].toArray 26 (0, 0)), sing b9 (.cells [.slice none 0 0, .slice none 0 0].toArray 26 (0, 0))] rfl ?_
    refine kl_as rfl (kl_nil (kq_code (kc_ret (kq_cmp noHp noHp (fun c265 => ?_)))))
    exact kq_retR (rss2 rfl (rs_agg rfl rfl) (rs_tmp rfl)) (orHp noHp noHp) (fr_or (fr_no _) (fr_no _)) ⟨(⟨[], []⟩ : Mod), false, _, _, rfl, (Sl.mono Sl.nil (fun b o h => orL b o h) (fun _ _ h => h)), (Sl.mono Sl.nil (fun b o h => orC c265 b o h) (fun _ _ h => h)), by first | exact (wc_no hv2).symm | exact (wc_yes hv2).symm⟩ .none
   ·skip
    have c264r := c264
    try simp only [smpC, decide_eq_true_eq, decide_eq_false_iff_not] at c264
    have hv := c264r
    have hv2 : validModB (withC m c) = true := by simpa [withC] using hv
    refine kc_skipQ (kq_code (kc_seq (kc_region (kl_ldW rfl rfl (kl_cmp H258 (orHp (orHp (orHp Hmc Hcv) Hca) Hcr) (fun c267 => ?_))))))
    have h266 := OwnL.consK o259 c267
    refine kl_call rfl rfl (copyModI_ok (⟨m.doms, (m.cons ++ [c])⟩ : Mod) (ok_small ⟨hv2⟩) (by assumption) (by assumption)) (fun v268 H269 f270 h271 => ?_)
    obtain ⟨u272, u273, rfl, h274, h275⟩ := h271
    refine kl_stW (us := [u272, u273]) rfl rfl rfl rfl (oc (Sl.oneCell (by assumption)) (oc (Sl.oneCell (by assumption)) oc_nil)) rfl ?_
    refine kl_chg [H258, sing b241 (.cells [vmd, v257].toArray 26 (0, 0)), sing b9 (.cells [u272, u273].toArray 26 (0, 0))] rfl ?_
    refine kl_as rfl (kl_nil (kq_code (kc_ret (kq_cmp H269 H269 (fun c276 => ?_)))))
    exact kq_retR (rss2 rfl (rs_agg rfl rfl) (rs_tmp rfl)) (orHp H269 H269) (fr_or f270 f270) ⟨(⟨(⟨m.doms, (m.cons ++ [c])⟩ : Mod).doms, (⟨m.doms, (m.cons ++ [c])⟩ : Mod).cons⟩ : Mod), true, _, _, rfl, (Sl.mono (by assumption) (fun b o h => orL b o h) (fun _ _ h => h)), (Cons.mono' (by assumption) (fun b o h => orC c276 b o h)), by first | exact (wc_no hv2).symm | exact (wc_yes hv2).symm⟩ .none
  ·skip
   refine kl_bsK rfl (fun v277 H278 f279 r280 => ?_)
   refine kl_nil (kq_a (List.nil_sublist _) (kt_a 4 rfl (by kernel_rfl) (kl_callL rfl rfl (cloneC_ok m.cons (by omega) (by assumption)) (fun v281 H282 f283 o284 => ?_))))
   refine kl_nil (kq_a (List.nil_sublist _) (kt_a 7 rfl (by kernel_rfl) (kl_cmp Hmc Hcv (fun c285 => ?_))))
   have o286 := OwnL.mono (K' := orHp Hmc Hcv) o284 orL
   refine kl_cmp (orHp Hmc Hcv) Hca (fun c287 => ?_)
   have o288 := OwnL.mono (K' := orHp (orHp Hmc Hcv) Hca) o286 orL
   refine kl_cmp (orHp (orHp Hmc Hcv) Hca) Hcr (fun c289 => ?_)
   have o290 := OwnL.mono (K' := orHp (orHp (orHp Hmc Hcv) Hca) Hcr) o288 orL
   refine kl_apL c rfl rfl o290 r280 ⟨_, _, _, rfl, (Sl.mono (by assumption) (fun b o h => orL b o (orL b o (orC c285 b o h))) (fun _ _ h => h)), (Sl.mono (by assumption) (fun b o h => orL b o (orC c287 b o h)) (fun _ _ h => h)), (Rows.mono' (by assumption) (fun b o h => orC c289 b o h))⟩ (oc rfl (oc (Sl.oneCell (by assumption)) (oc (Sl.oneCell (by assumption)) (oc rfl (oc (Sl.oneCell (by assumption)) oc_nil))))) (by (simp; omega)) (by decide) (fun v291 H292 o293 f294 => ?_)
   have f295 := f294 B f283 (Nat.le_refl _)
   refine kl_nil (kq_a (List.nil_sublist _) (kt_a 8 rfl (by kernel_rfl) (kl_bd rfl (cp (Sl.cells (by assumption)) (cp (OwnL.cells (by assumption)) cp_nil)) rfl ?_)))
   refine kl_nil (kq_x rfl (kt_a 10 rfl (by kernel_rfl) (kl_stW (us := [vmd, v291]) rfl rfl rfl rfl (oc (Sl.oneCell (by assumption)) (oc (OwnL.oneCell (by assumption)) oc_nil)) rfl ?_)))
   refine kl_chg [H292, sing b241 (.cells [vmd, v291].toArray 26 (0, 0)), sing b9 (.cells [.slice none 0 0, .slice none 0 0].toArray 26 (0, 0))] rfl ?_
   refine kl_nil (kq_x rfl (kt_end (by kernel_rfl) ?_))
   refine kq_code (kc_seq (kc_seq (kc_region (kl_ldW rfl rfl (kl_cmp H292 (orHp (orHp (orHp Hmc Hcv) Hca) Hcr) (fun c297 => ?_))))))
   have h296 := OwnL.consK o293 c297
   refine kl_callP rfl rfl (validMod_ok (⟨m.doms, (m.cons ++ [c])⟩ : Mod) (by assumption) (by assumption)) ?_
   refine kl_not rfl (kl_nil (kq_code (kc_cond rfl (fun c298 => ?_) (fun c298 => ?_))))
   ·skip
    have c298r := c298
    try simp only [smpC, decide_eq_true_eq, decide_eq_false_iff_not] at c298
    have hv := c298r
    have hv2 : validModB (withC m c) = false := by simpa [withC] using hv
    refine kc_seq (kc_region (kl_bd rfl cp_nil rfl ?_))
    refine kl_stW (us := [.slice none 0 0, .slice none 0 0]) rfl rfl rfl rfl (oc rfl (oc rfl oc_nil)) rfl ?_
    refine kl_chg [H292, sing b241 (.cells [vmd, v291].toArray 26 (0, 0)), sing b9 (.cells [.slice none 0 0, .slice none 0 0].toArray 26 (0, 0))] rfl ?_
    refine kl_as rfl (kl_nil (kq_code (kc_ret (kq_cmp noHp noHp (fun c299 => ?_)))))
    exact kq_retR (rss2 rfl (rs_agg rfl rfl) (rs_tmp rfl)) (orHp noHp noHp) (fr_or (fr_no _) (fr_no _)) ⟨(⟨[], []⟩ : Mod), false, _, _, rfl, (Sl.mono Sl.nil (fun b o h => orL b o h) (fun _ _ h => h)), (Sl.mono Sl.nil (fun b o h => orC c299 b o h) (fun _ _ h => h)), by first | exact (wc_no hv2).symm | exact (wc_yes hv2).symm⟩ .none
   ·skip
    have c298r := c298
    try simp only [smpC, decide_eq_true_eq, decide_eq_false_iff_not] at c298
    have hv := c298r
    have hv2 : validModB (withC m c) = true := by simpa [withC] using hv
    refine kc_skipQ (kq_code (kc_seq (kc_region (kl_ldW rfl rfl (kl_cmp H292 (orHp (orHp (orHp Hmc Hcv) Hca) Hcr) (fun c301 => ?_))))))
    have h300 := OwnL.consK o293 c301
    refine kl_call rfl rfl (copyModI_ok (⟨m.doms, (m.cons ++ [c])⟩ : Mod) (ok_small ⟨hv2⟩) (by assumption) (by assumption)) (fun v302 H303 f304 h305 => ?_)
    obtain ⟨u306, u307, rfl, h308, h309⟩ := h305
    refine kl_stW (us := [u306, u307]) rfl rfl rfl rfl (oc (Sl.oneCell (by assumption)) (oc (Sl.oneCell (by assumption)) oc_nil)) rfl ?_
    refine kl_chg [H292, sing b241 (.cells [vmd, v291].toArray 26 (0, 0)), sing b9 (.cells [u306, u307].toArray 26 (0, 0))] rfl ?_
    refine kl_as rfl (kl_nil (kq_code (kc_ret (kq_cmp H303 H303 (fun c310 => ?_)))))
    exact kq_retR (rss2 rfl (rs_agg rfl rfl) (rs_tmp rfl)) (orHp H303 H303) (fr_or f304 f304) ⟨(⟨(⟨m.doms, (m.cons ++ [c])⟩ : Mod).doms, (⟨m.doms, (m.cons ++ [c])⟩ : Mod).cons⟩ : Mod), true, _, _, rfl, (Sl.mono (by assumption) (fun b o h => orL b o h) (fun _ _ h => h)), (Cons.mono' (by assumption) (fun b o h => orC c310 b o h)), by first | exact (wc_no hv2).symm | exact (wc_yes hv2).symm⟩ .none
theorem belowI_ok {Hmd : Hp} {vmd : Value} {Hmc : Hp} {vmc : Value} {Hobj : Hp} {vobj : Value} (m : Mod) (obj : List Int) (b : Int) (hl : m.cons.length ≤ 100) (ho : obj.length ≤ 100) (hmd : Ints Hmd vmd m.doms) (hmc : Cons Hmc vmc m.cons) (hobj : Ints Hobj vobj obj) : Spec Tryz.prog 76 [.agg #[vmd, vmc], vobj, .int .i64 b] [Hmd, Hmc, Hobj] (fun Hq vq => ∃ (mq : Mod) (bq : Bool) (uq0a uq0b : Value), vq = .tuple #[.agg #[uq0a, uq0b], .bool bq] ∧ Ints Hq uq0a mq.doms ∧ Cons Hq uq0b mq.cons ∧ (mq, bq) = wcR m (lowC obj.length obj b)) := by
 refine spec_ofR Tryz.func76 rfl rfl rfl (fun B => ?_)
 refine kc_seq (kc_region (kl_box rfl rfl (fun p1 H2 f3 a4 => ?_)))
 refine kl_alloc (cs := [.slice none 0 0, .slice none 0 0]) rfl (fun b5 hb6 => ?_)
 refine kl_as rfl (kl_nil (kq_code (kc_seq (kc_region (kl_mv rfl (kl_len rfl (by assumption) (fun l7 => ?_)))))))
 refine kl_mkL0 (R := IntV) rfl rfl (by omega) (by omega) (by decide) (fun v8 H9 f10 o11 => ?_)
 refine kl_as rfl (kl_nil (kq_code (kc_seq (kc_seq (kc_region (kl_mv rfl (kl_len rfl (by assumption) (fun l12 => ?_))))))))
 refine kl_mv rfl (kl_nil (kq_code (kc_block (kc_loopL (A := Nat × List Int × Value × Hp) (fun zz => (zz.1 ≤ obj.length) ∧ (zz.2.1 = iotaN zz.1) ∧ OwnL 3 1 zz.2.2.2 noHp IntV zz.2.2.1 zz.2.1 ∧ Fr B zz.2.2.2) (fun zz => obj.length - zz.1) (fun zz => [zz.2.2.2, sing b5 (.cells [.slice none 0 0, .slice none 0 0].toArray 26 (0, 0))]) (fun zz => [(15, .int .i64 (zz.1 : Int)), (8, zz.2.2.1)]) (0, ([]), v8, H9) (pc 1 rfl (pc 2 rfl (pc 3 rfl (pc 6 rfl (pc 7 rfl (pc 14 rfl pn)))))) (pc 15 rfl (pc 8 rfl pn)) rfl ⟨Nat.zero_le _, rfl, o11, f10⟩ ?_))))
 rintro ⟨k, vs, v18, H15⟩ hJ19
 obtain ⟨hk13, hi14, o16, f17⟩ : (k ≤ obj.length) ∧ (vs = iotaN k) ∧ OwnL 3 1 H15 noHp IntV v18 vs ∧ Fr B H15 := hJ19
 change KC _ _ (_) [H15, sing b5 (.cells [.slice none 0 0, .slice none 0 0].toArray 26 (0, 0))] _ ([(15, .int .i64 (k : Int)), (8, v18)] ++ _)
 refine kc_seq (kc_region (kl_lss rfl rfl ?_))
 refine kl_nil (kq_code (kc_seq (kc_if rfl (fun c20 => ?_) (fun c20 => ?_))))
 ·skip
  refine kc_skipQ (kq_code (kc_seq (kc_block (kc_seq (kc_region (kl_mv rfl (kl_as rfl (kl_nil (kq_code (kc_region ?_))))))))))
  refine kl_mv rfl (kl_mv rfl (kl_bs rfl rfl rfl (by decide) (ca rfl ca_nil) (fun v21 H22 f23 r24 s25 => ?_)))
  have h26 : Ints H22 v21 [(k : Int)] := litInts (xs := [(k : Int)]) (by simpa using s25)
  refine kl_apL (k : Int) rfl rfl o16 (by assumption) rfl (oc rfl oc_nil) (by (have h9 := congrArg List.length hi14; rw [iota_len] at h9; omega)) (by decide) (fun v27 H28 o29 f30 => ?_)
  have f31 := f30 B f17 (Nat.le_refl _)
  refine kl_as rfl (kl_nil (kq_code (kc_region (kl_inc rfl rfl (by omega) ?_))))
  refine kl_mv rfl (kl_nil (kq_take [H28, sing b5 (.cells [.slice none 0 0, .slice none 0 0].toArray 26 (0, 0))] ?_))
  refine kq_roundL ((k + 1), (vs ++ [(k : Int)]), v27, H28) (by omega) (⟨by omega, (iotaN_step hi14), o29, f31⟩) (pc 15 rfl (pc 8 rfl pn)) (pc 1 rfl (pc 2 rfl (pc 3 rfl (pc 6 rfl (pc 7 rfl (pc 14 rfl pn)))))) rfl (List.Sublist.refl _)
 ·skip
  refine kc_exit (kq_code (kc_seq (kc_region (kl_ldS rfl (by assumption) rfl ?_))))
  refine kl_mv rfl (kl_mv rfl (kl_mv rfl (kl_bd rfl (cp rfl (cp (OwnL.cells (by assumption)) (cp (Sl.cells (by assumption)) (cp rfl cp_nil)))) rfl ?_)))
  refine kl_call rfl rfl (withI_ok m ⟨(1 : Int), vs, obj, b, []⟩ hl (by assumption) (by assumption) (OwnL.ints o16) (by assumption) (Sl.nil (H := noHp))) (fun v32 H33 f34 h35 => ?_)
  obtain ⟨z38, z43, u39, u40, rfl, h41, h42, h37⟩ := h35
  have hwc := h37
  refine kl_xt rfl rfl (kl_xt rfl rfl (kl_stW (us := [u39, u40]) rfl rfl rfl rfl (oc (Sl.oneCell (by assumption)) (oc (Sl.oneCell (by assumption)) oc_nil)) rfl ?_))
  refine kl_chg [H15, sing b5 (.cells [u39, u40].toArray 26 (0, 0))] rfl ?_
  refine kl_as rfl (kl_nil (kq_code (kc_ret (kq_cmp H33 H33 (fun c44 => ?_)))))
  exact kq_retR (rss2 rfl (rs_agg rfl rfl) (rs_tmp rfl)) (orHp H33 H33) (fr_or f34 f34) ⟨(⟨z38.doms, z38.cons⟩ : Mod), z43, _, _, rfl, (Sl.mono (by assumption) (fun b o h => orL b o h) (fun _ _ h => h)), (Cons.mono' (by assumption) (fun b o h => orC c44 b o h)), by (have h9 := hi14; rw [show k = obj.length from by omega] at h9; rw [h9] at hwc; exact hwc)⟩ .none
theorem boundedI_ok {Hmd : Hp} {vmd : Value} {Hmc : Hp} {vmc : Value} {Hobj : Hp} {vobj : Value} (m : Mod) (obj : List Int) (b : Int) (hmd : Ints Hmd vmd m.doms) (hmc : Cons Hmc vmc m.cons) (hobj : Ints Hobj vobj obj) : Spec Tryz.prog 40 [.agg #[vmd, vmc], vobj, .int .i64 b] [Hmd, Hmc, Hobj] (fun Hq vq => ∃ (mq : Mod) (bq : Bool) (uq0a uq0b : Value), vq = .tuple #[.agg #[uq0a, uq0b], .bool bq] ∧ Ints Hq uq0a mq.doms ∧ Cons Hq uq0b mq.cons ∧ (mq, bq) = bdR m obj b) := by
 refine spec_ofR Tryz.func40 rfl rfl rfl (fun B => ?_)
 refine kc_seq (kc_region (kl_box rfl rfl (fun p1 H2 f3 a4 => ?_)))
 refine kl_alloc (cs := [.slice none 0 0, .slice none 0 0]) rfl (fun b5 hb6 => ?_)
 refine kl_as rfl (kl_nil (kq_code (kc_seq (kc_seq (kc_region (kl_ldS rfl (by assumption) rfl ?_))))))
 refine kl_mv rfl (kl_callP rfl rfl (objectiveOk_ok m obj (by assumption) (by assumption) (by assumption)) ?_)
 refine kl_not rfl (kl_mv rfl (kl_join 4 16 (.bool (!(objOkB m obj) || !(withinB b (-998 : Int) (1000 : Int)))) (pc 1 rfl (pc 2 rfl (pc 3 rfl (pc 6 rfl (pc 7 rfl (pc 12 rfl pn)))))) (fun J8 => ?_) ?_))
 ·rcases Bool.eq_false_or_eq_true (!(objOkB m obj)) with g7 | g7
  ·skip
   refine kl_gF rfl rfl g7 (kl_gF rfl rfl g7 (kl_gF rfl rfl g7 (kl_orT (!(withinB b (-998 : Int) (1000 : Int))) rfl rfl g7 ?_)))
   exact J8 _ (pc 16 rfl (pc 1 rfl (pc 2 rfl (pc 3 rfl (pc 6 rfl (pc 7 rfl (pc 12 rfl pn)))))))
  ·skip
   have g7p := g7
   try simp only [Bool.not_eq_true', Bool.not_eq_false', decide_eq_true_eq, decide_eq_false_iff_not, Bool.and_eq_true, Bool.or_eq_false_iff, withinB_iff] at g7p
   refine kl_gT rfl rfl g7 (kl_mv rfl (kl_gT rfl rfl g7 (kl_callP rfl rfl (within_ok b (-998 : Int) (1000 : Int)) ?_)))
   refine kl_gT rfl rfl g7 (kl_not rfl (kl_orF rfl rfl g7 ?_))
   exact J8 _ (pc 16 rfl (pc 1 rfl (pc 2 rfl (pc 3 rfl (pc 6 rfl (pc 7 rfl (pc 12 rfl pn)))))))
 refine kl_nil (kq_code (kc_cond rfl (fun c9 => ?_) (fun c9 => ?_)))
 ·skip
  have c9r := c9
  try simp only [smpC, decide_eq_true_eq, decide_eq_false_iff_not] at c9
  have hno := c9r
  refine kc_seq (kc_region (kl_bd rfl cp_nil rfl ?_))
  refine kl_stW (us := [.slice none 0 0, .slice none 0 0]) rfl rfl rfl rfl (oc rfl (oc rfl oc_nil)) rfl ?_
  refine kl_chg [sing b5 (.cells [.slice none 0 0, .slice none 0 0].toArray 26 (0, 0))] rfl ?_
  refine kl_as rfl (kl_nil (kq_code (kc_ret (kq_cmp noHp noHp (fun c10 => ?_)))))
  exact kq_retR (rss2 rfl (rs_agg rfl rfl) (rs_tmp rfl)) (orHp noHp noHp) (fr_or (fr_no _) (fr_no _)) ⟨(⟨[], []⟩ : Mod), false, _, _, rfl, (Sl.mono Sl.nil (fun b o h => orL b o h) (fun _ _ h => h)), (Sl.mono Sl.nil (fun b o h => orC c10 b o h) (fun _ _ h => h)), by first | exact (bd_no hno).symm | (rw [bd_yes hgo]; exact hbl)⟩ .none
 ·skip
  have c9r := c9
  try simp only [smpC, decide_eq_true_eq, decide_eq_false_iff_not] at c9
  have hgo := c9r
  have hok := bd_ok hgo
  refine kc_skipQ (kq_code (kc_seq (kc_region (kl_ldS rfl (by assumption) rfl ?_))))
  refine kl_mv rfl (kl_mv rfl (kl_sub rfl rfl (by omega) ?_))
  refine kl_call rfl rfl (belowI_ok m obj (b - (1 : Int)) hok.1 hok.2.1 (by assumption) (by assumption) (by assumption)) (fun v11 H12 f13 h14 => ?_)
  obtain ⟨z17, z22, u18, u19, rfl, h20, h21, h16⟩ := h14
  have hbl := h16
  refine kl_xt rfl rfl (kl_xt rfl rfl (kl_stW (us := [u18, u19]) rfl rfl rfl rfl (oc (Sl.oneCell (by assumption)) (oc (Sl.oneCell (by assumption)) oc_nil)) rfl ?_))
  refine kl_chg [sing b5 (.cells [u18, u19].toArray 26 (0, 0))] rfl ?_
  refine kl_as rfl (kl_nil (kq_code (kc_ret (kq_cmp H12 H12 (fun c23 => ?_)))))
  exact kq_retR (rss2 rfl (rs_agg rfl rfl) (rs_tmp rfl)) (orHp H12 H12) (fr_or f13 f13) ⟨(⟨z17.doms, z17.cons⟩ : Mod), z22, _, _, rfl, (Sl.mono (by assumption) (fun b o h => orL b o h) (fun _ _ h => h)), (Cons.mono' (by assumption) (fun b o h => orC c23 b o h)), by first | exact (bd_no hno).symm | (rw [bd_yes hgo]; exact hbl)⟩ .none
theorem restrI_ok (n : Nat) {Hds : Hp} {vds : Value} {Hc : Hp} {vc : Value} (ds : List Int) (c : List Lit) (hd : DOk n ds) (hci : ClIn n c) (hn : n ≤ 4) (hds : Ints Hds vds ds) (hc : Lits Hc vc c) : Spec Tryz.prog 131 [vds, vc] [Hds, Hc] (fun Hq vq => Ints Hq vq (rstL ds c)) := by
 refine spec_of Tryz.func131 rfl rfl rfl (fun B => ?_)
 refine kc_seq (kc_region (kl_as rfl (kl_nil (kq_code (kc_seq (kc_region (kl_mv rfl (kl_callL rfl rfl (copied_ok ds (by have := hd.l; omega) (by assumption)) (fun v1 H2 f3 o4 => ?_)))))))))
 refine kl_as rfl (kl_nil (kq_code (kc_seq (kc_seq (kc_region (kl_mv rfl (kl_len rfl (by assumption) (fun l5 => ?_))))))))
 refine kl_mv rfl (kl_nil (kq_code (kc_block (kc_loopL (A := Nat × List Int × Hp) (fun zz => (zz.1 ≤ c.length) ∧ (zz.2.1 = rstL ds (c.take zz.1)) ∧ OwnL 3 1 zz.2.2 noHp IntV v1 zz.2.1 ∧ Fr B zz.2.2) (fun zz => c.length - zz.1) (fun zz => [zz.2.2]) (fun zz => [(12, .int .i64 (zz.1 : Int))]) (0, ds, H2) (pc 4 rfl (pc 5 rfl (pc 10 rfl (pc 11 rfl pn)))) (pc 12 rfl pn) rfl ⟨Nat.zero_le _, rfl, o4, f3⟩ ?_))))
 rintro ⟨k, xs, H8⟩ hJ11
 obtain ⟨hk6, hi7, o9, f10⟩ : (k ≤ c.length) ∧ (xs = rstL ds (c.take k)) ∧ OwnL 3 1 H8 noHp IntV v1 xs ∧ Fr B H8 := hJ11
 change KC _ _ (_) [H8] _ ([(12, .int .i64 (k : Int))] ++ _)
 have hxl : xs.length = n := (by rw [hi7]; exact (rstL_ok hd (fun l hl => hci l (List.mem_of_mem_take hl))).1.l)
 refine kc_seq (kc_region (kl_lss rfl rfl ?_))
 refine kl_nil (kq_code (kc_seq (kc_if rfl (fun c12 => ?_) (fun c12 => ?_))))
 ·skip
  have hlk := hci _ (getD_mem (d := nilLit) (by omega : k < c.length))
  have hlv := hlk.1
  have hlu := hlk.2
  refine kc_skipQ (kq_code (kc_seq (kc_block (kc_seq (kc_region (kl_inQ rfl rfl (by assumption) (by first | omega | (simp; omega)) (fun p13 a14 => ?_)))))))
  refine kl_ldS rfl (by assumption) rfl ?_
  refine kl_alloc (cs := [.int .i64 (0 : Int), .int .i64 (0 : Int), .bool false]) rfl (fun b15 hb16 => ?_)
  refine kl_stW (us := [.int .i64 ((c.getD k nilLit).var), .int .i64 ((c.getD k nilLit).val), .bool ((c.getD k nilLit).neg)]) rfl rfl rfl rfl (oc rfl (oc rfl (oc rfl oc_nil))) rfl ?_
  refine kl_chg [sing b15 (.cells [.int .i64 ((c.getD k nilLit).var), .int .i64 ((c.getD k nilLit).val), .bool ((c.getD k nilLit).neg)].toArray 107 (0, 0)), H8] rfl ?_
  refine kl_nil (kq_code (kc_tree (fun i => ([9] : List Nat).contains i) [sing b15 (.cells [.int .i64 ((c.getD k nilLit).var), .int .i64 ((c.getD k nilLit).val), .bool ((c.getD k nilLit).neg)].toArray 107 (0, 0)), H8] (by kernel_rfl) ?_))
  refine kt_q 0 (.cons_cons _ (.cons_cons _ (List.nil_sublist _))) rfl (by kernel_rfl) (kl_mv rfl (kl_nil (kq_q (kt_q 1 (.cons_cons _ (.cons_cons _ (List.nil_sublist _))) rfl (by kernel_rfl) (kl_fdV rfl (kl_nil (kq_q (kt_q 2 (.cons_cons _ (.cons_cons _ (List.nil_sublist _))) rfl (by kernel_rfl) (kl_ld rfl (at_box (T := 107) (cs := [.int .i64 ((c.getD k nilLit).var), .int .i64 ((c.getD k nilLit).val), .bool ((c.getD k nilLit).neg)]) (off := 0) (fz := (0, 0))) ?_)))))))))
  refine kl_nil (kq_q (kt_q 3 (.cons_cons _ (.cons_cons _ (List.nil_sublist _))) rfl (by kernel_rfl) (kl_ixL rfl rfl (by assumption) (by first | omega | (simp; omega)) (by first | omega | (simp; omega)) (fun p17 q18 => ?_))))
  refine kl_nil (kq_q (kt_q 4 (.cons_cons _ (.cons_cons _ (List.nil_sublist _))) rfl (by kernel_rfl) (kl_ldLIe rfl (by assumption) (by assumption) (by first | omega | (simp; omega)) ?_)))
  refine kl_nil (kq_q (kt_q 5 (.cons_cons _ (.cons_cons _ (List.nil_sublist _))) rfl (by kernel_rfl) (kl_ldS rfl (at_box (T := 107) (cs := [.int .i64 ((c.getD k nilLit).var), .int .i64 ((c.getD k nilLit).val), .bool ((c.getD k nilLit).neg)]) (off := 0) (fz := (0, 0))) rfl ?_)))
  refine kl_nil (kq_q (kt_a 6 rfl (by kernel_rfl) (kl_callP rfl rfl (truesL_ok (c.getD k nilLit) (by omega)) ?_)))
  refine kl_nil (kq_a (.cons_cons _ (.cons_cons _ (List.nil_sublist _))) (kt_q 7 (.cons_cons _ (.cons_cons _ (List.nil_sublist _))) rfl (by kernel_rfl) (kl_and rfl rfl ?_)))
  refine kl_nil (kq_q (kt_q 8 (.cons_cons _ (.cons_cons _ (List.nil_sublist _))) rfl (by kernel_rfl) (kl_ixL rfl rfl (by assumption) (by first | omega | (simp; omega)) (by first | omega | (simp; omega)) (fun p19 q20 => ?_))))
  refine kl_nil (kq_q (kt_a 9 rfl (by kernel_rfl) (kl_stL (iand (xs.getD (((c.getD k nilLit).var).toNat) 0) (truesI (c.getD k nilLit))) rfl rfl (by assumption) o9 (by first | omega | (simp; omega)) rfl rfl rfl (fun H21 o22 f23 => ?_))))
  have f24 := f23 _ f10
  refine kl_chg [sing b15 (.cells [.int .i64 ((c.getD k nilLit).var), .int .i64 ((c.getD k nilLit).val), .bool ((c.getD k nilLit).neg)].toArray 107 (0, 0)), H21] rfl ?_
  refine kl_nil (kq_x rfl (kt_end (by kernel_rfl) ?_))
  refine kq_code (kc_region (kl_inc rfl rfl (by omega) ?_))
  refine kl_mv rfl (kl_nil (kq_take [H21] ?_))
  refine kq_roundL ((k + 1), (xs.set (((c.getD k nilLit).var).toNat) (iand (xs.getD (((c.getD k nilLit).var).toNat) 0) (truesI (c.getD k nilLit)))), H21) (by omega) (⟨by omega, (by rw [← rst_step (by omega), ← hi7]; rfl), o22, f24⟩) (pc 12 rfl pn) (pc 4 rfl (pc 5 rfl (pc 10 rfl (pc 11 rfl pn)))) rfl (List.Sublist.refl _)
 ·skip
  refine kc_exit (kq_code (kc_seq (kc_region (kl_mv rfl (kl_as rfl (kl_nil (kq_code (kc_ret ?_))))))))
  have e9 : xs = rstL ds c := by (rw [hi7, List.take_of_length_le (by omega)])
  exact kq_ret rfl rfl H8 f10 (e9 ▸ OwnL.ints o9)
theorem unitI_ok (n : Nat) {Hc : Hp} {vc : Value} {Hds : Hp} {vds : Value} (c : List Lit) (ds : List Int) (hd : DOk n ds) (hci : ClIn n c) (hn : n ≤ 4) (hc : Lits Hc vc c) (hds : Ints Hds vds ds) : Spec Tryz.prog 171 [vc, vds] [Hc, Hds] (fun Hq vq => Ints Hq vq (unitL c ds)) := by
 have hdl := hd.l
 refine spec_of Tryz.func171 rfl rfl rfl (fun B => ?_)
 refine kc_seq (kc_region (kl_as rfl (kl_nil (kq_code (kc_seq (kc_region (kl_bd rfl cp_nil rfl ?_)))))))
 refine kl_alloc (cs := [.int .i64 (0 : Int), .int .i64 (0 : Int), .bool false]) rfl (fun b1 hb2 => ?_)
 refine kl_stW (us := [.int .i64 (0 : Int), .int .i64 (0 : Int), .bool false]) rfl rfl rfl rfl (oc rfl (oc rfl (oc rfl oc_nil))) rfl ?_
 refine kl_chg [sing b1 (.cells [.int .i64 (0 : Int), .int .i64 (0 : Int), .bool false].toArray 107 (0, 0))] rfl ?_
 refine kl_as rfl (kl_nil (kq_code (kc_seq (kc_seq (kc_region (kl_mv rfl (kl_len rfl (by assumption) (fun l3 => ?_))))))))
 refine kl_mv rfl (kl_nil (kq_code (kc_block (kc_loopL (A := Nat × Int × Int × Int × Bool) (fun zz => (zz.1 ≤ c.length) ∧ (zz.2.1 = ((opnL (c.take zz.1) ds).length : Int) ∧ LstL (opnL (c.take zz.1) ds) ⟨zz.2.2.1, zz.2.2.2.1, zz.2.2.2.2⟩)) (fun zz => c.length - zz.1) (fun zz => [sing b1 (.cells [.int .i64 zz.2.2.1, .int .i64 zz.2.2.2.1, .bool zz.2.2.2.2].toArray 107 (0, 0))]) (fun zz => [(12, .int .i64 (zz.1 : Int)), (6, .int .i64 zz.2.1)]) (0, (0 : Int), (0 : Int), (0 : Int), false) (pc 1 rfl (pc 4 rfl (pc 5 rfl (pc 10 rfl (pc 11 rfl pn))))) (pc 12 rfl (pc 6 rfl pn)) rfl ⟨Nat.zero_le _, ⟨rfl, rfl⟩⟩ ?_))))
 rintro ⟨k, q, la, lb, lc⟩ hJ6
 obtain ⟨hk4, hi5⟩ : (k ≤ c.length) ∧ (q = ((opnL (c.take k) ds).length : Int) ∧ LstL (opnL (c.take k) ds) ⟨la, lb, lc⟩) := hJ6
 change KC _ _ (_) [sing b1 (.cells [.int .i64 la, .int .i64 lb, .bool lc].toArray 107 (0, 0))] _ ([(12, .int .i64 (k : Int)), (6, .int .i64 q)] ++ _)
 have hql := opn_len c ds k
 refine kc_seq (kc_region (kl_lss rfl rfl ?_))
 refine kl_nil (kq_code (kc_seq (kc_if rfl (fun c7 => ?_) (fun c7 => ?_))))
 ·skip
  have hlk := hci _ (getD_mem (d := nilLit) (by omega : k < c.length))
  have hlv := hlk.1
  have hlu := hlk.2
  refine kc_skipQ (kq_code (kc_seq (kc_block (kc_seq (kc_region (kl_inQ rfl rfl (by assumption) (by omega) (fun p8 a9 => ?_)))))))
  refine kl_ldS rfl (by assumption) rfl ?_
  refine kl_alloc (cs := [.int .i64 (0 : Int), .int .i64 (0 : Int), .bool false]) rfl (fun b10 hb11 => ?_)
  refine kl_stW (us := [.int .i64 ((c.getD k nilLit).var), .int .i64 ((c.getD k nilLit).val), .bool ((c.getD k nilLit).neg)]) rfl rfl rfl rfl (oc rfl (oc rfl (oc rfl oc_nil))) rfl ?_
  refine kl_chg [sing b10 (.cells [.int .i64 ((c.getD k nilLit).var), .int .i64 ((c.getD k nilLit).val), .bool ((c.getD k nilLit).neg)].toArray 107 (0, 0)), sing b1 (.cells [.int .i64 la, .int .i64 lb, .bool lc].toArray 107 (0, 0))] rfl ?_
  refine kl_nil (kq_code (kc_seq (kc_tree (fun i => ([] : List Nat).contains i) [sing b10 (.cells [.int .i64 ((c.getD k nilLit).var), .int .i64 ((c.getD k nilLit).val), .bool ((c.getD k nilLit).neg)].toArray 107 (0, 0))] (by kernel_rfl) ?_)))
  refine kt_q 0 (.cons_cons _ (List.nil_sublist _)) rfl (by kernel_rfl) (kl_mv rfl (kl_nil (kq_q (kt_q 1 (.cons_cons _ (List.nil_sublist _)) rfl (by kernel_rfl) (kl_fdV rfl (kl_nil (kq_q (kt_q 2 (.cons_cons _ (List.nil_sublist _)) rfl (by kernel_rfl) (kl_ld rfl (at_box (T := 107) (cs := [.int .i64 ((c.getD k nilLit).var), .int .i64 ((c.getD k nilLit).val), .bool ((c.getD k nilLit).neg)]) (off := 0) (fz := (0, 0))) ?_)))))))))
  refine kl_nil (kq_q (kt_q 3 (.cons_cons _ (List.nil_sublist _)) rfl (by kernel_rfl) (kl_ixI rfl rfl (by assumption) (by omega) (by omega) (fun p12 a13 => ?_))))
  refine kl_nil (kq_q (kt_q 4 (.cons_cons _ (List.nil_sublist _)) rfl (by kernel_rfl) (kl_ld rfl (by assumption) (kl_nil (kq_q (kt_q 5 (.cons_cons _ (List.nil_sublist _)) rfl (by kernel_rfl) (kl_ldS rfl (at_box (T := 107) (cs := [.int .i64 ((c.getD k nilLit).var), .int .i64 ((c.getD k nilLit).val), .bool ((c.getD k nilLit).neg)]) (off := 0) (fz := (0, 0))) rfl ?_)))))))
  refine kl_nil (kq_q (kt_a 6 rfl (by kernel_rfl) (kl_callP rfl rfl (truesL_ok (c.getD k nilLit) (by first | omega | (have h9 := un_last hci hi5 (by omega) (by omega); exact h9.2.1))) ?_)))
  refine kl_nil (kq_a (.cons_cons _ (List.nil_sublist _)) (kt_q 7 (.cons_cons _ (List.nil_sublist _)) rfl (by kernel_rfl) (kl_and rfl rfl ?_)))
  refine kl_nil (kq_q (kt_q 8 (.cons_cons _ (List.nil_sublist _)) rfl (by kernel_rfl) (kl_neq rfl rfl ?_)))
  refine kl_nil (kq_q (kt_end (by kernel_rfl) ?_))
  refine kq_code (kc_if rfl (fun c14 => ?_) (fun c14 => ?_))
  ·skip
   refine kc_seq (kc_region (kl_ldW rfl rfl (kl_stW (us := [.int .i64 ((c.getD k nilLit).var), .int .i64 ((c.getD k nilLit).val), .bool ((c.getD k nilLit).neg)]) rfl rfl rfl rfl (oc rfl (oc rfl (oc rfl oc_nil))) rfl ?_)))
   refine kl_chg [sing b10 (.cells [.int .i64 ((c.getD k nilLit).var), .int .i64 ((c.getD k nilLit).val), .bool ((c.getD k nilLit).neg)].toArray 107 (0, 0)), sing b1 (.cells [.int .i64 ((c.getD k nilLit).var), .int .i64 ((c.getD k nilLit).val), .bool ((c.getD k nilLit).neg)].toArray 107 (0, 0))] rfl ?_
   refine kl_nil (kq_code (kc_region (kl_mv rfl (kl_add rfl rfl (by omega) ?_))))
   refine kl_as rfl (kl_nil (kq_code (kc_region (kl_inc rfl rfl (by omega) ?_))))
   refine kl_mv rfl (kl_nil (kq_take [sing b1 (.cells [.int .i64 ((c.getD k nilLit).var), .int .i64 ((c.getD k nilLit).val), .bool ((c.getD k nilLit).neg)].toArray 107 (0, 0))] ?_))
   refine kq_roundL ((k + 1), (q + (1 : Int)), ((c.getD k nilLit).var), ((c.getD k nilLit).val), ((c.getD k nilLit).neg)) (by omega) (⟨by omega, (by first | exact un_T hi5 (by omega) (by assumption) | exact un_F hi5 (by omega) (by assumption))⟩) (pc 12 rfl (pc 6 rfl pn)) (pc 1 rfl (pc 4 rfl (pc 5 rfl (pc 10 rfl (pc 11 rfl pn))))) rfl (List.Sublist.refl _)
  ·skip
   refine kc_skipQ (kq_code (kc_region (kl_inc rfl rfl (by omega) ?_)))
   refine kl_mv rfl (kl_nil (kq_take [sing b1 (.cells [.int .i64 la, .int .i64 lb, .bool lc].toArray 107 (0, 0))] ?_))
   refine kq_roundL ((k + 1), q, la, lb, lc) (by omega) (⟨by omega, (by first | exact un_T hi5 (by omega) (by assumption) | exact un_F hi5 (by omega) (by assumption))⟩) (pc 12 rfl (pc 6 rfl pn)) (pc 1 rfl (pc 4 rfl (pc 5 rfl (pc 10 rfl (pc 11 rfl pn))))) rfl (List.Sublist.refl _)
 ·skip
  refine kc_exit (kq_code (kc_seq (kc_seq (kc_region (kl_mv rfl (kl_nil (kq_code (kc_block (kc_seq (kc_region (kl_eql rfl rfl ?_)))))))))))
  refine kl_as rfl (kl_nil (kq_code (kc_if rfl (fun c15 => ?_) (fun c15 => ?_))))
  ·skip
   refine kc_seq (kc_region (kl_mv rfl (kl_len rfl (by assumption) (fun l16 => ?_))))
   refine kl_mkL (R := IntV) (0 : Int) rfl rfl (by omega) (by decide) (by exact rfl) (fun v17 H18 f19 o20 => ?_)
   refine kl_as rfl (kl_nil (kq_code (kc_ret ?_)))
   have e9 : (List.replicate ds.length (0 : Int)) = unitL c ds := by (rw [un_0 hi5 (by omega) (by assumption)]; rfl)
   exact kq_ret rfl rfl H18 f19 (e9 ▸ OwnL.ints o20)
  ·skip
   refine kc_seq (kc_region (kl_eql rfl rfl ?_))
   refine kl_as rfl (kl_nil (kq_code (kc_if rfl (fun c21 => ?_) (fun c21 => ?_))))
   ·skip
    refine kc_seq (kc_tree (fun i => ([5] : List Nat).contains i) [sing b1 (.cells [.int .i64 la, .int .i64 lb, .bool lc].toArray 107 (0, 0))] (by kernel_rfl) ?_)
    refine kt_q 0 (.cons_cons _ (List.nil_sublist _)) rfl (by kernel_rfl) (kl_mv rfl (kl_nil (kq_q (kt_q 1 (.cons_cons _ (List.nil_sublist _)) rfl (by kernel_rfl) (kl_fdV rfl (kl_nil (kq_q (kt_q 2 (.cons_cons _ (List.nil_sublist _)) rfl (by kernel_rfl) (kl_ld rfl (at_box (T := 107) (cs := [.int .i64 la, .int .i64 lb, .bool lc]) (off := 0) (fz := (0, 0))) (kl_nil (kq_q ?_)))))))))))
    refine kt_q 3 (.cons_cons _ (List.nil_sublist _)) rfl (by kernel_rfl) (kl_ldS rfl (at_box (T := 107) (cs := [.int .i64 la, .int .i64 lb, .bool lc]) (off := 0) (fz := (0, 0))) rfl ?_)
    refine kl_nil (kq_q (kt_a 4 rfl (by kernel_rfl) (kl_callP rfl rfl (truesL_ok (⟨la, lb, lc⟩ : Lit) (by first | omega | (have h9 := un_last hci hi5 (by omega) (by omega); exact h9.2.1))) ?_)))
    refine kl_nil (kq_a (.cons_cons _ (List.nil_sublist _)) (kt_a 5 rfl (by kernel_rfl) (kl_call rfl rfl (limited_ok ds la (truesI (⟨la, lb, lc⟩ : Lit)) (by omega) (by have h9 := un_last hci hi5 (by omega) (by omega); omega) (by assumption)) (fun v22 H23 f24 h25 => ?_))))
    refine kl_nil (kq_x rfl (kt_q 6 (.cons_cons _ (List.nil_sublist _)) rfl (by kernel_rfl) (kl_as rfl (kl_nil (kq_q (kt_end (by kernel_rfl) ?_))))))
    refine kq_code (kc_ret ?_)
    have e9 : (ds.set la.toNat (iand (ds.getD la.toNat 0) (truesI (⟨la, lb, lc⟩ : Lit)))) = unitL c ds := by (rw [un_1 hi5 (by omega) (by assumption)]; rfl)
    exact kq_ret rfl rfl H23 f24 (e9 ▸ (by assumption : Ints _ _ (ds.set la.toNat (iand (ds.getD la.toNat 0) (truesI (⟨la, lb, lc⟩ : Lit))))))
   ·skip
    refine kc_skipQ (kq_code (kc_seq (kc_region (kl_mv rfl (kl_call rfl rfl (copied_ok ds (by omega) (by assumption)) (fun v26 H27 f28 o29 => ?_))))))
    have h30 := OwnL.ints o29
    refine kl_as rfl (kl_nil (kq_code (kc_ret ?_)))
    have e9 : ds = unitL c ds := by (rw [un_2 hi5 (by omega) (by assumption) (by assumption)])
    exact kq_ret rfl rfl H27 f28 (e9 ▸ (by assumption : Ints _ _ ds))
theorem wcl1_ok {Hds : Hp} {vds : Value} {Hmd : Hp} {vmd : Value} {Hmc : Hp} {vmc : Value} {Hpm : Hp} {ptrpm : Value} {Hcls : Hp} {vcls : Value} {Hpc : Hp} {ptrpc : Value} (ds : List Int) (m : Mod) (cls : List (List Lit)) (hM : MOk m) (hcl : ClsIn m.doms.length cls) (hd : DOk m.doms.length ds) (hds : Ints Hds vds ds) (hmd : Ints Hmd vmd m.doms) (hmc : Cons Hmc vmc m.cons) (apm : At Hpm ptrpm [vmd, vmc]) (hcls : LRows Hcls vcls cls) (apc : At Hpc ptrpc [vcls]) : Spec Tryz.prog 170 [vds, ptrpm, ptrpc] [Hds, Hmd, Hmc, Hpm, Hcls, Hpc] (fun Hq vq => Ints Hq vq (stepW m cls ds)) := by
 have hn := hM.n
 have hp := propOk hM hd
 refine spec_of Tryz.func170 rfl rfl rfl (fun B => ?_)
 refine kc_seq (kc_region (kl_as rfl (kl_nil (kq_code (kc_seq (kc_region (kl_ldS rfl (by assumption) rfl ?_)))))))
 refine kl_mv rfl (kl_call rfl rfl (propagate_ok m ds hM hd (by assumption) (by assumption) (by assumption)) (fun v1 H2 f3 h4 => ?_))
 refine kl_as rfl (kl_nil (kq_code (kc_seq (kc_seq (kc_region (kl_ld rfl (by assumption) (kl_len rfl (by assumption) (fun l5 => ?_))))))))
 refine kl_mv rfl (kl_nil (kq_code (kc_block (kc_loopK (A := Nat × List Int × Value × Hp) (fun zz => (zz.1 ≤ cls.length) ∧ (zz.2.1 = unitA (cls.take zz.1) (prop m ds)) ∧ Fr B zz.2.2.2 ∧ Ints zz.2.2.2 zz.2.2.1 zz.2.1) (fun zz => cls.length - zz.1) (fun zz => zz.2.2.2) (fun zz => []) (fun zz => [(12, .int .i64 (zz.1 : Int)), (0, zz.2.2.1)]) (0, (prop m ds), v1, H2) (pc 4 rfl (pc 10 rfl (pc 11 rfl pn))) (pc 12 rfl (pc 0 rfl pn)) rfl ⟨Nat.zero_le _, rfl, f3, (by assumption)⟩ ?_))))
 rintro ⟨k, xs, v8, K9⟩ hJ12
 obtain ⟨hk6, hi7, f10, h11⟩ : (k ≤ cls.length) ∧ (xs = unitA (cls.take k) (prop m ds)) ∧ Fr B K9 ∧ Ints K9 v8 xs := hJ12
 change KC _ _ (K9 :: _) [] _ ([(12, .int .i64 (k : Int)), (0, v8)] ++ _)
 refine kc_seq (kc_region (kl_lss rfl rfl ?_))
 refine kl_nil (kq_code (kc_seq (kc_if rfl (fun c13 => ?_) (fun c13 => ?_))))
 ·skip
  refine kc_skipQ (kq_code (kc_seq (kc_block (kc_seq (kc_region (kl_inS rfl rfl (by assumption) (by omega) (fun p14 u16 h17 a15 => ?_)))))))
  refine kl_ld rfl (by assumption) (kl_as rfl (kl_nil (kq_code (kc_region (kl_mv rfl (kl_mv rfl (kl_call rfl rfl (unitI_ok m.doms.length (cls.getD k []) xs (by rw [hi7]; exact (unitA_ok hp.ok (cls_take hcl k)).1) (cls_at hcl (by omega)) hn.2 (by assumption) (by assumption)) (fun v18 H19 f20 h21 => ?_))))))))
  refine kl_as rfl (kl_nil (kq_code (kc_region (kl_inc rfl rfl (by omega) ?_))))
  refine kl_mv rfl (kl_nil (kq_roundK ((k + 1), (unitL (cls.getD k []) xs), v18, H19) (by omega) (⟨by omega, (by rw [← unitA_step (by omega), ← hi7]), f20, (by assumption)⟩) (pc 12 rfl (pc 0 rfl pn)) (pc 4 rfl (pc 10 rfl (pc 11 rfl pn))) rfl (List.Sublist.refl _)))
 ·skip
  refine kc_exit (kq_code (kc_seq (kc_region (kl_mv rfl (kl_as rfl (kl_nil (kq_code (kc_ret ?_))))))))
  have e9 : xs = stepW m cls ds := by (rw [hi7, List.take_of_length_le (by omega)]; rfl)
  exact kq_ret rfl rfl K9 f10 (e9 ▸ (by assumption : Ints _ _ xs))
theorem fixW_ok {Hds : Hp} {vds : Value} {Hmd : Hp} {vmd : Value} {Hmc : Hp} {vmc : Value} {Hpm : Hp} {ptrpm : Value} {Hcls : Hp} {vcls : Value} {Hpc : Hp} {ptrpc : Value} (ds : List Int) (m : Mod) (cls : List (List Lit)) (hM : MOk m) (hcl : ClsIn m.doms.length cls) (hd : DOk m.doms.length ds) (hds : Ints Hds vds ds) (hmd : Ints Hmd vmd m.doms) (hmc : Cons Hmc vmc m.cons) (apm : At Hpm ptrpm [vmd, vmc]) (hcls : LRows Hcls vcls cls) (apc : At Hpc ptrpc [vcls]) : Spec Tryz.prog 141 [vds, .func (.func 170) #[] #[ptrpm, ptrpc]] [Hds, Hmd, Hmc, Hpm, Hcls, Hpc] (fun Hq vq => Ints Hq vq (wcl m cls ds)) := by
 refine spec_of Tryz.func141 rfl rfl rfl (fun B => ?_)
 refine kc_seq (kc_region (kl_as rfl (kl_nil (kq_code (kc_seq (kc_region (kl_mv rfl (kl_call rfl rfl (copied_ok ds (by have := hd.l; have := hM.n; omega) (by assumption)) (fun v1 H2 f3 o4 => ?_)))))))))
 have h5 := OwnL.ints o4
 refine kl_as rfl (kl_nil (kq_code (kc_block (kc_loopK (A := List Int × Value × Hp) (fun zz => (DOk m.doms.length zz.1 ∧ wcl m cls zz.1 = wcl m cls ds) ∧ Fr B zz.2.2 ∧ Ints zz.2.2 zz.2.1 zz.1) (fun zz => sumN zz.1) (fun zz => zz.2.2) (fun zz => []) (fun zz => [(5, zz.2.1)]) (ds, v1, H2) (pc 1 rfl pn) (pc 5 rfl pn) rfl ⟨⟨hd, rfl⟩, f3, (by assumption)⟩ ?_))))
 rintro ⟨xs, v8, K9⟩ hJ12
 obtain ⟨hi7, f10, h11⟩ : (DOk m.doms.length xs ∧ wcl m cls xs = wcl m cls ds) ∧ Fr B K9 ∧ Ints K9 v8 xs := hJ12
 change KC _ _ (K9 :: _) [] _ ([(5, v8)] ++ _)
 have hD := hi7.1
 refine kc_block (kc_seq (kc_seq (kc_region (kl_mv rfl (kl_callP rfl rfl (containsInts_ok xs (0 : Int) (by assumption)) ?_)))))
 refine kl_nil (kq_code (kc_cond rfl (fun c13 => ?_) (fun c13 => ?_)))
 ·skip
  have c13r := c13
  try simp only [smpC, decide_eq_true_eq, decide_eq_false_iff_not] at c13
  refine kc_seq (kc_region (kl_mv rfl (kl_len rfl (by assumption) (fun l14 => ?_))))
  refine kl_mkL (R := IntV) (0 : Int) rfl rfl (by (have := hD.l; have := hM.n; omega)) (by decide) (by exact rfl) (fun v15 H16 f17 o18 => ?_)
  refine kl_as rfl (kl_nil (kq_code (kc_ret ?_)))
  have e9 : (List.replicate xs.length (0 : Int)) = wcl m cls ds := by (rw [← hi7.2]; exact (wcl_0 (by assumption)).symm)
  exact kq_ret rfl rfl H16 f17 (e9 ▸ OwnL.ints o18)
 ·skip
  have c13r := c13
  try simp only [smpC, decide_eq_true_eq, decide_eq_false_iff_not] at c13
  refine kc_skipQ (kq_code (kc_seq (kc_region (kl_mv rfl (kl_mv rfl (kl_call rfl rfl (wcl1_ok xs m cls hM hcl hD (by assumption) (by assumption) (by assumption) (by assumption) (by assumption) (by assumption)) (fun v19 H20 f21 h22 => ?_)))))))
  refine kl_as rfl (kl_nil (kq_code (kc_seq (kc_seq (kc_region (kl_mv rfl (kl_mv rfl (kl_callP rfl rfl (equal_ok (stepW m cls xs) xs (by assumption) (by assumption)) ?_))))))))
  refine kl_nil (kq_code (kc_cond rfl (fun c23 => ?_) (fun c23 => ?_)))
  ·skip
   have c23r := c23
   try simp only [smpC, decide_eq_true_eq, decide_eq_false_iff_not] at c23
   refine kc_seq (kc_region (kl_mv rfl (kl_as rfl (kl_nil (kq_code (kc_ret ?_))))))
   have e9 : xs = wcl m cls ds := by (rw [← hi7.2]; exact (wcl_fix (by assumption) (by assumption)).symm)
   exact kq_ret rfl rfl K9 f10 (e9 ▸ (by assumption : Ints _ _ xs))
  ·skip
   have c23r := c23
   try simp only [smpC, decide_eq_true_eq, decide_eq_false_iff_not] at c23
   refine kc_skipQ (kq_code (kc_region (kl_mv rfl (kl_as rfl (kl_nil (kq_roundK ((stepW m cls xs), v19, H20) (by (dsimp only; exact stepW_lt hM hD hcl (by assumption))) (⟨⟨(stepW_ok hM hD hcl).1, (wcl_step hM hD hcl (by assumption) (by assumption)).trans hi7.2⟩, f21, (by assumption)⟩) (pc 5 rfl pn) (pc 1 rfl pn) rfl (List.Sublist.refl _)))))))
theorem wclI_ok {Hmd : Hp} {vmd : Value} {Hmc : Hp} {vmc : Value} {Hcls : Hp} {vcls : Value} {Hds : Hp} {vds : Value} (m : Mod) (cls : List (List Lit)) (ds : List Int) (hM : MOk m) (hcl : ClsIn m.doms.length cls) (hd : DOk m.doms.length ds) (hmd : Ints Hmd vmd m.doms) (hmc : Cons Hmc vmc m.cons) (hcls : LRows Hcls vcls cls) (hds : Ints Hds vds ds) : Spec Tryz.prog 130 [.agg #[vmd, vmc], vcls, vds] [Hmd, Hmc, Hcls, Hds] (fun Hq vq => Ints Hq vq (wcl m cls ds)) := by
 refine spec_of Tryz.func130 rfl rfl rfl (fun B => ?_)
 refine kc_seq (kc_region (kl_box rfl rfl (fun p1 H2 f3 a4 => ?_)))
 refine kl_box rfl (Sl.cells (by assumption)) (fun p5 H6 f7 a8 => ?_)
 refine kl_as rfl (kl_nil (kq_code (kc_seq (kc_region (kl_mv rfl (kl_mkf rfl ?_))))))
 refine kl_call rfl rfl (fixW_ok ds m cls hM hcl hd (by assumption) (by assumption) (by assumption) (by assumption) (by assumption) (by assumption)) (fun v9 H10 f11 h12 => ?_)
 refine kl_as rfl (kl_nil (kq_code (kc_ret ?_)))
 exact kq_ret rfl rfl H10 f11 (by assumption)
theorem impliedI_ok {Hmd : Hp} {vmd : Value} {Hmc : Hp} {vmc : Value} {Hcls : Hp} {vcls : Value} {Hc : Hp} {vc : Value} (m : Mod) (cls : List (List Lit)) (c : List Lit) (hM : MOk m) (hcl : ClsIn m.doms.length cls) (hl : LOk m c) (hlc : clI (m.doms.length : Int) c = true) (hmd : Ints Hmd vmd m.doms) (hmc : Cons Hmc vmc m.cons) (hcls : LRows Hcls vcls cls) (hc : Lits Hc vc c) : SpecP Tryz.prog 85 [.agg #[vmd, vmc], vcls, vc] [Hmd, Hmc, Hcls, Hc] (.bool (impB m cls c)) := by
 have hn := hM.n
 have hnd := cl_nodup hlc
 refine spec_of Tryz.func85 rfl rfl rfl (fun B => ?_)
 refine kc_seq (kc_region (kl_box rfl rfl (fun p1 H2 f3 a4 => ?_)))
 refine kl_as rfl (kl_nil (kq_code (kc_seq (kc_tree (fun i => ([7] : List Nat).contains i) [] (by kernel_rfl) ?_))))
 refine kt_q 0 (List.nil_sublist _) rfl (by kernel_rfl) (kl_ldS rfl (by assumption) rfl ?_)
 refine kl_nil (kq_q (kt_q 1 (List.nil_sublist _) rfl (by kernel_rfl) (kl_mv rfl (kl_nil (kq_q (kt_q 2 (List.nil_sublist _) rfl (by kernel_rfl) (kl_fd rfl (by assumption) (fun p5 a6 => ?_))))))))
 refine kl_nil (kq_q (kt_q 3 (List.nil_sublist _) rfl (by kernel_rfl) (kl_ld rfl (by assumption) (kl_nil (kq_q (kt_q 4 (List.nil_sublist _) rfl (by kernel_rfl) (kl_mv rfl (kl_nil (kq_q (kt_a 5 rfl (by kernel_rfl) (kl_call rfl rfl (negsL_ok c hnd.1 hl.n (by assumption)) (fun v7 H8 f9 h10 => ?_))))))))))))
 obtain ⟨y11, h12, h13⟩ := h10
 have hng := h13
 refine kl_nil (kq_a (List.nil_sublist _) (kt_a 6 rfl (by kernel_rfl) (kl_call rfl rfl (restrI_ok m.doms.length m.doms y11 hM.dok (negR_in hl.h hng) hn.2 (by assumption) (by assumption)) (fun v14 H15 f16 h17 => ?_))))
 refine kl_nil (kq_a (List.nil_sublist _) (kt_a 7 rfl (by kernel_rfl) (kl_call rfl rfl (wclI_ok m cls (rstL m.doms y11) hM hcl (rstL_ok hM.dok (negR_in hl.h hng)).1 (by assumption) (by assumption) (by assumption) (by assumption)) (fun v18 H19 f20 h21 => ?_))))
 refine kl_nil (kq_x rfl (kt_q 8 (List.nil_sublist _) rfl (by kernel_rfl) (kl_inI (i := 0) rfl rfl (by assumption) (by (have h9 := (wclOk hM hcl (rstL_ok hM.dok (negR_in hl.h hng)).1).l; omega)) (fun p22 a23 => ?_))))
 refine kl_nil (kq_q (kt_q 9 (List.nil_sublist _) rfl (by kernel_rfl) (kl_ld rfl (by assumption) (kl_nil (kq_q (kt_q 10 (List.nil_sublist _) rfl (by kernel_rfl) (kl_eql rfl rfl ?_)))))))
 refine kl_nil (kq_q (kt_q 11 (List.nil_sublist _) rfl (by kernel_rfl) (kl_as rfl (kl_nil (kq_q (kt_end (by kernel_rfl) ?_))))))
 refine kq_code (kc_ret (kq_retP rfl rfl (congrArg Value.bool ?_)))
 (unfold impB rfE; rw [rst_neg hM.dok hl.h hng])
theorem ixf_lrow_ok {Hxs : Hp} {vxs : Value} {gp : Nat} {capsp : Array Value} {imp : List Hp} [FnC Tryz.prog gp] (xs : List (List Lit)) (p : List Lit → Bool) (hxs : LRows Hxs vxs xs) (hp : ∀ (H : Hp) (u : Value) (r : List Lit), r ∈ xs → Lits H u r → SpecP Tryz.prog gp (u :: capsp.toList) (H :: imp) (.bool (p r))) : SpecP Tryz.prog 167 [vxs, .func (.func gp) #[] capsp] (Hxs :: imp) (.int .i64 (indexBy p xs)) := by
 refine spec_of Tryz.func167 rfl rfl rfl (fun B => ?_)
 refine kc_seq (kc_region (kl_as rfl (kl_nil (kq_code (kc_seq (kc_seq (kc_region (kl_mv rfl (kl_len rfl (by assumption) (fun l1 => ?_))))))))))
 refine kl_mv rfl (kl_nil (kq_code (kc_block (kc_loop0 (A := Nat) (fun zz => (zz ≤ xs.length) ∧ ((xs.take zz).any p = false)) (fun zz => xs.length - zz) (fun zz => [(8, .int .i64 (zz : Int))]) (0) (pc 0 rfl (pc 1 rfl (pc 7 rfl pn))) (pc 8 rfl pn) ⟨Nat.zero_le _, by simp⟩ ?_))))
 rintro k hJ4
 obtain ⟨hk2, hi3⟩ : (k ≤ xs.length) ∧ ((xs.take k).any p = false) := hJ4
 change KC _ _ (_) _ _ ([(8, .int .i64 (k : Int))] ++ _)
 refine kc_seq (kc_region (kl_lss rfl rfl ?_))
 refine kl_nil (kq_code (kc_seq (kc_if rfl (fun c5 => ?_) (fun c5 => ?_))))
 ·skip
  refine kc_skipQ (kq_code (kc_seq (kc_block (kc_seq (kc_region (kl_mv rfl (kl_as rfl (kl_nil (kq_code (kc_seq (kc_region (kl_mv rfl ?_))))))))))))
  refine kl_mv rfl (kl_mv rfl (kl_inS rfl rfl (by assumption) (by omega) (fun p6 u8 h9 a7 => ?_)))
  refine kl_ld rfl (by assumption) (kl_callP rfl rfl (hp _ _ (xs.getD k []) (getD_mem (by omega)) (by assumption)) ?_)
  refine kl_nil (kq_code (kc_cond rfl (fun c10 => ?_) (fun c10 => ?_)))
  ·skip
   have c10r := c10
   try simp only [smpC, decide_eq_true_eq, decide_eq_false_iff_not] at c10
   refine kc_seq (kc_region (kl_mv rfl (kl_as rfl (kl_nil (kq_code (kc_ret (kq_retP rfl rfl (congrArg (Value.int .i64) ?_))))))))
   exact indexBy_hit (d := ([] : List Lit)) (by omega) (by assumption) (by assumption)
  ·skip
   have c10r := c10
   try simp only [smpC, decide_eq_true_eq, decide_eq_false_iff_not] at c10
   refine kc_skipQ (kq_code (kc_region (kl_inc rfl rfl (by omega) ?_)))
   refine kl_mv rfl (kl_nil (kq_round0 ((k + 1)) (by omega) (⟨by omega, any_take_step (d := ([] : List Lit)) (by omega) hi3 (by assumption)⟩) (pc 8 rfl pn) (pc 0 rfl (pc 1 rfl (pc 7 rfl pn))) (List.Sublist.refl _)))
 ·skip
  refine kc_exit (kq_code (kc_seq (kc_region (kl_as rfl (kl_nil (kq_code (kc_ret (kq_retP rfl rfl (congrArg (Value.int .i64) ?_)))))))))
  exact indexBy_none (by omega) (by assumption)
theorem cf_lrow_ok {Hxs : Hp} {vxs : Value} {gp : Nat} {capsp : Array Value} {imp : List Hp} [FnC Tryz.prog gp] (xs : List (List Lit)) (p : List Lit → Bool) (hxs : LRows Hxs vxs xs) (hp : ∀ (H : Hp) (u : Value) (r : List Lit), r ∈ xs → Lits H u r → SpecP Tryz.prog gp (u :: capsp.toList) (H :: imp) (.bool (p r))) : SpecP Tryz.prog 127 [vxs, .func (.func gp) #[] capsp] (Hxs :: imp) (.bool (xs.any p)) := by
 refine spec_of Tryz.func127 rfl rfl rfl (fun B => ?_)
 refine kc_seq (kc_region (kl_as rfl (kl_nil (kq_code (kc_seq (kc_region (kl_mv rfl (kl_mv rfl (kl_callP rfl rfl (ixf_lrow_ok xs p (by assumption) hp) ?_)))))))))
 refine kl_geq rfl rfl ?_
 refine kl_as rfl (kl_nil (kq_code (kc_ret (kq_retP rfl rfl (congrArg Value.bool ?_)))))
 exact indexBy_any p xs
theorem prfOk1_ok {Hc : Hp} {vc : Value} {Hpn : Hp} {ptrpn : Value} (c : List Lit) (n : Int) (hn : -9223372036854775807 ≤ n ∧ n ≤ 9223372036854775807) (hc : Lits Hc vc c) (apn : At Hpn ptrpn [.int .i64 n]) : SpecP Tryz.prog 128 [vc, ptrpn] [Hc, Hpn] (.bool (!(clI n c))) := by
 refine spec_of Tryz.func128 rfl rfl rfl (fun B => ?_)
 refine kc_seq (kc_region (kl_as rfl (kl_nil (kq_code (kc_seq (kc_region (kl_mv rfl (kl_ld rfl (by assumption) (kl_callP rfl rfl (validClI_ok c n (by first | assumption | omega) (by assumption)) ?_)))))))))
 refine kl_not rfl (kl_as rfl (kl_nil (kq_code (kc_ret (kq_retP rfl rfl (congrArg Value.bool ?_))))))
 rfl
theorem prfOk_ok {Hp : Hp} {vp : Value} (n : Int) (p : List (List Lit)) (hn : -9223372036854775807 ≤ n ∧ n ≤ 9223372036854775807) (hp : LRows Hp vp p) : SpecP Tryz.prog 84 [.int .i64 n, vp] [Hp] (.bool (prfB n p)) := by
 refine spec_of Tryz.func84 rfl rfl rfl (fun B => ?_)
 refine kc_seq (kc_region (kl_box rfl rfl (fun p1 H2 f3 a4 => ?_)))
 refine kl_as rfl (kl_nil (kq_code (kc_seq (kc_region (kl_mv rfl (kl_len rfl (by assumption) (fun l5 => ?_)))))))
 refine kl_leq rfl rfl ?_
 refine kl_mv rfl (kl_join 5 13 (.bool (decide ((p.length : Int) ≤ (200 : Int)) && !(p.any (fun x6 => !(clI n x6))))) (pc 4 rfl (pc 8 rfl pn)) (fun J8 => ?_) ?_)
 ·rcases Bool.eq_false_or_eq_true (decide ((p.length : Int) ≤ (200 : Int))) with g6 | g6
  ·skip
   have g6p := of_decide_eq_true g6
   refine kl_gT rfl rfl g6 (kl_mv rfl (kl_gT rfl rfl g6 (kl_mkf rfl ?_)))
   refine kl_gT rfl rfl g6 (kl_callP rfl rfl (cf_lrow_ok p (fun x6 => !(clI n x6)) (by assumption) (fun _ ux6 x6 _ hux6 => prfOk1_ok x6 n (by first | assumption | omega) hux6 (by assumption))) ?_)
   refine kl_gT rfl rfl g6 (kl_not rfl (kl_andT rfl rfl g6 ?_))
   exact J8 _ (pc 13 rfl (pc 4 rfl (pc 8 rfl pn)))
  ·skip
   refine kl_gF rfl rfl g6 (kl_gF rfl rfl g6 (kl_gF rfl rfl g6 (kl_gF rfl rfl g6 (kl_andF (!(p.any (fun x6 => !(clI n x6)))) rfl rfl g6 ?_))))
   exact J8 _ (pc 13 rfl (pc 4 rfl (pc 8 rfl pn)))
 refine kl_as rfl (kl_nil (kq_code (kc_ret (kq_retP rfl rfl (congrArg Value.bool ?_)))))
 rfl
theorem chkPI_ok {Hmd : Hp} {vmd : Value} {Hmc : Hp} {vmc : Value} {Hp : Hp} {vp : Value} (m : Mod) (p : List (List Lit)) (hmd : Ints Hmd vmd m.doms) (hmc : Cons Hmc vmc m.cons) (hp : LRows Hp vp p) : SpecP Tryz.prog 48 [.agg #[vmd, vmc], vp] [Hmd, Hmc, Hp] (.bool (chkP m p)) := by
 refine spec_of Tryz.func48 rfl rfl rfl (fun B => ?_)
 refine kc_seq (kc_region (kl_box rfl rfl (fun p1 H2 f3 a4 => ?_)))
 refine kl_as rfl (kl_nil (kq_code (kc_seq (kc_seq (kc_region (kl_ldS rfl (by assumption) rfl ?_))))))
 refine kl_callP rfl rfl (validMod_ok m (by assumption) (by assumption)) ?_
 refine kl_not rfl (kl_mv rfl (kl_join 7 17 (.bool (!(validModB m) || !(prfB (m.doms.length : Int) p))) (pc 1 rfl (pc 2 rfl (pc 4 rfl (pc 10 rfl pn)))) (fun J9 => ?_) ?_))
 ·rcases Bool.eq_false_or_eq_true (!(validModB m)) with g5 | g5
  ·skip
   refine kl_gF rfl rfl g5 (kl_gF rfl rfl g5 (kl_gF rfl rfl g5 (kl_gF rfl rfl g5 (kl_gF rfl rfl g5 (kl_gF rfl rfl g5 (kl_orT (!(prfB (m.doms.length : Int) p)) rfl rfl g5 ?_))))))
   exact J9 _ (pc 17 rfl (pc 1 rfl (pc 2 rfl (pc 4 rfl (pc 10 rfl pn)))))
  ·skip
   have g5p := g5
   try simp only [Bool.not_eq_true', Bool.not_eq_false', decide_eq_true_eq, decide_eq_false_iff_not, Bool.and_eq_true, Bool.or_eq_false_iff, withinB_iff] at g5p
   refine kl_gT rfl rfl g5 (kl_fd rfl (by assumption) (fun p6 a7 => ?_))
   refine kl_gT rfl rfl g5 (kl_ld rfl (by assumption) (kl_gT rfl rfl g5 (kl_len rfl (by assumption) (fun l8 => ?_))))
   refine kl_gT rfl rfl g5 (kl_mv rfl (kl_gT rfl rfl g5 (kl_callP rfl rfl (prfOk_ok (m.doms.length : Int) p (by omega) (by assumption)) ?_)))
   refine kl_gT rfl rfl g5 (kl_not rfl (kl_orF rfl rfl g5 ?_))
   exact J9 _ (pc 17 rfl (pc 1 rfl (pc 2 rfl (pc 4 rfl (pc 10 rfl pn)))))
 refine kl_mv rfl (kl_join 4 22 (.bool ((!(validModB m) || !(prfB (m.doms.length : Int) p)) || decide ((p.length : Int) = (0 : Int)))) (pc 1 rfl (pc 2 rfl (pc 4 rfl (pc 18 rfl pn)))) (fun J12 => ?_) ?_)
 ·rcases Bool.eq_false_or_eq_true (!(validModB m) || !(prfB (m.doms.length : Int) p)) with g10 | g10
  ·skip
   refine kl_gF rfl rfl g10 (kl_gF rfl rfl g10 (kl_gF rfl rfl g10 (kl_orT (decide ((p.length : Int) = (0 : Int))) rfl rfl g10 ?_)))
   exact J12 _ (pc 22 rfl (pc 1 rfl (pc 2 rfl (pc 4 rfl (pc 18 rfl pn)))))
  ·skip
   have g10p := g10
   try simp only [Bool.not_eq_true', Bool.not_eq_false', decide_eq_true_eq, decide_eq_false_iff_not, Bool.and_eq_true, Bool.or_eq_false_iff, withinB_iff] at g10p
   refine kl_gT rfl rfl g10 (kl_mv rfl (kl_gT rfl rfl g10 (kl_len rfl (by assumption) (fun l11 => ?_))))
   refine kl_gT rfl rfl g10 (kl_eql rfl rfl ?_)
   refine kl_orF rfl rfl g10 ?_
   exact J12 _ (pc 22 rfl (pc 1 rfl (pc 2 rfl (pc 4 rfl (pc 18 rfl pn)))))
 refine kl_mv rfl (kl_join 9 32 (.bool (((!(validModB m) || !(prfB (m.doms.length : Int) p)) || decide ((p.length : Int) = (0 : Int))) || decide ((0 : Int) < ((p.getD ((p.length : Int) - (1 : Int)).toNat []).length : Int)))) (pc 1 rfl (pc 2 rfl (pc 4 rfl (pc 23 rfl pn)))) (fun J20 => ?_) ?_)
 ·rcases Bool.eq_false_or_eq_true ((!(validModB m) || !(prfB (m.doms.length : Int) p)) || decide ((p.length : Int) = (0 : Int))) with g13 | g13
  ·skip
   refine kl_gF rfl rfl g13 (kl_gF rfl rfl g13 (kl_gF rfl rfl g13 (kl_gF rfl rfl g13 (kl_gF rfl rfl g13 (kl_gF rfl rfl g13 (kl_gF rfl rfl g13 (kl_gF rfl rfl g13 (kl_orT (decide ((0 : Int) < ((p.getD ((p.length : Int) - (1 : Int)).toNat []).length : Int))) rfl rfl g13 ?_))))))))
   exact J20 _ (pc 32 rfl (pc 1 rfl (pc 2 rfl (pc 4 rfl (pc 23 rfl pn)))))
  ·skip
   have g13p := g13
   try simp only [Bool.not_eq_true', Bool.not_eq_false', decide_eq_true_eq, decide_eq_false_iff_not, Bool.and_eq_true, Bool.or_eq_false_iff, withinB_iff] at g13p
   refine kl_gT rfl rfl g13 (kl_mv rfl (kl_gT rfl rfl g13 (kl_mv rfl (kl_gT rfl rfl g13 (kl_len rfl (by assumption) (fun l14 => ?_))))))
   refine kl_gT rfl rfl g13 (kl_sub rfl rfl (by omega) ?_)
   refine kl_gT rfl rfl g13 (kl_ixS rfl rfl (by assumption) (by omega) (by omega) (fun p15 u17 h18 a16 => ?_))
   refine kl_gT rfl rfl g13 (kl_ld rfl (by assumption) (kl_gT rfl rfl g13 (kl_len rfl (by assumption) (fun l19 => ?_))))
   refine kl_gT rfl rfl g13 (kl_gtr rfl rfl ?_)
   refine kl_orF rfl rfl g13 ?_
   exact J20 _ (pc 32 rfl (pc 1 rfl (pc 2 rfl (pc 4 rfl (pc 23 rfl pn)))))
 refine kl_nil (kq_code (kc_cond rfl (fun c21 => ?_) (fun c21 => ?_)))
 ·skip
  have c21r := c21
  try simp only [smpC, decide_eq_true_eq, decide_eq_false_iff_not] at c21
  have hno := c21r
  refine kc_seq (kc_region (kl_as rfl (kl_nil (kq_code (kc_ret (kq_retP rfl rfl (congrArg Value.bool ?_)))))))
  exact ck_no hno
 ·skip
  have c21r := c21
  try simp only [smpC, decide_eq_true_eq, decide_eq_false_iff_not] at c21
  have hgo := c21r
  have hck := ck_ok hgo
  refine kc_skipQ (kq_code (kc_seq (kc_seq (kc_region (kl_mv rfl (kl_len rfl (by assumption) (fun l22 => ?_)))))))
  refine kl_mv rfl (kl_nil (kq_code (kc_block (kc_loop0 (A := Nat) (fun zz => (zz ≤ p.length) ∧ ((List.range zz).all (fun i => impB m (p.take i) (p.getD i [])) = true)) (fun zz => p.length - zz) (fun zz => [(35, .int .i64 (zz : Int))]) (0) (pc 1 rfl (pc 2 rfl (pc 33 rfl (pc 34 rfl pn)))) (pc 35 rfl pn) ⟨Nat.zero_le _, rfl⟩ ?_))))
  rintro k hJ25
  obtain ⟨hk23, hi24⟩ : (k ≤ p.length) ∧ ((List.range k).all (fun i => impB m (p.take i) (p.getD i [])) = true) := hJ25
  change KC _ _ (_) _ _ ([(35, .int .i64 (k : Int))] ++ _)
  refine kc_seq (kc_region (kl_lss rfl rfl ?_))
  refine kl_nil (kq_code (kc_seq (kc_if rfl (fun c26 => ?_) (fun c26 => ?_))))
  ·skip
   refine kc_skipQ (kq_code (kc_seq (kc_block (kc_seq (kc_region (kl_mv rfl (kl_inS rfl rfl (by assumption) (by omega) (fun p27 u29 h30 a28 => ?_))))))))
   refine kl_ld rfl (by assumption) (kl_as rfl (kl_as rfl (kl_nil (kq_code (kc_seq (kc_draw 7 [true, true, true, true, true, false, true] (by kernel_rfl) (by kernel_rfl) ?_))))))
   refine kl_ldS rfl (by assumption) rfl ?_
   refine kl_mv rfl (kl_mv rfl (kl_slTake rfl rfl (by assumption) (by omega) (fun u31 h32 => ?_)))
   refine kl_mv rfl (kl_callP rfl rfl (impliedI_ok m (p.take k) (p.getD k []) hck.hM (cls_take hck.hp _) (hck.hc _ (getD_mem (by omega))).1 (hck.hc _ (getD_mem (by omega))).2 (by assumption) (by assumption) (by assumption) (by assumption)) ?_)
   refine kl_not rfl (kl_nil (kq_code (kc_cond rfl (fun c33 => ?_) (fun c33 => ?_))))
   ·skip
    have c33r := c33
    try simp only [smpC, decide_eq_true_eq, decide_eq_false_iff_not] at c33
    have hib := c33r
    refine kc_seq (kc_region (kl_as rfl (kl_nil (kq_code (kc_ret (kq_retP rfl rfl (congrArg Value.bool ?_)))))))
    exact ck_hit (k := k) hgo (by omega) (by simpa using hib)
   ·skip
    have c33r := c33
    try simp only [smpC, decide_eq_true_eq, decide_eq_false_iff_not] at c33
    have hib := c33r
    refine kc_skipQ (kq_code (kc_region (kl_inc rfl rfl (by omega) ?_)))
    refine kl_mv rfl (kl_nil (kq_round0 ((k + 1)) (by omega) (⟨by omega, (ck_step hi24 (by simpa using hib))⟩) (pc 35 rfl pn) (pc 1 rfl (pc 2 rfl (pc 33 rfl (pc 34 rfl pn)))) (List.Sublist.refl _)))
  ·skip
   refine kc_exit (kq_code (kc_seq (kc_region (kl_as rfl (kl_nil (kq_code (kc_ret (kq_retP rfl rfl (congrArg Value.bool ?_)))))))))
   exact ck_end hgo (by omega) hi24
theorem chkBI_ok {Hmd : Hp} {vmd : Value} {Hmc : Hp} {vmc : Value} {Hobj : Hp} {vobj : Value} {Hp : Hp} {vp : Value} (m : Mod) (obj : List Int) (b : Int) (p : List (List Lit)) (hmd : Ints Hmd vmd m.doms) (hmc : Cons Hmc vmc m.cons) (hobj : Ints Hobj vobj obj) (hp : LRows Hp vp p) : SpecP Tryz.prog 13 [.agg #[vmd, vmc], vobj, .int .i64 b, vp] [Hmd, Hmc, Hobj, Hp] (.bool (chkB m obj b p)) := by
 refine spec_of Tryz.func13 rfl rfl rfl (fun B => ?_)
 refine kc_seq (kc_region (kl_box rfl rfl (fun p1 H2 f3 a4 => ?_)))
 refine kl_as rfl (kl_nil (kq_code (kc_seq (kc_region (kl_ldS rfl (by assumption) rfl ?_)))))
 refine kl_mv rfl (kl_mv rfl (kl_call rfl rfl (boundedI_ok m obj b (by assumption) (by assumption) (by assumption)) (fun v5 H6 f7 h8 => ?_)))
 obtain ⟨z11, z16, u12, u13, rfl, h14, h15, h10⟩ := h8
 obtain ⟨e91, e92⟩ := pairOf h10
 refine kl_mv rfl (kl_xt rfl rfl (kl_xt rfl rfl (kl_alloc (cs := [.slice none 0 0, .slice none 0 0]) rfl (fun b17 hb18 => ?_))))
 refine kl_stW (us := [u12, u13]) rfl rfl rfl rfl (oc (Sl.oneCell (by assumption)) (oc (Sl.oneCell (by assumption)) oc_nil)) rfl ?_
 refine kl_chg [sing b17 (.cells [u12, u13].toArray 26 (0, 0))] rfl ?_
 refine kl_as rfl (kl_nil (kq_code (kc_seq (kc_region (kl_mv rfl (kl_mv rfl (kl_join 4 23 (.bool (z16 && (chkP z11 p))) (pc 8 rfl (pc 19 rfl pn)) (fun J20 => ?_) ?_)))))))
 ·rcases Bool.eq_false_or_eq_true z16 with g19 | g19
  ·skip
   have g19p := g19
   try simp only [Bool.not_eq_true', Bool.not_eq_false', decide_eq_true_eq, decide_eq_false_iff_not, Bool.and_eq_true, Bool.or_eq_false_iff, withinB_iff] at g19p
   refine kl_gT rfl rfl g19 (kl_ldW rfl rfl (kl_gT rfl rfl g19 (kl_mv rfl (kl_gT rfl rfl g19 (kl_callP rfl rfl (chkPI_ok z11 p (by assumption) (by assumption) (by assumption)) ?_)))))
   refine kl_andT rfl rfl g19 ?_
   exact J20 _ (pc 23 rfl (pc 8 rfl (pc 19 rfl pn)))
  ·skip
   refine kl_gF rfl rfl g19 (kl_gF rfl rfl g19 (kl_gF rfl rfl g19 (kl_andF (chkP z11 p) rfl rfl g19 ?_)))
   exact J20 _ (pc 23 rfl (pc 8 rfl (pc 19 rfl pn)))
 refine kl_as rfl (kl_nil (kq_code (kc_ret (kq_retP rfl rfl (congrArg Value.bool ?_)))))
 (unfold chkB; rw [← e91, ← e92])
theorem withS_ok {Hmd : Hp} {vmd : Value} {Hmc : Hp} {vmc : Value} {Hcv : Hp} {vcv : Value} {Hca : Hp} {vca : Value} {Hcr : Hp} {vcr : Value} (m : Mod) (c : Con) (hm : ModSm 100 m) (hl : m.cons.length ≤ 50) (hc : ConSm 100 c) (hmd : Ints Hmd vmd m.doms) (hmc : Cons Hmc vmc m.cons) (hcv : Ints Hcv vcv c.vars) (hca : Ints Hca vca c.args) (hcr : Rows Hcr vcr c.rows) : Spec Tryz.prog 79 [.agg #[vmd, vmc], .agg #[.int .i64 c.kind, vcv, vca, .int .i64 c.bound, vcr]] [Hmd, Hmc, Hcv, Hca, Hcr] (fun Hq vq => ∃ (mq : Mod) (bq : Bool) (uq0a uq0b : Value), vq = .tuple #[.agg #[uq0a, uq0b], .bool bq] ∧ Ints Hq uq0a mq.doms ∧ Cons Hq uq0b mq.cons ∧ (mq, bq) = wcR m c) := by
 refine spec_ofR Tryz.func79 rfl rfl rfl (fun B => ?_)
 refine kc_seq (kc_region (kl_box rfl rfl (fun p1 H2 f3 a4 => ?_)))
 refine kl_box rfl rfl (fun p5 H6 f7 a8 => ?_)
 refine kl_alloc (cs := [.slice none 0 0, .slice none 0 0]) rfl (fun b9 hb10 => ?_)
 refine kl_as rfl (kl_nil (kq_code (kc_seq (kc_region (kl_ldS rfl (by assumption) rfl ?_)))))
 refine kl_callT rfl rfl (copyModE_ok m hm (by assumption) (by assumption)) (fun v11 L1 Ln K15 h12 f13 f14 => ?_)
 obtain ⟨rfl, H16, M17, v18, v19, z20, rfl, rfl, o22, o23, h21⟩ := h12
 have f24 := f13 _ (.head _)
 have f25 := f13 _ (.tail _ (.head _))
 have hcm := h21
 refine kl_norm ?_
 refine kl_alloc (cs := [.slice none 0 0, .slice none 0 0]) rfl (fun b26 hb27 => ?_)
 refine kl_stW (us := [v18, v19]) rfl rfl rfl rfl (oc (OwnL.oneCell (by assumption)) (oc (OwnL.oneCell (by assumption)) oc_nil)) rfl ?_
 refine kl_chg [sing b26 (.cells [v18, v19].toArray 26 (0, 0)), H16, M17, sing b9 (.cells [.slice none 0 0, .slice none 0 0].toArray 26 (0, 0))] rfl ?_
 refine kl_nil (kq_code (kc_seq (kc_tree (fun i => ([5, 7] : List Nat).contains i) [sing b26 (.cells [v18, v19].toArray 26 (0, 0))] (by kernel_rfl) ?_)))
 refine kt_q 0 (.cons_cons _ (List.nil_sublist _)) rfl (by kernel_rfl) (kl_fdV rfl (kl_nil (kq_q (kt_q 1 (.cons_cons _ (List.nil_sublist _)) rfl (by kernel_rfl) (kl_ld rfl (at_box (T := 26) (cs := [v18, v19]) (off := 1) (fz := (0, 0))) (kl_nil (kq_q (kt_q 2 (.cons_cons _ (List.nil_sublist _)) rfl (by kernel_rfl) (kl_ldS rfl (by assumption) rfl ?_)))))))))
 refine kl_nil (kq_q (kt_a 3 rfl (by kernel_rfl) (kl_call rfl rfl (copyConE_ok c hc (by assumption) (by assumption) (by assumption)) (fun v28 H29 f30 h31 => ?_))))
 obtain ⟨z32, h34, h33⟩ := h31
 have hce := h33
 obtain ⟨_, rfl, h38⟩ := h34
 have h38' := h38
 obtain ⟨u35, u36, u37, rfl, h39, h40, h41⟩ := h38
 refine kl_nil (kq_a (.cons_cons _ (List.nil_sublist _)) (kt_a 4 rfl (by kernel_rfl) (kl_bsK rfl (fun v42 H43 f44 r45 => ?_))))
 refine kl_nil (kq_a (.cons_cons _ (List.nil_sublist _)) (kt_a 5 rfl (by kernel_rfl) (kl_cmp K15 H29 (fun c46 => ?_))))
 have o47 := OwnL.mono (K' := orHp K15 H29) o23 orL
 refine kl_apL z32 rfl rfl o47 r45 (RMono.mono (orC c46) (by assumption)) (oc rfl (oc (Sl.oneCell (by assumption)) (oc (Sl.oneCell (by assumption)) (oc rfl (oc (Sl.oneCell (by assumption)) oc_nil))))) (by (rw [hcm]; simp; omega)) (by decide) (fun v48 H49 o50 f51 => ?_)
 have f52 := f51 B f25 (Nat.le_refl _)
 refine kl_nil (kq_x rfl (kt_q 6 (.cons_cons _ (List.nil_sublist _)) rfl (by kernel_rfl) (kl_fdV rfl (kl_nil (kq_q (kt_a 7 rfl (by kernel_rfl) (kl_stB rfl rfl rfl (OwnL.oneCell (by assumption)) (OwnL.cells (by assumption)) ?_)))))))
 refine kl_chg [sing b26 (.cells [v18, v48].toArray 26 (0, 0)), H16, H49, sing b9 (.cells [.slice none 0 0, .slice none 0 0].toArray 26 (0, 0))] rfl ?_
 refine kl_nil (kq_x rfl (kt_end (by kernel_rfl) ?_))
 refine kq_code (kc_seq (kc_seq (kc_region (kl_ldW rfl rfl ?_))))
 have h53 := OwnL.ints o22
 refine kl_cmp H49 (orHp K15 H29) (fun c55 => ?_)
 have h54 := OwnL.consK o50 c55
 refine kl_callP rfl rfl (svalidMod_ok (⟨z20.doms, (z20.cons ++ [z32])⟩ : Mod) (by assumption) (by assumption)) ?_
 refine kl_not rfl (kl_nil (kq_code (kc_cond rfl (fun c56 => ?_) (fun c56 => ?_))))
 ·skip
  have c56r := c56
  try simp only [smpC, decide_eq_true_eq, decide_eq_false_iff_not] at c56
  have hv := c56r
  rw [hcm, hce] at hv
  have hv2 : validModB (withC m c) = false := by simpa [withC] using hv
  refine kc_seq (kc_region (kl_bd rfl cp_nil rfl ?_))
  refine kl_stW (us := [.slice none 0 0, .slice none 0 0]) rfl rfl rfl rfl (oc rfl (oc rfl oc_nil)) rfl ?_
  refine kl_chg [sing b26 (.cells [v18, v48].toArray 26 (0, 0)), H16, H49, sing b9 (.cells [.slice none 0 0, .slice none 0 0].toArray 26 (0, 0))] rfl ?_
  refine kl_as rfl (kl_nil (kq_code (kc_ret (kq_cmp noHp noHp (fun c57 => ?_)))))
  exact kq_retR (rss2 rfl (rs_agg rfl rfl) (rs_tmp rfl)) (orHp noHp noHp) (fr_or (fr_no _) (fr_no _)) ⟨(⟨[], []⟩ : Mod), false, _, _, rfl, (Sl.mono Sl.nil (fun b o h => orL b o h) (fun _ _ h => h)), (Sl.mono Sl.nil (fun b o h => orC c57 b o h) (fun _ _ h => h)), by first | exact (wc_no hv2).symm | (rw [hcm, hce]; exact (wc_yes hv2).symm)⟩ .none
 ·skip
  have c56r := c56
  try simp only [smpC, decide_eq_true_eq, decide_eq_false_iff_not] at c56
  have hv := c56r
  rw [hcm, hce] at hv
  have hv2 : validModB (withC m c) = true := by simpa [withC] using hv
  refine kc_skipQ (kq_code (kc_seq (kc_region (kl_ldW rfl rfl (kl_stW (us := [v18, v48]) rfl rfl rfl rfl (oc (OwnL.oneCell (by assumption)) (oc (OwnL.oneCell (by assumption)) oc_nil)) rfl ?_)))))
  refine kl_chg [sing b26 (.cells [v18, v48].toArray 26 (0, 0)), H16, H49, sing b9 (.cells [v18, v48].toArray 26 (0, 0))] rfl ?_
  refine kl_as rfl (kl_nil (kq_code (kc_ret (kq_frz H16 ?_))))
  refine kq_frz H49 ?_
  refine kq_cmp H49 (orHp K15 H29) (fun c58 => ?_)
  refine kq_cmp H16 (orHp H49 (orHp K15 H29)) (fun c59 => ?_)
  exact kq_retR (rss2 rfl (rs_agg rfl rfl) (rs_tmp rfl)) (orHp H16 (orHp H49 (orHp K15 H29))) (fr_or f24 (fr_or f52 (fr_or f14 f30))) ⟨(⟨z20.doms, (z20.cons ++ [z32])⟩ : Mod), true, _, _, rfl, (Sl.mono (OwnL.ints o22) (fun b o h => orL b o h) (fun _ _ h => h)), (Cons.mono' (OwnL.consK o50 c58) (fun b o h => orC c59 b o h)), by first | exact (wc_no hv2).symm | (rw [hcm, hce]; exact (wc_yes hv2).symm)⟩ .none
theorem improvS_ok {Hmd : Hp} {vmd : Value} {Hmc : Hp} {vmc : Value} {Hobj : Hp} {vobj : Value} (m : Mod) (obj : List Int) (b : Int) (hM : MOk m) (ho : obj.length = m.doms.length) (hb : -1000 ≤ b ∧ b ≤ 2000) (hmd : Ints Hmd vmd m.doms) (hmc : Cons Hmc vmc m.cons) (hobj : Ints Hobj vobj obj) : Spec Tryz.prog 43 [.agg #[vmd, vmc], vobj, .int .i64 b] [Hmd, Hmc, Hobj] (fun Hq vq => ∃ (mq : Mod) (bq : Bool) (uq0a uq0b : Value), vq = .tuple #[.agg #[uq0a, uq0b], .bool bq] ∧ Ints Hq uq0a mq.doms ∧ Cons Hq uq0b mq.cons ∧ (mq, bq) = wcR m (lowC obj.length obj (b - 1))) := by
 have hn := hM.n
 have hfew := hM.few
 refine spec_ofR Tryz.func43 rfl rfl rfl (fun B => ?_)
 refine kc_seq (kc_region (kl_box rfl rfl (fun p1 H2 f3 a4 => ?_)))
 refine kl_alloc (cs := [.slice none 0 0, .slice none 0 0]) rfl (fun b5 hb6 => ?_)
 refine kl_as rfl (kl_nil (kq_code (kc_seq (kc_region (kl_bsI [] rfl rfl rfl (by decide) (fun v7 H8 f9 o10 => ?_))))))
 refine kl_as rfl (kl_nil (kq_code (kc_seq (kc_seq (kc_region (kl_as rfl (kl_nil (kq_code (kc_block (kc_loopL (A := Nat × List Int × Value × Hp) (fun zz => (zz.1 ≤ m.doms.length) ∧ (zz.2.1 = iotaN zz.1) ∧ OwnL 3 1 zz.2.2.2 noHp IntV zz.2.2.1 zz.2.1 ∧ Fr B zz.2.2.2) (fun zz => m.doms.length - zz.1) (fun zz => [zz.2.2.2, sing b5 (.cells [.slice none 0 0, .slice none 0 0].toArray 26 (0, 0))]) (fun zz => [(9, .int .i64 (zz.1 : Int)), (8, zz.2.2.1)]) (0, ([]), v7, H8) (pc 1 rfl (pc 2 rfl (pc 3 rfl (pc 6 rfl (pc 7 rfl pn))))) (pc 9 rfl (pc 8 rfl pn)) rfl ⟨Nat.zero_le _, rfl, o10, f9⟩ ?_))))))))))
 rintro ⟨k, vs, v16, H13⟩ hJ17
 obtain ⟨hk11, hi12, o14, f15⟩ : (k ≤ m.doms.length) ∧ (vs = iotaN k) ∧ OwnL 3 1 H13 noHp IntV v16 vs ∧ Fr B H13 := hJ17
 change KC _ _ (_) [H13, sing b5 (.cells [.slice none 0 0, .slice none 0 0].toArray 26 (0, 0))] _ ([(9, .int .i64 (k : Int)), (8, v16)] ++ _)
 refine kc_seq (kc_seq (kc_region (kl_mv rfl (kl_fd rfl (by assumption) (fun p18 a19 => ?_)))))
 refine kl_ld rfl (by assumption) (kl_len rfl (by assumption) (fun l20 => ?_))
 refine kl_lss rfl rfl ?_
 refine kl_nil (kq_code (kc_if rfl (fun c21 => ?_) (fun c21 => ?_)))
 ·skip
  refine kc_skipQ (kq_code (kc_seq (kc_block (kc_region (kl_mv rfl (kl_mv rfl (kl_bs rfl rfl rfl (by decide) (ca rfl ca_nil) (fun v22 H23 f24 r25 s26 => ?_))))))))
  have h27 : Ints H23 v22 [(k : Int)] := litInts (xs := [(k : Int)]) (by simpa using s26)
  refine kl_apL (k : Int) rfl rfl o14 (by assumption) rfl (oc rfl oc_nil) (by (have h9 := congrArg List.length hi12; rw [iota_len] at h9; omega)) (by decide) (fun v28 H29 o30 f31 => ?_)
  have f32 := f31 B f15 (Nat.le_refl _)
  refine kl_as rfl (kl_nil (kq_code (kc_region (kl_mv rfl (kl_inc rfl rfl (by omega) ?_)))))
  refine kl_as rfl (kl_nil (kq_take [H29, sing b5 (.cells [.slice none 0 0, .slice none 0 0].toArray 26 (0, 0))] ?_))
  refine kq_roundL ((k + 1), (vs ++ [(k : Int)]), v28, H29) (by omega) (⟨by omega, (iotaN_step hi12), o30, f32⟩) (pc 9 rfl (pc 8 rfl pn)) (pc 1 rfl (pc 2 rfl (pc 3 rfl (pc 6 rfl (pc 7 rfl pn))))) rfl (List.Sublist.refl _)
 ·skip
  refine kc_exit (kq_code (kc_seq (kc_tree (fun i => ([7, 10] : List Nat).contains i) [] (by kernel_rfl) ?_)))
  refine kt_q 0 (List.nil_sublist _) rfl (by kernel_rfl) (kl_ldS rfl (by assumption) rfl ?_)
  refine kl_nil (kq_q (kt_q 1 (List.nil_sublist _) rfl (by kernel_rfl) (kl_mv rfl (kl_nil (kq_q (kt_q 2 (List.nil_sublist _) rfl (by kernel_rfl) (kl_mv rfl (kl_nil (kq_q (kt_q 4 (List.nil_sublist _) rfl (by kernel_rfl) (kl_mv rfl ?_)))))))))))
  refine kl_nil (kq_q (kt_q 5 (List.nil_sublist _) rfl (by kernel_rfl) (kl_sub rfl rfl (by omega) ?_)))
  refine kl_nil (kq_q (kt_a 3 rfl (by kernel_rfl) (kl_call rfl rfl (copyInts_ok obj (by omega) (by assumption)) (fun v33 H34 f35 o36 => ?_))))
  have h37 := OwnL.ints o36
  refine kl_nil (kq_a (List.nil_sublist _) (kt_a 6 rfl (by kernel_rfl) (kl_bd rfl (cp rfl (cp (OwnL.cells (by assumption)) (cp (Sl.cells (by assumption)) (cp rfl cp_nil)))) rfl ?_)))
  refine kl_nil (kq_a (List.nil_sublist _) (kt_a 7 rfl (by kernel_rfl) (kl_call rfl rfl (withS_ok m ⟨(1 : Int), vs, obj, (b - (1 : Int)), []⟩ (ok_small hM) (by omega) (low_small (by have h9 := hi12; rw [show k = obj.length from by omega] at h9; exact h9) (by omega)) (by assumption) (by assumption) (OwnL.ints o14) (by assumption) (Sl.nil (H := noHp))) (fun v38 H39 f40 h41 => ?_))))
  obtain ⟨z44, z49, u45, u46, rfl, h47, h48, h43⟩ := h41
  have hwc := h43
  refine kl_nil (kq_x rfl (kt_q 8 (List.nil_sublist _) rfl (by kernel_rfl) (kl_xt rfl rfl (kl_nil (kq_q (kt_q 9 (List.nil_sublist _) rfl (by kernel_rfl) (kl_xt rfl rfl (kl_nil (kq_q (kt_a 10 rfl (by kernel_rfl) (kl_stW (us := [u45, u46]) rfl rfl rfl rfl (oc (Sl.oneCell (by assumption)) (oc (Sl.oneCell (by assumption)) oc_nil)) rfl ?_)))))))))))
  refine kl_chg [H13, sing b5 (.cells [u45, u46].toArray 26 (0, 0))] rfl ?_
  refine kl_nil (kq_x rfl (kt_q 11 (List.nil_sublist _) rfl (by kernel_rfl) (kl_as rfl (kl_nil (kq_q (kt_end (by kernel_rfl) ?_))))))
  refine kq_code (kc_ret (kq_cmp H39 H39 (fun c50 => ?_)))
  exact kq_retR (rss2 rfl (rs_agg rfl rfl) (rs_tmp rfl)) (orHp H39 H39) (fr_or f40 f40) ⟨(⟨z44.doms, z44.cons⟩ : Mod), z49, _, _, rfl, (Sl.mono (by assumption) (fun b o h => orL b o h) (fun _ _ h => h)), (Cons.mono' (by assumption) (fun b o h => orC c50 b o h)), by (have h9 := hi12; rw [show k = obj.length from by omega] at h9; rw [h9] at hwc; exact hwc)⟩ .none
theorem litDom_ok (l : Lit) (h0 : 0 ≤ l.val ∧ l.val ≤ 5) : SpecP Tryz.prog 175 [.agg #[.int .i64 l.var, .int .i64 l.val, .bool l.neg]] [] (.int .i64 (truesI l)) := by
 have hts := trues_sub h0
 have hsh := ishl_small h0
 refine spec_of Tryz.func175 rfl rfl rfl (fun B => ?_)
 refine kc_seq (kc_region (kl_box rfl rfl (fun p1 H2 f3 a4 => ?_)))
 refine kl_as rfl (kl_nil (kq_code (kc_seq (kc_seq (kc_region (kl_fd rfl (by assumption) (fun p5 a6 => ?_)))))))
 refine kl_ld rfl (by assumption) (kl_nil (kq_code (kc_cond rfl (fun c7 => ?_) (fun c7 => ?_))))
 ·skip
  have c7r := c7
  try simp only [smpC, decide_eq_true_eq, decide_eq_false_iff_not] at c7
  refine kc_seq (kc_region (kl_fd rfl (by assumption) (fun p8 a9 => ?_)))
  refine kl_ld rfl (by assumption) (kl_shl rfl rfl (by omega) ?_)
  refine kl_sub rfl rfl (by omega) ?_
  refine kl_as rfl (kl_nil (kq_code (kc_ret (kq_retP rfl rfl (congrArg (Value.int .i64) ?_)))))
  exact hts.1 (by assumption)
 ·skip
  have c7r := c7
  try simp only [smpC, decide_eq_true_eq, decide_eq_false_iff_not] at c7
  refine kc_skipQ (kq_code (kc_seq (kc_region (kl_fd rfl (by assumption) (fun p10 a11 => ?_)))))
  refine kl_ld rfl (by assumption) (kl_shl rfl rfl (by omega) ?_)
  refine kl_as rfl (kl_nil (kq_code (kc_ret (kq_retP rfl rfl (congrArg (Value.int .i64) ?_)))))
  exact trues_F (by assumption)
theorem clauseF_ok (n : Nat) {Hc : Hp} {vc : Value} {Hds : Hp} {vds : Value} (c : List Lit) (ds : List Int) (hd : DOk n ds) (hci : ClIn n c) (hn : n ≤ 4) (hc : Lits Hc vc c) (hds : Ints Hds vds ds) : Spec Tryz.prog 173 [vc, vds] [Hc, Hds] (fun Hq vq => Ints Hq vq (unitL c ds)) := by
 have hdl := hd.l
 refine spec_of Tryz.func173 rfl rfl rfl (fun B => ?_)
 refine kc_seq (kc_region (kl_as rfl (kl_nil (kq_code (kc_seq (kc_region (kl_mv rfl (kl_callL rfl rfl (copyInts_ok ds (by omega) (by assumption)) (fun v1 H2 f3 o4 => ?_)))))))))
 refine kl_as rfl (kl_nil (kq_code (kc_seq (kc_region (kl_as rfl (kl_nil (kq_code (kc_seq (kc_seq (kc_region (kl_as rfl (kl_nil (kq_code (kc_block ?_))))))))))))))
 refine kc_loop0 (A := Nat × Int) (fun zz => (zz.1 ≤ c.length) ∧ (CfI c ds zz.1 zz.2)) (fun zz => c.length - zz.1) (fun zz => [(7, .int .i64 (zz.1 : Int)), (6, .int .i64 zz.2)]) (0, (-1 : Int)) (pc 0 rfl (pc 1 rfl (pc 5 rfl pn))) (pc 7 rfl (pc 6 rfl pn)) ⟨Nat.zero_le _, (cf_0 c ds)⟩ ?_
 rintro ⟨k, a⟩ hJ7
 obtain ⟨hk5, hi6⟩ : (k ≤ c.length) ∧ (CfI c ds k a) := hJ7
 change KC _ _ (_) _ _ ([(7, .int .i64 (k : Int)), (6, .int .i64 a)] ++ _)
 have hcf := cf_b hi6
 refine kc_seq (kc_seq (kc_region (kl_mv rfl (kl_mv rfl (kl_len rfl (by assumption) (fun l8 => ?_))))))
 refine kl_lss rfl rfl ?_
 refine kl_nil (kq_code (kc_if rfl (fun c9 => ?_) (fun c9 => ?_)))
 ·skip
  have hlk := hci _ (getD_mem (d := nilLit) (by omega : k < c.length))
  have hlv := hlk.1
  have hlu := hlk.2
  refine kc_skipQ (kq_code (kc_seq (kc_block (kc_seq (kc_tree (fun i => ([] : List Nat).contains i) [] (by kernel_rfl) ?_)))))
  refine kt_q 0 (List.nil_sublist _) rfl (by kernel_rfl) (kl_mv rfl (kl_nil (kq_q (kt_q 1 (List.nil_sublist _) rfl (by kernel_rfl) (kl_mv rfl (kl_nil (kq_q (kt_q 2 (List.nil_sublist _) rfl (by kernel_rfl) (kl_mv rfl (kl_nil (kq_q ?_)))))))))))
  refine kt_q 3 (List.nil_sublist _) rfl (by kernel_rfl) (kl_inQ rfl rfl (by assumption) (by first | omega | (have h9 := cf_in hci hi6 (by omega); omega) | (have h9 := (cf_in hci hi6 (by omega)).1; omega)) (fun p10 a11 => ?_))
  refine kl_nil (kq_q (kt_q 4 (List.nil_sublist _) rfl (by kernel_rfl) (kl_fd rfl (by assumption) (fun p12 a13 => ?_))))
  refine kl_nil (kq_q (kt_q 5 (List.nil_sublist _) rfl (by kernel_rfl) (kl_ld rfl (by assumption) (kl_nil (kq_q (kt_q 6 (List.nil_sublist _) rfl (by kernel_rfl) (kl_ixI rfl rfl (by assumption) (by first | omega | (have h9 := cf_in hci hi6 (by omega); omega) | (have h9 := (cf_in hci hi6 (by omega)).1; omega)) (by first | omega | (have h9 := cf_in hci hi6 (by omega); omega) | (have h9 := (cf_in hci hi6 (by omega)).1; omega)) (fun p14 a15 => ?_))))))))
  refine kl_nil (kq_q (kt_q 7 (List.nil_sublist _) rfl (by kernel_rfl) (kl_ld rfl (by assumption) (kl_nil (kq_q (kt_q 8 (List.nil_sublist _) rfl (by kernel_rfl) (kl_mv rfl (kl_nil (kq_q (kt_q 9 (List.nil_sublist _) rfl (by kernel_rfl) (kl_mv rfl ?_)))))))))))
  refine kl_nil (kq_q (kt_q 10 (List.nil_sublist _) rfl (by kernel_rfl) (kl_inQ rfl rfl (by assumption) (by first | omega | (have h9 := cf_in hci hi6 (by omega); omega) | (have h9 := (cf_in hci hi6 (by omega)).1; omega)) (fun p16 a17 => ?_))))
  refine kl_nil (kq_q (kt_q 11 (List.nil_sublist _) rfl (by kernel_rfl) (kl_ldS rfl (by assumption) rfl ?_)))
  refine kl_nil (kq_q (kt_a 12 rfl (by kernel_rfl) (kl_callP rfl rfl (litDom_ok (c.getD k nilLit) (by first | omega | exact (cf_in hci hi6 (by omega)).2)) ?_)))
  refine kl_nil (kq_a (List.nil_sublist _) (kt_q 13 (List.nil_sublist _) rfl (by kernel_rfl) (kl_and rfl rfl ?_)))
  refine kl_nil (kq_q (kt_q 14 (List.nil_sublist _) rfl (by kernel_rfl) (kl_neq rfl rfl ?_)))
  refine kl_nil (kq_q (kt_end (by kernel_rfl) ?_))
  refine kq_code (kc_if rfl (fun c18 => ?_) (fun c18 => ?_))
  ·skip
   refine kc_seq (kc_seq (kc_region (kl_mv rfl (kl_geq rfl rfl ?_))))
   refine kl_nil (kq_code (kc_if rfl (fun c19 => ?_) (fun c19 => ?_)))
   ·skip
    refine kc_seq (kc_region (kl_mv rfl (kl_as rfl (kl_nil (kq_code (kc_ret ?_))))))
    have e9 : ds = unitL c ds := by (rw [cf_2 hi6 (by omega) (by assumption) (by omega)])
    exact kq_ret rfl rfl H2 f3 (e9 ▸ OwnL.ints o4)
   ·skip
    refine kc_skipQ (kq_code (kc_region (kl_mv rfl (kl_as rfl (kl_nil (kq_code (kc_region (kl_mv rfl (kl_inc rfl rfl (by omega) ?_)))))))))
    refine kl_as rfl (kl_nil (kq_round0 ((k + 1), (k : Int)) (by omega) (⟨by omega, (by first | exact cf_T hi6 (by omega) (by assumption) (by omega) | exact cf_F hi6 (by omega) (by assumption))⟩) (pc 7 rfl (pc 6 rfl pn)) (pc 0 rfl (pc 1 rfl (pc 5 rfl pn))) (List.Sublist.refl _)))
  ·skip
   refine kc_skipQ (kq_code (kc_region (kl_mv rfl (kl_inc rfl rfl (by omega) ?_))))
   refine kl_as rfl (kl_nil (kq_round0 ((k + 1), a) (by omega) (⟨by omega, (by first | exact cf_T hi6 (by omega) (by assumption) (by omega) | exact cf_F hi6 (by omega) (by assumption))⟩) (pc 7 rfl (pc 6 rfl pn)) (pc 0 rfl (pc 1 rfl (pc 5 rfl pn))) (List.Sublist.refl _)))
 ·skip
  refine kc_exit (kq_code (kc_seq (kc_seq (kc_region (kl_mv rfl (kl_lss rfl rfl ?_))))))
  refine kl_nil (kq_code (kc_if rfl (fun c20 => ?_) (fun c20 => ?_)))
  ·skip
   refine kc_seq (kc_region (kl_mv rfl (kl_lenL rfl o4 (fun l21 => ?_))))
   refine kl_mkL (R := IntV) (0 : Int) rfl rfl (by omega) (by decide) (by exact rfl) (fun v22 H23 f24 o25 => ?_)
   refine kl_as rfl (kl_nil (kq_code (kc_ret ?_)))
   have e9 : (List.replicate ds.length (0 : Int)) = unitL c ds := by (rw [cf_z hi6 (by omega) (by omega)]; rfl)
   exact kq_ret rfl rfl H23 f24 (e9 ▸ OwnL.ints o25)
  ·skip
   refine kc_skipQ (kq_code (kc_seq (kc_tree (fun i => ([21] : List Nat).contains i) [H2] (by kernel_rfl) ?_)))
   refine kt_q 0 (.cons_cons _ (List.nil_sublist _)) rfl (by kernel_rfl) (kl_mv rfl (kl_nil (kq_q (kt_q 1 (.cons_cons _ (List.nil_sublist _)) rfl (by kernel_rfl) (kl_mv rfl (kl_nil (kq_q (kt_q 2 (.cons_cons _ (List.nil_sublist _)) rfl (by kernel_rfl) (kl_mv rfl (kl_nil (kq_q ?_)))))))))))
   refine kt_q 3 (.cons_cons _ (List.nil_sublist _)) rfl (by kernel_rfl) (kl_ixQ rfl rfl (by assumption) (by first | omega | (have h9 := cf_in hci hi6 (by omega); omega) | (have h9 := (cf_in hci hi6 (by omega)).1; omega)) (by first | omega | (have h9 := cf_in hci hi6 (by omega); omega) | (have h9 := (cf_in hci hi6 (by omega)).1; omega)) (fun p26 a27 => ?_))
   refine kl_nil (kq_q (kt_q 4 (.cons_cons _ (List.nil_sublist _)) rfl (by kernel_rfl) (kl_fd rfl (by assumption) (fun p28 a29 => ?_))))
   refine kl_nil (kq_q (kt_q 5 (.cons_cons _ (List.nil_sublist _)) rfl (by kernel_rfl) (kl_ld rfl (by assumption) (kl_nil (kq_q (kt_q 6 (.cons_cons _ (List.nil_sublist _)) rfl (by kernel_rfl) (kl_mv rfl (kl_nil (kq_q (kt_q 7 (.cons_cons _ (List.nil_sublist _)) rfl (by kernel_rfl) (kl_mv rfl ?_)))))))))))
   refine kl_nil (kq_q (kt_q 8 (.cons_cons _ (List.nil_sublist _)) rfl (by kernel_rfl) (kl_mv rfl (kl_nil (kq_q (kt_q 9 (.cons_cons _ (List.nil_sublist _)) rfl (by kernel_rfl) (kl_ixQ rfl rfl (by assumption) (by first | omega | (have h9 := cf_in hci hi6 (by omega); omega) | (have h9 := (cf_in hci hi6 (by omega)).1; omega)) (by first | omega | (have h9 := cf_in hci hi6 (by omega); omega) | (have h9 := (cf_in hci hi6 (by omega)).1; omega)) (fun p30 a31 => ?_))))))))
   refine kl_nil (kq_q (kt_q 10 (.cons_cons _ (List.nil_sublist _)) rfl (by kernel_rfl) (kl_fd rfl (by assumption) (fun p32 a33 => ?_))))
   refine kl_nil (kq_q (kt_q 11 (.cons_cons _ (List.nil_sublist _)) rfl (by kernel_rfl) (kl_ld rfl (by assumption) (kl_nil (kq_q (kt_q 12 (.cons_cons _ (List.nil_sublist _)) rfl (by kernel_rfl) (kl_ixL rfl rfl (by assumption) (by first | omega | (have h9 := cf_in hci hi6 (by omega); omega) | (have h9 := (cf_in hci hi6 (by omega)).1; omega)) (by first | omega | (have h9 := cf_in hci hi6 (by omega); omega) | (have h9 := (cf_in hci hi6 (by omega)).1; omega)) (fun p34 q35 => ?_))))))))
   refine kl_nil (kq_q (kt_q 13 (.cons_cons _ (List.nil_sublist _)) rfl (by kernel_rfl) (kl_ldLIe rfl (by assumption) (by assumption) (by first | omega | (have h9 := cf_in hci hi6 (by omega); omega) | (have h9 := (cf_in hci hi6 (by omega)).1; omega)) ?_)))
   refine kl_nil (kq_q (kt_q 14 (.cons_cons _ (List.nil_sublist _)) rfl (by kernel_rfl) (kl_mv rfl (kl_nil (kq_q (kt_q 15 (.cons_cons _ (List.nil_sublist _)) rfl (by kernel_rfl) (kl_mv rfl (kl_nil (kq_q (kt_q 16 (.cons_cons _ (List.nil_sublist _)) rfl (by kernel_rfl) (kl_ixQ rfl rfl (by assumption) (by first | omega | (have h9 := cf_in hci hi6 (by omega); omega) | (have h9 := (cf_in hci hi6 (by omega)).1; omega)) (by first | omega | (have h9 := cf_in hci hi6 (by omega); omega) | (have h9 := (cf_in hci hi6 (by omega)).1; omega)) (fun p36 a37 => ?_))))))))))))
   refine kl_nil (kq_q (kt_q 17 (.cons_cons _ (List.nil_sublist _)) rfl (by kernel_rfl) (kl_ldS rfl (by assumption) rfl ?_)))
   refine kl_nil (kq_q (kt_a 18 rfl (by kernel_rfl) (kl_callP rfl rfl (litDom_ok (c.getD a.toNat nilLit) (by first | omega | exact (cf_in hci hi6 (by omega)).2)) ?_)))
   refine kl_nil (kq_a (.cons_cons _ (List.nil_sublist _)) (kt_q 19 (.cons_cons _ (List.nil_sublist _)) rfl (by kernel_rfl) (kl_and rfl rfl ?_)))
   refine kl_nil (kq_q (kt_q 20 (.cons_cons _ (List.nil_sublist _)) rfl (by kernel_rfl) (kl_ixL rfl rfl (by assumption) (by first | omega | (have h9 := cf_in hci hi6 (by omega); omega) | (have h9 := (cf_in hci hi6 (by omega)).1; omega)) (by first | omega | (have h9 := cf_in hci hi6 (by omega); omega) | (have h9 := (cf_in hci hi6 (by omega)).1; omega)) (fun p38 q39 => ?_))))
   refine kl_nil (kq_q (kt_a 21 rfl (by kernel_rfl) (kl_stL (iand (ds.getD (((c.getD a.toNat nilLit).var).toNat) 0) (truesI (c.getD a.toNat nilLit))) rfl rfl (by assumption) o4 (by first | omega | (have h9 := cf_in hci hi6 (by omega); omega) | (have h9 := (cf_in hci hi6 (by omega)).1; omega)) rfl rfl rfl (fun H40 o41 f42 => ?_))))
   have f43 := f42 _ f3
   refine kl_chg [H40] rfl ?_
   refine kl_nil (kq_x rfl (kt_end (by kernel_rfl) ?_))
   refine kq_code (kc_seq (kc_region (kl_mv rfl (kl_as rfl (kl_nil (kq_code (kc_ret ?_)))))))
   have e9 : (ds.set (((c.getD a.toNat nilLit).var).toNat) (iand (ds.getD (((c.getD a.toNat nilLit).var).toNat) 0) (truesI (c.getD a.toNat nilLit)))) = unitL c ds := by (rw [cf_1 hi6 (by omega) (by omega)]; rfl)
   exact kq_ret rfl rfl H40 f43 (e9 ▸ OwnL.ints o41)
theorem assumeS_ok (n : Nat) {Hds : Hp} {vds : Value} {Hc : Hp} {vc : Value} (ds : List Int) (c : List Lit) (hd : DOk n ds) (hci : ClIn n c) (hn : n ≤ 4) (hds : Ints Hds vds ds) (hc : Lits Hc vc c) : Spec Tryz.prog 135 [vds, vc] [Hds, Hc] (fun Hq vq => Ints Hq vq (rstN ds c)) := by
 refine spec_of Tryz.func135 rfl rfl rfl (fun B => ?_)
 refine kc_seq (kc_region (kl_as rfl (kl_nil (kq_code (kc_seq (kc_region (kl_mv rfl (kl_callL rfl rfl (copyInts_ok ds (by have := hd.l; omega) (by assumption)) (fun v1 H2 f3 o4 => ?_)))))))))
 refine kl_as rfl (kl_nil (kq_code (kc_seq (kc_seq (kc_region (kl_as rfl (kl_nil (kq_code (kc_block (kc_loopL (A := Nat × List Int × Hp) (fun zz => (zz.1 ≤ c.length) ∧ (zz.2.1 = rstN ds (c.take zz.1)) ∧ OwnL 3 1 zz.2.2 noHp IntV v1 zz.2.1 ∧ Fr B zz.2.2) (fun zz => c.length - zz.1) (fun zz => [zz.2.2]) (fun zz => [(6, .int .i64 (zz.1 : Int))]) (0, ds, H2) (pc 1 rfl (pc 4 rfl (pc 5 rfl pn))) (pc 6 rfl pn) rfl ⟨Nat.zero_le _, rfl, o4, f3⟩ ?_))))))))))
 rintro ⟨k, xs, H7⟩ hJ10
 obtain ⟨hk5, hi6, o8, f9⟩ : (k ≤ c.length) ∧ (xs = rstN ds (c.take k)) ∧ OwnL 3 1 H7 noHp IntV v1 xs ∧ Fr B H7 := hJ10
 change KC _ _ (_) [H7] _ ([(6, .int .i64 (k : Int))] ++ _)
 have hxl : xs.length = n := (by rw [hi6]; exact (rstL_ok hd (negs_in (fun l hl => hci l (List.mem_of_mem_take hl)))).1.l)
 refine kc_seq (kc_seq (kc_region (kl_mv rfl (kl_mv rfl (kl_len rfl (by assumption) (fun l11 => ?_))))))
 refine kl_lss rfl rfl ?_
 refine kl_nil (kq_code (kc_if rfl (fun c12 => ?_) (fun c12 => ?_)))
 ·skip
  have hlk := hci _ (getD_mem (d := nilLit) (by omega : k < c.length))
  have hlv := hlk.1
  have hlu := hlk.2
  refine kc_skipQ (kq_code (kc_seq (kc_block (kc_tree (fun i => ([22] : List Nat).contains i) [H7] (by kernel_rfl) ?_))))
  refine kt_q 0 (.cons_cons _ (List.nil_sublist _)) rfl (by kernel_rfl) (kl_mv rfl (kl_nil (kq_q (kt_q 1 (.cons_cons _ (List.nil_sublist _)) rfl (by kernel_rfl) (kl_mv rfl (kl_nil (kq_q (kt_q 2 (.cons_cons _ (List.nil_sublist _)) rfl (by kernel_rfl) (kl_mv rfl (kl_nil (kq_q ?_)))))))))))
  refine kt_q 3 (.cons_cons _ (List.nil_sublist _)) rfl (by kernel_rfl) (kl_inQ rfl rfl (by assumption) (by first | omega | (simp; omega)) (fun p13 a14 => ?_))
  refine kl_nil (kq_q (kt_q 4 (.cons_cons _ (List.nil_sublist _)) rfl (by kernel_rfl) (kl_fd rfl (by assumption) (fun p15 a16 => ?_))))
  refine kl_nil (kq_q (kt_q 5 (.cons_cons _ (List.nil_sublist _)) rfl (by kernel_rfl) (kl_ld rfl (by assumption) (kl_nil (kq_q (kt_q 6 (.cons_cons _ (List.nil_sublist _)) rfl (by kernel_rfl) (kl_mv rfl (kl_nil (kq_q (kt_q 7 (.cons_cons _ (List.nil_sublist _)) rfl (by kernel_rfl) (kl_mv rfl ?_)))))))))))
  refine kl_nil (kq_q (kt_q 8 (.cons_cons _ (List.nil_sublist _)) rfl (by kernel_rfl) (kl_mv rfl (kl_nil (kq_q (kt_q 9 (.cons_cons _ (List.nil_sublist _)) rfl (by kernel_rfl) (kl_inQ rfl rfl (by assumption) (by first | omega | (simp; omega)) (fun p17 a18 => ?_))))))))
  refine kl_nil (kq_q (kt_q 10 (.cons_cons _ (List.nil_sublist _)) rfl (by kernel_rfl) (kl_fd rfl (by assumption) (fun p19 a20 => ?_))))
  refine kl_nil (kq_q (kt_q 11 (.cons_cons _ (List.nil_sublist _)) rfl (by kernel_rfl) (kl_ld rfl (by assumption) (kl_nil (kq_q (kt_q 12 (.cons_cons _ (List.nil_sublist _)) rfl (by kernel_rfl) (kl_ixL rfl rfl (by assumption) (by first | omega | (simp; omega)) (by first | omega | (simp; omega)) (fun p21 q22 => ?_))))))))
  refine kl_nil (kq_q (kt_q 13 (.cons_cons _ (List.nil_sublist _)) rfl (by kernel_rfl) (kl_ldLIe rfl (by assumption) (by assumption) (by first | omega | (simp; omega)) ?_)))
  refine kl_nil (kq_q (kt_q 14 (.cons_cons _ (List.nil_sublist _)) rfl (by kernel_rfl) (kl_mv rfl (kl_nil (kq_q (kt_q 15 (.cons_cons _ (List.nil_sublist _)) rfl (by kernel_rfl) (kl_mv rfl (kl_nil (kq_q (kt_q 16 (.cons_cons _ (List.nil_sublist _)) rfl (by kernel_rfl) (kl_inQ rfl rfl (by assumption) (by first | omega | (simp; omega)) (fun p23 a24 => ?_))))))))))))
  refine kl_nil (kq_q (kt_q 17 (.cons_cons _ (List.nil_sublist _)) rfl (by kernel_rfl) (kl_ldS rfl (by assumption) rfl ?_)))
  refine kl_nil (kq_q (kt_a 18 rfl (by kernel_rfl) (kl_callP rfl rfl (litDom_ok (c.getD k nilLit) hlu) ?_)))
  refine kl_nil (kq_a (.cons_cons _ (List.nil_sublist _)) (kt_q 19 (.cons_cons _ (List.nil_sublist _)) rfl (by kernel_rfl) (kl_sub rfl rfl (by (have h9 := trues_ok hlu; omega)) ?_)))
  refine kl_nil (kq_q (kt_q 20 (.cons_cons _ (List.nil_sublist _)) rfl (by kernel_rfl) (kl_and rfl rfl ?_)))
  refine kl_nil (kq_q (kt_q 21 (.cons_cons _ (List.nil_sublist _)) rfl (by kernel_rfl) (kl_ixL rfl rfl (by assumption) (by first | omega | (simp; omega)) (by first | omega | (simp; omega)) (fun p25 q26 => ?_))))
  refine kl_nil (kq_q (kt_a 22 rfl (by kernel_rfl) (kl_stL (iand (xs.getD (((c.getD k nilLit).var).toNat) 0) ((63 : Int) - (truesI (c.getD k nilLit)))) rfl rfl (by assumption) o8 (by first | omega | (simp; omega)) rfl rfl rfl (fun H27 o28 f29 => ?_))))
  have f30 := f29 _ f9
  refine kl_chg [H27] rfl ?_
  refine kl_nil (kq_x rfl (kt_end (by kernel_rfl) ?_))
  refine kq_code (kc_region (kl_mv rfl (kl_inc rfl rfl (by omega) ?_)))
  refine kl_as rfl (kl_nil (kq_take [H27] ?_))
  refine kq_roundL ((k + 1), (xs.set (((c.getD k nilLit).var).toNat) (iand (xs.getD (((c.getD k nilLit).var).toNat) 0) ((63 : Int) - (truesI (c.getD k nilLit))))), H27) (by omega) (⟨by omega, (by rw [← rstN_step (by omega), ← hi6, (trues_sub hlu).2]; rfl), o28, f30⟩) (pc 6 rfl pn) (pc 1 rfl (pc 4 rfl (pc 5 rfl pn))) rfl (List.Sublist.refl _)
 ·skip
  refine kc_exit (kq_code (kc_seq (kc_region (kl_mv rfl (kl_as rfl (kl_nil (kq_code (kc_ret ?_))))))))
  have e9 : xs = rstN ds c := by (rw [hi6, List.take_of_length_le (by omega)])
  exact kq_ret rfl rfl H7 f9 (e9 ▸ OwnL.ints o8)
theorem refuteS_ok {Hmd : Hp} {vmd : Value} {Hmc : Hp} {vmc : Value} {Hcls : Hp} {vcls : Value} {Hds : Hp} {vds : Value} (m : Mod) (cls : List (List Lit)) (ds : List Int) (hM : MOk m) (hcl : ClsIn m.doms.length cls) (hd : DOk m.doms.length ds) (hmd : Ints Hmd vmd m.doms) (hmc : Cons Hmc vmc m.cons) (hcls : LRows Hcls vcls cls) (hds : Ints Hds vds ds) : SpecP Tryz.prog 134 [.agg #[vmd, vmc], vcls, vds] [Hmd, Hmc, Hcls, Hds] (.bool (rfE m cls ds)) := by
 have hn := hM.n
 refine spec_of Tryz.func134 rfl rfl rfl (fun B => ?_)
 refine kc_seq (kc_region (kl_box rfl rfl (fun p1 H2 f3 a4 => ?_)))
 refine kl_as rfl (kl_nil (kq_code (kc_seq (kc_region (kl_mv rfl (kl_call rfl rfl (copyInts_ok ds (by have := hd.l; omega) (by assumption)) (fun v5 H6 f7 o8 => ?_)))))))
 have h9 := OwnL.ints o8
 refine kl_as rfl (kl_nil (kq_code (kc_block (kc_loopK (A := List Int × Value × Hp) (fun zz => (DOk m.doms.length zz.1 ∧ rfE m cls zz.1 = rfE m cls ds) ∧ Fr B zz.2.2 ∧ Ints zz.2.2 zz.2.1 zz.1) (fun zz => sumN zz.1) (fun zz => zz.2.2) (fun zz => []) (fun zz => [(7, zz.2.1)]) (ds, v5, H6) (pc 1 rfl (pc 3 rfl pn)) (pc 7 rfl pn) rfl ⟨⟨hd, rfl⟩, f7, (by assumption)⟩ ?_))))
 rintro ⟨xs, v12, K13⟩ hJ16
 obtain ⟨hi11, f14, h15⟩ : (DOk m.doms.length xs ∧ rfE m cls xs = rfE m cls ds) ∧ Fr B K13 ∧ Ints K13 v12 xs := hJ16
 change KC _ _ (K13 :: _) [] _ ([(7, v12)] ++ _)
 have hD := hi11.1
 have hp := propOk hM hD
 refine kc_block (kc_seq (kc_region (kl_ldS rfl (by assumption) rfl ?_)))
 refine kl_mv rfl (kl_call rfl rfl (fixS_ok m xs hM hD (by assumption) (by assumption) (by assumption)) (fun v17 H18 f19 h20 => ?_))
 refine kl_as rfl (kl_nil (kq_code (kc_seq (kc_seq (kc_region (kl_as rfl (kl_nil (kq_code (kc_block (kc_loopK (A := Nat × List Int × Value × Hp) (fun zz => (zz.1 ≤ cls.length) ∧ (zz.2.1 = unitA (cls.take zz.1) (prop m xs)) ∧ Fr B zz.2.2.2 ∧ Ints zz.2.2.2 zz.2.2.1 zz.2.1) (fun zz => cls.length - zz.1) (fun zz => zz.2.2.2) (fun zz => []) (fun zz => [(9, .int .i64 (zz.1 : Int)), (8, zz.2.2.1)]) (0, (prop m xs), v17, H18) (pc 1 rfl (pc 3 rfl (pc 7 rfl (pc 12 rfl (pc 13 rfl (pc 14 rfl pn)))))) (pc 9 rfl (pc 8 rfl pn)) rfl ⟨Nat.zero_le _, rfl, f19, (by assumption)⟩ ?_))))))))))
 rintro ⟨k2, ys, v23, K24⟩ hJ27
 obtain ⟨hk21, hi22, f25, h26⟩ : (k2 ≤ cls.length) ∧ (ys = unitA (cls.take k2) (prop m xs)) ∧ Fr B K24 ∧ Ints K24 v23 ys := hJ27
 change KC _ _ (K24 :: _) [] _ ([(9, .int .i64 (k2 : Int)), (8, v23)] ++ _)
 refine kc_seq (kc_seq (kc_region (kl_mv rfl (kl_mv rfl (kl_len rfl (by assumption) (fun l28 => ?_))))))
 refine kl_lss rfl rfl ?_
 refine kl_nil (kq_code (kc_if rfl (fun c29 => ?_) (fun c29 => ?_)))
 ·skip
  refine kc_skipQ (kq_code (kc_seq (kc_block (kc_region (kl_mv rfl (kl_mv rfl (kl_inS rfl rfl (by assumption) (by omega) (fun p30 u32 h33 a31 => ?_))))))))
  refine kl_ld rfl (by assumption) (kl_mv rfl (kl_call rfl rfl (clauseF_ok m.doms.length (cls.getD k2 []) ys (by rw [hi22]; exact (unitA_ok hp.ok (cls_take hcl k2)).1) (cls_at hcl (by omega)) hn.2 (by assumption) (by assumption)) (fun v34 H35 f36 h37 => ?_)))
  refine kl_as rfl (kl_nil (kq_code (kc_region (kl_mv rfl (kl_inc rfl rfl (by omega) ?_)))))
  refine kl_as rfl (kl_nil (kq_roundK ((k2 + 1), (unitL (cls.getD k2 []) ys), v34, H35) (by omega) (⟨by omega, (by rw [← unitA_step (by omega), ← hi22]), f36, (by assumption)⟩) (pc 9 rfl (pc 8 rfl pn)) (pc 1 rfl (pc 3 rfl (pc 7 rfl (pc 12 rfl (pc 13 rfl (pc 14 rfl pn)))))) rfl (List.Sublist.refl _)))
 ·skip
  have he9 := hi22
  rw [List.take_of_length_le (by omega)] at he9
  refine kc_exit (kq_code (kc_seq (kc_seq (kc_region (kl_mv rfl (kl_callP rfl rfl (hasEmpty_ok ys (by assumption)) ?_))))))
  refine kl_nil (kq_code (kc_cond rfl (fun c38 => ?_) (fun c38 => ?_)))
  ·skip
   have c38r := c38
   try simp only [smpC, decide_eq_true_eq, decide_eq_false_iff_not] at c38
   have hz9 := c38r
   refine kc_seq (kc_region (kl_as rfl (kl_nil (kq_code (kc_ret (kq_retP rfl rfl (congrArg Value.bool ?_)))))))
   exact rf_yes hM hD hcl he9 hz9 hi11.2
  ·skip
   have c38r := c38
   try simp only [smpC, decide_eq_true_eq, decide_eq_false_iff_not] at c38
   have hz9 := c38r
   refine kc_skipQ (kq_code (kc_seq (kc_seq (kc_region (kl_mv rfl (kl_mv rfl (kl_callP rfl rfl (sequal_ok ys xs (by assumption) (by assumption)) ?_)))))))
   refine kl_nil (kq_code (kc_cond rfl (fun c39 => ?_) (fun c39 => ?_)))
   ·skip
    have c39r := c39
    try simp only [smpC, decide_eq_true_eq, decide_eq_false_iff_not] at c39
    have hq9 := c39r
    refine kc_seq (kc_region (kl_as rfl (kl_nil (kq_code (kc_ret (kq_retP rfl rfl (congrArg Value.bool ?_)))))))
    exact rf_no hM hD he9 hz9 hq9 hi11.2
   ·skip
    have c39r := c39
    try simp only [smpC, decide_eq_true_eq, decide_eq_false_iff_not] at c39
    have hq9 := c39r
    refine kc_skipQ (kq_code (kc_region (kl_mv rfl (kl_as rfl (kl_nil (kq_roundK (ys, v23, K24) (by (dsimp only; exact rf_mu hM hD hcl he9 hq9)) (⟨(rf_go hM hD hcl he9 hz9 hq9 hi11.2), f25, (by assumption)⟩) (pc 7 rfl pn) (pc 1 rfl (pc 3 rfl pn)) rfl (List.Sublist.refl _)))))))
theorem impliedS_ok {Hmd : Hp} {vmd : Value} {Hmc : Hp} {vmc : Value} {Hcls : Hp} {vcls : Value} {Hc : Hp} {vc : Value} (m : Mod) (cls : List (List Lit)) (c : List Lit) (hM : MOk m) (hcl : ClsIn m.doms.length cls) (hl : ClIn m.doms.length c) (hmd : Ints Hmd vmd m.doms) (hmc : Cons Hmc vmc m.cons) (hcls : LRows Hcls vcls cls) (hc : Lits Hc vc c) : SpecP Tryz.prog 91 [.agg #[vmd, vmc], vcls, vc] [Hmd, Hmc, Hcls, Hc] (.bool (impB m cls c)) := by
 have hn := hM.n
 refine spec_of Tryz.func91 rfl rfl rfl (fun B => ?_)
 refine kc_seq (kc_region (kl_box rfl rfl (fun p1 H2 f3 a4 => ?_)))
 refine kl_as rfl (kl_nil (kq_code (kc_seq (kc_tree (fun i => ([6] : List Nat).contains i) [] (by kernel_rfl) ?_))))
 refine kt_q 0 (List.nil_sublist _) rfl (by kernel_rfl) (kl_ldS rfl (by assumption) rfl ?_)
 refine kl_nil (kq_q (kt_q 1 (List.nil_sublist _) rfl (by kernel_rfl) (kl_mv rfl (kl_nil (kq_q (kt_q 2 (List.nil_sublist _) rfl (by kernel_rfl) (kl_fd rfl (by assumption) (fun p5 a6 => ?_))))))))
 refine kl_nil (kq_q (kt_q 3 (List.nil_sublist _) rfl (by kernel_rfl) (kl_ld rfl (by assumption) (kl_nil (kq_q (kt_q 4 (List.nil_sublist _) rfl (by kernel_rfl) (kl_mv rfl (kl_nil (kq_q (kt_a 5 rfl (by kernel_rfl) (kl_call rfl rfl (assumeS_ok m.doms.length m.doms c hM.dok hl hn.2 (by assumption) (by assumption)) (fun v7 H8 f9 h10 => ?_))))))))))))
 refine kl_nil (kq_a (List.nil_sublist _) (kt_a 6 rfl (by kernel_rfl) (kl_callP rfl rfl (refuteS_ok m cls (rstN m.doms c) hM hcl (rstL_ok hM.dok (negs_in hl)).1 (by assumption) (by assumption) (by assumption) (by assumption)) ?_)))
 refine kl_nil (kq_x rfl (kt_q 7 (List.nil_sublist _) rfl (by kernel_rfl) (kl_as rfl (kl_nil (kq_q (kt_end (by kernel_rfl) ?_))))))
 refine kq_code (kc_ret (kq_retP rfl rfl (congrArg Value.bool ?_)))
 rfl
theorem validPrf_ok {Hp : Hp} {vp : Value} (p : List (List Lit)) (n : Int) (hn : -9223372036854775807 ≤ n ∧ n ≤ 9223372036854775807) (hp : LRows Hp vp p) : SpecP Tryz.prog 90 [vp, .int .i64 n] [Hp] (.bool (prfS n p)) := by
 refine spec_of Tryz.func90 rfl rfl rfl (fun B => ?_)
 refine kc_seq (kc_region (kl_as rfl (kl_nil (kq_code (kc_seq (kc_seq (kc_region (kl_as rfl (kl_nil (kq_code (kc_block (kc_loop0 (A := Nat) (fun zz => (zz ≤ p.length) ∧ ((p.take zz).all (clS n) = true)) (fun zz => p.length - zz) (fun zz => [(5, .int .i64 (zz : Int))]) (0) (pc 0 rfl (pc 1 rfl pn)) (pc 5 rfl pn) ⟨Nat.zero_le _, rfl⟩ ?_))))))))))))
 rintro k hJ3
 obtain ⟨hk1, hi2⟩ : (k ≤ p.length) ∧ ((p.take k).all (clS n) = true) := hJ3
 change KC _ _ (_) _ _ ([(5, .int .i64 (k : Int))] ++ _)
 refine kc_seq (kc_seq (kc_region (kl_mv rfl (kl_mv rfl (kl_len rfl (by assumption) (fun l4 => ?_))))))
 refine kl_lss rfl rfl ?_
 refine kl_nil (kq_code (kc_if rfl (fun c5 => ?_) (fun c5 => ?_)))
 ·skip
  refine kc_skipQ (kq_code (kc_seq (kc_block (kc_seq (kc_region (kl_mv rfl (kl_mv rfl (kl_inS rfl rfl (by assumption) (by omega) (fun p6 u8 h9 a7 => ?_)))))))))
  refine kl_ld rfl (by assumption) (kl_mv rfl (kl_callP rfl rfl (validClS_ok (p.getD k []) n (by first | assumption | omega) (by assumption)) ?_))
  refine kl_not rfl (kl_nil (kq_code (kc_cond rfl (fun c10 => ?_) (fun c10 => ?_))))
  ·skip
   have c10r := c10
   try simp only [smpC, decide_eq_true_eq, decide_eq_false_iff_not] at c10
   refine kc_seq (kc_region (kl_as rfl (kl_nil (kq_code (kc_ret (kq_retP rfl rfl (congrArg Value.bool ?_)))))))
   exact prfS_no (k := k) (by omega) (by simpa using (by assumption))
  ·skip
   have c10r := c10
   try simp only [smpC, decide_eq_true_eq, decide_eq_false_iff_not] at c10
   refine kc_skipQ (kq_code (kc_region (kl_mv rfl (kl_inc rfl rfl (by omega) ?_))))
   refine kl_as rfl (kl_nil (kq_round0 ((k + 1)) (by omega) (⟨by omega, (all_take_step (d := []) (by omega) hi2 (by simpa using (by assumption)))⟩) (pc 5 rfl pn) (pc 0 rfl (pc 1 rfl pn)) (List.Sublist.refl _)))
 ·skip
  refine kc_exit (kq_code (kc_seq (kc_region (kl_mv rfl (kl_len rfl (by assumption) (fun l11 => ?_))))))
  refine kl_leq rfl rfl ?_
  refine kl_as rfl (kl_nil (kq_code (kc_ret (kq_retP rfl rfl (congrArg Value.bool ?_)))))
  exact prfS_end (by omega) hi2
theorem chkPS_ok {Hmd : Hp} {vmd : Value} {Hmc : Hp} {vmc : Value} {Hp : Hp} {vp : Value} (m : Mod) (p : List (List Lit)) (hmd : Ints Hmd vmd m.doms) (hmc : Cons Hmc vmc m.cons) (hp : LRows Hp vp p) : SpecP Tryz.prog 53 [.agg #[vmd, vmc], vp] [Hmd, Hmc, Hp] (.bool (chkP m p)) := by
 refine spec_of Tryz.func53 rfl rfl rfl (fun B => ?_)
 refine kc_seq (kc_region (kl_box rfl rfl (fun p1 H2 f3 a4 => ?_)))
 refine kl_as rfl (kl_nil (kq_code (kc_seq (kc_seq (kc_region (kl_ldS rfl (by assumption) rfl ?_))))))
 refine kl_callP rfl rfl (svalidMod_ok m (by assumption) (by assumption)) ?_
 refine kl_not rfl (kl_mv rfl (kl_join 7 16 (.bool (!(validModB m) || !(prfS (m.doms.length : Int) p))) (pc 1 rfl (pc 2 rfl (pc 4 rfl (pc 9 rfl pn)))) (fun J9 => ?_) ?_))
 ·rcases Bool.eq_false_or_eq_true (!(validModB m)) with g5 | g5
  ·skip
   refine kl_gF rfl rfl g5 (kl_gF rfl rfl g5 (kl_gF rfl rfl g5 (kl_gF rfl rfl g5 (kl_gF rfl rfl g5 (kl_gF rfl rfl g5 (kl_orT (!(prfS (m.doms.length : Int) p)) rfl rfl g5 ?_))))))
   exact J9 _ (pc 16 rfl (pc 1 rfl (pc 2 rfl (pc 4 rfl (pc 9 rfl pn)))))
  ·skip
   have g5p := g5
   try simp only [Bool.not_eq_true', Bool.not_eq_false', decide_eq_true_eq, decide_eq_false_iff_not, Bool.and_eq_true, Bool.or_eq_false_iff, withinB_iff] at g5p
   refine kl_gT rfl rfl g5 (kl_mv rfl (kl_gT rfl rfl g5 (kl_fd rfl (by assumption) (fun p6 a7 => ?_))))
   refine kl_gT rfl rfl g5 (kl_ld rfl (by assumption) (kl_gT rfl rfl g5 (kl_len rfl (by assumption) (fun l8 => ?_))))
   refine kl_gT rfl rfl g5 (kl_callP rfl rfl (validPrf_ok p (m.doms.length : Int) (by omega) (by assumption)) ?_)
   refine kl_gT rfl rfl g5 (kl_not rfl (kl_orF rfl rfl g5 ?_))
   exact J9 _ (pc 16 rfl (pc 1 rfl (pc 2 rfl (pc 4 rfl (pc 9 rfl pn)))))
 refine kl_mv rfl (kl_join 4 21 (.bool ((!(validModB m) || !(prfS (m.doms.length : Int) p)) || decide ((p.length : Int) = (0 : Int)))) (pc 1 rfl (pc 2 rfl (pc 4 rfl (pc 17 rfl pn)))) (fun J12 => ?_) ?_)
 ·rcases Bool.eq_false_or_eq_true (!(validModB m) || !(prfS (m.doms.length : Int) p)) with g10 | g10
  ·skip
   refine kl_gF rfl rfl g10 (kl_gF rfl rfl g10 (kl_gF rfl rfl g10 (kl_orT (decide ((p.length : Int) = (0 : Int))) rfl rfl g10 ?_)))
   exact J12 _ (pc 21 rfl (pc 1 rfl (pc 2 rfl (pc 4 rfl (pc 17 rfl pn)))))
  ·skip
   have g10p := g10
   try simp only [Bool.not_eq_true', Bool.not_eq_false', decide_eq_true_eq, decide_eq_false_iff_not, Bool.and_eq_true, Bool.or_eq_false_iff, withinB_iff] at g10p
   refine kl_gT rfl rfl g10 (kl_mv rfl (kl_gT rfl rfl g10 (kl_len rfl (by assumption) (fun l11 => ?_))))
   refine kl_gT rfl rfl g10 (kl_eql rfl rfl ?_)
   refine kl_orF rfl rfl g10 ?_
   exact J12 _ (pc 21 rfl (pc 1 rfl (pc 2 rfl (pc 4 rfl (pc 17 rfl pn)))))
 refine kl_mv rfl (kl_join 9 31 (.bool (((!(validModB m) || !(prfS (m.doms.length : Int) p)) || decide ((p.length : Int) = (0 : Int))) || decide ((0 : Int) < ((p.getD ((p.length : Int) - (1 : Int)).toNat []).length : Int)))) (pc 1 rfl (pc 2 rfl (pc 4 rfl (pc 22 rfl pn)))) (fun J20 => ?_) ?_)
 ·rcases Bool.eq_false_or_eq_true ((!(validModB m) || !(prfS (m.doms.length : Int) p)) || decide ((p.length : Int) = (0 : Int))) with g13 | g13
  ·skip
   refine kl_gF rfl rfl g13 (kl_gF rfl rfl g13 (kl_gF rfl rfl g13 (kl_gF rfl rfl g13 (kl_gF rfl rfl g13 (kl_gF rfl rfl g13 (kl_gF rfl rfl g13 (kl_gF rfl rfl g13 (kl_orT (decide ((0 : Int) < ((p.getD ((p.length : Int) - (1 : Int)).toNat []).length : Int))) rfl rfl g13 ?_))))))))
   exact J20 _ (pc 31 rfl (pc 1 rfl (pc 2 rfl (pc 4 rfl (pc 22 rfl pn)))))
  ·skip
   have g13p := g13
   try simp only [Bool.not_eq_true', Bool.not_eq_false', decide_eq_true_eq, decide_eq_false_iff_not, Bool.and_eq_true, Bool.or_eq_false_iff, withinB_iff] at g13p
   refine kl_gT rfl rfl g13 (kl_mv rfl (kl_gT rfl rfl g13 (kl_mv rfl (kl_gT rfl rfl g13 (kl_len rfl (by assumption) (fun l14 => ?_))))))
   refine kl_gT rfl rfl g13 (kl_sub rfl rfl (by omega) ?_)
   refine kl_gT rfl rfl g13 (kl_ixS rfl rfl (by assumption) (by omega) (by omega) (fun p15 u17 h18 a16 => ?_))
   refine kl_gT rfl rfl g13 (kl_ld rfl (by assumption) (kl_gT rfl rfl g13 (kl_len rfl (by assumption) (fun l19 => ?_))))
   refine kl_gT rfl rfl g13 (kl_gtr rfl rfl ?_)
   refine kl_orF rfl rfl g13 ?_
   exact J20 _ (pc 31 rfl (pc 1 rfl (pc 2 rfl (pc 4 rfl (pc 22 rfl pn)))))
 refine kl_nil (kq_code (kc_cond rfl (fun c21 => ?_) (fun c21 => ?_)))
 ·skip
  have c21r := c21
  try simp only [smpC, decide_eq_true_eq, decide_eq_false_iff_not] at c21
  have hgs := c21r
  rw [ckG_S] at hgs
  have hno := hgs
  refine kc_seq (kc_region (kl_as rfl (kl_nil (kq_code (kc_ret (kq_retP rfl rfl (congrArg Value.bool ?_)))))))
  exact ck_no hno
 ·skip
  have c21r := c21
  try simp only [smpC, decide_eq_true_eq, decide_eq_false_iff_not] at c21
  have hgs := c21r
  rw [ckG_S] at hgs
  have hgo := hgs
  have hck := ck_ok hgo
  refine kc_skipQ (kq_code (kc_seq (kc_seq (kc_region (kl_as rfl (kl_nil (kq_code (kc_block (kc_loop0 (A := Nat) (fun zz => (zz ≤ p.length) ∧ ((List.range zz).all (fun i => impB m (p.take i) (p.getD i [])) = true)) (fun zz => p.length - zz) (fun zz => [(5, .int .i64 (zz : Int))]) (0) (pc 1 rfl (pc 2 rfl pn)) (pc 5 rfl pn) ⟨Nat.zero_le _, rfl⟩ ?_)))))))))
  rintro k hJ24
  obtain ⟨hk22, hi23⟩ : (k ≤ p.length) ∧ ((List.range k).all (fun i => impB m (p.take i) (p.getD i [])) = true) := hJ24
  change KC _ _ (_) _ _ ([(5, .int .i64 (k : Int))] ++ _)
  refine kc_seq (kc_seq (kc_region (kl_mv rfl (kl_mv rfl (kl_len rfl (by assumption) (fun l25 => ?_))))))
  refine kl_lss rfl rfl ?_
  refine kl_nil (kq_code (kc_if rfl (fun c26 => ?_) (fun c26 => ?_)))
  ·skip
   refine kc_skipQ (kq_code (kc_seq (kc_block (kc_seq (kc_draw 10 [true, true, true, true, true, true, true, true, false, true] (by kernel_rfl) (by kernel_rfl) ?_)))))
   refine kl_ldS rfl (by assumption) rfl ?_
   refine kl_mv rfl (kl_mv rfl (kl_slTake rfl rfl (by assumption) (by omega) (fun u27 h28 => ?_)))
   refine kl_mv rfl (kl_mv rfl (kl_inS rfl rfl (by assumption) (by omega) (fun p29 u31 h32 a30 => ?_)))
   refine kl_ld rfl (by assumption) (kl_callP rfl rfl (impliedS_ok m (p.take k) (p.getD k []) hck.hM (cls_take hck.hp _) (hck.hc _ (getD_mem (by omega))).1.h (by assumption) (by assumption) (by assumption) (by assumption)) ?_)
   refine kl_not rfl (kl_nil (kq_code (kc_cond rfl (fun c33 => ?_) (fun c33 => ?_))))
   ·skip
    have c33r := c33
    try simp only [smpC, decide_eq_true_eq, decide_eq_false_iff_not] at c33
    have hib := c33r
    refine kc_seq (kc_region (kl_as rfl (kl_nil (kq_code (kc_ret (kq_retP rfl rfl (congrArg Value.bool ?_)))))))
    exact ck_hit (k := k) hgo (by omega) (by simpa using hib)
   ·skip
    have c33r := c33
    try simp only [smpC, decide_eq_true_eq, decide_eq_false_iff_not] at c33
    have hib := c33r
    refine kc_skipQ (kq_code (kc_region (kl_mv rfl (kl_inc rfl rfl (by omega) ?_))))
    refine kl_as rfl (kl_nil (kq_round0 ((k + 1)) (by omega) (⟨by omega, (ck_step hi23 (by simpa using hib))⟩) (pc 5 rfl pn) (pc 1 rfl (pc 2 rfl pn)) (List.Sublist.refl _)))
  ·skip
   refine kc_exit (kq_code (kc_seq (kc_region (kl_as rfl (kl_nil (kq_code (kc_ret (kq_retP rfl rfl (congrArg Value.bool ?_)))))))))
   exact ck_end hgo (by omega) hi23
theorem chkBS_ok {Hmd : Hp} {vmd : Value} {Hmc : Hp} {vmc : Value} {Hobj : Hp} {vobj : Value} {Hp : Hp} {vp : Value} (m : Mod) (obj : List Int) (b : Int) (p : List (List Lit)) (hmd : Ints Hmd vmd m.doms) (hmc : Cons Hmc vmc m.cons) (hobj : Ints Hobj vobj obj) (hp : LRows Hp vp p) : SpecP Tryz.prog 16 [.agg #[vmd, vmc], vobj, .int .i64 b, vp] [Hmd, Hmc, Hobj, Hp] (.bool (chkB m obj b p)) := by
 refine spec_of Tryz.func16 rfl rfl rfl (fun B => ?_)
 refine kc_seq (kc_region (kl_box rfl rfl (fun p1 H2 f3 a4 => ?_)))
 refine kl_as rfl (kl_nil (kq_code (kc_seq (kc_seq (kc_region (kl_ldS rfl (by assumption) rfl ?_))))))
 refine kl_callP rfl rfl (svalidMod_ok m (by assumption) (by assumption)) ?_
 refine kl_not rfl (kl_mv rfl (kl_join 5 19 (.bool (!(validModB m) || !(objOkS m obj))) (pc 1 rfl (pc 2 rfl (pc 3 rfl (pc 4 rfl (pc 8 rfl (pc 14 rfl pn)))))) (fun J6 => ?_) ?_))
 ·rcases Bool.eq_false_or_eq_true (!(validModB m)) with g5 | g5
  ·skip
   refine kl_gF rfl rfl g5 (kl_gF rfl rfl g5 (kl_gF rfl rfl g5 (kl_gF rfl rfl g5 (kl_orT (!(objOkS m obj)) rfl rfl g5 ?_))))
   exact J6 _ (pc 19 rfl (pc 1 rfl (pc 2 rfl (pc 3 rfl (pc 4 rfl (pc 8 rfl (pc 14 rfl pn)))))))
  ·skip
   have g5p := g5
   try simp only [Bool.not_eq_true', Bool.not_eq_false', decide_eq_true_eq, decide_eq_false_iff_not, Bool.and_eq_true, Bool.or_eq_false_iff, withinB_iff] at g5p
   refine kl_gT rfl rfl g5 (kl_ldS rfl (by assumption) rfl ?_)
   refine kl_gT rfl rfl g5 (kl_mv rfl (kl_gT rfl rfl g5 (kl_callP rfl rfl (validObjective_ok m obj (by assumption) (by assumption) (by assumption)) ?_)))
   refine kl_gT rfl rfl g5 (kl_not rfl (kl_orF rfl rfl g5 ?_))
   exact J6 _ (pc 19 rfl (pc 1 rfl (pc 2 rfl (pc 3 rfl (pc 4 rfl (pc 8 rfl (pc 14 rfl pn)))))))
 refine kl_mv rfl (kl_join 4 24 (.bool ((!(validModB m) || !(objOkS m obj)) || !(withinB b (-998 : Int) (1000 : Int)))) (pc 1 rfl (pc 2 rfl (pc 3 rfl (pc 4 rfl (pc 8 rfl (pc 20 rfl pn)))))) (fun J8 => ?_) ?_)
 ·rcases Bool.eq_false_or_eq_true (!(validModB m) || !(objOkS m obj)) with g7 | g7
  ·skip
   refine kl_gF rfl rfl g7 (kl_gF rfl rfl g7 (kl_gF rfl rfl g7 (kl_orT (!(withinB b (-998 : Int) (1000 : Int))) rfl rfl g7 ?_)))
   exact J8 _ (pc 24 rfl (pc 1 rfl (pc 2 rfl (pc 3 rfl (pc 4 rfl (pc 8 rfl (pc 20 rfl pn)))))))
  ·skip
   have g7p := g7
   try simp only [Bool.not_eq_true', Bool.not_eq_false', decide_eq_true_eq, decide_eq_false_iff_not, Bool.and_eq_true, Bool.or_eq_false_iff, withinB_iff] at g7p
   refine kl_gT rfl rfl g7 (kl_mv rfl (kl_gT rfl rfl g7 (kl_callP rfl rfl (inRange_ok b (-998 : Int) (1000 : Int)) ?_)))
   refine kl_gT rfl rfl g7 (kl_not rfl (kl_orF rfl rfl g7 ?_))
   exact J8 _ (pc 24 rfl (pc 1 rfl (pc 2 rfl (pc 3 rfl (pc 4 rfl (pc 8 rfl (pc 20 rfl pn)))))))
 refine kl_nil (kq_code (kc_cond rfl (fun c9 => ?_) (fun c9 => ?_)))
 ·skip
  have c9r := c9
  try simp only [smpC, decide_eq_true_eq, decide_eq_false_iff_not] at c9
  have hgs := c9r
  rw [bd_cS] at hgs
  have hno := hgs
  refine kc_seq (kc_region (kl_as rfl (kl_nil (kq_code (kc_ret (kq_retP rfl rfl (congrArg Value.bool ?_)))))))
  first | (unfold chkB; rw [bd_no hno]; rfl) | (unfold chkB; rw [bd_yes hgo, ← e91, ← e92])
 ·skip
  have c9r := c9
  try simp only [smpC, decide_eq_true_eq, decide_eq_false_iff_not] at c9
  have hgs := c9r
  rw [bd_cS] at hgs
  have hgo := hgs
  have hok := bd_ok hgo
  refine kc_skipQ (kq_code (kc_seq (kc_region (kl_ldS rfl (by assumption) rfl ?_))))
  refine kl_mv rfl (kl_mv rfl (kl_call rfl rfl (improvS_ok m obj b hok.2.2.1 hok.2.2.2.1 hok.2.2.2.2 (by assumption) (by assumption) (by assumption)) (fun v10 H11 f12 h13 => ?_)))
  obtain ⟨z16, z21, u17, u18, rfl, h19, h20, h15⟩ := h13
  obtain ⟨e91, e92⟩ := pairOf h15
  refine kl_mv rfl (kl_xt rfl rfl (kl_xt rfl rfl (kl_alloc (cs := [.slice none 0 0, .slice none 0 0]) rfl (fun b22 hb23 => ?_))))
  refine kl_stW (us := [u17, u18]) rfl rfl rfl rfl (oc (Sl.oneCell (by assumption)) (oc (Sl.oneCell (by assumption)) oc_nil)) rfl ?_
  refine kl_chg [sing b22 (.cells [u17, u18].toArray 26 (0, 0))] rfl ?_
  refine kl_as rfl (kl_nil (kq_code (kc_seq (kc_region (kl_mv rfl (kl_mv rfl (kl_join 4 37 (.bool (z21 && (chkP z16 p))) (pc 8 rfl (pc 33 rfl pn)) (fun J25 => ?_) ?_)))))))
  ·rcases Bool.eq_false_or_eq_true z21 with g24 | g24
   ·skip
    have g24p := g24
    try simp only [Bool.not_eq_true', Bool.not_eq_false', decide_eq_true_eq, decide_eq_false_iff_not, Bool.and_eq_true, Bool.or_eq_false_iff, withinB_iff] at g24p
    refine kl_gT rfl rfl g24 (kl_ldW rfl rfl (kl_gT rfl rfl g24 (kl_mv rfl (kl_gT rfl rfl g24 (kl_callP rfl rfl (chkPS_ok z16 p (by assumption) (by assumption) (by assumption)) ?_)))))
    refine kl_andT rfl rfl g24 ?_
    exact J25 _ (pc 37 rfl (pc 8 rfl (pc 33 rfl pn)))
   ·skip
    refine kl_gF rfl rfl g24 (kl_gF rfl rfl g24 (kl_gF rfl rfl g24 (kl_andF (chkP z16 p) rfl rfl g24 ?_)))
    exact J25 _ (pc 37 rfl (pc 8 rfl (pc 33 rfl pn)))
  refine kl_as rfl (kl_nil (kq_code (kc_ret (kq_retP rfl rfl (congrArg Value.bool ?_)))))
  first | (unfold chkB; rw [bd_no hno]; rfl) | (unfold chkB; rw [bd_yes hgo, ← e91, ← e92])
theorem toLitSS_ok {Ha : Hp} {va : Value} (a : List (List Lit)) (hb : a.length ≤ 1048576) (hb2 : ∀ r ∈ a, r.length ≤ 1048576) (ha : LRows Ha va a) : Spec Tryz.prog 30 [va] [Ha] (fun Hq vq => LRows Hq vq a) := by
 refine spec_of Tryz.func30 rfl rfl rfl (fun B => ?_)
 refine kc_seq (kc_region (kl_as rfl (kl_nil (kq_code (kc_seq (kc_region (kl_mv rfl (kl_len rfl (by assumption) (fun l1 => ?_)))))))))
 refine kl_mkL (R := LRowV) ([] : List Lit) rfl rfl (by omega) (by decide) (by exact ⟨_, rfl, Sl.nil⟩) (fun v2 H3 f4 o5 => ?_)
 refine kl_as rfl (kl_nil (kq_code (kc_seq (kc_seq (kc_region (kl_as rfl (kl_nil (kq_code (kc_block (kc_loopK (A := Nat × Hp × Hp) (fun zz => (zz.1 ≤ a.length) ∧ Fr B zz.2.2 ∧ OwnL 73 1 zz.2.1 zz.2.2 LRowV v2 (a.take zz.1 ++ List.replicate (a.length - zz.1) ([] : List Lit)) ∧ Fr B zz.2.1) (fun zz => a.length - zz.1) (fun zz => zz.2.2) (fun zz => [zz.2.1]) (fun zz => [(4, .int .i64 (zz.1 : Int))]) (0, H3, noHp) (pc 0 rfl (pc 2 rfl (pc 3 rfl pn))) (pc 4 rfl pn) rfl ⟨Nat.zero_le _, (fr_no _), (OwnL.cast (by simp : (List.replicate a.length ([] : List Lit)) = (a.take 0 ++ List.replicate (a.length - 0) ([] : List Lit))) o5), f4⟩ ?_))))))))))
 rintro ⟨k, H8, K11⟩ hJ13
 obtain ⟨hk6, f12, o9, f10⟩ : (k ≤ a.length) ∧ Fr B K11 ∧ OwnL 73 1 H8 K11 LRowV v2 (a.take k ++ List.replicate (a.length - k) ([] : List Lit)) ∧ Fr B H8 := hJ13
 change KC _ _ (K11 :: _) [H8] _ ([(4, .int .i64 (k : Int))] ++ _)
 refine kc_seq (kc_seq (kc_region (kl_mv rfl (kl_mv rfl (kl_len rfl (by assumption) (fun l14 => ?_))))))
 refine kl_lss rfl rfl ?_
 refine kl_nil (kq_code (kc_if rfl (fun c15 => ?_) (fun c15 => ?_)))
 ·skip
  refine kc_skipQ (kq_code (kc_seq (kc_block (kc_region (kl_mv rfl (kl_mv rfl (kl_mv rfl (kl_mv rfl ?_))))))))
  refine kl_inS rfl rfl (by assumption) (by first | omega | (simp only [List.length_append, List.length_take, List.length_replicate]; omega)) (fun p16 u18 h19 a17 => ?_)
  refine kl_ld rfl (by assumption) (kl_call rfl rfl (toLitS_ok (a.getD k []) (hb2 _ (getD_mem (by omega))) (by assumption)) (fun v20 H21 f22 h23 => ?_))
  refine kl_ixLn rfl rfl (by assumption) (by first | omega | (simp only [List.length_append, List.length_take, List.length_replicate]; omega)) (fun p24 q25 => ?_)
  refine kl_cmp K11 H21 (fun c30 => ?_)
  have o31 := OwnL.mono (K' := orHp K11 H21) o9 orL
  refine kl_stL (a.getD k []) rfl rfl (by assumption) o31 (by first | omega | (simp only [List.length_append, List.length_take, List.length_replicate]; omega)) ⟨_, rfl, Sl.mono (by assumption) (orC c30) (fun _ _ h => h)⟩ (Sl.oneCell (by assumption)) (Sl.cells (by assumption)) (fun H26 o27 f28 => ?_)
  have f29 := f28 _ f10
  refine kl_nil (kq_code (kc_region (kl_mv rfl (kl_inc rfl rfl (by omega) ?_))))
  refine kl_as rfl (kl_nil (kq_roundK ((k + 1), H26, (orHp K11 H21)) (by omega) (⟨by omega, (fr_or f12 f22), (OwnL.cast (by exact fill_step ([] : List Lit) (by omega) : ((a.take k ++ List.replicate (a.length - k) ([] : List Lit)).set k (a.getD k [])) = (a.take (k + 1) ++ List.replicate (a.length - (k + 1)) ([] : List Lit))) o27), f29⟩) (pc 4 rfl pn) (pc 0 rfl (pc 2 rfl (pc 3 rfl pn))) rfl (List.Sublist.refl _)))
 ·skip
  refine kc_exit (kq_code (kc_seq (kc_region (kl_mv rfl (kl_as rfl (kl_nil (kq_code (kc_ret (kq_cmp H8 K11 (fun c32 => ?_))))))))))
  have e9 : (a.take k ++ List.replicate (a.length - k) ([] : List Lit)) = a := by exact fill_end (by omega)
  exact kq_ret rfl rfl (orHp H8 K11) (fr_or f10 f12) (e9 ▸ OwnL.lrowsK o9 c32)
theorem szLitSS_ok {Ha : Hp} {va : Value} (a : List (List Lit)) (left : Int) (hl : 0 ≤ left ∧ left ≤ 1048576) (ha : LRows Ha va a) : SpecP Tryz.prog 29 [va, .int .i64 left] [Ha] (.int .i64 (szB left ((a.length + lsum a : Nat) : Int))) := by
 refine spec_of Tryz.func29 rfl rfl rfl (fun B => ?_)
 refine kc_seq (kc_region (kl_as rfl (kl_nil (kq_code (kc_seq (kc_region (kl_mv rfl (kl_mv rfl (kl_len rfl (by assumption) (fun l1 => ?_))))))))))
 refine kl_sub rfl rfl (by omega) ?_
 refine kl_as rfl (kl_nil (kq_code (kc_seq (kc_seq (kc_region (kl_mv rfl (kl_lss rfl rfl ?_)))))))
 refine kl_nil (kq_code (kc_if rfl (fun c2 => ?_) (fun c2 => ?_)))
 ·skip
  refine kc_seq (kc_region (kl_as rfl (kl_nil (kq_code (kc_ret (kq_retP rfl rfl (congrArg (Value.int .i64) ?_)))))))
  exact szB_neg (by omega)
 ·skip
  refine kc_skipQ (kq_code (kc_seq (kc_seq (kc_region (kl_as rfl (kl_nil (kq_code (kc_block (kc_loop0 (A := Nat × Int) (fun zz => (zz.1 ≤ a.length) ∧ (0 ≤ zz.2 ∧ zz.2 = left - ((a.length + lsum (a.take zz.1) : Nat) : Int))) (fun zz => a.length - zz.1) (fun zz => [(5, .int .i64 (zz.1 : Int)), (1, .int .i64 zz.2)]) (0, (left - (a.length : Int))) (pc 0 rfl pn) (pc 5 rfl (pc 1 rfl pn)) ⟨Nat.zero_le _, ⟨by omega, by simp [lsum]⟩⟩ ?_)))))))))
  rintro ⟨k, l⟩ hJ5
  obtain ⟨hk3, hi4⟩ : (k ≤ a.length) ∧ (0 ≤ l ∧ l = left - ((a.length + lsum (a.take k) : Nat) : Int)) := hJ5
  change KC _ _ (_) _ _ ([(5, .int .i64 (k : Int)), (1, .int .i64 l)] ++ _)
  refine kc_seq (kc_seq (kc_region (kl_mv rfl (kl_mv rfl (kl_len rfl (by assumption) (fun l6 => ?_))))))
  refine kl_lss rfl rfl ?_
  refine kl_nil (kq_code (kc_if rfl (fun c7 => ?_) (fun c7 => ?_)))
  ·skip
   refine kc_skipQ (kq_code (kc_seq (kc_block (kc_seq (kc_region (kl_mv rfl (kl_mv rfl (kl_inS rfl rfl (by assumption) (by omega) (fun p8 u10 h11 a9 => ?_)))))))))
   refine kl_ld rfl (by assumption) (kl_mv rfl (kl_callP rfl rfl (szLitS_ok (a.getD k []) l (by first | assumption | omega) (by assumption)) ?_))
   refine kl_as rfl (kl_nil (kq_code (kc_seq (kc_region (kl_mv rfl (kl_lss rfl rfl ?_))))))
   refine kl_nil (kq_code (kc_if rfl (fun c12 => ?_) (fun c12 => ?_)))
   ·skip
    have hz := szB_lt c12
    refine kc_seq (kc_region (kl_as rfl (kl_nil (kq_code (kc_ret (kq_retP rfl rfl (congrArg (Value.int .i64) ?_)))))))
    have h1 := lsum_le a (k + 1); rw [lsum_step (by omega)] at h1; exact szB_neg (by omega)
   ·skip
    have hz := szB_ok c12
    refine kc_skipQ (kq_code (kc_region (kl_mv rfl (kl_inc rfl rfl (by omega) ?_))))
    refine kl_as rfl (kl_nil (kq_round0 ((k + 1), (szB l (a.getD k []).length)) (by omega) (⟨by omega, (by rw [lsum_step (by omega)]; omega)⟩) (pc 5 rfl (pc 1 rfl pn)) (pc 0 rfl pn) (List.Sublist.refl _)))
  ·skip
   refine kc_exit (kq_code (kc_seq (kc_region (kl_mv rfl (kl_as rfl (kl_nil (kq_code (kc_ret (kq_retP rfl rfl (congrArg (Value.int .i64) ?_))))))))))
   rw [List.take_of_length_le (by omega)] at *; exact szB_pos (by omega) (by omega)
theorem eqLiteralSS_ok {Ha : Hp} {va : Value} {Hb : Hp} {vb : Value} (a : List (List Lit)) (b : List (List Lit)) (ha : LRows Ha va a) (hb : LRows Hb vb b) : SpecP Tryz.prog 22 [va, vb] [Ha, Hb] (.bool (decide (a = b))) := by
 refine spec_of Tryz.func22 rfl rfl rfl (fun B => ?_)
 refine kc_seq (kc_region (kl_as rfl (kl_nil (kq_code (kc_seq (kc_seq (kc_region (kl_mv rfl (kl_len rfl (by assumption) (fun l1 => ?_))))))))))
 refine kl_mv rfl (kl_len rfl (by assumption) (fun l2 => ?_))
 refine kl_neq rfl rfl ?_
 refine kl_nil (kq_code (kc_if rfl (fun c3 => ?_) (fun c3 => ?_)))
 ·skip
  refine kc_seq (kc_region (kl_as rfl (kl_nil (kq_code (kc_ret (kq_retP rfl rfl (congrArg Value.bool ?_)))))))
  exact eq_len (by assumption)
 ·skip
  refine kc_skipQ (kq_code (kc_seq (kc_seq (kc_region (kl_as rfl (kl_nil (kq_code (kc_block (kc_loop0 (A := Nat) (fun zz => (zz ≤ a.length) ∧ (a.take zz = b.take zz)) (fun zz => a.length - zz) (fun zz => [(5, .int .i64 (zz : Int))]) (0) (pc 0 rfl (pc 1 rfl pn)) (pc 5 rfl pn) ⟨Nat.zero_le _, by simp⟩ ?_)))))))))
  rintro k hJ6
  obtain ⟨hk4, hi5⟩ : (k ≤ a.length) ∧ (a.take k = b.take k) := hJ6
  change KC _ _ (_) _ _ ([(5, .int .i64 (k : Int))] ++ _)
  refine kc_seq (kc_seq (kc_region (kl_mv rfl (kl_mv rfl (kl_len rfl (by assumption) (fun l7 => ?_))))))
  refine kl_lss rfl rfl ?_
  refine kl_nil (kq_code (kc_if rfl (fun c8 => ?_) (fun c8 => ?_)))
  ·skip
   refine kc_skipQ (kq_code (kc_seq (kc_block (kc_seq (kc_draw 10 [true, true, true, true, true, true, true, true, false, true] (by kernel_rfl) (by kernel_rfl) ?_)))))
   refine kl_mv rfl (kl_mv rfl (kl_inS rfl rfl (by assumption) (by omega) (fun p9 u11 h12 a10 => ?_)))
   refine kl_ld rfl (by assumption) (kl_mv rfl (kl_mv rfl (kl_inS rfl rfl (by assumption) (by omega) (fun p13 u15 h16 a14 => ?_))))
   refine kl_ld rfl (by assumption) (kl_callP rfl rfl (eqLiteralS_ok (a.getD k []) (b.getD k []) (by assumption) (by assumption)) ?_)
   refine kl_not rfl (kl_nil (kq_code (kc_cond rfl (fun c17 => ?_) (fun c17 => ?_))))
   ·skip
    have c17r := c17
    try simp only [smpC, decide_eq_true_eq, decide_eq_false_iff_not] at c17
    refine kc_seq (kc_region (kl_as rfl (kl_nil (kq_code (kc_ret (kq_retP rfl rfl (congrArg Value.bool ?_)))))))
    exact eq_at (k := k) ([] : List Lit) (by simpa using by assumption)
   ·skip
    have c17r := c17
    try simp only [smpC, decide_eq_true_eq, decide_eq_false_iff_not] at c17
    refine kc_skipQ (kq_code (kc_region (kl_mv rfl (kl_inc rfl rfl (by omega) ?_))))
    refine kl_as rfl (kl_nil (kq_round0 ((k + 1)) (by omega) (⟨by omega, eq_step ([] : List Lit) (by omega) (by omega) hi5 (by first | exact Decidable.not_not.1 (by assumption) | (simpa using by assumption))⟩) (pc 5 rfl pn) (pc 0 rfl (pc 1 rfl pn)) (List.Sublist.refl _)))
  ·skip
   refine kc_exit (kq_code (kc_seq (kc_region (kl_as rfl (kl_nil (kq_code (kc_ret (kq_retP rfl rfl (congrArg Value.bool ?_)))))))))
   exact eq_end (k := k) (by omega) (by omega) (by assumption)
theorem lawCb_ok {Hmd : Hp} {vmd : Value} {Hmc : Hp} {vmc : Value} {Hobj : Hp} {vobj : Value} {Hp : Hp} {vp : Value} (m : Mod) (obj : List Int) (b : Int) (p : List (List Lit)) (hmd : Ints Hmd vmd m.doms) (hmc : Cons Hmc vmc m.cons) (hobj : Ints Hobj vobj obj) (hp : LRows Hp vp p) : SpecP Tryz.prog 7 [.agg #[vmd, vmc], vobj, .int .i64 b, vp] [Hmd, Hmc, Hobj, Hp] (.bool true) := by
 refine spec_of Tryz.func7 rfl rfl rfl (fun B => ?_)
 refine kc_seq (kc_region (kl_box rfl rfl (fun p1 H2 f3 a4 => ?_)))
 refine kl_as rfl (kl_nil (kq_code (kc_seq (kc_seq (kc_region (kl_mv rfl (kl_len rfl (by assumption) (fun l5 => ?_))))))))
 refine kl_gtr rfl rfl ?_
 refine kl_nil (kq_code (kc_if rfl (fun c6 => ?_) (fun c6 => ?_)))
 ·skip
  refine kc_seq (kc_region (kl_as rfl (kl_nil (kq_code (kc_ret (kq_retP rfl rfl (congrArg Value.bool ?_)))))))
  first | rfl | (exfalso; simp at *; done)
 ·skip
  refine kc_skipQ (kq_code (kc_seq (kc_region (kl_as rfl (kl_nil (kq_code (kc_seq (kc_region (kl_ldS rfl (by assumption) rfl ?_)))))))))
  refine kl_mv rfl (kl_callP rfl rfl (szModel_ok m (1048576 : Int) (by omega) (by assumption) (by assumption)) ?_)
  refine kl_as rfl (kl_nil (kq_code (kc_seq (kc_seq (kc_region (kl_mv rfl (kl_lss rfl rfl ?_)))))))
  refine kl_nil (kq_code (kc_if rfl (fun c7 => ?_) (fun c7 => ?_)))
  ·skip
   refine kc_seq (kc_region (kl_as rfl (kl_nil (kq_code (kc_ret (kq_retP rfl rfl (congrArg Value.bool ?_)))))))
   first | rfl | (exfalso; simp at *; done)
  ·skip
   have hzc7 := szB_ok c7
   try have hs := small_of hzc7
   try have hrl : p.length ≤ 1048576 ∧ ∀ r ∈ p, r.length ≤ 1048576 := ⟨by omega, fun r hr => by have := lsum_mem hr; omega⟩
   refine kc_skipQ (kq_code (kc_seq (kc_region (kl_mv rfl (kl_mv rfl (kl_callP rfl rfl (szLitSS_ok p (szB (1048576 : Int) (modN m : Nat)) (by omega) (by assumption)) ?_))))))
   refine kl_as rfl (kl_nil (kq_code (kc_seq (kc_seq (kc_region (kl_mv rfl (kl_lss rfl rfl ?_)))))))
   refine kl_nil (kq_code (kc_if rfl (fun c8 => ?_) (fun c8 => ?_)))
   ·skip
    refine kc_seq (kc_region (kl_as rfl (kl_nil (kq_code (kc_ret (kq_retP rfl rfl (congrArg Value.bool ?_)))))))
    first | rfl | (exfalso; simp at *; done)
   ·skip
    have hzc8 := szB_ok c8
    try have hs := small_of hzc8
    try have hrl : p.length ≤ 1048576 ∧ ∀ r ∈ p, r.length ≤ 1048576 := ⟨by omega, fun r hr => by have := lsum_mem hr; omega⟩
    refine kc_skipQ (kq_code (kc_seq (kc_region (kl_ldS rfl (by assumption) rfl ?_))))
    refine kl_call rfl rfl (toModel_ok m hs (by assumption) (by assumption)) (fun v9 H10 f11 h12 => ?_)
    obtain ⟨u13, u14, rfl, h15, h16⟩ := h12
    refine kl_mv rfl (kl_call rfl rfl (toIntS_ok obj (by omega) (by assumption)) (fun v17 H18 f19 h20 => ?_))
    refine kl_mv rfl (kl_mv rfl (kl_call rfl rfl (toLitSS_ok p hrl.1 hrl.2 (by assumption)) (fun v21 H22 f23 h24 => ?_)))
    refine kl_callP rfl rfl (chkBS_ok m obj b p (by assumption) (by assumption) (by assumption) (by assumption)) ?_
    refine kl_as rfl (kl_nil (kq_code (kc_seq (kc_region (kl_ldS rfl (by assumption) rfl ?_)))))
    refine kl_call rfl rfl (toModel_ok m hs (by assumption) (by assumption)) (fun v25 H26 f27 h28 => ?_)
    obtain ⟨u29, u30, rfl, h31, h32⟩ := h28
    refine kl_alloc (cs := [.slice none 0 0, .slice none 0 0]) rfl (fun b33 hb34 => ?_)
    refine kl_stW (us := [u29, u30]) rfl rfl rfl rfl (oc (Sl.oneCell (by assumption)) (oc (Sl.oneCell (by assumption)) oc_nil)) rfl ?_
    refine kl_nil (kq_code (kc_seq (kc_region (kl_mv rfl (kl_call rfl rfl (toIntS_ok obj (by omega) (by assumption)) (fun v35 H36 f37 h38 => ?_))))))
    refine kl_as rfl (kl_nil (kq_code (kc_seq (kc_region (kl_mv rfl (kl_call rfl rfl (toLitSS_ok p hrl.1 hrl.2 (by assumption)) (fun v39 H40 f41 h42 => ?_)))))))
    refine kl_as rfl (kl_nil (kq_code (kc_seq (kc_region (kl_ldW rfl rfl (kl_mv rfl (kl_mv rfl (kl_mv rfl (kl_callP rfl rfl (chkBI_ok m obj b p (by assumption) (by assumption) (by assumption) (by assumption)) ?_)))))))))
    refine kl_as rfl (kl_nil (kq_code (kc_seq (kc_seq (kc_region (kl_mv rfl (kl_mv rfl (kl_bne rfl rfl ?_))))))))
    refine kl_nil (kq_code (kc_cond rfl (fun c43 => ?_) (fun c43 => ?_)))
    ·skip
     have c43r := c43
     try simp only [smpC, decide_eq_true_eq, decide_eq_false_iff_not] at c43
     refine kc_seq (kc_region (kl_as rfl (kl_nil (kq_code (kc_ret (kq_retP rfl rfl (congrArg Value.bool ?_)))))))
     first | rfl | (exfalso; simp at *; done)
    ·skip
     have c43r := c43
     try simp only [smpC, decide_eq_true_eq, decide_eq_false_iff_not] at c43
     refine kc_skipQ (kq_code (kc_seq (kc_seq (kc_draw 5 [true, true, false, false, true] (by kernel_rfl) (by kernel_rfl) ?_))))
     refine kl_ldW rfl rfl (kl_ldS rfl (by assumption) rfl ?_)
     refine kl_call rfl rfl (toModel_ok m hs (by assumption) (by assumption)) (fun v44 H45 f46 h47 => ?_)
     obtain ⟨u48, u49, rfl, h50, h51⟩ := h47
     refine kl_callP rfl rfl (eqModel_ok m m (by assumption) (by assumption) (by assumption) (by assumption)) ?_
     refine kl_not rfl (kl_nil (kq_code (kc_cond rfl (fun c52 => ?_) (fun c52 => ?_))))
     ·skip
      have c52r := c52
      try simp only [smpC, decide_eq_true_eq, decide_eq_false_iff_not] at c52
      refine kc_seq (kc_region (kl_as rfl (kl_nil (kq_code (kc_ret (kq_retP rfl rfl (congrArg Value.bool ?_)))))))
      first | rfl | (exfalso; simp at *; done)
     ·skip
      have c52r := c52
      try simp only [smpC, decide_eq_true_eq, decide_eq_false_iff_not] at c52
      refine kc_skipQ (kq_code (kc_seq (kc_seq (kc_region (kl_mv rfl (kl_mv rfl (kl_call rfl rfl (toIntS_ok obj (by omega) (by assumption)) (fun v53 H54 f55 h56 => ?_))))))))
      refine kl_callP rfl rfl (eqIntS_ok obj obj (by assumption) (by assumption)) ?_
      refine kl_not rfl (kl_nil (kq_code (kc_cond rfl (fun c57 => ?_) (fun c57 => ?_))))
      ·skip
       have c57r := c57
       try simp only [smpC, decide_eq_true_eq, decide_eq_false_iff_not] at c57
       refine kc_seq (kc_region (kl_as rfl (kl_nil (kq_code (kc_ret (kq_retP rfl rfl (congrArg Value.bool ?_)))))))
       first | rfl | (exfalso; simp at *; done)
      ·skip
       have c57r := c57
       try simp only [smpC, decide_eq_true_eq, decide_eq_false_iff_not] at c57
       refine kc_skipQ (kq_code (kc_seq (kc_seq (kc_region (kl_mv rfl (kl_mv rfl (kl_call rfl rfl (toLitSS_ok p hrl.1 hrl.2 (by assumption)) (fun v58 H59 f60 h61 => ?_))))))))
       refine kl_callP rfl rfl (eqLiteralSS_ok p p (by assumption) (by assumption)) ?_
       refine kl_not rfl (kl_nil (kq_code (kc_cond rfl (fun c62 => ?_) (fun c62 => ?_))))
       ·skip
        have c62r := c62
        try simp only [smpC, decide_eq_true_eq, decide_eq_false_iff_not] at c62
        refine kc_seq (kc_region (kl_as rfl (kl_nil (kq_code (kc_ret (kq_retP rfl rfl (congrArg Value.bool ?_)))))))
        first | rfl | (exfalso; simp at *; done)
       ·skip
        have c62r := c62
        try simp only [smpC, decide_eq_true_eq, decide_eq_false_iff_not] at c62
        refine kc_skipQ (kq_code (kc_seq (kc_region (kl_as rfl (kl_nil (kq_code (kc_ret (kq_retP rfl rfl (congrArg Value.bool ?_)))))))))
        first | rfl | (exfalso; simp at *; done)
end Go.Proofs.YtojinjdobjodaaaGreat
