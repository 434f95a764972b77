/- Walks of functions of the program: each returns what the plain function gives. Conditions: those that each statement names. -/
import Derived.Test.YtbcpoljdkopmoaaGreatDoorTys
import Derived.Test.YtbcpoljdkopmoaaGreatDoorTac
namespace Go.Proofs.YtbcpoljdkopmoaaGreatDoor
open Go
set_option linter.unusedSimpArgs false
set_option linter.unusedVariables false
theorem tz64o_ok {Ht : Hp} (x : Int) (hb : 1 ≤ x ∧ x < 64) (htab : At Ht (.pointer (some ⟨1, 0, none⟩)) tabV) : SpecP Tryz.prog 104 [.int .u64 x] [Ht] (.int .i64 (leastI x)) := by
 refine spec_of Tryz.func104 rfl rfl rfl (fun B => ?_)
 refine kc_seq (kc_region ?_)
 refine kl_as rfl ?_
 refine kl_nil (kq_code ?_)
 refine kc_seq ?_
 refine kc_seq (kc_region ?_)
 refine kl_mv rfl ?_
 refine kl_eqlK rfl rfl ?_
 refine kl_nil (kq_code ?_)
 refine kc_if rfl (fun c1 => ?_) (fun c1 => ?_)
 ·skip
  exfalso; omega
 ·skip
  refine kc_skipQ ?_
  refine kq_code ?_
  refine kc_seq (kc_region ?_)
  refine kl_mv rfl ?_
  refine kl_mv rfl ?_
  refine kl_negK rfl ?_
  refine kl_andK rfl rfl ?_
  refine kl_mulK rfl rfl ?_
  refine kl_shrK rfl rfl (by omega) ?_
  have h4 := tz_ixO (x := x) hb.1 hb.2
  refine kl_ixT (i := tzIx x) rfl rfl htab h4.1 (fun p2 a3 => ?_)
  obtain ⟨r5, r5e⟩ := tab_at h4.1
  rw [r5e, h4.2.1] at a3
  refine kl_ld rfl (by assumption) ?_
  refine kl_cvi rfl (by omega) ?_
  refine kl_as rfl ?_
  refine kl_nil (kq_code ?_)
  refine kc_ret ?_
  refine kq_retP rfl rfl (congrArg (Value.int .i64) ?_)
  rfl
theorem tzo_ok {Ht : Hp} (x : Int) (hb : 1 ≤ x ∧ x < 64) (htab : At Ht (.pointer (some ⟨1, 0, none⟩)) tabV) : SpecP Tryz.prog 86 [.int .u64 x] [Ht] (.int .i64 (leastI x)) := by
 refine spec_of Tryz.func86 rfl rfl rfl (fun B => ?_)
 refine kc_seq (kc_region ?_)
 refine kl_as rfl ?_
 refine kl_nil (kq_code ?_)
 refine kc_seq ?_
 refine kc_condF ?_
 refine kc_skipQ ?_
 refine kq_code ?_
 refine kc_seq (kc_region ?_)
 refine kl_mv rfl ?_
 refine kl_callP rfl rfl (tz64o_ok x hb htab) ?_
 refine kl_as rfl ?_
 refine kl_nil (kq_code ?_)
 refine kc_ret ?_
 refine kq_retP rfl rfl (congrArg (Value.int .i64) ?_)
 rfl
theorem len64_ok (x : Int) (hb : 1 ≤ x ∧ x < 64) : SpecP Tryz.prog 102 [.int .u64 x] [] (.int .i64 (mostI x + 1)) := by
 have hmo := most_in (x := x) ⟨hb.1, by omega⟩
 refine spec_of Tryz.func102 rfl rfl rfl (fun B => ?_)
 refine kc_seq (kc_region ?_)
 refine kl_as rfl ?_
 refine kl_nil (kq_code ?_)
 refine kc_seq ?_
 refine kc_seq (kc_region ?_)
 refine kl_mv rfl ?_
 refine kl_geqK rfl rfl ?_
 refine kl_nil (kq_code ?_)
 refine kc_if rfl (fun c1 => ?_) (fun c1 => ?_)
 ·skip
  exfalso; omega
 ·skip
  refine kc_skipQ ?_
  refine kq_code ?_
  refine kc_seq ?_
  refine kc_seq (kc_region ?_)
  refine kl_mv rfl ?_
  refine kl_geqK rfl rfl ?_
  refine kl_nil (kq_code ?_)
  refine kc_if rfl (fun c2 => ?_) (fun c2 => ?_)
  ·skip
   exfalso; omega
  ·skip
   refine kc_skipQ ?_
   refine kq_code ?_
   refine kc_seq ?_
   refine kc_seq (kc_region ?_)
   refine kl_mv rfl ?_
   refine kl_geqK rfl rfl ?_
   refine kl_nil (kq_code ?_)
   refine kc_if rfl (fun c3 => ?_) (fun c3 => ?_)
   ·skip
    exfalso; omega
   ·skip
    refine kc_skipQ ?_
    refine kq_code ?_
    refine kc_seq (kc_region ?_)
    refine kl_mv rfl ?_
    refine kl_mv rfl ?_
    refine kl_cv rfl ?_
    refine kl_ixLen (m := x) (by kernel_rfl) rfl hb ?_
    refine kl_cvi rfl (by omega) ?_
    refine kl_add rfl rfl (by omega) ?_
    refine kl_as rfl ?_
    refine kl_nil (kq_code ?_)
    refine kc_ret ?_
    refine kq_retP rfl rfl (congrArg (Value.int .i64) ?_)
    omega
theorem lenB_ok (x : Int) (hb : 1 ≤ x ∧ x < 64) : SpecP Tryz.prog 85 [.int .u64 x] [] (.int .i64 (mostI x + 1)) := by
 refine spec_of Tryz.func85 rfl rfl rfl (fun B => ?_)
 refine kc_seq (kc_region ?_)
 refine kl_as rfl ?_
 refine kl_nil (kq_code ?_)
 refine kc_seq ?_
 refine kc_condF ?_
 refine kc_skipQ ?_
 refine kq_code ?_
 refine kc_seq (kc_region ?_)
 refine kl_mv rfl ?_
 refine kl_callP rfl rfl (len64_ok x hb) ?_
 refine kl_as rfl ?_
 refine kl_nil (kq_code ?_)
 refine kc_ret ?_
 refine kq_retP rfl rfl (congrArg (Value.int .i64) ?_)
 rfl
theorem leastD_ok {Ht : Hp} (d : Int) (hb : 1 ≤ d ∧ d ≤ 63) (htab : At Ht (.pointer (some ⟨1, 0, none⟩)) tabV) : SpecP Tryz.prog 64 [.int .i64 d] [Ht] (.int .i64 (leastI d)) := by
 refine spec_of Tryz.func64 rfl rfl rfl (fun B => ?_)
 refine kc_seq (kc_region ?_)
 refine kl_as rfl ?_
 refine kl_nil (kq_code (kc_seq (kc_region ?_)))
 refine kl_mv rfl ?_
 refine kl_cvu rfl (by omega) ?_
 refine kl_callP rfl rfl (tzo_ok d ⟨by omega, by omega⟩ htab) ?_
 refine kl_as rfl ?_
 refine kl_nil (kq_code ?_)
 refine kc_ret ?_
 refine kq_retP rfl rfl (congrArg (Value.int .i64) ?_)
 rfl
theorem mostD_ok (d : Int) (hb : 1 ≤ d ∧ d ≤ 63) : SpecP Tryz.prog 63 [.int .i64 d] [] (.int .i64 (mostI d)) := by
 have hmo := most_in hb
 refine spec_of Tryz.func63 rfl rfl rfl (fun B => ?_)
 refine kc_seq (kc_region ?_)
 refine kl_as rfl ?_
 refine kl_nil (kq_code (kc_seq (kc_region ?_)))
 refine kl_mv rfl ?_
 refine kl_cvu rfl (by omega) ?_
 refine kl_callP rfl rfl (lenB_ok d ⟨by omega, by omega⟩) ?_
 refine kl_sub rfl rfl (by omega) ?_
 refine kl_as rfl ?_
 refine kl_nil (kq_code ?_)
 refine kc_ret ?_
 refine kq_retP rfl rfl (congrArg (Value.int .i64) ?_)
 omega
theorem lowest_ok {Hds : Hp} {vds : Value} {Hobj : Hp} {vobj : Value} {Ht : Hp} (ds : List Int) (obj : List Int) (hl : obj.length = ds.length) (h4 : ds.length ≤ 4) (hO : Coef obj) (hD : ∀ i, i < ds.length → 1 ≤ ds.getD i 0 ∧ ds.getD i 0 ≤ 63) (hds : Ints Hds vds ds) (hobj : Ints Hobj vobj obj) (htab : At Ht (.pointer (some ⟨1, 0, none⟩)) tabV) : SpecP Tryz.prog 32 [vds, vobj] [Hds, Hobj, Ht] (.int .i64 (lowT ds obj obj.length)) := by
 refine spec_of Tryz.func32 rfl rfl rfl (fun B => ?_)
 refine kc_seq (kc_region ?_)
 refine kl_as rfl ?_
 refine kl_nil (kq_code (kc_seq (kc_region ?_)))
 refine kl_as rfl ?_
 refine kl_nil (kq_code ?_)
 refine kc_seq ?_
 refine kc_seq (kc_region ?_)
 refine kl_mv rfl ?_
 refine kl_len rfl (by assumption) (fun l1 => ?_)
 refine kl_mv rfl ?_
 refine kl_nil (kq_code ?_)
 refine kc_block ?_
 refine kc_loop0 (A := Nat × Int) (fun zz => (zz.1 ≤ obj.length) ∧ (zz.2 = lowT ds obj zz.1)) (fun zz => obj.length - zz.1) (fun zz => [(10, .int .i64 (zz.1 : Int)), (5, .int .i64 zz.2)]) (0, (0 : Int)) (pc 0 rfl (pc 4 rfl (pc 8 rfl (pc 9 rfl pn)))) (pc 10 rfl (pc 5 rfl pn)) ⟨Nat.zero_le _, rfl⟩ ?_
 rintro ⟨k, s⟩ hJ4
 obtain ⟨hk2, hi3⟩ : (k ≤ obj.length) ∧ (s = lowT ds obj k) := hJ4
 change KC _ _ (_) _ _ ([(10, .int .i64 (k : Int)), (5, .int .i64 s)] ++ _)
 refine kc_seq (kc_region ?_)
 refine kl_lss rfl rfl ?_
 refine kl_nil (kq_code ?_)
 refine kc_seq ?_
 refine kc_if rfl (fun c5 => ?_) (fun c5 => ?_)
 ·skip
  have hdk := hD k (by omega)
  have hme := mul_ends hO (by omega : k < obj.length) hdk
  have hli := low_in hO hl hD k (by omega)
  rw [← hi3] at hli
  refine kc_skipQ ?_
  refine kq_code ?_
  refine kc_seq ?_
  refine kc_block ?_
  refine kc_seq (kc_region ?_)
  refine kl_mv rfl ?_
  refine kl_inI rfl rfl (by assumption) (by omega) (fun p6 a7 => ?_)
  refine kl_ld rfl (by assumption) ?_
  refine kl_as rfl ?_
  refine kl_as rfl ?_
  refine kl_nil (kq_code (kc_seq (kc_region ?_)))
  refine kl_mv rfl ?_
  refine kl_lss rfl rfl ?_
  refine kl_nil (kq_code ?_)
  refine kc_if rfl (fun c8 => ?_) (fun c8 => ?_)
  ·skip
   refine kc_region ?_
   refine kl_mv rfl ?_
   refine kl_mv rfl ?_
   refine kl_mv rfl ?_
   refine kl_mv rfl ?_
   refine kl_inI rfl rfl (by assumption) (by omega) (fun p9 a10 => ?_)
   refine kl_ld rfl (by assumption) ?_
   refine kl_callP rfl rfl (mostD_ok (ds.getD k 0) hdk) ?_
   refine kl_mul rfl rfl (by omega) ?_
   refine kl_add rfl rfl (by omega) ?_
   refine kl_as rfl ?_
   refine kl_nil (kq_code ?_)
   refine kc_region ?_
   refine kl_inc rfl rfl (by omega) ?_
   refine kl_mv rfl ?_
   refine kl_nil ?_
   refine kq_round0 ((k + 1), (s + ((obj.getD k 0) * (mostI (ds.getD k 0))))) (by omega) (⟨by omega, (by first | exact low_T hi3 (by assumption) | exact low_F hi3 (by assumption))⟩) (pc 10 rfl (pc 5 rfl pn)) (pc 0 rfl (pc 4 rfl (pc 8 rfl (pc 9 rfl pn)))) (List.Sublist.refl _)
  ·skip
   refine kc_region ?_
   refine kl_mv rfl ?_
   refine kl_mv rfl ?_
   refine kl_mv rfl ?_
   refine kl_mv rfl ?_
   refine kl_inI rfl rfl (by assumption) (by omega) (fun p11 a12 => ?_)
   refine kl_ld rfl (by assumption) ?_
   refine kl_callP rfl rfl (leastD_ok (ds.getD k 0) hdk htab) ?_
   refine kl_mul rfl rfl (by omega) ?_
   refine kl_add rfl rfl (by omega) ?_
   refine kl_as rfl ?_
   refine kl_nil (kq_code ?_)
   refine kc_region ?_
   refine kl_inc rfl rfl (by omega) ?_
   refine kl_mv rfl ?_
   refine kl_nil ?_
   refine kq_round0 ((k + 1), (s + ((obj.getD k 0) * (leastI (ds.getD k 0))))) (by omega) (⟨by omega, (by first | exact low_T hi3 (by assumption) | exact low_F hi3 (by assumption))⟩) (pc 10 rfl (pc 5 rfl pn)) (pc 0 rfl (pc 4 rfl (pc 8 rfl (pc 9 rfl pn)))) (List.Sublist.refl _)
 ·skip
  refine kc_exit ?_
  refine kq_code ?_
  refine kc_seq (kc_region ?_)
  refine kl_mv rfl ?_
  refine kl_as rfl ?_
  refine kl_nil (kq_code ?_)
  refine kc_ret ?_
  refine kq_retP rfl rfl (congrArg (Value.int .i64) ?_)
  rw [show obj.length = k from by omega]; exact hi3
end Go.Proofs.YtbcpoljdkopmoaaGreatDoor
