/- Walks of functions of the program: each returns what the plain function gives. Conditions: those that each statement names. -/
import Derived.Test.YtiilanckbocifaaDoorTys
import Derived.Test.YtiilanckbocifaaDoorTab
namespace Go.Proofs.YtiilanckbocifaaDoor
open Go
set_option linter.unusedSimpArgs false
set_option linter.unusedVariables false
theorem tz64_ok {Ht : Hp} (x : Int) (hb : 1 ≤ x ∧ x < 16) (htab : At Ht (.pointer (some ⟨1, 0, none⟩)) tabV) : SpecP Tryd.prog 34 [.int .u64 x] [Ht] (.int .i64 (tzI x)) := by
 refine spec_of Tryd.func34 rfl rfl rfl (fun B => ?_)
 refine kc_seq (kc_region (kl_as rfl (kl_nil (kq_code (kc_seq (kc_seq (kc_region (kl_mv rfl (kl_eqlK rfl rfl ?_)))))))))
 refine kl_nil (kq_code (kc_if rfl (fun c1 => ?_) (fun c1 => ?_)))
 ·skip
  exfalso; omega
 ·skip
  refine kc_skipQ (kq_code (kc_seq (kc_region (kl_mv rfl (kl_mv rfl (kl_negK rfl ?_))))))
  refine kl_andK rfl rfl ?_
  refine kl_mulK rfl rfl ?_
  refine kl_shrK rfl rfl (by omega) ?_
  have h4 := tz_ix (x := x) hb.1 hb.2
  refine kl_ixT (i := tzIx x) rfl rfl htab h4.1 (fun p2 a3 => ?_)
  obtain ⟨r5, r5e⟩ := tab_at h4.1
  rw [r5e, h4.2.1] at a3
  refine kl_ld rfl (by assumption) (kl_cvi rfl (by omega) ?_)
  refine kl_as rfl (kl_nil (kq_code (kc_ret (kq_retP rfl rfl (congrArg (Value.int .i64) ?_)))))
  rfl
theorem tz_ok {Ht : Hp} (x : Int) (hb : 1 ≤ x ∧ x < 16) (htab : At Ht (.pointer (some ⟨1, 0, none⟩)) tabV) : SpecP Tryd.prog 13 [.int .u64 x] [Ht] (.int .i64 (tzI x)) := by
 refine spec_of Tryd.func13 rfl rfl rfl (fun B => ?_)
 refine kc_seq (kc_region (kl_as rfl (kl_nil (kq_code (kc_seq (kc_condF ?_))))))
 refine kc_skipQ (kq_code (kc_seq (kc_region (kl_mv rfl (kl_callP rfl rfl (tz64_ok x hb htab) ?_)))))
 refine kl_as rfl (kl_nil (kq_code (kc_ret (kq_retP rfl rfl (congrArg (Value.int .i64) ?_)))))
 rfl
end Go.Proofs.YtiilanckbocifaaDoor
