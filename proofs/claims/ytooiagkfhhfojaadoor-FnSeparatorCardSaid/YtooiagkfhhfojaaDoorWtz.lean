/- Walks of functions of the program: each returns what the plain function gives. Conditions: those that each statement names. -/
import Derived.Test.YtooiagkfhhfojaaDoorTys
import Derived.Test.YtooiagkfhhfojaaDoorTab
namespace Go.Proofs.YtooiagkfhhfojaaDoor
open Go
set_option linter.unusedSimpArgs false
set_option linter.unusedVariables false
theorem tz64_ok {Ht : Hp} (x : Int) (hb : 1 ≤ x ∧ x < 16) (htab : At Ht (.pointer (some ⟨1, 0, none⟩)) tabV) : SpecP Tryd.prog 55 [.int .u64 x] [Ht] (.int .i64 (tzI x)) := by
  refine spec_of Tryd.func55 rfl rfl rfl (fun B => ?_)
  refine kc_seq ?_
  refine kc_region ?_
  refine kl_as rfl ?_
  refine kl_nil ?_
  refine kq_code ?_
  refine kc_seq ?_
  refine kc_seq ?_
  refine kc_region ?_
  refine kl_mv rfl ?_
  refine kl_eqlK rfl rfl ?_
  refine kl_nil ?_
  refine kq_code ?_
  refine kc_if rfl (fun c1 => ?_) (fun c1 => ?_)
  · skip
    exfalso; omega
  · skip
    refine kc_skipQ ?_
    refine kq_code ?_
    refine kc_seq ?_
    refine kc_region ?_
    refine kl_mv rfl ?_
    refine kl_mv rfl ?_
    refine kl_negK rfl ?_
    refine kl_andK rfl rfl ?_
    refine kl_mulK rfl rfl ?_
    refine kl_shrK rfl rfl (by omega) ?_
    have h4 := tz_ix (x := x) hb.1 hb.2
    refine kl_ixT (i := tzIx x) rfl rfl htab h4.1 (fun p2 a3 => ?_)
    obtain ⟨r5, r5e⟩ := tab_at h4.1
    rw [r5e, h4.2.1] at a3
    refine kl_ld rfl (by assumption) ?_
    refine kl_cvi rfl (by omega) ?_
    refine kl_as rfl ?_
    refine kl_nil ?_
    refine kq_code ?_
    refine kc_ret ?_
    refine kq_retP rfl rfl (congrArg (Value.int .i64) ?_)
    rfl
theorem tz_ok {Ht : Hp} (x : Int) (hb : 1 ≤ x ∧ x < 16) (htab : At Ht (.pointer (some ⟨1, 0, none⟩)) tabV) : SpecP Tryd.prog 25 [.int .u64 x] [Ht] (.int .i64 (tzI x)) := by
  refine spec_of Tryd.func25 rfl rfl rfl (fun B => ?_)
  refine kc_seq ?_
  refine kc_region ?_
  refine kl_as rfl ?_
  refine kl_nil ?_
  refine kq_code ?_
  refine kc_seq ?_
  refine kc_condF ?_
  refine kc_skipQ ?_
  refine kq_code ?_
  refine kc_seq ?_
  refine kc_region ?_
  refine kl_mv rfl ?_
  refine kl_callP rfl rfl (tz64_ok x hb htab) ?_
  refine kl_as rfl ?_
  refine kl_nil ?_
  refine kq_code ?_
  refine kc_ret ?_
  refine kq_retP rfl rfl (congrArg (Value.int .i64) ?_)
  rfl
end Go.Proofs.YtooiagkfhhfojaaDoor
