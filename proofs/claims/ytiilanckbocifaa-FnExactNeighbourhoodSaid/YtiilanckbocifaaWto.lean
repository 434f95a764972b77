/- Walks of functions of the program: each returns what the plain function gives. Conditions: those that each statement names. -/
import Derived.Test.YtiilanckbocifaaTys
import Derived.Test.YtiilanckbocifaaPure
namespace Go.Proofs.Ytiilanckbocifaa
open Go
set_option linter.unusedSimpArgs false
set_option linter.unusedVariables false
theorem toIntS_ok {Ha : Hp} {va : Value} (a : List Int) (hb : a.length ≤ 1048576) (ha : Ints Ha va a) : Spec Try.prog 14 [va] [Ha] (fun Hq vq => Ints Hq vq a) := by
 refine spec_of Try.func14 rfl rfl rfl (fun B => ?_)
 refine kc_seq (kc_region (kl_as rfl (kl_nil (kq_code (kc_seq (kc_region (kl_mv rfl (kl_len rfl (by assumption) (fun l1 => ?_)))))))))
 refine kl_mkL (R := IntV) (0 : Int) rfl rfl (by omega) (by decide) (by exact rfl) (fun v2 H3 f4 o5 => ?_)
 refine kl_as rfl (kl_nil (kq_code (kc_seq (kc_seq (kc_region (kl_as rfl (kl_nil (kq_code (kc_block (kc_loopL (A := Nat × Hp) (fun zz => (zz.1 ≤ a.length) ∧ OwnL 3 1 zz.2 noHp IntV v2 (a.take zz.1 ++ List.replicate (a.length - zz.1) (0 : Int)) ∧ Fr B zz.2) (fun zz => a.length - zz.1) (fun zz => [zz.2]) (fun zz => [(4, .int .i64 (zz.1 : Int))]) (0, H3) (pc 0 rfl (pc 2 rfl (pc 3 rfl pn))) (pc 4 rfl pn) rfl ⟨Nat.zero_le _, (OwnL.cast (by simp : (List.replicate a.length (0 : Int)) = (a.take 0 ++ List.replicate (a.length - 0) (0 : Int))) o5), f4⟩ ?_))))))))))
 rintro ⟨k, H8⟩ hJ11
 obtain ⟨hk6, o9, f10⟩ : (k ≤ a.length) ∧ OwnL 3 1 H8 noHp IntV v2 (a.take k ++ List.replicate (a.length - k) (0 : Int)) ∧ Fr B H8 := hJ11
 change KC _ _ (_) [H8] _ ([(4, .int .i64 (k : Int))] ++ _)
 refine kc_seq (kc_seq (kc_region (kl_mv rfl (kl_mv rfl (kl_len rfl (by assumption) (fun l12 => ?_))))))
 refine kl_lss rfl rfl ?_
 refine kl_nil (kq_code (kc_if rfl (fun c13 => ?_) (fun c13 => ?_)))
 ·skip
  refine kc_skipQ (kq_code (kc_seq (kc_block (kc_region (kl_mv rfl (kl_mv rfl (kl_mv rfl (kl_mv rfl ?_))))))))
  refine kl_inI rfl rfl (by assumption) (by first | omega | (simp only [List.length_append, List.length_take, List.length_replicate]; omega)) (fun p14 a15 => ?_)
  refine kl_ld rfl (by assumption) (kl_ixLn rfl rfl (by assumption) (by first | omega | (simp only [List.length_append, List.length_take, List.length_replicate]; omega)) (fun p16 q17 => ?_))
  refine kl_stL (a.getD k 0) rfl rfl (by assumption) o9 (by first | omega | (simp only [List.length_append, List.length_take, List.length_replicate]; omega)) rfl rfl rfl (fun H18 o19 f20 => ?_)
  have f21 := f20 _ f10
  refine kl_nil (kq_code (kc_region (kl_mv rfl (kl_inc rfl rfl (by omega) ?_))))
  refine kl_as rfl (kl_nil (kq_roundL ((k + 1), H18) (by omega) (⟨by omega, (OwnL.cast (by exact fill_step (0 : Int) (by omega) : ((a.take k ++ List.replicate (a.length - k) (0 : Int)).set k (a.getD k 0)) = (a.take (k + 1) ++ List.replicate (a.length - (k + 1)) (0 : Int))) o19), f21⟩) (pc 4 rfl pn) (pc 0 rfl (pc 2 rfl (pc 3 rfl pn))) rfl (List.Sublist.refl _)))
 ·skip
  refine kc_exit (kq_code (kc_seq (kc_region (kl_mv rfl (kl_as rfl (kl_nil (kq_code (kc_ret ?_))))))))
  have e9 : (a.take k ++ List.replicate (a.length - k) (0 : Int)) = a := by exact fill_end (by omega)
  exact kq_ret rfl rfl H8 f10 (e9 ▸ OwnL.ints o9)
theorem toIntSS_ok {Ha : Hp} {va : Value} (a : List (List Int)) (hb : a.length ≤ 1048576) (hb2 : ∀ r ∈ a, r.length ≤ 1048576) (ha : Rows Ha va a) : Spec Try.prog 107 [va] [Ha] (fun Hq vq => Rows Hq vq a) := by
 refine spec_of Try.func107 rfl rfl rfl (fun B => ?_)
 refine kc_seq (kc_region (kl_as rfl (kl_nil (kq_code (kc_seq (kc_region (kl_mv rfl (kl_len rfl (by assumption) (fun l1 => ?_)))))))))
 refine kl_mkL (R := RowV) ([] : List Int) rfl rfl (by omega) (by decide) (by exact ⟨_, rfl, Sl.nil⟩) (fun v2 H3 f4 o5 => ?_)
 refine kl_as rfl (kl_nil (kq_code (kc_seq (kc_seq (kc_region (kl_as rfl (kl_nil (kq_code (kc_block (kc_loopK (A := Nat × Hp × Hp) (fun zz => (zz.1 ≤ a.length) ∧ Fr B zz.2.2 ∧ OwnL 23 1 zz.2.1 zz.2.2 RowV v2 (a.take zz.1 ++ List.replicate (a.length - zz.1) ([] : List Int)) ∧ Fr B zz.2.1) (fun zz => a.length - zz.1) (fun zz => zz.2.2) (fun zz => [zz.2.1]) (fun zz => [(4, .int .i64 (zz.1 : Int))]) (0, H3, noHp) (pc 0 rfl (pc 2 rfl (pc 3 rfl pn))) (pc 4 rfl pn) rfl ⟨Nat.zero_le _, (fr_no _), (OwnL.cast (by simp : (List.replicate a.length ([] : List Int)) = (a.take 0 ++ List.replicate (a.length - 0) ([] : List Int))) o5), f4⟩ ?_))))))))))
 rintro ⟨k, H8, K11⟩ hJ13
 obtain ⟨hk6, f12, o9, f10⟩ : (k ≤ a.length) ∧ Fr B K11 ∧ OwnL 23 1 H8 K11 RowV v2 (a.take k ++ List.replicate (a.length - k) ([] : List Int)) ∧ Fr B H8 := hJ13
 change KC _ _ (K11 :: _) [H8] _ ([(4, .int .i64 (k : Int))] ++ _)
 refine kc_seq (kc_seq (kc_region (kl_mv rfl (kl_mv rfl (kl_len rfl (by assumption) (fun l14 => ?_))))))
 refine kl_lss rfl rfl ?_
 refine kl_nil (kq_code (kc_if rfl (fun c15 => ?_) (fun c15 => ?_)))
 ·skip
  refine kc_skipQ (kq_code (kc_seq (kc_block (kc_region (kl_mv rfl (kl_mv rfl (kl_mv rfl (kl_mv rfl ?_))))))))
  refine kl_inS rfl rfl (by assumption) (by first | omega | (simp only [List.length_append, List.length_take, List.length_replicate]; omega)) (fun p16 u18 h19 a17 => ?_)
  refine kl_ld rfl (by assumption) (kl_call rfl rfl (toIntS_ok (a.getD k []) (hb2 _ (getD_mem (by omega))) (by assumption)) (fun v20 H21 f22 h23 => ?_))
  refine kl_ixLn rfl rfl (by assumption) (by first | omega | (simp only [List.length_append, List.length_take, List.length_replicate]; omega)) (fun p24 q25 => ?_)
  refine kl_cmp K11 H21 (fun c30 => ?_)
  have o31 := OwnL.mono (K' := orHp K11 H21) o9 orL
  refine kl_stL (a.getD k []) rfl rfl (by assumption) o31 (by first | omega | (simp only [List.length_append, List.length_take, List.length_replicate]; omega)) ⟨_, rfl, Sl.mono (by assumption) (orC c30) (fun _ _ h => h)⟩ (Sl.oneCell (by assumption)) (Sl.cells (by assumption)) (fun H26 o27 f28 => ?_)
  have f29 := f28 _ f10
  refine kl_nil (kq_code (kc_region (kl_mv rfl (kl_inc rfl rfl (by omega) ?_))))
  refine kl_as rfl (kl_nil (kq_roundK ((k + 1), H26, (orHp K11 H21)) (by omega) (⟨by omega, (fr_or f12 f22), (OwnL.cast (by exact fill_step ([] : List Int) (by omega) : ((a.take k ++ List.replicate (a.length - k) ([] : List Int)).set k (a.getD k [])) = (a.take (k + 1) ++ List.replicate (a.length - (k + 1)) ([] : List Int))) o27), f29⟩) (pc 4 rfl pn) (pc 0 rfl (pc 2 rfl (pc 3 rfl pn))) rfl (List.Sublist.refl _)))
 ·skip
  refine kc_exit (kq_code (kc_seq (kc_region (kl_mv rfl (kl_as rfl (kl_nil (kq_code (kc_ret (kq_cmp H8 K11 (fun c32 => ?_))))))))))
  have e9 : (a.take k ++ List.replicate (a.length - k) ([] : List Int)) = a := by exact fill_end (by omega)
  exact kq_ret rfl rfl (orHp H8 K11) (fr_or f10 f12) (e9 ▸ OwnL.rowsK o9 c32)
theorem toConstraint_ok {Hcv : Hp} {vcv : Value} {Hca : Hp} {vca : Value} {Hcr : Hp} {vcr : Value} (c : Con) (hs : SmallC c) (hcv : Ints Hcv vcv c.vars) (hca : Ints Hca vca c.args) (hcr : Rows Hcr vcr c.rows) : Spec Try.prog 78 [.agg #[.int .i64 c.kind, vcv, vca, .int .i64 c.bound, vcr]] [Hcv, Hca, Hcr] (fun Hq vq => ConR Hq vq c) := by
 refine spec_of Try.func78 rfl rfl rfl (fun B => ?_)
 refine kc_seq (kc_region (kl_box rfl rfl (fun p1 H2 f3 a4 => ?_)))
 refine kl_alloc (cs := [.int .i64 (0 : Int), .slice none 0 0, .slice none 0 0, .int .i64 (0 : Int), .slice none 0 0]) rfl (fun b5 hb6 => ?_)
 refine kl_nil (kq_code (kc_seq (kc_region (kl_alloc (cs := [.int .i64 (0 : Int), .slice none 0 0, .slice none 0 0, .int .i64 (0 : Int), .slice none 0 0]) rfl (fun b7 hb8 => ?_)))))
 refine kl_nil (kq_code (kc_seq (kc_region (kl_fd rfl (by assumption) (fun p9 a10 => ?_)))))
 refine kl_ld rfl (by assumption) (kl_fdV rfl (kl_stB rfl rfl rfl rfl rfl ?_))
 refine kl_nil (kq_code (kc_seq (kc_region (kl_fd rfl (by assumption) (fun p11 a12 => ?_)))))
 refine kl_ld rfl (by assumption) (kl_call rfl rfl (toIntS_ok c.vars hs.vars (by assumption)) (fun v13 H14 f15 h16 => ?_))
 refine kl_fdV rfl (kl_stB rfl rfl rfl (Sl.oneCell (by assumption)) (Sl.cells (by assumption)) ?_)
 refine kl_nil (kq_code (kc_seq (kc_region (kl_fd rfl (by assumption) (fun p17 a18 => ?_)))))
 refine kl_ld rfl (by assumption) (kl_call rfl rfl (toIntS_ok c.args hs.args (by assumption)) (fun v19 H20 f21 h22 => ?_))
 refine kl_fdV rfl (kl_stB rfl rfl rfl (Sl.oneCell (by assumption)) (Sl.cells (by assumption)) ?_)
 refine kl_nil (kq_code (kc_seq (kc_region (kl_fd rfl (by assumption) (fun p23 a24 => ?_)))))
 refine kl_ld rfl (by assumption) (kl_fdV rfl (kl_stB rfl rfl rfl rfl rfl ?_))
 refine kl_nil (kq_code (kc_seq (kc_region (kl_fd rfl (by assumption) (fun p25 a26 => ?_)))))
 refine kl_ld rfl (by assumption) (kl_call rfl rfl (toIntSS_ok c.rows hs.rows hs.row (by assumption)) (fun v27 H28 f29 h30 => ?_))
 refine kl_fdV rfl (kl_stB rfl rfl rfl (Sl.oneCell (by assumption)) (Sl.cells (by assumption)) ?_)
 refine kl_nil (kq_code (kc_seq (kc_region (kl_ldW rfl rfl (kl_stW (us := [.int .i64 c.kind, v13, v19, .int .i64 c.bound, v27]) rfl rfl rfl rfl (oc rfl (oc (Sl.oneCell (by assumption)) (oc (Sl.oneCell (by assumption)) (oc rfl (oc (Sl.oneCell (by assumption)) oc_nil))))) rfl ?_)))))
 refine kl_nil (kq_code (kc_ret (kq_cmp H14 (orHp H20 H28) (fun c31 => ?_))))
 refine kq_cmp H20 H28 (fun c32 => ?_)
 exact kq_retC rfl rfl rfl (orHp H14 (orHp H20 H28)) (fr_or f15 (fr_or f21 f29)) ⟨_, rfl, _, _, _, rfl, Sl.mono (by assumption) orL (fun _ _ h => h), Sl.mono (by assumption) (fun b o h => orC c31 b o (orL b o h)) (fun _ _ h => h), Rows.mono' (by assumption) (fun b o h => orC c31 b o (orC c32 b o h))⟩
theorem toConstraintS_ok {Ha : Hp} {va : Value} (a : List Con) (hb : a.length ≤ 1048576) (hb2 : ∀ c ∈ a, SmallC c) (ha : Cons Ha va a) : Spec Try.prog 45 [va] [Ha] (fun Hq vq => Cons Hq vq a) := by
 refine spec_of Try.func45 rfl rfl rfl (fun B => ?_)
 refine kc_seq (kc_region (kl_as rfl (kl_nil (kq_code (kc_seq (kc_region (kl_mv rfl (kl_len rfl (by assumption) (fun l1 => ?_)))))))))
 refine kl_mkL (R := ConV) nilCon rfl rfl (by omega) (by decide) (by exact ⟨_, _, _, rfl, Sl.nil, Sl.nil, Sl.nil⟩) (fun v2 H3 f4 o5 => ?_)
 refine kl_as rfl (kl_nil (kq_code (kc_seq (kc_seq (kc_region (kl_as rfl (kl_nil (kq_code (kc_block (kc_loopK (A := Nat × Hp × Hp) (fun zz => (zz.1 ≤ a.length) ∧ Fr B zz.2.2 ∧ OwnL 53 5 zz.2.1 zz.2.2 ConV v2 (a.take zz.1 ++ List.replicate (a.length - zz.1) nilCon) ∧ Fr B zz.2.1) (fun zz => a.length - zz.1) (fun zz => zz.2.2) (fun zz => [zz.2.1]) (fun zz => [(4, .int .i64 (zz.1 : Int))]) (0, H3, noHp) (pc 0 rfl (pc 2 rfl (pc 3 rfl pn))) (pc 4 rfl pn) rfl ⟨Nat.zero_le _, (fr_no _), (OwnL.cast (by simp : (List.replicate a.length nilCon) = (a.take 0 ++ List.replicate (a.length - 0) nilCon)) o5), f4⟩ ?_))))))))))
 rintro ⟨k, H8, K11⟩ hJ13
 obtain ⟨hk6, f12, o9, f10⟩ : (k ≤ a.length) ∧ Fr B K11 ∧ OwnL 53 5 H8 K11 ConV v2 (a.take k ++ List.replicate (a.length - k) nilCon) ∧ Fr B H8 := hJ13
 change KC _ _ (K11 :: _) [H8] _ ([(4, .int .i64 (k : Int))] ++ _)
 refine kc_seq (kc_seq (kc_region (kl_mv rfl (kl_mv rfl (kl_len rfl (by assumption) (fun l14 => ?_))))))
 refine kl_lss rfl rfl ?_
 refine kl_nil (kq_code (kc_if rfl (fun c15 => ?_) (fun c15 => ?_)))
 ·skip
  refine kc_skipQ (kq_code (kc_seq (kc_block (kc_region (kl_mv rfl (kl_mv rfl (kl_mv rfl (kl_mv rfl ?_))))))))
  refine kl_inC rfl rfl (by assumption) (by first | omega | (simp only [List.length_append, List.length_take, List.length_replicate]; omega)) (fun p16 u18 u19 u20 h21 h22 h23 a17 => ?_)
  refine kl_ldS rfl (by assumption) rfl ?_
  refine kl_call rfl rfl (toConstraint_ok (a.getD k nilCon) (hb2 _ (getD_mem (by omega))) (by assumption) (by assumption) (by assumption)) (fun v24 H25 f26 h27 => ?_)
  obtain ⟨_, rfl, h31⟩ := h27
  have h31' := h31
  obtain ⟨u28, u29, u30, rfl, h32, h33, h34⟩ := h31
  refine kl_ixLn rfl rfl (by assumption) (by first | omega | (simp only [List.length_append, List.length_take, List.length_replicate]; omega)) (fun p35 q36 => ?_)
  refine kl_cmp K11 H25 (fun c41 => ?_)
  have o42 := OwnL.mono (K' := orHp K11 H25) o9 orL
  refine kl_stLk (us := [.int .i64 ((a.getD k nilCon).kind), u28, u29, .int .i64 ((a.getD k nilCon).bound), u30]) (a.getD k nilCon) rfl rfl (by assumption) o42 (by first | omega | (simp only [List.length_append, List.length_take, List.length_replicate]; omega)) (RMono.mono (orC c41) (by assumption)) rfl (oc rfl (oc (Sl.oneCell (by assumption)) (oc (Sl.oneCell (by assumption)) (oc rfl (oc (Sl.oneCell (by assumption)) oc_nil))))) rfl (fun H37 o38 f39 => ?_)
  have f40 := f39 _ f10
  refine kl_nil (kq_code (kc_region (kl_mv rfl (kl_inc rfl rfl (by omega) ?_))))
  refine kl_as rfl (kl_nil (kq_roundK ((k + 1), H37, (orHp K11 H25)) (by omega) (⟨by omega, (fr_or f12 f26), (OwnL.cast (by exact fill_step nilCon (by omega) : ((a.take k ++ List.replicate (a.length - k) nilCon).set k (a.getD k nilCon)) = (a.take (k + 1) ++ List.replicate (a.length - (k + 1)) nilCon)) o38), f40⟩) (pc 4 rfl pn) (pc 0 rfl (pc 2 rfl (pc 3 rfl pn))) rfl (List.Sublist.refl _)))
 ·skip
  refine kc_exit (kq_code (kc_seq (kc_region (kl_mv rfl (kl_as rfl (kl_nil (kq_code (kc_ret (kq_cmp H8 K11 (fun c43 => ?_))))))))))
  have e9 : (a.take k ++ List.replicate (a.length - k) nilCon) = a := by exact fill_end (by omega)
  exact kq_ret rfl rfl (orHp H8 K11) (fr_or f10 f12) (e9 ▸ OwnL.consK o9 c43)
theorem toModel_ok {Hmd : Hp} {vmd : Value} {Hmc : Hp} {vmc : Value} (m : Mod) (hs : SmallM m) (hmd : Ints Hmd vmd m.doms) (hmc : Cons Hmc vmc m.cons) : Spec Try.prog 13 [.agg #[vmd, vmc]] [Hmd, Hmc] (fun Hq vq => ModR Hq vq m) := by
 refine spec_of Try.func13 rfl rfl rfl (fun B => ?_)
 refine kc_seq (kc_region (kl_box rfl rfl (fun p1 H2 f3 a4 => ?_)))
 refine kl_alloc (cs := [.slice none 0 0, .slice none 0 0]) rfl (fun b5 hb6 => ?_)
 refine kl_nil (kq_code (kc_seq (kc_region (kl_alloc (cs := [.slice none 0 0, .slice none 0 0]) rfl (fun b7 hb8 => ?_)))))
 refine kl_nil (kq_code (kc_seq (kc_region (kl_fd rfl (by assumption) (fun p9 a10 => ?_)))))
 refine kl_ld rfl (by assumption) (kl_call rfl rfl (toIntS_ok m.doms hs.doms (by assumption)) (fun v11 H12 f13 h14 => ?_))
 refine kl_fdV rfl (kl_stB rfl rfl rfl (Sl.oneCell (by assumption)) (Sl.cells (by assumption)) ?_)
 refine kl_nil (kq_code (kc_seq (kc_region (kl_fd rfl (by assumption) (fun p15 a16 => ?_)))))
 refine kl_ld rfl (by assumption) (kl_call rfl rfl (toConstraintS_ok m.cons hs.cons hs.con (by assumption)) (fun v17 H18 f19 h20 => ?_))
 refine kl_fdV rfl (kl_stB rfl rfl rfl (Sl.oneCell (by assumption)) (Sl.cells (by assumption)) ?_)
 refine kl_nil (kq_code (kc_seq (kc_region (kl_ldW rfl rfl (kl_stW (us := [v11, v17]) rfl rfl rfl rfl (oc (Sl.oneCell (by assumption)) (oc (Sl.oneCell (by assumption)) oc_nil)) rfl ?_)))))
 refine kl_nil (kq_code (kc_ret (kq_cmp H12 H18 (fun c21 => ?_))))
 exact kq_retC rfl rfl rfl (orHp H12 H18) (fr_or f13 f19) ⟨_, _, rfl, Sl.mono (by assumption) orL (fun _ _ h => h), Cons.mono' (by assumption) (orC c21)⟩
end Go.Proofs.Ytiilanckbocifaa
