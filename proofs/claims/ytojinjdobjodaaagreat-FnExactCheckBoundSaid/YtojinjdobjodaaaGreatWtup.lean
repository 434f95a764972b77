/- The iterator over all tuples of values: it yields them in order. Conditions: none. -/
import Derived.Test.YtojinjdobjodaaaGreatItr
import Derived.Test.YtojinjdobjodaaaGreatWsat
namespace Go.Proofs.YtojinjdobjodaaaGreat
open Go
set_option linter.unusedSimpArgs false
set_option linter.unusedVariables false
abbrev tupSt (k : Nat) : Prop := ∀ {l : Nat} {J : Nat → (Nat → Prop) → World → Prop} {Jx : (Nat → Prop) → World → Prop} (hJ : ∀ n, JK (J n)) (hJx : JK Jx) {xs : List (List Int)} {H1 Hd Kr Hx : Hp} {b0 : Nat} {pd py pf vd vx : Value} (ds x : List Int) (n : Nat) (hd : ∀ d ∈ ds, (0 : Int) ≤ d ∧ d ≤ 63) (hl : ds.length ≤ 1048576) (hk : x.length + k = ds.length)
    (hxs : ∀ q, q < (tupL (ds.drop x.length)).length → xs.getD (n + q) [] = x ++ (tupL (ds.drop x.length)).getD q []) (hlen : n + (tupL (ds.drop x.length)).length ≤ xs.length) (hR : Rounds Tryz.prog l [H1, Hd] xs J Jx) (a1 : At H1 pd [vd]) (hdd : Ints Hd vd ds) (a2 : At Kr py [.func (.yield l) #[] #[]]) (a3 : At Kr pf [.func (.func 140) #[] #[.pointer (some ⟨b0, 0, none⟩), pd, py, pf]]) (ho : OwnL 3 1 Hx noHp IntV vx x),
    SpecJ Tryz.prog 140 [.pointer (some ⟨b0, 0, none⟩), pd, py, pf] Kr [H1, Hd] [sing b0 (.cells [vx].toArray 23 (0, 0)), Hx] (J n) (fun vq L1 j => (vq = .bool true ∧ j = J (n + (tupL (ds.drop x.length)).length) ∧ ∃ (vx2 : Value) (Hx2 : Hp), L1 = [sing b0 (.cells [vx2].toArray 23 (0, 0)), Hx2] ∧ OwnL 3 1 Hx2 noHp IntV vx2 x) ∨ (vq = .bool false ∧ j = Jx ∧ L1 = []))

theorem tup_next {ds x : List Int} {xs : List (List Int)} {n i : Nat} (hxs : ∀ q, q < (tupL (ds.drop x.length)).length → xs.getD (n + q) [] = x ++ (tupL (ds.drop x.length)).getD q []) (hk : x.length < ds.length) (hi : i < (valsI (ds.getD x.length 0)).length) {q : Nat} (hq : q < (tupL (ds.drop (x.length + 1))).length) :
    xs.getD (n + (tupL (ds.drop (x.length + 1))).length * i + q) [] = (x ++ [(valsI (ds.getD x.length 0)).getD i 0]) ++ (tupL (ds.drop (x ++ [(valsI (ds.getD x.length 0)).getD i 0]).length)).getD q [] := by
  have e : ds.drop x.length = ds.getD x.length 0 :: ds.drop (x.length + 1) := by
    rw [List.drop_eq_getElem_cons hk]; congr 1; simp [List.getD_eq_getElem?_getD, hk]
  have h := hxs ((tupL (ds.drop (x.length + 1))).length * i + q) (by
    rw [e, tup_len]
    have : (tupL (ds.drop (x.length + 1))).length * (i + 1) ≤ (tupL (ds.drop (x.length + 1))).length * (valsI (ds.getD x.length 0)).length := Nat.mul_le_mul_left _ hi
    rw [Nat.mul_succ] at this
    omega)
  rw [Nat.add_assoc, h, e, tup_at _ _ hi hq]
  simp
theorem tup_room {ds x : List Int} {n N : Nat} (h : n + (tupL (ds.drop x.length)).length ≤ N) (hk : x.length < ds.length) {k : Nat} (hi : k < (valsI (ds.getD x.length 0)).length) : n + (tupL (ds.drop (x.length + 1))).length * k + (tupL (ds.drop (x.length + 1))).length ≤ N := by
  have e : ds.drop x.length = ds.getD x.length 0 :: ds.drop (x.length + 1) := by
    rw [List.drop_eq_getElem_cons hk]; congr 1; simp [List.getD_eq_getElem?_getD, hk]
  rw [e, tup_len] at h
  have : (tupL (ds.drop (x.length + 1))).length * (k + 1) ≤ (tupL (ds.drop (x.length + 1))).length * (valsI (ds.getD x.length 0)).length := Nat.mul_le_mul_left _ hi
  rw [Nat.mul_succ] at this
  omega
theorem tup_all {ds x : List Int} (hk : x.length < ds.length) {k : Nat} (hi : k = (valsI (ds.getD x.length 0)).length) : (tupL (ds.drop x.length)).length = (tupL (ds.drop (x.length + 1))).length * k := by
  have e : ds.drop x.length = ds.getD x.length 0 :: ds.drop (x.length + 1) := by
    rw [List.drop_eq_getElem_cons hk]; congr 1; simp [List.getD_eq_getElem?_getD, hk]
  rw [e, tup_len, hi]
theorem tup_step (k : Nat) (ih : ∀ j, j < k → tupSt j) : tupSt k := by
  intro l J Jx hJ hJx xs H1 Hd Kr Hx b0 pd py pf vd vx ds x n hd hl hk hxs hlen hR a1 hdd a2 a3 ho
  have hol := OwnL.ints ho
  refine specJ_of (hJ n) Tryz.func140 rfl rfl rfl (fun B => ?_)
  refine kc_seq ?_
  refine kc_region ?_
  refine kl_as rfl ?_
  refine kl_nil ?_
  refine kq_code ?_
  refine kc_seq ?_
  refine kc_seq ?_
  refine kc_region ?_
  refine kl_ldB rfl rfl ?_
  refine kl_lenL rfl ho (fun l1 => ?_)
  refine kl_ld rfl (by assumption) ?_
  refine kl_len rfl (by assumption) (fun l2 => ?_)
  refine kl_eql rfl rfl ?_
  refine kl_nil ?_
  refine kq_code ?_
  refine kc_if rfl (fun c3 => ?_) (fun c3 => ?_)
  · skip
    refine kc_seq ?_
    refine kc_regI ?_
    refine ki_ld rfl a2 ?_
    refine ki_ldB rfl rfl ?_
    have e0 : ds.drop x.length = [] := List.drop_eq_nil_of_le (by omega)
    have e1 : (tupL (ds.drop x.length)).length = 1 := by rw [e0]; rfl
    have e2 := hxs 0 (by omega)
    have e3 : xs.getD n [] = x := by rw [e0] at e2; simpa [tupL] using e2
    refine ki_yield (Hx := Hx) hJx hR rfl rfl (by omega) (by rw [e3]; exact OwnL.ints ho) ?_ ?_
    · skip
      refine ki_as rfl (ki_nil ?_)
      refine kq_code ?_
      refine kc_ret ?_
      exact kq_retJ1 rfl rfl [sing b0 (.cells [vx].toArray 23 (0, 0)), Hx] (.inl ⟨rfl, by rw [e1], vx, Hx, rfl, ho⟩)
    · skip
      refine ki_as rfl (ki_nil ?_)
      refine kq_code ?_
      refine kc_ret ?_
      exact kq_retJ1 rfl rfl [] (.inr ⟨rfl, rfl, rfl⟩)
  · skip
    refine kc_skipQ ?_
    refine kq_code ?_
    refine kc_seq ?_
    refine kc_seq ?_
    refine kc_region ?_
    refine kl_ld rfl (by assumption) ?_
    refine kl_ldB rfl rfl ?_
    refine kl_lenL rfl ho (fun l4 => ?_)
    refine kl_inI rfl rfl (by assumption) (by omega) (fun p5 a6 => ?_)
    refine kl_ld rfl (by assumption) ?_
    refine kl_call rfl rfl (valuesOf_ok (ds.getD x.length 0) (hd _ (getD_mem (by omega)))) (fun v7 H8 f9 h10 => ?_)
    refine kl_len rfl (by assumption) (fun l11 => ?_)
    refine kl_mv rfl ?_
    refine kl_nil ?_
    refine kq_code ?_
    refine kc_block ?_
    have hk1 : x.length < ds.length := by omega
    refine kc_take [sing b0 (.cells [vx].toArray 23 (0, 0)), Hx] ?_
    refine kc_loopX (A := Nat × Value × Hp) (fun zz => sj Kr (J (n + (tupL (ds.drop (x.length + 1))).length * zz.1)) (hJ _)) (fun zz => zz.1 ≤ (valsI (ds.getD x.length 0)).length ∧ OwnL 3 1 zz.2.2 noHp IntV zz.2.1 x) (fun zz => (valsI (ds.getD x.length 0)).length - zz.1) (fun zz => [sing b0 (.cells [zz.2.1].toArray 23 (0, 0)), zz.2.2]) (fun zz => [(22, .int .i64 (zz.1 : Int))]) (0, vx, Hx) (pc 0 rfl (pc 3 rfl (pc 20 rfl (pc 21 rfl pn)))) (pc 22 rfl pn) rfl ⟨Nat.zero_le _, ho⟩ ?_
    rintro ⟨i, vi, Hi⟩ ⟨hi1, hi2⟩
    have hi1 : i ≤ (valsI (ds.getD x.length 0)).length := hi1
    have hi2 : OwnL 3 1 Hi noHp IntV vi x := hi2
    change KC (⟨_, _, _, sj Kr (J (n + (tupL (ds.drop (x.length + 1))).length * i)) (hJ _), _, _, _⟩ : Cx) _ _ [sing b0 (.cells [vi].toArray 23 (0, 0)), Hi] _ ([(22, .int .i64 (i : Int))] ++ _)
    refine kc_seq ?_
    refine kc_region ?_
    refine kl_lss rfl rfl ?_
    refine kl_nil ?_
    refine kq_code ?_
    refine kc_seq ?_
    refine kc_if rfl (fun c12 => ?_) (fun c12 => ?_)
    · skip
      refine kc_skipQ ?_
      refine kq_code ?_
      refine kc_seq ?_
      refine kc_block ?_
      refine kc_seq ?_
      refine kc_region ?_
      refine kl_inI rfl rfl (by assumption) (by omega) (fun p13 a14 => ?_)
      refine kl_ld rfl (by assumption) ?_
      refine kl_as rfl ?_
      refine kl_nil ?_
      refine kq_code ?_
      refine kc_seq ?_
      refine kc_region ?_
      refine kl_ldB rfl rfl ?_
      refine kl_mv rfl ?_
      refine kl_bs rfl rfl rfl (by decide) (ca rfl ca_nil) (fun v15 H16 f17 r18 s19 => ?_)
      have h20 : Ints H16 v15 [((valsI (ds.getD x.length 0)).getD i 0)] := litInts (xs := [((valsI (ds.getD x.length 0)).getD i 0)]) (by simpa using s19)
      refine kl_apL ((valsI (ds.getD x.length 0)).getD i 0) rfl rfl hi2 (by assumption) rfl (oc rfl oc_nil) (by simp; omega) (by decide) (fun v21 H22 o23 f24 => ?_)
      refine kl_stB rfl rfl rfl (OwnL.oneCell (by assumption)) (OwnL.cells (by assumption)) ?_
      refine kl_chg [sing b0 (.cells [v21].toArray 23 (0, 0)), H22] rfl ?_
      refine kl_nil ?_
      refine kq_code ?_
      refine kc_seq ?_
      refine kc_seq ?_
      refine kc_region ?_
      refine kl_ld rfl (by assumption) ?_
      refine kl_callJ [H8] rfl rfl (fun Kr2 hk hks => ih (k - 1) (by omega) hJ hJx ds (x ++ [((valsI (ds.getD x.length 0)).getD i 0)]) (n + (tupL (ds.drop (x.length + 1))).length * i) hd hl (by simp; omega) (by intro q hq; exact tup_next hxs hk1 (by omega) (by simpa using hq)) (by have := tup_room hlen hk1 (k := i) (by omega); simpa using this) hR a1 hdd (At.mono a2 hk) (At.mono a3 hk) o23) (fr1 f9) (fun v26 L27 j28 h29 h30 => ?_)
      rcases h30 with ⟨rfl, rfl, v32, H33, rfl, o31⟩ | ⟨rfl, rfl, rfl⟩
      · skip
        refine kl_norm ?_
        refine kl_not rfl ?_
        refine kl_nil ?_
        refine kq_normI ?_
        refine kq_code ?_
        refine kc_cond rfl (fun hc => absurd hc (by decide)) (fun hc => ?_)
        refine kc_skipQ ?_
        refine kq_code ?_
        refine kc_region ?_
        refine kl_ldB rfl rfl ?_
        refine kl_ldB rfl rfl ?_
        refine kl_lenL rfl o31 (fun l34 => ?_)
        refine kl_sub rfl rfl (by omega) ?_
        have e37 : (((x ++ [((valsI (ds.getD x.length 0)).getD i 0)]).length : Int) - (1 : Int)) = (((Int.toNat (((x ++ [((valsI (ds.getD x.length 0)).getD i 0)]).length : Int) - (1 : Int))) : Nat) : Int) := by first | omega | (simp only [List.length_append, List.length_cons, List.length_nil]; omega)
        refine kl_slTakeL (i := (Int.toNat (((x ++ [((valsI (ds.getD x.length 0)).getD i 0)]).length : Int) - (1 : Int)))) rfl (by rw [← e37]; rfl) o31 (by first | omega | (simp; omega)) (fun u35 o36 => ?_)
        refine kl_stB rfl rfl rfl (OwnL.oneCell (by assumption)) (OwnL.cells (by assumption)) ?_
        refine kl_chg [sing b0 (.cells [u35].toArray 23 (0, 0)), H33] rfl ?_
        refine kl_nil ?_
        refine kq_code ?_
        refine kc_region ?_
        refine kl_inc rfl rfl (by omega) ?_
        refine kl_mv rfl ?_
        refine kl_nil ?_
        refine kq_roundX (i + 1, u35, H33) (sj_eq (by rw [Nat.mul_succ]; simp; omega)) (by dsimp only; omega) ⟨by dsimp only; omega, OwnL.cast (by simp) o36⟩ (pc 22 rfl pn) (pc 0 rfl (pc 3 rfl (pc 20 rfl (pc 21 rfl pn)))) rfl
      · skip
        refine kl_norm ?_
        refine kl_not rfl ?_
        refine kl_nil ?_
        refine kq_normI ?_
        refine kq_code ?_
        refine kc_cond rfl (fun hc => ?_) (fun hc => absurd hc (by decide))
        refine kc_seq ?_
        refine kc_region ?_
        refine kl_as rfl ?_
        refine kl_nil ?_
        refine kq_code ?_
        refine kc_ret ?_
        exact kq_retJ1 rfl rfl [] (.inr ⟨rfl, rfl, rfl⟩)
    · skip
      refine kc_exit ?_
      refine kq_code ?_
      refine kc_seq ?_
      refine kc_region ?_
      refine kl_as rfl ?_
      refine kl_nil ?_
      refine kq_code ?_
      refine kc_ret ?_
      exact kq_retJ1 rfl rfl [sing b0 (.cells [vi].toArray 23 (0, 0)), Hi] (.inl ⟨rfl, congrArg J (by have := tup_all (x := x) hk1 (k := i) (by omega); rw [this]), vi, Hi, rfl, hi2⟩)
theorem tup_ok (k : Nat) : tupSt k := by
  induction k using Nat.strongRecOn with
  | _ k ih => exact tup_step k ih
theorem tup118_ok {l : Nat} {J : Nat → (Nat → Prop) → World → Prop} {Jx : (Nat → Prop) → World → Prop} (hJ : ∀ n, JK (J n)) (hJx : JK Jx) {H1 Hd : Hp} {pd vd : Value} (ds : List Int) (hd : ∀ d ∈ ds, (0 : Int) ≤ d ∧ d ≤ 63) (hl : ds.length ≤ 1048576) (hR : Rounds Tryz.prog l [H1, Hd] (tupL ds) J Jx) (a1 : At H1 pd [vd]) (hdd : Ints Hd vd ds) :
    SpecJ Tryz.prog 139 [.func (.yield l) #[] #[], pd] noHp [H1, Hd] [] (J 0) (fun vq L1 j => j = J (tupL ds).length ∨ j = Jx) := by
  refine specJ_of (hJ 0) Tryz.func139 rfl rfl rfl (fun B => ?_)
  refine kc_seq ?_
  refine kc_region ?_
  refine kl_box rfl rfl (fun p1 H2 f3 a4 => ?_)
  refine kl_nil ?_
  refine kq_code ?_
  refine kc_seq ?_
  refine kc_region ?_
  refine kl_ld rfl (by assumption) ?_
  refine kl_len rfl (by assumption) (fun l5 => ?_)
  refine kl_mkL0 (R := IntV) rfl rfl (by omega) (by omega) (by decide) (fun v6 H7 f8 o9 => ?_)
  refine kl_alloc (cs := [.slice none 0 0]) rfl (fun b10 hb11 => ?_)
  refine kl_stB rfl rfl rfl (OwnL.oneCell (by assumption)) (OwnL.cells (by assumption)) ?_
  refine kl_chg [sing b10 (.cells [v6].toArray 23 (0, 0)), H7] rfl ?_
  refine kl_nil ?_
  refine kq_code ?_
  refine kc_seq ?_
  refine kc_region ?_
  refine kl_alloc (cs := [.nilFunc]) rfl (fun b12 hb13 => ?_)
  refine kl_nil ?_
  refine kq_code ?_
  refine kc_seq ?_
  refine kc_region ?_
  refine kl_mkf rfl ?_
  refine kl_stB rfl rfl rfl rfl rfl ?_
  refine kl_chg [sing b12 (.cells [.func (.func 140) #[] #[.pointer (some ⟨b10, 0, none⟩), pd, p1, .pointer (some ⟨b12, 0, none⟩)]].toArray 152 (0, 0)), sing b10 (.cells [v6].toArray 23 (0, 0)), H7] rfl ?_
  refine kl_frz (sing b12 (.cells [.func (.func 140) #[] #[.pointer (some ⟨b10, 0, none⟩), pd, p1, .pointer (some ⟨b12, 0, none⟩)]].toArray 152 (0, 0))) ?_
  have a3 : At (sing b12 (.cells [.func (.func 140) #[] #[.pointer (some ⟨b10, 0, none⟩), pd, p1, .pointer (some ⟨b12, 0, none⟩)]].toArray 152 (0, 0))) (.pointer (some ⟨b12, 0, none⟩)) [.func (.func 140) #[] #[.pointer (some ⟨b10, 0, none⟩), pd, p1, .pointer (some ⟨b12, 0, none⟩)]] := At.sing (cs := #[.func (.func 140) #[] #[.pointer (some ⟨b10, 0, none⟩), pd, p1, .pointer (some ⟨b12, 0, none⟩)]])
  refine kl_nil ?_
  refine kq_code ?_
  refine kc_region ?_
  refine kl_ld rfl (by assumption) ?_
  refine kl_callJ [H2, (sing b12 (.cells [.func (.func 140) #[] #[.pointer (some ⟨b10, 0, none⟩), pd, p1, .pointer (some ⟨b12, 0, none⟩)]].toArray 152 (0, 0)))] rfl rfl (fun Kr2 hk hks => tup_ok ds.length hJ hJx ds [] 0 hd hl (by simp) (by intro q hq; simp) (by simp) hR a1 hdd (At.mono a4 (hks _ (.head _))) (At.mono a3 (hks _ (.tail _ (.head _)))) o9) (frc f3 (fr1 (fr_sing (by assumption)))) (fun v14 L15 j16 h17 h18 => ?_)
  rcases h18 with ⟨rfl, rfl, v20, H21, rfl, o19⟩ | ⟨rfl, rfl, rfl⟩
  · skip
    refine kl_norm ?_
    refine kl_nil ?_
    refine kq_normI ?_
    exact kq_retJ0 rfl [] (.inl (by simp))
  · skip
    refine kl_norm ?_
    refine kl_nil ?_
    refine kq_normI ?_
    exact kq_retJ0 rfl [] (.inr rfl)
theorem tuples_it {p vd : Value} {H1 Hd : Hp} (ds : List Int) (hd : ∀ d ∈ ds, (0 : Int) ≤ d ∧ d ≤ 63) (hl : ds.length ≤ 1048576) (a1 : At H1 p [vd]) (hdd : Ints Hd vd ds) : ItSpec Tryz.prog 139 [p] [H1, Hd] (tupL ds) := fun l J Jx hJ hJx hR W hA hW =>
  (tup118_ok (fun n => ⟨hJ n⟩) ⟨hJx⟩ ds hd hl hR a1 hdd W (fun _ h => by cases h) List.Pairwise.nil (agree_no W) hA (hJ 0 hW (Nat.le_refl _) (fun _ _ _ => rfl) (Io.refl _) (fun b hb => by
    rcases hb with hb | ⟨_, h, _⟩
    · exact absurd rfl hb
    · cases h))).mono fun e W' he => by
    cases e with
    | returned v =>
      obtain ⟨_, _, _, _, L1, j, _, _, hj, hw, hp⟩ := he
      have hw' := hj.ok hw (Nat.le_refl _) (fun _ _ _ => rfl) (Io.refl _) (D' := fun _ => False) (fun _ h => h.elim)
      refine ⟨v, rfl, ?_⟩
      rcases hp with rfl | rfl
      · exact .inl hw'
      · exact .inr hw'
    | panicked c => exact he.elim
    | outgrown => exact he.elim
end Go.Proofs.YtojinjdobjodaaaGreat
