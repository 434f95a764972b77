/- Components: the program's way and the reference's way; they are closed, and separation agrees with them. No program in sight. Conditions: none. -/
import Derived.Test.YtiilanckbocifaaPureN
namespace Go.Proofs.Ytiilanckbocifaa
open Go
set_option linter.unusedSimpArgs false
set_option linter.unusedVariables false
/-- The least index whose bit is set. -/
def tzN (x : Int) : Nat := ((List.range 64).find? (fun i => hasB x ((i : Nat) : Int))).getD 64
def tzI (x : Int) : Int := (tzN x : Int)
theorem tz_law {x : Int} (h1 : 1 ≤ x) (h2 : x < 16) : tzN x < 4 ∧ hasB x (tzI x) = true ∧ ∀ v : Nat, v < 4 → hasB x (v : Int) = true → tzI x ≤ (v : Int) := by
  have key : ∀ i, i < 16 → 1 ≤ i → tzN ((i : Nat) : Int) < 4 ∧ hasB ((i : Nat) : Int) (tzI ((i : Nat) : Int)) = true ∧ ∀ v : Nat, v < 4 → hasB ((i : Nat) : Int) (v : Int) = true → tzI ((i : Nat) : Int) ≤ (v : Int) := by decide +kernel
  obtain ⟨i, rfl⟩ := Int.eq_ofNat_of_zero_le (by omega : 0 ≤ x)
  exact key i (by omega) (by omega)
/-- The least number of a list. -/
def mnTo (xs : List Int) : Nat → Int
  | 0 => xs.getD 0 0
  | k + 1 => min (mnTo xs k) (xs.getD k 0)
def minL (xs : List Int) : Int := mnTo xs xs.length
theorem mn_one (xs : List Int) : xs.getD 0 0 = mnTo xs 1 := by simp [mnTo]
theorem mn_mem {xs : List Int} (h : 1 ≤ xs.length) : ∀ k, k ≤ xs.length → mnTo xs k ∈ xs
  | 0, _ => getD_mem (by omega)
  | k + 1, hk => by
    have h1 := mn_mem h k (by omega)
    have h2 : xs.getD k 0 ∈ xs := getD_mem (by omega)
    simp only [mnTo, Int.min_def]
    split
    · exact h1
    · exact h2
theorem mn_le {xs : List Int} : ∀ k i, i < k → mnTo xs k ≤ xs.getD i 0
  | 0, i, h => absurd h (Nat.not_lt_zero i)
  | k + 1, i, h => by
    simp only [mnTo]
    by_cases e : i = k
    · subst e; omega
    · have := mn_le (xs := xs) k i (by omega)
      omega
theorem minL_le {xs : List Int} {y : Int} (h : y ∈ xs) : minL xs ≤ y := by
  obtain ⟨i, hi, rfl⟩ := List.getElem_of_mem h
  have := mn_le (xs := xs) xs.length i hi
  simpa [minL, List.getD_eq_getElem?_getD, hi] using this
/-! Connectedness. -/
section conn
variable {n : Nat} {p : Nat → Nat → Prop} {w : Nat → Prop} {v a b : Nat}
theorem Conn.lt (h : Conn n p w v b) (hv : v < n) : b < n := by cases h with | refl => exact hv | step _ _ h _ => exact h
theorem Conn.free (h : Conn n p w v b) (hv : ¬ w v) : ¬ w b := by cases h with | refl => exact hv | step _ _ _ h => exact h
theorem Conn.trans (h : Conn n p w v a) (k : Conn n p w a b) : Conn n p w v b := by
  induction k with
  | refl => exact h
  | step _ h1 h2 h3 ih => exact .step ih h1 h2 h3
theorem Conn.symm (hp : ∀ a b, p a b → p b a) (hv : v < n) (hw : ¬ w v) (h : Conn n p w v b) : Conn n p w b v := by
  induction h with
  | refl => exact .refl
  | step h1 h2 h3 h4 ih => exact Conn.trans (.step .refl (hp _ _ h2) (h1.lt hv) (h1.free hw)) ih
end conn
abbrev Cn (m : Mod) (v b : Nat) : Prop := Conn m.doms.length (fun x y => adjB m.cons x y = true) (fun _ => False) v b
theorem adj_symm (m : Mod) : ∀ a b : Nat, adjB m.cons a b = true → adjB m.cons b a = true := fun a b h => by rw [adjB_comm]; exact h
theorem Cn.symm {m : Mod} {v b : Nat} (hv : v < m.doms.length) (h : Cn m v b) : Cn m b v := Conn.symm (adj_symm m) hv (fun h => h) h
structure MaskC (m : Mod) (v : Nat) (x : Nat) : Prop where
  e : linkedI m (v : Int) 0 = (x : Int)
  lt : x < 16
  b : ∀ b, x.testBit b = true ↔ Cn m v b
theorem maskC {m : Mod} (hM : MOk m) {v : Nat} (hv : v < m.doms.length) : ∃ x, MaskC m v x := by
  obtain ⟨x, h1, h2, h3⟩ := linkedI_conn hM.n.2 hM.i (w := 0) hv
  have h2n : 2 ^ m.doms.length ≤ 2 ^ 4 := Nat.pow_le_pow_right (by decide) hM.n.2
  refine ⟨x, h1, by omega, fun b => (h3 b).trans ⟨Conn.congr (fun i _ => by simp), Conn.congr (fun i _ => by simp)⟩⟩
theorem MaskC.pos {m : Mod} {v x : Nat} (h : MaskC m v x) : 1 ≤ x := by
  have := (h.b v).2 .refl
  refine Nat.one_le_iff_ne_zero.2 (fun e => ?_)
  subst e; simp at this
theorem MaskC.has {m : Mod} {v x b : Nat} (h : MaskC m v x) (hb : b < 4) : hasB (x : Int) (b : Int) = true ↔ Cn m v b := by
  have := h.lt
  rw [hasB_nat (by omega) (by omega), h.b]
def compAt (m : Mod) (v : Nat) : Int := tzI (linkedI m (v : Int) 0)
theorem comp_law {m : Mod} (hM : MOk m) {v : Nat} (hv : v < m.doms.length) : ∃ c : Nat, compAt m v = (c : Int) ∧ Cn m v c ∧ c < m.doms.length ∧ ∀ b, Cn m v b → c ≤ b := by
  obtain ⟨x, hx⟩ := maskC hM hv
  obtain ⟨h1, h2, h3⟩ := tz_law (x := (x : Int)) (by have := hx.pos; omega) (by have := hx.lt; omega)
  have hn := hM.n.2
  have hc : Cn m v (tzN (x : Int)) := (hx.has h1).1 h2
  refine ⟨tzN (x : Int), by unfold compAt tzI; rw [hx.e], hc, hc.lt hv, fun b hb => ?_⟩
  have hb4 : b < 4 := by have := hb.lt hv; omega
  have := h3 b hb4 ((hx.has hb4).2 hb)
  unfold tzI at this; omega
theorem comp_same {m : Mod} (hM : MOk m) {u v : Nat} (hu : u < m.doms.length) (hv : v < m.doms.length) (h : Cn m u v) : compAt m u = compAt m v := by
  obtain ⟨c, h1, h2, h3, h4⟩ := comp_law hM hu
  obtain ⟨d, k1, k2, k3, k4⟩ := comp_law hM hv
  have a1 := h4 d (h.trans k2)
  have a2 := k4 c ((Cn.symm hu h).trans h2)
  rw [h1, k1]; omega
theorem comp_conn {m : Mod} (hM : MOk m) {u v : Nat} (hu : u < m.doms.length) (hv : v < m.doms.length) (h : compAt m u = compAt m v) : Cn m u v := by
  obtain ⟨c, h1, h2, h3, _⟩ := comp_law hM hu
  obtain ⟨d, k1, k2, _, _⟩ := comp_law hM hv
  have : c = d := by omega
  subst this
  exact h2.trans (Cn.symm hv k2)
theorem reachRow_ok {cons : List Con} {rem : List Int} {i n : Nat} {out : List Int} (ho : ROk n out) : ∀ k, k ≤ n → ROk n (reachRow cons rem i out k)
  | 0, _ => ho
  | k + 1, hk => by
    have h := reachRow_ok (cons := cons) (rem := rem) (i := i) ho k (by omega)
    rw [reachRow_succ]
    unfold reachIn
    split
    · rename_i hc
      simp only [Bool.and_eq_true, Bool.not_eq_true'] at hc
      exact h.push (by omega) hc.2
    · exact h
theorem reachGo_ok {cons : List Con} {rem : List Int} {n : Nat} : ∀ (f i : Nat) (out : List Int), ROk n out → ROk n (reachGo cons rem n f i out)
  | 0, i, out, h => h
  | f + 1, i, out, h => by
    unfold reachGo
    split
    · exact reachGo_ok f _ _ (reachRow_ok h n (Nat.le_refl _))
    · exact h
theorem reachGo_pos {m : Mod} {v : Nat} (hv : v < m.doms.length) : ∀ y ∈ reachS m (v : Int) [], 0 ≤ y := fun y hy =>
  ((reachGo_ok m.doms.length 0 [(v : Int)] (ROk.one (by omega))).2 y hy).1
theorem comp_min {m : Mod} (hM : MOk m) {v : Nat} (hv : v < m.doms.length) : minL (reachS m (v : Int) []) = compAt m v := by
  obtain ⟨c, h1, h2, h3, h4⟩ := comp_law hM hv
  have mem : ∀ b : Nat, (b : Int) ∈ reachS m (v : Int) [] ↔ Cn m v b := fun b => (reachS_conn hv b).trans ⟨Conn.congr (fun i _ => by simp [Gone]), Conn.congr (fun i _ => by simp [Gone])⟩
  have hv' : (v : Int) ∈ reachS m (v : Int) [] := (mem v).2 .refl
  have hlen : 1 ≤ (reachS m (v : Int) []).length := List.length_pos_of_mem hv'
  have hmem := mn_mem hlen _ (Nat.le_refl _)
  have a1 := minL_le ((mem c).2 h2)
  have hpos : 0 ≤ minL (reachS m (v : Int) []) := (reachGo_pos hv _ hmem)
  obtain ⟨d, hd⟩ := Int.eq_ofNat_of_zero_le hpos
  have a2 := h4 d ((mem d).1 (by rw [← hd]; exact hmem))
  rw [h1]; omega
def compI (m : Mod) : List Int := if validModB m = true then (List.range m.doms.length).map (compAt m) else []
def compS (m : Mod) : List Int := if validModB m = true then (List.range m.doms.length).map (fun v => minL (reachS m ((v : Nat) : Int) [])) else []
theorem comp_eq (m : Mod) : compI m = compS m := by
  unfold compI compS
  split
  · rename_i h
    exact List.map_congr_left fun v hv => (comp_min ⟨h⟩ (by simpa using hv)).symm
  · rfl
theorem map_snoc {A : Type} (f : Nat → A) (k : Nat) : (List.range k).map f ++ [f k] = (List.range (k + 1)).map f := by simp [List.range_succ]
theorem compI_at {m : Mod} (h : validModB m = true) {v : Nat} (hv : v < m.doms.length) : (compI m).getD v 0 = compAt m v := by
  unfold compI; rw [if_pos h]; simp [List.getD_eq_getElem?_getD, hv]
theorem compI_len {m : Mod} (h : validModB m = true) : (compI m).length = m.doms.length := by unfold compI; rw [if_pos h]; simp
theorem compI_val {m : Mod} (h : (compI m).length ≠ 0) : validModB m = true := by
  cases e : validModB m with
  | true => rfl
  | false => unfold compI at h; rw [if_neg (by rw [e]; simp)] at h; simp at h
theorem reach_pos {m : Mod} {v : Nat} (hv : v < m.doms.length) : 1 ≤ (reachS m (v : Int) []).length := List.length_pos_of_mem ((reachS_conn hv v).2 .refl)
theorem grdC {m : Mod} {a : Bool} (h : (a || decide (((compI m).length : Int) = 0)) = false) : validModB m = true := by
  refine compI_val (fun e => ?_)
  rw [e] at h; simp at h
theorem compI_in {m : Mod} (h : validModB m = true) {v : Nat} (hv : v < m.doms.length) : 0 ≤ (compI m).getD v 0 ∧ (compI m).getD v 0 < m.doms.length := by
  obtain ⟨c, h1, _, h3, _⟩ := comp_law ⟨h⟩ hv
  rw [compI_at h hv, h1]; omega
theorem nb_in {m : Mod} {v : Int} (hm : validModB m = true) (hv : 0 ≤ v ∧ v < m.doms.length) {u : Int} (hu : u ∈ nbI m v) : 0 ≤ u ∧ u < m.doms.length ∧ adjB m.cons u v = true := by
  have hc : nbCS m v = false := by
    simp only [nbCS, Bool.or_eq_false_iff, Bool.not_eq_false', withinB_iff]
    exact ⟨hm, by omega⟩
  rw [nb_eq, nbS, if_neg (by rw [hc]; simp)] at hu
  simp only [nbTo, natsI, List.mem_map, List.mem_filter, List.mem_range] at hu
  obtain ⟨i, ⟨h1, h2⟩, rfl⟩ := hu
  exact ⟨by omega, by omega, h2⟩
theorem comp_near {m : Mod} (hm : validModB m = true) {v : Nat} (hv : v < m.doms.length) {u : Int} (hu : u ∈ nbI m (v : Int)) : (compI m).getD u.toNat 0 = (compI m).getD v 0 := by
  obtain ⟨h1, h2, h3⟩ := nb_in hm (by omega) hu
  obtain ⟨u, rfl⟩ := Int.eq_ofNat_of_zero_le h1
  rw [Int.toNat_natCast, compI_at hm (by omega), compI_at hm hv]
  refine comp_same ⟨hm⟩ (by omega) hv (.step .refl h3 hv (fun h => h))
theorem comp_self {m : Mod} (hm : validModB m = true) {v : Nat} (hv : v < m.doms.length) : (compI m).getD v 0 ≤ (v : Int) ∧ (compI m).getD ((compI m).getD v 0).toNat 0 = (compI m).getD v 0 := by
  obtain ⟨c, h1, h2, h3, h4⟩ := comp_law ⟨hm⟩ hv
  have e := compI_at hm hv
  have := h4 v .refl
  rw [e, h1]
  refine ⟨by omega, ?_⟩
  rw [Int.toNat_natCast, compI_at hm h3, ← h1]
  exact (comp_same ⟨hm⟩ hv h3 h2).symm
theorem near_in {m : Mod} {k j : Nat} (hg : validModB m = true) (hk : (k : Int) < ((compI m).length : Int)) (hj : (j : Int) < ((nbI m (k : Int)).length : Int)) : (0 ≤ (nbI m (k : Int)).getD j 0 ∧ (nbI m (k : Int)).getD j 0 < (compI m).length) ∧ (compI m).getD ((nbI m (k : Int)).getD j 0).toNat 0 = (compI m).getD k 0 := by
  rw [compI_len hg] at hk ⊢
  have hm : (nbI m (k : Int)).getD j 0 ∈ nbI m (k : Int) := getD_mem (by omega)
  have h := nb_in hg (by omega) hm
  exact ⟨⟨h.1, h.2.1⟩, comp_near hg (by omega) hm⟩
theorem self_in {m : Mod} {k : Nat} (hg : validModB m = true) (hk : (k : Int) < ((compI m).length : Int)) : (0 ≤ (compI m).getD k 0 ∧ (compI m).getD k 0 < (compI m).length) ∧ (compI m).getD k 0 ≤ (k : Int) ∧ (compI m).getD ((compI m).getD k 0).toNat 0 = (compI m).getD k 0 := by
  rw [compI_len hg] at hk ⊢
  exact ⟨compI_in hg (by omega), comp_self hg (by omega)⟩
/-! Separation. -/
theorem gone0 {m : Mod} {u b : Nat} : Conn m.doms.length (Adj m.cons) (Gone []) u b ↔ Cn m u b := ⟨Conn.congr (fun i _ => by simp [Gone]), Conn.congr (fun i _ => by simp [Gone])⟩
theorem sepS_iff {m : Mod} {vars : List Int} {u v : Nat} (h : sepCS m vars u v = false) : sepI m vars u v = true ↔ ¬ Conn m.doms.length (Adj m.cons) (Gone vars) u v := by
  have hs := sep_ok h
  have hu := hs.u.2
  rw [sep_eq, sepS, if_neg (by rw [h]; simp), Bool.not_eq_true', ← Bool.not_eq_true, List.contains_iff_mem, reachS_conn (by omega)]
theorem sepC0 {m : Mod} {u v : Int} (hm : validModB m = true) (hu : 0 ≤ u ∧ u < m.doms.length) (hv : 0 ≤ v ∧ v < m.doms.length) : sepCI m [] u v = false := by
  have h1 : allInB [u, v] 0 ((m.doms.length : Int) - 1) = true := by rw [allInB_iff]; intro x hx; simp at hx; rcases hx with rfl | rfl <;> omega
  have h2 : varSetI m [] = true := by simp [varSetI, ascB, varsInB, hm, allInB]
  simp [sepCI, h2, varsInB, hm, h1]
theorem sep_comp {m : Mod} {u v : Int} (hm : validModB m = true) (hu : 0 ≤ u ∧ u < m.doms.length) (hv : 0 ≤ v ∧ v < m.doms.length) : (sepI m [] u v != decide ((compI m).getD u.toNat 0 ≠ (compI m).getD v.toNat 0)) = false := by
  have hc := sepC0 hm hu hv
  obtain ⟨u, rfl⟩ := Int.eq_ofNat_of_zero_le hu.1
  obtain ⟨v, rfl⟩ := Int.eq_ofNat_of_zero_le hv.1
  have hun : u < m.doms.length := by omega
  have hvn : v < m.doms.length := by omega
  rw [sepC_eq] at hc
  have h := sepS_iff hc
  rw [gone0] at h
  rw [Int.toNat_natCast, Int.toNat_natCast, compI_at hm hun, compI_at hm hvn]
  have e : sepI m [] (u : Int) (v : Int) = decide (compAt m u ≠ compAt m v) := by
    rw [Bool.eq_iff_iff, h, decide_eq_true_eq]
    exact not_congr ⟨comp_same ⟨hm⟩ hun hvn, comp_conn ⟨hm⟩ hun hvn⟩
  rw [e]; simp
theorem sepC_swap (m : Mod) (vars : List Int) (u v : Int) : sepCI m vars u v = sepCI m vars v u := by
  have h : varsInB m [u, v] = varsInB m [v, u] := by
    simp only [varsInB, allInB, List.all_cons, List.all_nil, Bool.and_true]
    rw [Bool.and_comm (withinB u 0 _)]
  unfold sepCI
  rw [h]
  cases varSetI m vars <;> cases varsInB m [v, u] <;> cases vars.contains u <;> cases vars.contains v <;> rfl
theorem sep_swap (m : Mod) (vars : List Int) (u v : Int) : sepI m vars u v = sepI m vars v u := by
  cases hc : sepCI m vars u v with
  | true => unfold sepI; rw [hc, ← sepC_swap m vars u v, hc, if_pos rfl, if_pos rfl]
  | false =>
    have hc2 := hc
    rw [sepC_swap] at hc2
    rw [sepC_eq] at hc hc2
    have hs := sep_ok hc
    have g : vars.contains u = false ∧ vars.contains v = false := by
      rw [← sepC_eq] at hc
      simp only [sepCI, Bool.or_eq_false_iff] at hc
      exact ⟨hc.1.2, hc.2⟩
    obtain ⟨u, rfl⟩ := Int.eq_ofNat_of_zero_le hs.u.1
    obtain ⟨v, rfl⟩ := Int.eq_ofNat_of_zero_le hs.v.1
    have hu := hs.u.2
    have hv := hs.v.2
    have gu : ¬ Gone vars u := fun h => by have := List.contains_iff_mem.2 h; rw [g.1] at this; cases this
    have gv : ¬ Gone vars v := fun h => by have := List.contains_iff_mem.2 h; rw [g.2] at this; cases this
    rw [Bool.eq_iff_iff, sepS_iff hc, sepS_iff hc2]
    exact not_congr ⟨Conn.symm (adj_symm m) (by omega) gu, Conn.symm (adj_symm m) (by omega) gv⟩
theorem sep_far {m : Mod} {vars : List Int} {u v : Int} (h : sepI m vars u v = true) : u ≠ v ∧ (nbI m u).contains v = false := by
  have hc : sepCI m vars u v = false := by
    cases hc : sepCI m vars u v with
    | false => rfl
    | true => unfold sepI at h; rw [hc] at h; cases h
  rw [sepC_eq] at hc
  have hs := sep_ok hc
  have hm : validModB m = true := by
    rw [← sepC_eq] at hc
    simp only [sepCI, varSetI, varsInB, Bool.or_eq_false_iff, Bool.not_eq_false', Bool.and_eq_true] at hc
    exact hc.1.1.1.2.1
  have gv : vars.contains v = false := by
    rw [← sepC_eq] at hc
    simp only [sepCI, Bool.or_eq_false_iff] at hc
    exact hc.2
  obtain ⟨u, rfl⟩ := Int.eq_ofNat_of_zero_le hs.u.1
  obtain ⟨v, rfl⟩ := Int.eq_ofNat_of_zero_le hs.v.1
  have hu := hs.u.2
  have hv := hs.v.2
  have hn := (sepS_iff hc).1 h
  refine ⟨fun e => ?_, ?_⟩
  · have : u = v := by exact_mod_cast e
    subst this; exact hn .refl
  · rw [nbS_mem hm (v := (u : Int)) (by omega) (by omega : v < m.doms.length)]
    cases ha : adjB m.cons (v : Int) (u : Int) with
    | false => rfl
    | true => exact (hn (.step .refl (adj_symm m _ _ ha) (by omega) (fun hg => by have := List.contains_iff_mem.2 hg; rw [gv] at this; cases this))).elim
theorem sep_fin (m : Mod) (vars : List Int) (u v : Int) : ((sepI m vars u v == sepI m vars v u) && (!(sepI m vars u v) || (decide (u ≠ v) && !((nbI m u).contains v)))) = true := by
  rw [← sep_swap m vars u v]
  cases h : sepI m vars u v with
  | false => rfl
  | true =>
    have hf := sep_far h
    rw [hf.2, decide_eq_true hf.1]; rfl
theorem grd6 {a b : Bool} {u v n : Int} (h : (((((a || !b) || decide (u < 0)) || decide (v < 0)) || decide (n ≤ u)) || decide (n ≤ v)) = false) : b = true ∧ (0 ≤ u ∧ u < n) ∧ (0 ≤ v ∧ v < n) := by
  cases a <;> cases b <;> simp at h ⊢
  omega
end Go.Proofs.Ytiilanckbocifaa
