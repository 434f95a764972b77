/- Plain law: the width of an order: below the number of variables; zero exactly without neighbours. No program in sight. Conditions: none. -/
import Derived.Test.YtidllhcfcmjggaaPureG
namespace Go.Proofs.Ytidllhcfcmjggaa
open Go
set_option linter.unusedSimpArgs false
set_option linter.unusedVariables false
theorem filt_lt {n v : Nat} {p : Nat → Bool} (hv : v < n) (hp : p v = false) : ((List.range n).filter p).length < n := by
  have h1 := List.length_filter_le p (List.range n)
  rw [List.length_range] at h1
  rcases Nat.lt_or_ge ((List.range n).filter p).length n with h | h
  · exact h
  · have e : ((List.range n).filter p).length = (List.range n).length := by rw [List.length_range]; omega
    have h2 := List.length_filter_eq_length_iff.1 e v (List.mem_range.2 hv)
    rw [hp] at h2; cases h2
theorem memTo_length (N : Int) (n : Nat) : (membersTo N n).length = ((List.range n).filter (fun i => hasB N ((i : Nat) : Int))).length := by
  unfold membersTo natsI; rw [List.length_map]
section wid
variable {m : Mod} {order : List Int}
theorem wid_lt (hM : MOk m) (ho : OrdOk m order) : ∀ k, k ≤ order.length → (widTo m order k).2.2 < (m.doms.length : Int) := by
  intro k
  induction k with
  | zero => intro _; rw [widTo_0]; have := hM.n; show (0 : Int) < _; omega
  | succ k ih =>
    intro hk
    have h1 := ih (by omega)
    have hio := wid_ok hM ho k (by omega)
    have hn := hM.n
    have hat := ho.at (k := k) (by omega)
    obtain ⟨v, hv⟩ : ∃ v : Nat, order.getD k 0 = (v : Int) := ⟨(order.getD k 0).toNat, by omega⟩
    rw [hv] at hat
    rw [widTo_succ (by omega), hv]
    obtain ⟨_, a2, _, _, a5⟩ := near_ok hio (by omega) (v := v) (by omega)
    show max (widTo m order k).2.2 (popI (nearI (widTo m order k).1 (widTo m order k).2.1 (v : Int))) < _
    have h2 : popI (nearI (widTo m order k).1 (widTo m order k).2.1 (v : Int)) < (m.doms.length : Int) := by
      rw [a5, memTo_length]
      have := filt_lt (n := m.doms.length) (v := v) (p := fun i => hasB (nearI (widTo m order k).1 (widTo m order k).2.1 (v : Int)) ((i : Nat) : Int)) (by omega) (by
        show hasB (nearI (widTo m order k).1 (widTo m order k).2.1 (v : Int)) (v : Int) = false
        rw [a2 v (by omega), hio.ir v (by omega)]; rfl)
      omega
    omega
/-- No edge at all. -/
theorem wid_none (hM : MOk m) (ho : OrdOk m order) (h0 : ∀ x y : Nat, x < m.doms.length → y < 4 → hasB ((graphI m).getD x 0) (y : Int) = false) : ∀ k, k ≤ order.length → (∀ x y : Nat, x < m.doms.length → y < 4 → hasB ((widTo m order k).1.getD x 0) (y : Int) = false) ∧ (widTo m order k).2.2 = 0 := by
  intro k
  induction k with
  | zero => intro _; rw [widTo_0]; exact ⟨h0, rfl⟩
  | succ k ih =>
    intro hk
    obtain ⟨h1, h2⟩ := ih (by omega)
    have hio := wid_ok hM ho k (by omega)
    have hn := hM.n
    have hat := ho.at (k := k) (by omega)
    obtain ⟨v, hv⟩ : ∃ v : Nat, order.getD k 0 = (v : Int) := ⟨(order.getD k 0).toNat, by omega⟩
    rw [hv] at hat
    rw [widTo_succ (by omega), hv]
    obtain ⟨_, a2, _, _, a5⟩ := near_ok hio (by omega) (v := v) (by omega)
    have hN : ∀ u : Nat, u < 4 → hasB (nearI (widTo m order k).1 (widTo m order k).2.1 (v : Int)) (u : Int) = false := fun u hu => by rw [a2 u hu, h1 v u (by omega) hu]; rfl
    refine ⟨fun x y hx hy => ?_, ?_⟩
    · show hasB (((membersI (nearI (widTo m order k).1 (widTo m order k).2.1 (v : Int))).foldl (linkI (nearI (widTo m order k).1 (widTo m order k).2.1 (v : Int))) (widTo m order k).1).getD x 0) (y : Int) = false
      rw [(elim_bit hio (by omega) (v := v) (by omega) hx).2 y hy, h1 x y hx hy, hN y hy]; simp
    · show max (widTo m order k).2.2 (popI (nearI (widTo m order k).1 (widTo m order k).2.1 (v : Int))) = 0
      rw [a5, memTo_length, h2, List.filter_eq_nil_iff.2 (fun i hi => by rw [hN i (by have := List.mem_range.1 hi; omega)]; simp)]
      rfl
/-- An edge stays. -/
theorem wid_keep (hM : MOk m) (ho : OrdOk m order) {x y : Nat} (hx : x < m.doms.length) (hy : y < 4) (h0 : hasB ((graphI m).getD x 0) (y : Int) = true) : ∀ k, k ≤ order.length → hasB ((widTo m order k).1.getD x 0) (y : Int) = true := by
  intro k
  induction k with
  | zero => intro _; rw [widTo_0]; exact h0
  | succ k ih =>
    intro hk
    have h1 := ih (by omega)
    have hio := wid_ok hM ho k (by omega)
    have hn := hM.n
    have hat := ho.at (k := k) (by omega)
    obtain ⟨v, hv⟩ : ∃ v : Nat, order.getD k 0 = (v : Int) := ⟨(order.getD k 0).toNat, by omega⟩
    rw [hv] at hat
    rw [widTo_succ (by omega), hv]
    show hasB (((membersI (nearI (widTo m order k).1 (widTo m order k).2.1 (v : Int))).foldl (linkI (nearI (widTo m order k).1 (widTo m order k).2.1 (v : Int))) (widTo m order k).1).getD x 0) (y : Int) = true
    rw [(elim_bit hio (by omega) (v := v) (by omega) hx).2 y hy, h1]; rfl
theorem wid_gone (hM : MOk m) (ho : OrdOk m order) {y : Nat} (hy : y < 4) : ∀ k, k ≤ order.length → hasB (widTo m order k).2.1 (y : Int) = true → (y : Int) ∈ order.take k := by
  intro k
  induction k with
  | zero => intro _ h; rw [widTo_0] at h; rw [hasB_0 y hy] at h; cases h
  | succ k ih =>
    intro hk h
    have hio := wid_ok hM ho k (by omega)
    have hn := hM.n
    have hat := ho.at (k := k) (by omega)
    rw [take_succ_getD 0 (by omega), List.mem_append, List.mem_singleton]
    obtain ⟨v, hv⟩ : ∃ v : Nat, order.getD k 0 = (v : Int) := ⟨(order.getD k 0).toNat, by omega⟩
    rw [hv] at hat ⊢
    rw [widTo_succ (by omega), hv] at h
    have h' : hasB (ior (widTo m order k).2.1 (ishl 1 (v : Int))) (y : Int) = true := h
    have k1 := shl16 (v := v) (by omega)
    have k2 := or16 hio.o k1.1
    rw [k2.2 y hy, k1.2 y hy, Bool.or_eq_true, decide_eq_true_eq] at h'
    rcases h' with h' | h'
    · exact .inl (ih (by omega) h')
    · right; rw [h']
theorem wid_grow {i : Nat} : ∀ k, i + k ≤ order.length → (widTo m order i).2.2 ≤ (widTo m order (i + k)).2.2 := by
  intro k
  induction k with
  | zero => intro _; exact Int.le_refl _
  | succ k ih =>
    intro hk
    have h1 := ih (by omega)
    rw [← Nat.add_assoc, widTo_succ (by omega)]
    show _ ≤ max (widTo m order (i + k)).2.2 _
    omega
theorem first_in {P : Nat → Prop} (h0 : ¬ P 0) : ∀ n, P n → ∃ k, k < n ∧ ¬ P k ∧ P (k + 1) := by
  intro n
  induction n with
  | zero => intro h; exact absurd h h0
  | succ n ih =>
    intro h
    by_cases h1 : P n
    · obtain ⟨k, h2, h3⟩ := ih h1; exact ⟨k, by omega, h3⟩
    · exact ⟨n, by omega, h1, h⟩
theorem wid_pos (hM : MOk m) (ho : OrdOk m order) {x y : Nat} (hx : x < m.doms.length) (hy : y < m.doms.length) (hxy : hasB ((graphI m).getD x 0) (y : Int) = true) (hyx : hasB ((graphI m).getD y 0) (x : Int) = true) (hin : (x : Int) ∈ order) : 1 ≤ widI m order := by
  have hn := hM.n
  obtain ⟨k, hk, h1, h2⟩ := first_in (P := fun k => (x : Int) ∈ order.take k ∨ (y : Int) ∈ order.take k) (by simp) order.length (by rw [List.take_length]; exact .inl hin)
  have hio := wid_ok hM ho k (by omega)
  have key : ∀ a b : Nat, a < m.doms.length → b < m.doms.length → hasB ((graphI m).getD a 0) (b : Int) = true → order.getD k 0 = (a : Int) → ¬ (b : Int) ∈ order.take k → 1 ≤ widI m order := fun a b ha hb hab hka hnb => by
    have hkeep := wid_keep hM ho ha (by omega) hab k (by omega)
    obtain ⟨_, a2, _, _, a5⟩ := near_ok hio (by omega) ha
    have hbit : hasB (nearI (widTo m order k).1 (widTo m order k).2.1 (a : Int)) (b : Int) = true := by
      rw [a2 b (by omega), hkeep]
      cases h9 : hasB (widTo m order k).2.1 (b : Int) with
      | false => rfl
      | true => exact absurd (wid_gone hM ho (by omega) k (by omega) h9) hnb
    have hmem : (b : Int) ∈ membersTo (nearI (widTo m order k).1 (widTo m order k).2.1 (a : Int)) m.doms.length := memTo_mem.2 ⟨b, hb, rfl, hbit⟩
    have hpos := List.length_pos_of_mem hmem
    have hg := wid_grow (m := m) (order := order) (i := k + 1) (order.length - (k + 1)) (by omega)
    rw [show k + 1 + (order.length - (k + 1)) = order.length from by omega, widTo_succ hk, hka] at hg
    have hg' : max (widTo m order k).2.2 (popI (nearI (widTo m order k).1 (widTo m order k).2.1 (a : Int))) ≤ widI m order := hg
    rw [a5] at hg'
    omega
  simp only [not_or] at h1
  rw [take_succ_getD 0 hk, List.mem_append, List.mem_append, List.mem_singleton, List.mem_singleton] at h2
  rcases h2 with (h2 | h2) | (h2 | h2)
  · exact absurd h2 h1.1
  · exact key x y hx hy hxy h2.symm h1.2
  · exact absurd h2 h1.2
  · exact key y x hy hx hyx h2.symm h1.1
end wid
theorem adjB_symm (cs : List Con) (u v : Int) : adjB cs u v = adjB cs v u := by
  unfold adjB
  congr 1
  funext c
  unfold joins
  have e : decide (u ≠ v) = decide (v ≠ u) := decide_eq_decide.2 ⟨fun h e => h e.symm, fun h e => h e.symm⟩
  rw [e]
  cases c.vars.contains u <;> cases c.vars.contains v <;> simp
theorem nbI_at {m : Mod} (hM : MOk m) {v : Nat} (hv : v < m.doms.length) : nbI m (v : Int) = membersI ((graphI m).getD v 0) := by
  unfold nbI
  have e : varsInB m [(v : Int)] = true := by
    unfold varsInB
    simp only [Bool.and_eq_true, allInB_iff, List.mem_singleton]
    exact ⟨hM.v, fun x hx => by subst hx; omega⟩
  rw [e]; simp
theorem wd_none {m : Mod} (hM : MOk m) : (decide ((bestOrd m).2 = 0) == (List.range m.doms.length).all (fun v => decide (((nbI m ((v : Nat) : Int)).length : Int) = 0))) = true := by
  have hn := hM.n
  have hp := bo_perm hM
  have ho := ord_ok hn hp
  have hb := bo_w hM
  rw [beq_iff_eq, Bool.eq_iff_iff, decide_eq_true_eq, List.all_eq_true, hb]
  constructor
  · intro h v hv
    have hv := List.mem_range.1 hv
    rw [decide_eq_true_eq]
    cases h9 : nbI m (v : Int) with
    | nil => rfl
    | cons r rs =>
      exfalso
      have hr : r ∈ nbI m (v : Int) := by rw [h9]; exact .head _
      rw [nbI_at hM hv, membersI] at hr
      have hbt := (mem16 (graph_bit hM hv).1).1
      rw [membersI] at hbt
      rw [hbt] at hr
      obtain ⟨u, hu, _, hbit⟩ := memTo_mem.1 hr
      have h1 := hbit
      rw [(graph_bit hM hv).2 u hu, Bool.and_eq_true, decide_eq_true_eq] at h1
      have h2 : hasB ((graphI m).getD u 0) (v : Int) = true := by
        rw [(graph_bit hM h1.1).2 v (by omega), Bool.and_eq_true, decide_eq_true_eq, adjB_symm]; exact ⟨hv, h1.2⟩
      have h3 := bo_has hM hp hv
      have h4 := wid_pos hM ho hv h1.1 hbit h2 (by simpa using h3)
      omega
  · intro h
    refine (wid_none hM ho (fun x y hx hy => ?_) _ (Nat.le_refl _)).2
    have h1 := h x (List.mem_range.2 hx)
    rw [decide_eq_true_eq, nbI_at hM hx] at h1
    cases h9 : hasB ((graphI m).getD x 0) (y : Int) with
    | false => rfl
    | true =>
      have h2 : (y : Int) ∈ membersI ((graphI m).getD x 0) := by rw [(mem16 (graph_bit hM hx).1).1]; exact memTo_mem.2 ⟨y, hy, rfl, h9⟩
      have := List.length_pos_of_mem h2
      omega
theorem wd_ok {m : Mod} {order : List Int} {b : Bool} (h : (b || decide (elimW m order < 0)) = false) : elimOk m order = true := by
  simp only [Bool.or_eq_false_iff, decide_eq_false_iff_not] at h
  cases h9 : elimOk m order with
  | true => rfl
  | false => exact absurd (by unfold elimW; rw [h9, if_neg (by decide)]; omega) h.2
theorem wd_fin {m : Mod} {order : List Int} {b : Bool} {k : Nat} (h : elimOk m order = true) (hb : b = (List.range k).all (fun v => decide (((nbI m ((v : Nat) : Int)).length : Int) = 0))) (hk : k = m.doms.length) :
    (((decide ((bestOrd m).2 ≤ elimW m order) && decide (elimW m (bestOrd m).1 = (bestOrd m).2)) && (decide ((bestOrd m).2 = 0) == b)) && decide (elimW m order < (m.doms.length : Int))) = true := by
  obtain ⟨hM, ho, hl⟩ := elim_ok0 h
  have hp := bo_perm hM
  have e1 : elimW m order = widI m order := (elim_at1 h).symm
  have e2 : elimW m (bestOrd m).1 = widI m (bestOrd m).1 := (elim_at1 (ord_w hM hp)).symm
  rw [hb, hk, wd_none hM, e1, e2, ← bo_w hM, decide_eq_true (bo_min hM (ord_in h)), decide_eq_true (show widI m order < (m.doms.length : Int) from wid_lt hM ho _ (Nat.le_refl _))]
  simp
end Go.Proofs.Ytidllhcfcmjggaa
