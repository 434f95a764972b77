/- Plain law: the best order of a model, and of the model without a constraint. No program in sight. Conditions: none. -/
import Derived.Test.YtidllhcfcmjggaaPureF
namespace Go.Proofs.Ytidllhcfcmjggaa
open Go
set_option linter.unusedSimpArgs false
set_option linter.unusedVariables false
theorem bo_ge {m : Mod} (h : ¬ (bestOrd m).2 < 0) : MOk m := by
  by_cases hv : validModB m = true
  · exact ⟨hv⟩
  · rw [bo_no (by simpa using hv)] at h; exact absurd (by decide) h
theorem bo_perm {m : Mod} (hM : MOk m) : (bestOrd m).1 ∈ perms m.doms.length := by rw [bo_1 hM]; exact (ord_best hM.n _).1
theorem bo_w {m : Mod} (hM : MOk m) : (bestOrd m).2 = widI m (bestOrd m).1 := by rw [← bo_2 hM, bo_1 hM]
theorem bo_min {m : Mod} (hM : MOk m) {x : List Int} (h : x ∈ perms m.doms.length) : (bestOrd m).2 ≤ widI m x := by rw [← bo_2 hM]; exact (ord_best hM.n (widI m)).2 x h
theorem perms_e : ∀ n, n < 5 → 1 ≤ n → (perms n).all (fun x => (List.range n).all (fun v => x.contains ((v : Nat) : Int))) = true := by decide +kernel
theorem bo_has {m : Mod} (hM : MOk m) {x : List Int} (h : x ∈ perms m.doms.length) {v : Nat} (hv : v < m.doms.length) : x.contains (v : Int) = true := by
  have hn := hM.n
  have h1 := perms_e m.doms.length (by omega) hn.1
  rw [List.all_eq_true] at h1
  have h2 := h1 x h
  rw [List.all_eq_true] at h2
  exact h2 v (List.mem_range.2 hv)
/-! Fewer constraints: no larger width. -/
def SubB (n : Nat) (g' g : List Int) : Prop := ∀ x y : Nat, x < n → y < 4 → hasB (g'.getD x 0) (y : Int) = true → hasB (g.getD x 0) (y : Int) = true
theorem filt_le {n : Nat} {p q : Nat → Bool} (h : ∀ i, i < n → p i = true → q i = true) : ((List.range n).filter p).length ≤ ((List.range n).filter q).length := by
  rw [← List.countP_eq_length_filter, ← List.countP_eq_length_filter]
  exact List.countP_mono_left (fun i hi hp => h i (List.mem_range.1 hi) hp)
theorem mem_bit {N : Int} {n x : Nat} (hx : x < n) : decide ((x : Int) ∈ membersTo N n) = hasB N (x : Int) := by
  rw [Bool.eq_iff_iff, decide_eq_true_eq, memTo_mem]
  constructor
  · rintro ⟨u, _, e, h9⟩; rw [e]; exact h9
  · intro h9; exact ⟨x, hx, rfl, h9⟩
theorem sub_step {n : Nat} {g' g : List Int} {go : Int} (h' : IOk n g' go) (h : IOk n g go) (hn : n ≤ 4) (hs : SubB n g' g) {v : Nat} (hv : v < n) {w' w : Int} (hw : w' ≤ w) :
    SubB n (elimI (g', go, w') (v : Int)).1 (elimI (g, go, w) (v : Int)).1 ∧ (elimI (g', go, w') (v : Int)).2.2 ≤ (elimI (g, go, w) (v : Int)).2.2 := by
  obtain ⟨a1, a2, a3, a4, a5⟩ := near_ok h' hn hv
  obtain ⟨b1, b2, b3, b4, b5⟩ := near_ok h hn hv
  have hN : ∀ u : Nat, u < 4 → hasB (nearI g' go (v : Int)) (u : Int) = true → hasB (nearI g go (v : Int)) (u : Int) = true := fun u hu h9 => by
    rw [a2 u hu, Bool.and_eq_true] at h9
    rw [b2 u hu, Bool.and_eq_true]
    exact ⟨hs v u hv hu h9.1, h9.2⟩
  refine ⟨fun x y hx hy h9 => ?_, ?_⟩
  · have h8 : hasB (((membersI (nearI g' go (v : Int))).foldl (linkI (nearI g' go (v : Int))) g').getD x 0) (y : Int) = true := h9
    show hasB (((membersI (nearI g go (v : Int))).foldl (linkI (nearI g go (v : Int))) g).getD x 0) (y : Int) = true
    rw [(elim_bit h' hn hv hx).2 y hy, mem_bit hx] at h8
    rw [(elim_bit h hn hv hx).2 y hy, mem_bit hx]
    rw [Bool.or_eq_true] at h8 ⊢
    rcases h8 with h8 | h8
    · exact .inl (hs x y hx hy h8)
    · right
      rw [Bool.and_eq_true, Bool.and_eq_true] at h8 ⊢
      exact ⟨h8.1, hN x (by omega) h8.2.1, hN y hy h8.2.2⟩
  · show max w' (popI (nearI g' go (v : Int))) ≤ max w (popI (nearI g go (v : Int)))
    have h1 : popI (nearI g' go (v : Int)) ≤ popI (nearI g go (v : Int)) := by
      rw [a5, b5]
      unfold membersTo natsI
      rw [List.length_map, List.length_map]
      have := filt_le (n := n) (p := fun i => hasB (nearI g' go (v : Int)) ((i : Nat) : Int)) (q := fun i => hasB (nearI g go (v : Int)) ((i : Nat) : Int)) (fun i hi h9 => hN i (by omega) h9)
      omega
    omega
theorem adj_mono {cs' cs : List Con} (h : ∀ c ∈ cs', c ∈ cs) {u v : Int} (ha : adjB cs' u v = true) : adjB cs u v = true := by
  unfold adjB at *
  rw [List.any_eq_true] at *
  obtain ⟨c, h1, h2⟩ := ha
  exact ⟨c, h c h1, h2⟩
theorem widTo_0 (m : Mod) (order : List Int) : widTo m order 0 = (graphI m, 0, 0) := by unfold widTo; rw [List.take_zero, List.foldl_nil]
theorem wid_mono {m m' : Mod} (hM : MOk m) (hM' : MOk m') (hd : m'.doms = m.doms) (hc : ∀ c ∈ m'.cons, c ∈ m.cons) {order : List Int} (ho : OrdOk m order) : ∀ k, k ≤ order.length → (widTo m' order k).2.1 = (widTo m order k).2.1 ∧ SubB m.doms.length (widTo m' order k).1 (widTo m order k).1 ∧ (widTo m' order k).2.2 ≤ (widTo m order k).2.2 := by
  intro k
  induction k with
  | zero =>
    intro _
    rw [widTo_0, widTo_0]
    refine ⟨rfl, fun x y hx hy h' => ?_, Int.le_refl _⟩
    dsimp only at h' ⊢
    rw [(graph_bit hM' (by rw [hd]; exact hx)).2 y hy, Bool.and_eq_true, hd] at h'
    rw [(graph_bit hM hx).2 y hy, Bool.and_eq_true]
    exact ⟨h'.1, adj_mono hc h'.2⟩
  | succ k ih =>
    intro hk
    obtain ⟨h1, h2, h3⟩ := ih (by omega)
    clear ih
    have ho' : OrdOk m' order := fun v hv => by rw [hd]; exact ho v hv
    have i1 := wid_ok hM ho k (by omega)
    have i2 := wid_ok hM' ho' k (by omega)
    rw [hd] at i2
    have hn := hM.n
    have hat := ho.at (k := k) (by omega)
    obtain ⟨v, hv⟩ : ∃ v : Nat, order.getD k 0 = (v : Int) := ⟨(order.getD k 0).toNat, by omega⟩
    rw [widTo_succ (m := m') (by omega), widTo_succ (m := m) (by omega), hv]
    rw [hv] at hat
    generalize widTo m' order k = s' at h1 h2 h3 i2 ⊢
    generalize widTo m order k = s at h1 h2 h3 i1 ⊢
    obtain ⟨g', go', w'⟩ := s'
    obtain ⟨g, go, w⟩ := s
    dsimp only at h1 h2 h3 i1 i2
    subst h1
    have := sub_step i2 i1 (by omega) h2 (v := v) (by omega) h3
    exact ⟨by show ior go' (ishl 1 (v : Int)) = ior go' (ishl 1 (v : Int)); rfl, this.1, this.2⟩
/-- The model without its constraint i. -/
def woI (m : Mod) (i : Nat) : Mod := ⟨m.doms, m.cons.take i ++ m.cons.drop (i + 1)⟩
theorem wo_sub {m : Mod} {i : Nat} : ∀ c ∈ (woI m i).cons, c ∈ m.cons := fun c hc => by
  unfold woI at hc
  rw [List.mem_append] at hc
  rcases hc with hc | hc
  · exact List.mem_of_mem_take hc
  · exact List.mem_of_mem_drop hc
theorem wo_validI {m : Mod} (hM : MOk m) (i : Nat) : MOk (woI m i) := by
  have h := hM.v
  refine ⟨?_⟩
  simp only [validModB, Bool.and_eq_true, decide_eq_true_eq, List.all_eq_true] at h ⊢
  refine ⟨⟨h.1.1, ?_⟩, fun c hc => h.2 c (wo_sub c hc)⟩
  have h9 := h.1.2
  have : (woI m i).cons.length ≤ m.cons.length := by
    show (m.cons.take i ++ m.cons.drop (i + 1)).length ≤ m.cons.length
    rw [List.length_append, List.length_take, List.length_drop]; omega
  omega
theorem bo_mono {m : Mod} (hM : MOk m) (i : Nat) : (bestOrd (woI m i)).2 ≤ (bestOrd m).2 := by
  have hM' := wo_validI hM i
  have hp := bo_perm hM
  have ho := ord_ok hM.n hp
  have h1 := bo_min hM' (x := (bestOrd m).1) hp
  have h2 := (wid_mono hM hM' rfl wo_sub ho _ (Nat.le_refl _)).2.2
  rw [bo_w hM]
  unfold widI at *
  omega
theorem bo_gt {m : Mod} (hM : MOk m) {i : Nat} {z : Mod} (hz : z = woI m i) (h : (bestOrd m).2 < (bestOrd z).2) : False := by
  have := bo_mono hM i; rw [hz] at h; omega
theorem bo_g {m : Mod} {b : Bool} (h : (b || decide ((bestOrd m).2 < 0)) = false) : MOk m := by
  simp only [Bool.or_eq_false_iff, decide_eq_false_iff_not] at h
  exact bo_ge h.2
theorem bo_fin {m : Mod} (hM : MOk m) : decide (((bestOrd m).1.length : Int) = (m.doms.length : Int)) = true := by
  rw [decide_eq_true_eq, (ord_all hM.n (bo_perm hM)).1]
theorem bo_out {m : Mod} (hM : MOk m) {v : Nat} (hv : v < m.doms.length) (h : (!((bestOrd m).1.contains (v : Int))) = true) : False := by
  rw [bo_has hM (bo_perm hM) hv] at h; cases h
end Go.Proofs.Ytidllhcfcmjggaa
