/- Plain law: elimination of variables: masks and a matrix give the same width. No program in sight. Conditions: none. -/
import Derived.Test.YtidllhcfcmjggaaPureT
namespace Go.Proofs.Ytidllhcfcmjggaa
open Go
set_option linter.unusedSimpArgs false
set_option linter.unusedVariables false
theorem andNot16 {a b : Int} (ha : 0 ≤ a ∧ a < 16) (hb : 0 ≤ b ∧ b < 16) : (0 ≤ iandNot a b ∧ iandNot a b < 16) ∧ ∀ u : Nat, u < 4 → hasB (iandNot a b) (u : Int) = (hasB a (u : Int) && !(hasB b (u : Int))) := by
  have key : ∀ i, i < 16 → ∀ j, j < 16 → (0 ≤ iandNot ((i : Nat) : Int) ((j : Nat) : Int) ∧ iandNot ((i : Nat) : Int) ((j : Nat) : Int) < 16) ∧ ∀ u : Nat, u < 4 → hasB (iandNot ((i : Nat) : Int) ((j : Nat) : Int)) (u : Int) = (hasB ((i : Nat) : Int) (u : Int) && !(hasB ((j : Nat) : Int) (u : Int))) := by decide +kernel
  obtain ⟨i, rfl⟩ := Int.eq_ofNat_of_zero_le ha.1
  obtain ⟨j, rfl⟩ := Int.eq_ofNat_of_zero_le hb.1
  exact key i (by omega) j (by omega)
theorem or16 {a b : Int} (ha : 0 ≤ a ∧ a < 16) (hb : 0 ≤ b ∧ b < 16) : (0 ≤ ior a b ∧ ior a b < 16) ∧ ∀ u : Nat, u < 4 → hasB (ior a b) (u : Int) = (hasB a (u : Int) || hasB b (u : Int)) := by
  have key : ∀ i, i < 16 → ∀ j, j < 16 → (0 ≤ ior ((i : Nat) : Int) ((j : Nat) : Int) ∧ ior ((i : Nat) : Int) ((j : Nat) : Int) < 16) ∧ ∀ u : Nat, u < 4 → hasB (ior ((i : Nat) : Int) ((j : Nat) : Int)) (u : Int) = (hasB ((i : Nat) : Int) (u : Int) || hasB ((j : Nat) : Int) (u : Int)) := by decide +kernel
  obtain ⟨i, rfl⟩ := Int.eq_ofNat_of_zero_le ha.1
  obtain ⟨j, rfl⟩ := Int.eq_ofNat_of_zero_le hb.1
  exact key i (by omega) j (by omega)
theorem shl16 {v : Nat} (h : v < 4) : (0 ≤ ishl 1 (v : Int) ∧ ishl 1 (v : Int) < 16) ∧ ∀ u : Nat, u < 4 → hasB (ishl 1 (v : Int)) (u : Int) = decide (u = v) := by
  have key : ∀ v, v < 4 → (0 ≤ ishl 1 ((v : Nat) : Int) ∧ ishl 1 ((v : Nat) : Int) < 16) ∧ ∀ u : Nat, u < 4 → hasB (ishl 1 ((v : Nat) : Int)) (u : Int) = decide (u = v) := by decide +kernel
  exact key v h
theorem mem16 {b : Int} (h : 0 ≤ b ∧ b < 16) : membersI b = membersTo b 4 ∧ popI b = ((membersTo b 4).length : Int) := by
  have key : ∀ i, i < 16 → membersI ((i : Nat) : Int) = membersTo ((i : Nat) : Int) 4 ∧ popI ((i : Nat) : Int) = ((membersTo ((i : Nat) : Int) 4).length : Int) := by decide +kernel
  obtain ⟨i, rfl⟩ := Int.eq_ofNat_of_zero_le h.1
  exact key i (by omega)
theorem memTo_cut {b : Int} {n : Nat} : ∀ k : Nat, (∀ y, n ≤ y → y < n + k → hasB b (y : Int) = false) → membersTo b (n + k) = membersTo b n
  | 0, _ => rfl
  | k + 1, h => by
    have h1 := memTo_cut k (fun y h1 h2 => h y h1 (by omega))
    rw [← h1]
    unfold membersTo
    rw [← Nat.add_assoc, filter_succ, if_neg (by rw [h (n + k) (by omega) (by omega)]; simp), List.append_nil]
theorem memTo_mem {b : Int} {k : Nat} {r : Int} : r ∈ membersTo b k ↔ ∃ u : Nat, u < k ∧ r = (u : Int) ∧ hasB b (u : Int) = true := by
  unfold membersTo natsI
  rw [List.mem_map]
  constructor
  · rintro ⟨u, h, rfl⟩; rw [List.mem_filter, List.mem_range] at h; exact ⟨u, h.1, rfl, h.2⟩
  · rintro ⟨u, h1, rfl, h2⟩; exact ⟨u, List.mem_filter.2 ⟨List.mem_range.2 h1, h2⟩, rfl⟩
theorem memTo_nodup (b : Int) (k : Nat) : (membersTo b k).Pairwise (· ≠ ·) := by
  unfold membersTo natsI
  rw [List.pairwise_map]
  refine (List.Pairwise.filter _ (List.nodup_range)).imp (fun h e => h (by omega))
/-! The walk with masks. -/
def nearI (g : List Int) (go v : Int) : Int := iandNot (g.getD v.toNat 0) go
def linkI (near : Int) (g : List Int) (a : Int) : List Int := g.set a.toNat (ior (g.getD a.toNat 0) (iandNot near (ishl 1 a)))
def elimI (s : List Int × Int × Int) (v : Int) : List Int × Int × Int := ((membersI (nearI s.1 s.2.1 v)).foldl (linkI (nearI s.1 s.2.1 v)) s.1, ior s.2.1 (ishl 1 v), max s.2.2 (popI (nearI s.1 s.2.1 v)))
def widTo (m : Mod) (order : List Int) (k : Nat) : List Int × Int × Int := (order.take k).foldl elimI (graphI m, 0, 0)
def widI (m : Mod) (order : List Int) : Int := (widTo m order order.length).2.2
theorem widTo_succ {m : Mod} {order : List Int} {k : Nat} (h : k < order.length) : widTo m order (k + 1) = elimI (widTo m order k) (order.getD k 0) := by
  unfold widTo; rw [take_succ_getD 0 h, List.foldl_append]; rfl
structure IOk (n : Nat) (g : List Int) (go : Int) : Prop where
  l : g.length = n
  m : ∀ x, x < n → 0 ≤ g.getD x 0 ∧ g.getD x 0 < 16
  o : 0 ≤ go ∧ go < 16
  hi : ∀ x, x < n → ∀ y : Nat, n ≤ y → y < 4 → hasB (g.getD x 0) (y : Int) = false
  ir : ∀ x, x < n → hasB (g.getD x 0) (x : Int) = false
theorem fold_link {near : Int} : ∀ (rs : List Int) (g : List Int), (∀ r ∈ rs, 0 ≤ r ∧ r < (g.length : Int)) → rs.Pairwise (· ≠ ·) → (rs.foldl (linkI near) g).length = g.length ∧
    ∀ x : Nat, x < g.length → (rs.foldl (linkI near) g).getD x 0 = if (x : Int) ∈ rs then ior (g.getD x 0) (iandNot near (ishl 1 (x : Int))) else g.getD x 0
  | [], g, _, _ => ⟨rfl, fun x _ => by simp⟩
  | r :: rs, g, h, nd => by
    have hr := h r (.head _)
    obtain ⟨nd1, nd2⟩ := List.pairwise_cons.1 nd
    have hl : (linkI near g r).length = g.length := by unfold linkI; simp
    obtain ⟨h1, h2⟩ := fold_link (near := near) rs (linkI near g r) (fun q hq => by rw [hl]; exact h q (.tail _ hq)) nd2
    rw [List.foldl_cons]
    refine ⟨by rw [h1, hl], fun x hx => ?_⟩
    rw [h2 x (by omega)]
    by_cases e : (x : Int) = r
    · subst e
      rw [if_neg (fun hm => nd1 _ hm rfl), if_pos (.head _)]
      unfold linkI; simp [List.getD, hx]
    · have e3 : (linkI near g r).getD x 0 = g.getD x 0 := by
        unfold linkI
        have e4 : r.toNat ≠ x := fun e5 => e (by omega)
        simp [List.getD, List.getElem?_set, e4]
      rw [e3]
      by_cases hm : (x : Int) ∈ rs
      · rw [if_pos hm, if_pos (.tail _ hm)]
      · rw [if_neg hm, if_neg (by rw [List.mem_cons]; rintro (h9 | h9); exact e h9; exact hm h9)]
section elim
variable {n : Nat} {g : List Int} {go : Int} {v : Nat}
theorem near_ok (h : IOk n g go) (hn : n ≤ 4) (hv : v < n) : (0 ≤ nearI g go (v : Int) ∧ nearI g go (v : Int) < 16) ∧ (∀ u : Nat, u < 4 → hasB (nearI g go (v : Int)) (u : Int) = (hasB (g.getD v 0) (u : Int) && !(hasB go (u : Int)))) ∧ (∀ u : Nat, n ≤ u → u < 4 → hasB (nearI g go (v : Int)) (u : Int) = false) ∧
    membersI (nearI g go (v : Int)) = membersTo (nearI g go (v : Int)) n ∧ popI (nearI g go (v : Int)) = ((membersTo (nearI g go (v : Int)) n).length : Int) := by
  have h1 := andNot16 (h.m v hv) h.o
  have e : nearI g go (v : Int) = iandNot (g.getD v 0) go := by unfold nearI; simp
  rw [e]
  have h3 : ∀ u : Nat, n ≤ u → u < 4 → hasB (iandNot (g.getD v 0) go) (u : Int) = false := fun u hu h4 => by rw [h1.2 u h4, h.hi v hv u hu h4]; rfl
  have h4 := mem16 h1.1
  have h5 := memTo_cut (b := iandNot (g.getD v 0) go) (n := n) (4 - n) (fun y h6 h7 => h3 y h6 (by omega))
  rw [show n + (4 - n) = 4 from by omega] at h5
  exact ⟨h1.1, h1.2, h3, by rw [h4.1, h5], by rw [h4.2, h5]⟩
theorem elim_at (h : IOk n g go) (hn : n ≤ 4) (hv : v < n) {x : Nat} (hx : x < n) : ((membersI (nearI g go (v : Int))).foldl (linkI (nearI g go (v : Int))) g).getD x 0 = if (x : Int) ∈ membersTo (nearI g go (v : Int)) n then ior (g.getD x 0) (iandNot (nearI g go (v : Int)) (ishl 1 (x : Int))) else g.getD x 0 := by
  obtain ⟨h1, h2, h3, h4, h5⟩ := near_ok h hn hv
  rw [h4]
  exact (fold_link _ g (fun r hr => by obtain ⟨u, hu, rfl, _⟩ := memTo_mem.1 hr; rw [h.l]; omega) (memTo_nodup _ _)).2 x (by rw [h.l]; exact hx)
theorem elim_bit (h : IOk n g go) (hn : n ≤ 4) (hv : v < n) {x : Nat} (hx : x < n) : (0 ≤ ((membersI (nearI g go (v : Int))).foldl (linkI (nearI g go (v : Int))) g).getD x 0 ∧ ((membersI (nearI g go (v : Int))).foldl (linkI (nearI g go (v : Int))) g).getD x 0 < 16) ∧
    ∀ y : Nat, y < 4 → hasB (((membersI (nearI g go (v : Int))).foldl (linkI (nearI g go (v : Int))) g).getD x 0) (y : Int) = (hasB (g.getD x 0) (y : Int) || (decide (x ≠ y) && (decide ((x : Int) ∈ membersTo (nearI g go (v : Int)) n) && hasB (nearI g go (v : Int)) (y : Int)))) := by
  obtain ⟨h1, h2, h3, h4, h5⟩ := near_ok h hn hv
  rw [elim_at h hn hv hx]
  by_cases hm : (x : Int) ∈ membersTo (nearI g go (v : Int)) n
  · rw [if_pos hm]
    have k1 := shl16 (v := x) (by omega)
    have k2 := andNot16 h1 k1.1
    have k3 := or16 (h.m x hx) k2.1
    refine ⟨k3.1, fun y hy => ?_⟩
    rw [k3.2 y hy, k2.2 y hy, k1.2 y hy, decide_eq_true hm, Bool.true_and]
    by_cases e : x = y
    · subst e; simp
    · have e' : y ≠ x := fun h => e h.symm
      simp [e, e']
  · rw [if_neg hm, decide_eq_false hm]
    exact ⟨h.m x hx, fun y hy => by simp⟩
theorem elim_ok (h : IOk n g go) (hn : n ≤ 4) (hv : v < n) (w : Int) : IOk n (elimI (g, go, w) (v : Int)).1 (elimI (g, go, w) (v : Int)).2.1 := by
  obtain ⟨h1, h2, h3, h4, h5⟩ := near_ok h hn hv
  have k1 := shl16 (v := v) (by omega)
  have k2 := or16 h.o k1.1
  refine ⟨?_, fun x hx => (elim_bit h hn hv hx).1, k2.1, fun x hx y hy h6 => ?_, fun x hx => ?_⟩
  · show ((membersI (nearI g go (v : Int))).foldl (linkI (nearI g go (v : Int))) g).length = n
    rw [h4, (fold_link _ g (fun r hr => by obtain ⟨u, hu, rfl, _⟩ := memTo_mem.1 hr; rw [h.l]; omega) (memTo_nodup _ _)).1, h.l]
  · show hasB (((membersI (nearI g go (v : Int))).foldl (linkI (nearI g go (v : Int))) g).getD x 0) (y : Int) = false
    rw [(elim_bit h hn hv hx).2 y h6, h.hi x hx y hy h6, h3 y hy h6]; simp
  · show hasB (((membersI (nearI g go (v : Int))).foldl (linkI (nearI g go (v : Int))) g).getD x 0) (x : Int) = false
    rw [(elim_bit h hn hv hx).2 x (by omega), h.ir x hx]; simp
end elim
theorem adjB_irr (cs : List Con) (u : Int) : adjB cs u u = false := by
  unfold adjB joins; rw [List.any_eq_false]; intro c _; simp
theorem graph_bit {m : Mod} (hM : MOk m) {x : Nat} (hx : x < m.doms.length) : (0 ≤ (graphI m).getD x 0 ∧ (graphI m).getD x 0 < 16) ∧ ∀ y : Nat, y < 4 → hasB ((graphI m).getD x 0) (y : Int) = (decide (y < m.doms.length) && adjB m.cons (x : Int) (y : Int)) := by
  have hn := hM.n
  obtain ⟨h1, h2⟩ := graphI_mask (m := m) (by omega) hM.i
  obtain ⟨z, h3, h4⟩ := h2 x hx
  have hz : z < 16 := by
    have : z < 2 ^ 4 := Nat.lt_pow_two_of_testBit _ (fun i hi => by
      cases e : z.testBit i with
      | false => rfl
      | true => have := (h4 i).1 e; omega)
    simpa using this
  rw [h3]
  refine ⟨by omega, fun y hy => ?_⟩
  rw [hasB_nat (by omega) (by omega), Bool.eq_iff_iff, h4 y]; simp
theorem giok {m : Mod} (hM : MOk m) : IOk m.doms.length (graphI m) 0 := by
  have hn := hM.n
  refine ⟨(graphI_mask (m := m) (by omega) hM.i).1, fun x hx => (graph_bit hM hx).1, by decide, fun x hx y h1 h2 => ?_, fun x hx => ?_⟩
  · rw [(graph_bit hM hx).2 y h2, decide_eq_false (by omega)]; rfl
  · rw [(graph_bit hM hx).2 x (by omega), adjB_irr]; simp
/-- The orders that are looked at: variables of the model. -/
def OrdOk (m : Mod) (order : List Int) : Prop := ∀ v ∈ order, (0 : Int) ≤ v ∧ v < m.doms.length
theorem OrdOk.at {m : Mod} {order : List Int} (h : OrdOk m order) {k : Nat} (hk : k < order.length) : 0 ≤ order.getD k 0 ∧ order.getD k 0 < (m.doms.length : Int) := h _ (getD_mem hk)
theorem wid_ok {m : Mod} {order : List Int} (hM : MOk m) (ho : OrdOk m order) : ∀ k, k ≤ order.length → IOk m.doms.length (widTo m order k).1 (widTo m order k).2.1
  | 0, _ => giok hM
  | k + 1, hk => by
    have h := wid_ok hM ho k (by omega)
    have hv := ho.at (k := k) (by omega)
    have hn := hM.n
    rw [widTo_succ (by omega)]
    have := elim_ok h (by omega) (v := (order.getD k 0).toNat) (by omega) (widTo m order k).2.2
    rw [show (((order.getD k 0).toNat : Nat) : Int) = order.getD k 0 from by omega] at this
    exact this
theorem wid_le {m : Mod} {order : List Int} : ∀ k, 0 ≤ (widTo m order k).2.2 ∧ (widTo m order k).2.2 ≤ 6 := by
  intro k
  unfold widTo
  have key : ∀ (os : List Int) (s : List Int × Int × Int), 0 ≤ s.2.2 ∧ s.2.2 ≤ 6 → 0 ≤ (os.foldl elimI s).2.2 ∧ (os.foldl elimI s).2.2 ≤ 6 := by
    intro os
    induction os with
    | nil => intro s h; exact h
    | cons v os ih =>
      intro s h
      rw [List.foldl_cons]
      refine ih _ ?_
      have h1 := popI_le (nearI s.1 s.2.1 v)
      show 0 ≤ max s.2.2 (popI (nearI s.1 s.2.1 v)) ∧ max s.2.2 (popI (nearI s.1 s.2.1 v)) ≤ 6
      omega
  exact key _ _ (by show (0:Int) ≤ 0 ∧ (0:Int) ≤ 6; omega)
/-! The matrix. -/
structure SRel (n : Nat) (g : List Int) (go : Int) (gs : List (List Bool)) (gn : List Bool) : Prop where
  i : IOk n g go
  ls : gs.length = n
  lr : ∀ x, x < n → (gs.getD x []).length = n
  ln : gn.length = n
  e : ∀ x y, x < n → y < n → (gs.getD x []).getD y false = hasB (g.getD x 0) (y : Int)
  o : ∀ y, y < n → gn.getD y false = hasB go (y : Int)
def gsRow (m : Mod) (u : Nat) : List Bool := (List.range m.doms.length).map (fun v => adjB m.cons (u : Int) ((v : Nat) : Int))
def gsTo (m : Mod) (k : Nat) : List (List Bool) := (List.range k).map (gsRow m)
theorem hasB_0 (u : Nat) (hu : u < 4) : hasB 0 (u : Int) = false := by
  have key : ∀ u, u < 4 → hasB 0 ((u : Nat) : Int) = false := by decide +kernel
  exact key u hu
theorem srel_0 {m : Mod} (hM : MOk m) : SRel m.doms.length (graphI m) 0 (gsTo m m.doms.length) (List.replicate m.doms.length false) := by
  have hn := hM.n
  have hg : ∀ x, x < m.doms.length → (gsTo m m.doms.length).getD x [] = gsRow m x := fun x hx => by unfold gsTo; simp [List.getD, hx]
  refine ⟨giok hM, by simp [gsTo], fun x hx => by rw [hg x hx]; simp [gsRow], by simp, fun x y hx hy => ?_, fun y hy => ?_⟩
  · rw [hg x hx, (graph_bit hM hx).2 y (by omega), decide_eq_true hy]
    unfold gsRow; simp [List.getD, hy]
  · rw [hasB_0 y (by omega)]; simp [List.getD, hy]
section srel
variable {n : Nat} {g : List Int} {go : Int} {gs : List (List Bool)} {gn : List Bool} {v : Nat}
theorem rest_c (h : SRel n g go gs gn) (hn : n ≤ 4) (hv : v < n) {u : Nat} (hu : u < n) : ((gs.getD v []).getD u false && !((gn.set v true).getD u false)) = hasB (nearI g go (v : Int)) (u : Int) := by
  obtain ⟨h1, h2, h3, h4, h5⟩ := near_ok h.i hn hv
  rw [h2 u (by omega), h.e v u hv hu]
  by_cases e : v = u
  · subst e; rw [h.i.ir v hv]; rfl
  · rw [show (gn.set v true).getD u false = gn.getD u false from by simp [List.getD, List.getElem?_set, e], h.o u hu]
structure SUp (n : Nat) (g : List Int) (rest : List Int) (a b : Nat) (gs : List (List Bool)) : Prop where
  ls : gs.length = n
  lr : ∀ x, x < n → (gs.getD x []).length = n
  e : ∀ x y : Nat, x < n → y < n → (gs.getD x []).getD y false = (hasB (g.getD x 0) (y : Int) || (decide (x ≠ y) && ((decide ((x : Int) ∈ rest.take a) && decide ((y : Int) ∈ rest)) || (decide ((x : Int) = rest.getD a 0) && decide ((y : Int) ∈ rest.take b)))))
theorem SRel.up (h : SRel n g go gs gn) (rest : List Int) : SUp n g rest 0 0 gs := ⟨h.ls, h.lr, fun x y hx hy => by rw [h.e x y hx hy]; simp⟩
theorem SUp.step {rest : List Int} {a b : Nat} (h : SUp n g rest a b gs) (hr : ∀ r ∈ rest, 0 ≤ r ∧ r < (n : Int)) (nd : rest.Pairwise (· ≠ ·)) (ha : a < rest.length) (hb : b < rest.length) {c : Bool} (hc : c = ((gs.getD (rest.getD a 0).toNat []).getD (rest.getD b 0).toNat false || decide (a ≠ b))) :
    SUp n g rest a (b + 1) (gs.set (rest.getD a 0).toNat ((gs.getD (rest.getD a 0).toNat []).set (rest.getD b 0).toNat c)) := by
  have h1 := hr _ (getD_mem (d := (0 : Int)) ha)
  have h2 := hr _ (getD_mem (d := (0 : Int)) hb)
  obtain ⟨p, hp⟩ : ∃ p : Nat, rest.getD a 0 = (p : Int) := ⟨(rest.getD a 0).toNat, by omega⟩
  obtain ⟨q, hq⟩ : ∃ q : Nat, rest.getD b 0 = (q : Int) := ⟨(rest.getD b 0).toNat, by omega⟩
  have hpq : a ≠ b ↔ p ≠ q := by
    constructor
    · intro e e2
      have e3 : rest.getD a 0 = rest.getD b 0 := by rw [hp, hq, e2]
      rw [List.getD_eq_getElem?_getD, List.getElem?_eq_getElem ha, List.getD_eq_getElem?_getD, List.getElem?_eq_getElem hb, Option.getD_some, Option.getD_some] at e3
      rcases Nat.lt_or_gt_of_ne e with h9 | h9
      · exact List.pairwise_iff_getElem.1 nd a b ha hb h9 e3
      · exact List.pairwise_iff_getElem.1 nd b a hb ha h9 e3.symm
    · intro e e2; subst e2; exact e (by have := hp.symm.trans hq; omega)
  rw [hp, hq] at hc ⊢
  rw [hp] at h1
  rw [hq] at h2
  simp only [Int.toNat_natCast] at hc ⊢
  have hls := h.ls
  refine ⟨by simp [hls], fun x hx => ?_, fun x y hx hy => ?_⟩
  · by_cases e : p = x
    · subst e; rw [show (gs.set p ((gs.getD p []).set q c)).getD p [] = (gs.getD p []).set q c from by simp [List.getD, show p < gs.length by omega], List.length_set]; exact h.lr p hx
    · rw [show (gs.set p ((gs.getD p []).set q c)).getD x [] = gs.getD x [] from by simp [List.getD, List.getElem?_set, e]]; exact h.lr x hx
  · have h0 := h.e x y hx hy
    rw [hp]
    have htk : decide ((y : Int) ∈ rest.take (b + 1)) = (decide ((y : Int) ∈ rest.take b) || decide (y = q)) := by
      rw [take_succ_getD 0 hb, hq, Bool.eq_iff_iff]; simp only [List.mem_append, List.mem_singleton, decide_eq_true_eq, Bool.or_eq_true]; rw [Int.natCast_inj]
    rw [htk]
    by_cases e : p = x
    · subst e
      rw [show (gs.set p ((gs.getD p []).set q c)).getD p [] = (gs.getD p []).set q c from by simp [List.getD, show p < gs.length by omega]]
      by_cases e2 : q = y
      · subst e2
        have hl := h.lr p hx
        have e3 : ((gs.getD p []).set q c).getD q false = c := by
          rw [List.getD_eq_getElem?_getD, List.getElem?_set_self (by omega)]; rfl
        rw [e3, hc, h0, hp]
        have e4 : decide (a ≠ b) = decide (p ≠ q) := by rw [Bool.eq_iff_iff]; simpa using hpq
        rw [e4]
        cases hasB (g.getD p 0) (q : Int) <;> cases decide (p ≠ q) <;> simp
      · have e3 : ((gs.getD p []).set q c).getD y false = (gs.getD p []).getD y false := by
          rw [List.getD_eq_getElem?_getD, List.getElem?_set_ne e2, ← List.getD_eq_getElem?_getD]
        have e4 : decide (y = q) = false := decide_eq_false (fun h => e2 h.symm)
        rw [e3, h0, hp, e4, Bool.or_false]
    · rw [show (gs.set p ((gs.getD p []).set q c)).getD x [] = gs.getD x [] from by simp [List.getD, List.getElem?_set, e]]
      have e4 : decide ((x : Int) = (p : Int)) = false := decide_eq_false (fun h => e (by omega))
      rw [h0, hp, e4, Bool.false_and, Bool.false_and]
theorem SUp.next {rest : List Int} {a b : Nat} (h : SUp n g rest a b gs) (ha : a < rest.length) (hb : b = rest.length) : SUp n g rest (a + 1) 0 gs := by
  refine ⟨h.ls, h.lr, fun x y hx hy => ?_⟩
  rw [h.e x y hx hy, hb, List.take_length, take_succ_getD 0 ha]
  have e : decide ((x : Int) ∈ rest.take a ++ [rest.getD a 0]) = (decide ((x : Int) ∈ rest.take a) || decide ((x : Int) = rest.getD a 0)) := by rw [Bool.eq_iff_iff]; simp
  rw [e]
  simp only [List.take_zero, List.not_mem_nil, decide_false, Bool.and_false, Bool.or_false]
  cases decide ((x : Int) ∈ rest.take a) <;> cases decide ((y : Int) ∈ rest) <;> cases decide ((x : Int) = rest.getD a 0) <;> rfl
theorem SUp.fin {rest : List Int} {a : Nat} {gs2 : List (List Bool)} (h : SRel n g go gs gn) (hn : n ≤ 4) (hv : v < n) (hr : rest = membersTo (nearI g go (v : Int)) n) (hu : SUp n g rest a 0 gs2) (ha : a = rest.length) (w : Int) : SRel n (elimI (g, go, w) (v : Int)).1 (elimI (g, go, w) (v : Int)).2.1 gs2 (gn.set v true) := by
  obtain ⟨h1, h2, h3, h4, h5⟩ := near_ok h.i hn hv
  have k1 := shl16 (v := v) (by omega)
  have k2 := or16 h.i.o k1.1
  refine ⟨elim_ok h.i hn hv w, hu.ls, hu.lr, by simp [h.ln], fun x y hx hy => ?_, fun y hy => ?_⟩
  · show (gs2.getD x []).getD y false = hasB (((membersI (nearI g go (v : Int))).foldl (linkI (nearI g go (v : Int))) g).getD x 0) (y : Int)
    rw [(elim_bit h.i hn hv hx).2 y (by omega), hu.e x y hx hy, ha, List.take_length, hr]
    have e : decide ((y : Int) ∈ membersTo (nearI g go (v : Int)) n) = hasB (nearI g go (v : Int)) (y : Int) := by
      rw [Bool.eq_iff_iff, decide_eq_true_eq, memTo_mem]
      constructor
      · rintro ⟨u, _, e, h9⟩; rw [e]; exact h9
      · intro h9; exact ⟨y, hy, rfl, h9⟩
    rw [e]; simp
  · show (gn.set v true).getD y false = hasB (ior go (ishl 1 (v : Int))) (y : Int)
    rw [k2.2 y (by omega), k1.2 y (by omega)]
    by_cases e : v = y
    · subst e
      have := h.ln
      rw [List.getD_eq_getElem?_getD, List.getElem?_set_self (by omega)]; simp
    · rw [show (gn.set v true).getD y false = gn.getD y false from by simp [List.getD, List.getElem?_set, e], h.o y hy, decide_eq_false (fun h => e h.symm), Bool.or_false]
end srel
/-! The width of an order, if it is one. -/
def elimOk (m : Mod) (order : List Int) : Bool := (varsInB m order && decide ((order.length : Int) = (m.doms.length : Int))) && distinctB order
def elimW (m : Mod) (order : List Int) : Int := if elimOk m order = true then widI m order else -1
theorem mem_at {N : Int} {n j : Nat} (h : membersI N = membersTo N n) (hj : j < (membersI N).length) : 0 ≤ (membersI N).getD j 0 ∧ (membersI N).getD j 0 < (n : Int) := by
  have h1 := getD_mem (d := (0 : Int)) hj
  rw [h] at h1 ⊢
  obtain ⟨u, h2, h3, _⟩ := memTo_mem.1 h1
  rw [h3]; omega
theorem wrap32 {x : Int} (h : 0 ≤ x ∧ x < 16) : IntKind.wrap .u32 x = x := by
  have key : ∀ i, i < 16 → IntKind.wrap .u32 ((i : Nat) : Int) = ((i : Nat) : Int) := by decide +kernel
  obtain ⟨i, rfl⟩ := Int.eq_ofNat_of_zero_le h.1
  exact key i (by omega)
def permB (xs : List Int) (n : Int) : Bool := (decide ((xs.length : Int) = n) && allInB xs 0 (n - 1)) && distinctB xs
theorem elim_ok0 {m : Mod} {order : List Int} (h : elimOk m order = true) : MOk m ∧ OrdOk m order ∧ order.length = m.doms.length := by
  unfold elimOk varsInB at h
  simp only [Bool.and_eq_true, decide_eq_true_eq, allInB_iff] at h
  obtain ⟨⟨⟨h1, h2⟩, h3⟩, h4⟩ := h
  exact ⟨⟨h1⟩, fun v hv => by have := h2 v hv; omega, by omega⟩
theorem elimI_c (m : Mod) (order : List Int) : ((!(varsInB m order) || decide ((order.length : Int) ≠ (m.doms.length : Int))) || !(distinctB order)) = !(elimOk m order) := by
  unfold elimOk
  have e : decide ((order.length : Int) ≠ (m.doms.length : Int)) = !(decide ((order.length : Int) = (m.doms.length : Int))) := by rw [Bool.eq_iff_iff]; simp
  rw [e]
  cases varsInB m order <;> cases decide ((order.length : Int) = (m.doms.length : Int)) <;> cases distinctB order <;> rfl
theorem elimS_c (m : Mod) (order : List Int) : (!(validModB m) || !(permB order (m.doms.length : Int))) = !(elimOk m order) := by
  unfold elimOk varsInB permB
  cases validModB m <;> cases allInB order 0 ((m.doms.length : Int) - 1) <;> cases decide ((order.length : Int) = (m.doms.length : Int)) <;> cases distinctB order <;> rfl
theorem elim_yes {m : Mod} {order : List Int} {b : Bool} (e : b = !(elimOk m order)) (h : b = false) : elimOk m order = true := by
  rw [h] at e; cases h9 : elimOk m order with
  | true => rfl
  | false => rw [h9] at e; cases e
theorem elim_no {m : Mod} {order : List Int} {b : Bool} (e : b = !(elimOk m order)) (h : b = true) : -1 = elimW m order := by
  unfold elimW
  rw [h] at e; cases h9 : elimOk m order with
  | true => rw [h9] at e; cases e
  | false => rfl
theorem elim_at1 {m : Mod} {order : List Int} (h : elimOk m order = true) : widI m order = elimW m order := by unfold elimW; rw [if_pos h]
def gsrTo (m : Mod) (u v : Nat) : List Bool := (List.range m.doms.length).map (fun y => decide (y < v) && adjB m.cons (u : Int) ((y : Nat) : Int))
theorem gsr_len (m : Mod) (u v : Nat) : (gsrTo m u v).length = m.doms.length := by simp [gsrTo]
theorem gsr_0 (m : Mod) (u : Nat) : List.replicate m.doms.length false = gsrTo m u 0 := by
  unfold gsrTo
  apply List.ext_getElem
  · simp
  · intro i h1 h2; simp
theorem gsr_step {m : Mod} {u v : Nat} (hv : v < m.doms.length) : (gsrTo m u v).set v (adjB m.cons (u : Int) (v : Int)) = gsrTo m u (v + 1) := by
  unfold gsrTo
  apply List.ext_getElem
  · simp
  · intro i h1 h2
    rw [List.getElem_set]
    by_cases e : v = i
    · subst e; rw [if_pos rfl, List.getElem_map, List.getElem_range, decide_eq_true (Nat.lt_succ_self v), Bool.true_and]
    · rw [if_neg e, List.getElem_map, List.getElem_map, List.getElem_range]
      have e2 : decide (i < v) = decide (i < v + 1) := decide_eq_decide.2 (by omega)
      rw [e2]
theorem gsr_end {m : Mod} {u v : Nat} (hv : m.doms.length ≤ v) : gsrTo m u v = gsRow m u := by
  unfold gsrTo gsRow
  apply List.map_congr_left
  intro y hy
  rw [List.mem_range] at hy
  rw [decide_eq_true (by omega : y < v), Bool.true_and]
theorem gs_succ {m : Mod} {u : Nat} {r : List Bool} (h : r = gsRow m u) : gsTo m u ++ [r] = gsTo m (u + 1) := by
  unfold gsTo; rw [List.range_succ, List.map_append, h]; rfl
theorem memTo_T {N : Int} {u : Nat} {rs : List Int} {b : Bool} (h : rs = membersTo N u) (e : b = hasB N (u : Int)) (hb : b = true) : rs ++ [(u : Int)] = membersTo N (u + 1) := by
  rw [h]; unfold membersTo
  rw [filter_succ, if_pos (by rw [← e]; exact hb)]; simp [natsI]
theorem memTo_F {N : Int} {u : Nat} {rs : List Int} {b : Bool} (h : rs = membersTo N u) (e : b = hasB N (u : Int)) (hb : b = false) : rs = membersTo N (u + 1) := by
  rw [h]; unfold membersTo
  rw [filter_succ, if_neg (by rw [← e, hb]; simp), List.append_nil]
theorem memTo_len (b : Int) (k : Nat) : (membersTo b k).length ≤ k := by
  unfold membersTo natsI
  rw [List.length_map]
  exact Nat.le_trans (List.length_filter_le _ _) (by simp)
theorem wid_next {m : Mod} {order : List Int} {k a u : Nat} {gs gs2 : List (List Bool)} {gn : List Bool} {rest : List Int} {wd : Int} (hM : MOk m) (hk1 : k < order.length) (hat : 0 ≤ order.getD k 0 ∧ order.getD k 0 < (m.doms.length : Int)) (hw : wd = (widTo m order k).2.2)
    (hr : SRel m.doms.length (widTo m order k).1 (widTo m order k).2.1 gs gn) (hrs : rest = membersTo (nearI (widTo m order k).1 (widTo m order k).2.1 (((order.getD k 0).toNat : Nat) : Int)) u) (hu : u = m.doms.length) (hup : SUp m.doms.length (widTo m order k).1 rest a 0 gs2) (ha : a = rest.length) :
    max wd (rest.length : Int) = (widTo m order (k + 1)).2.2 ∧ SRel m.doms.length (widTo m order (k + 1)).1 (widTo m order (k + 1)).2.1 gs2 (gn.set (order.getD k 0).toNat true) := by
  obtain ⟨v, hv⟩ : ∃ v : Nat, order.getD k 0 = (v : Int) := ⟨(order.getD k 0).toNat, by omega⟩
  have hn := hM.n
  rw [widTo_succ hk1, hv]
  rw [hv] at hrs hat
  simp only [Int.toNat_natCast] at hrs ⊢
  rw [hu] at hrs
  obtain ⟨_, _, _, h4, h5⟩ := near_ok hr.i (by omega) (v := v) (by omega)
  refine ⟨?_, SUp.fin hr (by omega) (by omega) hrs hup ha _⟩
  show max wd (rest.length : Int) = max (widTo m order k).2.2 (popI (nearI (widTo m order k).1 (widTo m order k).2.1 (v : Int)))
  rw [h5, hrs, hw]
end Go.Proofs.Ytidllhcfcmjggaa
