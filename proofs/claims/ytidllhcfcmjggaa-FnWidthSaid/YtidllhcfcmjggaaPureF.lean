/- Plain law: all orders, and the best of them. No program in sight. Conditions: none. -/
import Derived.Test.YtidllhcfcmjggaaPureD
import Derived.Test.YtidllhcfcmjggaaPureJ
namespace Go.Proofs.Ytidllhcfcmjggaa
open Go
set_option linter.unusedSimpArgs false
set_option linter.unusedVariables false
/-- The orders that begin with o, k variables to come. -/
def lvS (n : Nat) : Nat → List Int → List (List Int)
  | 0, o => [o]
  | k + 1, o => (List.range n).flatMap (fun v => if o.contains ((v : Nat) : Int) = true then [] else lvS n k (o ++ [((v : Nat) : Int)]))
def lvTo (n k : Nat) (o : List Int) (v : Nat) : List (List Int) := (List.range v).flatMap (fun v => if o.contains ((v : Nat) : Int) = true then [] else lvS n k (o ++ [((v : Nat) : Int)]))
def perms (n : Nat) : List (List Int) := lvS n n []
def putO (p : List Int → Int) (s : List Int × Int) (x : List Int) : List Int × Int := if (decide ((s.1.length : Int) = 0) || decide (p x < s.2)) = true then (x, p x) else s
theorem lf_T {p : List Int → Int} {n : Nat} {o bs : List Int} {wd : Int} (c : (decide ((bs.length : Int) = 0) || decide (p o < wd)) = true) : (o, p o) = (lvS n 0 o).foldl (putO p) (bs, wd) := by
  show (o, p o) = putO p (bs, wd) o
  unfold putO; rw [if_pos c]
theorem lf_F {p : List Int → Int} {n : Nat} {o bs : List Int} {wd : Int} (c : (decide ((bs.length : Int) = 0) || decide (p o < wd)) = false) : (bs, wd) = (lvS n 0 o).foldl (putO p) (bs, wd) := by
  show (bs, wd) = putO p (bs, wd) o
  unfold putO; rw [if_neg (by simp only []; rw [c]; simp)]
theorem lvTo_T {n j v : Nat} {o b1 b2 : List Int} {w1 w2 : Int} {f : List Int × Int → List Int → List Int × Int} {s : List Int × Int} (c : (!(o.contains (v : Int))) = true) (h : (b1, w1) = (lvTo n j o v).foldl f s) (h5 : (b2, w2) = (lvS n j (o ++ [(v : Int)])).foldl f (b1, w1)) : (b2, w2) = (lvTo n j o (v + 1)).foldl f s := by
  have c' : ¬ (o.contains (v : Int) = true) := by cases h9 : o.contains (v : Int) <;> simp_all
  unfold lvTo at h ⊢
  rw [List.range_succ, List.flatMap_append, List.foldl_append, ← h, List.flatMap_cons, List.flatMap_nil, List.append_nil, if_neg c', h5]
theorem lvTo_F {n j v : Nat} {o b1 : List Int} {w1 : Int} {f : List Int × Int → List Int → List Int × Int} {s : List Int × Int} (c : (!(o.contains (v : Int))) = false) (h : (b1, w1) = (lvTo n j o v).foldl f s) : (b1, w1) = (lvTo n j o (v + 1)).foldl f s := by
  have c' : o.contains (v : Int) = true := by cases h9 : o.contains (v : Int) <;> simp_all
  unfold lvTo at h ⊢
  rw [List.range_succ, List.flatMap_append, List.foldl_append, ← h, List.flatMap_cons, List.flatMap_nil, List.append_nil, if_pos c']; rfl
theorem lv_end {n j v : Nat} {o b1 : List Int} {w1 : Int} {f : List Int × Int → List Int → List Int × Int} {s : List Int × Int} (h : (b1, w1) = (lvTo n j o v).foldl f s) (hv : v = n) : (b1, w1) = (lvS n (j + 1) o).foldl f s := by
  subst hv; exact h
theorem OrdOk.snoc {m : Mod} {o : List Int} {v : Nat} (h : OrdOk m o) (hv : v < m.doms.length) : OrdOk m (o ++ [(v : Int)]) := fun x hx => by
  rw [List.mem_append, List.mem_singleton] at hx
  rcases hx with hx | rfl
  · exact h x hx
  · omega
theorem OrdOk.nil {m : Mod} : OrdOk m [] := fun x hx => by cases hx
/-! All of them at once: at most four variables. -/
def ordD (n : Nat) : List Int := List.replicate n (ishl 1 (n : Int) - 1)
theorem perms_a : ∀ n, n < 5 → 1 ≤ n → (tupL (ordD n)).filter distinctB = perms n ∧ (tupL (ordD n)).length ≤ 256 ∧ perms n ≠ [] := by decide +kernel
theorem perms_b : ∀ n, n < 5 → 1 ≤ n → (perms n).all (fun x => decide (x.length = n) && allInB x 0 ((n : Int) - 1) && distinctB x) = true := by decide +kernel
theorem perms_c : ∀ n, n < 5 → 1 ≤ n → (1 ≤ ishl 1 ((n : Nat) : Int) ∧ ishl 1 ((n : Nat) : Int) ≤ 16) ∧ (0 ≤ ishl 1 ((n : Nat) : Int) - 1 ∧ ishl 1 ((n : Nat) : Int) - 1 ≤ 63) := by decide +kernel
theorem perms_d : ∀ n, n < 5 → ∀ v, v < n → ((v : Nat) : Int) ∈ valsI (ishl 1 ((n : Nat) : Int) - 1) := by decide +kernel
section n
variable {n : Nat} (hn : 1 ≤ n ∧ n ≤ 4)
include hn
theorem perms_eq : (tupL (ordD n)).filter distinctB = perms n := (perms_a n (by omega) hn.1).1
theorem ord_room {out : List (List Int)} {k : Nat} (h : out = ((tupL (ordD n)).take k).filter distinctB) : out.length ≤ 256 := by
  rw [h]
  have h1 := List.length_filter_le distinctB ((tupL (ordD n)).take k)
  have h2 := (perms_a n (by omega) hn.1).2.1
  have h3 : ((tupL (ordD n)).take k).length ≤ (tupL (ordD n)).length := by rw [List.length_take]; omega
  omega
theorem ordD_dom : ∀ d ∈ ordD n, (0 : Int) ≤ d ∧ d ≤ 63 := fun d hd => by
  unfold ordD at hd; rw [List.mem_replicate] at hd; rw [hd.2]; exact (perms_c n (by omega) hn.1).2
theorem ord_all {x : List Int} (h : x ∈ perms n) : x.length = n ∧ (∀ v ∈ x, (0 : Int) ≤ v ∧ v < n) ∧ distinctB x = true := by
  have h1 := perms_b n (by omega) hn.1
  rw [List.all_eq_true] at h1
  have h2 := h1 x h
  simp only [Bool.and_eq_true, decide_eq_true_eq, allInB_iff] at h2
  exact ⟨h2.1.1, fun v hv => by have := h2.1.2 v hv; omega, h2.2⟩
theorem ord_ne : ∀ x ∈ perms n, x ≠ [] := fun x hx e => by have := (ord_all hn hx).1; rw [e] at this; simp at this; omega
theorem ord_le : ∀ x ∈ perms n, x.length ≤ 4 := fun x hx => by have := (ord_all hn hx).1; omega
theorem ord_best (p : List Int → Int) : (bestI p (perms n)).1 ∈ perms n ∧ ∀ y ∈ perms n, p (bestI p (perms n)).1 ≤ p y := by
  have h1 := (perms_a n (by omega) hn.1).2.2
  refine best_in ?_
  show decide ((perms n).length ≠ 0) = true
  rw [decide_eq_true_eq]; intro e; exact h1 (List.eq_nil_of_length_eq_zero e)
theorem ord_mem {x : List Int} (h1 : x.length = n) (h2 : ∀ v ∈ x, (0 : Int) ≤ v ∧ v < n) (h3 : distinctB x = true) : x ∈ perms n := by
  rw [← perms_eq hn, List.mem_filter, mem_tupL]
  refine ⟨⟨by simp [ordD, h1], fun i hi => ?_⟩, h3⟩
  simp only [ordD, List.length_replicate] at hi
  have e : (ordD n).getD i 0 = ishl 1 (n : Int) - 1 := by unfold ordD; simp [List.getD, hi]
  rw [e]
  have h4 := h2 _ (getD_mem (d := (0 : Int)) (by omega : i < x.length))
  have h5 := perms_d n (by omega) (x.getD i 0).toNat (by omega)
  rw [show (((x.getD i 0).toNat : Nat) : Int) = x.getD i 0 from by omega] at h5
  exact h5
theorem shl_n : 1 ≤ ishl 1 (n : Int) ∧ ishl 1 (n : Int) ≤ 16 := (perms_c n (by omega) hn.1).1
end n
theorem ord_ok {m : Mod} (hn : 1 ≤ m.doms.length ∧ m.doms.length ≤ 4) {x : List Int} (h : x ∈ perms m.doms.length) : OrdOk m x := (ord_all hn h).2.1
theorem ord_w {m : Mod} (hM : MOk m) {x : List Int} (h : x ∈ perms m.doms.length) : elimOk m x = true := by
  obtain ⟨h1, h2, h3⟩ := ord_all hM.n h
  unfold elimOk varsInB
  simp only [Bool.and_eq_true, decide_eq_true_eq, allInB_iff]
  exact ⟨⟨⟨hM.v, fun v hv => by have := h2 v hv; omega⟩, by omega⟩, h3⟩
theorem ord_in {m : Mod} {x : List Int} (h : elimOk m x = true) : x ∈ perms m.doms.length := by
  obtain ⟨h1, h2, h3⟩ := elim_ok0 h
  refine ord_mem h1.n h3 h2 ?_
  unfold elimOk at h
  simp only [Bool.and_eq_true] at h
  exact h.2
theorem best_ne {p : List Int → Int} {xs : List (List Int)} (hx : ∀ x ∈ xs, x ≠ []) {k : Nat} (h0 : 0 < k) (hk : k ≤ xs.length) : (bestTo p xs k).1 ≠ [] := by
  rcases arg_law p xs k with ⟨h, _⟩ | ⟨_, h2, h3, h4⟩
  · omega
  · rw [h4]; exact hx _ (getD_mem (by omega))
theorem put_best (p : List Int → Int) {xs : List (List Int)} (hx : ∀ x ∈ xs, x ≠ []) : ∀ k, k ≤ xs.length → (xs.take k).foldl (putO p) ([], 0) = bestTo p xs k
  | 0, _ => rfl
  | k + 1, hk => by
    rw [take_succ_getD [] (by omega), List.foldl_append, put_best p hx k (by omega)]
    show putO p (bestTo p xs k) (xs.getD k []) = _
    unfold putO
    rw [bestTo]
    have e : decide (((bestTo p xs k).1.length : Int) = 0) = decide (k = 0) := by
      by_cases h0 : k = 0
      · subst h0; rfl
      · rw [decide_eq_false h0, decide_eq_false]
        intro h9
        exact best_ne hx (by omega) (by omega : k ≤ xs.length) (p := p) (List.eq_nil_of_length_eq_zero (by omega))
    rw [e]
def bestOrd (m : Mod) : List Int × Int := if validModB m = true then (perms m.doms.length).foldl (putO (widI m)) ([], 0) else ([], -1)
theorem bo_no {m : Mod} (h : (!(validModB m)) = true) : bestOrd m = ([], -1) := by unfold bestOrd; rw [if_neg (by simpa using h)]
theorem bo_s {m : Mod} (hM : MOk m) : bestOrd m = (lvS m.doms.length m.doms.length []).foldl (putO (widI m)) ([], 0) := by unfold bestOrd; rw [if_pos hM.v]; rfl
theorem bo_I {m : Mod} (hM : MOk m) : bestOrd m = bestTo (widI m) (perms m.doms.length) (perms m.doms.length).length := by
  unfold bestOrd; rw [if_pos hM.v, ← put_best (widI m) (ord_ne hM.n) _ (Nat.le_refl _), List.take_length]
theorem bo_1 {m : Mod} (hM : MOk m) : (bestOrd m).1 = (bestI (widI m) (perms m.doms.length)).1 := by rw [bo_I hM]; rfl
theorem bo_2 {m : Mod} (hM : MOk m) : widI m (bestI (widI m) (perms m.doms.length)).1 = (bestOrd m).2 := by
  rw [bo_I hM]
  show widI m (bestTo (widI m) (perms m.doms.length) (perms m.doms.length).length).1 = _
  have h1 := (perms_a m.doms.length (by have := hM.n; omega) hM.n.1).2.2
  rcases arg_law (widI m) (perms m.doms.length) (perms m.doms.length).length with ⟨h, _⟩ | ⟨_, h2, h3, h4⟩
  · exact absurd (List.eq_nil_of_length_eq_zero h) h1
  · rw [h4]
theorem bo_len {m : Mod} : (bestOrd m).1.length ≤ 4 := by
  by_cases h : validModB m = true
  · have hM : MOk m := ⟨h⟩
    rw [bo_1 hM]; exact ord_le hM.n _ (ord_best hM.n _).1
  · rw [bo_no (by simpa using h)]; simp
end Go.Proofs.Ytidllhcfcmjggaa
