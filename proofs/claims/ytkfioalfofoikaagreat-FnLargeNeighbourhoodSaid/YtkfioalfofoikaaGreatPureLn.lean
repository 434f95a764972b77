/- Plain law: search in large neighbourhoods ends at a local optimum. No program in sight. Conditions: none. -/
import Derived.Test.YtkfioalfofoikaaGreatPureL
import Derived.Test.YtkfioalfofoikaaGreatPureY
import Derived.Test.YtkfioalfofoikaaGreatPureSo
import Derived.Test.YtkfioalfofoikaaGreatPureSm
import Derived.Test.YtkfioalfofoikaaGreatPureN
namespace Go.Proofs.YtkfioalfofoikaaGreat
open Go
set_option linter.unusedSimpArgs false
set_option linter.unusedVariables false
/-! Sets of variables, in order. -/
def subK : List Int → Nat → List (List Int)
  | _, 0 => [[]]
  | [], _ + 1 => []
  | v :: vs, k + 1 => (subK vs k).map (fun s => v :: s) ++ subK vs (k + 1)
def setsL (n k : Nat) : List (List Int) := subK (natsI (List.range n)) k
def bitsTo (n k b : Nat) : List (List Int) := ((List.range b).filter (fun (i : Nat) => decide (popI (i : Int) = (k : Int)))).map (fun (i : Nat) => membersI (i : Int))
def bitsL (n k : Nat) : List (List Int) := bitsTo n k (2 ^ n)
def nextGo (s : List Int) (n : Int) : Nat → List Int
  | 0 => []
  | i + 1 => if s.getD i 0 < n - (s.length : Int) + (i : Int) then s.take i ++ (List.range (s.length - i)).map (fun (j : Nat) => s.getD i 0 + 1 + (j : Int)) else nextGo s n i
def nextS (s : List Int) (n : Int) : List Int := nextGo s n s.length
theorem fin4 {p : Nat → Nat → Prop} (h : ∀ n, n < 5 → ∀ k, k < 5 → 1 ≤ k → k ≤ n → p n k) {n k : Nat} (hn : n ≤ 4) (hk : 1 ≤ k ∧ k ≤ n) : p n k := h n (by omega) k (by omega) hk.1 hk.2
theorem sets_perm {n k : Nat} (hn : n ≤ 4) (hk : 1 ≤ k ∧ k ≤ n) : (bitsL n k).isPerm (setsL n k) = true := fin4 (p := fun n k => (bitsL n k).isPerm (setsL n k) = true) (by decide +kernel) hn hk
theorem sets_srtB {n k : Nat} (hn : n ≤ 4) (hk : 1 ≤ k ∧ k ≤ n) : (List.range (setsL n k).length).all (fun q => (List.range q).all (fun p => !(decide (lexC ((setsL n k).getD q []) ((setsL n k).getD p []) < 0)))) = true := fin4 (p := fun n k => (List.range (setsL n k).length).all (fun q => (List.range q).all (fun p => !(decide (lexC ((setsL n k).getD q []) ((setsL n k).getD p []) < 0)))) = true) (by decide +kernel) hn hk
theorem sets_srt {n k : Nat} (hn : n ≤ 4) (hk : 1 ≤ k ∧ k ≤ n) : SrtL lexC [] (setsL n k) := fun p q h1 h2 => by
  have h := List.all_eq_true.1 (List.all_eq_true.1 (sets_srtB hn hk) q (List.mem_range.2 h2)) p (List.mem_range.2 h1)
  simpa using h
theorem sets_allB {n k : Nat} (hn : n ≤ 4) (hk : 1 ≤ k ∧ k ≤ n) : ((setsL n k).all (fun s => (ascB s && allInB s 0 ((n : Int) - 1)) && decide (s.length = k)) && decide (0 < (setsL n k).length)) && (decide ((setsL n k).length ≤ 6) && decide ((setsL n k).getD 0 [] = natsI (List.range k))) = true := fin4 (p := fun n k => ((setsL n k).all (fun s => (ascB s && allInB s 0 ((n : Int) - 1)) && decide (s.length = k)) && decide (0 < (setsL n k).length)) && (decide ((setsL n k).length ≤ 6) && decide ((setsL n k).getD 0 [] = natsI (List.range k))) = true) (by decide +kernel) hn hk
theorem sets_nextB {n k : Nat} (hn : n ≤ 4) (hk : 1 ≤ k ∧ k ≤ n) : (List.range (setsL n k).length).all (fun i => decide (nextS ((setsL n k).getD i []) (n : Int) = (setsL n k).getD (i + 1) [])) = true := fin4 (p := fun n k => (List.range (setsL n k).length).all (fun i => decide (nextS ((setsL n k).getD i []) (n : Int) = (setsL n k).getD (i + 1) [])) = true) (by decide +kernel) hn hk
theorem sets_maskB {n k : Nat} (hn : n ≤ 4) (hk : 1 ≤ k ∧ k ≤ n) : (List.range (2 ^ n)).all (fun i => !(decide ((membersI (i : Int)).length = k)) || (setsL n k).contains (membersI (i : Int))) = true := fin4 (p := fun n k => (List.range (2 ^ n)).all (fun i => !(decide ((membersI (i : Int)).length = k)) || (setsL n k).contains (membersI (i : Int))) = true) (by decide +kernel) hn hk
theorem sets_full {n : Nat} (hn : n ≤ 4) (h1 : 1 ≤ n) : setsL n n = [natsI (List.range n)] := by
  have key : ∀ n, n < 5 → 1 ≤ n → setsL n n = [natsI (List.range n)] := by decide +kernel
  exact key n (by omega) h1
structure SetOk (n k : Nat) (s : List Int) : Prop where
  asc : ascB s = true
  inn : allInB s 0 ((n : Int) - 1) = true
  len : s.length = k
theorem sets_ok {n k : Nat} (hn : n ≤ 4) (hk : 1 ≤ k ∧ k ≤ n) {s : List Int} (hs : s ∈ setsL n k) : SetOk n k s := by
  have h := sets_allB hn hk
  simp only [Bool.and_eq_true] at h
  have := List.all_eq_true.1 h.1.1 s hs
  simp only [Bool.and_eq_true, decide_eq_true_eq] at this
  exact ⟨this.1.1, this.1.2, this.2⟩
theorem sets_len {n k : Nat} (hn : n ≤ 4) (hk : 1 ≤ k ∧ k ≤ n) : 0 < (setsL n k).length ∧ (setsL n k).length ≤ 6 ∧ (setsL n k).getD 0 [] = natsI (List.range k) := by
  have h := sets_allB hn hk
  simp only [Bool.and_eq_true, decide_eq_true_eq] at h
  exact ⟨h.1.2, h.2.1, h.2.2⟩
theorem sets_next {n k i : Nat} (hn : n ≤ 4) (hk : 1 ≤ k ∧ k ≤ n) (hi : i < (setsL n k).length) : nextS ((setsL n k).getD i []) (n : Int) = (setsL n k).getD (i + 1) [] := by
  have h := List.all_eq_true.1 (sets_nextB hn hk) i (List.mem_range.2 hi)
  simpa using h
theorem sets_mask {n k i : Nat} (hn : n ≤ 4) (hk : 1 ≤ k ∧ k ≤ n) (hi : i < 2 ^ n) (hl : (membersI (i : Int)).length = k) : membersI (i : Int) ∈ setsL n k := by
  have h := List.all_eq_true.1 (sets_maskB hn hk) i (List.mem_range.2 hi)
  simpa [hl] using h
theorem sets_ne {n k : Nat} (hn : n ≤ 4) (hk : 1 ≤ k ∧ k ≤ n) {i : Nat} (hi : i < (setsL n k).length) : 0 < ((setsL n k).getD i []).length := by
  have := (sets_ok hn hk (getD_mem (d := []) hi)).len; omega
/-! The order of lists of numbers. -/
theorem cmpI_neg (a b : Int) : cmpI b a = -cmpI a b := by unfold cmpI; split <;> split <;> omega
theorem lexC_neg : ∀ a b : List Int, lexC b a = -lexC a b
  | [], [] => rfl
  | [], _ :: _ => rfl
  | _ :: _, [] => rfl
  | a :: ar, b :: bs => by
    rw [lexC, lexC, cmpI_neg a b, lexC_neg ar bs]
    by_cases h : cmpI a b = 0
    · rw [if_neg (by omega), if_neg (by omega)]
    · rw [if_pos (by omega), if_pos h]
theorem lexC_tr : ∀ a b d : List Int, ¬ lexC b a < 0 → ¬ lexC d b < 0 → ¬ lexC d a < 0
  | [], b, [], _, _ => by rw [lexC]; omega
  | [], b, _ :: _, _, _ => by rw [lexC]; omega
  | a :: ar, [], d, h, _ => by rw [lexC] at h; omega
  | a :: ar, b :: bs, [], _, h => by rw [lexC] at h; omega
  | a :: ar, b :: bs, d :: ds, h1, h2 => by
    rw [lexC] at h1 h2 ⊢
    have ih := lexC_tr ar bs ds
    unfold cmpI at *
    by_cases e1 : b < a
    · simp [e1] at h1
    · by_cases e2 : a < b
      · by_cases e3 : d < b
        · simp [e3] at h2
        · have e4 : ¬ d < a := by omega
          have e5 : a < d := by omega
          simp [e4, e5]
      · have e : a = b := by omega
        subst e
        by_cases e3 : d < a
        · simp [e3] at h2
        · by_cases e4 : a < d
          · simp [e3, e4]
          · have e : a = d := by omega
            subst e
            simp only [Int.lt_irrefl, if_false, ne_eq, not_true_eq_false] at h1 h2 ⊢
            exact ih h1 h2
theorem lexC_tot : TotC lexC := ⟨fun a b h => by rw [lexC_neg a b]; omega, lexC_tr⟩
theorem lexC_eqv : ∀ a b : List Int, ¬ lexC a b < 0 → ¬ lexC b a < 0 → a = b
  | [], [], _, _ => rfl
  | [], _ :: _, h, _ => by rw [lexC] at h; omega
  | _ :: _, [], _, h => by rw [lexC] at h; omega
  | a :: ar, b :: bs, h1, h2 => by
    rw [lexC] at h1 h2
    have e : a = b := by
      unfold cmpI at h1 h2
      by_cases e1 : a < b
      · simp [e1] at h1
      · by_cases e2 : b < a
        · simp [e2] at h2
        · omega
    subst e
    have e0 : cmpI a a = 0 := by unfold cmpI; simp
    rw [if_neg (by omega)] at h1 h2
    rw [lexC_eqv ar bs h1 h2]
theorem srt_sets {n k : Nat} (hn : n ≤ 4) (hk : 1 ≤ k ∧ k ≤ n) {ys : List (List Int)} (h : SrtA lexC [] (bitsL n k) ys (bitsL n k).length) : ys = setsL n k :=
  srt_unique lexC_eqv (h.perm.trans (List.isPerm_iff.1 (sets_perm hn hk))) (h.all (by rw [h.perm.length_eq]; exact Nat.le_refl _)) (sets_srt hn hk)
theorem bits_len {n k : Nat} (hn : n ≤ 4) (hk : 1 ≤ k ∧ k ≤ n) : (bitsL n k).length ≤ 6 ∧ ∀ r ∈ bitsL n k, r.length = k := by
  have hp := List.isPerm_iff.1 (sets_perm hn hk)
  exact ⟨by rw [hp.length_eq]; exact (sets_len hn hk).2.1, fun r hr => (sets_ok hn hk (hp.subset hr)).len⟩
theorem bitsTo_T {n k b : Nat} {out : List (List Int)} (h : out = bitsTo n k b) (c : popI (b : Int) = (k : Int)) : out ++ [membersI (b : Int)] = bitsTo n k (b + 1) := by
  rw [h, bitsTo, bitsTo, List.range_succ, List.filter_append, List.map_append, List.filter_cons, if_pos (decide_eq_true c)]; rfl
theorem bitsTo_F {n k b : Nat} {out : List (List Int)} (h : out = bitsTo n k b) (c : ¬ popI (b : Int) = (k : Int)) : out = bitsTo n k (b + 1) := by
  rw [h, bitsTo, bitsTo, List.range_succ, List.filter_append, List.map_append, List.filter_cons, if_neg (by simpa using c)]; simp
theorem bitsTo_len {n k b : Nat} {out : List (List Int)} (h : out = bitsTo n k b) : out.length ≤ b := by
  rw [h, bitsTo, List.length_map]
  have := List.length_filter_le (fun (i : Nat) => decide (popI (i : Int) = (k : Int))) (List.range b)
  simpa using this
/-! The search. -/
abbrev valO (obj x : List Int) : Int := dotTo obj x x.length
def nbM (m : Mod) (x s : List Int) : Mod := ⟨nearT m.doms x s x.length, m.cons⟩
def bstM (m : Mod) (obj : List Int) : List Int × Bool := bestI (fun x => dotTo obj x x.length) (sols m)
def impB (m : Mod) (obj x s : List Int) : Bool := (bstM (nbM m x s) obj).2 && decide (valO obj (bstM (nbM m x s) obj).1 < valO obj x)
inductive LnsR (m : Mod) (obj : List Int) (k : Nat) : List Int → List Int → Prop where
  | done {x : List Int} : (∀ s ∈ setsL m.doms.length k, impB m obj x s = false) → LnsR m obj k x x
  | step {x r : List Int} (i : Nat) : i < (setsL m.doms.length k).length → (∀ j, j < i → impB m obj x ((setsL m.doms.length k).getD j []) = false) → impB m obj x ((setsL m.doms.length k).getD i []) = true → LnsR m obj k (bstM (nbM m x ((setsL m.doms.length k).getD i [])) obj).1 r → LnsR m obj k x r
theorem lns_uniq {m : Mod} {obj : List Int} {k : Nat} {x r : List Int} (h : LnsR m obj k x r) : ∀ {r'}, LnsR m obj k x r' → r = r' := by
  induction h with
  | done h =>
    intro r' g
    cases g with
    | done _ => rfl
    | step i h1 _ h3 _ => rw [h _ (getD_mem h1)] at h3; cases h3
  | step i h1 h2 h3 _ ih =>
    intro r' g
    cases g with
    | done g => rw [g _ (getD_mem h1)] at h3; cases h3
    | step j g1 g2 g3 g4 =>
      have e : i = j := by
        rcases Nat.lt_trichotomy i j with e | e | e
        · rw [g2 i e] at h3; cases h3
        · exact e
        · rw [h2 j e] at g3; cases g3
      subst e
      exact ih g4
theorem best_mem {p : List Int → Int} {xs : List (List Int)} (h : (bestI p xs).2 = true) : (bestI p xs).1 ∈ xs ∧ ∀ y ∈ xs, p (bestI p xs).1 ≤ p y := by
  have hl : xs.length ≠ 0 := of_decide_eq_true h
  rcases arg_law p xs xs.length with ⟨h0, h1⟩ | ⟨h0, h1, h2, h3⟩
  · exact absurd h0 hl
  · have e : (bestI p xs).1 = xs.getD (argTo p xs xs.length).toNat [] := by unfold bestI; rw [h3]
    rw [e]
    refine ⟨getD_mem (by omega), fun y hy => ?_⟩
    obtain ⟨j, hj, rfl⟩ := List.getElem_of_mem hy
    have := arg_least (p := p) (xs := xs) xs.length j hj
    rw [List.getD_eq_getElem?_getD (l := xs) (i := j), List.getElem?_eq_getElem hj, Option.getD_some] at this
    exact this
structure NbOkM (m : Mod) (x : List Int) : Prop where
  hM : MOk m
  hx : x ∈ sols m
theorem imp_in {m : Mod} {obj x s : List Int} (h : NbOkM m x) (hi : impB m obj x s = true) : (bstM (nbM m x s) obj).1 ∈ sols m ∧ valO obj (bstM (nbM m x s) obj).1 < valO obj x := by
  unfold impB at hi
  rw [Bool.and_eq_true, decide_eq_true_eq] at hi
  have h1 := (best_mem hi.1).1
  exact ⟨((near_sol h.hM (sols_vals h.hx) (sols_len h.hx)).1 h1).1, hi.2⟩
theorem lns_end {m : Mod} {obj : List Int} {k : Nat} {x r : List Int} (hM : MOk m) (h : LnsR m obj k x r) : x ∈ sols m → r ∈ sols m ∧ valO obj r ≤ valO obj x ∧ ∀ s ∈ setsL m.doms.length k, impB m obj r s = false := by
  induction h with
  | done h => intro hx; exact ⟨hx, Int.le_refl _, h⟩
  | step i h1 h2 h3 _ ih =>
    intro hx
    obtain ⟨g1, g2⟩ := imp_in ⟨hM, hx⟩ h3
    obtain ⟨g3, g4, g5⟩ := ih g1
    exact ⟨g3, by omega, g5⟩
/-- Where no set is better, every neighbourhood's least value is no less. -/
theorem nb_least {m : Mod} {obj x s : List Int} (h : NbOkM m x) (hi : impB m obj x s = false) : (bstM (nbM m x s) obj).2 = true ∧ valO obj x ≤ valO obj (bstM (nbM m x s) obj).1 := by
  have hx : x ∈ sols (nbM m x s) := (near_sol h.hM (sols_vals h.hx) (sols_len h.hx)).2 ⟨h.hx, fun i hi => .inr rfl⟩
  have h2 : (bstM (nbM m x s) obj).2 = true := by
    unfold bstM bestI
    exact decide_eq_true (by have := List.length_pos_of_mem hx; omega)
  unfold impB at hi
  rw [h2, Bool.true_and, decide_eq_false_iff_not] at hi
  exact ⟨h2, by omega⟩
theorem nb_all {m : Mod} {x : List Int} (hl : x.length = m.doms.length) : nbM m x (natsI (List.range m.doms.length)) = m := by
  unfold nbM
  rw [near_all _ (fun i hi => by rw [List.contains_iff_mem]; simp only [natsI, List.mem_map, List.mem_range]; exact ⟨i, by omega, rfl⟩)]
/-! The whole. -/
def lnsOk (m : Mod) (obj x : List Int) (k : Int) : Bool := (objOkB m obj && isSolT m x) && withinB k 1 (m.doms.length : Int)
def LnsP (m : Mod) (obj x : List Int) (k : Int) (r : List Int) (b : Bool) : Prop := (lnsOk m obj x k = false → r = [] ∧ b = false) ∧ (lnsOk m obj x k = true → b = true ∧ LnsR m obj k.toNat x r)
structure LnOk (m : Mod) (obj x : List Int) (k : Int) : Prop where
  hM : MOk m
  ho : obj.length = m.doms.length
  hO : Coef obj
  hx : x ∈ sols m
  hk : 1 ≤ k.toNat ∧ k.toNat ≤ m.doms.length
  k0 : (k.toNat : Int) = k
theorem lnOk {m : Mod} {obj x : List Int} {k : Int} (h : lnsOk m obj x k = true) : LnOk m obj x k := by
  unfold lnsOk at h
  simp only [Bool.and_eq_true, withinB_iff] at h
  obtain ⟨⟨h1, h2⟩, h3⟩ := h
  have ho := objok h1
  exact ⟨ho.1, ho.2.1, ho.2.2, isSol_mem h2, by omega, by omega⟩
theorem lns_same {m : Mod} {obj x r r' : List Int} {k : Int} {b b' : Bool} (h : LnsP m obj x k r b) (g : LnsP m obj x k r' b') : r = r' ∧ b = b' := by
  cases e : lnsOk m obj x k with
  | false => exact ⟨(h.1 e).1.trans (g.1 e).1.symm, (h.1 e).2.trans (g.1 e).2.symm⟩
  | true => exact ⟨lns_uniq (h.2 e).2 (g.2 e).2, (h.2 e).1.trans (g.2 e).1.symm⟩
theorem lns_no {m : Mod} {obj x : List Int} {k : Int} (h : lnsOk m obj x k = false) : LnsP m obj x k [] false := ⟨fun _ => ⟨rfl, rfl⟩, fun g => by rw [h] at g; cases g⟩
theorem lns_yes {m : Mod} {obj x r : List Int} {k : Int} (h : lnsOk m obj x k = true) (hr : LnsR m obj k.toNat x r) : LnsP m obj x k r true := ⟨fun g => (by rw [h] at g; cases g), fun _ => ⟨rfl, hr⟩⟩
theorem ln_go {m : Mod} {obj x r r' : List Int} {k : Int} {b b' : Bool} (h : LnsP m obj x k r b) (g : LnsP m obj x k r' b') (c : (((b != b') || !(decide (r = r'))) || !b) = false) : lnsOk m obj x k = true ∧ LnsR m obj k.toNat x r := by
  have hb : b = true := by revert c; cases b <;> simp
  cases e : lnsOk m obj x k with
  | false => have := (h.1 e).2; rw [hb] at this; cases this
  | true => exact ⟨rfl, (h.2 e).2⟩
theorem obj_val {m : Mod} {obj y : List Int} (ho : obj.length = m.doms.length) (hO : Coef obj) (hM : MOk m) (hy : y ∈ sols m) : objVal obj y = valO obj y := by
  have hk : objOkB m obj = true := by unfold objOkB; rw [hM.v, ho, show allInB obj (-9) 9 = true from allInB_iff.2 hO]; simp
  rw [objVal_sol hk hy, valO, sols_len hy]
theorem ln_fin {m : Mod} {obj x y z : List Int} {k : Int} {b : Bool} (h : lnsOk m obj x k = true ∧ LnsR m obj k.toNat x y) (g : LnsP m obj y k z b) :
    (((((isSolT m y && decide (objVal obj y ≤ objVal obj x)) && b) && decide (z = y)) && (decide (k < (x.length : Int)) || decide (objVal obj y = objVal obj (minI m obj).1)))) = true := by
  have hg := lnOk h.1
  obtain ⟨h1, h2, h3⟩ := lns_end hg.hM h.2 hg.hx
  have hok : lnsOk m obj y k = true := by
    have h0 := h.1
    unfold lnsOk at h0 ⊢
    simp only [Bool.and_eq_true] at h0 ⊢
    exact ⟨⟨h0.1.1, sols_isSol hg.hM h1⟩, h0.2⟩
  obtain ⟨rfl, hr⟩ := g.2 hok
  have e := lns_uniq (LnsR.done h3) hr
  subst e
  have hn := hg.hM.n
  rw [sols_isSol hg.hM h1, obj_val hg.ho hg.hO hg.hM h1, obj_val hg.ho hg.hO hg.hM hg.hx, decide_eq_true h2, decide_eq_true rfl]
  by_cases hk : k < (x.length : Int)
  · simp [hk]
  · have hkn : k.toNat = m.doms.length := by have := sols_len hg.hx; have := hg.hk; have := hg.k0; omega
    have hs := sets_full hn.2 hn.1
    have h4 := nb_least ⟨hg.hM, h1⟩ (h3 (natsI (List.range m.doms.length)) (by rw [hkn, hs]; exact .head _))
    rw [nb_all (sols_len h1)] at h4
    have h5 := best_mem (p := fun x => dotTo obj x x.length) (xs := sols m) h4.1
    have h6 := h5.2 _ h1
    have e2 : minI m obj = bstM m obj := by
      unfold minI
      rw [if_pos]
      · rfl
      · have h0 := h.1; unfold lnsOk at h0; simp only [Bool.and_eq_true] at h0; exact h0.1.1
    have h5' : (bstM m obj).1 ∈ sols m := h5.1
    rw [e2, obj_val hg.ho hg.hO hg.hM h5']
    have : valO obj y = valO obj (bstM m obj).1 := by
      have h7 : dotTo obj (bstM m obj).1 (bstM m obj).1.length ≤ dotTo obj y y.length := h6
      have h8 := h4.2
      simp only [valO] at *; omega
    rw [decide_eq_true this]; simp
/-! The answer as a function. -/
def lnsGo (m : Mod) (obj : List Int) (k : Nat) : Nat → List Int → List Int
  | 0, x => x
  | f + 1, x => match (setsL m.doms.length k).find? (fun s => impB m obj x s) with
    | none => x
    | some s => lnsGo m obj k f (bstM (nbM m x s) obj).1
def lnsV (m : Mod) (obj x : List Int) (k : Int) : List Int × Bool := if lnsOk m obj x k = true then (lnsGo m obj k.toNat 2000 x, true) else ([], false)
theorem lns_go {m : Mod} {obj : List Int} {k : Nat} (hM : MOk m) (hb : ∀ y ∈ sols m, -1000 ≤ valO obj y) : ∀ (f : Nat) (x : List Int), x ∈ sols m → (valO obj x + 1000).toNat < f → LnsR m obj k x (lnsGo m obj k f x)
  | 0, x, _, h => absurd h (Nat.not_lt_zero _)
  | f + 1, x, hx, h => by
    rw [lnsGo]
    cases e : (setsL m.doms.length k).find? (fun s => impB m obj x s) with
    | none => exact .done fun s hs => by have := List.find?_eq_none.1 e s hs; simpa using this
    | some s =>
      obtain ⟨h1, al, bl, h2, h3⟩ := List.find?_eq_some_iff_append.1 e
      have g0 : (setsL m.doms.length k).getD al.length [] = s := by rw [h2]; simp [List.getD_eq_getElem?_getD]
      have hi := imp_in ⟨hM, hx⟩ h1
      have hlo := hb _ hi.1
      refine .step al.length (by rw [h2]; simp) (fun j hj => ?_) (by rw [g0]; exact h1) (by rw [g0]; exact lns_go hM hb f _ hi.1 (by have := hi.2; omega))
      have : (setsL m.doms.length k).getD j [] = al[j] := by rw [h2]; simp [List.getD_eq_getElem?_getD, List.getElem?_append_left hj, hj]
      rw [this]
      simpa using h3 _ (List.getElem_mem hj)
theorem val_b {m : Mod} {obj : List Int} {k : Int} {x : List Int} (h : LnOk m obj x k) : ∀ y ∈ sols m, -1000 ≤ valO obj y ∧ valO obj y ≤ 900 := fun y hy => by
  have h1 := dot_le (a := obj) (x := y) h.hO (sols_vals hy) y.length (by rw [sols_len hy, h.ho]; exact Nat.le_refl _) (Nat.le_refl _)
  have := sols_len hy
  have := h.hM.n
  have h2 : (y.length : Int) ≤ 4 := by omega
  simp only [valO]
  omega
theorem lnsV_P (m : Mod) (obj x : List Int) (k : Int) : LnsP m obj x k (lnsV m obj x k).1 (lnsV m obj x k).2 := by
  unfold lnsV
  cases e : lnsOk m obj x k with
  | false => exact lns_no e
  | true =>
    have hg := lnOk e
    rw [if_pos rfl]
    refine lns_yes e (lns_go hg.hM (fun y hy => (val_b hg y hy).1) _ _ hg.hx ?_)
    have := val_b hg x hg.hx
    omega
theorem lns_v {m : Mod} {obj x r : List Int} {k : Int} {b : Bool} (h : LnsP m obj x k r b) : r = (lnsV m obj x k).1 ∧ b = (lnsV m obj x k).2 := lns_same h (lnsV_P m obj x k)
/-! What the walks ask. -/
theorem near_mok {m : Mod} {x free : List Int} (hM : MOk m) (hx : Vals x) (hl : x.length = m.doms.length) (k : Nat) : MOk ⟨nearT m.doms x free k, m.cons⟩ := by
  refine ⟨?_⟩
  have h := near_ok (free := free) hM hx hl k
  have hn := hM.n
  have hc := hM.v
  simp only [validModB, domainsOkB, Bool.and_eq_true, withinB_iff, allInB_iff, near_len] at hc ⊢
  exact ⟨⟨⟨hc.1.1.1, fun d hd => h.d d hd⟩, hc.1.2⟩, hc.2⟩
theorem ln_cI {m : Mod} {obj x : List Int} {k : Int} : (((!(objOkB m obj)) || !(isSolT m x)) || !(withinB k 1 (m.doms.length : Int))) = !(lnsOk m obj x k) := by
  unfold lnsOk; cases objOkB m obj <;> cases isSolT m x <;> cases withinB k 1 (m.doms.length : Int) <;> rfl
theorem ln_ok {m : Mod} {obj x : List Int} {k : Int} (h : (((!(objOkB m obj)) || !(isSolT m x)) || !(withinB k 1 (m.doms.length : Int))) = false) : lnsOk m obj x k = true := by rw [ln_cI] at h; simpa using h
theorem ln_no {m : Mod} {obj x : List Int} {k : Int} (h : (((!(objOkB m obj)) || !(isSolT m x)) || !(withinB k 1 (m.doms.length : Int))) = true) : [] = (lnsV m obj x k).1 ∧ false = (lnsV m obj x k).2 := lns_v (lns_no (by rw [ln_cI] at h; simpa using h))
theorem ln_done {m : Mod} {obj x nw : List Int} {k : Int} {j : Nat} (h : lnsOk m obj x k = true) (hr : ∀ r, LnsR m obj k.toNat nw r → LnsR m obj k.toNat x r) (hall : ∀ i, i < j → impB m obj nw ((setsL m.doms.length k.toNat).getD i []) = false) (hj : (setsL m.doms.length k.toNat).length ≤ j) :
    nw = (lnsV m obj x k).1 ∧ true = (lnsV m obj x k).2 := lns_v (lns_yes h (hr _ (.done fun s hs => by
  obtain ⟨i, hi, rfl⟩ := List.getElem_of_mem hs
  have := hall i (by omega)
  rwa [List.getD_eq_getElem?_getD, List.getElem?_eq_getElem hi, Option.getD_some] at this)))
theorem ln_stepI {m : Mod} {obj nw : List Int} {k j : Nat} (hall : ∀ i, i < j → impB m obj nw ((setsL m.doms.length k).getD i []) = false) (h : impB m obj nw ((setsL m.doms.length k).getD j []) = false) : ∀ i, i < j + 1 → impB m obj nw ((setsL m.doms.length k).getD i []) = false := fun i hi => by
  by_cases e : i = j
  · subst e; exact h
  · exact hall i (by omega)
theorem ln_jump {m : Mod} {obj x nw : List Int} {k : Int} {j : Nat} (hg : LnOk m obj x k) (hs : nw ∈ sols m ∧ ∀ r, LnsR m obj k.toNat nw r → LnsR m obj k.toNat x r) (hall : ∀ i, i < j → impB m obj nw ((setsL m.doms.length k.toNat).getD i []) = false) (hj : j < (setsL m.doms.length k.toNat).length)
    (h : impB m obj nw ((setsL m.doms.length k.toNat).getD j []) = true) :
    (bstM (nbM m nw ((setsL m.doms.length k.toNat).getD j [])) obj).1 ∈ sols m ∧ ∀ r, LnsR m obj k.toNat (bstM (nbM m nw ((setsL m.doms.length k.toNat).getD j [])) obj).1 r → LnsR m obj k.toNat x r :=
  ⟨(imp_in ⟨hg.hM, hs.1⟩ h).1, fun r hr => hs.2 r (.step j hj hall h hr)⟩
theorem ln_mu {m : Mod} {obj x nw s : List Int} {k : Int} (hg : LnOk m obj x k) (hs : nw ∈ sols m) (h : impB m obj nw s = true) : (valO obj (bstM (nbM m nw s) obj).1 + 1000).toNat < (valO obj nw + 1000).toNat := by
  have h1 := imp_in ⟨hg.hM, hs⟩ h
  have := (val_b hg _ h1.1).1
  have := h1.2
  omega
/-! The next set. -/
def nxtP (s : List Int) (i p : Nat) : List Int := s.take i ++ (List.range p).map (fun (j : Nat) => s.getD i 0 + 1 + (j : Int))
theorem nxt_one {s : List Int} {i : Nat} : s.take i ++ [s.getD i 0 + 1] = nxtP s i 1 := by simp [nxtP]
theorem nxt_len {s : List Int} {i p : Nat} (hi : i ≤ s.length) : (nxtP s i p).length = i + p := by simp [nxtP]; omega
theorem nxt_last {s : List Int} {i p : Nat} (hi : i ≤ s.length) (hp : 1 ≤ p) : (nxtP s i p).getD (((nxtP s i p).length : Int) - 1).toNat 0 = s.getD i 0 + (p : Int) := by
  rw [nxt_len hi, show (((i + p : Nat) : Int) - 1).toNat = i + (p - 1) from by omega]
  have hl : (s.take i).length = i := by simp; omega
  simp only [nxtP, List.getD_eq_getElem?_getD]
  rw [List.getElem?_append_right (by omega), hl, show i + (p - 1) - i = p - 1 from by omega]
  simp [show p - 1 < p by omega]
  omega
theorem nxt_step {s out : List Int} {i p : Nat} (h : out = nxtP s i p) (hi : i ≤ s.length) (hp : 1 ≤ p) : out ++ [out.getD ((out.length : Int) - 1).toNat 0 + 1] = nxtP s i (p + 1) := by
  rw [h, nxt_last hi hp]
  simp only [nxtP, List.range_succ, List.map_append, List.map_cons, List.map_nil, List.append_assoc]
  congr 2
  rw [show s.getD i 0 + (p : Int) + 1 = s.getD i 0 + 1 + (p : Int) by omega]
theorem nxt_end {s out : List Int} {n : Int} {i p : Nat} (h : out = nxtP s i p) (hi : i < s.length) (hp : (s.length : Int) ≤ (out.length : Int)) (hq : i + p ≤ s.length) (hg : nextS s n = nextGo s n (i + 1)) (hc : s.getD i 0 < n - (s.length : Int) + (i : Int)) : out = nextS s n := by
  have : p = s.length - i := by rw [h, nxt_len (by omega)] at hp; omega
  rw [hg, nextGo, if_pos hc, h, this]; rfl
theorem nxt_no {s : List Int} {n : Int} {i : Nat} (hg : nextS s n = nextGo s n (i + 1)) (hc : ¬ s.getD i 0 < n - (s.length : Int) + (i : Int)) : nextS s n = nextGo s n i := by
  rw [hg, nextGo, if_neg hc]
/-- Where the sets end. -/
theorem set_pos {n k i : Nat} (hn : n ≤ 4) (hk : 1 ≤ k ∧ k ≤ n) : (0 : Int) < (((setsL n k).getD i []).length : Int) ↔ i < (setsL n k).length := by
  constructor
  · intro h
    rcases Nat.lt_or_ge i (setsL n k).length with g | g
    · exact g
    · rw [List.getD_eq_getElem?_getD, List.getElem?_eq_none g] at h; simp at h
  · intro h; have := sets_ne hn hk h; omega
theorem set_in {n k i : Nat} (hn : n ≤ 4) (hk : 1 ≤ k ∧ k ≤ n) (hi : i < (setsL n k).length) : ((setsL n k).getD i []).length ≤ 4 ∧ ∀ v ∈ (setsL n k).getD i [], (0 : Int) ≤ v ∧ v ≤ 3 := by
  have h := sets_ok hn hk (getD_mem (d := []) hi)
  refine ⟨by have := h.len; omega, fun v hv => ?_⟩
  have := allInB_iff.1 h.inn v hv
  omega
theorem ishl_pow {n : Nat} (hn : n ≤ 4) : ishl 1 (n : Int) = ((2 ^ n : Nat) : Int) := ishl_one (by omega)
theorem pow_16 {n : Nat} (hn : n ≤ 4) : 2 ^ n ≤ 16 := by
  have : 2 ^ n ≤ 2 ^ 4 := Nat.pow_le_pow_right (by decide) hn
  simpa using this
theorem lt_16 {n b : Nat} (hn : n ≤ 4) (h : (b : Int) < ishl 1 (n : Int)) (hs : ishl 1 (n : Int) = ((2 ^ n : Nat) : Int)) : b < 16 := by
  have := pow_16 hn
  rw [hs] at h; omega
theorem bits_all {n k b : Nat} {out : List (List Int)} (hs : ishl 1 (n : Int) = ((2 ^ n : Nat) : Int)) (h : out = bitsTo n k b) (hb : ¬ (b : Int) < ishl 1 (n : Int)) (hle : b ≤ 2 ^ n) : out = bitsL n k := by
  rw [hs] at hb
  rw [h, bitsL, show b = 2 ^ n by omega]
theorem nb_y {m : Mod} {obj nw s : List Int} (hM : MOk m) (hv : Vals nw) (hl : nw.length = m.doms.length) (ho : obj.length = m.doms.length) (h : (bstM (nbM m nw s) obj).2 = true) :
    Vals (bstM (nbM m nw s) obj).1 ∧ obj.length = (bstM (nbM m nw s) obj).1.length ∧ (bstM (nbM m nw s) obj).1.length ≤ 4 := by
  have h1 : (bstM (nbM m nw s) obj).1 ∈ sols m := ((near_sol hM hv hl).1 (best_mem h).1).1
  have := hM.n
  have := sols_len h1
  exact ⟨sols_vals h1, by omega, by omega⟩
theorem iota_s {al : List Int} {k : Nat} (h : al = natsI (List.range k)) : al ++ [(k : Int)] = natsI (List.range (k + 1)) := by
  rw [h, natsI, natsI, List.range_succ, List.map_append]; rfl
theorem nxt_noZ {s : List Int} {n z : Int} {q : Nat} (h : z = (q : Int) - 1 ∧ nextS s n = nextGo s n q) (hz : z.toNat + 1 = q) (hc : ¬ s.getD z.toNat 0 < n - (s.length : Int) + z) : nextS s n = nextGo s n (q - 1) := by
  obtain ⟨h1, h2⟩ := h
  obtain ⟨i, rfl⟩ : ∃ i, q = i + 1 := ⟨q - 1, by omega⟩
  have ez : z = (i : Int) := by omega
  rw [ez, Int.toNat_natCast] at hc
  rw [Nat.add_sub_cancel]; exact nxt_no h2 hc
theorem nxt_lastZ {s out : List Int} {i p : Nat} (h : out = nxtP s i p) (hi : i ≤ s.length) (hp : 1 ≤ p) : out.getD ((out.length : Int) - 1).toNat 0 = s.getD i 0 + (p : Int) := by rw [h]; exact nxt_last hi hp
theorem nxt_endZ {s out : List Int} {n z : Int} {q p : Nat} (h : out = nxtP s z.toNat p) (hi : z.toNat < s.length) (hp : (s.length : Int) ≤ (out.length : Int)) (hq : z.toNat + p ≤ s.length) (hg : z = (q : Int) - 1 ∧ nextS s n = nextGo s n q) (hz : z.toNat + 1 = q) (hc : s.getD z.toNat 0 < n - (s.length : Int) + z) : out = nextS s n := by
  have e : (z.toNat : Int) = z := by omega
  exact nxt_end h hi hp hq (by rw [hz]; exact hg.2) (by rw [e]; exact hc)
theorem sol_at {m : Mod} {obj : List Int} {k : Nat} (hM : MOk m) (ho : obj.length = m.doms.length) (hk : k < (sols m).length) : Vals ((sols m).getD k []) ∧ obj.length = ((sols m).getD k []).length ∧ ((sols m).getD k []).length ≤ 4 := by
  have h := getD_mem (d := []) hk
  have := sols_len h
  have := hM.n
  exact ⟨sols_vals h, by omega, by omega⟩
theorem ln_cS {m : Mod} {obj x : List Int} {k : Int} : (((((!(validModB m)) || !(objOkS m obj)) || decide ((x.length : Int) ≠ (m.doms.length : Int))) || !(isSolS m x)) || !(withinB k 1 (x.length : Int))) = !(lnsOk m obj x k) := by
  unfold lnsOk
  cases hv : validModB m with
  | false => simp [objOkB, hv]
  | true =>
    have e1 : objOkB m obj = objOkS m obj := by unfold objOkB objOkS; rw [hv]; rfl
    by_cases hl : x.length = m.doms.length
    · have e2 : isSolS m x = isSolT m x := by
        rw [isSol_eq]; unfold isSolU; rw [hv, hl]; simp
      rw [e1, e2, hl]
      cases objOkS m obj <;> cases isSolT m x <;> cases withinB k 1 (m.doms.length : Int) <;> simp
    · have e3 : isSolT m x = false := by unfold isSolT; rw [show decide ((x.length : Int) = (m.doms.length : Int)) = false from decide_eq_false (by omega)]; simp
      rw [e3, show decide ((x.length : Int) ≠ (m.doms.length : Int)) = true from decide_eq_true (by omega)]; simp
theorem ln_okS {m : Mod} {obj x : List Int} {k : Int} (h : (((((!(validModB m)) || !(objOkS m obj)) || decide ((x.length : Int) ≠ (m.doms.length : Int))) || !(isSolS m x)) || !(withinB k 1 (x.length : Int))) = false) : lnsOk m obj x k = true := by rw [ln_cS] at h; simpa using h
theorem ln_noS {m : Mod} {obj x : List Int} {k : Int} (h : (((((!(validModB m)) || !(objOkS m obj)) || decide ((x.length : Int) ≠ (m.doms.length : Int))) || !(isSolS m x)) || !(withinB k 1 (x.length : Int))) = true) : [] = (lnsV m obj x k).1 ∧ false = (lnsV m obj x k).2 := lns_v (lns_no (by rw [ln_cS] at h; simpa using h))
theorem ln_more {n k i : Nat} {s : List Int} (hn : n ≤ 4) (hk : 1 ≤ k ∧ k ≤ n) (h : s = (setsL n k).getD i []) (hp : (0 : Int) < (s.length : Int)) : i < (setsL n k).length := (set_pos hn hk).1 (by rw [← h]; exact hp)
theorem ln_last {n k i : Nat} {s : List Int} (hn : n ≤ 4) (hk : 1 ≤ k ∧ k ≤ n) (h : s = (setsL n k).getD i []) (hp : ¬ (0 : Int) < (s.length : Int)) : (setsL n k).length ≤ i := by
  rcases Nat.lt_or_ge i (setsL n k).length with g | g
  · exact absurd (by rw [h]; exact (set_pos hn hk).2 g) hp
  · exact g
theorem ln_next {n k i : Nat} {s x : List Int} (hn : n ≤ 4) (hk : 1 ≤ k ∧ k ≤ n) (hi : i < (setsL n k).length) (h : s = (setsL n k).getD i []) (hx : x.length = n) : nextS s (x.length : Int) = (setsL n k).getD (i + 1) [] := by
  rw [h, hx]; exact sets_next hn hk hi
/-! The laws, with the answer as a function. -/
theorem ln_goV {m : Mod} {obj x : List Int} {k : Int} (c : ((((lnsV m obj x k).2 != (lnsV m obj x k).2) || !(decide ((lnsV m obj x k).1 = (lnsV m obj x k).1))) || !((lnsV m obj x k).2)) = false) : lnsOk m obj x k = true ∧ LnsR m obj k.toNat x (lnsV m obj x k).1 := ln_go (lnsV_P m obj x k) (lnsV_P m obj x k) c
theorem ln_finV {m : Mod} {obj x : List Int} {k : Int} (h : lnsOk m obj x k = true ∧ LnsR m obj k.toNat x (lnsV m obj x k).1) :
    (((((isSolT m (lnsV m obj x k).1 && decide (objVal obj (lnsV m obj x k).1 ≤ objVal obj x)) && (lnsV m obj (lnsV m obj x k).1 k).2) && decide ((lnsV m obj (lnsV m obj x k).1 k).1 = (lnsV m obj x k).1)) && (decide (k < (x.length : Int)) || decide (objVal obj (lnsV m obj x k).1 = objVal obj (minI m obj).1)))) = true := ln_fin h (lnsV_P m obj _ k)
theorem vals_mem16 {i : Nat} (h : i < 16) : valsI (i : Int) = membersI (i : Int) := by
  have key : ∀ i, i < 16 → valsI ((i : Nat) : Int) = membersI ((i : Nat) : Int) := by decide +kernel
  exact key i h
theorem free_at {m pq : Mod} {obj x free : List Int} {k : Int} {i : Nat} {fb : Bool} (h : lnsOk m obj x k = true ∧ LnsR m obj k.toNat x (lnsV m obj x k).1) (hf : free = valsI (i : Int)) (hi : (i : Int) < ishl 1 (x.length : Int)) (hl : (free.length : Int) = k) (hn : (pq, fb) = nhI m (lnsV m obj x k).1 free) :
    (((!fb) || !((minI pq obj).2)) || decide (objVal obj (minI pq obj).1 < objVal obj (lnsV m obj x k).1)) = false := by
  have hg := lnOk h.1
  have hnn := hg.hM.n
  obtain ⟨h1, h2, h3⟩ := lns_end hg.hM h.2 hg.hx
  have hxl := sols_len hg.hx
  rw [hxl, ishl_pow hnn.2] at hi
  have h16 := pow_16 hnn.2
  have hk0 := hg.k0
  have hm : free ∈ setsL m.doms.length k.toNat := by
    rw [hf, vals_mem16 (by omega)]
    exact sets_mask hnn.2 hg.hk (by omega) (by rw [← vals_mem16 (by omega), ← hf]; omega)
  have hs := sets_ok hnn.2 hg.hk hm
  have hyl := sols_len h1
  have hyv := sols_vals h1
  have hok : nhOk m (lnsV m obj x k).1 free = true := by
    unfold nhOk varSetI varsInB
    rw [hs.asc, hg.hM.v, hs.inn, hyl, show allInB (lnsV m obj x k).1 0 5 = true from allInB_iff.2 hyv]; simp
  rw [(nh_ok hok).hn, Prod.mk.injEq] at hn
  have h4 := nb_least ⟨hg.hM, h1⟩ (h3 free hm)
  have e : minI pq obj = bstM (nbM m (lnsV m obj x k).1 free) obj := by
    rw [hn.1]
    unfold minI
    rw [if_pos]
    · rfl
    · unfold objOkB
      rw [(near_mok hg.hM hyv hyl _).v, show allInB obj (-9) 9 = true from allInB_iff.2 hg.hO]
      show (true && decide ((obj.length : Int) = ((nearT m.doms (lnsV m obj x k).1 free (lnsV m obj x k).1.length).length : Int))) && true = true
      rw [near_len, hg.ho]; simp
  have hz : (bstM (nbM m (lnsV m obj x k).1 free) obj).1 ∈ sols m := ((near_sol hg.hM hyv hyl).1 (best_mem h4.1).1).1
  rw [e, hn.2, h4.1, obj_val hg.ho hg.hO hg.hM hz, obj_val hg.ho hg.hO hg.hM h1, decide_eq_false (by have := h4.2; omega)]; rfl
theorem ok_smallL {m : Mod} (h : MOk m) : ModSm 100 m := ok_small h
theorem ln_jumpS {m : Mod} {obj x nw s : List Int} {k : Int} {j : Nat} (hg : LnOk m obj x k) (hs : nw ∈ sols m ∧ ∀ r, LnsR m obj k.toNat nw r → LnsR m obj k.toNat x r) (hall : ∀ i, i < j → impB m obj nw ((setsL m.doms.length k.toNat).getD i []) = false) (hj : j < (setsL m.doms.length k.toNat).length) (e : s = (setsL m.doms.length k.toNat).getD j [])
    (h : impB m obj nw s = true) : (bstM (nbM m nw s) obj).1 ∈ sols m ∧ ∀ r, LnsR m obj k.toNat (bstM (nbM m nw s) obj).1 r → LnsR m obj k.toNat x r := by subst e; exact ln_jump hg hs hall hj h
theorem ln_stepIS {m : Mod} {obj nw s : List Int} {k j : Nat} (hall : ∀ i, i < j → impB m obj nw ((setsL m.doms.length k).getD i []) = false) (e : s = (setsL m.doms.length k).getD j []) (h : impB m obj nw s = false) : ∀ i, i < j + 1 → impB m obj nw ((setsL m.doms.length k).getD i []) = false := by subst e; exact ln_stepI hall h
theorem domV_16 {i : Nat} (h : i < 16) : domVI (i : Int) = valsI (i : Int) := by
  unfold domVI; rw [if_pos (withinB_iff.2 ⟨by omega, by omega⟩)]
theorem sh_of {n k : Nat} (h : (k : Int) < ishl 1 (n : Int)) (hn : n ≤ 4) : ishl 1 (n : Int) = ((2 ^ n : Nat) : Int) ∧ k < 16 := ⟨ishl_pow hn, lt_16 hn h (ishl_pow hn)⟩
end Go.Proofs.YtkfioalfofoikaaGreat
