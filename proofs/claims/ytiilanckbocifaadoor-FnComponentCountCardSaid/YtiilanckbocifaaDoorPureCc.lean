/- Plain law: the number of solutions is the product of the numbers of solutions of the components. No program in sight. Conditions: none. -/
import Derived.Test.YtiilanckbocifaaDoorPureSm
import Derived.Test.YtiilanckbocifaaDoorPureT
namespace Go.Proofs.YtiilanckbocifaaDoor
open Go
set_option linter.unusedSimpArgs false
set_option linter.unusedVariables false
/-! Counting over functions. -/
def upd (x : Nat → Int) (v : Nat) (a : Int) : Nat → Int := fun i => if i = v then a else x i
def cntF (ds : Nat → List Int) : List Nat → (Nat → Int) → ((Nat → Int) → Bool) → Nat
  | [], x, P => if P x = true then 1 else 0
  | v :: vs, x, P => ((ds v).map (fun a => cntF ds vs (upd x v a) P)).sum
def DepOn (A : Nat → Bool) (P : (Nat → Int) → Bool) : Prop := ∀ x y : Nat → Int, (∀ i, A i = true → x i = y i) → P x = P y
theorem cntF_dep {ds : Nat → List Int} {A : Nat → Bool} {P : (Nat → Int) → Bool} (h : DepOn A P) : ∀ (vs : List Nat) (x y : Nat → Int), (∀ i, A i = true → x i = y i) → cntF ds vs x P = cntF ds vs y P
  | [], x, y, e => by simp only [cntF]; rw [h x y e]
  | v :: vs, x, y, e => by
    simp only [cntF]
    congr 1
    refine List.map_congr_left fun a _ => cntF_dep h vs _ _ fun i hi => ?_
    unfold upd; split
    · rfl
    · exact e i hi
theorem cntF_congr {ds : Nat → List Int} {P Q : (Nat → Int) → Bool} (h : ∀ x, P x = Q x) : ∀ (vs : List Nat) (x : Nat → Int), cntF ds vs x P = cntF ds vs x Q
  | [], x => by simp only [cntF, h]
  | v :: vs, x => by simp only [cntF]; congr 1; exact List.map_congr_left fun a _ => cntF_congr h vs _
theorem sum_mul {A : Type} (f : A → Nat) (c : Nat) : ∀ xs : List A, (xs.map (fun a => f a * c)).sum = (xs.map f).sum * c
  | [] => by simp
  | x :: xs => by simp only [List.map_cons, List.sum_cons, sum_mul f c xs, Nat.add_mul]
theorem mul_sum {A : Type} (f : A → Nat) (c : Nat) : ∀ xs : List A, (xs.map (fun a => c * f a)).sum = c * (xs.map f).sum
  | [] => by simp
  | x :: xs => by simp only [List.map_cons, List.sum_cons, mul_sum f c xs, Nat.mul_add]
theorem cntF_fac {ds : Nat → List Int} {A : Nat → Bool} {P1 P2 : (Nat → Int) → Bool} (h1 : DepOn A P1) (h2 : DepOn (fun i => !(A i)) P2) : ∀ (vs : List Nat) (x : Nat → Int),
    cntF ds vs x (fun y => P1 y && P2 y) = cntF ds (vs.filter A) x P1 * cntF ds (vs.filter (fun i => !(A i))) x P2
  | [], x => by
    simp only [cntF, List.filter_nil]
    by_cases e1 : P1 x = true <;> by_cases e2 : P2 x = true <;> simp [e1, e2]
  | v :: vs, x => by
    cases hv : A v with
    | true =>
      rw [List.filter_cons, if_pos hv, List.filter_cons, if_neg (by simp [hv])]
      simp only [cntF]
      rw [← sum_mul]
      congr 1
      refine List.map_congr_left fun a _ => ?_
      rw [cntF_fac h1 h2 vs]
      congr 1
      refine cntF_dep h2 _ _ _ fun i hi => ?_
      unfold upd; split
      · rename_i e; subst e; rw [hv] at hi; cases hi
      · rfl
    | false =>
      rw [List.filter_cons, if_neg (by simp [hv]), List.filter_cons, if_pos (by simp [hv])]
      simp only [cntF]
      rw [← mul_sum]
      congr 1
      refine List.map_congr_left fun a _ => ?_
      rw [cntF_fac h1 h2 vs]
      congr 1
      refine cntF_dep h1 _ _ _ fun i hi => ?_
      unfold upd; split
      · rename_i e; subst e; rw [hv] at hi; cases hi
      · rfl
/-! Counting over tuples. -/
def updL (x : Nat → Int) : List Nat → List Int → Nat → Int
  | [], _ => x
  | v :: vs, a :: t => updL (upd x v a) vs t
  | _ :: _, [] => x
theorem updL_not {v : Nat} : ∀ (vs : List Nat) (x : Nat → Int) (t : List Int), v ∉ vs → updL x vs t v = x v
  | [], x, t, _ => rfl
  | u :: vs, x, [], _ => rfl
  | u :: vs, x, a :: t, h => by
    rw [List.mem_cons, not_or] at h
    rw [updL, updL_not vs _ t h.2]; unfold upd; rw [if_neg h.1]
theorem updL_at : ∀ (vs : List Nat) (x : Nat → Int) (t : List Int) (i : Nat), vs.Nodup → t.length = vs.length → i < vs.length → updL x vs t (vs.getD i 0) = t.getD i 0
  | [], x, t, i, _, _, h => absurd h (Nat.not_lt_zero _)
  | u :: vs, x, [], i, _, h, _ => by simp at h
  | u :: vs, x, a :: t, 0, hn, _, _ => by
    simp only [List.getD_cons_zero, updL]
    rw [updL_not vs _ t (List.nodup_cons.1 hn).1]; unfold upd; rw [if_pos rfl]
  | u :: vs, x, a :: t, i + 1, hn, hl, hi => by
    simp only [List.getD_cons_succ, updL]
    exact updL_at vs _ t i (List.nodup_cons.1 hn).2 (by simpa using hl) (by simpa using hi)
theorem flat_len_sum {A B : Type} (f : A → List B) : ∀ xs : List A, (xs.flatMap f).length = (xs.map (fun a => (f a).length)).sum
  | [] => rfl
  | x :: xs => by rw [List.flatMap_cons, List.length_append, flat_len_sum f xs, List.map_cons, List.sum_cons]
theorem cnt_tup {D : Nat → Int} : ∀ (vs : List Nat) (x : Nat → Int) (P : (Nat → Int) → Bool), cntF (fun i => valsI (D i)) vs x P = ((tupL (vs.map D)).filter (fun t => P (updL x vs t))).length
  | [], x, P => by
    simp only [cntF, List.map_nil, tupL, updL, List.filter_cons, List.filter_nil]
    cases P x <;> rfl
  | v :: vs, x, P => by
    simp only [cntF, List.map_cons, tupL]
    rw [filter_flat, flat_len_sum]
    congr 1
    refine List.map_congr_left fun a _ => ?_
    rw [cnt_tup vs (upd x v a) P, List.filter_map, List.length_map]
    rfl
/-! The constraints on a set of variables. -/
def satF (x : Nat → Int) (c : Con) : Bool := satB c (c.vars.map (fun v => x v.toNat))
def onS (S : Nat → Bool) (c : Con) : Bool := c.vars.all (fun v => S v.toNat)
def metF (m : Mod) (S : Nat → Bool) (x : Nat → Int) : Bool := m.cons.all (fun c => !(onS S c) || satF x c)
theorem satF_congr {c : Con} {S : Nat → Bool} (h : onS S c = true) {x y : Nat → Int} (e : ∀ i, S i = true → x i = y i) : satF x c = satF y c := by
  unfold satF; congr 1
  exact List.map_congr_left fun v hv => e _ (List.all_eq_true.1 h v hv)
theorem metF_dep (m : Mod) (S : Nat → Bool) : DepOn S (metF m S) := fun x y e => by
  unfold metF; congr 1; funext c
  cases h : onS S c with
  | false => rfl
  | true => simp only [Bool.not_true, Bool.false_or]; exact satF_congr h e
def setL (S : Nat → Bool) (n : Nat) : List Nat := (List.range n).filter S
theorem nats_getD {xs : List Nat} {i : Nat} : (natsI xs).getD i 0 = ((xs.getD i 0 : Nat) : Int) := by
  simp only [natsI, List.getD_eq_getElem?_getD, List.getElem?_map]
  cases xs[i]? <;> rfl
theorem mem_nats {xs : List Nat} {v : Int} : v ∈ natsI xs ↔ ∃ i, i ∈ xs ∧ (i : Int) = v := by simp [natsI]
theorem asc_filter (S : Nat → Bool) (n : Nat) : ascB (natsI (setL S n)) = true := by
  rw [ascB, List.all_eq_true]
  intro i hi
  have hi : i < (setL S n).length := by simpa [natsI] using hi
  unfold ascAt
  by_cases h0 : i = 0
  · subst h0; simp
  · have hp : (setL S n).Pairwise (· < ·) := List.pairwise_lt_range.filter S
    rw [List.pairwise_iff_getElem] at hp
    have h1 := hp (i - 1) i (by omega) hi (by omega)
    rw [nats_getD, nats_getD, show ((i : Int) - 1).toNat = i - 1 from by omega]
    simp only [List.getD_eq_getElem?_getD, List.getElem?_eq_getElem hi, List.getElem?_eq_getElem (show i - 1 < (setL S n).length by omega), Option.getD_some]
    have h2 : ¬ (((setL S n)[i] : Nat) : Int) ≤ (((setL S n)[i - 1] : Nat) : Int) := by omega
    rw [decide_eq_false h2]; simp
theorem setL_ok {m : Mod} (hM : MOk m) {S : Nat → Bool} (h : 0 < (setL S m.doms.length).length) : SubOk m (natsI (setL S m.doms.length)) :=
  ⟨hM, by simpa [natsI] using h, asc_filter S _, fun v hv => by
    obtain ⟨i, hi, rfl⟩ := mem_nats.1 hv
    have := List.mem_range.1 (List.mem_filter.1 hi).1
    omega⟩
theorem onS_ins {m : Mod} (hM : MOk m) {S : Nat → Bool} {c : Con} (hc : c ∈ m.cons) : insB (natsI (setL S m.doms.length)) c = onS S c := by
  rw [Bool.eq_iff_iff, ins_iff, onS, List.all_eq_true]
  constructor
  · intro h v hv
    obtain ⟨i, hi, rfl⟩ := mem_nats.1 (h v hv)
    rw [Int.toNat_natCast]; exact (List.mem_filter.1 hi).2
  · intro h v hv
    have h1 := hM.i c hc v hv
    exact mem_nats.2 ⟨v.toNat, List.mem_filter.2 ⟨List.mem_range.2 (by omega), h v hv⟩, by omega⟩
/-- The number of solutions of the part is the count over its variables. -/
theorem part_cnt {m : Mod} (hM : MOk m) (S : Nat → Bool) (x : Nat → Int) : (sols (subM m (natsI (setL S m.doms.length)))).length = cntF (fun i => valsI (m.doms.getD i 0)) (setL S m.doms.length) x (metF m S) := by
  have hnd : (setL S m.doms.length).Nodup := List.nodup_range.filter _
  rw [cnt_tup (D := fun i => m.doms.getD i 0)]
  have hd : (subM m (natsI (setL S m.doms.length))).doms = (setL S m.doms.length).map (fun i => m.doms.getD i 0) := by
    simp only [subM, wordL, natsI, List.map_map]
    exact List.map_congr_left fun i _ => by simp
  unfold sols solT
  rw [hd]
  congr 1
  refine List.filter_congr fun t ht => ?_
  have hl : t.length = (setL S m.doms.length).length := by rw [(mem_tupL.1 ht).1]; simp
  have hw : ∀ c ∈ m.cons, onS S c = true → conAt t (subC (natsI (setL S m.doms.length)) c) = satF (updL x (setL S m.doms.length) t) c := fun c hc ho => by
    have hi := ins_iff.1 ((onS_ins hM hc).trans ho)
    unfold conAt satF
    rw [show satB (subC (natsI (setL S m.doms.length)) c) = satB c from rfl]
    congr 1
    simp only [wordL, subC, List.map_map]
    refine List.map_congr_left fun v hv => ?_
    obtain ⟨i, h1, h2, h3⟩ := pos_at (hi v hv)
    have h2' : i < (setL S m.doms.length).length := by simpa [natsI] using h2
    simp only [Function.comp_apply, h1, Int.toNat_natCast]
    rw [← updL_at (setL S m.doms.length) x t i hnd hl h2', ← h3, nats_getD, Int.toNat_natCast]
  unfold metB metF
  rw [show (subM m (natsI (setL S m.doms.length))).cons = (m.cons.filter (insB (natsI (setL S m.doms.length)))).map (subC (natsI (setL S m.doms.length))) from rfl, List.all_map, Bool.eq_iff_iff, List.all_eq_true, List.all_eq_true]
  constructor
  · intro h c hc
    cases ho : onS S c with
    | false => rfl
    | true =>
      have := h c (List.mem_filter.2 ⟨hc, (onS_ins hM hc).trans ho⟩)
      rw [Function.comp_apply, hw c hc ho] at this
      rw [this]; rfl
  · intro h c hc
    obtain ⟨hc, hi⟩ := List.mem_filter.1 hc
    have ho := (onS_ins hM hc).symm.trans hi
    have := h c hc
    rw [ho] at this
    rw [Function.comp_apply, hw c hc ho]; simpa using this
/-! Components. -/
def cmS (m : Mod) (v : Nat) : Nat → Bool := fun u => decide ((compI m).getD u 0 = (v : Int))
def cmT (m : Mod) (k : Nat) : Nat → Bool := fun u => decide ((compI m).getD u 0 < (k : Int))
def cmL (m : Mod) (v : Nat) : List Int := natsI (setL (cmS m v) m.doms.length)
def cmTo (m : Mod) (v k : Nat) : List Int := natsI ((List.range k).filter (cmS m v))
theorem con_same {m : Mod} (hM : MOk m) {c : Con} (hc : c ∈ m.cons) {a b : Int} (ha : a ∈ c.vars) (hb : b ∈ c.vars) : (compI m).getD a.toNat 0 = (compI m).getD b.toNat 0 := by
  have h1 := hM.i c hc a ha
  have h2 := hM.i c hc b hb
  obtain ⟨a, rfl⟩ := Int.eq_ofNat_of_zero_le h1.1
  obtain ⟨b, rfl⟩ := Int.eq_ofNat_of_zero_le h2.1
  simp only [Int.toNat_natCast]
  by_cases e : a = b
  · rw [e]
  · rw [compI_at hM.v (by omega), compI_at hM.v (by omega)]
    exact comp_same hM (by omega) (by omega) (.step .refl (adjB_iff.2 ⟨c, hc, ha, hb, e⟩) (by omega) (fun h => h))
def prodC (m : Mod) : Nat → Int
  | 0 => 1
  | k + 1 => if cmL m k = [] then prodC m k else prodC m k * cntI (subM m (cmL m k))
theorem con_ne {m : Mod} (hM : MOk m) {c : Con} (hc : c ∈ m.cons) : ∃ a, a ∈ c.vars := by
  have := (ConOk.mk (hM.cm hc)).one
  exact List.exists_mem_of_length_pos (by omega)
theorem met_split {m : Mod} (hM : MOk m) (k : Nat) (x : Nat → Int) : metF m (cmT m (k + 1)) x = (metF m (cmT m k) x && metF m (cmS m k) x) := by
  unfold metF
  rw [Bool.eq_iff_iff, Bool.and_eq_true, List.all_eq_true, List.all_eq_true, List.all_eq_true, ← forall_and]
  refine forall_congr' fun c => ?_
  rw [← imp_and]
  refine imp_congr_right fun hc => ?_
  obtain ⟨a, ha⟩ := con_ne hM hc
  have all : ∀ p : Int → Bool, c.vars.all (fun v => p ((compI m).getD v.toNat 0)) = p ((compI m).getD a.toNat 0) := fun p => by
    rw [Bool.eq_iff_iff, List.all_eq_true]
    exact ⟨fun h => h a ha, fun h v hv => by rw [con_same hM hc hv ha]; exact h⟩
  have e1 : onS (cmT m (k + 1)) c = decide ((compI m).getD a.toNat 0 < ((k + 1 : Nat) : Int)) := all (fun z => decide (z < ((k + 1 : Nat) : Int)))
  have e2 : onS (cmT m k) c = decide ((compI m).getD a.toNat 0 < (k : Int)) := all (fun z => decide (z < (k : Int)))
  have e3 : onS (cmS m k) c = decide ((compI m).getD a.toNat 0 = (k : Int)) := all (fun z => decide (z = (k : Int)))
  rw [e1, e2, e3]
  rcases Int.lt_trichotomy ((compI m).getD a.toNat 0) (k : Int) with h | h | h
  · rw [decide_eq_true (by omega), decide_eq_true h, decide_eq_false (by omega)]; simp
  · rw [decide_eq_true (by omega), decide_eq_false (by omega), decide_eq_true h]; simp
  · rw [decide_eq_false (by omega), decide_eq_false (by omega), decide_eq_false (by omega)]; simp
theorem dep_mono {A B : Nat → Bool} {P : (Nat → Int) → Bool} (h : DepOn A P) (hs : ∀ i, A i = true → B i = true) : DepOn B P := fun x y e => h x y fun i hi => e i (hs i hi)
def zeroF : Nat → Int := fun _ => 0
def cntS (m : Mod) (S : Nat → Bool) : Nat := cntF (fun i => valsI (m.doms.getD i 0)) (setL S m.doms.length) zeroF (metF m S)
theorem cnt_split {m : Mod} (hM : MOk m) (k : Nat) : cntS m (cmT m (k + 1)) = cntS m (cmT m k) * cntS m (cmS m k) := by
  unfold cntS
  rw [cntF_congr (met_split hM k), cntF_fac (A := cmT m k) (metF_dep m _) (dep_mono (metF_dep m (cmS m k)) fun i hi => by
    simp only [cmS, cmT, decide_eq_true_eq, Bool.not_eq_true', decide_eq_false_iff_not] at *; omega)]
  have e1 : (setL (cmT m (k + 1)) m.doms.length).filter (cmT m k) = setL (cmT m k) m.doms.length := by
    unfold setL
    rw [List.filter_filter]
    refine List.filter_congr fun i _ => ?_
    simp only [cmT]
    rw [Bool.eq_iff_iff]; simp only [Bool.and_eq_true, decide_eq_true_eq]; omega
  have e2 : (setL (cmT m (k + 1)) m.doms.length).filter (fun i => !(cmT m k i)) = setL (cmS m k) m.doms.length := by
    unfold setL
    rw [List.filter_filter]
    refine List.filter_congr fun i _ => ?_
    simp only [cmT, cmS]
    rw [Bool.eq_iff_iff]; simp only [Bool.and_eq_true, decide_eq_true_eq, Bool.not_eq_true', decide_eq_false_iff_not]; omega
  rw [e1, e2]
theorem cnt_part {m : Mod} (hM : MOk m) {v : Nat} (h : cmL m v ≠ []) : cntI (subM m (cmL m v)) = (cntS m (cmS m v) : Int) := by
  have hp : 0 < (setL (cmS m v) m.doms.length).length := by
    rcases Nat.eq_zero_or_pos (setL (cmS m v) m.doms.length).length with e | e
    · exact absurd (by unfold cmL; rw [List.eq_nil_of_length_eq_zero e]; rfl) h
    · exact e
  unfold cmL cntS
  rw [← cnt_yes (sub_valid (setL_ok hM hp)).v]
  rw [part_cnt hM _ zeroF]
theorem cnt_none {m : Mod} (hM : MOk m) {v : Nat} (h : cmL m v = []) : cntS m (cmS m v) = 1 := by
  have e : setL (cmS m v) m.doms.length = [] := by simpa [cmL, natsI] using h
  unfold cntS
  rw [e]
  simp only [cntF]
  rw [if_pos]
  unfold metF
  rw [List.all_eq_true]
  intro c hc
  obtain ⟨a, ha⟩ := con_ne hM hc
  have hi := hM.i c hc a ha
  have : onS (cmS m v) c = false := by
    rw [Bool.eq_false_iff]
    intro ho
    have : a.toNat ∈ setL (cmS m v) m.doms.length := List.mem_filter.2 ⟨List.mem_range.2 (by omega), List.all_eq_true.1 ho a ha⟩
    rw [e] at this; cases this
  rw [this]; rfl
theorem prod_cnt {m : Mod} (hM : MOk m) : ∀ k, prodC m k = (cntS m (cmT m k) : Int)
  | 0 => by
    have e : setL (cmT m 0) m.doms.length = [] := by
      unfold setL
      rw [List.filter_eq_nil_iff]
      intro i hi
      have := compI_in hM.v (List.mem_range.1 hi)
      simp only [cmT, decide_eq_true_eq]; omega
    unfold cntS
    rw [e]
    simp only [cntF, prodC]
    rw [if_pos]
    · rfl
    · unfold metF
      rw [List.all_eq_true]
      intro c hc
      obtain ⟨a, ha⟩ := con_ne hM hc
      have hi := hM.i c hc a ha
      have : onS (cmT m 0) c = false := by
        rw [Bool.eq_false_iff]
        intro ho
        have h1 := List.all_eq_true.1 ho a ha
        have := compI_in hM.v (v := a.toNat) (by omega)
        simp only [cmT, decide_eq_true_eq] at h1; omega
      rw [this]; rfl
  | k + 1 => by
    rw [prodC, cnt_split hM, prod_cnt hM k]
    split
    · rename_i h; rw [cnt_none hM h]; simp
    · rename_i h; rw [cnt_part hM h]; simp
theorem prod_all {m : Mod} (hM : MOk m) : prodC m m.doms.length = cntI m := by
  rw [prod_cnt hM, ← cnt_yes hM.v]
  have e : setL (cmT m m.doms.length) m.doms.length = List.range m.doms.length := List.filter_eq_self.2 fun i hi => by
    have := compI_in hM.v (List.mem_range.1 hi)
    simp only [cmT, decide_eq_true_eq]; omega
  have := part_cnt hM (cmT m m.doms.length) zeroF
  rw [e, sub_all hM] at this
  unfold cntS
  rw [this, e]
theorem cntS_few {m : Mod} (hM : MOk m) (S : Nat → Bool) : cntS m S ≤ 1296 := by
  unfold cntS
  rw [cnt_tup (D := fun i => m.doms.getD i 0)]
  refine Nat.le_trans (List.length_filter_le _ _) (tupL_few ?_)
  have h1 := List.length_filter_le S (List.range m.doms.length)
  have := hM.n
  simp only [List.length_map, setL, List.length_range] at *; omega
theorem prod_b {m : Mod} (hM : MOk m) (k : Nat) : 0 ≤ prodC m k ∧ prodC m k ≤ 1296 := by
  rw [prod_cnt hM]; have := cntS_few hM (cmT m k); omega
theorem part_b {m : Mod} (hM : MOk m) {v : Nat} (h : cmL m v ≠ []) : 0 ≤ cntI (subM m (cmL m v)) ∧ cntI (subM m (cmL m v)) ≤ 1296 := by
  rw [cnt_part hM h]; have := cntS_few hM (cmS m v); omega
/-! What the walk asks. -/
theorem mok_of {m : Mod} (h : validModB m = true) : MOk m := ⟨h⟩
theorem cmTo_len {m : Mod} {vs : List Int} {k j : Nat} (h : vs = cmTo m k j) : vs.length ≤ j := by
  rw [h, cmTo, natsI, List.length_map]
  have := List.length_filter_le (cmS m k) (List.range j)
  simpa using this
theorem cmTo_T {m : Mod} {vs : List Int} {k j : Nat} (h : vs = cmTo m k j) (c : (compI m).getD j 0 = (k : Int)) : vs ++ [(j : Int)] = cmTo m k (j + 1) := by
  rw [h, cmTo, cmTo, List.range_succ, List.filter_append, List.filter_cons, if_pos (show cmS m k j = true from decide_eq_true c)]
  simp [natsI]
theorem cmTo_F {m : Mod} {vs : List Int} {k j : Nat} (h : vs = cmTo m k j) (c : ¬ (compI m).getD j 0 = (k : Int)) : vs = cmTo m k (j + 1) := by
  rw [h, cmTo, cmTo, List.range_succ, List.filter_append, List.filter_cons, if_neg (show ¬ cmS m k j = true from fun h => c (of_decide_eq_true h))]
  simp
theorem cm_vs {m : Mod} {vs : List Int} {k j : Nat} (hl : (compI m).length = m.doms.length) (h : vs = cmTo m k j) (hj : j = (compI m).length) : vs = cmL m k := by
  rw [h, hj, hl]; rfl
theorem cm_sub {m z : Mod} {vs : List Int} {b : Bool} {k : Nat} (hM : MOk m) (h : (z, b) = subR m vs) (hv : vs = cmL m k) (hp : (0 : Int) < (vs.length : Int)) : cmL m k ≠ [] ∧ z = subM m (cmL m k) ∧ b = true := by
  subst hv
  have hne : cmL m k ≠ [] := fun e => by rw [e] at hp; simp at hp
  have hpos : 0 < (setL (cmS m k) m.doms.length).length := by simpa [cmL, natsI] using hp
  have hok : SubOk m (cmL m k) := setL_ok hM hpos
  rw [sub_yes hok, Prod.mk.injEq] at h
  exact ⟨hne, h.1, h.2⟩
theorem cm_some {m z : Mod} {vs : List Int} {b : Bool} {k : Nat} (hM : MOk m) (h : (z, b) = subR m vs) (hv : vs = cmL m k) (hp : (0 : Int) < (vs.length : Int)) : b = true := (cm_sub hM h hv hp).2.2
theorem cc_b {m z : Mod} {vs : List Int} {b : Bool} {k : Nat} (hM : MOk m) (h : (z, b) = subR m vs) (hv : vs = cmL m k) (hp : (0 : Int) < (vs.length : Int)) : 0 ≤ cntI z ∧ cntI z ≤ 1296 := by
  obtain ⟨h1, h2, _⟩ := cm_sub hM h hv hp
  rw [h2]; exact part_b hM h1
theorem cc_mul {p q : Int} (hp : 0 ≤ p ∧ p ≤ 1296) (hq : 0 ≤ q ∧ q ≤ 1296) : 0 ≤ p * q ∧ p * q ≤ 1679616 := by
  refine ⟨Int.mul_nonneg hp.1 hq.1, ?_⟩
  have := Int.mul_le_mul hp.2 hq.2 hq.1 (by decide : (0 : Int) ≤ 1296)
  omega
theorem cc_T {m z : Mod} {vs : List Int} {b : Bool} {k : Nat} {p : Int} (hM : MOk m) (e : p = prodC m k) (h : (z, b) = subR m vs) (hv : vs = cmL m k) (hp : (0 : Int) < (vs.length : Int)) : p * cntI z = prodC m (k + 1) := by
  obtain ⟨h1, h2, _⟩ := cm_sub hM h hv hp
  rw [prodC, if_neg h1, e, h2]
theorem cc_F {m : Mod} {vs : List Int} {k : Nat} {p : Int} (e : p = prodC m k) (hv : vs = cmL m k) (hp : ¬ (0 : Int) < (vs.length : Int)) : p = prodC m (k + 1) := by
  have : vs = [] := List.eq_nil_of_length_eq_zero (by omega)
  rw [prodC, if_pos (by rw [← hv]; exact this), e]
theorem cc_fin {m : Mod} {k : Nat} {p : Int} (hM : MOk m) (hl : (compI m).length = m.doms.length) (e : p = prodC m k) (hk : k = (compI m).length) : decide (p = cntI m) = true := by
  rw [e, hk, hl, prod_all hM]; simp
end Go.Proofs.YtiilanckbocifaaDoor
