/- Proofs by reverse propagation, in plain lists. Conditions: none. -/
import Derived.Test.YtojinjdobjodaaaGreatLrw
import Derived.Test.YtojinjdobjodaaaGreatPureNg
import Derived.Test.YtojinjdobjodaaaGreatPureI
import Derived.Test.YtojinjdobjodaaaGreatPureSm
namespace Go.Proofs.YtojinjdobjodaaaGreat
open Go
set_option linter.unusedSimpArgs false
set_option linter.unusedVariables false
theorem pairOf {A B : Type} {a : A} {b : B} {p : A × B} (h : (a, b) = p) : a = p.1 ∧ b = p.2 := by subst h; exact ⟨rfl, rfl⟩
theorem and_has {d e : Int} (hd : 0 ≤ d ∧ d ≤ 63) (he : 0 ≤ e ∧ e ≤ 63) : (0 ≤ iand d e ∧ iand d e ≤ 63) ∧ ∀ u : Int, 0 ≤ u ∧ u ≤ 5 → hasB (iand d e) u = (hasB d u && hasB e u) := by
  have key : ∀ d, d < 64 → ∀ e, e < 64 → (0 ≤ iand ((d : Nat) : Int) ((e : Nat) : Int) ∧ iand ((d : Nat) : Int) ((e : Nat) : Int) ≤ 63) ∧ ∀ u, u < 6 → hasB (iand ((d : Nat) : Int) ((e : Nat) : Int)) ((u : Nat) : Int) = (hasB ((d : Nat) : Int) ((u : Nat) : Int) && hasB ((e : Nat) : Int) ((u : Nat) : Int)) := by decide +kernel
  obtain ⟨i, rfl⟩ := Int.eq_ofNat_of_zero_le hd.1
  obtain ⟨j, rfl⟩ := Int.eq_ofNat_of_zero_le he.1
  have h := key i (by omega) j (by omega)
  refine ⟨h.1, fun u hu => ?_⟩
  obtain ⟨w, rfl⟩ := Int.eq_ofNat_of_zero_le hu.1
  exact h.2 w (by omega)
theorem trues_ok {l : Lit} (h : 0 ≤ l.val ∧ l.val ≤ 5) : 0 ≤ truesI l ∧ truesI l ≤ 63 := by
  have key : ∀ i, i < 6 → (0 ≤ iandNot 63 (ishl 1 ((i : Nat) : Int)) ∧ iandNot 63 (ishl 1 ((i : Nat) : Int)) ≤ 63) ∧ (0 ≤ ishl 1 ((i : Nat) : Int) ∧ ishl 1 ((i : Nat) : Int) ≤ 63) := by decide +kernel
  obtain ⟨a, b, c⟩ := l
  dsimp only at h
  obtain ⟨i, rfl⟩ := Int.eq_ofNat_of_zero_le h.1
  have k := key i (by omega)
  unfold truesI
  cases c
  · exact k.2
  · exact k.1
/-- What the reference writes for the values of a literal. -/
theorem trues_sub {l : Lit} (h : 0 ≤ l.val ∧ l.val ≤ 5) : (l.neg = true → 63 - ishl 1 l.val = truesI l) ∧ 63 - truesI l = truesI (negL l) := by
  have key : ∀ i, i < 6 → 63 - ishl 1 ((i : Nat) : Int) = iandNot 63 (ishl 1 ((i : Nat) : Int)) ∧ 63 - iandNot 63 (ishl 1 ((i : Nat) : Int)) = ishl 1 ((i : Nat) : Int) := by decide +kernel
  obtain ⟨a, b, c⟩ := l
  dsimp only at h
  obtain ⟨i, rfl⟩ := Int.eq_ofNat_of_zero_le h.1
  have k := key i (by omega)
  unfold truesI negL
  cases c
  · exact ⟨fun h => (by cases h), k.1⟩
  · exact ⟨fun _ => k.1, k.2⟩
def LitIn (n : Nat) (l : Lit) : Prop := (0 ≤ l.var ∧ l.var < (n : Int)) ∧ (0 ≤ l.val ∧ l.val ≤ 5)
def ClIn (n : Nat) (c : List Lit) : Prop := ∀ l ∈ c, LitIn n l
def ClsIn (n : Nat) (cls : List (List Lit)) : Prop := ∀ c ∈ cls, ClIn n c
/-- One literal is set. -/
def setT (d : List Int) (l : Lit) : List Int := d.set l.var.toNat (iand (d.getD l.var.toNat 0) (truesI l))
def rstL (d : List Int) (ls : List Lit) : List Int := ls.foldl setT d
theorem setT_len (d : List Int) (l : Lit) : (setT d l).length = d.length := by simp [setT]
theorem getD_setT {d : List Int} {l : Lit} {n : Nat} (hd : DOk n d) (hl : LitIn n l) (i : Nat) : (setT d l).getD i 0 = if i = l.var.toNat then iand (d.getD i 0) (truesI l) else d.getD i 0 := by
  have hv : l.var.toNat < d.length := by rw [hd.l]; have := hl.1; omega
  unfold setT
  by_cases e : i = l.var.toNat
  · subst e; rw [if_pos rfl]; simp [List.getD, hv]
  · rw [if_neg e]
    have e' : l.var.toNat ≠ i := fun h => e h.symm
    simp [List.getD, List.getElem?_set, e']
theorem setT_ok {d : List Int} {l : Lit} {n : Nat} (hd : DOk n d) (hl : LitIn n l) : DOk n (setT d l) ∧ SubD (setT d l) d := by
  have hv : l.var.toNat < d.length := by rw [hd.l]; have := hl.1; omega
  have ht := trues_ok hl.2
  refine ⟨⟨(setT_len d l).trans hd.l, fun x hx => ?_⟩, setT_len d l, fun i hi v hv5 h => ?_⟩
  · unfold setT at hx
    rcases List.mem_or_eq_of_mem_set hx with h | h
    · exact hd.d x h
    · rw [h]; exact (and_has (hd.d.at hv) ht).1
  · rw [getD_setT hd hl] at h
    split at h
    · rw [(and_has (hd.d.at hi) ht).2 v hv5, Bool.and_eq_true] at h; exact h.1
    · exact h
theorem rstL_ok {n : Nat} : ∀ {ls : List Lit} {d : List Int}, DOk n d → ClIn n ls → DOk n (rstL d ls) ∧ SubD (rstL d ls) d
  | [], d, hd, _ => ⟨hd, SubD.refl d⟩
  | l :: ls, d, hd, h => by
    have h1 := setT_ok hd (h l (.head _))
    have h2 := rstL_ok (ls := ls) h1.1 (fun k hk => h k (.tail _ hk))
    exact ⟨h2.1, h2.2.trans h1.2⟩
theorem domL_ext {n : Nat} {a b : List Int} (ha : DOk n a) (hb : DOk n b) (h : ∀ i, i < n → ∀ v, 0 ≤ v ∧ v ≤ 5 → hasB (a.getD i 0) v = hasB (b.getD i 0) v) : a = b := by
  apply List.ext_getElem (ha.l.trans hb.l.symm)
  intro i h1 h2
  have e1 : a[i] = a.getD i 0 := by simp [List.getD, h1]
  have e2 : b[i] = b.getD i 0 := by simp [List.getD, h2]
  rw [e1, e2]
  exact dom_ext (ha.d.at h1) (hb.d.at h2) (h i (by rw [← ha.l]; exact h1))
theorem setT_has {n : Nat} {d : List Int} {l : Lit} (hd : DOk n d) (hl : LitIn n l) {i : Nat} (hi : i < n) {v : Int} (hv : 0 ≤ v ∧ v ≤ 5) : hasB ((setT d l).getD i 0) v = (hasB (d.getD i 0) v && (!(decide (i = l.var.toNat)) || hasB (truesI l) v)) := by
  rw [getD_setT hd hl]
  by_cases e : i = l.var.toNat
  · rw [if_pos e, (and_has (hd.d.at (by rw [hd.l]; exact hi)) (trues_ok hl.2)).2 v hv]; simp [e]
  · rw [if_neg e]; simp [e]
theorem rstL_has {n : Nat} {i : Nat} (hi : i < n) {v : Int} (hv : 0 ≤ v ∧ v ≤ 5) : ∀ {ls : List Lit} {d : List Int}, DOk n d → ClIn n ls → hasB ((rstL d ls).getD i 0) v = (hasB (d.getD i 0) v && ls.all (fun l => !(decide (i = l.var.toNat)) || hasB (truesI l) v))
  | [], d, hd, _ => by simp [rstL]
  | l :: ls, d, hd, h => by
    have h1 := setT_ok hd (h l (.head _))
    have h2 := rstL_has hi hv (ls := ls) h1.1 (fun k hk => h k (.tail _ hk))
    show hasB ((rstL (setT d l) ls).getD i 0) v = _
    rw [h2, setT_has hd (h l (.head _)) hi hv, List.all_cons, Bool.and_assoc]
theorem all_perm {A : Type} {p : A → Bool} {xs ys : List A} (h : xs.Perm ys) : xs.all p = ys.all p := by
  rw [Bool.eq_iff_iff, List.all_eq_true, List.all_eq_true]
  exact ⟨fun g x hx => g x (h.symm.mem_iff.1 hx), fun g x hx => g x (h.mem_iff.1 hx)⟩
theorem rst_perm {n : Nat} {d : List Int} {xs ys : List Lit} (hd : DOk n d) (hx : ClIn n xs) (h : xs.Perm ys) : rstL d xs = rstL d ys := by
  have hy : ClIn n ys := fun l hl => hx l (h.symm.mem_iff.1 hl)
  exact domL_ext (rstL_ok hd hx).1 (rstL_ok hd hy).1 (fun i hi v hv => by rw [rstL_has hi hv hd hx, rstL_has hi hv hd hy, all_perm h])
theorem negs_in {n : Nat} {c : List Lit} (h : ClIn n c) : ClIn n (c.map negL) := fun l hl => by
  obtain ⟨k, hk, rfl⟩ := List.mem_map.1 hl
  exact h k hk
/-- All literals of a clause are false. -/
def rstN (d : List Int) (c : List Lit) : List Int := rstL d (c.map negL)
theorem rst_neg {n : Nat} {d : List Int} {c ys : List Lit} (hd : DOk n d) (hc : ClIn n c) (h : NegR c ys) : rstL d ys = rstN d c :=
  rst_perm hd (fun l hl => negs_in hc l (h.perm.mem_iff.1 hl)) h.perm
theorem negR_in {n : Nat} {c ys : List Lit} (hc : ClIn n c) (h : NegR c ys) : ClIn n ys := fun l hl => negs_in hc l (h.perm.mem_iff.1 hl)
theorem rst_step {d : List Int} {ls : List Lit} {k : Nat} (hk : k < ls.length) : setT (rstL d (ls.take k)) (ls.getD k nilLit) = rstL d (ls.take (k + 1)) := by
  rw [take_succ_getD nilLit hk]; simp [rstL]
theorem rstN_step {d : List Int} {c : List Lit} {k : Nat} (hk : k < c.length) : setT (rstN d (c.take k)) (negL (c.getD k nilLit)) = rstN d (c.take (k + 1)) := by
  unfold rstN; rw [take_succ_getD nilLit hk, List.map_append]; simp [rstL]
/-! A clause, propagated. -/
def opnL (c : List Lit) (d : List Int) : List Lit := c.filter (fun l => decide (iand (d.getD l.var.toNat 0) (truesI l) ≠ 0))
def unitL (c : List Lit) (d : List Int) : List Int := match opnL c d with
  | [] => zerosL d.length
  | [l] => setT d l
  | _ => d
theorem unit_0 {c : List Lit} {d : List Int} (h : opnL c d = []) : unitL c d = zerosL d.length := by unfold unitL; rw [h]
theorem unit_1 {c : List Lit} {d : List Int} {l : Lit} (h : opnL c d = [l]) : unitL c d = setT d l := by unfold unitL; rw [h]
theorem unit_2 {c : List Lit} {d : List Int} (h : 2 ≤ (opnL c d).length) : unitL c d = d := by
  unfold unitL
  match h2 : opnL c d, h with
  | [], h => simp at h
  | [_], h => simp at h
  | _ :: _ :: _, _ => rfl
theorem opn_mem {c : List Lit} {d : List Int} {l : Lit} (h : l ∈ opnL c d) : l ∈ c := (List.mem_filter.1 h).1
theorem unit_ok {n : Nat} {c : List Lit} {d : List Int} (hd : DOk n d) (hc : ClIn n c) : DOk n (unitL c d) ∧ SubD (unitL c d) d := by
  match h : opnL c d with
  | [] => rw [unit_0 h, hd.l]; exact ⟨zerosL_ok n, hd.l ▸ zerosL_sub d⟩
  | [l] => rw [unit_1 h]; exact setT_ok hd (hc l (opn_mem (by rw [h]; exact .head _)))
  | a :: b :: r => rw [unit_2 (by rw [h]; simp)]; exact ⟨hd, SubD.refl d⟩
def unitA (cls : List (List Lit)) (d : List Int) : List Int := cls.foldl (fun d c => unitL c d) d
theorem unitA_ok {n : Nat} : ∀ {cls : List (List Lit)} {d : List Int}, DOk n d → ClsIn n cls → DOk n (unitA cls d) ∧ SubD (unitA cls d) d
  | [], d, hd, _ => ⟨hd, SubD.refl d⟩
  | c :: cs, d, hd, h => by
    have h1 := unit_ok hd (h c (.head _))
    have h2 := unitA_ok (cls := cs) h1.1 (fun k hk => h k (.tail _ hk))
    exact ⟨h2.1, h2.2.trans h1.2⟩
theorem unitA_step {cls : List (List Lit)} {d : List Int} {k : Nat} (hk : k < cls.length) : unitL (cls.getD k []) (unitA (cls.take k) d) = unitA (cls.take (k + 1)) d := by
  rw [take_succ_getD [] hk]; simp [unitA]
theorem cls_at {n : Nat} {cls : List (List Lit)} (h : ClsIn n cls) {k : Nat} (hk : k < cls.length) : ClIn n (cls.getD k []) := h _ (getD_mem hk)
theorem cls_take {n : Nat} {cls : List (List Lit)} (h : ClsIn n cls) (k : Nat) : ClsIn n (cls.take k) := fun c hc => h c (List.mem_of_mem_take hc)
def stepW (m : Mod) (cls : List (List Lit)) (d : List Int) : List Int := unitA cls (prop m d)
theorem stepW_ok {m : Mod} {cls : List (List Lit)} {d : List Int} (hM : MOk m) (hd : DOk m.doms.length d) (hc : ClsIn m.doms.length cls) : DOk m.doms.length (stepW m cls d) ∧ SubD (stepW m cls d) d := by
  have h1 := propOk hM hd
  have h2 := unitA_ok h1.ok hc
  exact ⟨h2.1, h2.2.trans h1.sub⟩
theorem stepW_lt {m : Mod} {cls : List (List Lit)} {d : List Int} (hM : MOk m) (hd : DOk m.doms.length d) (hc : ClsIn m.doms.length cls) (hne : stepW m cls d ≠ d) : sumN (stepW m cls d) < sumN d :=
  (stepW_ok hM hd hc).2.lt (stepW_ok hM hd hc).1.d hd.d hne
def wcl (m : Mod) (cls : List (List Lit)) (d : List Int) : List Int :=
  if d.contains 0 = true then zerosL d.length else if stepW m cls d = d then d else if h : sumN (stepW m cls d) < sumN d then wcl m cls (stepW m cls d) else d
termination_by sumN d
theorem wcl_0 {m : Mod} {cls : List (List Lit)} {d : List Int} (h : d.contains 0 = true) : wcl m cls d = zerosL d.length := by rw [wcl, if_pos h]
theorem wcl_fix {m : Mod} {cls : List (List Lit)} {d : List Int} (h : d.contains 0 = false) (e : stepW m cls d = d) : wcl m cls d = d := by rw [wcl, if_neg (by rw [h]; simp), if_pos e]
theorem wcl_step {m : Mod} {cls : List (List Lit)} {d : List Int} (hM : MOk m) (hd : DOk m.doms.length d) (hc : ClsIn m.doms.length cls) (h : d.contains 0 = false) (e : stepW m cls d ≠ d) : wcl m cls (stepW m cls d) = wcl m cls d := by
  rw [wcl.eq_1 m cls d, if_neg (by rw [h]; simp), if_neg e, dif_pos (stepW_lt hM hd hc e)]
theorem wcl_len {m : Mod} {cls : List (List Lit)} (hM : MOk m) (hc : ClsIn m.doms.length cls) : ∀ (k : Nat) {d : List Int}, sumN d = k → DOk m.doms.length d → DOk m.doms.length (wcl m cls d) := by
  intro k
  induction k using Nat.strongRecOn with
  | _ k ih =>
    intro d hk hd
    cases h0 : d.contains 0 with
    | true => rw [wcl_0 h0, hd.l]; exact zerosL_ok _
    | false =>
      by_cases e : stepW m cls d = d
      · rw [wcl_fix h0 e]; exact hd
      · rw [← wcl_step hM hd hc h0 e]
        exact ih _ (hk ▸ stepW_lt hM hd hc e) rfl (stepW_ok hM hd hc).1
theorem wclOk {m : Mod} {cls : List (List Lit)} (hM : MOk m) (hc : ClsIn m.doms.length cls) {d : List Int} (hd : DOk m.doms.length d) : DOk m.doms.length (wcl m cls d) := wcl_len hM hc _ rfl hd
/-! Whether a clause is implied. -/
def rfE (m : Mod) (cls : List (List Lit)) (d : List Int) : Bool := decide ((wcl m cls d).getD 0 0 = 0)
def impB (m : Mod) (cls : List (List Lit)) (c : List Lit) : Bool := rfE m cls (rstN m.doms c)
theorem zeros_0 {d : List Int} : (zerosL d.length).getD 0 0 = 0 := by
  cases d <;> simp [zerosL, List.getD]
theorem rf_0 {m : Mod} {cls : List (List Lit)} {d : List Int} (h : d.contains 0 = true) : rfE m cls d = true := by
  unfold rfE; rw [wcl_0 h, zeros_0]; rfl
theorem rf_T {m : Mod} {cls : List (List Lit)} {d : List Int} (hM : MOk m) (hd : DOk m.doms.length d) (hc : ClsIn m.doms.length cls) (h : (stepW m cls d).contains 0 = true) : rfE m cls d = true := by
  cases h0 : d.contains 0 with
  | true => exact rf_0 h0
  | false =>
    have e : stepW m cls d ≠ d := fun e => by rw [e, h0] at h; cases h
    unfold rfE; rw [← wcl_step hM hd hc h0 e, wcl_0 h, zeros_0]; rfl
theorem unitL_0 {n : Nat} {c : List Lit} {d : List Int} (hn : 1 ≤ n) (hd : DOk n d) (hc : ClIn n c) (h : d = zerosL n) : unitL c d = zerosL n := by
  have e : opnL c d = [] := by
    unfold opnL
    rw [List.filter_eq_nil_iff]
    intro l hl
    have h1 := hc l hl
    have e : d.getD l.var.toNat 0 = 0 := by
      have : l.var.toNat < n := by have := h1.1; omega
      subst h; simp [zerosL, List.getD, this]
    rw [e]
    have h2 := trues_ok h1.2
    have h3 : iand 0 (truesI l) = 0 := by
      obtain ⟨j, hj⟩ := Int.eq_ofNat_of_zero_le h2.1
      rw [hj]
      have := iand_nat (a := 0) (b := j) (by decide) (by omega)
      simpa using this
    simp [h3]
  rw [unit_0 e, hd.l]
theorem unitA_0 {n : Nat} (hn : 1 ≤ n) : ∀ {cls : List (List Lit)}, ClsIn n cls → unitA cls (zerosL n) = zerosL n
  | [], _ => rfl
  | c :: cs, h => by
    show unitA cs (unitL c (zerosL n)) = _
    rw [unitL_0 hn (zerosL_ok n) (h c (.head _)) rfl]
    exact unitA_0 hn (fun k hk => h k (.tail _ hk))
theorem stepW_0 {m : Mod} {cls : List (List Lit)} {d : List Int} (hM : MOk m) (hd : DOk m.doms.length d) (hc : ClsIn m.doms.length cls) (h : d.contains 0 = true) : (stepW m cls d).contains 0 = true := by
  unfold stepW; rw [prop_0 h, hd.l, unitA_0 hM.n.1 hc]
  have := hM.n
  rw [List.contains_iff_mem]; simp only [zerosL, List.mem_replicate]; exact ⟨by omega, trivial⟩
theorem rf_F {m : Mod} {cls : List (List Lit)} {d : List Int} (hM : MOk m) (hd : DOk m.doms.length d) (h : (stepW m cls d).contains 0 = false) (e : stepW m cls d = d) : rfE m cls d = false := by
  have h0 : d.contains 0 = false := by rw [← e]; exact h
  unfold rfE; rw [wcl_fix h0 e]
  have hn := hM.n
  have h1 : 0 < d.length := by rw [hd.l]; omega
  rw [decide_eq_false_iff_not]
  intro h2
  have : (0 : Int) ∈ d := by rw [← h2]; exact getD_mem h1
  rw [List.contains_eq_mem, decide_eq_false_iff_not] at h0
  exact h0 this
theorem rf_step {m : Mod} {cls : List (List Lit)} {d : List Int} (hM : MOk m) (hd : DOk m.doms.length d) (hc : ClsIn m.doms.length cls) (h : (stepW m cls d).contains 0 = false) (e : stepW m cls d ≠ d) : rfE m cls (stepW m cls d) = rfE m cls d := by
  have h0 : d.contains 0 = false := by
    cases h0 : d.contains 0 with
    | false => rfl
    | true => rw [stepW_0 hM hd hc h0] at h; cases h
  unfold rfE; rw [wcl_step hM hd hc h0 e]
/-! Checking a proof. -/
def prfB (n : Int) (p : List (List Lit)) : Bool := decide ((p.length : Int) ≤ 200) && !(p.any (fun c => !(clI n c)))
def prfS (n : Int) (p : List (List Lit)) : Bool := (p.all (clS n)) && decide ((p.length : Int) ≤ 200)
theorem cl_IS {m : Mod} (hM : MOk m) (c : List Lit) : clS (m.doms.length : Int) c = clI (m.doms.length : Int) c := by
  have h1 := litsB_S m c
  unfold litsB at h1
  rw [hM.v] at h1
  simpa using h1
theorem prf_IS {m : Mod} (hM : MOk m) (p : List (List Lit)) : prfS (m.doms.length : Int) p = prfB (m.doms.length : Int) p := by
  unfold prfS prfB
  rw [Bool.and_comm]
  congr 1
  rw [List.not_any_eq_all_not]
  congr 1
  funext c
  rw [cl_IS hM, Bool.not_not]
theorem prf_in {m : Mod} (hM : MOk m) {p : List (List Lit)} (h : prfB (m.doms.length : Int) p = true) : ClsIn m.doms.length p ∧ p.length ≤ 200 ∧ ∀ c ∈ p, LOk m c ∧ clI (m.doms.length : Int) c = true := by
  unfold prfB at h
  simp only [Bool.and_eq_true, decide_eq_true_eq, Bool.not_eq_true', List.any_eq_false] at h
  have hc : ∀ c ∈ p, LOk m c ∧ clI (m.doms.length : Int) c = true := fun c hc => by
    have h1 : clI (m.doms.length : Int) c = true := by simpa using h.2 c hc
    exact ⟨lits_ok (by unfold litsB; rw [hM.v, h1]; rfl), h1⟩
  exact ⟨fun c hc' l hl => (hc c hc').1.h l hl, by omega, hc⟩
def ckG (m : Mod) (p : List (List Lit)) : Bool := ((!(validModB m) || !(prfB (m.doms.length : Int) p)) || decide ((p.length : Int) = 0)) || decide ((0 : Int) < ((p.getD ((p.length : Int) - 1).toNat []).length : Int))
def chkP (m : Mod) (p : List (List Lit)) : Bool := if ckG m p = true then false else (List.range p.length).all (fun i => impB m (p.take i) (p.getD i []))
structure CkOk (m : Mod) (p : List (List Lit)) : Prop where
  hM : MOk m
  hp : ClsIn m.doms.length p
  hn : p.length ≤ 200
  hc : ∀ c ∈ p, LOk m c ∧ clI (m.doms.length : Int) c = true
  h0 : 0 < p.length
  g : ckG m p = false
  hl : (p.getD (p.length - 1) []) = []
theorem ck_ok {m : Mod} {p : List (List Lit)} (h : ckG m p = false) : CkOk m p := by
  have g := h
  unfold ckG at h
  simp only [Bool.or_eq_false_iff, Bool.not_eq_false', decide_eq_false_iff_not] at h
  obtain ⟨⟨⟨h1, h2⟩, h3⟩, h4⟩ := h
  have hM : MOk m := ⟨h1⟩
  have hi := prf_in hM h2
  refine ⟨hM, hi.1, hi.2.1, hi.2.2, by omega, g, ?_⟩
  have e : ((p.length : Int) - 1).toNat = p.length - 1 := by omega
  rw [e] at h4
  exact List.eq_nil_of_length_eq_zero (by omega)
theorem ck_no {m : Mod} {p : List (List Lit)} (h : ckG m p = true) : false = chkP m p := by unfold chkP; rw [if_pos h]
theorem ck_hit {m : Mod} {p : List (List Lit)} {k : Nat} (h : ckG m p = false) (hk : k < p.length) (c : impB m (p.take k) (p.getD k []) = false) : false = chkP m p := by
  unfold chkP; rw [if_neg (by rw [h]; simp)]
  symm
  rw [List.all_eq_false]
  exact ⟨k, List.mem_range.2 hk, by rw [c]; simp⟩
theorem ck_end {m : Mod} {p : List (List Lit)} {k : Nat} (h : ckG m p = false) (hk : k = p.length) (c : (List.range k).all (fun i => impB m (p.take i) (p.getD i [])) = true) : true = chkP m p := by
  unfold chkP; rw [if_neg (by rw [h]; simp), ← hk, c]
theorem ck_step {m : Mod} {p : List (List Lit)} {k : Nat} (h : (List.range k).all (fun i => impB m (p.take i) (p.getD i [])) = true) (c : impB m (p.take k) (p.getD k []) = true) : (List.range (k + 1)).all (fun i => impB m (p.take i) (p.getD i [])) = true := by
  rw [List.range_succ, List.all_append, h]; simpa using c
theorem ckG_S {m : Mod} {p : List (List Lit)} : (((!(validModB m) || !(prfS (m.doms.length : Int) p)) || decide ((p.length : Int) = 0)) || decide ((0 : Int) < ((p.getD ((p.length : Int) - 1).toNat []).length : Int))) = ckG m p := by
  unfold ckG
  cases h : validModB m with
  | false => rfl
  | true => rw [prf_IS ⟨h⟩]
/-! The bounded model. -/
def iotaN (n : Nat) : List Int := (List.range n).map (fun (i : Nat) => (i : Int))
def lowC (n : Nat) (obj : List Int) (b : Int) : Con := ⟨1, iotaN n, obj, b, []⟩
def withC (m : Mod) (c : Con) : Mod := ⟨m.doms, m.cons ++ [c]⟩
def wcR (m : Mod) (c : Con) : Mod × Bool := if validModB (withC m c) = true then (withC m c, true) else (⟨[], []⟩, false)
def bdG (m : Mod) (obj : List Int) (b : Int) : Bool := objOkB m obj && withinB b (-998) 1000
def bdR (m : Mod) (obj : List Int) (b : Int) : Mod × Bool := if bdG m obj b = true then wcR m (lowC obj.length obj (b - 1)) else (⟨[], []⟩, false)
theorem wc_no {m : Mod} {c : Con} (h : validModB (withC m c) = false) : wcR m c = (⟨[], []⟩, false) := by unfold wcR; rw [if_neg (by rw [h]; simp)]
theorem wc_yes {m : Mod} {c : Con} (h : validModB (withC m c) = true) : wcR m c = (withC m c, true) := if_pos h
theorem bd_no {m : Mod} {obj : List Int} {b : Int} (h : (!(objOkB m obj) || !(withinB b (-998) 1000)) = true) : bdR m obj b = (⟨[], []⟩, false) := by
  unfold bdR bdG; rw [if_neg]; revert h; cases objOkB m obj <;> cases withinB b (-998) 1000 <;> simp
theorem bd_yes {m : Mod} {obj : List Int} {b : Int} (h : (!(objOkB m obj) || !(withinB b (-998) 1000)) = false) : bdR m obj b = wcR m (lowC obj.length obj (b - 1)) := by
  unfold bdR bdG; rw [if_pos]; revert h; cases objOkB m obj <;> cases withinB b (-998) 1000 <;> simp
theorem bd_cS {m : Mod} {obj : List Int} {b : Int} : ((!(validModB m) || !(objOkS m obj)) || !(withinB b (-998) 1000)) = (!(objOkB m obj) || !(withinB b (-998) 1000)) := by
  rw [obj_eq]; cases validModB m <;> cases objOkS m obj <;> rfl
theorem iotaN_step {k : Nat} {vs : List Int} (h : vs = iotaN k) : vs ++ [(k : Int)] = iotaN (k + 1) := by subst h; simp [iotaN, List.range_succ]
theorem iota_len (n : Nat) : (iotaN n).length = n := by simp [iotaN]
def chkB (m : Mod) (obj : List Int) (b : Int) (p : List (List Lit)) : Bool := (bdR m obj b).2 && chkP (bdR m obj b).1 p
end Go.Proofs.YtojinjdobjodaaaGreat
