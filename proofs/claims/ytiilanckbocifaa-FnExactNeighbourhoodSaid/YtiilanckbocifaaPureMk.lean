/- Marks on a whole model, in plain lists. Conditions: none. -/
import Derived.Test.YtiilanckbocifaaSepM
import Derived.Test.YtiilanckbocifaaPureSm
import Derived.Test.YtiilanckbocifaaPureL
namespace Go.Proofs.Ytiilanckbocifaa
open Go
set_option linter.unusedSimpArgs false
set_option linter.unusedVariables false
/-! Rows are never empty in a valid model. -/
def RowsP (cs : List Con) : Prop := ∀ c ∈ cs, ∀ r ∈ c.rows, 0 < r.length
theorem len0 {A : Type} {xs : List A} (h : decide ((xs.length : Int) = 0) = true) {x : A} (hx : x ∈ xs) : False := by
  have : xs.length = 0 := by simpa using h
  rw [List.eq_nil_of_length_eq_zero this] at hx; cases hx
theorem rowsIn_pos {rows : List (List Int)} {n lo hi : Int} (h : rowsInB rows n lo hi = true) (hn : 1 ≤ n) {r : List Int} (hr : r ∈ rows) : 0 < r.length := by
  simp only [rowsInB, Bool.and_eq_true, List.all_eq_true, decide_eq_true_eq] at h
  have := (h.2 r hr).1
  omega
theorem valid_rowsP {c : Con} {n : Int} (h : validConB c n = true) : ∀ r ∈ c.rows, 0 < r.length := by
  simp only [validConB, Bool.and_eq_true] at h
  obtain ⟨⟨⟨⟨_, h2⟩, _⟩, _⟩, hf⟩ := h
  rw [withinB_iff] at h2
  intro r hr
  unfold fitsB at hf
  split at hf
  · simp only [Bool.and_eq_true] at hf; exact (len0 hf.2 hr).elim
  split at hf
  · simp only [Bool.and_eq_true] at hf; exact (len0 hf.2 hr).elim
  split at hf
  · simp only [Bool.and_eq_true] at hf; exact (len0 hf.2 hr).elim
  split at hf
  · simp only [Bool.and_eq_true] at hf; exact (len0 hf.2 hr).elim
  split at hf
  · simp only [Bool.and_eq_true] at hf; exact rowsIn_pos hf.2 (by omega) hr
  split at hf
  · simp only [Bool.and_eq_true] at hf; exact (len0 hf.2 hr).elim
  split at hf
  · simp only [Bool.and_eq_true] at hf; exact (len0 hf.2 hr).elim
  split at hf
  · simp only [Bool.and_eq_true] at hf; exact rowsIn_pos hf.1.1.1 (by omega) hr
  · cases hf
theorem ok_rowsP {m : Mod} (h : MOk m) : RowsP m.cons := fun c hc => by
  obtain ⟨i, hi, rfl⟩ := List.getElem_of_mem hc
  have h2 := h.c hi
  have e : m.cons.getD i nilCon = m.cons[i] := by simp [List.getD_eq_getElem?_getD, hi]
  rw [e] at h2
  exact valid_rowsP h2
/-! The marks. -/
def markC1 (k : Int) (c : Con) : Con :=
  ⟨k, markL (k + 1) c.vars.length, markL (k + 1 + (c.vars.length : Int)) c.args.length, k + 1 + (c.vars.length : Int) + (c.args.length : Int), markLL (k + 1 + (c.vars.length : Int) + (c.args.length : Int) + 1) c.rows⟩
def markC (k : Int) : List Con → List Con
  | [] => []
  | c :: cs => markC1 k c :: markC (k + (mcN c : Int)) cs
def mcTo (k : Int) (cs : List Con) (i : Nat) : List Con := markC k (cs.take i) ++ cs.drop i
theorem markC_len (k : Int) (cs : List Con) : (markC k cs).length = cs.length := by
  induction cs generalizing k with
  | nil => rfl
  | cons r rs ih => simp [markC, ih]
theorem msum_cons (c : Con) (cs : List Con) : msum (c :: cs) = mcN c + msum cs := by simp [msum]
theorem markC_app (k : Int) (a : List Con) (r : Con) : markC k (a ++ [r]) = markC k a ++ [markC1 (k + (msum a : Nat)) r] := by
  induction a generalizing k with
  | nil => simp [markC, msum]
  | cons x xs ih =>
    rw [List.cons_append, markC, markC, ih, List.cons_append]
    have : k + (mcN x : Int) + ((msum xs : Nat) : Int) = k + ((msum (x :: xs) : Nat) : Int) := by rw [msum_cons]; omega
    rw [this]
theorem mcTo_0 (k : Int) (cs : List Con) : mcTo k cs 0 = cs := by simp [mcTo, markC]
theorem mcTo_len {k : Int} {cs : List Con} {i : Nat} (h : i ≤ cs.length) : (mcTo k cs i).length = cs.length := by
  unfold mcTo; rw [List.length_append, markC_len, List.length_take, List.length_drop]; omega
theorem mcTo_at {k : Int} {cs : List Con} {i : Nat} (h : i < cs.length) : (mcTo k cs i).getD i nilCon = cs.getD i nilCon := by
  unfold mcTo
  have hl : (markC k (cs.take i)).length = i := by rw [markC_len, List.length_take]; omega
  rw [List.getD_eq_getElem?_getD, List.getElem?_append_right (by omega), hl, Nat.sub_self, List.getElem?_drop, Nat.add_zero, ← List.getD_eq_getElem?_getD]
theorem mcTo_step {k : Int} {cs : List Con} {i : Nat} (h : i < cs.length) : (mcTo k cs i).set i (markC1 (k + (msum (cs.take i) : Nat)) (cs.getD i nilCon)) = mcTo k cs (i + 1) := by
  unfold mcTo
  have hl : (markC k (cs.take i)).length = i := by rw [markC_len, List.length_take]; omega
  rw [take_succ_getD nilCon h, markC_app, List.set_append_right _ _ (by omega), hl, Nat.sub_self, List.drop_eq_getElem_cons h, List.set_cons_zero, List.append_assoc]
  rfl
theorem mcTo_end {k : Int} {cs : List Con} {i : Nat} (h : i = cs.length) : mcTo k cs i = markC k cs := by
  subst h; unfold mcTo; rw [List.take_length, List.drop_length, List.append_nil]
def markM (k : Int) (m : Mod) : Mod := ⟨markL k m.doms.length, markC (k + (m.doms.length : Int)) m.cons⟩
/-! Whether the marks are held. -/
def heldC1 (c : Con) (k : Int) : Int :=
  if c.kind ≠ k then -1 else if heldI c.vars (k + 1) < 0 then -1 else if heldI c.args (heldI c.vars (k + 1)) < 0 then -1
  else if c.bound ≠ heldI c.args (heldI c.vars (k + 1)) then -1 else heldSS c.rows (heldI c.args (heldI c.vars (k + 1)) + 1)
def heldC : List Con → Int → Int
  | [], k => k
  | r :: rs, k => if heldC1 r k < 0 then -1 else heldC rs (heldC1 r k)
def heldM (m : Mod) (k : Int) : Int := if heldI m.doms k < 0 then -1 else if heldC m.cons (heldI m.doms k) < 0 then -1 else heldC m.cons (heldI m.doms k)
theorem heldC1_mark {k : Int} (c : Con) (hk : 0 ≤ k) : heldC1 (markC1 k c) k = k + ((mcN c : Nat) : Int) := by
  unfold heldC1 markC1
  dsimp only
  rw [held_mark, held_mark, if_neg (by simp), if_neg (by omega), if_neg (by omega), if_neg (by simp), heldSS_mark _ (by omega)]
  unfold mcN
  omega
theorem heldC_mark {k : Int} (cs : List Con) (hk : 0 ≤ k) : heldC (markC k cs) k = k + ((msum cs : Nat) : Int) := by
  induction cs generalizing k with
  | nil => simp [markC, heldC, msum]
  | cons r rs ih =>
    rw [markC, heldC, heldC1_mark r hk, if_neg (by omega), ih (by omega), msum_cons]
    omega
theorem heldM_mark {k : Int} (m : Mod) (hk : 0 ≤ k) : heldM (markM k m) k = k + (m.doms.length : Int) + ((msum m.cons : Nat) : Int) := by
  unfold heldM markM
  dsimp only
  rw [held_mark, if_neg (by omega), heldC_mark _ (by omega), if_neg (by omega)]
theorem heldSS_cases (a : List (List Int)) (k : Int) : heldSS a k = k + ((rsum a : Nat) : Int) ∨ heldSS a k = -1 := by
  induction a generalizing k with
  | nil => left; simp [heldSS, rsum]
  | cons r rs ih =>
    rw [heldSS]
    split
    · exact .inr rfl
    · rcases heldI_cases r k with h | h
      · rcases ih (heldI r k) with g | g
        · left; rw [g, h]; simp [rsum]; omega
        · exact .inr g
      · omega
theorem heldC1_cases (c : Con) (k : Int) (hk : 0 ≤ k) : heldC1 c k = k + ((mcN c : Nat) : Int) ∨ heldC1 c k = -1 := by
  unfold heldC1
  split
  · exact .inr rfl
  split
  · exact .inr rfl
  split
  · exact .inr rfl
  split
  · exact .inr rfl
  rename_i h1 h2 h3 h4
  rcases heldI_cases c.vars (k + 1) with g | g
  · rcases heldI_cases c.args (heldI c.vars (k + 1)) with g2 | g2
    · rcases heldSS_cases c.rows (heldI c.args (heldI c.vars (k + 1)) + 1) with g3 | g3
      · left; rw [g3, g2, g]; unfold mcN; omega
      · exact .inr g3
    · omega
  · omega
structure HcI (a : List Con) (k : Int) (i : Nat) (l : Int) : Prop where
  e : heldC (a.drop i) l = heldC a k
  n : 0 ≤ l
  b : l + ((msum (a.drop i) : Nat) : Int) ≤ 4611686018427387904
theorem hc_0 {a : List Con} {k : Int} (h : 0 ≤ k ∧ k + ((msum a : Nat) : Int) ≤ 4611686018427387904) : HcI a k 0 k := ⟨rfl, h.1, h.2⟩
theorem hc_b {a : List Con} {k l : Int} {i : Nat} (h : HcI a k i l) (hi : i < a.length) : l + (2 + ((a.getD i nilCon).vars.length : Int) + ((a.getD i nilCon).args.length : Int) + ((rsum (a.getD i nilCon).rows : Nat) : Int)) ≤ 4611686018427387904 := by
  have b := h.b
  rw [drop_cons nilCon hi, msum_cons] at b
  unfold mcN at b
  omega
theorem hc_no {a : List Con} {k l : Int} {i : Nat} (h : HcI a k i l) (hi : i < a.length) (c : heldC1 (a.getD i nilCon) l < 0) : (-1 : Int) = heldC a k := by
  have e := h.e
  rw [drop_cons nilCon hi, heldC, if_pos c] at e
  exact e
theorem hc_no1 {a : List Con} {k l : Int} {i : Nat} (h : HcI a k i l) (hi : i < a.length) (c : (a.getD i nilCon).kind ≠ l) : (-1 : Int) = heldC a k :=
  hc_no h hi (by unfold heldC1; rw [if_pos c]; decide)
theorem hc_no2 {a : List Con} {k l : Int} {i : Nat} (h : HcI a k i l) (hi : i < a.length) (c1 : ¬ (a.getD i nilCon).kind ≠ l) (c : heldI (a.getD i nilCon).vars (l + 1) < 0) : (-1 : Int) = heldC a k :=
  hc_no h hi (by unfold heldC1; rw [if_neg c1, if_pos c]; decide)
theorem hc_no3 {a : List Con} {k l : Int} {i : Nat} (h : HcI a k i l) (hi : i < a.length) (c1 : ¬ (a.getD i nilCon).kind ≠ l) (c2 : ¬ heldI (a.getD i nilCon).vars (l + 1) < 0) (c : heldI (a.getD i nilCon).args (heldI (a.getD i nilCon).vars (l + 1)) < 0) : (-1 : Int) = heldC a k :=
  hc_no h hi (by unfold heldC1; rw [if_neg c1, if_neg c2, if_pos c]; decide)
theorem hc_no4 {a : List Con} {k l : Int} {i : Nat} (h : HcI a k i l) (hi : i < a.length) (c1 : ¬ (a.getD i nilCon).kind ≠ l) (c2 : ¬ heldI (a.getD i nilCon).vars (l + 1) < 0) (c3 : ¬ heldI (a.getD i nilCon).args (heldI (a.getD i nilCon).vars (l + 1)) < 0)
    (c : (a.getD i nilCon).bound ≠ heldI (a.getD i nilCon).args (heldI (a.getD i nilCon).vars (l + 1))) : (-1 : Int) = heldC a k :=
  hc_no h hi (by unfold heldC1; rw [if_neg c1, if_neg c2, if_neg c3, if_pos c]; decide)
theorem hc_r {a : List Con} {l : Int} {i : Nat} (c1 : ¬ (a.getD i nilCon).kind ≠ l) (c2 : ¬ heldI (a.getD i nilCon).vars (l + 1) < 0) (c3 : ¬ heldI (a.getD i nilCon).args (heldI (a.getD i nilCon).vars (l + 1)) < 0)
    (c4 : ¬ (a.getD i nilCon).bound ≠ heldI (a.getD i nilCon).args (heldI (a.getD i nilCon).vars (l + 1))) : heldC1 (a.getD i nilCon) l = heldSS (a.getD i nilCon).rows (heldI (a.getD i nilCon).args (heldI (a.getD i nilCon).vars (l + 1)) + 1) := by
  unfold heldC1; rw [if_neg c1, if_neg c2, if_neg c3, if_neg c4]
theorem hc_step {a : List Con} {k l : Int} {i : Nat} (h : HcI a k i l) (hi : i < a.length) {z : Int} (e9 : heldC1 (a.getD i nilCon) l = z) (c : ¬ z < 0) : HcI a k (i + 1) z := by
  subst e9
  have e := h.e
  have b := h.b
  rw [drop_cons nilCon hi] at e b
  rw [heldC, if_neg c] at e
  rcases heldC1_cases (a.getD i nilCon) l h.n with h9 | h9
  · have hn := h.n
    refine ⟨e, by omega, ?_⟩
    rw [h9]
    rw [msum_cons] at b
    omega
  · omega
theorem hc_end {a : List Con} {k l : Int} {i : Nat} (h : HcI a k i l) (hi : i = a.length) : l = heldC a k := by
  have e := h.e
  rw [hi, List.drop_length] at e
  exact e
/-! Sizes. -/
theorem msum_small {n : Nat} {cs : List Con} (h : ∀ c ∈ cs, ConSm 100 c) (hl : cs.length ≤ n) : msum cs ≤ n * 1402 := by
  induction cs generalizing n with
  | nil => simp [msum]
  | cons c cs ih =>
    rw [msum_cons]
    obtain ⟨p, rfl⟩ : ∃ p, n = p + 1 := ⟨n - 1, by simp at hl; omega⟩
    have h1 := ih (n := p) (fun d hd => h d (.tail _ hd)) (by simpa using hl)
    have h2 := h c (.head _)
    have h3 : rsum c.rows ≤ c.rows.length * 12 := by
      have hr := h2.rr
      generalize c.rows = rs at hr
      induction rs with
      | nil => simp [rsum]
      | cons r rs ihr => 
        have g1 := ihr (fun s hs => hr s (.tail _ hs))
        have g2 := hr r (.head _)
        simp [rsum] at g1 ⊢; omega
    have a1 := h2.v
    have a2 := h2.a
    have a3 := h2.r
    unfold mcN
    omega
theorem modSm_size {m : Mod} (h : ModSm 100 m) : m.doms.length ≤ 4 ∧ msum m.cons ≤ 140200 := ⟨h.d, msum_small h.cc h.c⟩
def SzM (m : Mod) : Prop := m.doms.length ≤ 4 ∧ msum m.cons ≤ 140200
theorem sub_size {m mq : Mod} {vars : List Int} {bq : Bool} (h : (mq, bq) = subR m vars) : SzM mq := by
  unfold subR at h
  split at h
  · rename_i h1
    obtain ⟨rfl, rfl⟩ := Prod.mk.injEq _ _ _ _ ▸ h
    exact modSm_size (ok_small (sub_valid (subOk_iff.1 h1)))
  · obtain ⟨rfl, rfl⟩ := Prod.mk.injEq _ _ _ _ ▸ h
    exact ⟨by simp, by simp [msum]⟩
theorem nh_size (m : Mod) (x free : List Int) : SzM (nhI m x free).1 := by
  unfold nhI
  split
  · rename_i h1
    have hM : MOk m := (nh_ok h1).hM
    exact modSm_size (near_small (ok_small hM) _)
  · exact ⟨by simp, by simp [msum]⟩
theorem pair_of {A B : Type} {a : A} {b : B} {p : A × B} (h : (a, b) = p) : a = p.1 ∧ b = p.2 := by subst h; exact ⟨rfl, rfl⟩
theorem markM_doms (k : Int) (m : Mod) : (markM k m).doms.length = m.doms.length := by simp [markM, markL_len]
theorem markC1_n (k : Int) (c : Con) : mcN (markC1 k c) = mcN c := by simp [mcN, markC1, markL_len, rsum_mk]
theorem markC_sum (k : Int) (cs : List Con) : msum (markC k cs) = msum cs := by
  induction cs generalizing k with
  | nil => rfl
  | cons c cs ih => rw [markC, msum_cons, msum_cons, markC1_n, ih]
theorem markM_sum (k : Int) (m : Mod) : msum (markM k m).cons = msum m.cons := by simp [markM, markC_sum]
theorem heldM_1 (m : Mod) : heldM (markM 1 m) 1 = 1 + (m.doms.length : Int) + ((msum m.cons : Nat) : Int) := heldM_mark m (by decide)
end Go.Proofs.Ytiilanckbocifaa
