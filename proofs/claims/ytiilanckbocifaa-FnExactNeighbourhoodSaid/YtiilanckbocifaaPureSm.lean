/- Plain law: the model of some variables. A solution's values for the variables solve it, and the model of all variables is the model itself. No program in sight. Conditions: none. -/
import Derived.Test.YtiilanckbocifaaPureE
import Derived.Test.YtiilanckbocifaaPureX
import Derived.Test.YtiilanckbocifaaRdr
namespace Go.Proofs.Ytiilanckbocifaa
open Go
set_option linter.unusedSimpArgs false
set_option linter.unusedVariables false
def posI (vars : List Int) (v : Int) : Int := indexBy (fun y => decide (v = y)) vars
def subC (vars : List Int) (c : Con) : Con := ⟨c.kind, c.vars.map (posI vars), c.args, c.bound, c.rows⟩
def insB (vars : List Int) (c : Con) : Bool := c.vars.all (fun v => vars.contains v)
def subM (m : Mod) (vars : List Int) : Mod := ⟨wordL vars m.doms, (m.cons.filter (insB vars)).map (subC vars)⟩
def subOk (m : Mod) (vars : List Int) : Bool := varSetI m vars && !(decide ((vars.length : Int) = 0))
def subR (m : Mod) (vars : List Int) : Mod × Bool := if subOk m vars = true then (subM m vars, true) else (⟨[], []⟩, false)
theorem pos_at {vars : List Int} {v : Int} (h : v ∈ vars) : ∃ i : Nat, posI vars v = (i : Int) ∧ i < vars.length ∧ vars.getD i 0 = v := by
  unfold posI indexBy
  cases e : vars.findIdx? (fun y => decide (v = y)) with
  | none => have := List.findIdx?_eq_none_iff.1 e v h; simp at this
  | some i =>
    obtain ⟨h1, h2, _⟩ := List.findIdx?_eq_some_iff_getElem.1 e
    refine ⟨i, rfl, h1, ?_⟩
    rw [List.getD_eq_getElem?_getD, List.getElem?_eq_getElem h1]
    simpa using (of_decide_eq_true h2).symm
theorem pos_place {vars : List Int} {v : Int} : indexBy (fun y => decide (y = v)) vars = posI vars v := by
  unfold posI; congr 1; funext y; exact decide_eq_decide.2 ⟨Eq.symm, Eq.symm⟩
theorem pos_inj {vars : List Int} {u v : Int} (hu : u ∈ vars) (hv : v ∈ vars) (e : posI vars u = posI vars v) : u = v := by
  obtain ⟨i, h1, _, h3⟩ := pos_at hu
  obtain ⟨j, g1, _, g3⟩ := pos_at hv
  have : i = j := by omega
  rw [← h3, ← g3, this]
theorem word_sub {vars vs x : List Int} (h : ∀ v ∈ vs, v ∈ vars) : wordL (vs.map (posI vars)) (wordL vars x) = wordL vs x := by
  simp only [wordL, List.map_map]
  refine List.map_congr_left fun v hv => ?_
  obtain ⟨i, h1, h2, h3⟩ := pos_at (h v hv)
  simp only [Function.comp_apply, h1, Int.toNat_natCast]
  rw [List.getD_eq_getElem?_getD, List.getElem?_map, List.getElem?_eq_getElem h2]
  simp only [Option.map_some, Option.getD_some]
  rw [← h3, List.getD_eq_getElem?_getD (l := vars), List.getElem?_eq_getElem h2, Option.getD_some]
theorem ins_iff {vars : List Int} {c : Con} : insB vars c = true ↔ ∀ v ∈ c.vars, v ∈ vars := by simp [insB, List.all_eq_true]
theorem con_sub {vars x : List Int} {c : Con} (h : insB vars c = true) : conAt (wordL vars x) (subC vars c) = conAt x c := by
  unfold conAt
  rw [show (subC vars c).vars = c.vars.map (posI vars) from rfl, word_sub (ins_iff.1 h)]; rfl
theorem met_sub {m : Mod} {vars x : List Int} : metB (subM m vars) (wordL vars x) = (m.cons.filter (insB vars)).all (conAt x) := by
  unfold metB
  rw [show (subM m vars).cons = (m.cons.filter (insB vars)).map (subC vars) from rfl, List.all_map]
  rw [Bool.eq_iff_iff, List.all_eq_true, List.all_eq_true]
  exact forall_congr' fun c => forall_congr' fun hc => by rw [Function.comp_apply, con_sub (List.mem_filter.1 hc).2]
structure SubOk (m : Mod) (vars : List Int) : Prop where
  hM : MOk m
  ne : 0 < vars.length
  asc : ascB vars = true
  inn : ∀ v ∈ vars, (0 : Int) ≤ v ∧ v < m.doms.length
theorem subOk_iff {m : Mod} {vars : List Int} : subOk m vars = true ↔ SubOk m vars := by
  simp only [subOk, varSetI, varsInB, Bool.and_eq_true, allInB_iff, Bool.not_eq_true', decide_eq_false_iff_not]
  constructor
  · rintro ⟨⟨h1, h2, h3⟩, h4⟩; exact ⟨⟨h2⟩, by omega, h1, fun v hv => by have := h3 v hv; omega⟩
  · rintro ⟨h1, h2, h3, h4⟩; exact ⟨⟨h3, h1.v, fun v hv => by have := h4 v hv; omega⟩, by omega⟩
theorem ascP_lt {vars : List Int} (h : ascB vars = true) : ∀ (j i : Nat), i < j → j < vars.length → vars.getD i 0 < vars.getD j 0
  | 0, i, hi, _ => absurd hi (Nat.not_lt_zero _)
  | j + 1, i, hi, hj => by
    have h1 := List.all_eq_true.1 h (j + 1) (List.mem_range.2 hj)
    unfold ascAt at h1
    rw [decide_eq_true (by omega : (0 : Int) < ((j + 1 : Nat) : Int)), Bool.true_and, Bool.not_eq_true', decide_eq_false_iff_not, show (((j + 1 : Nat) : Int) - 1).toNat = j from by omega] at h1
    by_cases e : i = j
    · subst e; omega
    · have := ascP_lt h j i (by omega) (by omega); omega
theorem asc_nodup {vars : List Int} (h : ascB vars = true) : vars.Nodup := by
  rw [List.nodup_iff_pairwise_ne, List.pairwise_iff_getElem]
  intro i j hi hj hij
  have := ascP_lt h j i hij hj
  rw [List.getD_eq_getElem?_getD, List.getD_eq_getElem?_getD, List.getElem?_eq_getElem hi, List.getElem?_eq_getElem hj, Option.getD_some, Option.getD_some] at this
  omega
theorem nodup_sub_len : ∀ {xs ys : List Int}, xs.Nodup → (∀ x ∈ xs, x ∈ ys) → xs.length ≤ ys.length
  | [], _, _, _ => Nat.zero_le _
  | x :: xs, ys, hn, hs => by
    obtain ⟨h1, h2⟩ := List.nodup_cons.1 hn
    have h3 : xs.length ≤ (ys.erase x).length := nodup_sub_len h2 (fun y hy => (List.mem_erase_of_ne (fun e => h1 (by rw [← e]; exact hy))).2 (hs y (.tail _ hy)))
    have hm := hs x (.head _)
    rw [List.length_erase_of_mem hm] at h3
    have := List.length_pos_of_mem hm
    simp only [List.length_cons]; omega
theorem map_nodup {f : Int → Int} : ∀ {xs : List Int}, xs.Nodup → (∀ u ∈ xs, ∀ v ∈ xs, f u = f v → u = v) → (xs.map f).Nodup
  | [], _, _ => List.nodup_nil
  | x :: xs, hn, hi => by
    obtain ⟨h1, h2⟩ := List.nodup_cons.1 hn
    rw [List.map_cons, List.nodup_cons]
    refine ⟨fun hm => ?_, map_nodup h2 (fun u hu v hv => hi u (.tail _ hu) v (.tail _ hv))⟩
    obtain ⟨y, hy, e⟩ := List.mem_map.1 hm
    have e2 := hi y (.tail _ hy) x (.head _) e
    exact h1 (by rw [← e2]; exact hy)
theorem iota_sub {n : Nat} {vars : List Int} (hn : vars.Nodup) (h : ∀ v ∈ vars, (0 : Int) ≤ v ∧ v < n) : vars.length ≤ n := by
  have := nodup_sub_len (ys := natsI (List.range n)) hn (fun v hv => by
    have := h v hv
    exact List.mem_map.2 ⟨v.toNat, List.mem_range.2 (by omega), by omega⟩)
  simpa [natsI] using this
theorem sub_valid {m : Mod} {vars : List Int} (h : SubOk m vars) : MOk (subM m vars) := by
  refine ⟨?_⟩
  have hM := h.hM
  have hn := hM.n
  have hlen := iota_sub (asc_nodup h.asc) h.inn
  have hne := h.ne
  have hl : (subM m vars).doms.length = vars.length := by simp [subM, wordL]
  simp only [validModB, domainsOkB, Bool.and_eq_true, withinB_iff, allInB_iff, hl, decide_eq_true_eq, List.all_eq_true]
  refine ⟨⟨⟨⟨by omega, by omega⟩, fun d hd => ?_⟩, ?_⟩, fun c hc => ?_⟩
  · simp only [subM, wordL, List.mem_map] at hd
    obtain ⟨v, hv, rfl⟩ := hd
    have := h.inn v hv
    exact hM.d (by omega)
  · have hf := hM.few
    have : ((m.cons.filter (insB vars)).map (subC vars)).length ≤ m.cons.length := by rw [List.length_map]; exact List.length_filter_le _ _
    simp only [subM]; omega
  · simp only [subM, List.mem_map] at hc
    obtain ⟨c, hc, rfl⟩ := hc
    obtain ⟨hc1, hc2⟩ := List.mem_filter.1 hc
    have hi := ins_iff.1 hc2
    have hv := hM.cm hc1
    simp only [validConB, Bool.and_eq_true, withinB_iff, allInB_iff] at hv ⊢
    obtain ⟨⟨⟨⟨h1, h2⟩, h3⟩, h4⟩, h5⟩ := hv
    have hd : c.vars.Nodup := of_decide_eq_true h4
    have hle := nodup_sub_len hd hi
    have hll : (subC vars c).vars.length = c.vars.length := by simp [subC]
    refine ⟨⟨⟨⟨⟨by omega, by omega⟩, by omega, by omega⟩, fun v hv => ?_⟩, ?_⟩, ?_⟩
    · simp only [subC, List.mem_map] at hv
      obtain ⟨u, hu, rfl⟩ := hv
      obtain ⟨i, e, h6, _⟩ := pos_at (hi u hu)
      omega
    · exact decide_eq_true (map_nodup hd fun u hu v hv e => pos_inj (hi u hu) (hi v hv) e)
    · rw [← h5]; unfold fitsB; rw [hll]; rfl
theorem box_sub {m : Mod} {vars x : List Int} (h : SubOk m vars) (hb : Box m.doms x) : Box (subM m vars).doms (wordL vars x) := by
  refine ⟨by simp [subM, wordL], fun i hi => ?_⟩
  have hi' : i < vars.length := by simpa [subM, wordL] using hi
  have hv := h.inn _ (getD_mem (d := 0) hi')
  simp only [subM, wordL, List.getD_eq_getElem?_getD, List.getElem?_map, List.getElem?_eq_getElem hi', Option.map_some, Option.getD_some]
  rw [List.getD_eq_getElem?_getD, List.getElem?_eq_getElem hi', Option.getD_some] at hv
  have := hb.2 vars[i].toNat (by omega)
  simpa [List.getD_eq_getElem?_getD] using this
theorem sub_sol {m : Mod} {vars x : List Int} (h : SubOk m vars) (hx : x ∈ sols m) : isSolT (subM m vars) (wordL vars x) = true := by
  obtain ⟨h1, h2⟩ := List.mem_filter.1 hx
  refine sols_isSol (sub_valid h) (List.mem_filter.2 ⟨mem_tupL.2 (box_sub h (mem_tupL.1 h1)), ?_⟩)
  rw [met_sub]
  rw [List.all_eq_true] at *
  exact fun c hc => List.all_eq_true.1 h2 c (List.mem_filter.1 hc).1
/-! The model of all variables. -/
theorem asc_iota (n : Nat) : ascB (natsI (List.range n)) = true := by
  rw [ascB, List.all_eq_true]
  intro i hi
  have hi : i < n := by simpa [natsI] using hi
  unfold ascAt
  have g : ∀ j, j < n → (natsI (List.range n)).getD j 0 = (j : Int) := fun j hj => by simp [natsI, List.getD_eq_getElem?_getD, hj]
  by_cases h0 : i = 0
  · subst h0; simp
  · rw [g i hi, g _ (by omega)]
    rw [decide_eq_false (by omega : ¬ (i : Int) ≤ ((((i : Int) - 1).toNat : Nat) : Int))]; simp
theorem sub_all_ok {m : Mod} (h : MOk m) : SubOk m (natsI (List.range m.doms.length)) := by
  have hn := h.n
  refine ⟨h, by simp [natsI]; omega, asc_iota _, fun v hv => ?_⟩
  simp only [natsI, List.mem_map, List.mem_range] at hv
  obtain ⟨i, hi, rfl⟩ := hv
  omega
theorem word_iota (x : List Int) : wordL (natsI (List.range x.length)) x = x := by
  apply List.ext_getElem?
  intro i
  simp only [wordL, natsI, List.map_map, List.getElem?_map]
  by_cases h : i < x.length
  · rw [List.getElem?_eq_getElem (by simpa using h), List.getElem?_eq_getElem h]
    simp [List.getD_eq_getElem?_getD, h]
  · rw [List.getElem?_eq_none (by simpa using Nat.not_lt.1 h), List.getElem?_eq_none (Nat.not_lt.1 h)]; rfl
theorem pos_iota {n : Nat} {v : Int} (h : 0 ≤ v ∧ v < n) : posI (natsI (List.range n)) v = v := by
  obtain ⟨i, h1, h2, h3⟩ := pos_at (vars := natsI (List.range n)) (v := v) (List.mem_map.2 ⟨v.toNat, List.mem_range.2 (by omega), by omega⟩)
  have : i < n := by simpa [natsI] using h2
  rw [h1, ← h3]
  simp [natsI, List.getD_eq_getElem?_getD, this]
theorem sub_all {m : Mod} (h : MOk m) : subM m (natsI (List.range m.doms.length)) = m := by
  have e1 : m.cons.filter (insB (natsI (List.range m.doms.length))) = m.cons := List.filter_eq_self.2 fun c hc => ins_iff.2 fun v hv => by
    have := h.i c hc v hv
    exact List.mem_map.2 ⟨v.toNat, List.mem_range.2 (by omega), by omega⟩
  have e2 : m.cons.map (subC (natsI (List.range m.doms.length))) = m.cons := by
    conv => rhs; rw [← List.map_id m.cons]
    refine List.map_congr_left fun c hc => ?_
    have : c.vars.map (posI (natsI (List.range m.doms.length))) = c.vars := by
      conv => rhs; rw [← List.map_id c.vars]
      refine List.map_congr_left fun v hv => ?_
      have := h.i c hc v hv
      exact pos_iota this
    unfold subC; rw [this]; rfl
  show (⟨wordL _ m.doms, (m.cons.filter _).map _⟩ : Mod) = m
  rw [word_iota, e1, e2]
/-! What the walks ask. -/
theorem ins_hit {c : Con} {vars : List Int} {k : Nat} (hk : k < c.vars.length) (h : (!(vars.contains (c.vars.getD k 0))) = true) : false = insB vars c := by
  symm; unfold insB; exact all_false (d := 0) hk (by simpa using h)
theorem ins_end {c : Con} {vars : List Int} {k : Nat} (hk : c.vars.length ≤ k) (h : (c.vars.take k).all (fun v => vars.contains v) = true) : true = insB vars c := by
  rw [List.take_of_length_le hk] at h; exact h.symm
theorem ins_any {c : Con} {vars : List Int} (h : c.vars.any (fun x => !(vars.contains x)) = false) : insB vars c = true := by
  rw [List.any_eq_false] at h
  exact List.all_eq_true.2 fun v hv => by simpa using h v hv
theorem ins_any' {c : Con} {vars : List Int} (h : c.vars.any (fun x => !(vars.contains x)) = true) : insB vars c = false := by
  rw [List.any_eq_true] at h
  obtain ⟨v, hv, h⟩ := h
  unfold insB
  rw [List.all_eq_false]
  exact ⟨v, hv, by simpa using h⟩
def posTo (vars vs : List Int) (i : Nat) : List Int := (vs.take i).map (posI vars) ++ vs.drop i
theorem posTo_0 {vars vs : List Int} : vs = posTo vars vs 0 := by simp [posTo]
theorem posTo_len (vars vs : List Int) (i : Nat) : (posTo vars vs i).length = vs.length := by simp [posTo]; omega
theorem posTo_step {vars vs ws : List Int} {i : Nat} (h : ws = posTo vars vs i) (hi : i < vs.length) : ws.set i (posI vars (ws.getD i 0)) = posTo vars vs (i + 1) := by
  subst h
  have hl : ((vs.take i).map (posI vars)).length = i := by simp; omega
  have e : (posTo vars vs i).getD i 0 = vs.getD i 0 := by
    simp only [posTo, List.getD_eq_getElem?_getD, List.getElem?_append_right (Nat.le_of_eq hl), hl, Nat.sub_self, List.getElem?_drop, Nat.add_zero]
  rw [e]
  unfold posTo
  rw [take_succ_getD 0 hi, List.map_append, List.set_append_right _ _ (Nat.le_of_eq hl), hl, Nat.sub_self, List.drop_eq_getElem_cons hi, List.set_cons_zero]
  simp
theorem posTo_end {vars vs ws : List Int} {i : Nat} (h : ws = posTo vars vs i) (hi : vs.length ≤ i) : ws = vs.map (posI vars) := by
  rw [h, posTo, List.take_of_length_le hi, List.drop_eq_nil_of_le hi, List.append_nil]
def subTo (m : Mod) (vars : List Int) (j : Nat) : List Con := ((m.cons.take j).filter (insB vars)).map (subC vars)
theorem subTo_T {m : Mod} {vars ws : List Int} {j : Nat} {cs : List Con} (hj : j < m.cons.length) (h : cs = subTo m vars j) (hin : insB vars (m.cons.getD j nilCon) = true) (hw : ws = (m.cons.getD j nilCon).vars.map (posI vars)) :
    cs ++ [⟨(m.cons.getD j nilCon).kind, ws, (m.cons.getD j nilCon).args, (m.cons.getD j nilCon).bound, (m.cons.getD j nilCon).rows⟩] = subTo m vars (j + 1) := by
  subst h hw
  unfold subTo
  rw [take_succ_getD nilCon hj, List.filter_append, List.map_append, List.filter_cons, if_pos hin]; rfl
theorem subTo_F {m : Mod} {vars : List Int} {j : Nat} {cs : List Con} (hj : j < m.cons.length) (h : cs = subTo m vars j) (hin : insB vars (m.cons.getD j nilCon) = false) : cs = subTo m vars (j + 1) := by
  subst h
  unfold subTo
  rw [take_succ_getD nilCon hj, List.filter_append, List.map_append, List.filter_cons, if_neg (by rw [hin]; simp)]; simp
theorem subTo_len {m : Mod} (hM : MOk m) {vars : List Int} {j : Nat} : (subTo m vars j).length ≤ 6 := by
  unfold subTo
  rw [List.length_map]
  have h1 := List.length_filter_le (insB vars) (m.cons.take j)
  have h2 := hM.few
  rw [List.length_take] at h1; omega
theorem sub_few {m : Mod} {vars : List Int} (h : SubOk m vars) : vars.length ≤ 4 := by
  have := iota_sub (asc_nodup h.asc) h.inn
  have := h.hM.n; omega
theorem rows_small {rows : List (List Int)} {n lo hi : Int} (h : rowsInB rows n lo hi = true) (hn : n ≤ 6) : rows.length ≤ 8 ∧ ∀ r ∈ rows, r.length ≤ 12 := by
  simp only [rowsInB, Bool.and_eq_true, withinB_iff, List.all_eq_true, decide_eq_true_eq] at h
  exact ⟨by omega, fun r hr => by have := (h.2 r hr).1; omega⟩
theorem rows_none {rows : List (List Int)} (h : (rows.length : Int) = 0) : rows.length ≤ 8 ∧ ∀ r ∈ rows, r.length ≤ 12 := by
  have e : rows = [] := List.eq_nil_of_length_eq_zero (by omega)
  subst e; exact ⟨by simp, fun r hr => by cases hr⟩
theorem con_small {c : Con} {n : Nat} (h : validConB c n = true) : ConSm 100 c := by
  simp only [validConB, Bool.and_eq_true, withinB_iff] at h
  obtain ⟨⟨⟨⟨h1, h2⟩, h3⟩, h4⟩, h5⟩ := h
  have hv : c.vars.length ≤ 4 := by omega
  have key : c.args.length ≤ 12 ∧ c.rows.length ≤ 8 ∧ ∀ r ∈ c.rows, r.length ≤ 12 := by
    unfold fitsB at h5
    split at h5
    · simp only [Bool.and_eq_true, decide_eq_true_eq] at h5; exact ⟨by omega, rows_none h5.2⟩
    · split at h5
      · simp only [Bool.and_eq_true, decide_eq_true_eq] at h5; exact ⟨by omega, rows_none h5.2⟩
      · split at h5
        · simp only [Bool.and_eq_true, decide_eq_true_eq] at h5; exact ⟨by omega, rows_none h5.2⟩
        · split at h5
          · simp only [Bool.and_eq_true, decide_eq_true_eq, withinB_iff] at h5; exact ⟨by omega, rows_none h5.2⟩
          · split at h5
            · simp only [Bool.and_eq_true, decide_eq_true_eq] at h5; exact ⟨by omega, rows_small h5.2 (by omega)⟩
            · split at h5
              · simp only [Bool.and_eq_true, decide_eq_true_eq] at h5; exact ⟨by omega, rows_none h5.2⟩
              · split at h5
                · simp only [Bool.and_eq_true, decide_eq_true_eq] at h5; exact ⟨by omega, rows_none h5.2⟩
                · split at h5
                  · simp only [Bool.and_eq_true, decide_eq_true_eq, allInB_iff] at h5
                    have hr := rows_small h5.1.1.1 (by omega)
                    have hd : c.args.Nodup := of_decide_eq_true h5.1.1.2
                    have := iota_sub (n := 8) hd (fun v hv => by have := h5.1.2 v hv; omega)
                    exact ⟨by omega, hr⟩
                  · cases h5
  exact ⟨by omega, by omega, by omega, by omega, key.2.2⟩
theorem ok_small {m : Mod} (h : MOk m) : ModSm 100 m := ⟨h.n.1, h.n.2, by have := h.few; omega, fun c hc => con_small (h.cm hc)⟩
theorem sub_smallE {m : Mod} {vars ds : List Int} {cs : List Con} {k j : Nat} (hS : SubOk m vars) (h1 : ds = wordTo vars m.doms k) (hk : vars.length ≤ k) (h2 : cs = subTo m vars j) (hj : m.cons.length ≤ j) : ModSm 100 ⟨ds, cs⟩ ∧ (⟨ds, cs⟩ : Mod) = subM m vars := by
  have e : (⟨ds, cs⟩ : Mod) = subM m vars := by
    rw [word_end h1 hk, h2, subTo, List.take_of_length_le hj]; rfl
  exact ⟨e ▸ ok_small (sub_valid hS), e⟩
theorem sub_cI (m : Mod) (vars : List Int) : (!(varSetI m vars) || decide ((vars.length : Int) = 0)) = !(subOk m vars) := by
  unfold subOk; cases varSetI m vars <;> cases decide ((vars.length : Int) = 0) <;> rfl
theorem sub_cS (m : Mod) (vars : List Int) : ((!(validModB m) || decide ((vars.length : Int) = 0)) || !(varSetS m.doms.length vars)) = !(subOk m vars) := by
  rw [varSetS_eq]
  unfold subOk varSetI varsInB
  generalize validModB m = a
  generalize ascB vars = b
  generalize allInB vars 0 ((m.doms.length : Int) - 1) = c
  cases a <;> cases b <;> cases c <;> cases decide ((vars.length : Int) = 0) <;> rfl
theorem sub_go {m : Mod} {vars : List Int} (h : (!(varSetI m vars) || decide ((vars.length : Int) = 0)) = false) : SubOk m vars := by
  rw [sub_cI] at h; exact subOk_iff.1 (by simpa using h)
theorem subS_go {m : Mod} {vars : List Int} (h : ((!(validModB m) || decide ((vars.length : Int) = 0)) || !(varSetS m.doms.length vars)) = false) : SubOk m vars := by
  rw [sub_cS] at h; exact subOk_iff.1 (by simpa using h)
theorem sub_noI {m : Mod} {vars : List Int} (h : (!(varSetI m vars) || decide ((vars.length : Int) = 0)) = true) : subR m vars = (⟨[], []⟩, false) := by
  rw [sub_cI] at h; unfold subR; rw [if_neg (by simpa using h)]
theorem sub_noS {m : Mod} {vars : List Int} (h : ((!(validModB m) || decide ((vars.length : Int) = 0)) || !(varSetS m.doms.length vars)) = true) : subR m vars = (⟨[], []⟩, false) := by
  rw [sub_cS] at h; unfold subR; rw [if_neg (by simpa using h)]
theorem sub_yes {m : Mod} {vars : List Int} (h : SubOk m vars) : subR m vars = (subM m vars, true) := by unfold subR; rw [if_pos (subOk_iff.2 h)]
theorem sub_fin {m : Mod} {vars ds : List Int} {cs : List Con} {k j : Nat} (hS : SubOk m vars) (h1 : ds = wordTo vars m.doms k) (hk : vars.length ≤ k) (h2 : cs = subTo m vars j) (hj : m.cons.length ≤ j) : ((⟨ds, cs⟩ : Mod), true) = subR m vars := by
  rw [sub_yes hS, (sub_smallE hS h1 hk h2 hj).2]
theorem nat_lt {k n : Nat} (h : (k : Int) < (n : Int)) : k < n := by omega
theorem iota_step {al : List Int} {k : Nat} (h : al = natsI (List.range k)) : al ++ [(k : Int)] = natsI (List.range (k + 1)) := by
  rw [h, natsI, natsI, List.range_succ, List.map_append]; rfl
theorem sm_go {m z z2 : Mod} {vars : List Int} {b b2 : Bool} (h1 : (z, b) = subR m vars) (h2 : (z2, b2) = subR m vars) (h : (((b != b2) || !(decide (z = z2))) || !b) = false) : SubOk m vars ∧ z = subM m vars := by
  have hb : b = true := by revert h; cases b <;> simp
  subst hb
  unfold subR at h1
  split at h1
  · rename_i h; exact ⟨subOk_iff.1 h, congrArg Prod.fst h1⟩
  · exact absurd (congrArg Prod.snd h1) (by simp)
theorem sm_ret {m z z2 : Mod} {vars : List Int} {b b2 : Bool} (h1 : (z, b) = subR m vars) (h2 : (z2, b2) = subR m vars) : ((b == b2) && decide (z = z2)) = true := by
  have e := h1.trans h2.symm
  rw [Prod.mk.injEq] at e
  rw [e.1, e.2]; simp
theorem sub_inn {m z : Mod} {vars : List Int} {i : Nat} (h : SubOk m vars ∧ z = subM m vars) (hi : (i : Int) < (vars.length : Int)) : (0 : Int) ≤ vars.getD i 0 ∧ vars.getD i 0 < m.doms.length := h.1.inn _ (getD_mem (by omega))
theorem sm_at {m z : Mod} {vars xs : List Int} {j i : Nat} (h : SubOk m vars ∧ z = subM m vars) (hj : j < (solL m).length) (hi : vars.length ≤ i) (hx : xs = wordTo vars ((solL m).getD j []) i) : isSolT z xs = true := by
  rw [h.2, word_end hx hi]
  exact sub_sol h.1 (solL_mem (getD_mem hj))
theorem sm_fin {m z z2 : Mod} {vars al : List Int} {b : Bool} {k : Nat} (h : SubOk m vars ∧ z = subM m vars) (h2 : (z2, b) = subR m al) (ha : al = natsI (List.range k)) (hk : k = m.doms.length) : (b && decide (z2 = m)) = true := by
  subst hk
  rw [ha, sub_yes (sub_all_ok h.1.hM), sub_all h.1.hM, Prod.mk.injEq] at h2
  rw [h2.1, h2.2]; simp
end Go.Proofs.Ytiilanckbocifaa
