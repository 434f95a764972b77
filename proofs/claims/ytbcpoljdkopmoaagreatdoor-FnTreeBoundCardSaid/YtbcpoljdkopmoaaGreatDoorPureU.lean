/- Plain law: deeper search gives better bounds. No program in sight. Conditions: none. -/
import Derived.Test.YtbcpoljdkopmoaaGreatDoorPureP
namespace Go.Proofs.YtbcpoljdkopmoaaGreatDoor
open Go
set_option linter.unusedSimpArgs false
set_option linter.unusedVariables false
theorem fold_min : ∀ (l : List Int) (s : Int × Bool), (l.foldl putB s).2 = (s.2 || !l.isEmpty) ∧ ((l.foldl putB s).2 = true → (((l.foldl putB s).1 ∈ l ∨ (s.2 = true ∧ (l.foldl putB s).1 = s.1)) ∧ (∀ b ∈ l, (l.foldl putB s).1 ≤ b) ∧ (s.2 = true → (l.foldl putB s).1 ≤ s.1)))
  | [], s => ⟨by simp, fun h => ⟨.inr ⟨h, rfl⟩, fun _ h => absurd h List.not_mem_nil, fun _ => Int.le_refl _⟩⟩
  | b :: l, s => by
    have ih := fold_min l (putB s b)
    have h2 : (putB s b).2 = true := by
      unfold putB; split
      · rfl
      · rename_i h; revert h; cases s.2 <;> simp
    rw [List.foldl_cons]
    refine ⟨by rw [ih.1, h2]; simp, fun h => ?_⟩
    obtain ⟨h3, h4, h5⟩ := ih.2 h
    have h5 := h5 h2
    have h6 : (putB s b).1 ≤ b ∧ (s.2 = true → (putB s b).1 ≤ s.1) ∧ ((putB s b).1 = b ∨ (s.2 = true ∧ (putB s b).1 = s.1)) := by
      unfold putB; split
      · rename_i hc
        refine ⟨Int.le_refl _, fun hs => ?_, .inl rfl⟩
        rw [hs] at hc; simp only [Bool.not_true, Bool.false_or, decide_eq_true_eq] at hc
        dsimp only; omega
      · rename_i hc
        simp only [Bool.or_eq_true, Bool.not_eq_true', decide_eq_true_eq, not_or] at hc
        have hs : s.2 = true := by revert hc; cases s.2 <;> simp
        exact ⟨by omega, fun _ => Int.le_refl _, .inr ⟨hs, rfl⟩⟩
    refine ⟨?_, fun c hc => ?_, fun hs => ?_⟩
    · rcases h3 with h3 | ⟨_, h3⟩
      · exact .inl (.tail _ h3)
      · rw [h3]
        rcases h6.2.2 with h7 | h7
        · rw [h7]; exact .inl (.head _)
        · exact .inr h7
    · rcases List.mem_cons.1 hc with rfl | hc
      · omega
      · exact h4 c hc
    · have := h6.2.1 hs; omega
theorem minF_some (l : List Int) : (minF l).2 = !l.isEmpty := by have := (fold_min l (0, false)).1; unfold minF; rw [this]; rfl
theorem minF_in {l : List Int} (h : (minF l).2 = true) : (minF l).1 ∈ l ∧ ∀ b ∈ l, (minF l).1 ≤ b := by
  obtain ⟨h1, h2, _⟩ := (fold_min l (0, false)).2 h
  rcases h1 with h1 | ⟨h1, _⟩
  · exact ⟨h1, h2⟩
  · cases h1
theorem end_mem {a d : Int} (hd : 1 ≤ d ∧ d ≤ 63) : endI a d ∈ valsI d := by
  have key : ∀ i, i < 64 → 1 ≤ i → mostI ((i : Nat) : Int) ∈ valsI ((i : Nat) : Int) ∧ leastI ((i : Nat) : Int) ∈ valsI ((i : Nat) : Int) := by decide +kernel
  obtain ⟨i, rfl⟩ := Int.eq_ofNat_of_zero_le (by omega : 0 ≤ d)
  have := key i (by omega) (by omega)
  unfold endI; split
  · exact this.1
  · exact this.2
theorem low_mono {obj ds es : List Int} (hO : Coef obj) (hs : SubD es ds) (hl : obj.length = ds.length) (hD : ∀ i, i < ds.length → 0 ≤ ds.getD i 0 ∧ ds.getD i 0 ≤ 63) (hE : ∀ i, i < es.length → 1 ≤ es.getD i 0 ∧ es.getD i 0 ≤ 63) : ∀ k : Nat, k ≤ ds.length → lowT ds obj k ≤ lowT es obj k
  | 0, _ => Int.le_refl _
  | k + 1, hk => by
    have ih := low_mono hO hs hl hD hE k (by omega)
    have h1 := end_mem (a := obj.getD k 0) (hE k (by rw [hs.1]; omega))
    have h2 := mem_valsI.1 h1
    have h3 : endI (obj.getD k 0) (es.getD k 0) ∈ valsI (ds.getD k 0) := mem_valsI.2 ⟨h2.1, hs.2 k (by omega) _ h2.1 h2.2⟩
    have h4 := (end_in (hO _ (getD_mem (d := 0) (by omega : k < obj.length))) (hD k (by omega)) h3).1
    rw [lowT, lowT]; omega
theorem sub_set {ds : List Int} {i : Nat} {v : Int} (hd : ∀ d ∈ ds, (0 : Int) ≤ d ∧ d ≤ 63) (hi : i < ds.length) (hv : v ∈ valsI (ds.getD i 0)) : SubD (ds.set i (ishl 1 v)) ds := ⟨by simp, fun j hj u h0 hh => by
  by_cases e : i = j
  · subst e
    rw [List.getD_eq_getElem?_getD, List.getElem?_set_self hi] at hh
    have h1 := mem_valsI.1 hv
    have h2 : u ∈ valsI (ishl 1 v) := mem_valsI.2 ⟨h0, hh⟩
    rw [valsI_one h1.1] at h2
    rw [List.mem_singleton.1 h2]; exact h1.2
  · rw [List.getD_eq_getElem?_getD, List.getElem?_set_ne e, ← List.getD_eq_getElem?_getD] at hh; exact hh⟩
theorem flat_congr {A B : Type} {f g : A → List B} : ∀ {l : List A}, (∀ a ∈ l, f a = g a) → l.flatMap f = l.flatMap g
  | [], _ => rfl
  | a :: l, h => by rw [List.flatMap_cons, List.flatMap_cons, h a (.head _), flat_congr (l := l) (fun b hb => h b (.tail _ hb))]
section tree
variable {m : Mod} {obj : List Int}
theorem tb_cases (k : Nat) (ds : List Int) : ((prop m ds).contains 0 = true ∧ tbL m obj k ds = []) ∨ ((prop m ds).contains 0 = false ∧ (opI (prop m ds) < 0 ∨ k = 0) ∧ tbL m obj k ds = [lowT (prop m ds) obj obj.length]) ∨
    (∃ j, k = j + 1 ∧ (prop m ds).contains 0 = false ∧ ¬ opI (prop m ds) < 0 ∧ tbL m obj k ds = (valsI ((prop m ds).getD (opI (prop m ds)).toNat 0)).flatMap (fun v => tbL m obj j ((prop m ds).set (opI (prop m ds)).toNat (ishl 1 v)))) := by
  cases h : (prop m ds).contains 0 with
  | true => exact .inl ⟨rfl, tb_0 h⟩
  | false =>
    right
    by_cases c : opI (prop m ds) < 0 ∨ k = 0
    · exact .inl ⟨rfl, c, tb_leaf h (by simp only [Bool.or_eq_true, decide_eq_true_eq]; omega)⟩
    · right
      obtain ⟨j, rfl⟩ : ∃ j, k = j + 1 := ⟨k - 1, by omega⟩
      refine ⟨j, rfl, rfl, by omega, ?_⟩
      conv => lhs; unfold tbL
      rw [if_neg (by rw [h]; simp), if_neg (by omega)]
structure TBok (m : Mod) (obj : List Int) : Prop where
  hM : MOk m
  ho : obj.length = m.doms.length
  hO : Coef obj
theorem child_ok (h : TBok m obj) {ds : List Int} (hd : DOk m.doms.length ds) (hz : (prop m ds).contains 0 = false) (c : ¬ opI (prop m ds) < 0) {v : Int} (hv : v ∈ valsI ((prop m ds).getD (opI (prop m ds)).toNat 0)) :
    DOk m.doms.length ((prop m ds).set (opI (prop m ds)).toNat (ishl 1 v)) ∧ SubD ((prop m ds).set (opI (prop m ds)).toNat (ishl 1 v)) (prop m ds) ∧ (opI (prop m ds)).toNat < (prop m ds).length := by
  have hp := propOk h.hM hd
  have hi := (op_in c).1
  exact ⟨set_ok hp.ok (valsI_mem hv), sub_set hp.ok.d (by omega) hv, by omega⟩
/-- All bounds of a tree are at least the bound of its root. -/
theorem tb_ge (h : TBok m obj) : ∀ (k : Nat) {ds : List Int}, DOk m.doms.length ds → ∀ b ∈ tbL m obj k ds, lowT (prop m ds) obj obj.length ≤ b := by
  intro k
  induction k with
  | zero =>
    intro ds hd b hb
    rcases tb_cases (m := m) (obj := obj) 0 ds with ⟨_, e⟩ | ⟨_, _, e⟩ | ⟨j, e, _⟩
    · rw [e] at hb; cases hb
    · rw [e] at hb; rw [List.mem_singleton.1 hb]; exact Int.le_refl _
    · cases e
  | succ k ih =>
    intro ds hd b hb
    rcases tb_cases (m := m) (obj := obj) (k + 1) ds with ⟨_, e⟩ | ⟨_, _, e⟩ | ⟨j, e1, hz, c, e⟩
    · rw [e] at hb; cases hb
    · rw [e] at hb; rw [List.mem_singleton.1 hb]; exact Int.le_refl _
    · obtain rfl : k = j := by omega
      rw [e] at hb
      obtain ⟨v, hv, hb⟩ := List.mem_flatMap.1 hb
      obtain ⟨h1, h2, h3⟩ := child_ok h hd hz c hv
      have h4 := ih h1 b hb
      have hp := propOk h.hM hd
      have hp2 := propOk h.hM h1
      have hz2 : (prop m ((prop m ds).set (opI (prop m ds)).toNat (ishl 1 v))).contains 0 = false := by
        rcases tb_cases (m := m) (obj := obj) k ((prop m ds).set (opI (prop m ds)).toNat (ishl 1 v)) with ⟨_, e⟩ | ⟨hz, _⟩ | ⟨_, _, hz, _⟩
        · rw [e] at hb; cases hb
        · exact hz
        · exact hz
      have hl := hp.ok.l
      have h5 := low_mono h.hO (hp2.sub.trans h2) (by rw [hl]; exact h.ho) (fun i hi => hp.ok.d.at hi) (prop_at h.hM h1 hz2) obj.length (by rw [hl, h.ho]; exact Nat.le_refl _)
      omega
/-- A deeper tree has a bound only if a shallower one has a bound that is not larger. -/
theorem tb_deep (h : TBok m obj) : ∀ (k : Nat) {ds : List Int}, DOk m.doms.length ds → ∀ b ∈ tbL m obj (k + 1) ds, ∃ c ∈ tbL m obj k ds, c ≤ b := by
  intro k
  induction k with
  | zero =>
    intro ds hd b hb
    have h1 := tb_ge h 1 hd b hb
    have hz : (prop m ds).contains 0 = false := by
      rcases tb_cases (m := m) (obj := obj) 1 ds with ⟨_, e⟩ | ⟨hz, _⟩ | ⟨_, _, hz, _⟩
      · rw [e] at hb; cases hb
      · exact hz
      · exact hz
    exact ⟨lowT (prop m ds) obj obj.length, by rw [tb_leaf (k := 0) hz (by simp)]; exact .head _, h1⟩
  | succ k ih =>
    intro ds hd b hb
    rcases tb_cases (m := m) (obj := obj) (k + 1 + 1) ds with ⟨_, e⟩ | ⟨hz, c, e⟩ | ⟨j, e1, hz, c, e⟩
    · rw [e] at hb; cases hb
    · have e2 : tbL m obj (k + 1) ds = [lowT (prop m ds) obj obj.length] := tb_leaf hz (by simp only [Bool.or_eq_true, decide_eq_true_eq]; omega)
      rw [e] at hb
      exact ⟨_, by rw [e2]; exact .head _, by rw [List.mem_singleton.1 hb]; exact Int.le_refl _⟩
    · obtain rfl : k + 1 = j := by omega
      rw [e] at hb
      obtain ⟨v, hv, hb⟩ := List.mem_flatMap.1 hb
      obtain ⟨h1, _, _⟩ := child_ok h hd hz c hv
      obtain ⟨c1, hc1, hle⟩ := ih h1 b hb
      rcases tb_cases (m := m) (obj := obj) (k + 1) ds with ⟨hz2, _⟩ | ⟨_, c2, _⟩ | ⟨j2, e3, _, _, e4⟩
      · rw [hz] at hz2; cases hz2
      · exfalso; omega
      · obtain rfl : k = j2 := by omega
        exact ⟨c1, by rw [e4]; exact List.mem_flatMap.2 ⟨v, hv, hc1⟩, hle⟩
theorem tb_deeper (h : TBok m obj) {ds : List Int} (hd : DOk m.doms.length ds) : ∀ (j k : Nat), ∀ b ∈ tbL m obj (k + j) ds, ∃ c ∈ tbL m obj k ds, c ≤ b
  | 0, k, b, hb => ⟨b, hb, Int.le_refl _⟩
  | j + 1, k, b, hb => by
    obtain ⟨c, hc, hle⟩ := tb_deep h (k + j) hd b hb
    obtain ⟨c2, hc2, hle2⟩ := tb_deeper h hd j k c hc
    exact ⟨c2, hc2, by omega⟩
theorem one_val {d : Int} (h : (valsI d).length = 1) : leastI d = mostI d := by unfold leastI mostI; rw [h]
theorem low_one {ds : List Int} (h : ∀ i, i < ds.length → (valsI (ds.getD i 0)).length = 1) : ∀ k : Nat, k ≤ ds.length → lowT ds obj k = dotTo obj (firstL ds) k
  | 0, _ => by simp [lowT, dotTo]
  | k + 1, hk => by
    rw [lowT, dot_succ, low_one h k (by omega)]
    have h1 : endI (obj.getD k 0) (ds.getD k 0) = leastI (ds.getD k 0) := by unfold endI; rw [one_val (h k (by omega))]; simp
    have h2 : (firstL ds).getD k 0 = leastI (ds.getD k 0) := by
      simp only [firstL, leastI, List.getD_eq_getElem?_getD, List.getElem?_map, List.getElem?_eq_getElem (by omega : k < ds.length), Option.map_some, Option.getD_some]
    rw [h1, h2]
theorem op_first {ds : List Int} (hD : ∀ i, i < ds.length → 1 ≤ ds.getD i 0 ∧ ds.getD i 0 ≤ 63) : (opI ds < 0 → ∀ i, i < ds.length → (valsI (ds.getD i 0)).length = 1) ∧ (¬ opI ds < 0 → ∀ j, j < (opI ds).toNat → (valsI (ds.getD j 0)).length = 1) := by
  have key : ∀ j, j < ds.length → ¬ (1 : Int) < popI (ds.getD j 0) → (valsI (ds.getD j 0)).length = 1 := fun j hj h => by
    have h2 := List.length_pos_iff.2 (valsI_ne (d := ds.getD j 0) (by have := hD j hj; omega) (by have := hD j hj; omega))
    unfold popI at h; omega
  unfold opI indexBy
  cases e : ds.findIdx? (fun d => decide ((1 : Int) < popI d)) with
  | none =>
    refine ⟨fun _ i hi => key i hi ?_, fun h => absurd (by decide) h⟩
    rw [List.findIdx?_eq_none_iff] at e
    have := e _ (getD_mem (d := 0) hi)
    simpa using this
  | some i =>
    rw [List.findIdx?_eq_some_iff_getElem] at e
    obtain ⟨h1, _, h3⟩ := e
    refine ⟨fun h => absurd h (by dsimp only; omega), fun _ j hj => ?_⟩
    dsimp only at hj
    rw [Int.toNat_natCast] at hj
    have := h3 j hj
    refine key j (by omega) ?_
    rw [show ds.getD j 0 = ds[j]'(by omega) from by simp [List.getD, (by omega : j < ds.length)]]
    simpa using this
theorem sub_one {d e : Int} (he : 1 ≤ e ∧ e ≤ 63) (hs : ∀ v, 0 ≤ v ∧ v ≤ 5 → hasB e v = true → hasB d v = true) (h : (valsI d).length = 1) : (valsI e).length = 1 := by
  rw [valsI_sub hs]
  have h1 : ((valsI d).filter (fun v => hasB e v)).length ≤ 1 := by rw [← h]; exact List.length_filter_le _ _
  have h2 := List.length_pos_iff.2 (valsI_ne (d := e) (by omega) (by omega))
  rw [valsI_sub hs] at h2
  omega
/-- At full depth the bounds are the values of the solutions. -/
theorem tb_full (h : TBok m obj) : ∀ (k : Nat) {ds : List Int}, DOk m.doms.length ds → (∀ j, j + k < m.doms.length → (valsI (ds.getD j 0)).length = 1) → tbL m obj k ds = (solT m ds).map (fun x => dotTo obj x m.doms.length) := by
  intro k
  induction k with
  | zero =>
    intro ds hd hs
    have hp := propOk h.hM hd
    rcases tb_cases (m := m) (obj := obj) 0 ds with ⟨hz, e⟩ | ⟨hz, _, e⟩ | ⟨j, e, _⟩
    · rw [e, solT_empty h.hM hd hz]; rfl
    · have hD := prop_at h.hM hd hz
      have hl := hp.ok.l
      have h1 : ∀ i, i < (prop m ds).length → (valsI ((prop m ds).getD i 0)).length = 1 := fun i hi => sub_one (hD i hi) (fun v hv hh => hp.sub.2 i (by rw [hd.l]; omega) v hv hh) (hs i (by omega))
      rw [e, solT_leaf h.hM hd hz h1, low_one h1 _ (by rw [hl, h.ho]; exact Nat.le_refl _), h.ho]; rfl
    · cases e
  | succ k ih =>
    intro ds hd hs
    have hp := propOk h.hM hd
    have hl := hp.ok.l
    rcases tb_cases (m := m) (obj := obj) (k + 1) ds with ⟨hz, e⟩ | ⟨hz, c, e⟩ | ⟨j, e1, hz, c, e⟩
    · rw [e, solT_empty h.hM hd hz]; rfl
    · have hD := prop_at h.hM hd hz
      have h1 := (op_first hD).1 (by omega)
      rw [e, solT_leaf h.hM hd hz h1, low_one h1 _ (by rw [hl, h.ho]; exact Nat.le_refl _), h.ho]; rfl
    · obtain rfl : k = j := by omega
      have hD := prop_at h.hM hd hz
      have h1 := (op_first hD).2 c
      have hi := (op_in c).1
      rw [e, ← hp.sol, solT_split (i := (opI (prop m ds)).toNat) (by omega) h1, List.map_flatMap]
      refine flat_congr fun v hv => ?_
      obtain ⟨h2, h3, h4⟩ := child_ok h hd hz c hv
      refine ih h2 fun q hq => ?_
      by_cases e5 : q = (opI (prop m ds)).toNat
      · subst e5
        rw [List.getD_eq_getElem?_getD, List.getElem?_set_self h4]
        show (valsI (ishl 1 v)).length = 1
        rw [valsI_one (valsI_mem hv)]; rfl
      · rw [List.getD_eq_getElem?_getD, List.getElem?_set_ne (fun e => e5 e.symm), ← List.getD_eq_getElem?_getD]
        by_cases h6 : q < (opI (prop m ds)).toNat
        · exact h1 q h6
        · by_cases h7 : q + (k + 1) < m.doms.length
          · exact sub_one (hD q (by omega)) (fun v hv hh => hp.sub.2 q (by rw [hd.l]; omega) v hv hh) (hs q h7)
          · exfalso
            have h8 := hs (opI (prop m ds)).toNat (by omega)
            have h9 := (op_in c).2
            have h10 := sub_one (hD _ h4) (fun v hv hh => hp.sub.2 _ (by rw [hd.l]; omega) v hv hh) h8
            unfold popI at h9; omega
end tree
theorem tb_facts {m : Mod} {obj : List Int} {dp : Int} (h : (tbI m obj dp).2 = true) : TBok m obj ∧ objOkB m obj = true ∧ 0 ≤ dp ∧ dp ≤ 4 ∧ tbI m obj dp = minF (tbL m obj dp.toNat m.doms) := by
  by_cases hc : (!(objOkB m obj) || !(withinB dp 0 4)) = true
  · rw [tbI_no hc] at h; cases h
  · have hc : (!(objOkB m obj) || !(withinB dp 0 4)) = false := by simpa using hc
    obtain ⟨h1, h2, h3, h4, h5⟩ := tbI_ok hc
    exact ⟨⟨h1, h2, h3⟩, (tbI_c hc).1, h4, h5, tbI_yes hc⟩
theorem tb_at {m : Mod} {obj : List Int} {dp : Int} (h : objOkB m obj = true) (h0 : 0 ≤ dp) (h4 : dp ≤ 4) : tbI m obj dp = minF (tbL m obj dp.toNat m.doms) := tbI_yes (by rw [h, withinB_iff.2 ⟨h0, h4⟩]; rfl)
theorem minF_le {l : List Int} {c : Int} (h : c ∈ l) : (minF l).2 = true ∧ (minF l).1 ≤ c := by
  have h1 : (minF l).2 = true := by
    rw [minF_some]
    cases l with
    | nil => cases h
    | cons => rfl
  exact ⟨h1, (minF_in h1).2 c h⟩
theorem tree_less {m : Mod} {obj : List Int} {dp : Int} (h : (tbI m obj dp).2 = true) (hp : 0 < dp) : (tbI m obj (dp - 1)).2 = true ∧ (tbI m obj (dp - 1)).1 ≤ (tbI m obj dp).1 := by
  obtain ⟨hT, h1, h2, h3, h4⟩ := tb_facts h
  rw [h4] at h ⊢
  rw [tb_at h1 (by omega : 0 ≤ dp - 1) (by omega)]
  obtain ⟨k, hk⟩ : ∃ k : Nat, dp = ((k + 1 : Nat) : Int) := ⟨(dp - 1).toNat, by omega⟩
  have e1 : dp.toNat = k + 1 := by omega
  have e2 : (dp - 1).toNat = k := by omega
  rw [e1] at h ⊢; rw [e2]
  obtain ⟨c, hc, hle⟩ := tb_deep hT k hT.hM.dok _ (minF_in h).1
  have := minF_le hc
  exact ⟨this.1, by omega⟩
theorem tree_no {m : Mod} {obj : List Int} {dp : Int} (h : (tbI m obj dp).2 = true) (hp : 0 < dp) : (!((tbI m obj (dp - 1)).2) || decide ((tbI m obj dp).1 < (tbI m obj (dp - 1)).1)) = false := by
  have := tree_less h hp
  rw [this.1, decide_eq_false (by omega)]; rfl
theorem tb_g {m : Mod} {obj : List Int} {dp : Int} {a : Bool} (h : (a || !((tbI m obj dp).2)) = false) : (tbI m obj dp).2 = true := by
  simp only [Bool.or_eq_false_iff, Bool.not_eq_false'] at h; exact h.2
theorem tree_fin {m : Mod} {obj : List Int} {dp : Int} (h : (tbI m obj dp).2 = true) :
    (lbI m obj).2 = true ∧ (tbI m obj 0).2 = true ∧ (tbI m obj 0).1 = (lbI m obj).1 ∧ (tbI m obj 4).2 = (minI m obj).2 ∧ ((minI m obj).2 = true → (tbI m obj 4).1 = objVal obj (minI m obj).1 ∧ (tbI m obj dp).1 ≤ (tbI m obj 4).1) := by
  obtain ⟨hT, h1, h2, h3, h4⟩ := tb_facts h
  have hn := hT.hM.n
  have hl := (propOk hT.hM hT.hM.dok).ok.l
  have hz : (prop m m.doms).contains 0 = false := by
    cases hc : (prop m m.doms).contains 0 with
    | false => rfl
    | true => rw [h4, tb_0 hc] at h; cases h
  have hc' : (!(validModB m) || !(objOkS m obj)) = false := by
    rw [obj_eq, Bool.and_eq_true] at h1; rw [h1.1, h1.2]; rfl
  have hlb := lb_1 hc' hz
  have h0 : tbI m obj 0 = (lowT (prop m m.doms) obj obj.length, true) := by
    rw [tb_at h1 (by omega) (by omega)]
    show minF (tbL m obj 0 m.doms) = _
    rw [tb_leaf hz (by simp)]; rfl
  have hf : tbI m obj 4 = minF ((sols m).map (fun x => dotTo obj x m.doms.length)) := by
    rw [tb_at h1 (by omega) (by omega)]
    show minF (tbL m obj 4 m.doms) = _
    rw [tb_full hT 4 hT.hM.dok (fun j hj => by omega)]; rfl
  rw [hlb, h0]
  refine ⟨rfl, rfl, by dsimp only; rw [hl, hT.ho], ?_, fun hb => ?_⟩
  · rw [hf, minF_some, min_yes h1]
    unfold bestI
    cases sols m with
    | nil => rfl
    | cons x xs => simp
  · have hx := best_in (p := fun x => dotTo obj x x.length) (xs := sols m) (by rw [← min_yes h1]; exact hb)
    rw [← min_yes h1] at hx
    have hmem : dotTo obj (minI m obj).1 m.doms.length ∈ (sols m).map (fun x => dotTo obj x m.doms.length) := List.mem_map.2 ⟨_, hx.1, rfl⟩
    have hle := minF_le hmem
    have hin := (minF_in hle.1).1
    obtain ⟨y, hy, e⟩ := List.mem_map.1 hin
    have hxy := hx.2 y hy
    rw [sols_len hx.1, sols_len hy] at hxy
    rw [hf, objVal_sol h1 hx.1]
    refine ⟨by omega, ?_⟩
    rw [← hf, tb_at h1 (by omega : (0 : Int) ≤ 4) (by omega)]
    have h5 : (tbI m obj 4).2 = true := by rw [hf]; exact hle.1
    rw [tb_at h1 (by omega : (0 : Int) ≤ 4) (by omega)] at h5
    have h6 := (minF_in h5).1
    have e4 : (4 : Int).toNat = dp.toNat + (4 - dp.toNat) := by omega
    rw [e4] at h6 ⊢
    obtain ⟨c, hc, hle2⟩ := tb_deeper hT hT.hM.dok (4 - dp.toNat) dp.toNat _ h6
    have := minF_le hc
    rw [h4]; omega
/-- The bound of domains, if none is empty. -/
def bbI (ds obj : List Int) : Int × Bool := if ds.contains 0 = true then (0, false) else (lowT ds obj obj.length, true)
theorem bb_0 {ds obj : List Int} (h : ds.contains 0 = true) : bbI ds obj = (0, false) := by unfold bbI; rw [if_pos h]
theorem bb_1 {ds obj : List Int} (h : ds.contains 0 = false) : bbI ds obj = (lowT ds obj obj.length, true) := by unfold bbI; rw [if_neg (by rw [h]; simp)]
theorem lb_cI {m : Mod} {obj : List Int} (h : (!(objOkB m obj)) = false) : (!(validModB m) || !(objOkS m obj)) = false := by
  have h : objOkB m obj = true := by simpa using h
  rw [obj_eq, Bool.and_eq_true] at h; rw [h.1, h.2]; rfl
theorem lb_noI {m : Mod} {obj : List Int} (h : (!(objOkB m obj)) = true) : lbI m obj = (0, false) := by
  have h : objOkB m obj = false := by simpa using h
  rw [obj_eq] at h
  refine lb_no ?_
  cases h1 : validModB m <;> cases h2 : objOkS m obj <;> simp_all
theorem lb_bb {m : Mod} {obj : List Int} (h : (!(validModB m) || !(objOkS m obj)) = false) : lbI m obj = bbI (prop m m.doms) obj := by
  cases hz : (prop m m.doms).contains 0 with
  | true => rw [bb_0 hz]; exact lb_0 h hz
  | false =>
    have hg := lb_ok h
    have hl := (propOk hg.1 hg.1.dok).ok.l
    rw [bb_1 hz, lb_1 h hz, hl, hg.2.1]
theorem tree_end {m : Mod} {obj : List Int} {dp : Int} (h : (tbI m obj dp).2 = true) :
    ((lbI m obj).2 && (tbI m obj 0).2 && decide ((tbI m obj 0).1 = (lbI m obj).1) && (tbI m obj 4).2 == (minI m obj).2 && (!(minI m obj).2 || decide ((tbI m obj 4).1 = objVal obj (minI m obj).1) && decide ((tbI m obj dp).1 ≤ (tbI m obj 4).1))) = true := by
  obtain ⟨h1, h2, h3, h4, h5⟩ := tree_fin h
  rw [h1, h2, decide_eq_true h3, h4]
  cases hb : (minI m obj).2 with
  | false => rfl
  | true => obtain ⟨h6, h7⟩ := h5 hb; rw [decide_eq_true h6, decide_eq_true h7]; rfl
end Go.Proofs.YtbcpoljdkopmoaaGreatDoor
