/- Neighbours are symmetric; winning values decide the formula. No program in sight. Conditions: none. -/
import Derived.Test.YtiilanckbocifaaPureQ
namespace Go.Proofs.Ytiilanckbocifaa
open Go
set_option linter.unusedSimpArgs false
set_option linter.unusedVariables false
theorem grd4 {a b : Bool} {v n : Int} (h : (((a || !b) || decide (v < 0)) || decide (n ≤ v)) = false) : b = true ∧ 0 ≤ v ∧ v < n := by
  cases a <;> cases b <;> simp at h ⊢
  omega
theorem grd3 {a b : Bool} {p q : Int} (h : ((a || !b) || decide (p ≠ q)) = false) : b = true ∧ p = q := by
  cases a <;> cases b <;> simp at h ⊢
  exact h
theorem nbS_mem {m : Mod} {v : Int} (hm : validModB m = true) (hv : 0 ≤ v ∧ v < m.doms.length) {u : Nat} (hu : u < m.doms.length) : (nbI m v).contains (u : Int) = adjB m.cons (u : Int) v := by
  have hc : nbCS m v = false := by
    simp only [nbCS, Bool.or_eq_false_iff, Bool.not_eq_false', withinB_iff]
    exact ⟨hm, by omega⟩
  rw [nb_eq, nbS, if_neg (by rw [hc]; simp), Bool.eq_iff_iff, List.contains_iff_mem]
  simp only [nbTo, natsI, List.mem_map, List.mem_filter, List.mem_range]
  constructor
  · rintro ⟨i, ⟨h1, h2⟩, h3⟩
    have : i = u := by exact_mod_cast h3
    subst this; exact h2
  · intro h; exact ⟨u, ⟨hu, h⟩, rfl⟩
theorem nb_sym {m : Mod} {v : Int} (hm : validModB m = true) (hv : 0 ≤ v ∧ v < m.doms.length) {u : Nat} (hu : u < m.doms.length) : ((nbI m v).contains (u : Int) != (nbI m (u : Int)).contains v) = false := by
  obtain ⟨w, rfl⟩ := Int.eq_ofNat_of_zero_le hv.1
  have hw : w < m.doms.length := by omega
  rw [nbS_mem hm hv hu, nbS_mem hm (v := (u : Int)) (by omega) hw, adjB_comm]; simp
theorem nb_irr {m : Mod} {v : Int} (hm : validModB m = true) (hv : 0 ≤ v ∧ v < m.doms.length) : (!((nbI m v).contains v)) = true := by
  obtain ⟨w, rfl⟩ := Int.eq_ofNat_of_zero_le hv.1
  rw [nbS_mem hm hv (by omega : w < m.doms.length)]
  simp [adjB, joins]
/-! Winning values. -/
theorem wv_laws {d : Int} (hd : 0 ≤ d ∧ d ≤ 63) (w : Int → Bool) : (valsI d).all w = decide ((valsI d).foldl (wvI w) 0 = d) ∧ (valsI d).any w = decide ((valsI d).foldl (wvI w) 0 ≠ 0) ∧ iand ((valsI d).foldl (wvI w) 0) d = (valsI d).foldl (wvI w) 0 := by
  obtain ⟨n, hn, hw⟩ := mask_of w
  have e1 : (valsI d).foldl (wvI w) 0 = (valsI d).foldl (wvI (hasB (n : Int))) 0 := foldl_congr_mem _ _ fun b a ha => by simp only [wvI, hw a (valsI_mem ha)]
  have e2 : (valsI d).all w = (valsI d).all (hasB (n : Int)) := by
    rw [Bool.eq_iff_iff, List.all_eq_true, List.all_eq_true]
    exact ⟨fun h x hx => by rw [hw x (valsI_mem hx)]; exact h x hx, fun h x hx => by rw [← hw x (valsI_mem hx)]; exact h x hx⟩
  have e3 : (valsI d).any w = (valsI d).any (hasB (n : Int)) := by
    rw [Bool.eq_iff_iff, List.any_eq_true, List.any_eq_true]
    exact ⟨fun ⟨x, hx, h⟩ => ⟨x, hx, by rw [hw x (valsI_mem hx)]; exact h⟩, fun ⟨x, hx, h⟩ => ⟨x, hx, by rw [← hw x (valsI_mem hx)]; exact h⟩⟩
  rw [e1, e2, e3]
  have key : ∀ i, i < 64 → ∀ n, n < 64 → (valsI ((i : Nat) : Int)).all (hasB ((n : Nat) : Int)) = decide ((valsI ((i : Nat) : Int)).foldl (wvI (hasB ((n : Nat) : Int))) 0 = ((i : Nat) : Int)) ∧
      (valsI ((i : Nat) : Int)).any (hasB ((n : Nat) : Int)) = decide ((valsI ((i : Nat) : Int)).foldl (wvI (hasB ((n : Nat) : Int))) 0 ≠ 0) ∧
      iand ((valsI ((i : Nat) : Int)).foldl (wvI (hasB ((n : Nat) : Int))) 0) ((i : Nat) : Int) = (valsI ((i : Nat) : Int)).foldl (wvI (hasB ((n : Nat) : Int))) 0 := by decide +kernel
  exact fin_nat (n := 64) (p := fun d => (valsI d).all (hasB ((n : Nat) : Int)) = decide ((valsI d).foldl (wvI (hasB ((n : Nat) : Int))) 0 = d) ∧ (valsI d).any (hasB ((n : Nat) : Int)) = decide ((valsI d).foldl (wvI (hasB ((n : Nat) : Int))) 0 ≠ 0) ∧
    iand ((valsI d).foldl (wvI (hasB ((n : Nat) : Int))) 0) d = (valsI d).foldl (wvI (hasB ((n : Nat) : Int))) 0) (fun i hi => key i hi n hn) hd.1 (by omega)
theorem fok_of {m : Mod} {fa : List Bool} (h1 : validModB m = true) (h2 : (fa.length : Int) = (m.doms.length : Int)) : fOkB m fa = true := by simp [fOkB, h1, h2]
theorem q_win {m : Mod} {fa : List Bool} (h : fOkB m fa = true) : qtrueB m fa = (if fa.getD 0 false = true then (valsI (m.doms.getD 0 0)).all (fun v => winB m fa (m.doms.length - 1) [v]) else (valsI (m.doms.getD 0 0)).any (fun v => winB m fa (m.doms.length - 1) [v])) := by
  have hn := (fok h).1.n
  obtain ⟨k, hk⟩ : ∃ k, m.doms.length = k + 1 := ⟨m.doms.length - 1, by omega⟩
  unfold qtrueB
  rw [h, hk]
  simp only [Bool.true_and, Nat.add_sub_cancel]
  rw [winB]; simp
theorem wvalI_ok {m : Mod} {fa : List Bool} (h : fOkB m fa = true) : wvalI m fa = (valsI (m.doms.getD 0 0)).foldl (wvI (fun v => winB m fa (m.doms.length - 1) [v])) 0 := if_pos h
theorem wlaw_T {m : Mod} {fa : List Bool} (h : fOkB m fa = true) (c : fa.getD 0 false = true) : (qtrueB m fa == decide (wvalI m fa = m.doms.getD 0 0)) = true := by
  have hs := fok h
  rw [q_win h, if_pos c, wvalI_ok h, (wv_laws (hs.1.d (by have := hs.1.n; omega)) _).1]; simp
theorem wlaw_F {m : Mod} {fa : List Bool} (h : fOkB m fa = true) (c : fa.getD 0 false = false) : (decide (iand (wvalI m fa) (m.doms.getD 0 0) = wvalI m fa) && (qtrueB m fa == decide (wvalI m fa ≠ 0))) = true := by
  have hs := fok h
  have hw := wv_laws (hs.1.d (by have := hs.1.n; omega : 0 < m.doms.length)) (fun v => winB m fa (m.doms.length - 1) [v])
  rw [q_win h, if_neg (by rw [c]; simp), wvalI_ok h, hw.2.1, hw.2.2]; simp
/-! A winning value keeps the formula true. -/
def domVI (d : Int) : List Int := if withinB d 0 63 = true then valsI d else []
def dhasB (d v : Int) : Bool := (withinB d 0 63 && withinB v 0 5) && hasB d v
theorem domVI_mem {d v : Int} (h : v ∈ domVI d) : 0 ≤ v ∧ v ≤ 5 := by
  unfold domVI at h
  split at h
  · exact valsI_mem h
  · cases h
theorem domVI_at {d : Int} {k : Nat} (h : (k : Int) < ((domVI d).length : Int)) : 0 ≤ (domVI d).getD k 0 ∧ (domVI d).getD k 0 ≤ 5 := domVI_mem (getD_mem (by omega))
theorem domVI_len (d : Int) : (domVI d).length ≤ 6 := by
  unfold domVI
  split
  · exact membersTo_len d 6
  · simp
theorem wv_has {d : Int} (hd : 0 ≤ d ∧ d ≤ 63) (w : Int → Bool) : (0 ≤ (valsI d).foldl (wvI w) 0 ∧ (valsI d).foldl (wvI w) 0 ≤ 63) ∧ ∀ v ∈ valsI d, hasB ((valsI d).foldl (wvI w) 0) v = w v := by
  obtain ⟨n, hn, hw⟩ := mask_of w
  have e1 : (valsI d).foldl (wvI w) 0 = (valsI d).foldl (wvI (hasB (n : Int))) 0 := foldl_congr_mem _ _ fun b a ha => by simp only [wvI, hw a (valsI_mem ha)]
  rw [e1]
  have key : ∀ i, i < 64 → ∀ n, n < 64 → (0 ≤ (valsI ((i : Nat) : Int)).foldl (wvI (hasB ((n : Nat) : Int))) 0 ∧ (valsI ((i : Nat) : Int)).foldl (wvI (hasB ((n : Nat) : Int))) 0 ≤ 63) ∧
      (valsI ((i : Nat) : Int)).all (fun v => hasB ((valsI ((i : Nat) : Int)).foldl (wvI (hasB ((n : Nat) : Int))) 0) v == hasB ((n : Nat) : Int) v) = true := by decide +kernel
  have := fin_nat (n := 64) (p := fun d => (0 ≤ (valsI d).foldl (wvI (hasB ((n : Nat) : Int))) 0 ∧ (valsI d).foldl (wvI (hasB ((n : Nat) : Int))) 0 ≤ 63) ∧
      (valsI d).all (fun v => hasB ((valsI d).foldl (wvI (hasB ((n : Nat) : Int))) 0) v == hasB ((n : Nat) : Int) v) = true) (fun i hi => key i hi n hn) hd.1 (by omega)
  refine ⟨this.1, fun v hv => ?_⟩
  have h2 := List.all_eq_true.1 this.2 v hv
  rw [← hw v (valsI_mem hv)]
  simpa using h2
theorem vals_shl {v : Int} (h : 0 ≤ v ∧ v ≤ 5) : valsI (ishl 1 v) = [v] := by
  have key : ∀ i, i < 6 → valsI (ishl 1 ((i : Nat) : Int)) = [((i : Nat) : Int)] := by decide +kernel
  exact fin_nat (n := 6) (p := fun v => valsI (ishl 1 v) = [v]) key h.1 (by omega)
theorem win_set {m : Mod} {fa : List Bool} {a : Int} : ∀ (j : Nat) (x : List Int), 1 ≤ x.length → winB ⟨m.doms.set 0 a, m.cons⟩ fa j x = winB m fa j x
  | 0, x, _ => rfl
  | j + 1, x, hx => by
    have e : (m.doms.set 0 a).getD x.length 0 = m.doms.getD x.length 0 := by
      simp only [List.getD_eq_getElem?_getD, List.getElem?_set]
      rw [if_neg (by omega)]
    have ih : ∀ v, winB ⟨m.doms.set 0 a, m.cons⟩ fa j (x ++ [v]) = winB m fa j (x ++ [v]) := fun v => win_set j (x ++ [v]) (by simp)
    simp only [winB, e, ih]
theorem fok_set {m : Mod} {fa : List Bool} {a : Int} (h : fOkB m fa = true) (ha : 0 ≤ a ∧ a ≤ 63) : fOkB ⟨m.doms.set 0 a, m.cons⟩ fa = true := by
  simp only [fOkB, validModB, domainsOkB, Bool.and_eq_true, allInB_iff, List.length_set] at h ⊢
  refine ⟨⟨⟨⟨h.1.1.1.1, fun x hx => ?_⟩, h.1.1.2⟩, h.1.2⟩, h.2⟩
  rcases List.mem_or_eq_of_mem_set hx with hx | hx
  · exact h.1.1.1.2 x hx
  · rw [hx]; exact ha
theorem wr_law {m : Mod} {fa : List Bool} {k : Nat} {ds : List Int} {v : Int} (h : fOkB m fa = true) (hk : k < (domVI (m.doms.getD 0 0)).length) (hv : v = (domVI (m.doms.getD 0 0)).getD k 0) (hds : ds = m.doms.set 0 (ishl 1 v)) :
    (qtrueB ⟨ds, m.cons⟩ fa != dhasB (wvalI m fa) v) = false := by
  have hs := fok h
  have hn := hs.1.n
  have hd := hs.1.d (by omega : 0 < m.doms.length)
  have hm : v ∈ domVI (m.doms.getD 0 0) := hv ▸ getD_mem hk
  have hv5 := domVI_mem hm
  have hmv : v ∈ valsI (m.doms.getD 0 0) := by
    unfold domVI at hm
    split at hm
    · exact hm
    · cases hm
  have hsl := shl_le hv5
  have hw := wv_has hd (fun v => winB m fa (m.doms.length - 1) [v])
  subst hds
  have h2 := fok_set (a := ishl 1 v) h (by omega)
  rw [q_win h2, wvalI_ok h]
  have e0 : ((m.doms.set 0 (ishl 1 v)).getD 0 0) = ishl 1 v := by
    simp only [List.getD_eq_getElem?_getD, List.getElem?_set]
    simp only [if_true]; rw [if_pos (by omega)]; rfl
  simp only [e0, vals_shl hv5, List.length_set]
  have e1 : winB ⟨m.doms.set 0 (ishl 1 v), m.cons⟩ fa (m.doms.length - 1) [v] = winB m fa (m.doms.length - 1) [v] := win_set _ _ (by simp)
  have e2 : dhasB ((valsI (m.doms.getD 0 0)).foldl (wvI (fun v => winB m fa (m.doms.length - 1) [v])) 0) v = winB m fa (m.doms.length - 1) [v] := by
    unfold dhasB
    rw [hw.2 v hmv, show withinB ((valsI (m.doms.getD 0 0)).foldl (wvI (fun v => winB m fa (m.doms.length - 1) [v])) 0) 0 63 = true from by rw [withinB_iff]; exact hw.1, show withinB v 0 5 = true from by rw [withinB_iff]; omega]
    simp
  rw [e2]
  simp only [List.all_cons, List.all_nil, List.any_cons, List.any_nil, Bool.and_true, Bool.or_false, e1]
  split <;> simp
end Go.Proofs.Ytiilanckbocifaa
