/- Neighbours are symmetric; winning values decide the formula. No program in sight. Conditions: none. -/
import Derived.Test.YtooiagkfhhfojaaPureQ
namespace Go.Proofs.Ytooiagkfhhfojaa
open Go
set_option linter.unusedSimpArgs false
set_option linter.unusedVariables false
theorem grd4 {a b : Bool} {v n : Int} (h : (((a || !b) || decide (v < 0)) || decide (n ≤ v)) = false) : b = true ∧ 0 ≤ v ∧ v < n := by
  cases a <;> cases b <;> simp at h ⊢
  omega
theorem grd3 {a b : Bool} {p q : Int} (h : ((a || !b) || decide (p ≠ q)) = false) : b = true ∧ p = q := by
  cases a <;> cases b <;> simp at h ⊢
  exact h
theorem nbS_mem {m : Mod} {v : Int} (hm : validModB m = true) (hv : 0 ≤ v ∧ v < m.doms.length) {u : Nat} (hu : u < m.doms.length) : (nbI m v).contains (u : Int) = adjB m.cons (u : Int) v := by
  have hc : nbCS m v = false := by
    simp only [nbCS, Bool.or_eq_false_iff, Bool.not_eq_false', withinB_iff]
    exact ⟨hm, by omega⟩
  rw [nb_eq, nbS, if_neg (by rw [hc]; simp), Bool.eq_iff_iff, List.contains_iff_mem]
  simp only [nbTo, natsI, List.mem_map, List.mem_filter, List.mem_range]
  constructor
  · rintro ⟨i, ⟨h1, h2⟩, h3⟩
    have : i = u := by exact_mod_cast h3
    subst this; exact h2
  · intro h; exact ⟨u, ⟨hu, h⟩, rfl⟩
theorem nb_sym {m : Mod} {v : Int} (hm : validModB m = true) (hv : 0 ≤ v ∧ v < m.doms.length) {u : Nat} (hu : u < m.doms.length) : ((nbI m v).contains (u : Int) != (nbI m (u : Int)).contains v) = false := by
  obtain ⟨w, rfl⟩ := Int.eq_ofNat_of_zero_le hv.1
  have hw : w < m.doms.length := by omega
  rw [nbS_mem hm hv hu, nbS_mem hm (v := (u : Int)) (by omega) hw, adjB_comm]; simp
theorem nb_irr {m : Mod} {v : Int} (hm : validModB m = true) (hv : 0 ≤ v ∧ v < m.doms.length) : (!((nbI m v).contains v)) = true := by
  obtain ⟨w, rfl⟩ := Int.eq_ofNat_of_zero_le hv.1
  rw [nbS_mem hm hv (by omega : w < m.doms.length)]
  simp [adjB, joins]
/-! Winning values. -/
theorem wv_laws {d : Int} (hd : 0 ≤ d ∧ d ≤ 63) (w : Int → Bool) : (valsI d).all w = decide ((valsI d).foldl (wvI w) 0 = d) ∧ (valsI d).any w = decide ((valsI d).foldl (wvI w) 0 ≠ 0) ∧ iand ((valsI d).foldl (wvI w) 0) d = (valsI d).foldl (wvI w) 0 := by
  obtain ⟨n, hn, hw⟩ := mask_of w
  have e1 : (valsI d).foldl (wvI w) 0 = (valsI d).foldl (wvI (hasB (n : Int))) 0 := foldl_congr_mem _ _ fun b a ha => by simp only [wvI, hw a (valsI_mem ha)]
  have e2 : (valsI d).all w = (valsI d).all (hasB (n : Int)) := by
    rw [Bool.eq_iff_iff, List.all_eq_true, List.all_eq_true]
    exact ⟨fun h x hx => by rw [hw x (valsI_mem hx)]; exact h x hx, fun h x hx => by rw [← hw x (valsI_mem hx)]; exact h x hx⟩
  have e3 : (valsI d).any w = (valsI d).any (hasB (n : Int)) := by
    rw [Bool.eq_iff_iff, List.any_eq_true, List.any_eq_true]
    exact ⟨fun ⟨x, hx, h⟩ => ⟨x, hx, by rw [hw x (valsI_mem hx)]; exact h⟩, fun ⟨x, hx, h⟩ => ⟨x, hx, by rw [← hw x (valsI_mem hx)]; exact h⟩⟩
  rw [e1, e2, e3]
  have key : ∀ i, i < 64 → ∀ n, n < 64 → (valsI ((i : Nat) : Int)).all (hasB ((n : Nat) : Int)) = decide ((valsI ((i : Nat) : Int)).foldl (wvI (hasB ((n : Nat) : Int))) 0 = ((i : Nat) : Int)) ∧
      (valsI ((i : Nat) : Int)).any (hasB ((n : Nat) : Int)) = decide ((valsI ((i : Nat) : Int)).foldl (wvI (hasB ((n : Nat) : Int))) 0 ≠ 0) ∧
      iand ((valsI ((i : Nat) : Int)).foldl (wvI (hasB ((n : Nat) : Int))) 0) ((i : Nat) : Int) = (valsI ((i : Nat) : Int)).foldl (wvI (hasB ((n : Nat) : Int))) 0 := by decide +kernel
  exact fin_nat (n := 64) (p := fun d => (valsI d).all (hasB ((n : Nat) : Int)) = decide ((valsI d).foldl (wvI (hasB ((n : Nat) : Int))) 0 = d) ∧ (valsI d).any (hasB ((n : Nat) : Int)) = decide ((valsI d).foldl (wvI (hasB ((n : Nat) : Int))) 0 ≠ 0) ∧
    iand ((valsI d).foldl (wvI (hasB ((n : Nat) : Int))) 0) d = (valsI d).foldl (wvI (hasB ((n : Nat) : Int))) 0) (fun i hi => key i hi n hn) hd.1 (by omega)
theorem fok_of {m : Mod} {fa : List Bool} (h1 : validModB m = true) (h2 : (fa.length : Int) = (m.doms.length : Int)) : fOkB m fa = true := by simp [fOkB, h1, h2]
theorem q_win {m : Mod} {fa : List Bool} (h : fOkB m fa = true) : qtrueB m fa = (if fa.getD 0 false = true then (valsI (m.doms.getD 0 0)).all (fun v => winB m fa (m.doms.length - 1) [v]) else (valsI (m.doms.getD 0 0)).any (fun v => winB m fa (m.doms.length - 1) [v])) := by
  have hn := (fok h).1.n
  obtain ⟨k, hk⟩ : ∃ k, m.doms.length = k + 1 := ⟨m.doms.length - 1, by omega⟩
  unfold qtrueB
  rw [h, hk]
  simp only [Bool.true_and, Nat.add_sub_cancel]
  rw [winB]; simp
theorem wvalI_ok {m : Mod} {fa : List Bool} (h : fOkB m fa = true) : wvalI m fa = (valsI (m.doms.getD 0 0)).foldl (wvI (fun v => winB m fa (m.doms.length - 1) [v])) 0 := if_pos h
theorem wlaw_T {m : Mod} {fa : List Bool} (h : fOkB m fa = true) (c : fa.getD 0 false = true) : (qtrueB m fa == decide (wvalI m fa = m.doms.getD 0 0)) = true := by
  have hs := fok h
  rw [q_win h, if_pos c, wvalI_ok h, (wv_laws (hs.1.d (by have := hs.1.n; omega)) _).1]; simp
theorem wlaw_F {m : Mod} {fa : List Bool} (h : fOkB m fa = true) (c : fa.getD 0 false = false) : (decide (iand (wvalI m fa) (m.doms.getD 0 0) = wvalI m fa) && (qtrueB m fa == decide (wvalI m fa ≠ 0))) = true := by
  have hs := fok h
  have hw := wv_laws (hs.1.d (by have := hs.1.n; omega : 0 < m.doms.length)) (fun v => winB m fa (m.doms.length - 1) [v])
  rw [q_win h, if_neg (by rw [c]; simp), wvalI_ok h, hw.2.1, hw.2.2]; simp
end Go.Proofs.Ytooiagkfhhfojaa
