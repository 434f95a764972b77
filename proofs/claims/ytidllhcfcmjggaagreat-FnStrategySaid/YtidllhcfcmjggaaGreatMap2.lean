/- One list of rows put behind another, the rows' blocks with it. Conditions: none. -/
import Derived.Test.YtidllhcfcmjggaaGreatOrd
namespace Go.Proofs.YtidllhcfcmjggaaGreat
open Go
set_option linter.unusedSimpArgs false
set_option linter.unusedVariables false
theorem OwnS.rd {T n : Nat} {H : Hp} {v : Value} {cs : List Value} (h : OwnS T 1 H v n cs) : Rd H 1 v n cs := by
  obtain ⟨hl, hb, h3⟩ := h
  rcases h3 with ⟨a, rfl, rfl, rfl⟩ | ⟨b, c, cur, rfl, h1, h2, h4, h5, rfl⟩
  · have e : cs = [] := List.eq_nil_of_length_eq_zero (by simpa using hl)
    subst e
    exact ⟨a, 0, rfl, by simp, fun j u hj => by simp at hj⟩
  · refine ⟨some ⟨b, 0, none⟩, c, rfl, hl, fun j u hj => ⟨b, 0, cur, T, (0, 0), rfl, by simp, ?_⟩⟩
    have h6 : (cur.toList.take (n * 1))[j]? = some u := by rw [h5]; exact hj
    rw [List.getElem?_take] at h6
    split at h6
    · simpa using h6
    · cases h6
theorem Mat.app {A : Type} {enc : A → Value} {EH E : Nat} {H K H2 K2 H' : Hp} {v v2 v' : Value} {us us2 : List Value} {xss ys : List (List A)} (h : Mat EH E enc H K v us xss) (g : Mat EH E enc H2 K2 v2 us2 ys) (ho : OwnS EH 1 H' v' (xss.length + ys.length) (us ++ us2)) (ap : Apart K K2) :
    Mat EH E enc H' (orHp K K2) v' (us ++ us2) (xss ++ ys) := by
  obtain ⟨bs, h1, h2, h3⟩ := h.bs
  obtain ⟨bt, g1, g2, g3⟩ := g.bs
  have hul := h.ulen
  have k1 : ∀ i, i < xss.length → K (bs.getD i 0) ≠ none := fun i hi => by obtain ⟨c, cur, _, _, _, _, _, _, h9⟩ := h3 i hi; rw [h9]; simp
  have k2 : ∀ i, i < ys.length → K2 (bt.getD i 0) ≠ none := fun i hi => by obtain ⟨c, cur, _, _, _, _, _, _, h9⟩ := g3 i hi; rw [h9]; simp
  refine ⟨by rw [List.length_append]; exact ho, ⟨bs ++ bt, by simp [h1, g1], ?_, fun i hi => ?_⟩, fun q o hq => ?_⟩
  · rw [List.nodup_append]
    refine ⟨h2, g2, fun a ha b hb e => ?_⟩
    subst e
    obtain ⟨i, hi, rfl⟩ := List.getElem_of_mem ha
    obtain ⟨j, hj, e2⟩ := List.getElem_of_mem hb
    have n1 := k1 i (by omega)
    have n2 := k2 j (by omega)
    rw [List.getD_eq_getElem?_getD, List.getElem?_eq_getElem hi, Option.getD_some] at n1
    rw [List.getD_eq_getElem?_getD, List.getElem?_eq_getElem hj, Option.getD_some, e2] at n2
    exact (ap _).elim n1 n2
  · rw [List.length_append] at hi
    by_cases e : i < xss.length
    · have e1 : (bs ++ bt).getD i 0 = bs.getD i 0 := by simp [List.getD, List.getElem?_append, h1, e]
      have e2 : (xss ++ ys).getD i [] = xss.getD i [] := by simp [List.getD, List.getElem?_append, e]
      have e3 : (us ++ us2).getD i undef = us.getD i undef := by simp [List.getD, List.getElem?_append, hul, e]
      rw [e1, e2, e3]
      refine (h3 i e).mono ?_
      obtain ⟨c, cur, _, _, _, _, _, _, h9⟩ := h3 i e
      unfold orHp; rw [h9]; rfl
    · have e1 : (bs ++ bt).getD i 0 = bt.getD (i - xss.length) 0 := by simp [List.getD, List.getElem?_append, h1, e]
      have e2 : (xss ++ ys).getD i [] = ys.getD (i - xss.length) [] := by simp [List.getD, List.getElem?_append, e]
      have e3 : (us ++ us2).getD i undef = us2.getD (i - xss.length) undef := by simp [List.getD, List.getElem?_append, hul, e]
      rw [e1, e2, e3]
      refine (g3 (i - xss.length) (by omega)).mono ?_
      have n2 := k2 (i - xss.length) (by omega)
      unfold orHp; rw [(ap _).resolve_right n2]; rfl
  · unfold orHp at hq
    cases e : K q with
    | none => rw [e] at hq; exact g.lq q o (by simpa using hq)
    | some x => rw [e] at hq; exact h.lq q o (by rw [e]; simpa using hq)
theorem Mat.one {A : Type} {enc : A → Value} {EH E : Nat} {H Hr : Hp} {v u : Value} {r : List A} (o : OwnS EH 1 H v 1 [u]) (hr : OwnS E 1 Hr u r.length (r.map enc)) (h0 : 0 < r.length) (lr : Liq Hr) : Mat EH E enc H Hr v [u] [r] := by
  have h := Mat.push (Mat.nil (enc := enc) (E := E) (OwnS.nil (T := EH) (k := 1))) (H' := H) (v' := v) (by simpa using o) hr h0 lr (fun _ => .inl rfl)
  have e : orHp noHp Hr = Hr := by funext b; rfl
  rw [e] at h
  simpa using h
theorem OwnS.clip {E k n : Nat} {H : Hp} {v u : Value} {cs : List Value} (h : OwnS E k H v n cs) (hc : ClipV v u n) : OwnS E k H u n cs := by
  obtain ⟨h1, h2, h3⟩ := h
  obtain ⟨a, c, e, hle, rfl⟩ := hc
  refine ⟨h1, h2, ?_⟩
  rcases h3 with ⟨a0, rfl, h0, rfl⟩ | ⟨b, c', cur, rfl, g1, g2, g3, g4, rfl⟩
  · simp only [Value.slice.injEq] at e
    obtain ⟨rfl, e1, e2⟩ := e
    exact .inl ⟨a0, by rw [h0], h0, rfl⟩
  · simp only [Value.slice.injEq] at e
    obtain ⟨rfl, e1, e2⟩ := e
    exact .inr ⟨b, n, cur, rfl, Nat.le_refl _, Nat.le_trans g1 g2, Nat.le_trans (Nat.mul_le_mul_right _ g1) g3, g4, rfl⟩
theorem Mat.clip {A : Type} {enc : A → Value} {EH E : Nat} {H K : Hp} {v u : Value} {us : List Value} {xss : List (List A)} (h : Mat EH E enc H K v us xss) (hc : ClipV v u xss.length) : Mat EH E enc H K u us xss := ⟨h.hd.clip hc, h.bs, h.lq⟩
theorem kt_split {C : Cx} {ops : Array Oper} {Q : Post} {ims L : List Hp} {G : Env} {fx : Nat → Bool} {LS : List Hp} {fuel : Nat} {listed : Array Bool} (K H : Hp) {L' : List Hp} [t : TakeL [orHp K H] L L'] (ap : Apart K H) (h : KT C ops Q fx LS fuel listed ims (K :: H :: L') G) : KT C ops Q fx LS fuel listed ims L G := fun a w hf hs hdc =>
  h a w hf ((hs.perm t.t).split ap) hdc
theorem kt_mrg {C : Cx} {ops : Array Oper} {Q : Post} {ims L : List Hp} {G : Env} {fx : Nat → Bool} {LS : List Hp} {fuel : Nat} {listed : Array Bool} (K H : Hp) {L' : List Hp} [t : TakeL [K, H] L L'] (h : KT C ops Q fx LS fuel listed ims (orHp K H :: L') G) : KT C ops Q fx LS fuel listed ims L G := fun a w hf hs hdc =>
  h a w hf (hs.perm t.t).mrg hdc
theorem strI_rows {EH E : Nat} {H : Hp} {v : Value} {b : Bool} {xs : List (List Int)} (h : ∃ u : Value, v = .tuple #[u, .bool b] ∧ MatR EH E encI H u xs) : ∃ u : Value, v = .tuple #[u, .bool b] ∧ Rows H u xs := by
  obtain ⟨u, e, h⟩ := h; exact ⟨u, e, h.rows⟩
section ops
variable {C : Cx} {dr : Bool} {ops : Array Oper} {Q : Post} {ims L : List Hp} {G : Env} {fl : List Bool} {rest : List Oper} {d ty : Nat} {pos : String} {af : Array Edge}
/-- append of a whole list of rows: its header is read alone, its rows go over. -/
theorem kl_mtApp {A : Type} {enc : A → Value} {x y : Operand} {T EH E by' : Nat} {z : Value} [hT : IsSlice C.P T EH 1 by' z] {H K H2 K2 : Hp} {v v2 : Value} {us us2 : List Value} {xss ys : List (List A)} {F : Hp → List Hp} [hF : UpdF H L F] [hi : In H2 ims]
    (hx : ev G x = some v) (hy : ev G y = some v2) (hM : Mat EH E enc H K v us xss) (hN : Mat EH E enc H2 K2 v2 us2 ys) (ap : Apart K K2) (hb : xss.length + ys.length ≤ 1073741824) (hby : by' ≤ 1024)
    (h : ∀ v' H', Mat EH E enc H' (orHp K K2) v' (us ++ us2) (xss ++ ys) → (∀ B : World, Fr B H → B.heap.size ≤ C.B.heap.size → Fr B H') → KL C dr ops Q ims (F H') fl.tail rest ((d, v') :: G)) (hlt : Nat.blt d C.n = true := by rfl) (hfl : fl.headD false = false := by rfl) (hdr : (!dr || rest.isEmpty || C.lo) = true := by rfl) :
    KL C dr ops Q ims L fl (⟨some d, .call ⟨.builtin .append, #[x, y], #[T, T]⟩, ty, pos, af, none⟩ :: rest) G := by
  have one : ∀ u ∈ us2, u.oneCell' = true := fun u hu => by
    obtain ⟨i, hi', rfl⟩ := List.getElem_of_mem hu
    have hl := hN.ulen
    obtain ⟨bt, g1, g2, g3⟩ := hN.bs
    obtain ⟨c, cur, e, _⟩ := g3 i (by omega)
    have e2 : us2.getD i undef = us2[i] := by simp [List.getD, hi']
    rw [e2] at e; rw [e]; rfl
  exact kl_app hx hy hM.hd hN.hd.rd one hb hby (fun v' H' ho hf => h v' H' (Mat.app hM hN ho ap) hf) hlt hfl hdr
end ops
end Go.Proofs.YtidllhcfcmjggaaGreat
