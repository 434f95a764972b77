/- One list of rows put behind another, the rows' blocks with it. Conditions: none. -/
import Derived.Test.YtiilanckbocifaaOrd
namespace Go.Proofs.Ytiilanckbocifaa
open Go
set_option linter.unusedSimpArgs false
set_option linter.unusedVariables false
theorem OwnS.rd {T n : Nat} {H : Hp} {v : Value} {cs : List Value} (h : OwnS T 1 H v n cs) : Rd H 1 v n cs := by
  obtain ⟨hl, hb, h3⟩ := h
  rcases h3 with ⟨a, rfl, rfl, rfl⟩ | ⟨b, c, cur, rfl, h1, h2, h4, h5, rfl⟩
  · have e : cs = [] := List.eq_nil_of_length_eq_zero (by simpa using hl)
    subst e
    exact ⟨a, 0, rfl, by simp, fun j u hj => by simp at hj⟩
  · refine ⟨some ⟨b, 0, none⟩, c, rfl, hl, fun j u hj => ⟨b, 0, cur, T, (0, 0), rfl, by simp, ?_⟩⟩
    have h6 : (cur.toList.take (n * 1))[j]? = some u := by rw [h5]; exact hj
    rw [List.getElem?_take] at h6
    split at h6
    · simpa using h6
    · cases h6
theorem Mat.app {A : Type} {enc : A → Value} {EH E : Nat} {H K H2 K2 H' : Hp} {v v2 v' : Value} {us us2 : List Value} {xss ys : List (List A)} (h : Mat EH E enc H K v us xss) (g : Mat EH E enc H2 K2 v2 us2 ys) (ho : OwnS EH 1 H' v' (xss.length + ys.length) (us ++ us2)) (ap : Apart K K2) :
    Mat EH E enc H' (orHp K K2) v' (us ++ us2) (xss ++ ys) := by
  obtain ⟨bs, h1, h2, h3⟩ := h.bs
  obtain ⟨bt, g1, g2, g3⟩ := g.bs
  have hul := h.ulen
  have k1 : ∀ i, i < xss.length → K (bs.getD i 0) ≠ none := fun i hi => by obtain ⟨c, cur, _, _, _, _, _, _, h9⟩ := h3 i hi; rw [h9]; simp
  have k2 : ∀ i, i < ys.length → K2 (bt.getD i 0) ≠ none := fun i hi => by obtain ⟨c, cur, _, _, _, _, _, _, h9⟩ := g3 i hi; rw [h9]; simp
  refine ⟨by rw [List.length_append]; exact ho, ⟨bs ++ bt, by simp [h1, g1], ?_, fun i hi => ?_⟩, fun q o hq => ?_⟩
  · rw [List.nodup_append]
    refine ⟨h2, g2, fun a ha b hb e => ?_⟩
    subst e
    obtain ⟨i, hi, rfl⟩ := List.getElem_of_mem ha
    obtain ⟨j, hj, e2⟩ := List.getElem_of_mem hb
    have n1 := k1 i (by omega)
    have n2 := k2 j (by omega)
    rw [List.getD_eq_getElem?_getD, List.getElem?_eq_getElem hi, Option.getD_some] at n1
    rw [List.getD_eq_getElem?_getD, List.getElem?_eq_getElem hj, Option.getD_some, e2] at n2
    exact (ap _).elim n1 n2
  · rw [List.length_append] at hi
    by_cases e : i < xss.length
    · have e1 : (bs ++ bt).getD i 0 = bs.getD i 0 := by simp [List.getD, List.getElem?_append, h1, e]
      have e2 : (xss ++ ys).getD i [] = xss.getD i [] := by simp [List.getD, List.getElem?_append, e]
      have e3 : (us ++ us2).getD i undef = us.getD i undef := by simp [List.getD, List.getElem?_append, hul, e]
      rw [e1, e2, e3]
      refine (h3 i e).mono ?_
      obtain ⟨c, cur, _, _, _, _, _, _, h9⟩ := h3 i e
      unfold orHp; rw [h9]; rfl
    · have e1 : (bs ++ bt).getD i 0 = bt.getD (i - xss.length) 0 := by simp [List.getD, List.getElem?_append, h1, e]
      have e2 : (xss ++ ys).getD i [] = ys.getD (i - xss.length) [] := by simp [List.getD, List.getElem?_append, e]
      have e3 : (us ++ us2).getD i undef = us2.getD (i - xss.length) undef := by simp [List.getD, List.getElem?_append, hul, e]
      rw [e1, e2, e3]
      refine (g3 (i - xss.length) (by omega)).mono ?_
      have n2 := k2 (i - xss.length) (by omega)
      unfold orHp; rw [(ap _).resolve_right n2]; rfl
  · unfold orHp at hq
    cases e : K q with
    | none => rw [e] at hq; exact g.lq q o (by simpa using hq)
    | some x => rw [e] at hq; exact h.lq q o (by rw [e]; simpa using hq)
theorem Mat.one {A : Type} {enc : A → Value} {EH E : Nat} {H Hr : Hp} {v u : Value} {r : List A} (o : OwnS EH 1 H v 1 [u]) (hr : OwnS E 1 Hr u r.length (r.map enc)) (h0 : 0 < r.length) (lr : Liq Hr) : Mat EH E enc H Hr v [u] [r] := by
  have h := Mat.push (Mat.nil (enc := enc) (E := E) (OwnS.nil (T := EH) (k := 1))) (H' := H) (v' := v) (by simpa using o) hr h0 lr (fun _ => .inl rfl)
  have e : orHp noHp Hr = Hr := by funext b; rfl
  rw [e] at h
  simpa using h
theorem OwnS.clip {E k n : Nat} {H : Hp} {v u : Value} {cs : List Value} (h : OwnS E k H v n cs) (hc : ClipV v u n) : OwnS E k H u n cs := by
  obtain ⟨h1, h2, h3⟩ := h
  obtain ⟨a, c, e, hle, rfl⟩ := hc
  refine ⟨h1, h2, ?_⟩
  rcases h3 with ⟨a0, rfl, h0, rfl⟩ | ⟨b, c', cur, rfl, g1, g2, g3, g4, rfl⟩
  · simp only [Value.slice.injEq] at e
    obtain ⟨rfl, e1, e2⟩ := e
    exact .inl ⟨a0, by rw [h0], h0, rfl⟩
  · simp only [Value.slice.injEq] at e
    obtain ⟨rfl, e1, e2⟩ := e
    exact .inr ⟨b, n, cur, rfl, Nat.le_refl _, Nat.le_trans g1 g2, Nat.le_trans (Nat.mul_le_mul_right _ g1) g3, g4, rfl⟩
theorem Mat.clip {A : Type} {enc : A → Value} {EH E : Nat} {H K : Hp} {v u : Value} {us : List Value} {xss : List (List A)} (h : Mat EH E enc H K v us xss) (hc : ClipV v u xss.length) : Mat EH E enc H K u us xss := ⟨h.hd.clip hc, h.bs, h.lq⟩
theorem kt_split {C : Cx} {ops : Array Oper} {Q : Post} {ims L : List Hp} {G : Env} {fx : Nat → Bool} {LS : List Hp} {fuel : Nat} {listed : Array Bool} (K H : Hp) {L' : List Hp} [t : TakeL [orHp K H] L L'] (ap : Apart K H) (h : KT C ops Q fx LS fuel listed ims (K :: H :: L') G) : KT C ops Q fx LS fuel listed ims L G := fun a w hf hs hdc =>
  h a w hf ((hs.perm t.t).split ap) hdc
theorem kt_mrg {C : Cx} {ops : Array Oper} {Q : Post} {ims L : List Hp} {G : Env} {fx : Nat → Bool} {LS : List Hp} {fuel : Nat} {listed : Array Bool} (K H : Hp) {L' : List Hp} [t : TakeL [K, H] L L'] (h : KT C ops Q fx LS fuel listed ims (orHp K H :: L') G) : KT C ops Q fx LS fuel listed ims L G := fun a w hf hs hdc =>
  h a w hf (hs.perm t.t).mrg hdc
theorem strI_rows {EH E : Nat} {H : Hp} {v : Value} {b : Bool} {xs : List (List Int)} (h : ∃ u : Value, v = .tuple #[u, .bool b] ∧ MatR EH E encI H u xs) : ∃ u : Value, v = .tuple #[u, .bool b] ∧ Rows H u xs := by
  obtain ⟨u, e, h⟩ := h; exact ⟨u, e, h.rows⟩
section ops
variable {C : Cx} {dr : Bool} {ops : Array Oper} {Q : Post} {ims L : List Hp} {G : Env} {fl : List Bool} {rest : List Oper} {d ty : Nat} {pos : String} {af : Array Edge}
/-- append of a whole list of rows: its header is read alone, its rows go over. -/
theorem kl_mtApp {A : Type} {enc : A → Value} {x y : Operand} {T EH E by' : Nat} {z : Value} [hT : IsSlice C.P T EH 1 by' z] {H K H2 K2 : Hp} {v v2 : Value} {us us2 : List Value} {xss ys : List (List A)} {F : Hp → List Hp} [hF : UpdF H L F] [hi : In H2 ims]
    (hx : ev G x = some v) (hy : ev G y = some v2) (hM : Mat EH E enc H K v us xss) (hN : Mat EH E enc H2 K2 v2 us2 ys) (ap : Apart K K2) (hb : xss.length + ys.length ≤ 1073741824) (hby : by' ≤ 1024)
    (h : ∀ v' H', Mat EH E enc H' (orHp K K2) v' (us ++ us2) (xss ++ ys) → (∀ B : World, Fr B H → B.heap.size ≤ C.B.heap.size → Fr B H') → KL C dr ops Q ims (F H') fl.tail rest ((d, v') :: G)) (hlt : Nat.blt d C.n = true := by rfl) (hfl : fl.headD false = false := by rfl) (hdr : (!dr || rest.isEmpty || C.lo) = true := by rfl) :
    KL C dr ops Q ims L fl (⟨some d, .call ⟨.builtin .append, #[x, y], #[T, T]⟩, ty, pos, af, none⟩ :: rest) G := by
  have one : ∀ u ∈ us2, u.oneCell' = true := fun u hu => by
    obtain ⟨i, hi', rfl⟩ := List.getElem_of_mem hu
    have hl := hN.ulen
    obtain ⟨bt, g1, g2, g3⟩ := hN.bs
    obtain ⟨c, cur, e, _⟩ := g3 i (by omega)
    have e2 : us2.getD i undef = us2[i] := by simp [List.getD, hi']
    rw [e2] at e; rw [e]; rfl
  exact kl_app hx hy hM.hd hN.hd.rd one hb hby (fun v' H' ho hf => h v' H' (Mat.app hM hN ho ap) hf) hlt hfl hdr
end ops
theorem BlkR.ints {E b : Nat} {K M : Hp} {xs : List Int} {u : Value} (h : BlkR E encI K b xs u) (hk : M b = K b) : Ints M u xs := by
  obtain ⟨c, cur, e, q2, q3, q4, q5, q6, q7⟩ := h
  refine ⟨some ⟨b, 0, none⟩, c, e, q2, q5, fun j hj => ⟨_, 0, rfl, [.int .i64 xs[j]], rfl, rfl, _, 0 + j * 1, cur, E, (0, 0), rfl, by rw [hk]; exact q7, fun q w hq => ?_⟩⟩
  cases q with
  | zero =>
    simp only [List.getElem?_cons_zero, Option.some.injEq] at hq
    subst hq
    have := enc_get (enc := encI) (d := 0) q6 hj
    have e3 : xs.getD j 0 = xs[j] := by simp [List.getD, hj]
    rw [e3] at this
    simpa [encI] using this
  | succ q => simp at hq
theorem Mat.irow {EH E : Nat} {H K : Hp} {v : Value} {us : List Value} {xss : List (List Int)} (h : Mat EH E encI H K v us xss) {i : Nat} (hi : i < xss.length) : Ints K (us.getD i undef) (xss.getD i []) := by
  obtain ⟨bs, h1, h2, h3⟩ := h.bs
  exact (h3 i hi).ints rfl
theorem Mat.two {A : Type} {enc : A → Value} {EH E : Nat} {H H1 H2 : Hp} {v u1 u2 : Value} {r1 r2 : List A} (o : OwnS EH 1 H v 2 [u1, u2]) (h1 : OwnS E 1 H1 u1 r1.length (r1.map enc)) (p1 : 0 < r1.length) (l1 : Liq H1)
    (h2 : OwnS E 1 H2 u2 r2.length (r2.map enc)) (p2 : 0 < r2.length) (l2 : Liq H2) (ap : Apart H1 H2) : Mat EH E enc H (orHp H1 H2) v [u1, u2] [r1, r2] := by
  obtain ⟨b1, hb1, n1⟩ := blk_of h1 p1
  obtain ⟨b2, hb2, n2⟩ := blk_of h2 p2
  have e1 : H2 b1 = none := (ap b1).resolve_left n1
  have e2 : H1 b2 = none := (ap b2).resolve_right n2
  refine ⟨o, ⟨[b1, b2], rfl, ?_, fun i hi => ?_⟩, fun q x hq => ?_⟩
  · simp only [List.nodup_cons, List.mem_singleton, List.not_mem_nil, not_false_eq_true, List.nodup_nil, and_true]
    intro e; rw [e] at n1; exact n1 e2
  · match i, hi with
    | 0, _ => exact hb1.mono (by unfold orHp; rw [e1]; cases H1 b1 <;> rfl)
    | 1, _ => exact hb2.mono (by unfold orHp; rw [e2]; rfl)
    | i + 2, hi => exact absurd hi (by simp)
  · unfold orHp at hq
    cases e : H1 q with
    | none => rw [e] at hq; exact l2 q x (by simpa using hq)
    | some y => rw [e] at hq; exact l1 q x (by rw [e]; simpa using hq)
theorem cells2 {u1 u2 : Value} (h1 : u1.cells = #[u1]) (h2 : u2.cells = #[u2]) : ∀ u ∈ [u1, u2], u.cells = #[u] := fun u h => by
  rcases List.mem_cons.1 h with e | h
  · rw [e]; exact h1
  · rw [List.mem_singleton.1 h]; exact h2
theorem St.orI {B : World} {X : Side} {ims L : List Hp} {w : World} {H K : Hp} (hH : H ∈ ims) (hK : K ∈ ims) (h : St B X ims L w) : St B X (orHp H K :: ims) L w := by
  have ap : ∀ b, orHp H K b ≠ none → H b ≠ none ∨ K b ≠ none := fun b hb => by
    unfold orHp at hb
    cases e : H b with
    | none => rw [e] at hb; exact .inr (by simpa using hb)
    | some x => exact .inl (by simp)
  refine h.still (fun b hb => ?_) (fun I hI => ?_) (fun O hO => ⟨(h.own O hO).1, (h.own O hO).2.1, fun I hI => ?_⟩) h.nd
  · rcases hb with ⟨O, hO, hb⟩ | ⟨hB, I, hI, hb⟩
    · exact .inl ⟨O, hO, hb⟩
    · rcases List.mem_cons.1 hI with rfl | hI
      · rcases ap b hb with e | e
        · exact .inr ⟨hB, H, hH, e⟩
        · exact .inr ⟨hB, K, hK, e⟩
      · exact .inr ⟨hB, I, hI, hb⟩
  · rcases List.mem_cons.1 hI with rfl | hI
    · exact agree_or (h.im H hH) (h.im K hK)
    · exact h.im I hI
  · rcases List.mem_cons.1 hI with rfl | hI
    · intro b
      have h1 := (h.own O hO).2.2 H hH b
      have h2 := (h.own O hO).2.2 K hK b
      by_cases e : O b = none
      · exact .inl e
      · right; unfold orHp; rw [h1.resolve_left e, h2.resolve_left e]; rfl
    · exact (h.own O hO).2.2 I hI
theorem kl_orI {C : Cx} {ops : Array Oper} {Q : Post} {ims L : List Hp} {G : Env} {fl : List Bool} {rest : List Oper} (H K : Hp) [i : In H ims] [j : In K ims] (h : KL C false ops Q (orHp H K :: ims) L fl rest G) (hlo : C.lo = false := by rfl) : KL C false ops Q ims L fl rest G := fun a w hf hs => by
  have h1 := h a w hf (hs.orI i.mem j.mem)
  refine wpSeq_false ?_ _ _ _ _ h1
  intro u hu
  rw [Cx.whi hlo] at hu ⊢; exact hu.orI i.mem j.mem
theorem kt_orI {C : Cx} {ops : Array Oper} {Q : Post} {ims L : List Hp} {G : Env} {fx : Nat → Bool} {LS : List Hp} {fuel : Nat} {listed : Array Bool} (H K : Hp) [i : In H ims] [j : In K ims] (h : KT C ops Q fx LS fuel listed (orHp H K :: ims) L G) : KT C ops Q fx LS fuel listed ims L G := fun a w hf hs hdc =>
  anyG_mono (fun _ hu => St.ims (i := allIn_low ⟨fun _ ha => .tail _ ha⟩) hu) _ _ _ _ (h a w hf (hs.orI i.mem j.mem) hdc)
theorem kc_apart {C : Cx} {Q : Post} {ims L : List Hp} {G : Env} {c : Code} (K H : Hp) {L' : List Hp} [t : TakeL [K, H] L L'] (h : Apart K H → KC C Q ims L c G) : KC C Q ims L c G := fun a w hf hs =>
  h ((List.pairwise_cons.1 (hs.perm t.t).nd).1 H (.head _)) a w hf hs
end Go.Proofs.Ytiilanckbocifaa
