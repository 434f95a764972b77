/- A list of constraints whose parts lie in blocks of their own. Conditions: none. -/
import Derived.Test.YtiilanckbocifaaMap2
import Derived.Test.YtiilanckbocifaaMkm
namespace Go.Proofs.Ytiilanckbocifaa
open Go
set_option linter.unusedSimpArgs false
set_option linter.unusedVariables false
/-! Heaplets side by side. -/
theorem orHp_assoc (A B C : Hp) : orHp (orHp A B) C = orHp A (orHp B C) := by
  funext b; unfold orHp; cases A b <;> rfl
theorem orHp_no (A : Hp) : orHp A noHp = A := by
  funext b; unfold orHp; cases A b <;> rfl
theorem no_orHp (A : Hp) : orHp noHp A = A := by funext b; rfl
theorem apart_symm {A B : Hp} (h : Apart A B) : Apart B A := fun b => (h b).symm
theorem orHp_comm {A B : Hp} (h : Apart A B) : orHp A B = orHp B A := by
  funext b; unfold orHp
  rcases h b with e | e
  · rw [e]; cases B b <;> rfl
  · rw [e]; cases A b <;> rfl
theorem orHp_swap {A B C : Hp} (h : Apart A B) : orHp A (orHp B C) = orHp B (orHp A C) := by
  rw [← orHp_assoc, orHp_comm h, orHp_assoc]
theorem apart_or {A B C : Hp} : Apart A (orHp B C) ↔ Apart A B ∧ Apart A C := by
  constructor
  · intro h
    refine ⟨fun b => ?_, fun b => ?_⟩
    · rcases h b with e | e
      · exact .inl e
      · unfold orHp at e; right; cases e2 : B b with
        | none => rfl
        | some x => rw [e2] at e; cases e
    · rcases h b with e | e
      · exact .inl e
      · unfold orHp at e; right; cases e2 : B b with
        | none => rw [e2] at e; simpa using e
        | some x => rw [e2] at e; cases e
  · rintro ⟨h1, h2⟩ b
    rcases h1 b with e | e
    · exact .inl e
    · rcases h2 b with e2 | e2
      · exact .inl e2
      · right; unfold orHp; rw [e, e2]; rfl
theorem apart_orL {A B C : Hp} : Apart (orHp B C) A ↔ Apart B A ∧ Apart C A :=
  ⟨fun h => let g := apart_or.1 (apart_symm h); ⟨apart_symm g.1, apart_symm g.2⟩, fun h => apart_symm (apart_or.2 ⟨apart_symm h.1, apart_symm h.2⟩)⟩
theorem apart_no (A : Hp) : Apart A noHp := fun _ => .inr rfl
/-! Constraints as they lie in the header. -/
structure RawC where
  kind : Int
  va : Value
  vb : Value
  bound : Int
  vr : Value
def nilRaw : RawC := ⟨0, undef, undef, 0, undef⟩
def RawV (H : Hp) (vs : List Value) (r : RawC) : Prop := vs = [.int .i64 r.kind, r.va, r.vb, .int .i64 r.bound, r.vr]
/-- The parts of one constraint: its variables, its numbers, its rows (heads and blocks). -/
structure Pc4 (EH E : Nat) (Hv Ha Hh Hk : Hp) (us : List Value) (r : RawC) (c : Con) : Prop where
  a1 : Apart Hv (orHp Ha (orHp Hh Hk))
  a2 : Apart Ha (orHp Hh Hk)
  a3 : Apart Hh Hk
  iv : Ints Hv r.va c.vars
  lv : Liq Hv
  ia : Ints Ha r.vb c.args
  la : Liq Ha
  mr : Mat EH E encI Hh Hk r.vr us c.rows
  ek : r.kind = c.kind
  eb : r.bound = c.bound
def Pc (EH E : Nat) (P : Hp) (r : RawC) (c : Con) : Prop := ∃ (Hv Ha Hh Hk : Hp) (us : List Value), P = orHp Hv (orHp Ha (orHp Hh Hk)) ∧ Pc4 EH E Hv Ha Hh Hk us r c
def uniHp : List Hp → Hp
  | [] => noHp
  | P :: Ps => orHp P (uniHp Ps)
theorem apart_uni {A : Hp} : ∀ {Ps : List Hp}, Apart A (uniHp Ps) ↔ ∀ Q ∈ Ps, Apart A Q
  | [] => ⟨fun _ _ h => (by cases h), fun _ => apart_no A⟩
  | P :: Ps => by
    rw [uniHp, apart_or, apart_uni (Ps := Ps)]
    constructor
    · rintro ⟨h1, h2⟩ Q hQ
      rcases List.mem_cons.1 hQ with rfl | hQ
      · exact h1
      · exact h2 Q hQ
    · intro h; exact ⟨h P (.head _), fun Q hQ => h Q (.tail _ hQ)⟩
def Scs (EH E : Nat) : List Hp → List RawC → List Con → Prop
  | [], [], [] => True
  | P :: Ps, r :: rs, c :: cs => Pc EH E P r c ∧ Scs EH E Ps rs cs ∧ Apart P (uniHp Ps)
  | _, _, _ => False
def SepCs (EH E : Nat) (K : Hp) (raws : List RawC) (cs : List Con) : Prop := ∃ Ps, K = uniHp Ps ∧ Scs EH E Ps raws cs
theorem Scs.len {EH E : Nat} : ∀ {Ps : List Hp} {rs : List RawC} {cs : List Con}, Scs EH E Ps rs cs → rs.length = cs.length
  | [], [], [], _ => rfl
  | P :: Ps, r :: rs, c :: cs, h => by simp only [List.length_cons]; rw [h.2.1.len]
  | [], [], _ :: _, h => h.elim
  | [], _ :: _, _, h => h.elim
  | _ :: _, [], _, h => h.elim
  | _ :: _, _ :: _, [], h => h.elim
theorem SepCs.len {EH E : Nat} {K : Hp} {rs : List RawC} {cs : List Con} (h : SepCs EH E K rs cs) : rs.length = cs.length := by obtain ⟨Ps, _, h⟩ := h; exact h.len
theorem SepCs.nil {EH E : Nat} : SepCs EH E noHp [] [] := ⟨[], rfl, trivial⟩
/-- One constraint alone, the others beside it. -/
theorem SepCs.split {EH E : Nat} : ∀ {i : Nat} {K : Hp} {rs : List RawC} {cs : List Con}, SepCs EH E K rs cs → i < cs.length →
    ∃ Pi Ki, K = orHp Pi Ki ∧ Apart Pi Ki ∧ Pc EH E Pi (rs.getD i nilRaw) (cs.getD i nilCon) ∧
      ∀ P' r' c', Apart P' Ki → Pc EH E P' r' c' → SepCs EH E (orHp P' Ki) (rs.set i r') (cs.set i c')
  | i, K, rs, [], h, hi => absurd hi (Nat.not_lt_zero _)
  | i, K, [], c :: cs, h, hi => by have := h.len; simp at this
  | 0, K, r :: rs, c :: cs, h, _ => by
    obtain ⟨Ps, rfl, h⟩ := h
    match Ps, h with
    | P :: Ps, h =>
      exact ⟨P, uniHp Ps, rfl, h.2.2, h.1, fun P' r' c' ap hp => ⟨P' :: Ps, rfl, hp, h.2.1, ap⟩⟩
  | i + 1, K, r :: rs, c :: cs, h, hi => by
    obtain ⟨Ps, rfl, h⟩ := h
    match Ps, h with
    | P :: Ps, h =>
      obtain ⟨Pi, Ki, e, ap, hp, back⟩ := SepCs.split (i := i) (K := uniHp Ps) ⟨Ps, rfl, h.2.1⟩ (by simpa using hi)
      have hP := h.2.2
      rw [e, apart_or] at hP
      refine ⟨Pi, orHp P Ki, ?_, apart_or.2 ⟨apart_symm hP.1, ap⟩, by simpa using hp, fun P' r' c' ap' hp' => ?_⟩
      · rw [uniHp, e, orHp_swap hP.1]
      · obtain ⟨ap1, ap2⟩ := apart_or.1 ap'
        obtain ⟨Ps', e', h'⟩ := back P' r' c' ap2 hp'
        refine ⟨P :: Ps', ?_, h.1, h', ?_⟩
        · rw [uniHp, ← e', orHp_swap ap1]
        · rw [← e']; exact apart_or.2 ⟨apart_symm ap1, hP.2⟩
theorem SepCs.snoc {EH E : Nat} {K P : Hp} {rs : List RawC} {cs : List Con} {r : RawC} {c : Con} (h : SepCs EH E K rs cs) (hp : Pc EH E P r c) (ap : Apart K P) : SepCs EH E (orHp K P) (rs ++ [r]) (cs ++ [c]) := by
  obtain ⟨Ps, rfl, h⟩ := h
  induction Ps generalizing rs cs with
  | nil =>
    match rs, cs, h with
    | [], [], _ => exact ⟨[P], by rw [uniHp, uniHp, uniHp, no_orHp, orHp_no], hp, trivial, apart_no _⟩
  | cons Q Ps ih =>
    match rs, cs, h with
    | r0 :: rs, c0 :: cs, h =>
      obtain ⟨a1, a2⟩ := apart_orL.1 ap
      obtain ⟨Ps', e, h'⟩ := ih h.2.1 a2
      exact ⟨Q :: Ps', by rw [uniHp, uniHp, ← e, orHp_assoc], h.1, h', by rw [← e]; exact apart_or.2 ⟨h.2.2, a1⟩⟩
theorem Pc.con {EH E : Nat} {P : Hp} {r : RawC} {c : Con} (h : Pc EH E P r c) : ConV P [.int .i64 r.kind, r.va, r.vb, .int .i64 r.bound, r.vr] c := by
  obtain ⟨Hv, Ha, Hh, Hk, us, rfl, q⟩ := h
  have i1 : ∀ b o, Ha b = some o → orHp Hv (orHp Ha (orHp Hh Hk)) b = some o := fun b o h => by
    rw [orHp_swap (apart_or.1 q.a1).1]; exact orL b o h
  have i2 : ∀ b o, orHp Hh Hk b = some o → orHp Hv (orHp Ha (orHp Hh Hk)) b = some o := fun b o h => by
    rw [← orHp_assoc, orHp_comm (apart_orL.2 ⟨(apart_or.1 q.a1).2, q.a2⟩)]; exact orL b o h
  refine ⟨_, _, _, by rw [q.ek, q.eb], Sl.mono q.iv orL (fun _ _ h => h), Sl.mono q.ia i1 (fun _ _ h => h), q.mr.rows (fun b o h => i2 b o (orL b o h)) (fun b o h => i2 b o ?_)⟩
  rw [orHp_comm q.a3]; exact orL b o h
theorem SepCs.at {EH E : Nat} {K : Hp} {rs : List RawC} {cs : List Con} (h : SepCs EH E K rs cs) {i : Nat} (hi : i < cs.length) : ConV K [.int .i64 (rs.getD i nilRaw).kind, (rs.getD i nilRaw).va, (rs.getD i nilRaw).vb, .int .i64 (rs.getD i nilRaw).bound, (rs.getD i nilRaw).vr] (cs.getD i nilCon) := by
  obtain ⟨Pi, Ki, e, _, hp, _⟩ := h.split hi
  rw [e]
  obtain ⟨a, b, r, e1, h1, h2, h3⟩ := hp.con
  exact ⟨a, b, r, e1, Sl.mono h1 orL (fun _ _ h => h), Sl.mono h2 orL (fun _ _ h => h), Rows.mono' h3 orL⟩
/-- Read as a list of constraints. -/
theorem SepCs.own {EH E EC : Nat} {Hc K : Hp} {v : Value} {rs : List RawC} {cs : List Con} (h : SepCs EH E K rs cs) (o : OwnL EC 5 Hc noHp RawV v rs) : OwnL EC 5 Hc K ConV v cs := by
  obtain ⟨cells, h1, h2⟩ := o
  have hl := h.len
  refine ⟨cells, by rw [← hl]; exact h1, fun i hi => ?_⟩
  have h3 := h2 i (by omega)
  unfold RawV at h3
  rw [h3]
  have h4 := h.at hi
  have e1 : rs.getD i nilRaw = rs[i]'(by omega) := by simp [List.getD_eq_getElem?_getD, show i < rs.length by omega]
  have e2 : cs.getD i nilCon = cs[i] := by simp [List.getD_eq_getElem?_getD, hi]
  rw [e1, e2] at h4
  exact h4
/-! The header's cells. -/
theorem raw_cell {EC : Nat} {Hc : Hp} {v : Value} {rs : List RawC} (o : OwnL EC 5 Hc noHp RawV v rs) : ∃ cells, OwnS EC 5 Hc v rs.length cells ∧ ∀ i, i < rs.length → ∀ j, j < 5 → cells[i * 5 + j]? = [.int .i64 (rs.getD i nilRaw).kind, (rs.getD i nilRaw).va, (rs.getD i nilRaw).vb, .int .i64 (rs.getD i nilRaw).bound, (rs.getD i nilRaw).vr][j]? := by
  obtain ⟨cells, h1, h2⟩ := o
  refine ⟨cells, h1, fun i hi j hj => ?_⟩
  have h3 := h2 i hi
  unfold RawV at h3
  have e1 : rs.getD i nilRaw = rs[i] := by simp [List.getD_eq_getElem?_getD, hi]
  rw [e1, ← h3, List.getElem?_take, if_pos hj, List.getElem?_drop]
section ops
variable {C : Cx} {dr : Bool} {ops : Array Oper} {Q : Post} {ims L : List Hp} {G : Env} {fl : List Bool} {rest : List Oper} {d ty : Nat} {pos : String} {af : Array Edge}
theorem kl_fdR {v p : Value} {i : Nat} {x : Operand} {T f off : Nat} [hF : FieldC C.P T f off] (hx : ev G x = some p) (hp : PtrL 5 v p i)
    (h : ∀ p', PtrO v p' (i * 5 + off) → KL C dr ops Q ims L fl.tail rest ((d, p') :: G)) (hlt : Nat.blt d C.n = true := by rfl) : KL C dr ops Q ims L fl (⟨some d, .fieldAddr T x f, ty, pos, af, none⟩ :: rest) G := by
  obtain ⟨b, n, c, rfl, rfl⟩ := hp
  exact kl_fdV hx (h _ ⟨b, n, c, rfl, rfl⟩) hlt
theorem kl_ldF {EC i j : Nat} {Hc : Hp} {v p u : Value} {rs : List RawC} {x : Operand} {T : Nat} [hT : OneC C.P T] (hx : ev G x = some p) (o : OwnL EC 5 Hc noHp RawV v rs) (hp : PtrO v p (i * 5 + j)) [hi : In Hc L] (hc : i < rs.length) (hj : j < 5)
    (hu : [Value.int .i64 (rs.getD i nilRaw).kind, (rs.getD i nilRaw).va, (rs.getD i nilRaw).vb, .int .i64 (rs.getD i nilRaw).bound, (rs.getD i nilRaw).vr][j]? = some u)
    (h : KL C dr ops Q ims L fl.tail rest ((d, u) :: G)) (hlt : Nat.blt d C.n = true := by rfl) (hlo : C.lo = false := by rfl) : KL C dr ops Q ims L fl (⟨some d, .load T x, ty, pos, af, none⟩ :: rest) G := by
  obtain ⟨cells, h1, h2⟩ := raw_cell o
  exact kl_ldO hx hp h1 ((h2 i hc j hj).trans hu) h hlt hlo
theorem raw_set {EC : Nat} {v : Value} {rs : List RawC} {cells : List Value} {i j : Nat} {u : Value} {r' : RawC} (hl : cells.length = rs.length * 5) (hc : ∀ i, i < rs.length → ∀ j, j < 5 → cells[i * 5 + j]? = [Value.int .i64 (rs.getD i nilRaw).kind, (rs.getD i nilRaw).va, (rs.getD i nilRaw).vb, .int .i64 (rs.getD i nilRaw).bound, (rs.getD i nilRaw).vr][j]?) (hi : i < rs.length) (hj : j < 5)
    (hr : [Value.int .i64 r'.kind, r'.va, r'.vb, .int .i64 r'.bound, r'.vr] = [Value.int .i64 (rs.getD i nilRaw).kind, (rs.getD i nilRaw).va, (rs.getD i nilRaw).vb, .int .i64 (rs.getD i nilRaw).bound, (rs.getD i nilRaw).vr].set j u) :
    ∀ q (h : q < (rs.set i r').length), RawV noHp (((cells.set (i * 5 + j) u).drop (q * 5)).take 5) (rs.set i r')[q] := fun q hq => by
  have hq' : q < rs.length := by simpa using hq
  unfold RawV
  apply List.ext_getElem?
  intro t
  rw [List.getElem?_take, List.getElem?_drop]
  by_cases ht : t < 5
  · rw [if_pos ht, List.getElem?_set]
    by_cases e : i = q
    · subst e
      simp only [List.getElem_set_self]
      rw [hr, List.getElem?_set]
      by_cases e2 : j = t
      · subst e2; rw [if_pos rfl, if_pos (by omega), if_pos rfl, if_pos (by simpa using hj)]
      · rw [if_neg (by omega), if_neg e2, hc i hi t ht]
    · rw [if_neg (by omega), hc q hq' t ht, List.getElem_set_ne e]
      have e1 : rs.getD q nilRaw = rs[q] := by simp [List.getD_eq_getElem?_getD, hq']
      rw [e1]
  · rw [if_neg ht, List.getElem?_eq_none (by simp; omega)]
theorem kl_stF {EC i j : Nat} {Hc : Hp} {v p u : Value} {rs : List RawC} {x y : Operand} {T : Nat} {F : Hp → List Hp} [hT : OneC C.P T] [hF : UpdF Hc L F] (r' : RawC) (hx : ev G x = some p) (hy : ev G y = some u) (o : OwnL EC 5 Hc noHp RawV v rs) (hp : PtrO v p (i * 5 + j)) (hc : i < rs.length) (hj : j < 5) (h1 : u.oneCell' = true) (hu : u.cells = [u].toArray)
    (hr : [Value.int .i64 r'.kind, r'.va, r'.vb, .int .i64 r'.bound, r'.vr] = [Value.int .i64 (rs.getD i nilRaw).kind, (rs.getD i nilRaw).va, (rs.getD i nilRaw).vb, .int .i64 (rs.getD i nilRaw).bound, (rs.getD i nilRaw).vr].set j u)
    (h : ∀ H', OwnL EC 5 H' noHp RawV v (rs.set i r') → (∀ B, Fr B Hc → Fr B H') → KL C dr ops Q ims (F H') fl.tail rest G) (hfl : fl.headD false = false := by rfl) (hdr : (!dr || rest.isEmpty) = true := by rfl) :
    KL C dr ops Q ims L fl (⟨none, .store T x y, ty, pos, af, none⟩ :: rest) G := by
  obtain ⟨cells, g1, g2⟩ := raw_cell o
  have hl := g1.1
  exact kl_stO hx hy hp g1 (by omega) h1 hu (fun H' ho hf => h H' ⟨_, by simpa using ho, raw_set (EC := EC) (v := v) hl g2 hc hj hr⟩ hf) hfl hdr
end ops
theorem apart_cmp {H K : Hp} (a : Apart H K) : Cmp H K := fun b o o' h1 h2 => by
  rcases a b with e | e
  · rw [e] at h1; cases h1
  · rw [e] at h2; cases h2
theorem raw_at {rs : List RawC} {i : Nat} {r : RawC} (h : i < rs.length) : (rs.set i r).getD i nilRaw = r := by simp [List.getD, h]
theorem Pc.one {EH E : Nat} {P : Hp} {r : RawC} {c : Con} (h : Pc EH E P r c) : ∀ x ∈ [Value.int .i64 r.kind, r.va, r.vb, .int .i64 r.bound, r.vr], x.oneCell' = true := by
  obtain ⟨Hv, Ha, Hh, Hk, us, rfl, q⟩ := h
  exact oc rfl (oc (Sl.oneCell q.iv) (oc (Sl.oneCell q.ia) (oc rfl (oc (Sl.oneCell (q.mr.rows (M := orHp Hh Hk) orL (by rw [orHp_comm q.a3]; exact orL))) oc_nil))))
def OneV (_ : Hp) (vs : List Value) (u : Value) : Prop := vs = [u]
theorem Mat.raw {A : Type} {enc : A → Value} {EH E : Nat} {H K : Hp} {v : Value} {us : List Value} {xss : List (List A)} (h : Mat EH E enc H K v us xss) : OwnL EH 1 H noHp OneV v us := by
  have hl := h.ulen
  refine ⟨us, by rw [hl]; exact h.hd, fun i hi => ?_⟩
  unfold OneV
  rw [Nat.mul_one, List.drop_eq_getElem_cons hi]
  rfl
/-- A list of constraints with a header and parts apart. -/
structure SepM (EC EH E : Nat) (H K : Hp) (v : Value) (rs : List RawC) (cs : List Con) : Prop where
  hd : OwnL EC 5 H noHp RawV v rs
  sp : SepCs EH E K rs cs
theorem SepM.ofL {EC EH E : Nat} {H : Hp} {v : Value} (o : OwnL EC 5 H noHp RawV v []) : SepM EC EH E H noHp v [] [] := ⟨o, SepCs.nil⟩
theorem SepM.push {EC EH E : Nat} {H H' K P : Hp} {v v' : Value} {rs : List RawC} {cs : List Con} {r : RawC} {c : Con} (h : SepM EC EH E H K v rs cs) (o : OwnL EC 5 H' noHp RawV v' (rs ++ [r])) (p : Pc EH E P r c) (ap : Apart K P) :
    SepM EC EH E H' (orHp K P) v' (rs ++ [r]) (cs ++ [c]) := ⟨o, h.sp.snoc p ap⟩
theorem SepM.castX {EC EH E : Nat} {H K : Hp} {v : Value} {rs : List RawC} {cs ds : List Con} (e : cs = ds) (h : SepM EC EH E H K v rs cs) : SepM EC EH E H K v rs ds := e ▸ h
theorem SepM.cons {EC EH E : Nat} {H K : Hp} {v : Value} {rs : List RawC} {cs : List Con} (h : SepM EC EH E H K v rs cs) (ap : Apart H K) : Cons (orHp H K) v cs := (h.sp.own h.hd).consK (apart_cmp ap)
/-- A model with a header and parts apart, all in one heaplet. -/
def ModX (EC EH E : Nat) (M : Hp) (vd vc : Value) (m : Mod) : Prop :=
  ∃ (Hd Hc K : Hp) (rs : List RawC), M = orHp Hd (orHp Hc K) ∧ Apart Hd (orHp Hc K) ∧ Apart Hc K ∧ Liq Hd ∧ Ints Hd vd m.doms ∧ SepM EC EH E Hc K vc rs m.cons
theorem ModX.doms {EC EH E : Nat} {M : Hp} {vd vc : Value} {m : Mod} (h : ModX EC EH E M vd vc m) : Ints M vd m.doms := by
  obtain ⟨Hd, Hc, K, rs, rfl, a1, a2, lq, iv, sm⟩ := h
  exact Sl.mono iv orL (fun _ _ h => h)
theorem ModX.cons {EC EH E : Nat} {M : Hp} {vd vc : Value} {m : Mod} (h : ModX EC EH E M vd vc m) : Cons M vc m.cons := by
  obtain ⟨Hd, Hc, K, rs, rfl, a1, a2, lq, iv, sm⟩ := h
  exact Cons.mono' (sm.cons a2) (orC (apart_cmp a1))
theorem ModX.nil {EC EH E : Nat} : ModX EC EH E noHp (.slice none 0 0) (.slice none 0 0) ⟨[], []⟩ :=
  ⟨noHp, noHp, noHp, [], rfl, fun _ => .inl rfl, fun _ => .inl rfl, fun _ _ h => (by cases h), Sl.nil, ⟨OwnL.nil, SepCs.nil⟩⟩
end Go.Proofs.Ytiilanckbocifaa
