/- Parts of the proof: a logic of partial frames, plain functions, walks of the program's functions. Conditions: those that each statement names. -/
import Derived.Test.YtolndgeihijlbaaGreatKProveBound7
import Derived.ProofKit
import Derived.SizedLaws
import Derived.Test.YtolndgeihijlbaaGreatRows
namespace Go.Proofs.YtolndgeihijlbaaGreat
open Go
set_option linter.unusedSimpArgs false
set_option linter.unusedVariables false
section
def LRs (E : Nat) : List Hp → List Value → List (List Lit) → Prop
  | [], [], [] => True
  | P :: Ps, u :: us, r :: rs => OwnL E 3 P noHp LitV u r ∧ LRs E Ps us rs ∧ Apart P (uniHp Ps)
  | _, _, _ => False
def SepL (E : Nat) (K : Hp) (us : List Value) (xs : List (List Lit)) : Prop := ∃ Ps, K = uniHp Ps ∧ LRs E Ps us xs
theorem LRs.len {E : Nat} : ∀ {Ps : List Hp} {us : List Value} {xs : List (List Lit)}, LRs E Ps us xs → us.length = xs.length
  | [], [], [], _ => rfl
  | P :: Ps, r :: rs, c :: cs, h => by simp only [List.length_cons]; rw [h.2.1.len]
  | [], [], _ :: _, h => h.elim
  | [], _ :: _, _, h => h.elim
  | _ :: _, [], _, h => h.elim
  | _ :: _, _ :: _, [], h => h.elim
theorem SepL.len {E : Nat} {K : Hp} {us : List Value} {xs : List (List Lit)} (h : SepL E K us xs) : us.length = xs.length := by obtain ⟨Ps, _, h⟩ := h; exact h.len
theorem SepL.nil {E : Nat} : SepL E noHp [] [] := ⟨[], rfl, trivial⟩
/-- One clause alone, the others beside it. -/
theorem SepL.split {E : Nat} : ∀ {i : Nat} {K : Hp} {us : List Value} {xs : List (List Lit)}, SepL E K us xs → i < xs.length →
    ∃ Pi Ki, K = orHp Pi Ki ∧ Apart Pi Ki ∧ OwnL E 3 Pi noHp LitV (us.getD i undef) (xs.getD i []) ∧
      ∀ P' r', Apart P' Ki → OwnL E 3 P' noHp LitV (us.getD i undef) r' → SepL E (orHp P' Ki) us (xs.set i r')
  | i, K, us, [], h, hi => absurd hi (Nat.not_lt_zero _)
  | i, K, [], c :: cs, h, hi => by have := h.len; simp at this
  | 0, K, u :: us, c :: cs, h, _ => by
    obtain ⟨Ps, rfl, h⟩ := h
    match Ps, h with
    | P :: Ps, h => exact ⟨P, uniHp Ps, rfl, h.2.2, h.1, fun P' r' ap hp => ⟨P' :: Ps, rfl, hp, h.2.1, ap⟩⟩
  | i + 1, K, u :: us, c :: cs, h, hi => by
    obtain ⟨Ps, rfl, h⟩ := h
    match Ps, h with
    | P :: Ps, h =>
      obtain ⟨Pi, Ki, e, ap, hp, back⟩ := SepL.split (i := i) (K := uniHp Ps) ⟨Ps, rfl, h.2.1⟩ (by simpa using hi)
      have hP := h.2.2
      rw [e, apart_or] at hP
      refine ⟨Pi, orHp P Ki, ?_, apart_or.2 ⟨apart_symm hP.1, ap⟩, by simpa using hp, fun P' r' ap' hp' => ?_⟩
      · rw [uniHp, e, orHp_swap hP.1]
      · obtain ⟨ap1, ap2⟩ := apart_or.1 ap'
        obtain ⟨Ps', e', h'⟩ := back P' r' ap2 (by simpa using hp')
        refine ⟨P :: Ps', ?_, h.1, h', ?_⟩
        · rw [uniHp, ← e', orHp_swap ap1]
        · rw [← e']; exact apart_or.2 ⟨apart_symm ap1, hP.2⟩
theorem SepL.snoc {E : Nat} {K P : Hp} {us : List Value} {xs : List (List Lit)} {u : Value} {r : List Lit} (h : SepL E K us xs) (hp : OwnL E 3 P noHp LitV u r) (ap : Apart K P) : SepL E (orHp K P) (us ++ [u]) (xs ++ [r]) := by
  obtain ⟨Ps, rfl, h⟩ := h
  induction Ps generalizing us xs with
  | nil =>
    match us, xs, h with
    | [], [], _ => exact ⟨[P], by rw [uniHp, uniHp, uniHp, no_orHp, orHp_no], hp, trivial, apart_no _⟩
  | cons Q Ps ih =>
    match us, xs, h with
    | r0 :: rs, c0 :: cs, h =>
      obtain ⟨a1, a2⟩ := apart_orL.1 ap
      obtain ⟨Ps', e, h'⟩ := ih h.2.1 a2
      exact ⟨Q :: Ps', by rw [uniHp, uniHp, ← e, orHp_assoc], h.1, h', by rw [← e]; exact apart_or.2 ⟨h.2.2, a1⟩⟩
theorem SepL.at {E : Nat} {K : Hp} {us : List Value} {xs : List (List Lit)} (h : SepL E K us xs) {i : Nat} (hi : i < xs.length) : Lits K (us.getD i undef) (xs.getD i []) := by
  obtain ⟨Pi, Ki, e, _, hp, _⟩ := h.split hi
  rw [e]; exact Sl.mono hp.lits orL (fun _ _ h => h)
theorem LRs.liq {E : Nat} : ∀ {Ps : List Hp} {us : List Value} {xs : List (List Lit)}, LRs E Ps us xs → Liq (uniHp Ps)
  | [], _, _, _ => liq_no
  | P :: Ps, r :: rs, c :: cs, h => liq_or (OwnL.liq h.1) (LRs.liq h.2.1)
  | _ :: _, [], _, h => h.elim
  | _ :: _, _ :: _, [], h => h.elim
theorem SepL.liq {E : Nat} {K : Hp} {us : List Value} {xs : List (List Lit)} (h : SepL E K us xs) : Liq K := by obtain ⟨Ps, rfl, h⟩ := h; exact h.liq
/-- v, whose cells H holds, is a list of clauses (their slices: us), the clauses apart in K. -/
structure LMat (EH E : Nat) (H K : Hp) (v : Value) (us : List Value) (xs : List (List Lit)) : Prop where
  hd : OwnS EH 1 H v xs.length us
  sp : SepL E K us xs
section
variable {EH E : Nat} {H K : Hp} {v : Value} {us : List Value} {xs : List (List Lit)}
theorem LMat.ulen (h : LMat EH E H K v us xs) : us.length = xs.length := h.sp.len
theorem LMat.nil (h : OwnS EH 1 H v 0 []) : LMat EH E H noHp v [] [] := ⟨h, SepL.nil⟩
theorem LMat.push {H' P : Hp} {v' u : Value} {r : List Lit} (h : LMat EH E H K v us xs) (ho : OwnS EH 1 H' v' (xs.length + 1) (us ++ [u])) (hp : OwnL E 3 P noHp LitV u r) (ap : Apart K P) : LMat EH E H' (orHp K P) v' (us ++ [u]) (xs ++ [r]) :=
  ⟨by simpa using ho, h.sp.snoc hp ap⟩
theorem LMat.hlq (h : LMat EH E H K v us xs) : Liq H := by
  obtain ⟨_, _, h3⟩ := h.hd
  rcases h3 with ⟨_, _, _, rfl⟩ | ⟨b, c, cur, _, _, _, _, _, rfl⟩
  · exact fun b o hb => by cases hb
  · exact liq_sing
theorem LMat.lq (h : LMat EH E H K v us xs) : Liq K := h.sp.liq
theorem LMat.oneCell (h : LMat EH E H K v us xs) : v.oneCell' = true := h.hd.oneCell
theorem LMat.cells (h : LMat EH E H K v us xs) : v.cells = [v].toArray := h.hd.cells
theorem LMat.castX {ys : List (List Lit)} (e : xs = ys) (h : LMat EH E H K v us xs) : LMat EH E H K v us ys := e ▸ h
theorem LMat.clip {u : Value} (h : LMat EH E H K v us xs) (hc : ClipV v u xs.length) : LMat EH E H K u us xs := ⟨h.hd.clip hc, h.sp⟩
theorem LMat.rows {M : Hp} (h : LMat EH E H K v us xs) (h1 : ∀ b o, H b = some o → M b = some o) (h2 : ∀ b o, K b = some o → M b = some o) : LRows M v xs := by
  refine h.hd.sl (k := 1) (K := M) (R := SlC M 3 LitC) rfl h1 (fun i hi => ?_)
  have hu : i < us.length := by rw [h.ulen]; exact hi
  rw [Nat.mul_one, List.drop_eq_getElem_cons hu, List.take_succ_cons, List.take_zero]
  have h3 := h.sp.at hi
  have e1 : us.getD i undef = us[i] := by simp [List.getD, hu]
  have e2 : xs.getD i [] = xs[i] := by simp [List.getD, hi]
  rw [e1, e2] at h3
  exact ⟨us[i], rfl, Sl.mono h3 h2 (fun _ _ h => h)⟩
end
def LMatR (EH E : Nat) (Hq : Hp) (v : Value) (xs : List (List Lit)) : Prop := ∃ (H K : Hp) (us : List Value), Hq = orHp H K ∧ Apart H K ∧ LMat EH E H K v us xs
theorem LMatR.nil {EH E : Nat} : LMatR EH E (orHp noHp noHp) (.slice none 0 0) [] := ⟨noHp, noHp, [], rfl, fun _ => .inl rfl, LMat.nil OwnS.nil⟩
theorem LMatR.rows {EH E : Nat} {H : Hp} {v : Value} {xs : List (List Lit)} (h : LMatR EH E H v xs) : LRows H v xs := by
  obtain ⟨H1, K, us, rfl, ap, hm⟩ := h
  refine hm.rows orL (fun b o hb => ?_)
  have := (ap b).resolve_right (by rw [hb]; simp)
  simp [orHp, this, hb]
theorem LMatR.castX {EH E : Nat} {H : Hp} {v : Value} {xs ys : List (List Lit)} (e : xs = ys) (h : LMatR EH E H v xs) : LMatR EH E H v ys := e ▸ h
theorem lmR_rows {EH E : Nat} {H : Hp} {w : Value} {xs : List (List Lit)} {b : Bool} (h : ∃ u : Value, w = .tuple #[u, .bool b] ∧ LMatR EH E H u xs) : ∃ u : Value, w = .tuple #[u, .bool b] ∧ LRows H u xs := by
  obtain ⟨u, e, h⟩ := h; exact ⟨u, e, h.rows⟩
section ops
variable {C : Cx} {dr : Bool} {ops : Array Oper} {Q : Post} {ims L : List Hp} {G : Env} {fl : List Bool} {rest : List Oper} {d ty : Nat} {pos : String} {af : Array Edge}
variable {EH E i j : Nat} {H K : Hp} {v p u : Value} {us : List Value} {xs : List (List Lit)} {x y : Operand} {T E' by' : Nat} {z : Value}
theorem kl_lmLen {k' : Nat} [hT : IsSlice C.P T E' k' by' z] (hx : ev G x = some v) (hM : LMat EH E H K v us xs) (h : xs.length ≤ 140737488355328 → KL C dr ops Q ims L fl.tail rest ((d, .int .i64 (xs.length : Int)) :: G)) (hlt : Nat.blt d C.n = true := by rfl) :
    KL C dr ops Q ims L fl (⟨some d, .call ⟨.builtin .len, #[x], #[T]⟩, ty, pos, af, none⟩ :: rest) G := kl_lenO hx hM.hd h hlt
/-! The fields of a literal in an owned list. -/
end ops
end
section
theorem nb_T {b : Bool} (h : (!b) = true) : b = false := by simpa using h
theorem nb_F {b : Bool} (h : (!b) = false) : b = true := by simpa using h
/-- How many steps at most. -/
def tN : Nat → Nat
  | 0 => 1
  | k + 1 => 1 + 6 * tN k
theorem tN_pos : ∀ k, 1 ≤ tN k
  | 0 => Nat.le_refl _
  | k + 1 => by unfold tN; omega
theorem tN_le {k : Nat} (h : k ≤ 4) : tN k ≤ 1555 := by
  have key : ∀ k, k < 5 → tN k ≤ 1555 := by decide +kernel
  exact key k (by omega)
theorem foldR_len {f : Int → List (List Lit) × Bool} {B : Nat} : ∀ {vs : List Int}, (∀ v ∈ vs, (f v).1.length ≤ B) → (foldR f vs).1.length ≤ vs.length * B
  | [], _ => by simp [foldR]
  | v :: vs, h => by
    have h1 := h v (.head _)
    have h2 := foldR_len (vs := vs) (fun u hu => h u (.tail _ hu))
    rw [foldR]
    rw [List.length_cons, Nat.succ_mul]
    split
    · rw [List.length_append]; omega
    · dsimp only; omega
theorem ref_len {m : Mod} : ∀ {k : Nat} {ds : List Int} {cl : List Lit}, (refF k m ds cl).1.length ≤ tN k
  | 0, ds, cl => by unfold refF; split <;> simp [tN]
  | k + 1, ds, cl => by
    have hp := tN_pos k
    unfold refF
    split
    · simp [tN]
    · split
      · simp
      · have h1 := foldR_len (f := fun v => refF k m ((prop m ds).set (opI (prop m ds)).toNat (ishl 1 v)) (cl ++ [⟨opI (prop m ds), v, true⟩])) (B := tN k) (vs := valsI ((prop m ds).getD (opI (prop m ds)).toNat 0)) (fun v _ => ref_len)
        have h2 := membersTo_len ((prop m ds).getD (opI (prop m ds)).toNat 0) 6
        have h3 : (valsI ((prop m ds).getD (opI (prop m ds)).toNat 0)).length * tN k ≤ 6 * tN k := Nat.mul_le_mul_right _ (by simpa [valsI] using h2)
        unfold endR tN
        split
        · rw [List.length_append, List.length_singleton]; omega
        · dsimp only; omega
theorem rf_room {q s a t : Nat} (hq : q < 6) (h1 : s ≤ a + q * t) (h2 : a + (1 + 6 * t) ≤ 100000) : s + t ≤ 100000 := by
  have h3 : (q + 1) * t ≤ 6 * t := Nat.mul_le_mul_right _ (by omega)
  rw [Nat.add_mul, Nat.one_mul] at h3
  omega
theorem rf_ch {j : Nat} {m : Mod} {d : List Int} {pa : List Lit} {v : Int} (hle : iand (d.getD (Int.toNat (opI d)) 0) (ishl (1 : Int) v) = ishl 1 v) :
    refF j m (d.set (Int.toNat (opI d)) (iand (d.getD (Int.toNat (opI d)) 0) (ishl (1 : Int) v))) ((pa ++ [(⟨opI d, v, false⟩ : Lit)]).map negL) = chR j m d (pa.map negL) v := by
  rw [hle, List.map_append]; rfl
structure RfI (f : Int → List (List Lit) × Bool) (vs : List Int) (st : List (List Lit)) (t : Nat) (q : Nat) (s1 : List (List Lit)) : Prop where
  e : s1 = st ++ (foldR f (vs.take q)).1
  o : (foldR f (vs.take q)).2 = true
  n : s1.length ≤ st.length + q * t
theorem rfi_0 {f : Int → List (List Lit) × Bool} {vs : List Int} {st : List (List Lit)} {t : Nat} : RfI f vs st t 0 st := ⟨by simp [foldR], rfl, by omega⟩
theorem rfi_step {f : Int → List (List Lit) × Bool} {vs : List Int} {st s1 s2 : List (List Lit)} {t q : Nat} {r : List (List Lit) × Bool} (h : RfI f vs st t q s1) (hq : q < vs.length) (e : s2 = s1 ++ r.1) (er : r = f (vs.getD q 0)) (hb : r.2 = true) (hn : r.1.length ≤ t) : RfI f vs st t (q + 1) s2 := by
  have h1 := foldR_step hq h.o
  refine ⟨by rw [e, h.e, h1, er, List.append_assoc], by rw [h1, ← er]; exact hb, ?_⟩
  have := h.n
  rw [e, List.length_append, Nat.add_mul, Nat.one_mul]; omega
theorem rfi_no {k : Nat} {m : Mod} {ds : List Int} {cl : List Lit} {st s1 : List (List Lit)} {t q : Nat} {r : List (List Lit) × Bool} (hz : (prop m ds).contains 0 = false) (ho : ¬ opI (prop m ds) < 0)
    (h : RfI (chR k m (prop m ds) cl) (valsI ((prop m ds).getD (Int.toNat (opI (prop m ds))) 0)) st t q s1) (hq : q < (valsI ((prop m ds).getD (Int.toNat (opI (prop m ds))) 0)).length) (er : r = chR k m (prop m ds) cl ((valsI ((prop m ds).getD (Int.toNat (opI (prop m ds))) 0)).getD q 0)) (hb : r.2 = false) :
    false = (refF (k + 1) m ds cl).2 ∧ s1 ++ r.1 = st ++ (refF (k + 1) m ds cl).1 := by
  have h1 := foldR_step hq h.o
  rw [← er] at h1
  have h2 : (foldR (chR k m (prop m ds) cl) ((valsI ((prop m ds).getD (Int.toNat (opI (prop m ds))) 0)).take (q + 1))).2 = false := by rw [h1]; exact hb
  have h3 := foldR_hit h2
  rw [ref_node hz ho, h3, h1]
  unfold endR
  rw [if_neg (by rw [hb]; simp)]
  exact ⟨rfl, by rw [h.e, List.append_assoc]⟩
theorem rfi_yes {k : Nat} {m : Mod} {ds : List Int} {cl : List Lit} {st s1 : List (List Lit)} {t q : Nat} (hz : (prop m ds).contains 0 = false) (ho : ¬ opI (prop m ds) < 0)
    (h : RfI (chR k m (prop m ds) cl) (valsI ((prop m ds).getD (Int.toNat (opI (prop m ds))) 0)) st t q s1) (hq : (valsI ((prop m ds).getD (Int.toNat (opI (prop m ds))) 0)).length ≤ q) : true = (refF (k + 1) m ds cl).2 ∧ s1 ++ [cl] = st ++ (refF (k + 1) m ds cl).1 := by
  have h1 := h.e
  have h2 := h.o
  rw [List.take_of_length_le hq] at h1 h2
  rw [ref_node hz ho]
  unfold endR
  rw [if_pos h2]
  exact ⟨rfl, by rw [h1, List.append_assoc]⟩
theorem rfi_z {k : Nat} {m : Mod} {ds : List Int} {cl : List Lit} {st : List (List Lit)} (hz : (prop m ds).contains 0 = true) : true = (refF k m ds cl).2 ∧ st ++ [cl] = st ++ (refF k m ds cl).1 := by
  rw [ref_0 hz]; exact ⟨rfl, rfl⟩
theorem rfi_leaf {k : Nat} {m : Mod} {ds : List Int} {cl : List Lit} {st : List (List Lit)} (hz : (prop m ds).contains 0 = false) (ho : opI (prop m ds) < 0) : false = (refF k m ds cl).2 ∧ st = st ++ (refF k m ds cl).1 := by
  rw [ref_leaf hz ho]; exact ⟨rfl, by simp⟩
theorem rfi_b {f : Int → List (List Lit) × Bool} {vs : List Int} {st s1 : List (List Lit)} {j q : Nat} (h : RfI f vs st (tN j) q s1) (hq : q ≤ 6) (hs : st.length + tN (j + 1) ≤ 100000) : s1.length ≤ 100000 := by
  have h1 := h.n
  have h2 : q * tN j ≤ 6 * tN j := Nat.mul_le_mul_right _ hq
  unfold tN at hs
  omega
/-- Negated and sorted: the same order. -/
theorem neg_same {n : Nat} {ds : List Int} {pa ys : List Lit} (h : PathOk n ds (pa.map negL)) (hr : NegR pa ys) : ys = pa.map negL := by
  refine srt_unique (c := litCmp) (d := nilLit) (fun a b => litC_anti) hr.perm hr.srt (fun p q h1 h2 => ?_)
  intro h3
  have h4 := (List.pairwise_iff_getElem.1 h.s) p q (by omega) h2 h1
  rw [litC_iff, litLt_iff] at h3
  have e1 : (pa.map negL).getD p nilLit = (pa.map negL)[p]'(by omega) := by rw [List.getD_eq_getElem?_getD, List.getElem?_eq_getElem (by omega : p < (pa.map negL).length), Option.getD_some]
  have e2 : (pa.map negL).getD q nilLit = (pa.map negL)[q] := by rw [List.getD_eq_getElem?_getD, List.getElem?_eq_getElem h2, Option.getD_some]
  rw [e1, e2] at h3
  rcases h3 with h3 | ⟨h3, _⟩ <;> omega
theorem path_nd {n : Nat} {ds : List Int} {pa : List Lit} (h : PathOk n ds (pa.map negL)) : pa.Nodup := by
  have h1 := h.s
  rw [List.pairwise_map] at h1
  rw [List.nodup_iff_pairwise_ne]
  exact h1.imp fun h e => by rw [e] at h; omega
theorem path_plen {n : Nat} {ds : List Int} {pa : List Lit} (h : PathOk n ds (pa.map negL)) : pa.length ≤ n := by
  have := path_len h; simpa using this
theorem path_chI {n : Nat} {d : List Int} {pa : List Lit} {v : Int} (h : PathOk n d (pa.map negL)) (hl : d.length = n) (ho : ¬ opI d < 0) (hv : 0 ≤ v ∧ v ≤ 5) (hle : iand (d.getD (Int.toNat (opI d)) 0) (ishl (1 : Int) v) = ishl 1 v) :
    PathOk n (d.set (Int.toNat (opI d)) (iand (d.getD (Int.toNat (opI d)) 0) (ishl (1 : Int) v))) ((pa ++ [(⟨opI d, v, false⟩ : Lit)]).map negL) := by
  rw [hle, List.map_append]
  exact path_child h hl ho hv
theorem vals_len6 (d : Int) : (valsI d).length ≤ 6 := by have := membersTo_len d 6; simpa [valsI] using this
theorem inf_g {r : List (List Lit) × Bool} {b : Bool} (h : ((!r.2) || decide ((200 : Int) < (r.1.length : Int))) = b) : limO r = if b = true then ([], false) else (r.1, true) := by
  unfold limO
  subst h
  cases e : r.2 with
  | false => simp
  | true =>
    by_cases hn : r.1.length ≤ 200
    · rw [if_pos ⟨rfl, hn⟩]
      rw [if_neg]
      simp; omega
    · rw [if_neg (by simp; omega)]
      rw [if_pos]
      simp; omega
theorem inf_bad {m : Mod} (hM : MOk m) (h : ((!(refF m.doms.length m m.doms []).2) || decide ((200 : Int) < ((refF m.doms.length m m.doms []).1.length : Int))) = true) : infR m = ([], false) := by
  rw [inf_v hM.v, inf_g h]; rfl
theorem inf_good {m : Mod} (hM : MOk m) (h : ((!(refF m.doms.length m m.doms []).2) || decide ((200 : Int) < ((refF m.doms.length m m.doms []).1.length : Int))) = false) : infR m = ((refF m.doms.length m m.doms []).1, true) := by
  rw [inf_v hM.v, inf_g h]; rfl
theorem bdR_ok {m : Mod} {obj : List Int} {b : Int} {z : Mod} {o : Bool} (h : (z, o) = bdR m obj b) (ho : o = true) : MOk z ∧ pbR m obj b = infR z ∧ infR z = limO (refF z.doms.length z z.doms []) := by
  have e1 : z = (bdR m obj b).1 := by rw [← h]
  have e2 : (bdR m obj b).2 = true := by rw [← h]; exact ho
  have hv : validModB z = true := by
    rw [e1]
    unfold bdR wcR at e2 ⊢
    split at e2
    · rename_i h1
      rw [if_pos h1]
      split at e2
      · rename_i h2; rw [if_pos h2]; exact h2
      · cases e2
    · cases e2
  exact ⟨⟨hv⟩, by rw [pb_yes e2, ← e1], inf_v hv⟩
theorem bdR_no {m : Mod} {obj : List Int} {b : Int} {z : Mod} {o : Bool} (h : (z, o) = bdR m obj b) (ho : o = false) : pbR m obj b = ([], false) := pb_no (by rw [← h]; exact ho)
end
section
theorem sortedO_ok {Hc : Hp} {vc : Value} (c : List Lit) (hnd : c.Nodup) (hn : c.length ≤ 12) (hc : Lits Hc vc c) : Spec Tryz.prog 156 [vc] [Hc] ((fun Hq vq => ∃ ys : List Lit, OwnL 100 3 Hq noHp LitV vq ys ∧ ys.Perm c ∧ SrtL litCmp nilLit ys)) := by
 refine spec_of Tryz.func156 rfl rfl rfl (fun B => ?_)
 refine cS (cr (sg rfl (ln (qc (cS (cr (mv rfl (kl_callL rfl rfl (cloneL_ok c (by omega) ‹_›) (fun v1 H2 f3 o4 => ?_)))))))))
 refine sg rfl (ln (qc (cS (cr (mv rfl (cT rfl rfl (srtL_ok c  (by omega) o4) (fun v5 L1 Ln K6 h7 g8 g9 => ?_)))))))
 obtain ⟨H10, y11, rfl, rfl, o12, h13⟩ := h7
 refine nm ?_
 have hcp := srt_cpt hnd h13
 refine ln (qc (cS (cr (mv rfl (kl_call rfl rfl (compactL_ok y11 hcp.1 (OwnL.lits o12)) (fun v14 H15 f16 h17 => ?_))))))
 subst h17
 refine kl_call rfl rfl (clipL_ok y11 (OwnL.lits o12)) (fun v18 H19 f20 h21 => ?_)
 obtain ⟨h21, h22⟩ := h21
 refine sg rfl (ln (qc (rt (kq_own H10 (OwnL.liq (OwnL.clip o12 h22)) (fun f23 => ?_)))))
 exact kq_ret rfl rfl H10 f23 ⟨_, (OwnL.clip o12 h22), hcp.2.2.1, hcp.2.2.2⟩
theorem negsO_ok {Hc : Hp} {vc : Value} (c : List Lit) (hnd : c.Nodup) (hn : c.length ≤ 12) (hc : Lits Hc vc c) : Spec Tryz.prog 114 [vc] [Hc] ((fun Hq vq => ∃ ys : List Lit, OwnL 100 3 Hq noHp LitV vq ys ∧ NegR c ys)) := by
 refine spec_of Tryz.func114 rfl rfl rfl (fun B => ?_)
 refine cS (cr (sg rfl (ln (qc (cS (cr (mv rfl (le9 rfl ‹_› (fun l1 => ?_)))))))))
 refine kl_mkL0 (R := LitV) rfl rfl (by omega) (by omega) (by decide) (fun v2 H3 f4 o5 => ?_)
 refine sg rfl (ln (qc (cS (cS (cr (mv rfl (le9 rfl ‹_› (fun l6 => ?_))))))))
 refine mv rfl (ln (qc (bl (kc_loopL (A := Nat × List Lit × Value × Hp) (fun zz => (zz.1 ≤ c.length) ∧ (zz.2.1 = negTo c zz.1) ∧ OwnL 100 3 zz.2.2.2 noHp LitV zz.2.2.1 zz.2.1 ∧ Fr B zz.2.2.2) (fun zz => c.length - zz.1) (fun zz => [zz.2.2.2]) (fun zz => [(11, .int .i64 (zz.1 : Int)), (3, zz.2.2.1)]) (0, ([]), v2, H3) (pk [2, 9, 10] rfl) (pk [11, 3] rfl) rfl ⟨Nat.zero_le _, rfl, o5, f4⟩ ?_))))
 rintro ⟨k, out, v12, H9⟩ hJ13
 obtain ⟨hk7, hi8, o10, f11⟩ : (k ≤ c.length) ∧ (out = negTo c k) ∧ OwnL 100 3 H9 noHp LitV v12 out ∧ Fr B H9 := hJ13
 change KC _ _ (_) [H9] _ ([(11, .int .i64 (k : Int)), (3, v12)] ++ _)
 refine cS (cr (ls9 rfl rfl ?_))
 refine ln (qc (cS (ci9 rfl (fun c14 => ?_) (fun c14 => ?_))))
 ·refine sk (qc (cS (bl (cS (cr (kl_inQ rfl rfl ‹_› (by omega) (fun p15 a16 => ?_)))))))
  refine kl_ldS rfl ‹_› rfl ?_
  refine kl_alloc (cs := [.int .i64 (0 : Int), .int .i64 (0 : Int), .bool false]) rfl (fun b17 hb18 => ?_)
  refine kl_stW (us := [.int .i64 ((c.getD k nilLit).var), .int .i64 ((c.getD k nilLit).val), .bool ((c.getD k nilLit).neg)]) rfl rfl rfl rfl (oc rfl (oc rfl (oc rfl oc_nil))) rfl ?_
  refine cg [bxS b17 [.int .i64 ((c.getD k nilLit).var), .int .i64 ((c.getD k nilLit).val), .bool ((c.getD k nilLit).neg)] 100, H9] rfl ?_
  refine ln (qc (cr (mv rfl (kl_ldW rfl rfl (kl_call rfl rfl (negatedL_ok (c.getD k nilLit)) (fun v19 H20 f21 h22 => ?_))))))
  subst h22
  refine kl_bsQ rfl (fun v23 H24 f25 r26 h27 => ?_)
  refine aL9 (⟨(c.getD k nilLit).var, (c.getD k nilLit).val, !(c.getD k nilLit).neg⟩ : Lit) rfl rfl o10 r26 rfl (oc rfl (oc rfl (oc rfl oc_nil))) (by (have h9 := congrArg List.length hi8; simp [negTo] at h9; omega)) (by decide) (fun v28 H29 o30 f31 => ?_)
  have f32 := f31 B f11 (Nat.le_refl _)
  refine sg rfl (ln (qc (cr (ic9 rfl rfl (by omega) ?_))))
  refine mv rfl (ln (tk [H29] ?_))
  refine rL ((k + 1), (out ++ [(⟨(c.getD k nilLit).var, (c.getD k nilLit).val, !(c.getD k nilLit).neg⟩ : Lit)]), v28, H29) (by omega) (⟨by omega, (negTo_step hi8 (by omega)), o30, f32⟩) (pk [11, 3] rfl) (pk [2, 9, 10] rfl) rfl slr9
 ·have hnp := neg_pre hnd hi8 (by omega) hn
  refine ex9 (qc (cS (cr (mv rfl (kl_callL rfl rfl (sortedO_ok out hnp.1 hnp.2.1 (OwnL.lits o10)) (fun v33 H34 f35 h36 => ?_))))))
  obtain ⟨y37, o38, h39⟩ := h36
  have hsrt := h39
  refine sg rfl (ln (qc (rt ?_)))
  exact kq_ret rfl rfl H34 f35 ⟨_, o38, ⟨by rw [← hnp.2.2]; exact hsrt.1, hsrt.2⟩⟩
abbrev refuteISt (k : Nat) : Prop := ∀ {b : Nat} {Hmd Hmc Hds Hpa Hf Kf : Hp} {vmd vmc vds vpa vf : Value} {us : List Value} (m : Mod) (ds : List Int) (pa : List Lit) (sts : List (List Lit)) (hM : MOk m) (hd : DOk m.doms.length ds) (hpa : PathOk m.doms.length ds (pa.map negL)) (hk : k + pa.length = m.doms.length) (hst : sts.length + tN k ≤ 100000)
  (hmd : Ints Hmd vmd m.doms) (hmc : Cons Hmc vmc m.cons) (hds : Ints Hds vds ds) (hpl : Lits Hpa vpa pa) (of : LMat 69 100 Hf Kf vf us sts),
  SpecT Tryz.prog 72 [.agg #[vmd, vmc], vds, vpa, .pointer (some ⟨b, 0, none⟩)] [bxS b [vf] 29, Hf, Kf] [Hmd, Hmc, Hds, Hpa] (fun vq L1 Ln _ => Ln = [] ∧ ∃ (vf2 : Value) (Hf2 Kf2 : Hp) (us2 : List Value), vq = .bool (refF k m ds (pa.map negL)).2 ∧ L1 = [bxS b [vf2] 29, Hf2, Kf2] ∧ LMat 69 100 Hf2 Kf2 vf2 us2 (sts ++ (refF k m ds (pa.map negL)).1))
theorem refuteI_step (k : Nat) (ih : ∀ j, j < k → refuteISt j) : refuteISt k := by
 intro b Hmd Hmc Hds Hpa Hf Kf vmd vmc vds vpa vf us m ds pa sts hM hd hpa hk hst hmd hmc hds hpl of
 have hn := hM.n
 have hp := propOk hM hd
 have hpn := hp.ok.l
 have hpp := path_prop hM hd hpa
 have hcn := path_plen hpa
 have hnd := path_nd hpa
 have htp := tN_pos k
 refine specT_of Tryz.func72 rfl rfl rfl (fun B => ?_)
 refine cS (cr (kl_box rfl rfl (fun p1 H2 f3 a4 => ?_)))
 refine sg rfl (ln (qc (cS (cr (kl_ldS rfl ‹_› rfl ?_)))))
 refine mv rfl (kl_call rfl rfl (propagate_ok m ds hM hd ‹_› ‹_› ‹_›) (fun v5 H6 f7 h8 => ?_))
 refine sg rfl (ln (qc (cS (cS (cr (mv rfl (kl_inI (i := 0) rfl rfl ‹_› (by first | omega | (simp; omega)) (fun p9 a10 => ?_))))))))
 refine ld rfl ‹_› (kl_neq rfl rfl ?_)
 refine ln (qc (ci9 rfl (fun c11 => ?_) (fun c11 => ?_)))
 ·have hz : (prop m ds).contains 0 = false := (Bool.eq_false_iff.2 (fun h => c11 ((prop_first hM hd).2 h)))
  have hD := prop_at hM hd hz
  refine cS (cr (mv rfl (cP rfl rfl (openI_ok (prop m ds) hp.ok.d ‹_›) ?_)))
  refine sg rfl (ln (qc (cS (cS (cr (mv rfl (ls9 rfl rfl ?_)))))))
  refine ln (qc (ci9 rfl (fun c12 => ?_) (fun c12 => ?_)))
  ·have hop : opI (prop m ds) < 0 := c12
   refine cS (cr (sg rfl (ln (qc (rt ?_)))))
   exact kq_retT rfl rfl [bxS b [vf] 29, Hf, Kf] [] noHp frn (fr_no _) ⟨rfl, vf, Hf, Kf, us, congrArg Value.bool (by first | exact (rfi_leaf (st := []) hz hop).1 | exact (rfi_no hz hop hnone (by omega) hch hb9).1 | exact (rfi_yes hz hop hnone (by omega)).1 | exact (rfi_z (st := []) hz).1), rfl, LMat.castX (by first | exact (rfi_leaf hz hop).2 | exact (rfi_no hz hop hnone (by omega) hch hb9).2 | (rw [neg_same hpa hng]; exact (rfi_yes hz hop hnone (by omega)).2) | (rw [neg_same hpa hng]; exact (rfi_z hz).2)) of⟩
  ·have hop : ¬ opI (prop m ds) < 0 := c12
   obtain ⟨j, rfl⟩ : ∃ j, k = j + 1 := (by have h9 := path_room hpp hpn hop (by simpa using hk); exact h9)
   have hoi := op_in hop
   have hdk := hD (Int.toNat (opI (prop m ds))) (by omega)
   have hdk2 : 0 ≤ (prop m ds).getD (Int.toNat (opI (prop m ds))) 0 ∧ (prop m ds).getD (Int.toNat (opI (prop m ds))) 0 ≤ 63 := by omega
   have hv6 := vals_len6 ((prop m ds).getD (Int.toNat (opI (prop m ds))) 0)
   refine sk (qc (cS (cr (mv rfl (mv rfl (kl_ixI rfl rfl ‹_› (by first | omega | (simp; omega)) (by first | omega | (simp; omega)) (fun p13 a14 => ?_)))))))
   refine ld rfl ‹_› (kl_call rfl rfl (valuesOf_ok ((prop m ds).getD (opI (prop m ds)).toNat 0) hdk2) (fun v15 H16 f17 h18 => ?_))
   refine le9 rfl ‹_› (fun l19 => ?_)
   refine mv rfl (ln (qc (bl (kc_loopL (A := Nat × List (List Lit) × Value × Hp × List Value × Hp) (fun zz => (zz.1 ≤ (valsI ((prop m ds).getD (Int.toNat (opI (prop m ds))) 0)).length) ∧ (RfI (chR j m (prop m ds) (pa.map negL)) (valsI ((prop m ds).getD (Int.toNat (opI (prop m ds))) 0)) sts (tN j) zz.1 zz.2.1) ∧ LMat 69 100 zz.2.2.2.1 zz.2.2.2.2.2 zz.2.2.1 zz.2.2.2.2.1 zz.2.1) (fun zz => (valsI ((prop m ds).getD (Int.toNat (opI (prop m ds))) 0)).length - zz.1) (fun zz => [bxS b [zz.2.2.1] 29, zz.2.2.2.1, zz.2.2.2.2.2]) (fun zz => [(29, .int .i64 (zz.1 : Int))]) (0, sts, vf, Hf, us, Kf) (pk [1, 2, 3, 4, 9, 27, 28] rfl) (pc 29 rfl pn) rfl ⟨Nat.zero_le _, rfi_0, of⟩ ?_))))
   rintro ⟨q, s1, v24, H25, us26, K22⟩ hJ27
   obtain ⟨hk20, hi21, o23⟩ : (q ≤ (valsI ((prop m ds).getD (Int.toNat (opI (prop m ds))) 0)).length) ∧ (RfI (chR j m (prop m ds) (pa.map negL)) (valsI ((prop m ds).getD (Int.toNat (opI (prop m ds))) 0)) sts (tN j) q s1) ∧ LMat 69 100 H25 K22 v24 us26 s1 := hJ27
   change KC _ _ (_) [bxS b [v24] 29, H25, K22] _ ([(29, .int .i64 (q : Int))] ++ _)
   refine cS (cr (ls9 rfl rfl ?_))
   refine ln (qc (cS (ci9 rfl (fun c28 => ?_) (fun c28 => ?_))))
   ·have hv := getD_mem (d := (0 : Int)) (by omega : q < (valsI ((prop m ds).getD (Int.toNat (opI (prop m ds))) 0)).length)
    have hvv := valsI_mem hv
    have hle := lim_eq hdk2 hv
    refine sk (qc (cS (bl (cS (cr (kl_inI rfl rfl ‹_› (by first | omega | (simp; omega)) (fun p29 a30 => ?_)))))))
    refine ld rfl ‹_› (sg rfl (ln (qc (cS (kc_tree (fun i => ([14] : List Nat).contains i) [] (by kernel_rfl) ?_)))))
    refine tq 0 nsl rfl (kl_ldS rfl ‹_› rfl ?_)
    refine ln (qq (tq 1 nsl rfl (mv rfl (ln (qq (tq 2 nsl rfl (mv rfl (ln (qq (tq 3 nsl rfl (mv rfl ?_)))))))))))
    refine ln (qq (tq 4 nsl rfl (kl_shl rfl rfl (by omega) ?_)))
    refine ln (qq (tq 6 nsl rfl (mv rfl (ln (qq (tq 8 nsl rfl (mv rfl (ln (qq (tq 9 nsl rfl (mv rfl ?_)))))))))))
    refine ln (qq (tq 13 nsl rfl (mv rfl (ln (qq (kt_b 5 10 rfl rfl (by kernel_rfl) ?_ ?_))))))
    ·refine kl_call rfl rfl (limited_ok (prop m ds) (opI (prop m ds)) (ishl (1 : Int) ((valsI ((prop m ds).getD (opI (prop m ds)).toNat 0)).getD q 0)) (by omega) (by omega) ‹_›) (fun v31 H32 f33 h34 => ?_)
     refine ln (qa nsl (kt_b 7 10 rfl rfl (by kernel_rfl) ?_ ?_))
     ·refine kl_callL rfl rfl (cloneL_ok pa (by omega) ‹_›) (fun v35 H36 f37 o38 => ?_)
      refine ln (qa nsl (ta 10 rfl (kl_bd rfl (cp rfl (cp rfl cp_nil)) rfl ?_)))
      refine ln (qa nsl (ta 11 rfl (kl_bsQ rfl (fun v39 H40 f41 r42 h43 => ?_))))
      refine ln (qa nsl (ta 12 rfl (aL9 (⟨(opI (prop m ds)), ((valsI ((prop m ds).getD (opI (prop m ds)).toNat 0)).getD q 0), false⟩ : Lit) rfl rfl o38 r42 rfl (oc rfl (oc rfl (oc rfl oc_nil))) (by (first | omega | (simp; omega) | (have h9 := rfi_b hi21 (by omega) hst; omega))) (by decide) (fun v44 H45 o46 f47 => ?_))))
      have f48 := f47 B f37 (Nat.le_refl _)
      refine ln (qa nsl (ta 14 rfl (cT rfl rfl (ih j (by omega) m ((prop m ds).set (opI (prop m ds)).toNat (iand ((prop m ds).getD (opI (prop m ds)).toNat 0) (ishl (1 : Int) ((valsI ((prop m ds).getD (opI (prop m ds)).toNat 0)).getD q 0)))) (pa ++ [(⟨(opI (prop m ds)), ((valsI ((prop m ds).getD (opI (prop m ds)).toNat 0)).getD q 0), false⟩ : Lit)]) s1 hM (by rw [hle]; exact set_ok hp.ok hvv) (path_chI hpp hpn hop hvv hle) (by simp; omega) (rf_room (by omega) hi21.n (by unfold tN at hst; omega)) hmd hmc ‹_› (OwnL.lits o46) o23) (fun v49 L1 Ln K50 h51 g52 g53 => ?_))))
      obtain ⟨rfl, v54, H55, K56, us57, rfl, rfl, o58⟩ := h51
      refine nm ?_
      have hch : refF j m ((prop m ds).set (opI (prop m ds)).toNat (iand ((prop m ds).getD (opI (prop m ds)).toNat 0) (ishl (1 : Int) ((valsI ((prop m ds).getD (opI (prop m ds)).toNat 0)).getD q 0)))) ((pa ++ [(⟨(opI (prop m ds)), ((valsI ((prop m ds).getD (opI (prop m ds)).toNat 0)).getD q 0), false⟩ : Lit)]).map negL) = chR j m (prop m ds) (pa.map negL) ((valsI ((prop m ds).getD (Int.toNat (opI (prop m ds))) 0)).getD q 0) := rf_ch hle
      refine ln (qx rfl (tq 15 nsl rfl (nt9 rfl (ln (qq (kt_end (by kernel_rfl) ?_))))))
      refine qc (cd9 rfl (fun c59 => ?_) (fun c59 => ?_))
      ·have c59r := c59
       try simp only [smpE] at c59
       have hb9 := nb_T c59r
       refine cS (cr (sg rfl (ln (qc (rt ?_)))))
       exact kq_retT rfl rfl [bxS b [v54] 29, H55, K56] [] noHp frn (fr_no _) ⟨rfl, v54, H55, K56, us57, congrArg Value.bool (by first | exact (rfi_leaf (st := []) hz hop).1 | exact (rfi_no hz hop hi21 (by omega) hch hb9).1 | exact (rfi_yes hz hop hi21 (by omega)).1 | exact (rfi_z (st := []) hz).1), rfl, LMat.castX (by first | exact (rfi_leaf hz hop).2 | exact (rfi_no hz hop hi21 (by omega) hch hb9).2 | (rw [neg_same hpa hng]; exact (rfi_yes hz hop hi21 (by omega)).2) | (rw [neg_same hpa hng]; exact (rfi_z hz).2)) o58⟩
      ·have c59r := c59
       try simp only [smpE] at c59
       have hb9 := nb_F c59r
       refine sk (qc (cr (ic9 rfl rfl (by omega) ?_)))
       refine mv rfl (ln (tk [bxS b [v54] 29, H55, K56] ?_))
       refine rL ((q + 1), (s1 ++ (refF j m ((prop m ds).set (opI (prop m ds)).toNat (iand ((prop m ds).getD (opI (prop m ds)).toNat 0) (ishl (1 : Int) ((valsI ((prop m ds).getD (opI (prop m ds)).toNat 0)).getD q 0)))) ((pa ++ [(⟨(opI (prop m ds)), ((valsI ((prop m ds).getD (opI (prop m ds)).toNat 0)).getD q 0), false⟩ : Lit)]).map negL)).1), v54, H55, us57, K56) (by omega) (⟨by omega, (rfi_step hi21 (by omega) rfl hch hb9 ref_len), o58⟩) (pc 29 rfl pn) (pk [1, 2, 3, 4, 9, 27, 28] rfl) rfl slr9
     ·refine kl_bd rfl (cp rfl (cp rfl cp_nil)) rfl ?_
      refine ln (qa nsl (kt_b 7 11 rfl rfl (by kernel_rfl) ?_ ?_))
      ·refine kl_callL rfl rfl (cloneL_ok pa (by omega) ‹_›) (fun v60 H61 f62 o63 => ?_)
       refine ln (qa nsl (ta 11 rfl (kl_bsQ rfl (fun v64 H65 f66 r67 h68 => ?_))))
       refine ln (qa nsl (ta 12 rfl (aL9 (⟨(opI (prop m ds)), ((valsI ((prop m ds).getD (opI (prop m ds)).toNat 0)).getD q 0), false⟩ : Lit) rfl rfl o63 r67 rfl (oc rfl (oc rfl (oc rfl oc_nil))) (by (first | omega | (simp; omega) | (have h9 := rfi_b hi21 (by omega) hst; omega))) (by decide) (fun v69 H70 o71 f72 => ?_))))
       have f73 := f72 B f62 (Nat.le_refl _)
       refine ln (qa nsl (ta 14 rfl (cT rfl rfl (ih j (by omega) m ((prop m ds).set (opI (prop m ds)).toNat (iand ((prop m ds).getD (opI (prop m ds)).toNat 0) (ishl (1 : Int) ((valsI ((prop m ds).getD (opI (prop m ds)).toNat 0)).getD q 0)))) (pa ++ [(⟨(opI (prop m ds)), ((valsI ((prop m ds).getD (opI (prop m ds)).toNat 0)).getD q 0), false⟩ : Lit)]) s1 hM (by rw [hle]; exact set_ok hp.ok hvv) (path_chI hpp hpn hop hvv hle) (by simp; omega) (rf_room (by omega) hi21.n (by unfold tN at hst; omega)) hmd hmc ‹_› (OwnL.lits o71) o23) (fun v74 L1 Ln K75 h76 g77 g78 => ?_))))
       obtain ⟨rfl, v79, H80, K81, us82, rfl, rfl, o83⟩ := h76
       refine nm ?_
       have hch : refF j m ((prop m ds).set (opI (prop m ds)).toNat (iand ((prop m ds).getD (opI (prop m ds)).toNat 0) (ishl (1 : Int) ((valsI ((prop m ds).getD (opI (prop m ds)).toNat 0)).getD q 0)))) ((pa ++ [(⟨(opI (prop m ds)), ((valsI ((prop m ds).getD (opI (prop m ds)).toNat 0)).getD q 0), false⟩ : Lit)]).map negL) = chR j m (prop m ds) (pa.map negL) ((valsI ((prop m ds).getD (Int.toNat (opI (prop m ds))) 0)).getD q 0) := rf_ch hle
       refine ln (qx rfl (tq 15 nsl rfl (nt9 rfl (ln (qq (kt_end (by kernel_rfl) ?_))))))
       refine qc (cd9 rfl (fun c84 => ?_) (fun c84 => ?_))
       ·have c84r := c84
        try simp only [smpE] at c84
        have hb9 := nb_T c84r
        refine cS (cr (sg rfl (ln (qc (rt ?_)))))
        exact kq_retT rfl rfl [bxS b [v79] 29, H80, K81] [] noHp frn (fr_no _) ⟨rfl, v79, H80, K81, us82, congrArg Value.bool (by first | exact (rfi_leaf (st := []) hz hop).1 | exact (rfi_no hz hop hi21 (by omega) hch hb9).1 | exact (rfi_yes hz hop hi21 (by omega)).1 | exact (rfi_z (st := []) hz).1), rfl, LMat.castX (by first | exact (rfi_leaf hz hop).2 | exact (rfi_no hz hop hi21 (by omega) hch hb9).2 | (rw [neg_same hpa hng]; exact (rfi_yes hz hop hi21 (by omega)).2) | (rw [neg_same hpa hng]; exact (rfi_z hz).2)) o83⟩
       ·have c84r := c84
        try simp only [smpE] at c84
        have hb9 := nb_F c84r
        refine sk (qc (cr (ic9 rfl rfl (by omega) ?_)))
        refine mv rfl (ln (tk [bxS b [v79] 29, H80, K81] ?_))
        refine rL ((q + 1), (s1 ++ (refF j m ((prop m ds).set (opI (prop m ds)).toNat (iand ((prop m ds).getD (opI (prop m ds)).toNat 0) (ishl (1 : Int) ((valsI ((prop m ds).getD (opI (prop m ds)).toNat 0)).getD q 0)))) ((pa ++ [(⟨(opI (prop m ds)), ((valsI ((prop m ds).getD (opI (prop m ds)).toNat 0)).getD q 0), false⟩ : Lit)]).map negL)).1), v79, H80, us82, K81) (by omega) (⟨by omega, (rfi_step hi21 (by omega) rfl hch hb9 ref_len), o83⟩) (pc 29 rfl pn) (pk [1, 2, 3, 4, 9, 27, 28] rfl) rfl slr9
      ·refine kl_bsQ rfl (fun v85 H86 f87 r88 h89 => ?_)
       refine ln (qa nsl (ta 7 rfl (kl_callL rfl rfl (cloneL_ok pa (by omega) ‹_›) (fun v90 H91 f92 o93 => ?_))))
       refine ln (qa nsl (ta 12 rfl (aL9 (⟨(opI (prop m ds)), ((valsI ((prop m ds).getD (opI (prop m ds)).toNat 0)).getD q 0), false⟩ : Lit) rfl rfl o93 r88 rfl (oc rfl (oc rfl (oc rfl oc_nil))) (by (first | omega | (simp; omega) | (have h9 := rfi_b hi21 (by omega) hst; omega))) (by decide) (fun v94 H95 o96 f97 => ?_))))
       have f98 := f97 B f92 (Nat.le_refl _)
       refine ln (qa nsl (ta 14 rfl (cT rfl rfl (ih j (by omega) m ((prop m ds).set (opI (prop m ds)).toNat (iand ((prop m ds).getD (opI (prop m ds)).toNat 0) (ishl (1 : Int) ((valsI ((prop m ds).getD (opI (prop m ds)).toNat 0)).getD q 0)))) (pa ++ [(⟨(opI (prop m ds)), ((valsI ((prop m ds).getD (opI (prop m ds)).toNat 0)).getD q 0), false⟩ : Lit)]) s1 hM (by rw [hle]; exact set_ok hp.ok hvv) (path_chI hpp hpn hop hvv hle) (by simp; omega) (rf_room (by omega) hi21.n (by unfold tN at hst; omega)) hmd hmc ‹_› (OwnL.lits o96) o23) (fun v99 L1 Ln K100 h101 g102 g103 => ?_))))
       obtain ⟨rfl, v104, H105, K106, us107, rfl, rfl, o108⟩ := h101
       refine nm ?_
       have hch : refF j m ((prop m ds).set (opI (prop m ds)).toNat (iand ((prop m ds).getD (opI (prop m ds)).toNat 0) (ishl (1 : Int) ((valsI ((prop m ds).getD (opI (prop m ds)).toNat 0)).getD q 0)))) ((pa ++ [(⟨(opI (prop m ds)), ((valsI ((prop m ds).getD (opI (prop m ds)).toNat 0)).getD q 0), false⟩ : Lit)]).map negL) = chR j m (prop m ds) (pa.map negL) ((valsI ((prop m ds).getD (Int.toNat (opI (prop m ds))) 0)).getD q 0) := rf_ch hle
       refine ln (qx rfl (tq 15 nsl rfl (nt9 rfl (ln (qq (kt_end (by kernel_rfl) ?_))))))
       refine qc (cd9 rfl (fun c109 => ?_) (fun c109 => ?_))
       ·have c109r := c109
        try simp only [smpE] at c109
        have hb9 := nb_T c109r
        refine cS (cr (sg rfl (ln (qc (rt ?_)))))
        exact kq_retT rfl rfl [bxS b [v104] 29, H105, K106] [] noHp frn (fr_no _) ⟨rfl, v104, H105, K106, us107, congrArg Value.bool (by first | exact (rfi_leaf (st := []) hz hop).1 | exact (rfi_no hz hop hi21 (by omega) hch hb9).1 | exact (rfi_yes hz hop hi21 (by omega)).1 | exact (rfi_z (st := []) hz).1), rfl, LMat.castX (by first | exact (rfi_leaf hz hop).2 | exact (rfi_no hz hop hi21 (by omega) hch hb9).2 | (rw [neg_same hpa hng]; exact (rfi_yes hz hop hi21 (by omega)).2) | (rw [neg_same hpa hng]; exact (rfi_z hz).2)) o108⟩
       ·have c109r := c109
        try simp only [smpE] at c109
        have hb9 := nb_F c109r
        refine sk (qc (cr (ic9 rfl rfl (by omega) ?_)))
        refine mv rfl (ln (tk [bxS b [v104] 29, H105, K106] ?_))
        refine rL ((q + 1), (s1 ++ (refF j m ((prop m ds).set (opI (prop m ds)).toNat (iand ((prop m ds).getD (opI (prop m ds)).toNat 0) (ishl (1 : Int) ((valsI ((prop m ds).getD (opI (prop m ds)).toNat 0)).getD q 0)))) ((pa ++ [(⟨(opI (prop m ds)), ((valsI ((prop m ds).getD (opI (prop m ds)).toNat 0)).getD q 0), false⟩ : Lit)]).map negL)).1), v104, H105, us107, K106) (by omega) (⟨by omega, (rfi_step hi21 (by omega) rfl hch hb9 ref_len), o108⟩) (pc 29 rfl pn) (pk [1, 2, 3, 4, 9, 27, 28] rfl) rfl slr9
    ·refine kl_bd rfl (cp rfl (cp rfl cp_nil)) rfl ?_
     refine ln (qa nsl (kt_b 5 11 rfl rfl (by kernel_rfl) ?_ ?_))
     ·refine kl_call rfl rfl (limited_ok (prop m ds) (opI (prop m ds)) (ishl (1 : Int) ((valsI ((prop m ds).getD (opI (prop m ds)).toNat 0)).getD q 0)) (by omega) (by omega) ‹_›) (fun v110 H111 f112 h113 => ?_)
      refine ln (qa nsl (kt_b 7 11 rfl rfl (by kernel_rfl) ?_ ?_))
      ·refine kl_callL rfl rfl (cloneL_ok pa (by omega) ‹_›) (fun v114 H115 f116 o117 => ?_)
       refine ln (qa nsl (ta 11 rfl (kl_bsQ rfl (fun v118 H119 f120 r121 h122 => ?_))))
       refine ln (qa nsl (ta 12 rfl (aL9 (⟨(opI (prop m ds)), ((valsI ((prop m ds).getD (opI (prop m ds)).toNat 0)).getD q 0), false⟩ : Lit) rfl rfl o117 r121 rfl (oc rfl (oc rfl (oc rfl oc_nil))) (by (first | omega | (simp; omega) | (have h9 := rfi_b hi21 (by omega) hst; omega))) (by decide) (fun v123 H124 o125 f126 => ?_))))
       have f127 := f126 B f116 (Nat.le_refl _)
       refine ln (qa nsl (ta 14 rfl (cT rfl rfl (ih j (by omega) m ((prop m ds).set (opI (prop m ds)).toNat (iand ((prop m ds).getD (opI (prop m ds)).toNat 0) (ishl (1 : Int) ((valsI ((prop m ds).getD (opI (prop m ds)).toNat 0)).getD q 0)))) (pa ++ [(⟨(opI (prop m ds)), ((valsI ((prop m ds).getD (opI (prop m ds)).toNat 0)).getD q 0), false⟩ : Lit)]) s1 hM (by rw [hle]; exact set_ok hp.ok hvv) (path_chI hpp hpn hop hvv hle) (by simp; omega) (rf_room (by omega) hi21.n (by unfold tN at hst; omega)) hmd hmc ‹_› (OwnL.lits o125) o23) (fun v128 L1 Ln K129 h130 g131 g132 => ?_))))
       obtain ⟨rfl, v133, H134, K135, us136, rfl, rfl, o137⟩ := h130
       refine nm ?_
       have hch : refF j m ((prop m ds).set (opI (prop m ds)).toNat (iand ((prop m ds).getD (opI (prop m ds)).toNat 0) (ishl (1 : Int) ((valsI ((prop m ds).getD (opI (prop m ds)).toNat 0)).getD q 0)))) ((pa ++ [(⟨(opI (prop m ds)), ((valsI ((prop m ds).getD (opI (prop m ds)).toNat 0)).getD q 0), false⟩ : Lit)]).map negL) = chR j m (prop m ds) (pa.map negL) ((valsI ((prop m ds).getD (Int.toNat (opI (prop m ds))) 0)).getD q 0) := rf_ch hle
       refine ln (qx rfl (tq 15 nsl rfl (nt9 rfl (ln (qq (kt_end (by kernel_rfl) ?_))))))
       refine qc (cd9 rfl (fun c138 => ?_) (fun c138 => ?_))
       ·have c138r := c138
        try simp only [smpE] at c138
        have hb9 := nb_T c138r
        refine cS (cr (sg rfl (ln (qc (rt ?_)))))
        exact kq_retT rfl rfl [bxS b [v133] 29, H134, K135] [] noHp frn (fr_no _) ⟨rfl, v133, H134, K135, us136, congrArg Value.bool (by first | exact (rfi_leaf (st := []) hz hop).1 | exact (rfi_no hz hop hi21 (by omega) hch hb9).1 | exact (rfi_yes hz hop hi21 (by omega)).1 | exact (rfi_z (st := []) hz).1), rfl, LMat.castX (by first | exact (rfi_leaf hz hop).2 | exact (rfi_no hz hop hi21 (by omega) hch hb9).2 | (rw [neg_same hpa hng]; exact (rfi_yes hz hop hi21 (by omega)).2) | (rw [neg_same hpa hng]; exact (rfi_z hz).2)) o137⟩
       ·have c138r := c138
        try simp only [smpE] at c138
        have hb9 := nb_F c138r
        refine sk (qc (cr (ic9 rfl rfl (by omega) ?_)))
        refine mv rfl (ln (tk [bxS b [v133] 29, H134, K135] ?_))
        refine rL ((q + 1), (s1 ++ (refF j m ((prop m ds).set (opI (prop m ds)).toNat (iand ((prop m ds).getD (opI (prop m ds)).toNat 0) (ishl (1 : Int) ((valsI ((prop m ds).getD (opI (prop m ds)).toNat 0)).getD q 0)))) ((pa ++ [(⟨(opI (prop m ds)), ((valsI ((prop m ds).getD (opI (prop m ds)).toNat 0)).getD q 0), false⟩ : Lit)]).map negL)).1), v133, H134, us136, K135) (by omega) (⟨by omega, (rfi_step hi21 (by omega) rfl hch hb9 ref_len), o137⟩) (pc 29 rfl pn) (pk [1, 2, 3, 4, 9, 27, 28] rfl) rfl slr9
      ·refine kl_bsQ rfl (fun v139 H140 f141 r142 h143 => ?_)
       refine ln (qa nsl (ta 7 rfl (kl_callL rfl rfl (cloneL_ok pa (by omega) ‹_›) (fun v144 H145 f146 o147 => ?_))))
       refine ln (qa nsl (ta 12 rfl (aL9 (⟨(opI (prop m ds)), ((valsI ((prop m ds).getD (opI (prop m ds)).toNat 0)).getD q 0), false⟩ : Lit) rfl rfl o147 r142 rfl (oc rfl (oc rfl (oc rfl oc_nil))) (by (first | omega | (simp; omega) | (have h9 := rfi_b hi21 (by omega) hst; omega))) (by decide) (fun v148 H149 o150 f151 => ?_))))
       have f152 := f151 B f146 (Nat.le_refl _)
       refine ln (qa nsl (ta 14 rfl (cT rfl rfl (ih j (by omega) m ((prop m ds).set (opI (prop m ds)).toNat (iand ((prop m ds).getD (opI (prop m ds)).toNat 0) (ishl (1 : Int) ((valsI ((prop m ds).getD (opI (prop m ds)).toNat 0)).getD q 0)))) (pa ++ [(⟨(opI (prop m ds)), ((valsI ((prop m ds).getD (opI (prop m ds)).toNat 0)).getD q 0), false⟩ : Lit)]) s1 hM (by rw [hle]; exact set_ok hp.ok hvv) (path_chI hpp hpn hop hvv hle) (by simp; omega) (rf_room (by omega) hi21.n (by unfold tN at hst; omega)) hmd hmc ‹_› (OwnL.lits o150) o23) (fun v153 L1 Ln K154 h155 g156 g157 => ?_))))
       obtain ⟨rfl, v158, H159, K160, us161, rfl, rfl, o162⟩ := h155
       refine nm ?_
       have hch : refF j m ((prop m ds).set (opI (prop m ds)).toNat (iand ((prop m ds).getD (opI (prop m ds)).toNat 0) (ishl (1 : Int) ((valsI ((prop m ds).getD (opI (prop m ds)).toNat 0)).getD q 0)))) ((pa ++ [(⟨(opI (prop m ds)), ((valsI ((prop m ds).getD (opI (prop m ds)).toNat 0)).getD q 0), false⟩ : Lit)]).map negL) = chR j m (prop m ds) (pa.map negL) ((valsI ((prop m ds).getD (Int.toNat (opI (prop m ds))) 0)).getD q 0) := rf_ch hle
       refine ln (qx rfl (tq 15 nsl rfl (nt9 rfl (ln (qq (kt_end (by kernel_rfl) ?_))))))
       refine qc (cd9 rfl (fun c163 => ?_) (fun c163 => ?_))
       ·have c163r := c163
        try simp only [smpE] at c163
        have hb9 := nb_T c163r
        refine cS (cr (sg rfl (ln (qc (rt ?_)))))
        exact kq_retT rfl rfl [bxS b [v158] 29, H159, K160] [] noHp frn (fr_no _) ⟨rfl, v158, H159, K160, us161, congrArg Value.bool (by first | exact (rfi_leaf (st := []) hz hop).1 | exact (rfi_no hz hop hi21 (by omega) hch hb9).1 | exact (rfi_yes hz hop hi21 (by omega)).1 | exact (rfi_z (st := []) hz).1), rfl, LMat.castX (by first | exact (rfi_leaf hz hop).2 | exact (rfi_no hz hop hi21 (by omega) hch hb9).2 | (rw [neg_same hpa hng]; exact (rfi_yes hz hop hi21 (by omega)).2) | (rw [neg_same hpa hng]; exact (rfi_z hz).2)) o162⟩
       ·have c163r := c163
        try simp only [smpE] at c163
        have hb9 := nb_F c163r
        refine sk (qc (cr (ic9 rfl rfl (by omega) ?_)))
        refine mv rfl (ln (tk [bxS b [v158] 29, H159, K160] ?_))
        refine rL ((q + 1), (s1 ++ (refF j m ((prop m ds).set (opI (prop m ds)).toNat (iand ((prop m ds).getD (opI (prop m ds)).toNat 0) (ishl (1 : Int) ((valsI ((prop m ds).getD (opI (prop m ds)).toNat 0)).getD q 0)))) ((pa ++ [(⟨(opI (prop m ds)), ((valsI ((prop m ds).getD (opI (prop m ds)).toNat 0)).getD q 0), false⟩ : Lit)]).map negL)).1), v158, H159, us161, K160) (by omega) (⟨by omega, (rfi_step hi21 (by omega) rfl hch hb9 ref_len), o162⟩) (pc 29 rfl pn) (pk [1, 2, 3, 4, 9, 27, 28] rfl) rfl slr9
     ·refine kl_bsQ rfl (fun v164 H165 f166 r167 h168 => ?_)
      refine ln (qa nsl (ta 5 rfl (kl_call rfl rfl (limited_ok (prop m ds) (opI (prop m ds)) (ishl (1 : Int) ((valsI ((prop m ds).getD (opI (prop m ds)).toNat 0)).getD q 0)) (by omega) (by omega) ‹_›) (fun v169 H170 f171 h172 => ?_))))
      refine ln (qa nsl (ta 7 rfl (kl_callL rfl rfl (cloneL_ok pa (by omega) ‹_›) (fun v173 H174 f175 o176 => ?_))))
      refine ln (qa nsl (ta 12 rfl (aL9 (⟨(opI (prop m ds)), ((valsI ((prop m ds).getD (opI (prop m ds)).toNat 0)).getD q 0), false⟩ : Lit) rfl rfl o176 r167 rfl (oc rfl (oc rfl (oc rfl oc_nil))) (by (first | omega | (simp; omega) | (have h9 := rfi_b hi21 (by omega) hst; omega))) (by decide) (fun v177 H178 o179 f180 => ?_))))
      have f181 := f180 B f175 (Nat.le_refl _)
      refine ln (qa nsl (ta 14 rfl (cT rfl rfl (ih j (by omega) m ((prop m ds).set (opI (prop m ds)).toNat (iand ((prop m ds).getD (opI (prop m ds)).toNat 0) (ishl (1 : Int) ((valsI ((prop m ds).getD (opI (prop m ds)).toNat 0)).getD q 0)))) (pa ++ [(⟨(opI (prop m ds)), ((valsI ((prop m ds).getD (opI (prop m ds)).toNat 0)).getD q 0), false⟩ : Lit)]) s1 hM (by rw [hle]; exact set_ok hp.ok hvv) (path_chI hpp hpn hop hvv hle) (by simp; omega) (rf_room (by omega) hi21.n (by unfold tN at hst; omega)) hmd hmc ‹_› (OwnL.lits o179) o23) (fun v182 L1 Ln K183 h184 g185 g186 => ?_))))
      obtain ⟨rfl, v187, H188, K189, us190, rfl, rfl, o191⟩ := h184
      refine nm ?_
      have hch : refF j m ((prop m ds).set (opI (prop m ds)).toNat (iand ((prop m ds).getD (opI (prop m ds)).toNat 0) (ishl (1 : Int) ((valsI ((prop m ds).getD (opI (prop m ds)).toNat 0)).getD q 0)))) ((pa ++ [(⟨(opI (prop m ds)), ((valsI ((prop m ds).getD (opI (prop m ds)).toNat 0)).getD q 0), false⟩ : Lit)]).map negL) = chR j m (prop m ds) (pa.map negL) ((valsI ((prop m ds).getD (Int.toNat (opI (prop m ds))) 0)).getD q 0) := rf_ch hle
      refine ln (qx rfl (tq 15 nsl rfl (nt9 rfl (ln (qq (kt_end (by kernel_rfl) ?_))))))
      refine qc (cd9 rfl (fun c192 => ?_) (fun c192 => ?_))
      ·have c192r := c192
       try simp only [smpE] at c192
       have hb9 := nb_T c192r
       refine cS (cr (sg rfl (ln (qc (rt ?_)))))
       exact kq_retT rfl rfl [bxS b [v187] 29, H188, K189] [] noHp frn (fr_no _) ⟨rfl, v187, H188, K189, us190, congrArg Value.bool (by first | exact (rfi_leaf (st := []) hz hop).1 | exact (rfi_no hz hop hi21 (by omega) hch hb9).1 | exact (rfi_yes hz hop hi21 (by omega)).1 | exact (rfi_z (st := []) hz).1), rfl, LMat.castX (by first | exact (rfi_leaf hz hop).2 | exact (rfi_no hz hop hi21 (by omega) hch hb9).2 | (rw [neg_same hpa hng]; exact (rfi_yes hz hop hi21 (by omega)).2) | (rw [neg_same hpa hng]; exact (rfi_z hz).2)) o191⟩
      ·have c192r := c192
       try simp only [smpE] at c192
       have hb9 := nb_F c192r
       refine sk (qc (cr (ic9 rfl rfl (by omega) ?_)))
       refine mv rfl (ln (tk [bxS b [v187] 29, H188, K189] ?_))
       refine rL ((q + 1), (s1 ++ (refF j m ((prop m ds).set (opI (prop m ds)).toNat (iand ((prop m ds).getD (opI (prop m ds)).toNat 0) (ishl (1 : Int) ((valsI ((prop m ds).getD (opI (prop m ds)).toNat 0)).getD q 0)))) ((pa ++ [(⟨(opI (prop m ds)), ((valsI ((prop m ds).getD (opI (prop m ds)).toNat 0)).getD q 0), false⟩ : Lit)]).map negL)).1), v187, H188, us190, K189) (by omega) (⟨by omega, (rfi_step hi21 (by omega) rfl hch hb9 ref_len), o191⟩) (pc 29 rfl pn) (pk [1, 2, 3, 4, 9, 27, 28] rfl) rfl slr9
   ·refine ex9 (qc (cS (kc_tree (fun i => ([9] : List Nat).contains i) [bxS b [v24] 29] (by kernel_rfl) ?_)))
    refine tq 0 (.cons_cons _ nsl) rfl (mv rfl (ln (qq (tq 1 (.cons_cons _ nsl) rfl (mv rfl (ln (qq (tq 2 (.cons_cons _ nsl) rfl (kl_nilchk rfl ?_)))))))))
    refine ln (qq (tq 3 (.cons_cons _ nsl) rfl (ld rfl (at_box (T := 29) (cs := [v24]) (off := 0) (fz := (0, 0))) (ln (qq (tq 4 (.cons_cons _ nsl) rfl (mv rfl (ln (qq (ta 5 rfl (kl_callL rfl rfl (negsO_ok pa hnd (by omega) ‹_›) (fun v193 H194 f195 h196 => ?_))))))))))))
    obtain ⟨y197, o198, h199⟩ := h196
    have hng := h199
    refine ln (qa (.cons _ (.cons_cons _ nsl)) (ta 6 rfl (bs9 rfl rfl rfl (by decide) (ca (by first | exact Sl.cells ‹_› | exact OwnL.cells ‹_›) ca_nil) (fun v201 H202 f203 r204 s205 => ?_))))
    refine ln (qa (.cons _ (.cons_cons _ nsl)) (ta 7 rfl (kl_apart K22 H194 (fun a211 => ?_))))
    refine kl_app rfl rfl o23.hd ‹_› (oc (OwnL.oneCell o198) oc_nil) (by (first | omega | (simp; omega) | (have h9 := rfi_b hi21 (by omega) hst; omega))) (by decide) (fun v206 H207 o208 f209 => ?_)
    have m212 := LMat.push o23 o208 o198 a211
    refine ln (qa (.cons _ (.cons_cons _ nsl)) (kt_mrg K22 H194 ?_))
    refine kt_q 8 (.cons _ (.cons_cons _ nsl)) rfl (by kernel_rfl) (kl_nilchk rfl ?_)
    refine ln (qq (ta 9 rfl (sB rfl rfl rfl (LMat.oneCell ‹_›) (LMat.cells ‹_›) ?_)))
    refine cg [(orHp K22 H194), bxS b [v206] 29, H207] rfl ?_
    refine ln (qx rfl (kt_end (by kernel_rfl) ?_))
    refine qc (cS (cr (sg rfl (ln (qc (rt ?_))))))
    exact kq_retT rfl rfl [bxS b [v206] 29, H207, (orHp K22 H194)] [] noHp frn (fr_no _) ⟨rfl, v206, H207, (orHp K22 H194), (us26 ++ [v193]), congrArg Value.bool (by first | exact (rfi_leaf (st := []) hz hop).1 | exact (rfi_no hz hop hi21 (by omega) hch hb9).1 | exact (rfi_yes hz hop hi21 (by omega)).1 | exact (rfi_z (st := []) hz).1), rfl, LMat.castX (by first | exact (rfi_leaf hz hop).2 | exact (rfi_no hz hop hi21 (by omega) hch hb9).2 | (rw [neg_same hpa hng]; exact (rfi_yes hz hop hi21 (by omega)).2) | (rw [neg_same hpa hng]; exact (rfi_z hz).2)) m212⟩
 ·have hz : (prop m ds).contains 0 = true := (prop_first hM hd).1 (Decidable.not_not.1 c11)
  refine sk (qc (cS (kc_tree (fun i => ([9] : List Nat).contains i) [bxS b [vf] 29] (by kernel_rfl) ?_)))
  refine tq 0 (.cons_cons _ nsl) rfl (mv rfl (ln (qq (tq 1 (.cons_cons _ nsl) rfl (mv rfl (ln (qq (tq 2 (.cons_cons _ nsl) rfl (kl_nilchk rfl ?_)))))))))
  refine ln (qq (tq 3 (.cons_cons _ nsl) rfl (ld rfl (at_box (T := 29) (cs := [vf]) (off := 0) (fz := (0, 0))) (ln (qq (tq 4 (.cons_cons _ nsl) rfl (mv rfl (ln (qq (ta 5 rfl (kl_callL rfl rfl (negsO_ok pa hnd (by omega) ‹_›) (fun v213 H214 f215 h216 => ?_))))))))))))
  obtain ⟨y217, o218, h219⟩ := h216
  have hng := h219
  refine ln (qa (.cons _ (.cons_cons _ nsl)) (ta 6 rfl (bs9 rfl rfl rfl (by decide) (ca (by first | exact Sl.cells ‹_› | exact OwnL.cells ‹_›) ca_nil) (fun v221 H222 f223 r224 s225 => ?_))))
  refine ln (qa (.cons _ (.cons_cons _ nsl)) (ta 7 rfl (kl_apart Kf H214 (fun a231 => ?_))))
  refine kl_app rfl rfl of.hd ‹_› (oc (OwnL.oneCell o218) oc_nil) (by (first | omega | (simp; omega) | (have h9 := rfi_b hi21 (by omega) hst; omega))) (by decide) (fun v226 H227 o228 f229 => ?_)
  have m232 := LMat.push of o228 o218 a231
  refine ln (qa (.cons _ (.cons_cons _ nsl)) (kt_mrg Kf H214 ?_))
  refine kt_q 8 (.cons _ (.cons_cons _ nsl)) rfl (by kernel_rfl) (kl_nilchk rfl ?_)
  refine ln (qq (ta 9 rfl (sB rfl rfl rfl (LMat.oneCell ‹_›) (LMat.cells ‹_›) ?_)))
  refine cg [(orHp Kf H214), bxS b [v226] 29, H227] rfl ?_
  refine ln (qx rfl (kt_end (by kernel_rfl) ?_))
  refine qc (cS (cr (sg rfl (ln (qc (rt ?_))))))
  exact kq_retT rfl rfl [bxS b [v226] 29, H227, (orHp Kf H214)] [] noHp frn (fr_no _) ⟨rfl, v226, H227, (orHp Kf H214), (us ++ [v213]), congrArg Value.bool (by first | exact (rfi_leaf (st := []) hz hop).1 | exact (rfi_no hz hop hi21 (by omega) hch hb9).1 | exact (rfi_yes hz hop hi21 (by omega)).1 | exact (rfi_z (st := []) hz).1), rfl, LMat.castX (by first | exact (rfi_leaf hz hop).2 | exact (rfi_no hz hop hi21 (by omega) hch hb9).2 | (rw [neg_same hpa hng]; exact (rfi_yes hz hop hi21 (by omega)).2) | (rw [neg_same hpa hng]; exact (rfi_z hz).2)) m232⟩
theorem refuteI_ok (k : Nat) : refuteISt k := by
 induction k using Nat.strongRecOn with
 | _ k ih => exact @refuteI_step k ih
end
section
theorem withI_ok {Hmd : Hp} {vmd : Value} {Hmc : Hp} {vmc : Value} {Hcv : Hp} {vcv : Value} {Hca : Hp} {vca : Value} {Hcr : Hp} {vcr : Value} (m : Mod) (c : Con) (hl : m.cons.length ≤ 100) (hmd : Ints Hmd vmd m.doms) (hmc : Cons Hmc vmc m.cons) (hcv : Ints Hcv vcv c.vars) (hca : Ints Hca vca c.args) (hcr : Rows Hcr vcr c.rows) : Spec Tryz.prog 109 [.agg #[vmd, vmc], .agg #[.int .i64 c.kind, vcv, vca, .int .i64 c.bound, vcr]] [Hmd, Hmc, Hcv, Hca, Hcr] (fun Hq vq => ∃ (mq : Mod) (bq : Bool) (uq0a uq0b : Value), vq = .tuple #[.agg #[uq0a, uq0b], .bool bq] ∧ Ints Hq uq0a mq.doms ∧ Cons Hq uq0b mq.cons ∧ (mq, bq) = wcR m c) := by
 refine spec_ofR Tryz.func109 rfl rfl rfl (fun B => ?_)
 refine cS (cr (kl_box rfl rfl (fun p1 H2 f3 a4 => ?_)))
 refine kl_box rfl rfl (fun p5 H6 f7 a8 => ?_)
 refine kl_alloc (cs := [.slice none 0 0, .slice none 0 0]) rfl (fun b9 hb10 => ?_)
 refine sg rfl (ln (qc (cS (kc_tree (fun i => ([8, 10] : List Nat).contains i) [] (by kernel_rfl) ?_))))
 refine tq 0 nsl rfl (fd9 rfl ‹_› (fun p11 a12 => ?_))
 refine ln (qq (tq 1 nsl rfl (ld rfl ‹_› (ln (qq (tq 2 nsl rfl (fd9 rfl ‹_› (fun p13 a14 => ?_))))))))
 refine ln (qq (tq 3 nsl rfl (ld rfl ‹_› (ln (qq (tq 5 nsl rfl (kl_ldS rfl ‹_› rfl ?_)))))))
 refine ln (qq (kt_c 4 6 9 rfl rfl rfl (by kernel_rfl) ?_ ?_ ?_))
 ·refine kl_callL rfl rfl (cloneC_ok m.cons (by omega) ‹_›) (fun v15 H16 f17 o18 => ?_)
  refine ln (qa nsl (kt_b 6 9 rfl rfl (by kernel_rfl) ?_ ?_))
  ·refine kl_bsK rfl (fun v19 H20 f21 r22 => ?_)
   refine ln (qa nsl (kt_b 7 9 rfl rfl (by kernel_rfl) ?_ ?_))
   ·refine cm9 Hmc Hcv (fun c23 => ?_)
    have o24 := OwnL.mono (K' := orHp Hmc Hcv) o18 orL
    refine cm9 (orHp Hmc Hcv) Hca (fun c25 => ?_)
    have o26 := OwnL.mono (K' := orHp (orHp Hmc Hcv) Hca) o24 orL
    refine cm9 (orHp (orHp Hmc Hcv) Hca) Hcr (fun c27 => ?_)
    have o28 := OwnL.mono (K' := orHp (orHp (orHp Hmc Hcv) Hca) Hcr) o26 orL
    refine aL9 c rfl rfl o28 r22 ⟨_, _, _, rfl, (Sl.mono ‹_› (fun b o h => orL b o (orL b o (orC c23 b o h))) (fun _ _ h => h)), (Sl.mono ‹_› (fun b o h => orL b o (orC c25 b o h)) (fun _ _ h => h)), (Rows.mono' ‹_› (fun b o h => orC c27 b o h))⟩ (oc rfl (oc (Sl.oneCell ‹_›) (oc (Sl.oneCell ‹_›) (oc rfl (oc (Sl.oneCell ‹_›) oc_nil))))) (by (simp; omega)) (by decide) (fun v29 H30 o31 f32 => ?_)
    have f33 := f32 B f17 (Nat.le_refl _)
    refine ln (qa nsl (kt_b 8 9 rfl rfl (by kernel_rfl) ?_ ?_))
    ·refine kl_bd rfl (cp (Sl.cells ‹_›) (cp (OwnL.cells ‹_›) cp_nil)) rfl ?_
     refine ln (qx rfl (ta 9 rfl (kl_alloc (cs := [.slice none 0 0, .slice none 0 0]) rfl (fun b34 hb35 => ?_))))
     refine ln (qa nsl (ta 10 rfl (kl_stW (us := [vmd, v29]) rfl rfl rfl rfl (oc (Sl.oneCell ‹_›) (oc (OwnL.oneCell ‹_›) oc_nil)) rfl ?_)))
     refine cg [bxS b34 [vmd, v29] 26, H30, bxS b9 [.slice none 0 0, .slice none 0 0] 26] rfl ?_
     refine ln (qx rfl (kt_end (by kernel_rfl) ?_))
     refine qc (cS (cS (cr (kl_ldW rfl rfl (cm9 H30 (orHp (orHp (orHp Hmc Hcv) Hca) Hcr) (fun c37 => ?_))))))
     have h36 := OwnL.consK o31 c37
     refine cP rfl rfl (validMod_ok (⟨m.doms, (m.cons ++ [c])⟩ : Mod) ‹_› ‹_›) ?_
     refine nt9 rfl (ln (qc (cd9 rfl (fun c38 => ?_) (fun c38 => ?_))))
     ·have c38r := c38
      try simp only [smpE] at c38
      have hv := c38r
      have hv2 : validModB (withC m c) = false := by simpa [withC] using hv
      refine cS (cr (kl_bd rfl cp_nil rfl ?_))
      refine kl_stW (us := [.slice none 0 0, .slice none 0 0]) rfl rfl rfl rfl (oc rfl (oc rfl oc_nil)) rfl ?_
      refine cg [bxS b34 [vmd, v29] 26, H30, bxS b9 [.slice none 0 0, .slice none 0 0] 26] rfl ?_
      refine sg rfl (ln (qc (rt (kq_cmp noHp noHp (fun c39 => ?_)))))
      exact kq_retR (rss2 rfl (rs_agg rfl rfl) (rs_tmp rfl)) (orHp noHp noHp) (fr_or (fr_no _) (fr_no _)) ⟨(⟨[], []⟩ : Mod), false, _, _, rfl, (Sl.mono Sl.nil (fun b o h => orL b o h) (fun _ _ h => h)), (Sl.mono Sl.nil (fun b o h => orC c39 b o h) (fun _ _ h => h)), by first | exact (wc_no hv2).symm | exact (wc_yes hv2).symm⟩ .none
     ·have c38r := c38
      try simp only [smpE] at c38
      have hv := c38r
      have hv2 : validModB (withC m c) = true := by simpa [withC] using hv
      refine sk (qc (cS (cr (kl_ldW rfl rfl (cm9 H30 (orHp (orHp (orHp Hmc Hcv) Hca) Hcr) (fun c41 => ?_))))))
      have h40 := OwnL.consK o31 c41
      refine kl_call rfl rfl (copyModI_ok (⟨m.doms, (m.cons ++ [c])⟩ : Mod) (ok_small ⟨hv2⟩) ‹_› ‹_›) (fun v42 H43 f44 h45 => ?_)
      obtain ⟨u46, u47, rfl, h48, h49⟩ := h45
      refine kl_stW (us := [u46, u47]) rfl rfl rfl rfl (oc (Sl.oneCell ‹_›) (oc (Sl.oneCell ‹_›) oc_nil)) rfl ?_
      refine cg [bxS b34 [vmd, v29] 26, H30, bxS b9 [u46, u47] 26] rfl ?_
      refine sg rfl (ln (qc (rt (kq_cmp H43 H43 (fun c50 => ?_)))))
      exact kq_retR (rss2 rfl (rs_agg rfl rfl) (rs_tmp rfl)) (orHp H43 H43) (fr_or f44 f44) ⟨(⟨(⟨m.doms, (m.cons ++ [c])⟩ : Mod).doms, (⟨m.doms, (m.cons ++ [c])⟩ : Mod).cons⟩ : Mod), true, _, _, rfl, (Sl.mono ‹_› (fun b o h => orL b o h) (fun _ _ h => h)), (Cons.mono' ‹_› (fun b o h => orC c50 b o h)), by first | exact (wc_no hv2).symm | exact (wc_yes hv2).symm⟩ .none
    ·refine kl_alloc (cs := [.slice none 0 0, .slice none 0 0]) rfl (fun b51 hb52 => ?_)
     refine ln (qa nsl (ta 8 rfl (kl_bd rfl (cp (Sl.cells ‹_›) (cp (OwnL.cells ‹_›) cp_nil)) rfl ?_)))
     refine ln (qx rfl (ta 10 rfl (kl_stW (us := [vmd, v29]) rfl rfl rfl rfl (oc (Sl.oneCell ‹_›) (oc (OwnL.oneCell ‹_›) oc_nil)) rfl ?_)))
     refine cg [bxS b51 [vmd, v29] 26, H30, bxS b9 [.slice none 0 0, .slice none 0 0] 26] rfl ?_
     refine ln (qx rfl (kt_end (by kernel_rfl) ?_))
     refine qc (cS (cS (cr (kl_ldW rfl rfl (cm9 H30 (orHp (orHp (orHp Hmc Hcv) Hca) Hcr) (fun c54 => ?_))))))
     have h53 := OwnL.consK o31 c54
     refine cP rfl rfl (validMod_ok (⟨m.doms, (m.cons ++ [c])⟩ : Mod) ‹_› ‹_›) ?_
     refine nt9 rfl (ln (qc (cd9 rfl (fun c55 => ?_) (fun c55 => ?_))))
     ·have c55r := c55
      try simp only [smpE] at c55
      have hv := c55r
      have hv2 : validModB (withC m c) = false := by simpa [withC] using hv
      refine cS (cr (kl_bd rfl cp_nil rfl ?_))
      refine kl_stW (us := [.slice none 0 0, .slice none 0 0]) rfl rfl rfl rfl (oc rfl (oc rfl oc_nil)) rfl ?_
      refine cg [bxS b51 [vmd, v29] 26, H30, bxS b9 [.slice none 0 0, .slice none 0 0] 26] rfl ?_
      refine sg rfl (ln (qc (rt (kq_cmp noHp noHp (fun c56 => ?_)))))
      exact kq_retR (rss2 rfl (rs_agg rfl rfl) (rs_tmp rfl)) (orHp noHp noHp) (fr_or (fr_no _) (fr_no _)) ⟨(⟨[], []⟩ : Mod), false, _, _, rfl, (Sl.mono Sl.nil (fun b o h => orL b o h) (fun _ _ h => h)), (Sl.mono Sl.nil (fun b o h => orC c56 b o h) (fun _ _ h => h)), by first | exact (wc_no hv2).symm | exact (wc_yes hv2).symm⟩ .none
     ·have c55r := c55
      try simp only [smpE] at c55
      have hv := c55r
      have hv2 : validModB (withC m c) = true := by simpa [withC] using hv
      refine sk (qc (cS (cr (kl_ldW rfl rfl (cm9 H30 (orHp (orHp (orHp Hmc Hcv) Hca) Hcr) (fun c58 => ?_))))))
      have h57 := OwnL.consK o31 c58
      refine kl_call rfl rfl (copyModI_ok (⟨m.doms, (m.cons ++ [c])⟩ : Mod) (ok_small ⟨hv2⟩) ‹_› ‹_›) (fun v59 H60 f61 h62 => ?_)
      obtain ⟨u63, u64, rfl, h65, h66⟩ := h62
      refine kl_stW (us := [u63, u64]) rfl rfl rfl rfl (oc (Sl.oneCell ‹_›) (oc (Sl.oneCell ‹_›) oc_nil)) rfl ?_
      refine cg [bxS b51 [vmd, v29] 26, H30, bxS b9 [u63, u64] 26] rfl ?_
      refine sg rfl (ln (qc (rt (kq_cmp H60 H60 (fun c67 => ?_)))))
      exact kq_retR (rss2 rfl (rs_agg rfl rfl) (rs_tmp rfl)) (orHp H60 H60) (fr_or f61 f61) ⟨(⟨(⟨m.doms, (m.cons ++ [c])⟩ : Mod).doms, (⟨m.doms, (m.cons ++ [c])⟩ : Mod).cons⟩ : Mod), true, _, _, rfl, (Sl.mono ‹_› (fun b o h => orL b o h) (fun _ _ h => h)), (Cons.mono' ‹_› (fun b o h => orC c67 b o h)), by first | exact (wc_no hv2).symm | exact (wc_yes hv2).symm⟩ .none
   ·refine kl_alloc (cs := [.slice none 0 0, .slice none 0 0]) rfl (fun b68 hb69 => ?_)
    refine ln (qa nsl (ta 7 rfl (cm9 Hmc Hcv (fun c70 => ?_))))
    have o71 := OwnL.mono (K' := orHp Hmc Hcv) o18 orL
    refine cm9 (orHp Hmc Hcv) Hca (fun c72 => ?_)
    have o73 := OwnL.mono (K' := orHp (orHp Hmc Hcv) Hca) o71 orL
    refine cm9 (orHp (orHp Hmc Hcv) Hca) Hcr (fun c74 => ?_)
    have o75 := OwnL.mono (K' := orHp (orHp (orHp Hmc Hcv) Hca) Hcr) o73 orL
    refine aL9 c rfl rfl o75 r22 ⟨_, _, _, rfl, (Sl.mono ‹_› (fun b o h => orL b o (orL b o (orC c70 b o h))) (fun _ _ h => h)), (Sl.mono ‹_› (fun b o h => orL b o (orC c72 b o h)) (fun _ _ h => h)), (Rows.mono' ‹_› (fun b o h => orC c74 b o h))⟩ (oc rfl (oc (Sl.oneCell ‹_›) (oc (Sl.oneCell ‹_›) (oc rfl (oc (Sl.oneCell ‹_›) oc_nil))))) (by (simp; omega)) (by decide) (fun v76 H77 o78 f79 => ?_)
    have f80 := f79 B f17 (Nat.le_refl _)
    refine ln (qa nsl (ta 8 rfl (kl_bd rfl (cp (Sl.cells ‹_›) (cp (OwnL.cells ‹_›) cp_nil)) rfl ?_)))
    refine ln (qx rfl (ta 10 rfl (kl_stW (us := [vmd, v76]) rfl rfl rfl rfl (oc (Sl.oneCell ‹_›) (oc (OwnL.oneCell ‹_›) oc_nil)) rfl ?_)))
    refine cg [bxS b68 [vmd, v76] 26, H77, bxS b9 [.slice none 0 0, .slice none 0 0] 26] rfl ?_
    refine ln (qx rfl (kt_end (by kernel_rfl) ?_))
    refine qc (cS (cS (cr (kl_ldW rfl rfl (cm9 H77 (orHp (orHp (orHp Hmc Hcv) Hca) Hcr) (fun c82 => ?_))))))
    have h81 := OwnL.consK o78 c82
    refine cP rfl rfl (validMod_ok (⟨m.doms, (m.cons ++ [c])⟩ : Mod) ‹_› ‹_›) ?_
    refine nt9 rfl (ln (qc (cd9 rfl (fun c83 => ?_) (fun c83 => ?_))))
    ·have c83r := c83
     try simp only [smpE] at c83
     have hv := c83r
     have hv2 : validModB (withC m c) = false := by simpa [withC] using hv
     refine cS (cr (kl_bd rfl cp_nil rfl ?_))
     refine kl_stW (us := [.slice none 0 0, .slice none 0 0]) rfl rfl rfl rfl (oc rfl (oc rfl oc_nil)) rfl ?_
     refine cg [bxS b68 [vmd, v76] 26, H77, bxS b9 [.slice none 0 0, .slice none 0 0] 26] rfl ?_
     refine sg rfl (ln (qc (rt (kq_cmp noHp noHp (fun c84 => ?_)))))
     exact kq_retR (rss2 rfl (rs_agg rfl rfl) (rs_tmp rfl)) (orHp noHp noHp) (fr_or (fr_no _) (fr_no _)) ⟨(⟨[], []⟩ : Mod), false, _, _, rfl, (Sl.mono Sl.nil (fun b o h => orL b o h) (fun _ _ h => h)), (Sl.mono Sl.nil (fun b o h => orC c84 b o h) (fun _ _ h => h)), by first | exact (wc_no hv2).symm | exact (wc_yes hv2).symm⟩ .none
    ·have c83r := c83
     try simp only [smpE] at c83
     have hv := c83r
     have hv2 : validModB (withC m c) = true := by simpa [withC] using hv
     refine sk (qc (cS (cr (kl_ldW rfl rfl (cm9 H77 (orHp (orHp (orHp Hmc Hcv) Hca) Hcr) (fun c86 => ?_))))))
     have h85 := OwnL.consK o78 c86
     refine kl_call rfl rfl (copyModI_ok (⟨m.doms, (m.cons ++ [c])⟩ : Mod) (ok_small ⟨hv2⟩) ‹_› ‹_›) (fun v87 H88 f89 h90 => ?_)
     obtain ⟨u91, u92, rfl, h93, h94⟩ := h90
     refine kl_stW (us := [u91, u92]) rfl rfl rfl rfl (oc (Sl.oneCell ‹_›) (oc (Sl.oneCell ‹_›) oc_nil)) rfl ?_
     refine cg [bxS b68 [vmd, v76] 26, H77, bxS b9 [u91, u92] 26] rfl ?_
     refine sg rfl (ln (qc (rt (kq_cmp H88 H88 (fun c95 => ?_)))))
     exact kq_retR (rss2 rfl (rs_agg rfl rfl) (rs_tmp rfl)) (orHp H88 H88) (fr_or f89 f89) ⟨(⟨(⟨m.doms, (m.cons ++ [c])⟩ : Mod).doms, (⟨m.doms, (m.cons ++ [c])⟩ : Mod).cons⟩ : Mod), true, _, _, rfl, (Sl.mono ‹_› (fun b o h => orL b o h) (fun _ _ h => h)), (Cons.mono' ‹_› (fun b o h => orC c95 b o h)), by first | exact (wc_no hv2).symm | exact (wc_yes hv2).symm⟩ .none
  ·refine kl_alloc (cs := [.slice none 0 0, .slice none 0 0]) rfl (fun b96 hb97 => ?_)
   refine ln (qa nsl (ta 6 rfl (kl_bsK rfl (fun v98 H99 f100 r101 => ?_))))
   refine ln (qa nsl (ta 7 rfl (cm9 Hmc Hcv (fun c102 => ?_))))
   have o103 := OwnL.mono (K' := orHp Hmc Hcv) o18 orL
   refine cm9 (orHp Hmc Hcv) Hca (fun c104 => ?_)
   have o105 := OwnL.mono (K' := orHp (orHp Hmc Hcv) Hca) o103 orL
   refine cm9 (orHp (orHp Hmc Hcv) Hca) Hcr (fun c106 => ?_)
   have o107 := OwnL.mono (K' := orHp (orHp (orHp Hmc Hcv) Hca) Hcr) o105 orL
   refine aL9 c rfl rfl o107 r101 ⟨_, _, _, rfl, (Sl.mono ‹_› (fun b o h => orL b o (orL b o (orC c102 b o h))) (fun _ _ h => h)), (Sl.mono ‹_› (fun b o h => orL b o (orC c104 b o h)) (fun _ _ h => h)), (Rows.mono' ‹_› (fun b o h => orC c106 b o h))⟩ (oc rfl (oc (Sl.oneCell ‹_›) (oc (Sl.oneCell ‹_›) (oc rfl (oc (Sl.oneCell ‹_›) oc_nil))))) (by (simp; omega)) (by decide) (fun v108 H109 o110 f111 => ?_)
   have f112 := f111 B f17 (Nat.le_refl _)
   refine ln (qa nsl (ta 8 rfl (kl_bd rfl (cp (Sl.cells ‹_›) (cp (OwnL.cells ‹_›) cp_nil)) rfl ?_)))
   refine ln (qx rfl (ta 10 rfl (kl_stW (us := [vmd, v108]) rfl rfl rfl rfl (oc (Sl.oneCell ‹_›) (oc (OwnL.oneCell ‹_›) oc_nil)) rfl ?_)))
   refine cg [bxS b96 [vmd, v108] 26, H109, bxS b9 [.slice none 0 0, .slice none 0 0] 26] rfl ?_
   refine ln (qx rfl (kt_end (by kernel_rfl) ?_))
   refine qc (cS (cS (cr (kl_ldW rfl rfl (cm9 H109 (orHp (orHp (orHp Hmc Hcv) Hca) Hcr) (fun c114 => ?_))))))
   have h113 := OwnL.consK o110 c114
   refine cP rfl rfl (validMod_ok (⟨m.doms, (m.cons ++ [c])⟩ : Mod) ‹_› ‹_›) ?_
   refine nt9 rfl (ln (qc (cd9 rfl (fun c115 => ?_) (fun c115 => ?_))))
   ·have c115r := c115
    try simp only [smpE] at c115
    have hv := c115r
    have hv2 : validModB (withC m c) = false := by simpa [withC] using hv
    refine cS (cr (kl_bd rfl cp_nil rfl ?_))
    refine kl_stW (us := [.slice none 0 0, .slice none 0 0]) rfl rfl rfl rfl (oc rfl (oc rfl oc_nil)) rfl ?_
    refine cg [bxS b96 [vmd, v108] 26, H109, bxS b9 [.slice none 0 0, .slice none 0 0] 26] rfl ?_
    refine sg rfl (ln (qc (rt (kq_cmp noHp noHp (fun c116 => ?_)))))
    exact kq_retR (rss2 rfl (rs_agg rfl rfl) (rs_tmp rfl)) (orHp noHp noHp) (fr_or (fr_no _) (fr_no _)) ⟨(⟨[], []⟩ : Mod), false, _, _, rfl, (Sl.mono Sl.nil (fun b o h => orL b o h) (fun _ _ h => h)), (Sl.mono Sl.nil (fun b o h => orC c116 b o h) (fun _ _ h => h)), by first | exact (wc_no hv2).symm | exact (wc_yes hv2).symm⟩ .none
   ·have c115r := c115
    try simp only [smpE] at c115
    have hv := c115r
    have hv2 : validModB (withC m c) = true := by simpa [withC] using hv
    refine sk (qc (cS (cr (kl_ldW rfl rfl (cm9 H109 (orHp (orHp (orHp Hmc Hcv) Hca) Hcr) (fun c118 => ?_))))))
    have h117 := OwnL.consK o110 c118
    refine kl_call rfl rfl (copyModI_ok (⟨m.doms, (m.cons ++ [c])⟩ : Mod) (ok_small ⟨hv2⟩) ‹_› ‹_›) (fun v119 H120 f121 h122 => ?_)
    obtain ⟨u123, u124, rfl, h125, h126⟩ := h122
    refine kl_stW (us := [u123, u124]) rfl rfl rfl rfl (oc (Sl.oneCell ‹_›) (oc (Sl.oneCell ‹_›) oc_nil)) rfl ?_
    refine cg [bxS b96 [vmd, v108] 26, H109, bxS b9 [u123, u124] 26] rfl ?_
    refine sg rfl (ln (qc (rt (kq_cmp H120 H120 (fun c127 => ?_)))))
    exact kq_retR (rss2 rfl (rs_agg rfl rfl) (rs_tmp rfl)) (orHp H120 H120) (fr_or f121 f121) ⟨(⟨(⟨m.doms, (m.cons ++ [c])⟩ : Mod).doms, (⟨m.doms, (m.cons ++ [c])⟩ : Mod).cons⟩ : Mod), true, _, _, rfl, (Sl.mono ‹_› (fun b o h => orL b o h) (fun _ _ h => h)), (Cons.mono' ‹_› (fun b o h => orC c127 b o h)), by first | exact (wc_no hv2).symm | exact (wc_yes hv2).symm⟩ .none
 ·refine kl_bsK rfl (fun v128 H129 f130 r131 => ?_)
  refine ln (qa nsl (kt_b 4 9 rfl rfl (by kernel_rfl) ?_ ?_))
  ·refine kl_callL rfl rfl (cloneC_ok m.cons (by omega) ‹_›) (fun v132 H133 f134 o135 => ?_)
   refine ln (qa nsl (kt_b 7 9 rfl rfl (by kernel_rfl) ?_ ?_))
   ·refine cm9 Hmc Hcv (fun c136 => ?_)
    have o137 := OwnL.mono (K' := orHp Hmc Hcv) o135 orL
    refine cm9 (orHp Hmc Hcv) Hca (fun c138 => ?_)
    have o139 := OwnL.mono (K' := orHp (orHp Hmc Hcv) Hca) o137 orL
    refine cm9 (orHp (orHp Hmc Hcv) Hca) Hcr (fun c140 => ?_)
    have o141 := OwnL.mono (K' := orHp (orHp (orHp Hmc Hcv) Hca) Hcr) o139 orL
    refine aL9 c rfl rfl o141 r131 ⟨_, _, _, rfl, (Sl.mono ‹_› (fun b o h => orL b o (orL b o (orC c136 b o h))) (fun _ _ h => h)), (Sl.mono ‹_› (fun b o h => orL b o (orC c138 b o h)) (fun _ _ h => h)), (Rows.mono' ‹_› (fun b o h => orC c140 b o h))⟩ (oc rfl (oc (Sl.oneCell ‹_›) (oc (Sl.oneCell ‹_›) (oc rfl (oc (Sl.oneCell ‹_›) oc_nil))))) (by (simp; omega)) (by decide) (fun v142 H143 o144 f145 => ?_)
    have f146 := f145 B f134 (Nat.le_refl _)
    refine ln (qa nsl (kt_b 8 9 rfl rfl (by kernel_rfl) ?_ ?_))
    ·refine kl_bd rfl (cp (Sl.cells ‹_›) (cp (OwnL.cells ‹_›) cp_nil)) rfl ?_
     refine ln (qx rfl (ta 9 rfl (kl_alloc (cs := [.slice none 0 0, .slice none 0 0]) rfl (fun b147 hb148 => ?_))))
     refine ln (qa nsl (ta 10 rfl (kl_stW (us := [vmd, v142]) rfl rfl rfl rfl (oc (Sl.oneCell ‹_›) (oc (OwnL.oneCell ‹_›) oc_nil)) rfl ?_)))
     refine cg [bxS b147 [vmd, v142] 26, H143, bxS b9 [.slice none 0 0, .slice none 0 0] 26] rfl ?_
     refine ln (qx rfl (kt_end (by kernel_rfl) ?_))
     refine qc (cS (cS (cr (kl_ldW rfl rfl (cm9 H143 (orHp (orHp (orHp Hmc Hcv) Hca) Hcr) (fun c150 => ?_))))))
     have h149 := OwnL.consK o144 c150
     refine cP rfl rfl (validMod_ok (⟨m.doms, (m.cons ++ [c])⟩ : Mod) ‹_› ‹_›) ?_
     refine nt9 rfl (ln (qc (cd9 rfl (fun c151 => ?_) (fun c151 => ?_))))
     ·have c151r := c151
      try simp only [smpE] at c151
      have hv := c151r
      have hv2 : validModB (withC m c) = false := by simpa [withC] using hv
      refine cS (cr (kl_bd rfl cp_nil rfl ?_))
      refine kl_stW (us := [.slice none 0 0, .slice none 0 0]) rfl rfl rfl rfl (oc rfl (oc rfl oc_nil)) rfl ?_
      refine cg [bxS b147 [vmd, v142] 26, H143, bxS b9 [.slice none 0 0, .slice none 0 0] 26] rfl ?_
      refine sg rfl (ln (qc (rt (kq_cmp noHp noHp (fun c152 => ?_)))))
      exact kq_retR (rss2 rfl (rs_agg rfl rfl) (rs_tmp rfl)) (orHp noHp noHp) (fr_or (fr_no _) (fr_no _)) ⟨(⟨[], []⟩ : Mod), false, _, _, rfl, (Sl.mono Sl.nil (fun b o h => orL b o h) (fun _ _ h => h)), (Sl.mono Sl.nil (fun b o h => orC c152 b o h) (fun _ _ h => h)), by first | exact (wc_no hv2).symm | exact (wc_yes hv2).symm⟩ .none
     ·have c151r := c151
      try simp only [smpE] at c151
      have hv := c151r
      have hv2 : validModB (withC m c) = true := by simpa [withC] using hv
      refine sk (qc (cS (cr (kl_ldW rfl rfl (cm9 H143 (orHp (orHp (orHp Hmc Hcv) Hca) Hcr) (fun c154 => ?_))))))
      have h153 := OwnL.consK o144 c154
      refine kl_call rfl rfl (copyModI_ok (⟨m.doms, (m.cons ++ [c])⟩ : Mod) (ok_small ⟨hv2⟩) ‹_› ‹_›) (fun v155 H156 f157 h158 => ?_)
      obtain ⟨u159, u160, rfl, h161, h162⟩ := h158
      refine kl_stW (us := [u159, u160]) rfl rfl rfl rfl (oc (Sl.oneCell ‹_›) (oc (Sl.oneCell ‹_›) oc_nil)) rfl ?_
      refine cg [bxS b147 [vmd, v142] 26, H143, bxS b9 [u159, u160] 26] rfl ?_
      refine sg rfl (ln (qc (rt (kq_cmp H156 H156 (fun c163 => ?_)))))
      exact kq_retR (rss2 rfl (rs_agg rfl rfl) (rs_tmp rfl)) (orHp H156 H156) (fr_or f157 f157) ⟨(⟨(⟨m.doms, (m.cons ++ [c])⟩ : Mod).doms, (⟨m.doms, (m.cons ++ [c])⟩ : Mod).cons⟩ : Mod), true, _, _, rfl, (Sl.mono ‹_› (fun b o h => orL b o h) (fun _ _ h => h)), (Cons.mono' ‹_› (fun b o h => orC c163 b o h)), by first | exact (wc_no hv2).symm | exact (wc_yes hv2).symm⟩ .none
    ·refine kl_alloc (cs := [.slice none 0 0, .slice none 0 0]) rfl (fun b164 hb165 => ?_)
     refine ln (qa nsl (ta 8 rfl (kl_bd rfl (cp (Sl.cells ‹_›) (cp (OwnL.cells ‹_›) cp_nil)) rfl ?_)))
     refine ln (qx rfl (ta 10 rfl (kl_stW (us := [vmd, v142]) rfl rfl rfl rfl (oc (Sl.oneCell ‹_›) (oc (OwnL.oneCell ‹_›) oc_nil)) rfl ?_)))
     refine cg [bxS b164 [vmd, v142] 26, H143, bxS b9 [.slice none 0 0, .slice none 0 0] 26] rfl ?_
     refine ln (qx rfl (kt_end (by kernel_rfl) ?_))
     refine qc (cS (cS (cr (kl_ldW rfl rfl (cm9 H143 (orHp (orHp (orHp Hmc Hcv) Hca) Hcr) (fun c167 => ?_))))))
     have h166 := OwnL.consK o144 c167
     refine cP rfl rfl (validMod_ok (⟨m.doms, (m.cons ++ [c])⟩ : Mod) ‹_› ‹_›) ?_
     refine nt9 rfl (ln (qc (cd9 rfl (fun c168 => ?_) (fun c168 => ?_))))
     ·have c168r := c168
      try simp only [smpE] at c168
      have hv := c168r
      have hv2 : validModB (withC m c) = false := by simpa [withC] using hv
      refine cS (cr (kl_bd rfl cp_nil rfl ?_))
      refine kl_stW (us := [.slice none 0 0, .slice none 0 0]) rfl rfl rfl rfl (oc rfl (oc rfl oc_nil)) rfl ?_
      refine cg [bxS b164 [vmd, v142] 26, H143, bxS b9 [.slice none 0 0, .slice none 0 0] 26] rfl ?_
      refine sg rfl (ln (qc (rt (kq_cmp noHp noHp (fun c169 => ?_)))))
      exact kq_retR (rss2 rfl (rs_agg rfl rfl) (rs_tmp rfl)) (orHp noHp noHp) (fr_or (fr_no _) (fr_no _)) ⟨(⟨[], []⟩ : Mod), false, _, _, rfl, (Sl.mono Sl.nil (fun b o h => orL b o h) (fun _ _ h => h)), (Sl.mono Sl.nil (fun b o h => orC c169 b o h) (fun _ _ h => h)), by first | exact (wc_no hv2).symm | exact (wc_yes hv2).symm⟩ .none
     ·have c168r := c168
      try simp only [smpE] at c168
      have hv := c168r
      have hv2 : validModB (withC m c) = true := by simpa [withC] using hv
      refine sk (qc (cS (cr (kl_ldW rfl rfl (cm9 H143 (orHp (orHp (orHp Hmc Hcv) Hca) Hcr) (fun c171 => ?_))))))
      have h170 := OwnL.consK o144 c171
      refine kl_call rfl rfl (copyModI_ok (⟨m.doms, (m.cons ++ [c])⟩ : Mod) (ok_small ⟨hv2⟩) ‹_› ‹_›) (fun v172 H173 f174 h175 => ?_)
      obtain ⟨u176, u177, rfl, h178, h179⟩ := h175
      refine kl_stW (us := [u176, u177]) rfl rfl rfl rfl (oc (Sl.oneCell ‹_›) (oc (Sl.oneCell ‹_›) oc_nil)) rfl ?_
      refine cg [bxS b164 [vmd, v142] 26, H143, bxS b9 [u176, u177] 26] rfl ?_
      refine sg rfl (ln (qc (rt (kq_cmp H173 H173 (fun c180 => ?_)))))
      exact kq_retR (rss2 rfl (rs_agg rfl rfl) (rs_tmp rfl)) (orHp H173 H173) (fr_or f174 f174) ⟨(⟨(⟨m.doms, (m.cons ++ [c])⟩ : Mod).doms, (⟨m.doms, (m.cons ++ [c])⟩ : Mod).cons⟩ : Mod), true, _, _, rfl, (Sl.mono ‹_› (fun b o h => orL b o h) (fun _ _ h => h)), (Cons.mono' ‹_› (fun b o h => orC c180 b o h)), by first | exact (wc_no hv2).symm | exact (wc_yes hv2).symm⟩ .none
   ·refine kl_alloc (cs := [.slice none 0 0, .slice none 0 0]) rfl (fun b181 hb182 => ?_)
    refine ln (qa nsl (ta 7 rfl (cm9 Hmc Hcv (fun c183 => ?_))))
    have o184 := OwnL.mono (K' := orHp Hmc Hcv) o135 orL
    refine cm9 (orHp Hmc Hcv) Hca (fun c185 => ?_)
    have o186 := OwnL.mono (K' := orHp (orHp Hmc Hcv) Hca) o184 orL
    refine cm9 (orHp (orHp Hmc Hcv) Hca) Hcr (fun c187 => ?_)
    have o188 := OwnL.mono (K' := orHp (orHp (orHp Hmc Hcv) Hca) Hcr) o186 orL
    refine aL9 c rfl rfl o188 r131 ⟨_, _, _, rfl, (Sl.mono ‹_› (fun b o h => orL b o (orL b o (orC c183 b o h))) (fun _ _ h => h)), (Sl.mono ‹_› (fun b o h => orL b o (orC c185 b o h)) (fun _ _ h => h)), (Rows.mono' ‹_› (fun b o h => orC c187 b o h))⟩ (oc rfl (oc (Sl.oneCell ‹_›) (oc (Sl.oneCell ‹_›) (oc rfl (oc (Sl.oneCell ‹_›) oc_nil))))) (by (simp; omega)) (by decide) (fun v189 H190 o191 f192 => ?_)
    have f193 := f192 B f134 (Nat.le_refl _)
    refine ln (qa nsl (ta 8 rfl (kl_bd rfl (cp (Sl.cells ‹_›) (cp (OwnL.cells ‹_›) cp_nil)) rfl ?_)))
    refine ln (qx rfl (ta 10 rfl (kl_stW (us := [vmd, v189]) rfl rfl rfl rfl (oc (Sl.oneCell ‹_›) (oc (OwnL.oneCell ‹_›) oc_nil)) rfl ?_)))
    refine cg [bxS b181 [vmd, v189] 26, H190, bxS b9 [.slice none 0 0, .slice none 0 0] 26] rfl ?_
    refine ln (qx rfl (kt_end (by kernel_rfl) ?_))
    refine qc (cS (cS (cr (kl_ldW rfl rfl (cm9 H190 (orHp (orHp (orHp Hmc Hcv) Hca) Hcr) (fun c195 => ?_))))))
    have h194 := OwnL.consK o191 c195
    refine cP rfl rfl (validMod_ok (⟨m.doms, (m.cons ++ [c])⟩ : Mod) ‹_› ‹_›) ?_
    refine nt9 rfl (ln (qc (cd9 rfl (fun c196 => ?_) (fun c196 => ?_))))
    ·have c196r := c196
     try simp only [smpE] at c196
     have hv := c196r
     have hv2 : validModB (withC m c) = false := by simpa [withC] using hv
     refine cS (cr (kl_bd rfl cp_nil rfl ?_))
     refine kl_stW (us := [.slice none 0 0, .slice none 0 0]) rfl rfl rfl rfl (oc rfl (oc rfl oc_nil)) rfl ?_
     refine cg [bxS b181 [vmd, v189] 26, H190, bxS b9 [.slice none 0 0, .slice none 0 0] 26] rfl ?_
     refine sg rfl (ln (qc (rt (kq_cmp noHp noHp (fun c197 => ?_)))))
     exact kq_retR (rss2 rfl (rs_agg rfl rfl) (rs_tmp rfl)) (orHp noHp noHp) (fr_or (fr_no _) (fr_no _)) ⟨(⟨[], []⟩ : Mod), false, _, _, rfl, (Sl.mono Sl.nil (fun b o h => orL b o h) (fun _ _ h => h)), (Sl.mono Sl.nil (fun b o h => orC c197 b o h) (fun _ _ h => h)), by first | exact (wc_no hv2).symm | exact (wc_yes hv2).symm⟩ .none
    ·have c196r := c196
     try simp only [smpE] at c196
     have hv := c196r
     have hv2 : validModB (withC m c) = true := by simpa [withC] using hv
     refine sk (qc (cS (cr (kl_ldW rfl rfl (cm9 H190 (orHp (orHp (orHp Hmc Hcv) Hca) Hcr) (fun c199 => ?_))))))
     have h198 := OwnL.consK o191 c199
     refine kl_call rfl rfl (copyModI_ok (⟨m.doms, (m.cons ++ [c])⟩ : Mod) (ok_small ⟨hv2⟩) ‹_› ‹_›) (fun v200 H201 f202 h203 => ?_)
     obtain ⟨u204, u205, rfl, h206, h207⟩ := h203
     refine kl_stW (us := [u204, u205]) rfl rfl rfl rfl (oc (Sl.oneCell ‹_›) (oc (Sl.oneCell ‹_›) oc_nil)) rfl ?_
     refine cg [bxS b181 [vmd, v189] 26, H190, bxS b9 [u204, u205] 26] rfl ?_
     refine sg rfl (ln (qc (rt (kq_cmp H201 H201 (fun c208 => ?_)))))
     exact kq_retR (rss2 rfl (rs_agg rfl rfl) (rs_tmp rfl)) (orHp H201 H201) (fr_or f202 f202) ⟨(⟨(⟨m.doms, (m.cons ++ [c])⟩ : Mod).doms, (⟨m.doms, (m.cons ++ [c])⟩ : Mod).cons⟩ : Mod), true, _, _, rfl, (Sl.mono ‹_› (fun b o h => orL b o h) (fun _ _ h => h)), (Cons.mono' ‹_› (fun b o h => orC c208 b o h)), by first | exact (wc_no hv2).symm | exact (wc_yes hv2).symm⟩ .none
  ·refine kl_alloc (cs := [.slice none 0 0, .slice none 0 0]) rfl (fun b209 hb210 => ?_)
   refine ln (qa nsl (ta 4 rfl (kl_callL rfl rfl (cloneC_ok m.cons (by omega) ‹_›) (fun v211 H212 f213 o214 => ?_))))
   refine ln (qa nsl (ta 7 rfl (cm9 Hmc Hcv (fun c215 => ?_))))
   have o216 := OwnL.mono (K' := orHp Hmc Hcv) o214 orL
   refine cm9 (orHp Hmc Hcv) Hca (fun c217 => ?_)
   have o218 := OwnL.mono (K' := orHp (orHp Hmc Hcv) Hca) o216 orL
   refine cm9 (orHp (orHp Hmc Hcv) Hca) Hcr (fun c219 => ?_)
   have o220 := OwnL.mono (K' := orHp (orHp (orHp Hmc Hcv) Hca) Hcr) o218 orL
   refine aL9 c rfl rfl o220 r131 ⟨_, _, _, rfl, (Sl.mono ‹_› (fun b o h => orL b o (orL b o (orC c215 b o h))) (fun _ _ h => h)), (Sl.mono ‹_› (fun b o h => orL b o (orC c217 b o h)) (fun _ _ h => h)), (Rows.mono' ‹_› (fun b o h => orC c219 b o h))⟩ (oc rfl (oc (Sl.oneCell ‹_›) (oc (Sl.oneCell ‹_›) (oc rfl (oc (Sl.oneCell ‹_›) oc_nil))))) (by (simp; omega)) (by decide) (fun v221 H222 o223 f224 => ?_)
   have f225 := f224 B f213 (Nat.le_refl _)
   refine ln (qa nsl (ta 8 rfl (kl_bd rfl (cp (Sl.cells ‹_›) (cp (OwnL.cells ‹_›) cp_nil)) rfl ?_)))
   refine ln (qx rfl (ta 10 rfl (kl_stW (us := [vmd, v221]) rfl rfl rfl rfl (oc (Sl.oneCell ‹_›) (oc (OwnL.oneCell ‹_›) oc_nil)) rfl ?_)))
   refine cg [H222, bxS b209 [vmd, v221] 26, bxS b9 [.slice none 0 0, .slice none 0 0] 26] rfl ?_
   refine ln (qx rfl (kt_end (by kernel_rfl) ?_))
   refine qc (cS (cS (cr (kl_ldW rfl rfl (cm9 H222 (orHp (orHp (orHp Hmc Hcv) Hca) Hcr) (fun c227 => ?_))))))
   have h226 := OwnL.consK o223 c227
   refine cP rfl rfl (validMod_ok (⟨m.doms, (m.cons ++ [c])⟩ : Mod) ‹_› ‹_›) ?_
   refine nt9 rfl (ln (qc (cd9 rfl (fun c228 => ?_) (fun c228 => ?_))))
   ·have c228r := c228
    try simp only [smpE] at c228
    have hv := c228r
    have hv2 : validModB (withC m c) = false := by simpa [withC] using hv
    refine cS (cr (kl_bd rfl cp_nil rfl ?_))
    refine kl_stW (us := [.slice none 0 0, .slice none 0 0]) rfl rfl rfl rfl (oc rfl (oc rfl oc_nil)) rfl ?_
    refine cg [H222, bxS b209 [vmd, v221] 26, bxS b9 [.slice none 0 0, .slice none 0 0] 26] rfl ?_
    refine sg rfl (ln (qc (rt (kq_cmp noHp noHp (fun c229 => ?_)))))
    exact kq_retR (rss2 rfl (rs_agg rfl rfl) (rs_tmp rfl)) (orHp noHp noHp) (fr_or (fr_no _) (fr_no _)) ⟨(⟨[], []⟩ : Mod), false, _, _, rfl, (Sl.mono Sl.nil (fun b o h => orL b o h) (fun _ _ h => h)), (Sl.mono Sl.nil (fun b o h => orC c229 b o h) (fun _ _ h => h)), by first | exact (wc_no hv2).symm | exact (wc_yes hv2).symm⟩ .none
   ·have c228r := c228
    try simp only [smpE] at c228
    have hv := c228r
    have hv2 : validModB (withC m c) = true := by simpa [withC] using hv
    refine sk (qc (cS (cr (kl_ldW rfl rfl (cm9 H222 (orHp (orHp (orHp Hmc Hcv) Hca) Hcr) (fun c231 => ?_))))))
    have h230 := OwnL.consK o223 c231
    refine kl_call rfl rfl (copyModI_ok (⟨m.doms, (m.cons ++ [c])⟩ : Mod) (ok_small ⟨hv2⟩) ‹_› ‹_›) (fun v232 H233 f234 h235 => ?_)
    obtain ⟨u236, u237, rfl, h238, h239⟩ := h235
    refine kl_stW (us := [u236, u237]) rfl rfl rfl rfl (oc (Sl.oneCell ‹_›) (oc (Sl.oneCell ‹_›) oc_nil)) rfl ?_
    refine cg [H222, bxS b209 [vmd, v221] 26, bxS b9 [u236, u237] 26] rfl ?_
    refine sg rfl (ln (qc (rt (kq_cmp H233 H233 (fun c240 => ?_)))))
    exact kq_retR (rss2 rfl (rs_agg rfl rfl) (rs_tmp rfl)) (orHp H233 H233) (fr_or f234 f234) ⟨(⟨(⟨m.doms, (m.cons ++ [c])⟩ : Mod).doms, (⟨m.doms, (m.cons ++ [c])⟩ : Mod).cons⟩ : Mod), true, _, _, rfl, (Sl.mono ‹_› (fun b o h => orL b o h) (fun _ _ h => h)), (Cons.mono' ‹_› (fun b o h => orC c240 b o h)), by first | exact (wc_no hv2).symm | exact (wc_yes hv2).symm⟩ .none
 ·refine kl_alloc (cs := [.slice none 0 0, .slice none 0 0]) rfl (fun b241 hb242 => ?_)
  refine ln (qa nsl (kt_b 4 6 rfl rfl (by kernel_rfl) ?_ ?_))
  ·refine kl_callL rfl rfl (cloneC_ok m.cons (by omega) ‹_›) (fun v243 H244 f245 o246 => ?_)
   refine ln (qa nsl (ta 6 rfl (kl_bsK rfl (fun v247 H248 f249 r250 => ?_))))
   refine ln (qa nsl (ta 7 rfl (cm9 Hmc Hcv (fun c251 => ?_))))
   have o252 := OwnL.mono (K' := orHp Hmc Hcv) o246 orL
   refine cm9 (orHp Hmc Hcv) Hca (fun c253 => ?_)
   have o254 := OwnL.mono (K' := orHp (orHp Hmc Hcv) Hca) o252 orL
   refine cm9 (orHp (orHp Hmc Hcv) Hca) Hcr (fun c255 => ?_)
   have o256 := OwnL.mono (K' := orHp (orHp (orHp Hmc Hcv) Hca) Hcr) o254 orL
   refine aL9 c rfl rfl o256 r250 ⟨_, _, _, rfl, (Sl.mono ‹_› (fun b o h => orL b o (orL b o (orC c251 b o h))) (fun _ _ h => h)), (Sl.mono ‹_› (fun b o h => orL b o (orC c253 b o h)) (fun _ _ h => h)), (Rows.mono' ‹_› (fun b o h => orC c255 b o h))⟩ (oc rfl (oc (Sl.oneCell ‹_›) (oc (Sl.oneCell ‹_›) (oc rfl (oc (Sl.oneCell ‹_›) oc_nil))))) (by (simp; omega)) (by decide) (fun v257 H258 o259 f260 => ?_)
   have f261 := f260 B f245 (Nat.le_refl _)
   refine ln (qa nsl (ta 8 rfl (kl_bd rfl (cp (Sl.cells ‹_›) (cp (OwnL.cells ‹_›) cp_nil)) rfl ?_)))
   refine ln (qx rfl (ta 10 rfl (kl_stW (us := [vmd, v257]) rfl rfl rfl rfl (oc (Sl.oneCell ‹_›) (oc (OwnL.oneCell ‹_›) oc_nil)) rfl ?_)))
   refine cg [H258, bxS b241 [vmd, v257] 26, bxS b9 [.slice none 0 0, .slice none 0 0] 26] rfl ?_
   refine ln (qx rfl (kt_end (by kernel_rfl) ?_))
   refine qc (cS (cS (cr (kl_ldW rfl rfl (cm9 H258 (orHp (orHp (orHp Hmc Hcv) Hca) Hcr) (fun c263 => ?_))))))
   have h262 := OwnL.consK o259 c263
   refine cP rfl rfl (validMod_ok (⟨m.doms, (m.cons ++ [c])⟩ : Mod) ‹_› ‹_›) ?_
   refine nt9 rfl (ln (qc (cd9 rfl (fun c264 => ?_) (fun c264 => ?_))))
   ·have c264r := c264
    try simp only [smpE] at c264
    have hv := c264r
    have hv2 : validModB (withC m c) = false := by simpa [withC] using hv
    refine cS (cr (kl_bd rfl cp_nil rfl ?_))
    refine kl_stW (us := [.slice none 0 0, .slice none 0 0]) rfl rfl rfl rfl (oc rfl (oc rfl oc_nil)) rfl ?_
    refine cg [H258, bxS b241 [vmd, v257] 26, bxS b9 [.slice none 0 0, .slice none 0 0] 26] rfl ?_
    refine sg rfl (ln (qc (rt (kq_cmp noHp noHp (fun c265 => ?_)))))
    exact kq_retR (rss2 rfl (rs_agg rfl rfl) (rs_tmp rfl)) (orHp noHp noHp) (fr_or (fr_no _) (fr_no _)) ⟨(⟨[], []⟩ : Mod), false, _, _, rfl, (Sl.mono Sl.nil (fun b o h => orL b o h) (fun _ _ h => h)), (Sl.mono Sl.nil (fun b o h => orC c265 b o h) (fun _ _ h => h)), by first | exact (wc_no hv2).symm | exact (wc_yes hv2).symm⟩ .none
   ·have c264r := c264
    try simp only [smpE] at c264
    have hv := c264r
    have hv2 : validModB (withC m c) = true := by simpa [withC] using hv
    refine sk (qc (cS (cr (kl_ldW rfl rfl (cm9 H258 (orHp (orHp (orHp Hmc Hcv) Hca) Hcr) (fun c267 => ?_))))))
    have h266 := OwnL.consK o259 c267
    refine kl_call rfl rfl (copyModI_ok (⟨m.doms, (m.cons ++ [c])⟩ : Mod) (ok_small ⟨hv2⟩) ‹_› ‹_›) (fun v268 H269 f270 h271 => ?_)
    obtain ⟨u272, u273, rfl, h274, h275⟩ := h271
    refine kl_stW (us := [u272, u273]) rfl rfl rfl rfl (oc (Sl.oneCell ‹_›) (oc (Sl.oneCell ‹_›) oc_nil)) rfl ?_
    refine cg [H258, bxS b241 [vmd, v257] 26, bxS b9 [u272, u273] 26] rfl ?_
    refine sg rfl (ln (qc (rt (kq_cmp H269 H269 (fun c276 => ?_)))))
    exact kq_retR (rss2 rfl (rs_agg rfl rfl) (rs_tmp rfl)) (orHp H269 H269) (fr_or f270 f270) ⟨(⟨(⟨m.doms, (m.cons ++ [c])⟩ : Mod).doms, (⟨m.doms, (m.cons ++ [c])⟩ : Mod).cons⟩ : Mod), true, _, _, rfl, (Sl.mono ‹_› (fun b o h => orL b o h) (fun _ _ h => h)), (Cons.mono' ‹_› (fun b o h => orC c276 b o h)), by first | exact (wc_no hv2).symm | exact (wc_yes hv2).symm⟩ .none
  ·refine kl_bsK rfl (fun v277 H278 f279 r280 => ?_)
   refine ln (qa nsl (ta 4 rfl (kl_callL rfl rfl (cloneC_ok m.cons (by omega) ‹_›) (fun v281 H282 f283 o284 => ?_))))
   refine ln (qa nsl (ta 7 rfl (cm9 Hmc Hcv (fun c285 => ?_))))
   have o286 := OwnL.mono (K' := orHp Hmc Hcv) o284 orL
   refine cm9 (orHp Hmc Hcv) Hca (fun c287 => ?_)
   have o288 := OwnL.mono (K' := orHp (orHp Hmc Hcv) Hca) o286 orL
   refine cm9 (orHp (orHp Hmc Hcv) Hca) Hcr (fun c289 => ?_)
   have o290 := OwnL.mono (K' := orHp (orHp (orHp Hmc Hcv) Hca) Hcr) o288 orL
   refine aL9 c rfl rfl o290 r280 ⟨_, _, _, rfl, (Sl.mono ‹_› (fun b o h => orL b o (orL b o (orC c285 b o h))) (fun _ _ h => h)), (Sl.mono ‹_› (fun b o h => orL b o (orC c287 b o h)) (fun _ _ h => h)), (Rows.mono' ‹_› (fun b o h => orC c289 b o h))⟩ (oc rfl (oc (Sl.oneCell ‹_›) (oc (Sl.oneCell ‹_›) (oc rfl (oc (Sl.oneCell ‹_›) oc_nil))))) (by (simp; omega)) (by decide) (fun v291 H292 o293 f294 => ?_)
   have f295 := f294 B f283 (Nat.le_refl _)
   refine ln (qa nsl (ta 8 rfl (kl_bd rfl (cp (Sl.cells ‹_›) (cp (OwnL.cells ‹_›) cp_nil)) rfl ?_)))
   refine ln (qx rfl (ta 10 rfl (kl_stW (us := [vmd, v291]) rfl rfl rfl rfl (oc (Sl.oneCell ‹_›) (oc (OwnL.oneCell ‹_›) oc_nil)) rfl ?_)))
   refine cg [H292, bxS b241 [vmd, v291] 26, bxS b9 [.slice none 0 0, .slice none 0 0] 26] rfl ?_
   refine ln (qx rfl (kt_end (by kernel_rfl) ?_))
   refine qc (cS (cS (cr (kl_ldW rfl rfl (cm9 H292 (orHp (orHp (orHp Hmc Hcv) Hca) Hcr) (fun c297 => ?_))))))
   have h296 := OwnL.consK o293 c297
   refine cP rfl rfl (validMod_ok (⟨m.doms, (m.cons ++ [c])⟩ : Mod) ‹_› ‹_›) ?_
   refine nt9 rfl (ln (qc (cd9 rfl (fun c298 => ?_) (fun c298 => ?_))))
   ·have c298r := c298
    try simp only [smpE] at c298
    have hv := c298r
    have hv2 : validModB (withC m c) = false := by simpa [withC] using hv
    refine cS (cr (kl_bd rfl cp_nil rfl ?_))
    refine kl_stW (us := [.slice none 0 0, .slice none 0 0]) rfl rfl rfl rfl (oc rfl (oc rfl oc_nil)) rfl ?_
    refine cg [H292, bxS b241 [vmd, v291] 26, bxS b9 [.slice none 0 0, .slice none 0 0] 26] rfl ?_
    refine sg rfl (ln (qc (rt (kq_cmp noHp noHp (fun c299 => ?_)))))
    exact kq_retR (rss2 rfl (rs_agg rfl rfl) (rs_tmp rfl)) (orHp noHp noHp) (fr_or (fr_no _) (fr_no _)) ⟨(⟨[], []⟩ : Mod), false, _, _, rfl, (Sl.mono Sl.nil (fun b o h => orL b o h) (fun _ _ h => h)), (Sl.mono Sl.nil (fun b o h => orC c299 b o h) (fun _ _ h => h)), by first | exact (wc_no hv2).symm | exact (wc_yes hv2).symm⟩ .none
   ·have c298r := c298
    try simp only [smpE] at c298
    have hv := c298r
    have hv2 : validModB (withC m c) = true := by simpa [withC] using hv
    refine sk (qc (cS (cr (kl_ldW rfl rfl (cm9 H292 (orHp (orHp (orHp Hmc Hcv) Hca) Hcr) (fun c301 => ?_))))))
    have h300 := OwnL.consK o293 c301
    refine kl_call rfl rfl (copyModI_ok (⟨m.doms, (m.cons ++ [c])⟩ : Mod) (ok_small ⟨hv2⟩) ‹_› ‹_›) (fun v302 H303 f304 h305 => ?_)
    obtain ⟨u306, u307, rfl, h308, h309⟩ := h305
    refine kl_stW (us := [u306, u307]) rfl rfl rfl rfl (oc (Sl.oneCell ‹_›) (oc (Sl.oneCell ‹_›) oc_nil)) rfl ?_
    refine cg [H292, bxS b241 [vmd, v291] 26, bxS b9 [u306, u307] 26] rfl ?_
    refine sg rfl (ln (qc (rt (kq_cmp H303 H303 (fun c310 => ?_)))))
    exact kq_retR (rss2 rfl (rs_agg rfl rfl) (rs_tmp rfl)) (orHp H303 H303) (fr_or f304 f304) ⟨(⟨(⟨m.doms, (m.cons ++ [c])⟩ : Mod).doms, (⟨m.doms, (m.cons ++ [c])⟩ : Mod).cons⟩ : Mod), true, _, _, rfl, (Sl.mono ‹_› (fun b o h => orL b o h) (fun _ _ h => h)), (Cons.mono' ‹_› (fun b o h => orC c310 b o h)), by first | exact (wc_no hv2).symm | exact (wc_yes hv2).symm⟩ .none
theorem belowI_ok {Hmd : Hp} {vmd : Value} {Hmc : Hp} {vmc : Value} {Hobj : Hp} {vobj : Value} (m : Mod) (obj : List Int) (b : Int) (hl : m.cons.length ≤ 100) (ho : obj.length ≤ 100) (hmd : Ints Hmd vmd m.doms) (hmc : Cons Hmc vmc m.cons) (hobj : Ints Hobj vobj obj) : Spec Tryz.prog 71 [.agg #[vmd, vmc], vobj, .int .i64 b] [Hmd, Hmc, Hobj] (fun Hq vq => ∃ (mq : Mod) (bq : Bool) (uq0a uq0b : Value), vq = .tuple #[.agg #[uq0a, uq0b], .bool bq] ∧ Ints Hq uq0a mq.doms ∧ Cons Hq uq0b mq.cons ∧ (mq, bq) = wcR m (lowC obj.length obj b)) := by
 refine spec_ofR Tryz.func71 rfl rfl rfl (fun B => ?_)
 refine cS (cr (kl_box rfl rfl (fun p1 H2 f3 a4 => ?_)))
 refine kl_alloc (cs := [.slice none 0 0, .slice none 0 0]) rfl (fun b5 hb6 => ?_)
 refine sg rfl (ln (qc (cS (cr (mv rfl (le9 rfl ‹_› (fun l7 => ?_)))))))
 refine kl_mkL0 (R := IntV) rfl rfl (by omega) (by omega) (by decide) (fun v8 H9 f10 o11 => ?_)
 refine sg rfl (ln (qc (cS (cS (cr (mv rfl (le9 rfl ‹_› (fun l12 => ?_))))))))
 refine mv rfl (ln (qc (bl (kc_loopL (A := Nat × List Int × Value × Hp) (fun zz => (zz.1 ≤ obj.length) ∧ (zz.2.1 = iotaN zz.1) ∧ OwnL 3 1 zz.2.2.2 noHp IntV zz.2.2.1 zz.2.1 ∧ Fr B zz.2.2.2) (fun zz => obj.length - zz.1) (fun zz => [zz.2.2.2, bxS b5 [.slice none 0 0, .slice none 0 0] 26]) (fun zz => [(15, .int .i64 (zz.1 : Int)), (8, zz.2.2.1)]) (0, ([]), v8, H9) (pk [1, 2, 3, 6, 7, 14] rfl) (pk [15, 8] rfl) rfl ⟨Nat.zero_le _, rfl, o11, f10⟩ ?_))))
 rintro ⟨k, vs, v18, H15⟩ hJ19
 obtain ⟨hk13, hi14, o16, f17⟩ : (k ≤ obj.length) ∧ (vs = iotaN k) ∧ OwnL 3 1 H15 noHp IntV v18 vs ∧ Fr B H15 := hJ19
 change KC _ _ (_) [H15, bxS b5 [.slice none 0 0, .slice none 0 0] 26] _ ([(15, .int .i64 (k : Int)), (8, v18)] ++ _)
 refine cS (cr (ls9 rfl rfl ?_))
 refine ln (qc (cS (ci9 rfl (fun c20 => ?_) (fun c20 => ?_))))
 ·refine sk (qc (cS (bl (cS (cr (mv rfl (sg rfl (ln (qc (cr ?_))))))))))
  refine mv rfl (mv rfl (bs9 rfl rfl rfl (by decide) (ca rfl ca_nil) (fun v21 H22 f23 r24 s25 => ?_)))
  have h26 : Ints H22 v21 [(k : Int)] := litInts (xs := [(k : Int)]) (by simpa using s25)
  refine aL9 (k : Int) rfl rfl o16 ‹_› rfl (oc rfl oc_nil) (by (have h9 := congrArg List.length hi14; rw [iota_len] at h9; omega)) (by decide) (fun v27 H28 o29 f30 => ?_)
  have f31 := f30 B f17 (Nat.le_refl _)
  refine sg rfl (ln (qc (cr (ic9 rfl rfl (by omega) ?_))))
  refine mv rfl (ln (tk [H28, bxS b5 [.slice none 0 0, .slice none 0 0] 26] ?_))
  refine rL ((k + 1), (vs ++ [(k : Int)]), v27, H28) (by omega) (⟨by omega, (iotaN_step hi14), o29, f31⟩) (pk [15, 8] rfl) (pk [1, 2, 3, 6, 7, 14] rfl) rfl slr9
 ·refine ex9 (qc (cS (cr (kl_ldS rfl ‹_› rfl ?_))))
  refine mv rfl (mv rfl (mv rfl (kl_bd rfl (cp rfl (cp (OwnL.cells ‹_›) (cp (Sl.cells ‹_›) (cp rfl cp_nil)))) rfl ?_)))
  refine kl_call rfl rfl (withI_ok m ⟨(1 : Int), vs, obj, b, []⟩ hl ‹_› ‹_› (OwnL.ints o16) ‹_› (Sl.nil (H := noHp))) (fun v32 H33 f34 h35 => ?_)
  obtain ⟨z38, z43, u39, u40, rfl, h41, h42, h37⟩ := h35
  have hwc := h37
  refine kl_xt rfl rfl (kl_xt rfl rfl (kl_stW (us := [u39, u40]) rfl rfl rfl rfl (oc (Sl.oneCell ‹_›) (oc (Sl.oneCell ‹_›) oc_nil)) rfl ?_))
  refine cg [H15, bxS b5 [u39, u40] 26] rfl ?_
  refine sg rfl (ln (qc (rt (kq_cmp H33 H33 (fun c44 => ?_)))))
  exact kq_retR (rss2 rfl (rs_agg rfl rfl) (rs_tmp rfl)) (orHp H33 H33) (fr_or f34 f34) ⟨(⟨z38.doms, z38.cons⟩ : Mod), z43, _, _, rfl, (Sl.mono ‹_› (fun b o h => orL b o h) (fun _ _ h => h)), (Cons.mono' ‹_› (fun b o h => orC c44 b o h)), by (have h9 := hi14; rw [show k = obj.length from by omega] at h9; rw [h9] at hwc; exact hwc)⟩ .none
theorem boundedI_ok {Hmd : Hp} {vmd : Value} {Hmc : Hp} {vmc : Value} {Hobj : Hp} {vobj : Value} (m : Mod) (obj : List Int) (b : Int) (hmd : Ints Hmd vmd m.doms) (hmc : Cons Hmc vmc m.cons) (hobj : Ints Hobj vobj obj) : Spec Tryz.prog 37 [.agg #[vmd, vmc], vobj, .int .i64 b] [Hmd, Hmc, Hobj] (fun Hq vq => ∃ (mq : Mod) (bq : Bool) (uq0a uq0b : Value), vq = .tuple #[.agg #[uq0a, uq0b], .bool bq] ∧ Ints Hq uq0a mq.doms ∧ Cons Hq uq0b mq.cons ∧ (mq, bq) = bdR m obj b) := by
 refine spec_ofR Tryz.func37 rfl rfl rfl (fun B => ?_)
 refine cS (cr (kl_box rfl rfl (fun p1 H2 f3 a4 => ?_)))
 refine kl_alloc (cs := [.slice none 0 0, .slice none 0 0]) rfl (fun b5 hb6 => ?_)
 refine sg rfl (ln (qc (cS (cS (cr (kl_ldS rfl ‹_› rfl ?_))))))
 refine mv rfl (cP rfl rfl (objectiveOk_ok m obj ‹_› ‹_› ‹_›) ?_)
 refine nt9 rfl (mv rfl (jn 4 16 (.bool (!(objOkB m obj) || !(withinB b (-998 : Int) (1000 : Int)))) (pk [1, 2, 3, 6, 7, 12] rfl) (fun J8 => ?_) ?_))
 ·rcases Bool.eq_false_or_eq_true (!(objOkB m obj)) with g7 | g7
  ·refine gF rfl rfl g7 (gF rfl rfl g7 (gF rfl rfl g7 (oT (!(withinB b (-998 : Int) (1000 : Int))) rfl rfl g7 ?_)))
   exact J8 _ (pk [16, 1, 2, 3, 6, 7, 12] rfl)
  ·have g7p := g7
   try simp only [smpD] at g7p
   refine gT rfl rfl g7 (mv rfl (gT rfl rfl g7 (cP rfl rfl (within_ok b (-998 : Int) (1000 : Int)) ?_)))
   refine gT rfl rfl g7 (nt9 rfl (oF rfl rfl g7 ?_))
   exact J8 _ (pk [16, 1, 2, 3, 6, 7, 12] rfl)
 refine ln (qc (cd9 rfl (fun c9 => ?_) (fun c9 => ?_)))
 ·have c9r := c9
  try simp only [smpE] at c9
  have hno := c9r
  refine cS (cr (kl_bd rfl cp_nil rfl ?_))
  refine kl_stW (us := [.slice none 0 0, .slice none 0 0]) rfl rfl rfl rfl (oc rfl (oc rfl oc_nil)) rfl ?_
  refine cg [bxS b5 [.slice none 0 0, .slice none 0 0] 26] rfl ?_
  refine sg rfl (ln (qc (rt (kq_cmp noHp noHp (fun c10 => ?_)))))
  exact kq_retR (rss2 rfl (rs_agg rfl rfl) (rs_tmp rfl)) (orHp noHp noHp) (fr_or (fr_no _) (fr_no _)) ⟨(⟨[], []⟩ : Mod), false, _, _, rfl, (Sl.mono Sl.nil (fun b o h => orL b o h) (fun _ _ h => h)), (Sl.mono Sl.nil (fun b o h => orC c10 b o h) (fun _ _ h => h)), by first | exact (bd_no hno).symm | (rw [bd_yes hgo]; exact hbl)⟩ .none
 ·have c9r := c9
  try simp only [smpE] at c9
  have hgo := c9r
  have hok := bd_ok hgo
  refine sk (qc (cS (cr (kl_ldS rfl ‹_› rfl ?_))))
  refine mv rfl (mv rfl (sb9 rfl rfl (by omega) ?_))
  refine kl_call rfl rfl (belowI_ok m obj (b - (1 : Int)) hok.1 hok.2.1 ‹_› ‹_› ‹_›) (fun v11 H12 f13 h14 => ?_)
  obtain ⟨z17, z22, u18, u19, rfl, h20, h21, h16⟩ := h14
  have hbl := h16
  refine kl_xt rfl rfl (kl_xt rfl rfl (kl_stW (us := [u18, u19]) rfl rfl rfl rfl (oc (Sl.oneCell ‹_›) (oc (Sl.oneCell ‹_›) oc_nil)) rfl ?_))
  refine cg [bxS b5 [u18, u19] 26] rfl ?_
  refine sg rfl (ln (qc (rt (kq_cmp H12 H12 (fun c23 => ?_)))))
  exact kq_retR (rss2 rfl (rs_agg rfl rfl) (rs_tmp rfl)) (orHp H12 H12) (fr_or f13 f13) ⟨(⟨z17.doms, z17.cons⟩ : Mod), z22, _, _, rfl, (Sl.mono ‹_› (fun b o h => orL b o h) (fun _ _ h => h)), (Cons.mono' ‹_› (fun b o h => orC c23 b o h)), by first | exact (bd_no hno).symm | (rw [bd_yes hgo]; exact hbl)⟩ .none
theorem restrI_ok (n : Nat) {Hds : Hp} {vds : Value} {Hc : Hp} {vc : Value} (ds : List Int) (c : List Lit) (hd : DOk n ds) (hci : ClIn n c) (hn : n ≤ 4) (hds : Ints Hds vds ds) (hc : Lits Hc vc c) : Spec Tryz.prog 125 [vds, vc] [Hds, Hc] (fun Hq vq => Ints Hq vq (rstL ds c)) := by
 refine spec_of Tryz.func125 rfl rfl rfl (fun B => ?_)
 refine cS (cr (sg rfl (ln (qc (cS (cr (mv rfl (kl_callL rfl rfl (copied_ok ds (by have := hd.l; omega) ‹_›) (fun v1 H2 f3 o4 => ?_)))))))))
 refine sg rfl (ln (qc (cS (cS (cr (mv rfl (le9 rfl ‹_› (fun l5 => ?_))))))))
 refine mv rfl (ln (qc (bl (kc_loopL (A := Nat × List Int × Hp) (fun zz => (zz.1 ≤ c.length) ∧ (zz.2.1 = rstL ds (c.take zz.1)) ∧ OwnL 3 1 zz.2.2 noHp IntV v1 zz.2.1 ∧ Fr B zz.2.2) (fun zz => c.length - zz.1) (fun zz => [zz.2.2]) (fun zz => [(12, .int .i64 (zz.1 : Int))]) (0, ds, H2) (pk [4, 5, 10, 11] rfl) (pc 12 rfl pn) rfl ⟨Nat.zero_le _, rfl, o4, f3⟩ ?_))))
 rintro ⟨k, xs, H8⟩ hJ11
 obtain ⟨hk6, hi7, o9, f10⟩ : (k ≤ c.length) ∧ (xs = rstL ds (c.take k)) ∧ OwnL 3 1 H8 noHp IntV v1 xs ∧ Fr B H8 := hJ11
 change KC _ _ (_) [H8] _ ([(12, .int .i64 (k : Int))] ++ _)
 have hxl : xs.length = n := (by rw [hi7]; exact (rstL_ok hd (fun l hl => hci l (List.mem_of_mem_take hl))).1.l)
 refine cS (cr (ls9 rfl rfl ?_))
 refine ln (qc (cS (ci9 rfl (fun c12 => ?_) (fun c12 => ?_))))
 ·have hlk := hci _ (getD_mem (d := nilLit) (by omega : k < c.length))
  have hlv := hlk.1
  have hlu := hlk.2
  refine sk (qc (cS (bl (cS (cr (kl_inQ rfl rfl ‹_› (by first | omega | (simp; omega)) (fun p13 a14 => ?_)))))))
  refine kl_ldS rfl ‹_› rfl ?_
  refine kl_alloc (cs := [.int .i64 (0 : Int), .int .i64 (0 : Int), .bool false]) rfl (fun b15 hb16 => ?_)
  refine kl_stW (us := [.int .i64 ((c.getD k nilLit).var), .int .i64 ((c.getD k nilLit).val), .bool ((c.getD k nilLit).neg)]) rfl rfl rfl rfl (oc rfl (oc rfl (oc rfl oc_nil))) rfl ?_
  refine cg [bxS b15 [.int .i64 ((c.getD k nilLit).var), .int .i64 ((c.getD k nilLit).val), .bool ((c.getD k nilLit).neg)] 100, H8] rfl ?_
  refine ln (qc (kc_tree (fun i => ([9] : List Nat).contains i) [bxS b15 [.int .i64 ((c.getD k nilLit).var), .int .i64 ((c.getD k nilLit).val), .bool ((c.getD k nilLit).neg)] 100, H8] (by kernel_rfl) ?_))
  refine kt_q 0 (.cons_cons _ (.cons_cons _ nsl)) rfl (by kernel_rfl) (mv rfl (ln (qq (kt_q 1 (.cons_cons _ (.cons_cons _ nsl)) rfl (by kernel_rfl) (fV rfl (ln (qq (kt_q 2 (.cons_cons _ (.cons_cons _ nsl)) rfl (by kernel_rfl) (ld rfl (at_box (T := 100) (cs := [.int .i64 ((c.getD k nilLit).var), .int .i64 ((c.getD k nilLit).val), .bool ((c.getD k nilLit).neg)]) (off := 0) (fz := (0, 0))) ?_)))))))))
  refine ln (qq (kt_q 3 (.cons_cons _ (.cons_cons _ nsl)) rfl (by kernel_rfl) (kl_ixL rfl rfl ‹_› (by first | omega | (simp; omega)) (by first | omega | (simp; omega)) (fun p17 q18 => ?_))))
  refine ln (qq (kt_q 4 (.cons_cons _ (.cons_cons _ nsl)) rfl (by kernel_rfl) (kl_ldLIe rfl ‹_› ‹_› (by first | omega | (simp; omega)) ?_)))
  refine ln (qq (kt_q 5 (.cons_cons _ (.cons_cons _ nsl)) rfl (by kernel_rfl) (kl_ldS rfl (at_box (T := 100) (cs := [.int .i64 ((c.getD k nilLit).var), .int .i64 ((c.getD k nilLit).val), .bool ((c.getD k nilLit).neg)]) (off := 0) (fz := (0, 0))) rfl ?_)))
  refine ln (qq (ta 6 rfl (cP rfl rfl (truesL_ok (c.getD k nilLit) (by omega)) ?_)))
  refine ln (qa (.cons_cons _ (.cons_cons _ nsl)) (kt_q 7 (.cons_cons _ (.cons_cons _ nsl)) rfl (by kernel_rfl) (kl_and rfl rfl ?_)))
  refine ln (qq (kt_q 8 (.cons_cons _ (.cons_cons _ nsl)) rfl (by kernel_rfl) (kl_ixL rfl rfl ‹_› (by first | omega | (simp; omega)) (by first | omega | (simp; omega)) (fun p19 q20 => ?_))))
  refine ln (qq (ta 9 rfl (kl_stL (iand (xs.getD (((c.getD k nilLit).var).toNat) 0) (truesI (c.getD k nilLit))) rfl rfl ‹_› o9 (by first | omega | (simp; omega)) rfl rfl rfl (fun H21 o22 f23 => ?_))))
  have f24 := f23 _ f10
  refine cg [bxS b15 [.int .i64 ((c.getD k nilLit).var), .int .i64 ((c.getD k nilLit).val), .bool ((c.getD k nilLit).neg)] 100, H21] rfl ?_
  refine ln (qx rfl (kt_end (by kernel_rfl) ?_))
  refine qc (cr (ic9 rfl rfl (by omega) ?_))
  refine mv rfl (ln (tk [H21] ?_))
  refine rL ((k + 1), (xs.set (((c.getD k nilLit).var).toNat) (iand (xs.getD (((c.getD k nilLit).var).toNat) 0) (truesI (c.getD k nilLit)))), H21) (by omega) (⟨by omega, (by rw [← rst_step (by omega), ← hi7]; rfl), o22, f24⟩) (pc 12 rfl pn) (pk [4, 5, 10, 11] rfl) rfl slr9
 ·refine ex9 (qc (cS (cr (mv rfl (sg rfl (ln (qc (rt ?_))))))))
  have e9 : xs = rstL ds c := by (rw [hi7, List.take_of_length_le (by omega)])
  exact kq_ret rfl rfl H8 f10 (e9 ▸ OwnL.ints o9)
theorem unitI_ok (n : Nat) {Hc : Hp} {vc : Value} {Hds : Hp} {vds : Value} (c : List Lit) (ds : List Int) (hd : DOk n ds) (hci : ClIn n c) (hn : n ≤ 4) (hc : Lits Hc vc c) (hds : Ints Hds vds ds) : Spec Tryz.prog 165 [vc, vds] [Hc, Hds] (fun Hq vq => Ints Hq vq (unitL c ds)) := by
 have hdl := hd.l
 refine spec_of Tryz.func165 rfl rfl rfl (fun B => ?_)
 refine cS (cr (sg rfl (ln (qc (cS (cr (kl_bd rfl cp_nil rfl ?_)))))))
 refine kl_alloc (cs := [.int .i64 (0 : Int), .int .i64 (0 : Int), .bool false]) rfl (fun b1 hb2 => ?_)
 refine kl_stW (us := [.int .i64 (0 : Int), .int .i64 (0 : Int), .bool false]) rfl rfl rfl rfl (oc rfl (oc rfl (oc rfl oc_nil))) rfl ?_
 refine cg [bxS b1 [.int .i64 (0 : Int), .int .i64 (0 : Int), .bool false] 100] rfl ?_
 refine sg rfl (ln (qc (cS (cS (cr (mv rfl (le9 rfl ‹_› (fun l3 => ?_))))))))
 refine mv rfl (ln (qc (bl (kc_loopL (A := Nat × Int × Int × Int × Bool) (fun zz => (zz.1 ≤ c.length) ∧ (zz.2.1 = ((opnL (c.take zz.1) ds).length : Int) ∧ LstL (opnL (c.take zz.1) ds) ⟨zz.2.2.1, zz.2.2.2.1, zz.2.2.2.2⟩)) (fun zz => c.length - zz.1) (fun zz => [bxS b1 [.int .i64 zz.2.2.1, .int .i64 zz.2.2.2.1, .bool zz.2.2.2.2] 100]) (fun zz => [(12, .int .i64 (zz.1 : Int)), (6, .int .i64 zz.2.1)]) (0, (0 : Int), (0 : Int), (0 : Int), false) (pk [1, 4, 5, 10, 11] rfl) (pk [12, 6] rfl) rfl ⟨Nat.zero_le _, ⟨rfl, rfl⟩⟩ ?_))))
 rintro ⟨k, q, la, lb, lc⟩ hJ6
 obtain ⟨hk4, hi5⟩ : (k ≤ c.length) ∧ (q = ((opnL (c.take k) ds).length : Int) ∧ LstL (opnL (c.take k) ds) ⟨la, lb, lc⟩) := hJ6
 change KC _ _ (_) [bxS b1 [.int .i64 la, .int .i64 lb, .bool lc] 100] _ ([(12, .int .i64 (k : Int)), (6, .int .i64 q)] ++ _)
 have hql := opn_len c ds k
 refine cS (cr (ls9 rfl rfl ?_))
 refine ln (qc (cS (ci9 rfl (fun c7 => ?_) (fun c7 => ?_))))
 ·have hlk := hci _ (getD_mem (d := nilLit) (by omega : k < c.length))
  have hlv := hlk.1
  have hlu := hlk.2
  refine sk (qc (cS (bl (cS (cr (kl_inQ rfl rfl ‹_› (by omega) (fun p8 a9 => ?_)))))))
  refine kl_ldS rfl ‹_› rfl ?_
  refine kl_alloc (cs := [.int .i64 (0 : Int), .int .i64 (0 : Int), .bool false]) rfl (fun b10 hb11 => ?_)
  refine kl_stW (us := [.int .i64 ((c.getD k nilLit).var), .int .i64 ((c.getD k nilLit).val), .bool ((c.getD k nilLit).neg)]) rfl rfl rfl rfl (oc rfl (oc rfl (oc rfl oc_nil))) rfl ?_
  refine cg [bxS b10 [.int .i64 ((c.getD k nilLit).var), .int .i64 ((c.getD k nilLit).val), .bool ((c.getD k nilLit).neg)] 100, bxS b1 [.int .i64 la, .int .i64 lb, .bool lc] 100] rfl ?_
  refine ln (qc (cS (kc_tree (fun i => ([] : List Nat).contains i) [bxS b10 [.int .i64 ((c.getD k nilLit).var), .int .i64 ((c.getD k nilLit).val), .bool ((c.getD k nilLit).neg)] 100] (by kernel_rfl) ?_)))
  refine tq 0 (.cons_cons _ nsl) rfl (mv rfl (ln (qq (tq 1 (.cons_cons _ nsl) rfl (fV rfl (ln (qq (tq 2 (.cons_cons _ nsl) rfl (ld rfl (at_box (T := 100) (cs := [.int .i64 ((c.getD k nilLit).var), .int .i64 ((c.getD k nilLit).val), .bool ((c.getD k nilLit).neg)]) (off := 0) (fz := (0, 0))) ?_)))))))))
  refine ln (qq (tq 3 (.cons_cons _ nsl) rfl (kl_ixI rfl rfl ‹_› (by omega) (by omega) (fun p12 a13 => ?_))))
  refine ln (qq (tq 4 (.cons_cons _ nsl) rfl (ld rfl ‹_› (ln (qq (tq 5 (.cons_cons _ nsl) rfl (kl_ldS rfl (at_box (T := 100) (cs := [.int .i64 ((c.getD k nilLit).var), .int .i64 ((c.getD k nilLit).val), .bool ((c.getD k nilLit).neg)]) (off := 0) (fz := (0, 0))) rfl ?_)))))))
  refine ln (qq (ta 6 rfl (cP rfl rfl (truesL_ok (c.getD k nilLit) (by first | omega | (have h9 := un_last hci hi5 (by omega) (by omega); exact h9.2.1))) ?_)))
  refine ln (qa (.cons_cons _ nsl) (tq 7 (.cons_cons _ nsl) rfl (kl_and rfl rfl ?_)))
  refine ln (qq (tq 8 (.cons_cons _ nsl) rfl (kl_neq rfl rfl ?_)))
  refine ln (qq (kt_end (by kernel_rfl) ?_))
  refine qc (ci9 rfl (fun c14 => ?_) (fun c14 => ?_))
  ·refine cS (cr (kl_ldW rfl rfl (kl_stW (us := [.int .i64 ((c.getD k nilLit).var), .int .i64 ((c.getD k nilLit).val), .bool ((c.getD k nilLit).neg)]) rfl rfl rfl rfl (oc rfl (oc rfl (oc rfl oc_nil))) rfl ?_)))
   refine cg [bxS b10 [.int .i64 ((c.getD k nilLit).var), .int .i64 ((c.getD k nilLit).val), .bool ((c.getD k nilLit).neg)] 100, bxS b1 [.int .i64 ((c.getD k nilLit).var), .int .i64 ((c.getD k nilLit).val), .bool ((c.getD k nilLit).neg)] 100] rfl ?_
   refine ln (qc (cr (mv rfl (ad9 rfl rfl (by omega) ?_))))
   refine sg rfl (ln (qc (cr (ic9 rfl rfl (by omega) ?_))))
   refine mv rfl (ln (tk [bxS b1 [.int .i64 ((c.getD k nilLit).var), .int .i64 ((c.getD k nilLit).val), .bool ((c.getD k nilLit).neg)] 100] ?_))
   refine rL ((k + 1), (q + (1 : Int)), ((c.getD k nilLit).var), ((c.getD k nilLit).val), ((c.getD k nilLit).neg)) (by omega) (⟨by omega, (by first | exact un_T hi5 (by omega) ‹_› | exact un_F hi5 (by omega) ‹_›)⟩) (pk [12, 6] rfl) (pk [1, 4, 5, 10, 11] rfl) rfl slr9
  ·refine sk (qc (cr (ic9 rfl rfl (by omega) ?_)))
   refine mv rfl (ln (tk [bxS b1 [.int .i64 la, .int .i64 lb, .bool lc] 100] ?_))
   refine rL ((k + 1), q, la, lb, lc) (by omega) (⟨by omega, (by first | exact un_T hi5 (by omega) ‹_› | exact un_F hi5 (by omega) ‹_›)⟩) (pk [12, 6] rfl) (pk [1, 4, 5, 10, 11] rfl) rfl slr9
 ·refine ex9 (qc (cS (cS (cr (mv rfl (ln (qc (bl (cS (cr (eq9 rfl rfl ?_)))))))))))
  refine sg rfl (ln (qc (ci9 rfl (fun c15 => ?_) (fun c15 => ?_))))
  ·refine cS (cr (mv rfl (le9 rfl ‹_› (fun l16 => ?_))))
   refine kl_mkL (R := IntV) (0 : Int) rfl rfl (by omega) (by decide) (by exact rfl) (fun v17 H18 f19 o20 => ?_)
   refine sg rfl (ln (qc (rt ?_)))
   have e9 : (List.replicate ds.length (0 : Int)) = unitL c ds := by (rw [un_0 hi5 (by omega) ‹_›]; rfl)
   exact kq_ret rfl rfl H18 f19 (e9 ▸ OwnL.ints o20)
  ·refine cS (cr (eq9 rfl rfl ?_))
   refine sg rfl (ln (qc (ci9 rfl (fun c21 => ?_) (fun c21 => ?_))))
   ·refine cS (kc_tree (fun i => ([5] : List Nat).contains i) [bxS b1 [.int .i64 la, .int .i64 lb, .bool lc] 100] (by kernel_rfl) ?_)
    refine tq 0 (.cons_cons _ nsl) rfl (mv rfl (ln (qq (tq 1 (.cons_cons _ nsl) rfl (fV rfl (ln (qq (tq 2 (.cons_cons _ nsl) rfl (ld rfl (at_box (T := 100) (cs := [.int .i64 la, .int .i64 lb, .bool lc]) (off := 0) (fz := (0, 0))) (ln (qq ?_)))))))))))
    refine tq 3 (.cons_cons _ nsl) rfl (kl_ldS rfl (at_box (T := 100) (cs := [.int .i64 la, .int .i64 lb, .bool lc]) (off := 0) (fz := (0, 0))) rfl ?_)
    refine ln (qq (ta 4 rfl (cP rfl rfl (truesL_ok (⟨la, lb, lc⟩ : Lit) (by first | omega | (have h9 := un_last hci hi5 (by omega) (by omega); exact h9.2.1))) ?_)))
    refine ln (qa (.cons_cons _ nsl) (ta 5 rfl (kl_call rfl rfl (limited_ok ds la (truesI (⟨la, lb, lc⟩ : Lit)) (by omega) (by have h9 := un_last hci hi5 (by omega) (by omega); omega) ‹_›) (fun v22 H23 f24 h25 => ?_))))
    refine ln (qx rfl (tq 6 (.cons_cons _ nsl) rfl (sg rfl (ln (qq (kt_end (by kernel_rfl) ?_))))))
    refine qc (rt ?_)
    have e9 : (ds.set la.toNat (iand (ds.getD la.toNat 0) (truesI (⟨la, lb, lc⟩ : Lit)))) = unitL c ds := by (rw [un_1 hi5 (by omega) ‹_›]; rfl)
    exact kq_ret rfl rfl H23 f24 (e9 ▸ (by assumption : Ints _ _ (ds.set la.toNat (iand (ds.getD la.toNat 0) (truesI (⟨la, lb, lc⟩ : Lit))))))
   ·refine sk (qc (cS (cr (mv rfl (kl_call rfl rfl (copied_ok ds (by omega) ‹_›) (fun v26 H27 f28 o29 => ?_))))))
    have h30 := OwnL.ints o29
    refine sg rfl (ln (qc (rt ?_)))
    have e9 : ds = unitL c ds := by (rw [un_2 hi5 (by omega) ‹_› ‹_›])
    exact kq_ret rfl rfl H27 f28 (e9 ▸ (by assumption : Ints _ _ ds))
theorem wcl1_ok {Hds : Hp} {vds : Value} {Hmd : Hp} {vmd : Value} {Hmc : Hp} {vmc : Value} {Hpm : Hp} {ptrpm : Value} {Hcls : Hp} {vcls : Value} {Hpc : Hp} {ptrpc : Value} (ds : List Int) (m : Mod) (cls : List (List Lit)) (hM : MOk m) (hcl : ClsIn m.doms.length cls) (hd : DOk m.doms.length ds) (hds : Ints Hds vds ds) (hmd : Ints Hmd vmd m.doms) (hmc : Cons Hmc vmc m.cons) (apm : At Hpm ptrpm [vmd, vmc]) (hcls : LRows Hcls vcls cls) (apc : At Hpc ptrpc [vcls]) : Spec Tryz.prog 164 [vds, ptrpm, ptrpc] [Hds, Hmd, Hmc, Hpm, Hcls, Hpc] (fun Hq vq => Ints Hq vq (stepW m cls ds)) := by
 have hn := hM.n
 have hp := propOk hM hd
 refine spec_of Tryz.func164 rfl rfl rfl (fun B => ?_)
 refine cS (cr (sg rfl (ln (qc (cS (cr (kl_ldS rfl ‹_› rfl ?_)))))))
 refine mv rfl (kl_call rfl rfl (propagate_ok m ds hM hd ‹_› ‹_› ‹_›) (fun v1 H2 f3 h4 => ?_))
 refine sg rfl (ln (qc (cS (cS (cr (ld rfl ‹_› (le9 rfl ‹_› (fun l5 => ?_))))))))
 refine mv rfl (ln (qc (bl (kc_loopK (A := Nat × List Int × Value × Hp) (fun zz => (zz.1 ≤ cls.length) ∧ (zz.2.1 = unitA (cls.take zz.1) (prop m ds)) ∧ Fr B zz.2.2.2 ∧ Ints zz.2.2.2 zz.2.2.1 zz.2.1) (fun zz => cls.length - zz.1) (fun zz => zz.2.2.2) (fun zz => []) (fun zz => [(12, .int .i64 (zz.1 : Int)), (0, zz.2.2.1)]) (0, (prop m ds), v1, H2) (pk [4, 10, 11] rfl) (pk [12, 0] rfl) rfl ⟨Nat.zero_le _, rfl, f3, ‹_›⟩ ?_))))
 rintro ⟨k, xs, v8, K9⟩ hJ12
 obtain ⟨hk6, hi7, f10, h11⟩ : (k ≤ cls.length) ∧ (xs = unitA (cls.take k) (prop m ds)) ∧ Fr B K9 ∧ Ints K9 v8 xs := hJ12
 change KC _ _ (K9 :: _) [] _ ([(12, .int .i64 (k : Int)), (0, v8)] ++ _)
 refine cS (cr (ls9 rfl rfl ?_))
 refine ln (qc (cS (ci9 rfl (fun c13 => ?_) (fun c13 => ?_))))
 ·refine sk (qc (cS (bl (cS (cr (kl_inS rfl rfl ‹_› (by omega) (fun p14 u16 h17 a15 => ?_)))))))
  refine ld rfl ‹_› (sg rfl (ln (qc (cr (mv rfl (mv rfl (kl_call rfl rfl (unitI_ok m.doms.length (cls.getD k []) xs (by rw [hi7]; exact (unitA_ok hp.ok (cls_take hcl k)).1) (cls_at hcl (by omega)) hn.2 ‹_› ‹_›) (fun v18 H19 f20 h21 => ?_))))))))
  refine sg rfl (ln (qc (cr (ic9 rfl rfl (by omega) ?_))))
  refine mv rfl (ln (kq_roundK ((k + 1), (unitL (cls.getD k []) xs), v18, H19) (by omega) (⟨by omega, (by rw [← unitA_step (by omega), ← hi7]), f20, ‹_›⟩) (pk [12, 0] rfl) (pk [4, 10, 11] rfl) rfl slr9))
 ·refine ex9 (qc (cS (cr (mv rfl (sg rfl (ln (qc (rt ?_))))))))
  have e9 : xs = stepW m cls ds := by (rw [hi7, List.take_of_length_le (by omega)]; rfl)
  exact kq_ret rfl rfl K9 f10 (e9 ▸ (by assumption : Ints _ _ xs))
theorem fixW_ok {Hds : Hp} {vds : Value} {Hmd : Hp} {vmd : Value} {Hmc : Hp} {vmc : Value} {Hpm : Hp} {ptrpm : Value} {Hcls : Hp} {vcls : Value} {Hpc : Hp} {ptrpc : Value} (ds : List Int) (m : Mod) (cls : List (List Lit)) (hM : MOk m) (hcl : ClsIn m.doms.length cls) (hd : DOk m.doms.length ds) (hds : Ints Hds vds ds) (hmd : Ints Hmd vmd m.doms) (hmc : Cons Hmc vmc m.cons) (apm : At Hpm ptrpm [vmd, vmc]) (hcls : LRows Hcls vcls cls) (apc : At Hpc ptrpc [vcls]) : Spec Tryz.prog 135 [vds, .func (.func 164) #[] #[ptrpm, ptrpc]] [Hds, Hmd, Hmc, Hpm, Hcls, Hpc] (fun Hq vq => Ints Hq vq (wcl m cls ds)) := by
 refine spec_of Tryz.func135 rfl rfl rfl (fun B => ?_)
 refine cS (cr (sg rfl (ln (qc (cS (cr (mv rfl (kl_call rfl rfl (copied_ok ds (by have := hd.l; have := hM.n; omega) ‹_›) (fun v1 H2 f3 o4 => ?_)))))))))
 have h5 := OwnL.ints o4
 refine sg rfl (ln (qc (bl (kc_loopK (A := List Int × Value × Hp) (fun zz => (DOk m.doms.length zz.1 ∧ wcl m cls zz.1 = wcl m cls ds) ∧ Fr B zz.2.2 ∧ Ints zz.2.2 zz.2.1 zz.1) (fun zz => sumN zz.1) (fun zz => zz.2.2) (fun zz => []) (fun zz => [(5, zz.2.1)]) (ds, v1, H2) (pc 1 rfl pn) (pc 5 rfl pn) rfl ⟨⟨hd, rfl⟩, f3, ‹_›⟩ ?_))))
 rintro ⟨xs, v8, K9⟩ hJ12
 obtain ⟨hi7, f10, h11⟩ : (DOk m.doms.length xs ∧ wcl m cls xs = wcl m cls ds) ∧ Fr B K9 ∧ Ints K9 v8 xs := hJ12
 change KC _ _ (K9 :: _) [] _ ([(5, v8)] ++ _)
 have hD := hi7.1
 refine bl (cS (cS (cr (mv rfl (cP rfl rfl (containsInts_ok xs (0 : Int) ‹_›) ?_)))))
 refine ln (qc (cd9 rfl (fun c13 => ?_) (fun c13 => ?_)))
 ·have c13r := c13
  try simp only [smpE] at c13
  refine cS (cr (mv rfl (le9 rfl ‹_› (fun l14 => ?_))))
  refine kl_mkL (R := IntV) (0 : Int) rfl rfl (by (have := hD.l; have := hM.n; omega)) (by decide) (by exact rfl) (fun v15 H16 f17 o18 => ?_)
  refine sg rfl (ln (qc (rt ?_)))
  have e9 : (List.replicate xs.length (0 : Int)) = wcl m cls ds := by (rw [← hi7.2]; exact (wcl_0 ‹_›).symm)
  exact kq_ret rfl rfl H16 f17 (e9 ▸ OwnL.ints o18)
 ·have c13r := c13
  try simp only [smpE] at c13
  refine sk (qc (cS (cr (mv rfl (mv rfl (kl_call rfl rfl (wcl1_ok xs m cls hM hcl hD ‹_› ‹_› ‹_› ‹_› ‹_› ‹_›) (fun v19 H20 f21 h22 => ?_)))))))
  refine sg rfl (ln (qc (cS (cS (cr (mv rfl (mv rfl (cP rfl rfl (equal_ok (stepW m cls xs) xs ‹_› ‹_›) ?_))))))))
  refine ln (qc (cd9 rfl (fun c23 => ?_) (fun c23 => ?_)))
  ·have c23r := c23
   try simp only [smpE] at c23
   refine cS (cr (mv rfl (sg rfl (ln (qc (rt ?_))))))
   have e9 : xs = wcl m cls ds := by (rw [← hi7.2]; exact (wcl_fix ‹_› ‹_›).symm)
   exact kq_ret rfl rfl K9 f10 (e9 ▸ (by assumption : Ints _ _ xs))
  ·have c23r := c23
   try simp only [smpE] at c23
   refine sk (qc (cr (mv rfl (sg rfl (ln (kq_roundK ((stepW m cls xs), v19, H20) (by (dsimp only; exact stepW_lt hM hD hcl ‹_›)) (⟨⟨(stepW_ok hM hD hcl).1, (wcl_step hM hD hcl ‹_› ‹_›).trans hi7.2⟩, f21, ‹_›⟩) (pc 5 rfl pn) (pc 1 rfl pn) rfl slr9))))))
theorem wclI_ok {Hmd : Hp} {vmd : Value} {Hmc : Hp} {vmc : Value} {Hcls : Hp} {vcls : Value} {Hds : Hp} {vds : Value} (m : Mod) (cls : List (List Lit)) (ds : List Int) (hM : MOk m) (hcl : ClsIn m.doms.length cls) (hd : DOk m.doms.length ds) (hmd : Ints Hmd vmd m.doms) (hmc : Cons Hmc vmc m.cons) (hcls : LRows Hcls vcls cls) (hds : Ints Hds vds ds) : Spec Tryz.prog 124 [.agg #[vmd, vmc], vcls, vds] [Hmd, Hmc, Hcls, Hds] (fun Hq vq => Ints Hq vq (wcl m cls ds)) := by
 refine spec_of Tryz.func124 rfl rfl rfl (fun B => ?_)
 refine cS (cr (kl_box rfl rfl (fun p1 H2 f3 a4 => ?_)))
 refine kl_box rfl (Sl.cells ‹_›) (fun p5 H6 f7 a8 => ?_)
 refine sg rfl (ln (qc (cS (cr (mv rfl (kl_mkf rfl ?_))))))
 refine kl_call rfl rfl (fixW_ok ds m cls hM hcl hd ‹_› ‹_› ‹_› ‹_› ‹_› ‹_›) (fun v9 H10 f11 h12 => ?_)
 refine sg rfl (ln (qc (rt ?_)))
 exact kq_ret rfl rfl H10 f11 ‹_›
theorem impliedI_ok {Hmd : Hp} {vmd : Value} {Hmc : Hp} {vmc : Value} {Hcls : Hp} {vcls : Value} {Hc : Hp} {vc : Value} (m : Mod) (cls : List (List Lit)) (c : List Lit) (hM : MOk m) (hcl : ClsIn m.doms.length cls) (hl : LOk m c) (hlc : clI (m.doms.length : Int) c = true) (hmd : Ints Hmd vmd m.doms) (hmc : Cons Hmc vmc m.cons) (hcls : LRows Hcls vcls cls) (hc : Lits Hc vc c) : SpecP Tryz.prog 80 [.agg #[vmd, vmc], vcls, vc] [Hmd, Hmc, Hcls, Hc] (.bool (impB m cls c)) := by
 have hn := hM.n
 have hnd := cl_nodup hlc
 refine spec_of Tryz.func80 rfl rfl rfl (fun B => ?_)
 refine cS (cr (kl_box rfl rfl (fun p1 H2 f3 a4 => ?_)))
 refine sg rfl (ln (qc (cS (kc_tree (fun i => ([7] : List Nat).contains i) [] (by kernel_rfl) ?_))))
 refine tq 0 nsl rfl (kl_ldS rfl ‹_› rfl ?_)
 refine ln (qq (tq 1 nsl rfl (mv rfl (ln (qq (tq 2 nsl rfl (fd9 rfl ‹_› (fun p5 a6 => ?_))))))))
 refine ln (qq (tq 3 nsl rfl (ld rfl ‹_› (ln (qq (tq 4 nsl rfl (mv rfl (ln (qq (ta 5 rfl (kl_call rfl rfl (negsL_ok c hnd.1 hl.n ‹_›) (fun v7 H8 f9 h10 => ?_))))))))))))
 obtain ⟨y11, h12, h13⟩ := h10
 have hng := h13
 refine ln (qa nsl (ta 6 rfl (kl_call rfl rfl (restrI_ok m.doms.length m.doms y11 hM.dok (negR_in hl.h hng) hn.2 ‹_› ‹_›) (fun v14 H15 f16 h17 => ?_))))
 refine ln (qa nsl (ta 7 rfl (kl_call rfl rfl (wclI_ok m cls (rstL m.doms y11) hM hcl (rstL_ok hM.dok (negR_in hl.h hng)).1 ‹_› ‹_› ‹_› ‹_›) (fun v18 H19 f20 h21 => ?_))))
 refine ln (qx rfl (tq 8 nsl rfl (kl_inI (i := 0) rfl rfl ‹_› (by (have h9 := (wclOk hM hcl (rstL_ok hM.dok (negR_in hl.h hng)).1).l; omega)) (fun p22 a23 => ?_))))
 refine ln (qq (tq 9 nsl rfl (ld rfl ‹_› (ln (qq (tq 10 nsl rfl (eq9 rfl rfl ?_)))))))
 refine ln (qq (tq 11 nsl rfl (sg rfl (ln (qq (kt_end (by kernel_rfl) ?_))))))
 refine qc (rt (kq_retP rfl rfl (congrArg Value.bool ?_)))
 (unfold impB rfE; rw [rst_neg hM.dok hl.h hng])
theorem ixf_lrow_ok {Hxs : Hp} {vxs : Value} {gp : Nat} {capsp : Array Value} {imp : List Hp} [FnC Tryz.prog gp] (xs : List (List Lit)) (p : List Lit → Bool) (hxs : LRows Hxs vxs xs) (hp : ∀ (H : Hp) (u : Value) (r : List Lit), r ∈ xs → Lits H u r → SpecP Tryz.prog gp (u :: capsp.toList) (H :: imp) (.bool (p r))) : SpecP Tryz.prog 161 [vxs, .func (.func gp) #[] capsp] (Hxs :: imp) (.int .i64 (indexBy p xs)) := by
 refine spec_of Tryz.func161 rfl rfl rfl (fun B => ?_)
 refine cS (cr (sg rfl (ln (qc (cS (cS (cr (mv rfl (le9 rfl ‹_› (fun l1 => ?_))))))))))
 refine mv rfl (ln (qc (bl (kc_loop0 (A := Nat) (fun zz => (zz ≤ xs.length) ∧ ((xs.take zz).any p = false)) (fun zz => xs.length - zz) (fun zz => [(8, .int .i64 (zz : Int))]) (0) (pk [0, 1, 7] rfl) (pc 8 rfl pn) ⟨Nat.zero_le _, by simp⟩ ?_))))
 rintro k hJ4
 obtain ⟨hk2, hi3⟩ : (k ≤ xs.length) ∧ ((xs.take k).any p = false) := hJ4
 change KC _ _ (_) _ _ ([(8, .int .i64 (k : Int))] ++ _)
 refine cS (cr (ls9 rfl rfl ?_))
 refine ln (qc (cS (ci9 rfl (fun c5 => ?_) (fun c5 => ?_))))
 ·refine sk (qc (cS (bl (cS (cr (mv rfl (sg rfl (ln (qc (cS (cr (mv rfl ?_))))))))))))
  refine mv rfl (mv rfl (kl_inS rfl rfl ‹_› (by omega) (fun p6 u8 h9 a7 => ?_)))
  refine ld rfl ‹_› (cP rfl rfl (hp _ _ (xs.getD k []) (getD_mem (by omega)) ‹_›) ?_)
  refine ln (qc (cd9 rfl (fun c10 => ?_) (fun c10 => ?_)))
  ·have c10r := c10
   try simp only [smpE] at c10
   refine cS (cr (mv rfl (sg rfl (ln (qc (rt (kq_retP rfl rfl (congrArg (Value.int .i64) ?_))))))))
   exact indexBy_hit (d := ([] : List Lit)) (by omega) ‹_› ‹_›
  ·have c10r := c10
   try simp only [smpE] at c10
   refine sk (qc (cr (ic9 rfl rfl (by omega) ?_)))
   refine mv rfl (ln (kq_round0 ((k + 1)) (by omega) (⟨by omega, any_take_step (d := ([] : List Lit)) (by omega) hi3 ‹_›⟩) (pc 8 rfl pn) (pk [0, 1, 7] rfl) slr9))
 ·refine ex9 (qc (cS (cr (sg rfl (ln (qc (rt (kq_retP rfl rfl (congrArg (Value.int .i64) ?_)))))))))
  exact indexBy_none (by omega) ‹_›
theorem cf_lrow_ok {Hxs : Hp} {vxs : Value} {gp : Nat} {capsp : Array Value} {imp : List Hp} [FnC Tryz.prog gp] (xs : List (List Lit)) (p : List Lit → Bool) (hxs : LRows Hxs vxs xs) (hp : ∀ (H : Hp) (u : Value) (r : List Lit), r ∈ xs → Lits H u r → SpecP Tryz.prog gp (u :: capsp.toList) (H :: imp) (.bool (p r))) : SpecP Tryz.prog 121 [vxs, .func (.func gp) #[] capsp] (Hxs :: imp) (.bool (xs.any p)) := by
 refine spec_of Tryz.func121 rfl rfl rfl (fun B => ?_)
 refine cS (cr (sg rfl (ln (qc (cS (cr (mv rfl (mv rfl (cP rfl rfl (ixf_lrow_ok xs p ‹_› hp) ?_)))))))))
 refine kl_geq rfl rfl ?_
 refine sg rfl (ln (qc (rt (kq_retP rfl rfl (congrArg Value.bool ?_)))))
 exact indexBy_any p xs
theorem prfOk1_ok {Hc : Hp} {vc : Value} {Hpn : Hp} {ptrpn : Value} (c : List Lit) (n : Int) (hn : -9223372036854775807 ≤ n ∧ n ≤ 9223372036854775807) (hc : Lits Hc vc c) (apn : At Hpn ptrpn [.int .i64 n]) : SpecP Tryz.prog 122 [vc, ptrpn] [Hc, Hpn] (.bool (!(clI n c))) := by
 refine spec_of Tryz.func122 rfl rfl rfl (fun B => ?_)
 refine cS (cr (sg rfl (ln (qc (cS (cr (mv rfl (ld rfl ‹_› (cP rfl rfl (validClI_ok c n (by first | assumption | omega) ‹_›) ?_)))))))))
 refine nt9 rfl (sg rfl (ln (qc (rt (kq_retP rfl rfl (congrArg Value.bool ?_))))))
 rfl
theorem prfOk_ok {Hp : Hp} {vp : Value} (n : Int) (p : List (List Lit)) (hn : -9223372036854775807 ≤ n ∧ n ≤ 9223372036854775807) (hp : LRows Hp vp p) : SpecP Tryz.prog 79 [.int .i64 n, vp] [Hp] (.bool (prfB n p)) := by
 refine spec_of Tryz.func79 rfl rfl rfl (fun B => ?_)
 refine cS (cr (kl_box rfl rfl (fun p1 H2 f3 a4 => ?_)))
 refine sg rfl (ln (qc (cS (cr (mv rfl (le9 rfl ‹_› (fun l5 => ?_)))))))
 refine kl_leq rfl rfl ?_
 refine mv rfl (jn 5 13 (.bool (decide ((p.length : Int) ≤ (200 : Int)) && !(p.any (fun x6 => !(clI n x6))))) (pk [4, 8] rfl) (fun J8 => ?_) ?_)
 ·rcases Bool.eq_false_or_eq_true (decide ((p.length : Int) ≤ (200 : Int))) with g6 | g6
  ·have g6p := of_decide_eq_true g6
   refine gT rfl rfl g6 (mv rfl (gT rfl rfl g6 (kl_mkf rfl ?_)))
   refine gT rfl rfl g6 (cP rfl rfl (cf_lrow_ok p (fun x6 => !(clI n x6)) ‹_› (fun _ ux6 x6 _ hux6 => prfOk1_ok x6 n (by first | assumption | omega) hux6 ‹_›)) ?_)
   refine gT rfl rfl g6 (nt9 rfl (aT rfl rfl g6 ?_))
   exact J8 _ (pk [13, 4, 8] rfl)
  ·refine gF rfl rfl g6 (gF rfl rfl g6 (gF rfl rfl g6 (gF rfl rfl g6 (aF (!(p.any (fun x6 => !(clI n x6)))) rfl rfl g6 ?_))))
   exact J8 _ (pk [13, 4, 8] rfl)
 refine sg rfl (ln (qc (rt (kq_retP rfl rfl (congrArg Value.bool ?_)))))
 rfl
theorem chkPI_ok {Hmd : Hp} {vmd : Value} {Hmc : Hp} {vmc : Value} {Hp : Hp} {vp : Value} (m : Mod) (p : List (List Lit)) (hmd : Ints Hmd vmd m.doms) (hmc : Cons Hmc vmc m.cons) (hp : LRows Hp vp p) : SpecP Tryz.prog 45 [.agg #[vmd, vmc], vp] [Hmd, Hmc, Hp] (.bool (chkP m p)) := by
 refine spec_of Tryz.func45 rfl rfl rfl (fun B => ?_)
 refine cS (cr (kl_box rfl rfl (fun p1 H2 f3 a4 => ?_)))
 refine sg rfl (ln (qc (cS (cS (cr (kl_ldS rfl ‹_› rfl ?_))))))
 refine cP rfl rfl (validMod_ok m ‹_› ‹_›) ?_
 refine nt9 rfl (mv rfl (jn 7 17 (.bool (!(validModB m) || !(prfB (m.doms.length : Int) p))) (pk [1, 2, 4, 10] rfl) (fun J9 => ?_) ?_))
 ·rcases Bool.eq_false_or_eq_true (!(validModB m)) with g5 | g5
  ·refine gF rfl rfl g5 (gF rfl rfl g5 (gF rfl rfl g5 (gF rfl rfl g5 (gF rfl rfl g5 (gF rfl rfl g5 (oT (!(prfB (m.doms.length : Int) p)) rfl rfl g5 ?_))))))
   exact J9 _ (pk [17, 1, 2, 4, 10] rfl)
  ·have g5p := g5
   try simp only [smpD] at g5p
   refine gT rfl rfl g5 (fd9 rfl ‹_› (fun p6 a7 => ?_))
   refine gT rfl rfl g5 (ld rfl ‹_› (gT rfl rfl g5 (le9 rfl ‹_› (fun l8 => ?_))))
   refine gT rfl rfl g5 (mv rfl (gT rfl rfl g5 (cP rfl rfl (prfOk_ok (m.doms.length : Int) p (by omega) ‹_›) ?_)))
   refine gT rfl rfl g5 (nt9 rfl (oF rfl rfl g5 ?_))
   exact J9 _ (pk [17, 1, 2, 4, 10] rfl)
 refine mv rfl (jn 4 22 (.bool ((!(validModB m) || !(prfB (m.doms.length : Int) p)) || decide ((p.length : Int) = (0 : Int)))) (pk [1, 2, 4, 18] rfl) (fun J12 => ?_) ?_)
 ·rcases Bool.eq_false_or_eq_true (!(validModB m) || !(prfB (m.doms.length : Int) p)) with g10 | g10
  ·refine gF rfl rfl g10 (gF rfl rfl g10 (gF rfl rfl g10 (oT (decide ((p.length : Int) = (0 : Int))) rfl rfl g10 ?_)))
   exact J12 _ (pk [22, 1, 2, 4, 18] rfl)
  ·have g10p := g10
   try simp only [smpD] at g10p
   refine gT rfl rfl g10 (mv rfl (gT rfl rfl g10 (le9 rfl ‹_› (fun l11 => ?_))))
   refine gT rfl rfl g10 (eq9 rfl rfl ?_)
   refine oF rfl rfl g10 ?_
   exact J12 _ (pk [22, 1, 2, 4, 18] rfl)
 refine mv rfl (jn 9 32 (.bool (((!(validModB m) || !(prfB (m.doms.length : Int) p)) || decide ((p.length : Int) = (0 : Int))) || decide ((0 : Int) < ((p.getD ((p.length : Int) - (1 : Int)).toNat []).length : Int)))) (pk [1, 2, 4, 23] rfl) (fun J20 => ?_) ?_)
 ·rcases Bool.eq_false_or_eq_true ((!(validModB m) || !(prfB (m.doms.length : Int) p)) || decide ((p.length : Int) = (0 : Int))) with g13 | g13
  ·refine gF rfl rfl g13 (gF rfl rfl g13 (gF rfl rfl g13 (gF rfl rfl g13 (gF rfl rfl g13 (gF rfl rfl g13 (gF rfl rfl g13 (gF rfl rfl g13 (oT (decide ((0 : Int) < ((p.getD ((p.length : Int) - (1 : Int)).toNat []).length : Int))) rfl rfl g13 ?_))))))))
   exact J20 _ (pk [32, 1, 2, 4, 23] rfl)
  ·have g13p := g13
   try simp only [smpD] at g13p
   refine gT rfl rfl g13 (mv rfl (gT rfl rfl g13 (mv rfl (gT rfl rfl g13 (le9 rfl ‹_› (fun l14 => ?_))))))
   refine gT rfl rfl g13 (sb9 rfl rfl (by omega) ?_)
   refine gT rfl rfl g13 (kl_ixS rfl rfl ‹_› (by omega) (by omega) (fun p15 u17 h18 a16 => ?_))
   refine gT rfl rfl g13 (ld rfl ‹_› (gT rfl rfl g13 (le9 rfl ‹_› (fun l19 => ?_))))
   refine gT rfl rfl g13 (kl_gtr rfl rfl ?_)
   refine oF rfl rfl g13 ?_
   exact J20 _ (pk [32, 1, 2, 4, 23] rfl)
 refine ln (qc (cd9 rfl (fun c21 => ?_) (fun c21 => ?_)))
 ·have c21r := c21
  try simp only [smpE] at c21
  have hno := c21r
  refine cS (cr (sg rfl (ln (qc (rt (kq_retP rfl rfl (congrArg Value.bool ?_)))))))
  exact ck_no hno
 ·have c21r := c21
  try simp only [smpE] at c21
  have hgo := c21r
  have hck := ck_ok hgo
  refine sk (qc (cS (cS (cr (mv rfl (le9 rfl ‹_› (fun l22 => ?_)))))))
  refine mv rfl (ln (qc (bl (kc_loop0 (A := Nat) (fun zz => (zz ≤ p.length) ∧ ((List.range zz).all (fun i => impB m (p.take i) (p.getD i [])) = true)) (fun zz => p.length - zz) (fun zz => [(35, .int .i64 (zz : Int))]) (0) (pk [1, 2, 33, 34] rfl) (pc 35 rfl pn) ⟨Nat.zero_le _, rfl⟩ ?_))))
  rintro k hJ25
  obtain ⟨hk23, hi24⟩ : (k ≤ p.length) ∧ ((List.range k).all (fun i => impB m (p.take i) (p.getD i [])) = true) := hJ25
  change KC _ _ (_) _ _ ([(35, .int .i64 (k : Int))] ++ _)
  refine cS (cr (ls9 rfl rfl ?_))
  refine ln (qc (cS (ci9 rfl (fun c26 => ?_) (fun c26 => ?_))))
  ·refine sk (qc (cS (bl (cS (cr (mv rfl (kl_inS rfl rfl ‹_› (by omega) (fun p27 u29 h30 a28 => ?_))))))))
   refine ld rfl ‹_› (sg rfl (sg rfl (ln (qc (cS (kc_draw 7 [true, true, true, true, true, false, true] (by kernel_rfl) (by kernel_rfl) ?_))))))
   refine kl_ldS rfl ‹_› rfl ?_
   refine mv rfl (mv rfl (kl_slTake rfl rfl ‹_› (by omega) (fun u31 h32 => ?_)))
   refine mv rfl (cP rfl rfl (impliedI_ok m (p.take k) (p.getD k []) hck.hM (cls_take hck.hp _) (hck.hc _ (getD_mem (by omega))).1 (hck.hc _ (getD_mem (by omega))).2 ‹_› ‹_› ‹_› ‹_›) ?_)
   refine nt9 rfl (ln (qc (cd9 rfl (fun c33 => ?_) (fun c33 => ?_))))
   ·have c33r := c33
    try simp only [smpE] at c33
    have hib := c33r
    refine cS (cr (sg rfl (ln (qc (rt (kq_retP rfl rfl (congrArg Value.bool ?_)))))))
    exact ck_hit (k := k) hgo (by omega) (by simpa using hib)
   ·have c33r := c33
    try simp only [smpE] at c33
    have hib := c33r
    refine sk (qc (cr (ic9 rfl rfl (by omega) ?_)))
    refine mv rfl (ln (kq_round0 ((k + 1)) (by omega) (⟨by omega, (ck_step hi24 (by simpa using hib))⟩) (pc 35 rfl pn) (pk [1, 2, 33, 34] rfl) slr9))
  ·refine ex9 (qc (cS (cr (sg rfl (ln (qc (rt (kq_retP rfl rfl (congrArg Value.bool ?_)))))))))
   exact ck_end hgo (by omega) hi24
theorem chkBI_ok {Hmd : Hp} {vmd : Value} {Hmc : Hp} {vmc : Value} {Hobj : Hp} {vobj : Value} {Hp : Hp} {vp : Value} (m : Mod) (obj : List Int) (b : Int) (p : List (List Lit)) (hmd : Ints Hmd vmd m.doms) (hmc : Cons Hmc vmc m.cons) (hobj : Ints Hobj vobj obj) (hp : LRows Hp vp p) : SpecP Tryz.prog 12 [.agg #[vmd, vmc], vobj, .int .i64 b, vp] [Hmd, Hmc, Hobj, Hp] (.bool (chkB m obj b p)) := by
 refine spec_of Tryz.func12 rfl rfl rfl (fun B => ?_)
 refine cS (cr (kl_box rfl rfl (fun p1 H2 f3 a4 => ?_)))
 refine sg rfl (ln (qc (cS (cr (kl_ldS rfl ‹_› rfl ?_)))))
 refine mv rfl (mv rfl (kl_call rfl rfl (boundedI_ok m obj b ‹_› ‹_› ‹_›) (fun v5 H6 f7 h8 => ?_)))
 obtain ⟨z11, z16, u12, u13, rfl, h14, h15, h10⟩ := h8
 obtain ⟨e91, e92⟩ := pairOf h10
 refine mv rfl (kl_xt rfl rfl (kl_xt rfl rfl (kl_alloc (cs := [.slice none 0 0, .slice none 0 0]) rfl (fun b17 hb18 => ?_))))
 refine kl_stW (us := [u12, u13]) rfl rfl rfl rfl (oc (Sl.oneCell ‹_›) (oc (Sl.oneCell ‹_›) oc_nil)) rfl ?_
 refine cg [bxS b17 [u12, u13] 26] rfl ?_
 refine sg rfl (ln (qc (cS (cr (mv rfl (mv rfl (jn 4 23 (.bool (z16 && (chkP z11 p))) (pk [8, 19] rfl) (fun J20 => ?_) ?_)))))))
 ·rcases Bool.eq_false_or_eq_true z16 with g19 | g19
  ·have g19p := g19
   try simp only [smpD] at g19p
   refine gT rfl rfl g19 (kl_ldW rfl rfl (gT rfl rfl g19 (mv rfl (gT rfl rfl g19 (cP rfl rfl (chkPI_ok z11 p ‹_› ‹_› ‹_›) ?_)))))
   refine aT rfl rfl g19 ?_
   exact J20 _ (pk [23, 8, 19] rfl)
  ·refine gF rfl rfl g19 (gF rfl rfl g19 (gF rfl rfl g19 (aF (chkP z11 p) rfl rfl g19 ?_)))
   exact J20 _ (pk [23, 8, 19] rfl)
 refine sg rfl (ln (qc (rt (kq_retP rfl rfl (congrArg Value.bool ?_)))))
 (unfold chkB; rw [← e91, ← e92])
end
section
theorem clipLL_ok {Hxs : Hp} {vxs : Value} (xs : List (List Lit)) (hxs : LRows Hxs vxs xs) : Spec Tryz.prog 73 [vxs] [Hxs] (fun _ vq => LRows Hxs vq xs ∧ ClipV vxs vq xs.length) := by
 refine spec_of Tryz.func73 rfl rfl rfl (fun B => ?_)
 refine cS (cr (sg rfl (ln (qc (cS (cr (mv rfl (mv rfl (le9 rfl ‹_› (fun l1 => ?_))))))))))
 refine mv rfl (le9 rfl ‹_› (fun l2 => ?_))
 refine kl_clipV rfl rfl rfl ‹_› (by omega) (fun u3 h4 h4v => ?_)
 refine sg rfl (ln (qc (rt ?_)))
 exact kq_ret rfl rfl noHp (fr_no _) ⟨by assumption, by assumption⟩
theorem infI_ok {Hmd : Hp} {vmd : Value} {Hmc : Hp} {vmc : Value} (m : Mod) (hM : MOk m) (hmd : Ints Hmd vmd m.doms) (hmc : Cons Hmc vmc m.cons) : Spec Tryz.prog 38 [.agg #[vmd, vmc]] [Hmd, Hmc] ((fun Hq vq => ∃ u : Value, vq = .tuple #[u, .bool (infR m).2] ∧ LMatR 69 100 Hq u (infR m).1)) := by
 refine spec_of Tryz.func38 rfl rfl rfl (fun B => ?_)
 refine cS (cr (kl_box rfl rfl (fun p1 H2 f3 a4 => ?_)))
 refine sg rfl (sg rfl (ln (qc (cS (cr (kl_bsO (us := []) rfl rfl rfl (by decide) (fun _ h => by cases h) (fun v5 H6 f7 o8 => ?_)))))))
 refine kl_no ?_
 have o9 : LMat 69 100 H6 noHp v5 [] [] := LMat.nil o8
 refine kl_alloc (cs := [.slice none 0 0]) rfl (fun b11 hb12 => ?_)
 refine sB rfl rfl rfl (LMat.oneCell ‹_›) (LMat.cells ‹_›) ?_
 refine cg [bxS b11 [v5] 29, noHp, H6] rfl ?_
 refine ln (qc (cS (cS (cr (kl_ldS rfl ‹_› rfl ?_)))))
 refine fd9 rfl ‹_› (fun p13 a14 => ?_)
 refine ld rfl ‹_› (cT rfl rfl (refuteI_ok m.doms.length m m.doms [] [] hM hM.dok (path_nil _ _) (by simp) (by have := tN_le hM.n.2; simp; omega) ‹_› ‹_› ‹_› (Sl.nil (H := noHp)) o9) (fun v15 L1 Ln K16 h17 g18 g19 => ?_))
 obtain ⟨rfl, v20, H21, K22, us23, rfl, rfl, o24⟩ := h17
 refine nm ?_
 refine kl_fr H21 (LMat.hlq o24) (fun f25 => ?_)
 refine kl_fr K22 (LMat.lq o24) (fun f26 => ?_)
 have o27 := LMat.castX (ys := (refF m.doms.length m m.doms []).1) (by simp) o24
 refine nt9 rfl (mv rfl (jn 4 15 (.bool (!((refF m.doms.length m m.doms []).2) || decide ((200 : Int) < (((refF m.doms.length m m.doms []).1).length : Int)))) (pk [2, 3, 4, 11] rfl) (fun J30 => ?_) ?_))
 ·rcases Bool.eq_false_or_eq_true (!((refF m.doms.length m m.doms []).2)) with g28 | g28
  ·refine gF rfl rfl g28 (gF rfl rfl g28 (gF rfl rfl g28 (oT (decide ((200 : Int) < (((refF m.doms.length m m.doms []).1).length : Int))) rfl rfl g28 ?_)))
   exact J30 _ (pk [15, 2, 3, 4, 11] rfl)
  ·have g28p := g28
   try simp only [smpD] at g28p
   refine gT rfl rfl g28 (lB rfl rfl (gT rfl rfl g28 (kl_lmLen rfl o27 (fun l29 => ?_))))
   refine gT rfl rfl g28 (kl_gtr rfl rfl ?_)
   refine oF rfl rfl g28 ?_
   exact J30 _ (pk [15, 2, 3, 4, 11] rfl)
 refine ln (qc (cd9 rfl (fun c31 => ?_) (fun c31 => ?_)))
 ·have c31r := c31
  try simp only [smpE] at c31
  have hbad := c31r
  refine cS (cr (sg rfl (sg rfl (ln (qc (rt ?_))))))
  exact kq_ret2 rfl rfl rfl (orHp noHp noHp) (fr_or (fr_no _) (fr_no _)) ⟨_, tup2 rfl (congrArg Value.bool (by rw [inf_bad hM hbad])), LMatR.castX (by rw [inf_bad hM hbad]) LMatR.nil⟩
 ·have c31r := c31
  try simp only [smpE] at c31
  have hgd := c31r
  refine sk (qc (cS (cr (lB rfl rfl (kl_apart H21 K22 (fun c38 => ?_))))))
  have h39 := LMatR.rows ⟨H21, K22, us23, rfl, c38, o27⟩
  refine kl_call rfl rfl (clipLL_ok ((refF m.doms.length m m.doms []).1) h39) (fun v32 H33 f34 h35 => ?_)
  obtain ⟨_, h36⟩ := h35
  have m37 := LMat.clip o27 h36
  refine sg rfl (sg rfl (ln (qc (rt (kq_apart H21 K22 (fun c40 => ?_))))))
  exact kq_ret2 rfl rfl rfl (orHp H21 K22) (fr_or f25 f26) ⟨_, tup2 rfl (congrArg Value.bool (by rw [inf_good hM hgd])), H21, K22, us23, rfl, c40, LMat.castX (by rw [inf_good hM hgd]) m37⟩
theorem pbI_ok {Hmd : Hp} {vmd : Value} {Hmc : Hp} {vmc : Value} {Hobj : Hp} {vobj : Value} (m : Mod) (obj : List Int) (b : Int) (hmd : Ints Hmd vmd m.doms) (hmc : Cons Hmc vmc m.cons) (hobj : Ints Hobj vobj obj) : Spec Tryz.prog 8 [.agg #[vmd, vmc], vobj, .int .i64 b] [Hmd, Hmc, Hobj] ((fun Hq vq => ∃ u : Value, vq = .tuple #[u, .bool (pbR m obj b).2] ∧ LMatR 69 100 Hq u (pbR m obj b).1)) := by
 refine spec_of Tryz.func8 rfl rfl rfl (fun B => ?_)
 refine cS (cr (kl_box rfl rfl (fun p1 H2 f3 a4 => ?_)))
 refine sg rfl (sg rfl (ln (qc (cS (cr (kl_ldS rfl ‹_› rfl ?_))))))
 refine mv rfl (mv rfl (kl_call rfl rfl (boundedI_ok m obj b ‹_› ‹_› ‹_›) (fun v5 H6 f7 h8 => ?_)))
 obtain ⟨z11, z16, u12, u13, rfl, h14, h15, h10⟩ := h8
 have hbd := h10
 refine mv rfl (kl_xt rfl rfl (kl_xt rfl rfl (kl_alloc (cs := [.slice none 0 0, .slice none 0 0]) rfl (fun b17 hb18 => ?_))))
 refine kl_stW (us := [u12, u13]) rfl rfl rfl rfl (oc (Sl.oneCell ‹_›) (oc (Sl.oneCell ‹_›) oc_nil)) rfl ?_
 refine cg [bxS b17 [u12, u13] 26] rfl ?_
 refine sg rfl (ln (qc (cS (cS (cr (mv rfl (nt9 rfl (ln (qc (cd9 rfl (fun c19 => ?_) (fun c19 => ?_)))))))))))
 ·have c19r := c19
  try simp only [smpE] at c19
  have hz9 := c19r
  refine cS (cr (sg rfl (sg rfl (ln (qc (rt ?_))))))
  exact kq_ret2 rfl rfl rfl (orHp noHp noHp) (fr_or (fr_no _) (fr_no _)) ⟨_, tup2 rfl (congrArg Value.bool (by rw [bdR_no hbd (nb_T hz9)])), LMatR.castX (by rw [bdR_no hbd (nb_T hz9)]) LMatR.nil⟩
 ·have c19r := c19
  try simp only [smpE] at c19
  have hz9 := c19r
  obtain ⟨hMz, hpe⟩ := bdR_ok hbd (nb_F hz9)
  refine sk (qc (cS (cr (kl_ldW rfl rfl (kl_call rfl rfl (infI_ok z11 hMz ‹_› ‹_›) (fun v20 H21 f22 h23 => ?_))))))
  obtain ⟨u24, rfl, h25⟩ := h23
  refine kl_xt rfl rfl (kl_xt rfl rfl (sg rfl (sg rfl (ln (qc (rt ?_))))))
  exact kq_ret2 rfl rfl rfl H21 f22 ⟨_, tup2 rfl (congrArg Value.bool (by rw [hpe.1])), LMatR.castX (by rw [hpe.1]) h25⟩
end
section
theorem best_ok {Hxs : Hp} {vxs : Value} {gp : Nat} {capsp : Array Value} {imp : List Hp} [FnC Tryz.prog gp] (xs : List (List Int)) (p : List Int → Int) (hn : ∀ x ∈ xs, x ≠ []) (hl : ∀ x ∈ xs, x.length ≤ 4) (hxs : Rows Hxs vxs xs) (hp : ∀ (H : Hp) (u : Value) (r : List Int), r ∈ xs → Ints H u r → SpecP Tryz.prog gp (u :: capsp.toList) (H :: imp) (.int .i64 (p r))) : Spec Tryz.prog 77 [vxs, .func (.func gp) #[] capsp] (Hxs :: imp) (fun Hq vq => ∃ uq0 : Value, vq = .tuple #[uq0, .bool ((bestI p xs).2)] ∧ Ints Hq uq0 ((bestI p xs).1)) := by
 refine spec_of Tryz.func77 rfl rfl rfl (fun B => ?_)
 refine cS (cr (sg rfl (sg rfl (ln (qc (cS (cr (sg rfl (ln (qc (cS (cr (sg rfl (ln (qc (cS ?_))))))))))))))))
 refine cS (cr (mv rfl (le9 rfl ‹_› (fun l1 => ?_))))
 refine mv rfl (ln (qc (bl (kc_loop0 (A := Nat × Int × List Int × Value) (fun zz => (zz.1 ≤ xs.length) ∧ ((zz.2.2.1, zz.2.1) = bestTo p xs zz.1 ∧ (zz.1 = 0 → zz.2.2.2 = .slice none 0 0)) ∧ Ints Hxs zz.2.2.2 zz.2.2.1) (fun zz => xs.length - zz.1) (fun zz => [(13, .int .i64 (zz.1 : Int)), (7, .int .i64 zz.2.1), (6, zz.2.2.2)]) (0, (0 : Int), [], (.slice none 0 0)) (pk [1, 4, 5, 11, 12] rfl) (pk [13, 7, 6] rfl) ⟨Nat.zero_le _, ⟨rfl, fun _ => rfl⟩, Sl.nil⟩ ?_))))
 rintro ⟨k, s, o, vo⟩ hJ5
 obtain ⟨hk2, hi3, h4⟩ : (k ≤ xs.length) ∧ ((o, s) = bestTo p xs k ∧ (k = 0 → vo = .slice none 0 0)) ∧ Ints Hxs vo o := hJ5
 change KC _ _ (_) _ _ ([(13, .int .i64 (k : Int)), (7, .int .i64 s), (6, vo)] ++ _)
 refine cS (cr (ls9 rfl rfl ?_))
 refine ln (qc (cS (ci9 rfl (fun c6 => ?_) (fun c6 => ?_))))
 ·have hk9 : k < xs.length := (by omega)
  refine sk (qc (cS (bl (cS (cr (kl_inS rfl rfl ‹_› (by omega) (fun p7 u9 h10 a8 => ?_)))))))
  refine ld rfl ‹_› (sg rfl (ln (qc (cS (cr (mv rfl (mv rfl (cP rfl rfl (hp _ _ (xs.getD k []) (getD_mem (by omega)) ‹_›) ?_))))))))
  refine sg rfl (ln (qc (cS (cr (mv rfl (kl_eqlnilX rfl rfl ‹_› (fun bn nn nx => ?_)))))))
  refine mv rfl (jn 4 26 (.bool (bn || decide ((p (xs.getD k [])) < s))) (pk [1, 4, 5, 6, 7, 9, 10, 11, 12, 13, 14, 15, 16, 17, 18, 19, 20, 21, 22] rfl) (fun J14 => ?_) ?_)
  ·rcases Bool.eq_false_or_eq_true bn with g13 | g13
   ·refine gF rfl rfl g13 (gF rfl rfl g13 (gF rfl rfl g13 (oT (decide ((p (xs.getD k [])) < s)) rfl rfl g13 ?_)))
    exact J14 _ (pk [26, 1, 4, 5, 6, 7, 9, 10, 11, 12, 13, 14, 15, 16, 17, 18, 19, 20, 21, 22] rfl)
   ·have g13p := g13
    try simp only [smpD] at g13p
    refine gT rfl rfl g13 (mv rfl (gT rfl rfl g13 (mv rfl (gT rfl rfl g13 (ls9 rfl rfl ?_)))))
    refine oF rfl rfl g13 ?_
    exact J14 _ (pk [26, 1, 4, 5, 6, 7, 9, 10, 11, 12, 13, 14, 15, 16, 17, 18, 19, 20, 21, 22] rfl)
  refine ln (qc (cd9 rfl (fun c15 => ?_) (fun c15 => ?_)))
  ·have c15r := c15
   try simp only [smpE] at c15
   refine cr (mv rfl (mv rfl (sg rfl (sg rfl (ln (qc (cr (ic9 rfl rfl (by omega) ?_))))))))
   refine mv rfl (ln (kq_round0 ((k + 1), (p (xs.getD k [])), (xs.getD k []), u9) (by omega) (⟨by omega, (by first | exact ⟨br_T hi3.1 hn hk9 nn ‹_›, fun h => absurd h (by omega)⟩ | exact ⟨br_F hi3.1 (fun h => nx (hi3.2 h)) ‹_›, fun h => absurd h (by omega)⟩ | skip), ‹_›⟩) (pk [13, 7, 6] rfl) (pk [1, 4, 5, 11, 12] rfl) slr9))
  ·have c15r := c15
   try simp only [smpE] at c15
   refine sk (qc (cr (ic9 rfl rfl (by omega) ?_)))
   refine mv rfl (ln (kq_round0 ((k + 1), s, o, vo) (by omega) (⟨by omega, (by first | exact ⟨br_T hi3.1 hn hk9 nn ‹_›, fun h => absurd h (by omega)⟩ | exact ⟨br_F hi3.1 (fun h => nx (hi3.2 h)) ‹_›, fun h => absurd h (by omega)⟩ | skip), ‹_›⟩) (pk [13, 7, 6] rfl) (pk [1, 4, 5, 11, 12] rfl) slr9))
 ·have hk8 : k = xs.length := (by omega)
  refine ex9 (qc (cS (cr (mv rfl (kl_call rfl rfl (copied_ok o (best_cp hl hi3.1 (by omega)) ‹_›) (fun v16 H17 f18 o19 => ?_))))))
  have h20 := OwnL.ints o19
  refine mv rfl (kl_neqnilX rfl rfl ‹_› (fun bn nn nx => ?_))
  refine sg rfl (sg rfl (ln (qc (rt (kq_ret2 rfl rfl rfl H17 f18 ⟨_, tup2 rfl (congrArg Value.bool (by exact (best_b hi3.1 (by omega) hn nn (fun h => nx (hi3.2 h))).symm)), ?_⟩)))))
  exact (by have e9 : (bestI p xs).1 = o := (by exact best_o hi3.1 (by omega)); rw [e9]; assumption)
end
section
theorem min1_ok {Hx : Hp} {vx : Value} {Hobj : Hp} {vobj : Value} {Hpo : Hp} {ptrpo : Value} (x : List Int) (obj : List Int) (hO : Coef obj) (hX : Vals x) (hl : obj.length = x.length) (h4 : x.length ≤ 4) (hx : Ints Hx vx x) (hobj : Ints Hobj vobj obj) (apo : At Hpo ptrpo [vobj]) : SpecP Tryz.prog 78 [vx, ptrpo] [Hx, Hobj, Hpo] (.int .i64 (dotTo obj x x.length)) := by
 refine spec_of Tryz.func78 rfl rfl rfl (fun B => ?_)
 refine cS (cr (sg rfl (ln (qc (cS (cr (ld rfl ‹_› (mv rfl (cP rfl rfl (weighted_ok obj x hO hX hl h4 ‹_› ‹_›) ?_)))))))))
 refine sg rfl (ln (qc (rt (kq_retP rfl rfl (congrArg (Value.int .i64) ?_)))))
 rfl
theorem minM_ok {Hmd : Hp} {vmd : Value} {Hmc : Hp} {vmc : Value} {Hobj : Hp} {vobj : Value} (m : Mod) (obj : List Int) (hM : MOk m) (ho : obj.length = m.doms.length) (hO : Coef obj) (hmd : Ints Hmd vmd m.doms) (hmc : Cons Hmc vmc m.cons) (hobj : Ints Hobj vobj obj) : Spec Tryz.prog 44 [.agg #[vmd, vmc], vobj] [Hmd, Hmc, Hobj] (fun Hq vq => ∃ uq0 : Value, vq = .tuple #[uq0, .bool ((bestI (fun x => dotTo obj x x.length) (sols m)).2)] ∧ Ints Hq uq0 ((bestI (fun x => dotTo obj x x.length) (sols m)).1)) := by
 have hn := hM.n
 refine spec_of Tryz.func44 rfl rfl rfl (fun B => ?_)
 refine cS (cr (kl_box rfl rfl (fun p1 H2 f3 a4 => ?_)))
 refine kl_box rfl (Sl.cells ‹_›) (fun p5 H6 f7 a8 => ?_)
 refine sg rfl (sg rfl (ln (qc (cS (cr (kl_ldS rfl ‹_› rfl ?_))))))
 refine kl_call rfl rfl (solutions_ok m hM ‹_› ‹_›) (fun v9 H10 f11 h12 => ?_)
 refine kl_mkf rfl ?_
 refine kl_call rfl rfl (best_ok (sols m) (fun x12 => dotTo obj x12 x12.length) (sols_ne hM) (fun y hy => by have h5 := sols_len hy; omega) ‹_› (fun _ ux12 x12 hmx12 hux12 => min1_ok x12 obj hO (sols_vals hmx12) (by rw [sols_len hmx12]; exact ho) (by rw [sols_len hmx12]; omega) hux12 ‹_› ‹_›)) (fun v14 H15 f16 h17 => ?_)
 obtain ⟨u18, rfl, h19⟩ := h17
 refine kl_xt rfl rfl (kl_xt rfl rfl (sg rfl (sg rfl (ln (qc (rt (kq_ret2 rfl rfl rfl H15 f16 ⟨_, tup2 rfl (congrArg Value.bool (by rfl)), ?_⟩)))))))
 exact (by have e9 : (bestI (fun x => dotTo obj x x.length) (sols m)).1 = ((bestI (fun x12 => dotTo obj x12 x12.length) (sols m)).1) := (by rfl); rw [e9]; assumption)
theorem minI_ok {Hmd : Hp} {vmd : Value} {Hmc : Hp} {vmc : Value} {Hobj : Hp} {vobj : Value} (m : Mod) (obj : List Int) (hmd : Ints Hmd vmd m.doms) (hmc : Cons Hmc vmc m.cons) (hobj : Ints Hobj vobj obj) : Spec Tryz.prog 11 [.agg #[vmd, vmc], vobj] [Hmd, Hmc, Hobj] (fun Hq vq => ∃ uq0 : Value, vq = .tuple #[uq0, .bool ((minI m obj).2)] ∧ Ints Hq uq0 ((minI m obj).1)) := by
 refine spec_of Tryz.func11 rfl rfl rfl (fun B => ?_)
 refine cS (cr (kl_box rfl rfl (fun p1 H2 f3 a4 => ?_)))
 refine sg rfl (sg rfl (ln (qc (cS (cS (cr (kl_ldS rfl ‹_› rfl ?_)))))))
 refine mv rfl (cP rfl rfl (objectiveOk_ok m obj ‹_› ‹_› ‹_›) ?_)
 refine nt9 rfl (ln (qc (cd9 rfl (fun c5 => ?_) (fun c5 => ?_))))
 ·have c5r := c5
  try simp only [smpE] at c5
  refine cS (cr (sg rfl (sg rfl (ln (qc (rt (kq_ret2 rfl rfl rfl noHp (fr_no _) ⟨_, tup2 rfl (congrArg Value.bool (by rw [min_no ‹_›])), ?_⟩)))))))
  exact (by have e9 : (minI m obj).1 = [] := (by rw [min_no ‹_›]); rw [e9]; exact Sl.nil)
 ·have c5r := c5
  try simp only [smpE] at c5
  have hob : objOkB m obj = true := (by simpa using c5r)
  have ho := objok hob
  refine sk (qc (cS (cr (kl_ldS rfl ‹_› rfl ?_))))
  refine mv rfl (kl_call rfl rfl (minM_ok m obj ho.1 ho.2.1 ho.2.2 ‹_› ‹_› ‹_›) (fun v6 H7 f8 h9 => ?_))
  obtain ⟨u10, rfl, h11⟩ := h9
  refine kl_xt rfl rfl (kl_xt rfl rfl (sg rfl (sg rfl (ln (qc (rt (kq_ret2 rfl rfl rfl H7 f8 ⟨_, tup2 rfl (congrArg Value.bool (by rw [min_yes hob])), ?_⟩)))))))
  exact (by have e9 : (minI m obj).1 = ((bestI (fun x => dotTo obj x x.length) (sols m)).1) := (by rw [min_yes hob]); rw [e9]; assumption)
theorem objValI_ok {Hobj : Hp} {vobj : Value} {Hx : Hp} {vx : Value} (obj : List Int) (x : List Int) (hobj : Ints Hobj vobj obj) (hx : Ints Hx vx x) : SpecP Tryz.prog 13 [vobj, vx] [Hobj, Hx] (.int .i64 (objVal obj x)) := by
 refine spec_of Tryz.func13 rfl rfl rfl (fun B => ?_)
 refine cS (cr (sg rfl (ln (qc (cS (cS (cr (mv rfl (le9 rfl ‹_› (fun l1 => ?_))))))))))
 refine mv rfl (le9 rfl ‹_› (fun l2 => ?_))
 refine kl_neq rfl rfl ?_
 refine mv rfl (jn 4 14 (.bool (decide ((obj.length : Int) ≠ (x.length : Int)) || decide ((4 : Int) < (obj.length : Int)))) (pk [0, 1, 4, 10] rfl) (fun J5 => ?_) ?_)
 ·rcases Bool.eq_false_or_eq_true (decide ((obj.length : Int) ≠ (x.length : Int))) with g3 | g3
  ·refine gF rfl rfl g3 (gF rfl rfl g3 (gF rfl rfl g3 (oT (decide ((4 : Int) < (obj.length : Int))) rfl rfl g3 ?_)))
   exact J5 _ (pk [14, 0, 1, 4, 10] rfl)
  ·have g3p := of_decide_eq_false g3
   refine gT rfl rfl g3 (mv rfl (gT rfl rfl g3 (le9 rfl ‹_› (fun l4 => ?_))))
   refine gT rfl rfl g3 (kl_gtr rfl rfl ?_)
   refine oF rfl rfl g3 ?_
   exact J5 _ (pk [14, 0, 1, 4, 10] rfl)
 refine mv rfl (jn 4 19 (.bool ((decide ((obj.length : Int) ≠ (x.length : Int)) || decide ((4 : Int) < (obj.length : Int))) || !(allInB obj (-9 : Int) (9 : Int)))) (pk [0, 1, 4, 15] rfl) (fun J7 => ?_) ?_)
 ·rcases Bool.eq_false_or_eq_true (decide ((obj.length : Int) ≠ (x.length : Int)) || decide ((4 : Int) < (obj.length : Int))) with g6 | g6
  ·refine gF rfl rfl g6 (gF rfl rfl g6 (gF rfl rfl g6 (oT (!(allInB obj (-9 : Int) (9 : Int))) rfl rfl g6 ?_)))
   exact J7 _ (pk [19, 0, 1, 4, 15] rfl)
  ·have g6p := g6
   try simp only [smpD] at g6p
   refine gT rfl rfl g6 (mv rfl (gT rfl rfl g6 (cP rfl rfl (allIn_ok obj (-9 : Int) (9 : Int) ‹_›) ?_)))
   refine gT rfl rfl g6 (nt9 rfl (oF rfl rfl g6 ?_))
   exact J7 _ (pk [19, 0, 1, 4, 15] rfl)
 refine mv rfl (jn 4 24 (.bool (((decide ((obj.length : Int) ≠ (x.length : Int)) || decide ((4 : Int) < (obj.length : Int))) || !(allInB obj (-9 : Int) (9 : Int))) || !(allInB x (0 : Int) (5 : Int)))) (pk [0, 1, 4, 20] rfl) (fun J9 => ?_) ?_)
 ·rcases Bool.eq_false_or_eq_true ((decide ((obj.length : Int) ≠ (x.length : Int)) || decide ((4 : Int) < (obj.length : Int))) || !(allInB obj (-9 : Int) (9 : Int))) with g8 | g8
  ·refine gF rfl rfl g8 (gF rfl rfl g8 (gF rfl rfl g8 (oT (!(allInB x (0 : Int) (5 : Int))) rfl rfl g8 ?_)))
   exact J9 _ (pk [24, 0, 1, 4, 20] rfl)
  ·have g8p := g8
   try simp only [smpD] at g8p
   refine gT rfl rfl g8 (mv rfl (gT rfl rfl g8 (cP rfl rfl (allIn_ok x (0 : Int) (5 : Int) ‹_›) ?_)))
   refine gT rfl rfl g8 (nt9 rfl (oF rfl rfl g8 ?_))
   exact J9 _ (pk [24, 0, 1, 4, 20] rfl)
 refine ln (qc (cd9 rfl (fun c10 => ?_) (fun c10 => ?_)))
 ·have c10r := c10
  try simp only [smpE] at c10
  refine cS (cr (sg rfl (ln (qc (rt (kq_retP rfl rfl (congrArg (Value.int .i64) ?_)))))))
  exact objVal_0 ‹_›
 ·have c10r := c10
  try simp only [smpE] at c10
  have hov := objVal_ok c10r
  refine sk (qc (cS (cr (mv rfl (mv rfl (cP rfl rfl (weighted_ok obj x hov.1 hov.2.1 hov.2.2.1.symm hov.2.2.2 ‹_› ‹_›) ?_))))))
  refine sg rfl (ln (qc (rt (kq_retP rfl rfl (congrArg (Value.int .i64) ?_)))))
  exact objVal_1 ‹_›
end
section
theorem equalCl_ok {Ha : Hp} {va : Value} {Hb : Hp} {vb : Value} (a : List Lit) (b : List Lit) (ha : Lits Ha va a) (hb : Lits Hb vb b) : SpecP Tryz.prog 42 [va, vb] [Ha, Hb] (.bool (decide (a = b))) := by
 refine spec_of Tryz.func42 rfl rfl rfl (fun B => ?_)
 refine cS (cr (sg rfl (ln (qc (cS (cS (cr (mv rfl (le9 rfl ‹_› (fun l1 => ?_))))))))))
 refine mv rfl (le9 rfl ‹_› (fun l2 => ?_))
 refine kl_neq rfl rfl ?_
 refine ln (qc (ci9 rfl (fun c3 => ?_) (fun c3 => ?_)))
 ·refine cS (cr (sg rfl (ln (qc (rt (kq_retP rfl rfl (congrArg Value.bool ?_)))))))
  exact eq_len ‹_›
 ·refine sk (qc (cS (cS (cr (sg rfl (ln (qc (bl (kc_loop0 (A := Nat) (fun zz => (zz ≤ a.length) ∧ (a.take zz = b.take zz)) (fun zz => a.length - zz) (fun zz => [(5, .int .i64 (zz : Int))]) (0) (pk [0, 1] rfl) (pc 5 rfl pn) ⟨Nat.zero_le _, by simp⟩ ?_)))))))))
  rintro k hJ6
  obtain ⟨hk4, hi5⟩ : (k ≤ a.length) ∧ (a.take k = b.take k) := hJ6
  change KC _ _ (_) _ _ ([(5, .int .i64 (k : Int))] ++ _)
  refine cS (cS (cr (mv rfl (mv rfl (le9 rfl ‹_› (fun l7 => ?_))))))
  refine ls9 rfl rfl ?_
  refine ln (qc (ci9 rfl (fun c8 => ?_) (fun c8 => ?_)))
  ·refine sk (qc (cS (bl (cS (kc_draw 9 [true, true, true, true, true, true, true, true, true] (by kernel_rfl) (by kernel_rfl) ?_)))))
   refine mv rfl (mv rfl (kl_inQ rfl rfl ‹_› (by omega) (fun p9 a10 => ?_)))
   refine kl_ldS rfl ‹_› rfl ?_
   refine mv rfl (mv rfl (kl_inQ rfl rfl ‹_› (by omega) (fun p11 a12 => ?_)))
   refine kl_ldS rfl ‹_› rfl ?_
   refine kl_neqQ rfl rfl ?_
   refine ln (qc (cd9 rfl (fun c13 => ?_) (fun c13 => ?_)))
   ·have c13r := c13
    try simp only [smpE] at c13
    refine cS (cr (sg rfl (ln (qc (rt (kq_retP rfl rfl (congrArg Value.bool ?_)))))))
    exact eq_at (k := k) nilLit (by simpa using by assumption)
   ·have c13r := c13
    try simp only [smpE] at c13
    refine sk (qc (cr (mv rfl (ic9 rfl rfl (by omega) ?_))))
    refine sg rfl (ln (kq_round0 ((k + 1)) (by omega) (⟨by omega, eq_step nilLit (by omega) (by omega) hi5 (by first | exact Decidable.not_not.1 ‹_› | (simpa using by assumption))⟩) (pc 5 rfl pn) (pk [0, 1] rfl) slr9))
  ·refine ex9 (qc (cS (cr (sg rfl (ln (qc (rt (kq_retP rfl rfl (congrArg Value.bool ?_)))))))))
   exact eq_end (k := k) (by omega) (by omega) ‹_›
theorem equalProofs_ok {Ha : Hp} {va : Value} {Hb : Hp} {vb : Value} (a : List (List Lit)) (b : List (List Lit)) (ha : LRows Ha va a) (hb : LRows Hb vb b) : SpecP Tryz.prog 10 [va, vb] [Ha, Hb] (.bool (decide (a = b))) := by
 refine spec_of Tryz.func10 rfl rfl rfl (fun B => ?_)
 refine cS (cr (sg rfl (ln (qc (cS (cS (cr (mv rfl (le9 rfl ‹_› (fun l1 => ?_))))))))))
 refine mv rfl (le9 rfl ‹_› (fun l2 => ?_))
 refine kl_neq rfl rfl ?_
 refine ln (qc (ci9 rfl (fun c3 => ?_) (fun c3 => ?_)))
 ·refine cS (cr (sg rfl (ln (qc (rt (kq_retP rfl rfl (congrArg Value.bool ?_)))))))
  exact eq_len ‹_›
 ·refine sk (qc (cS (cS (cr (sg rfl (ln (qc (bl (kc_loop0 (A := Nat) (fun zz => (zz ≤ a.length) ∧ (a.take zz = b.take zz)) (fun zz => a.length - zz) (fun zz => [(5, .int .i64 (zz : Int))]) (0) (pk [0, 1] rfl) (pc 5 rfl pn) ⟨Nat.zero_le _, by simp⟩ ?_)))))))))
  rintro k hJ6
  obtain ⟨hk4, hi5⟩ : (k ≤ a.length) ∧ (a.take k = b.take k) := hJ6
  change KC _ _ (_) _ _ ([(5, .int .i64 (k : Int))] ++ _)
  refine cS (cS (cr (mv rfl (mv rfl (le9 rfl ‹_› (fun l7 => ?_))))))
  refine ls9 rfl rfl ?_
  refine ln (qc (ci9 rfl (fun c8 => ?_) (fun c8 => ?_)))
  ·refine sk (qc (cS (bl (cS (kc_draw 10 [true, true, true, true, true, true, true, true, false, true] (by kernel_rfl) (by kernel_rfl) ?_)))))
   refine mv rfl (mv rfl (kl_inS rfl rfl ‹_› (by omega) (fun p9 u11 h12 a10 => ?_)))
   refine ld rfl ‹_› (mv rfl (mv rfl (kl_inS rfl rfl ‹_› (by omega) (fun p13 u15 h16 a14 => ?_))))
   refine ld rfl ‹_› (cP rfl rfl (equalCl_ok (a.getD k []) (b.getD k []) ‹_› ‹_›) ?_)
   refine nt9 rfl (ln (qc (cd9 rfl (fun c17 => ?_) (fun c17 => ?_))))
   ·have c17r := c17
    try simp only [smpE] at c17
    refine cS (cr (sg rfl (ln (qc (rt (kq_retP rfl rfl (congrArg Value.bool ?_)))))))
    exact eq_at (k := k) ([] : List Lit) (by simpa using by assumption)
   ·have c17r := c17
    try simp only [smpE] at c17
    refine sk (qc (cr (mv rfl (ic9 rfl rfl (by omega) ?_))))
    refine sg rfl (ln (kq_round0 ((k + 1)) (by omega) (⟨by omega, eq_step ([] : List Lit) (by omega) (by omega) hi5 (by first | exact Decidable.not_not.1 ‹_› | (simpa using by assumption))⟩) (pc 5 rfl pn) (pk [0, 1] rfl) slr9))
  ·refine ex9 (qc (cS (cr (sg rfl (ln (qc (rt (kq_retP rfl rfl (congrArg Value.bool ?_)))))))))
   exact eq_end (k := k) (by omega) (by omega) ‹_›
theorem lawFnPb_ok {Hcode : Hp} {vcode : Value} (code : List Int) (hcode : Bytes Hcode vcode code) : SpecP Tryz.prog 3 [vcode] [Hcode] (.bool true) := by
 refine spec_of Tryz.func3 rfl rfl rfl (fun B => ?_)
 refine cS (cr (sg rfl (ln (qc (cS (cS (cr (mv rfl (le9 rfl ‹_› (fun l1 => ?_))))))))))
 refine kl_gtr rfl rfl ?_
 refine ln (qc (ci9 rfl (fun c2 => ?_) (fun c2 => ?_)))
 ·refine cS (cr (sg rfl (ln (qc (rt (kq_retP rfl rfl (congrArg Value.bool ?_)))))))
  first | rfl | (simp; done) | exact pv_fin hpk
 ·refine sk (qc (cS (cr (mv rfl (kl_call rfl rfl (drawPb_ok code hcode) (fun v3 H4 f5 h6 => ?_))))))
  obtain ⟨z9, z14, z17, u10, u11, u15, rfl, h12, h13, h16, h8⟩ := h6
  have hzl := h8.2.2.1
  have hzu := h8.2.2.2
  refine mv rfl (kl_xt rfl rfl (kl_xt rfl rfl (kl_xt rfl rfl (kl_alloc (cs := [.slice none 0 0, .slice none 0 0]) rfl (fun b18 hb19 => ?_)))))
  refine kl_stW (us := [u10, u11]) rfl rfl rfl rfl (oc (Sl.oneCell ‹_›) (oc (Sl.oneCell ‹_›) oc_nil)) rfl ?_
  refine cg [bxS b18 [u10, u11] 26] rfl ?_
  refine sg rfl (sg rfl (ln (qc (cS (cr (kl_ldW rfl rfl (mv rfl (mv rfl (kl_call rfl rfl ((pbI_ok z9 z14 z17 ‹_› ‹_› ‹_›).mono (fun _ _ h => lmR_rows h)) (fun v20 H21 f22 h23 => ?_))))))))))
  obtain ⟨u24, rfl, h25⟩ := h23
  refine mv rfl (kl_xt rfl rfl (kl_xt rfl rfl (sg rfl (sg rfl (ln (qc (cS (cr (kl_ldW rfl rfl (mv rfl (mv rfl ?_)))))))))))
  refine kl_call rfl rfl (pbS_ok z9 z14 z17 ‹_› ‹_› ‹_›) (fun v26 H27 f28 h29 => ?_)
  obtain ⟨z31, z32, u30, rfl, h33, h34⟩ := h29
  obtain ⟨rfl, rfl⟩ := pairOf h34
  refine mv rfl (kl_xt rfl rfl (kl_xt rfl rfl (sg rfl (sg rfl (ln (qc (cS (cS (cr (mv rfl ?_))))))))))
  refine mv rfl (kl_bne rfl rfl ?_)
  refine mv rfl (jn 5 43 (.bool (((pbR z9 z14 z17).2 != (pbR z9 z14 z17).2) || !(decide (((pbR z9 z14 z17).1) = ((pbR z9 z14 z17).1))))) (pk [2, 3, 4, 5, 6, 7, 8, 9, 38] rfl) (fun J36 => ?_) ?_)
  ·rcases Bool.eq_false_or_eq_true ((pbR z9 z14 z17).2 != (pbR z9 z14 z17).2) with g35 | g35
   ·refine gF rfl rfl g35 (gF rfl rfl g35 (gF rfl rfl g35 (gF rfl rfl g35 (oT (!(decide (((pbR z9 z14 z17).1) = ((pbR z9 z14 z17).1)))) rfl rfl g35 ?_))))
    exact J36 _ (pk [43, 2, 3, 4, 5, 6, 7, 8, 9, 38] rfl)
   ·have g35p := g35
    try simp only [smpD] at g35p
    refine gT rfl rfl g35 (mv rfl (gT rfl rfl g35 (mv rfl (gT rfl rfl g35 (cP rfl rfl (equalProofs_ok ((pbR z9 z14 z17).1) ((pbR z9 z14 z17).1) ‹_› ‹_›) ?_)))))
    refine gT rfl rfl g35 (nt9 rfl (oF rfl rfl g35 ?_))
    exact J36 _ (pk [43, 2, 3, 4, 5, 6, 7, 8, 9, 38] rfl)
  refine mv rfl (jn 3 47 (.bool ((((pbR z9 z14 z17).2 != (pbR z9 z14 z17).2) || !(decide (((pbR z9 z14 z17).1) = ((pbR z9 z14 z17).1)))) || !((pbR z9 z14 z17).2))) (pk [2, 3, 4, 5, 6, 7, 8, 9, 44] rfl) (fun J38 => ?_) ?_)
  ·rcases Bool.eq_false_or_eq_true (((pbR z9 z14 z17).2 != (pbR z9 z14 z17).2) || !(decide (((pbR z9 z14 z17).1) = ((pbR z9 z14 z17).1)))) with g37 | g37
   ·refine gF rfl rfl g37 (gF rfl rfl g37 (oT (!((pbR z9 z14 z17).2)) rfl rfl g37 ?_))
    exact J38 _ (pk [47, 2, 3, 4, 5, 6, 7, 8, 9, 44] rfl)
   ·have g37p := g37
    try simp only [smpD] at g37p
    refine gT rfl rfl g37 (mv rfl (gT rfl rfl g37 (nt9 rfl (oF rfl rfl g37 ?_))))
    exact J38 _ (pk [47, 2, 3, 4, 5, 6, 7, 8, 9, 44] rfl)
  refine ln (qc (cd9 rfl (fun c39 => ?_) (fun c39 => ?_)))
  ·have c39r := c39
   try simp only [smpE] at c39
   refine cS (cr (mv rfl (mv rfl (kl_beq rfl rfl ?_))))
   refine mv rfl (jn 4 55 (.bool (((pbR z9 z14 z17).2 == (pbR z9 z14 z17).2) && (decide (((pbR z9 z14 z17).1) = ((pbR z9 z14 z17).1))))) (pk [2, 3, 4, 5, 6, 51] rfl) (fun J41 => ?_) ?_)
   ·rcases Bool.eq_false_or_eq_true ((pbR z9 z14 z17).2 == (pbR z9 z14 z17).2) with g40 | g40
    ·have g40p := g40
     try simp only [smpD] at g40p
     refine gT rfl rfl g40 (mv rfl (gT rfl rfl g40 (mv rfl (gT rfl rfl g40 (cP rfl rfl (equalProofs_ok ((pbR z9 z14 z17).1) ((pbR z9 z14 z17).1) ‹_› ‹_›) ?_)))))
     refine aT rfl rfl g40 ?_
     exact J41 _ (pk [55, 2, 3, 4, 5, 6, 51] rfl)
    ·refine gF rfl rfl g40 (gF rfl rfl g40 (gF rfl rfl g40 (aF (decide (((pbR z9 z14 z17).1) = ((pbR z9 z14 z17).1))) rfl rfl g40 ?_)))
     exact J41 _ (pk [55, 2, 3, 4, 5, 6, 51] rfl)
   refine sg rfl (ln (qc (rt (kq_retP rfl rfl (congrArg Value.bool ?_)))))
   first | rfl | (simp; done) | exact pv_fin hpk
  ·have c39r := c39
   try simp only [smpE] at c39
   have hpk := pv_go c39r
   refine sk (qc (cS (cr (kl_ldW rfl rfl (mv rfl (kl_call rfl rfl (minI_ok z9 z14 ‹_› ‹_› ‹_›) (fun v42 H43 f44 h45 => ?_)))))))
   obtain ⟨u46, rfl, h47⟩ := h45
   refine mv rfl (kl_xt rfl rfl (kl_xt rfl rfl (sg rfl (sg rfl (ln (qc (cS (cr (kl_ldW rfl rfl (mv rfl (mv rfl ?_)))))))))))
   refine mv rfl (cP rfl rfl (chkBI_ok z9 z14 z17 ((pbR z9 z14 z17).1) ‹_› ‹_› ‹_› ‹_›) ?_)
   refine mv rfl (jn 10 77 (.bool ((chkB z9 z14 z17 ((pbR z9 z14 z17).1)) && (!((minI z9 z14).2) || decide (z17 ≤ (objVal z14 ((minI z9 z14).1)))))) (pk [2, 67] rfl) (fun J51 => ?_) ?_)
   ·rcases Bool.eq_false_or_eq_true (chkB z9 z14 z17 ((pbR z9 z14 z17).1)) with g48 | g48
    ·have g48p := g48
     try simp only [smpD] at g48p
     refine gT rfl rfl g48 (mv rfl (gT rfl rfl g48 (nt9 rfl (gT rfl rfl g48 (mv rfl (jn 6 76 (.bool (!((minI z9 z14).2) || decide (z17 ≤ (objVal z14 ((minI z9 z14).1))))) (pk [2, 67, 70] rfl) (fun J50 => ?_) ?_))))))
     ·rcases Bool.eq_false_or_eq_true (!((minI z9 z14).2)) with g49 | g49
      ·refine gF rfl rfl g49 (gF rfl rfl g49 (gF rfl rfl g49 (gF rfl rfl g49 (gF rfl rfl g49 (gT rfl rfl g48 (oT (decide (z17 ≤ (objVal z14 ((minI z9 z14).1)))) rfl rfl g49 ?_))))))
       exact J50 _ (pk [76, 2, 67, 70] rfl)
      ·have g49p := g49
       try simp only [smpD] at g49p
       refine gT rfl rfl g49 (mv rfl (gT rfl rfl g49 (mv rfl (gT rfl rfl g49 (cP rfl rfl (objValI_ok z14 ((minI z9 z14).1) ‹_› ‹_›) ?_)))))
       refine gT rfl rfl g49 (mv rfl (gT rfl rfl g49 (kl_geq rfl rfl ?_)))
       refine gT rfl rfl g48 (oF rfl rfl g49 ?_)
       exact J50 _ (pk [76, 2, 67, 70] rfl)
     refine aT rfl rfl g48 ?_
     exact J51 _ (pk [77, 2, 67] rfl)
    ·refine gF rfl rfl g48 (gF rfl rfl g48 (gF rfl rfl g48 (kl_gU rfl rfl (kl_gU rfl rfl (kl_gU rfl rfl (kl_gU rfl rfl (kl_gU rfl rfl (gF rfl rfl g48 ?_))))))))
     refine aF (!((minI z9 z14).2) || decide (z17 ≤ (objVal z14 ((minI z9 z14).1)))) rfl rfl g48 ?_
     exact J51 _ (pk [77, 2, 67] rfl)
   refine sg rfl (ln (qc (rt (kq_retP rfl rfl (congrArg Value.bool ?_)))))
   first | rfl | (simp; done) | exact pv_fin hpk
end
section
open Go Go.ChangeShapes Go.WideShapes Go.ChangeAt Go.RowKit
/-- All of a world's memory. -/
def allHp (w : World) : Hp := fun b => w.heap[b]?
theorem agree_all (w : World) : Agree (allHp w) w := fun _ _ h => h
section
variable {H : Type} {enc : TypeId × Value → H} {P : Program} {w : World} {base : Nat} {spare : Nat → Bool} {held : Bool}
theorem cellAt {b o : Nat} {v : Value} (h : w.cell? ⟨b, o, none⟩ = some v) : ∃ cs T fz, w.heap[b]? = some (.cells cs T fz) ∧ cs[o]? = some v := by
  unfold World.cell? at h
  cases hh : w.heap[b]? with
  | none => simp [hh] at h
  | some ob =>
    cases ob with
    | cells cs T fz => simp [hh] at h; exact ⟨cs, T, fz, rfl, h⟩
    | map es c => simp [hh] at h
    | _ => simp [hh] at h
theorem trod_int {t : TypeId} {k : IntKind} {n : Nat} {vs : List Value} {y : DataW H × List MemPlace} (ht : P.underlying t = some (.int k)) (h : DataW.trod enc P w base spare held n t vs = some y) : ∃ a : Int, vs = [.int k a] := by
  cases n with
  | zero => simp [DataW.trod] at h
  | succ n =>
    unfold DataW.trod at h
    rw [ht] at h
    split at h <;> simp_all
/-- The reading fits into what an address can reach. -/
def Wt (P : Program) (t : TypeId) (d : DataW H) : Prop := (d.weights P t).all (· ≤ reachBytes) = true
theorem wtAll {e : TypeId} : ∀ {ds : List (DataW H)}, (DataW.weightsAll P e ds).all (· ≤ reachBytes) = true → ∀ d ∈ ds, Wt P e d
  | [], _, _, h => by cases h
  | d :: ds, hw, x, h => by
    simp only [DataW.weightsAll, List.all_append, Bool.and_eq_true] at hw
    cases h with
    | head => exact hw.1
    | tail _ h => exact wtAll hw.2 x h
theorem wt_slice {t e : TypeId} {ds sp : List (DataW H)} (ht : P.underlying t = some (.slice e)) (h : Wt P t (.slice ds sp)) : (ds.length + sp.length) * P.bytesOf e ≤ reachBytes ∧ ∀ d ∈ ds, Wt P e d := by
  unfold Wt DataW.weights at h
  rw [ht] at h
  simp only [List.all_cons, List.all_append, Bool.and_eq_true, decide_eq_true_eq] at h
  exact ⟨h.1, wtAll h.2.1⟩
theorem wtEach : ∀ {ts : List TypeId} {ds : List (DataW H)}, (DataW.weightsEach P ts ds).all (· ≤ reachBytes) = true → ∀ (i : Nat) (t : TypeId) (d : DataW H), ts[i]? = some t → ds[i]? = some d → Wt P t d
  | [], _, _, i, _, _, h, _ => by cases i <;> simp at h
  | _ :: _, [], _, i, _, _, _, h => by cases i <;> simp at h
  | t :: ts, d :: ds, hw, i, t', d', h1, h2 => by
    simp only [DataW.weightsEach, List.all_append, Bool.and_eq_true] at hw
    cases i with
    | zero => simp at h1 h2; subst h1 h2; exact hw.1
    | succ i => exact wtEach hw.2 i t' d' (by simpa using h1) (by simpa using h2)
theorem trod_sl {A : Type} {R : List Value → A → Prop} {t e : TypeId} {k fuel : Nat} {cs : List Value} {x : DataW H × List MemPlace} (ht : P.underlying t = some (.slice e)) (hk : P.cellsOf e = k) (k0 : 0 < k) (hb : 0 < P.bytesOf e)
    (hel : ∀ n vs y, vs.length = k → DataW.trod enc P w base spare held n e vs = some y → Wt P e y.1 → ∃ a : A, R vs a) (h : DataW.trod enc P w base spare held fuel t cs = some x) (hw : Wt P t x.1) :
    ∃ v xs, cs = [v] ∧ Sl (allHp w) k R v xs := by
  rcases DataW.trod_slice ht h with ⟨h0, _⟩ | ⟨a, len, cap, elems, rest, n, _, rfl, rfl, _, hl, hm, hlen, hE, _⟩
  · exact ⟨_, [], h0, Sl.nil⟩
  · rw [hk] at hE
    obtain ⟨hw1, hw2⟩ := wt_slice ht hw
    have hreach : len ≤ 140737488355328 := by
      simp only [List.length_map, hlen, reachBytes] at hw1
      have h1 : len * 1 ≤ (len + rest.length) * P.bytesOf e := Nat.mul_le_mul (by omega) hb
      omega
    obtain ⟨b, o, sp⟩ := a
    have raw : ∀ i, i < len → ∃ vs : List Value, (∃ x : A, R vs x) ∧ vs.length = k ∧ ∀ j, j < k → w.cell? (((⟨b, o, sp⟩ : Addr).add (i * k)).add j) = vs[j]? := fun i hi => by
      have h1 := hE i hi
      rw [List.getElem?_eq_getElem (by omega), Option.bind_eq_some_iff] at h1
      obtain ⟨vs, h2, h3⟩ := h1
      obtain ⟨_, h4, h5⟩ := World.cells?_some h2
      exact ⟨vs, hel _ _ _ h4 h3 (hw2 _ (List.mem_map.2 ⟨_, List.getElem_mem _, rfl⟩)), h4, h5⟩
    by_cases h0 : len = 0
    · subst h0
      exact ⟨_, [], rfl, some ⟨b, o, sp⟩, cap, rfl, Nat.zero_le _, Nat.zero_le _, fun i h => absurd h (Nat.not_lt_zero i)⟩
    · have hsp : sp = none := by
        obtain ⟨vs, _, h4, h5⟩ := raw 0 (by omega)
        have h6 := h5 0 k0
        rw [List.getElem?_eq_getElem (by omega)] at h6
        have e : (((⟨b, o, sp⟩ : Addr).add (0 * k)).add 0) = ⟨b, o, sp⟩ := by simp [Addr.add]
        rw [e] at h6
        unfold World.cell? at h6
        cases sp with
        | none => rfl
        | some q =>
          simp only [Option.isSome_some, if_true] at h6
          split at h6 <;> cases h6
      subst hsp
      have each : ∀ i, ∃ x : A, i < len → ∃ vs : List Value, vs.length = k ∧ R vs x ∧ At (allHp w) (.pointer (some ⟨b, o + i * k, none⟩)) vs := fun i => by
        by_cases hi : i < len
        · obtain ⟨vs, ⟨x, hx⟩, h4, h5⟩ := raw i hi
          have h6 := h5 0 k0
          simp only [Addr.add_lit] at h5 h6
          rw [List.getElem?_eq_getElem (by omega)] at h6
          obtain ⟨cs, T, fz, h7, h8⟩ := cellAt h6
          refine ⟨x, fun _ => ⟨vs, h4, hx, b, o + i * k, cs, T, fz, rfl, h7, fun j u hj => ?_⟩⟩
          have hjk : j < k := by rw [← h4]; exact (List.getElem?_eq_some_iff.1 hj).1
          have h9 := h5 j hjk
          rw [hj] at h9
          obtain ⟨cs', T', fz', h10, h11⟩ := cellAt h9
          rw [h7] at h10
          obtain ⟨rfl, _, _⟩ := by simpa using h10
          exact h11
        · obtain ⟨vs, ⟨x, hx⟩, _⟩ := raw 0 (by omega)
          exact ⟨x, fun h => absurd h hi⟩
      refine ⟨_, (List.range len).map (fun i => Classical.choose (each i)), rfl, some ⟨b, o, none⟩, cap, by simp, by simpa using hl, by simpa using hreach, fun i hi => ⟨b, o, rfl, ?_⟩⟩
      have hi' : i < len := by simpa using hi
      obtain ⟨vs, h1, h2, h3⟩ := Classical.choose_spec (each i) hi'
      exact ⟨vs, h1, by simpa using h2, h3⟩
theorem trod_byte {t : TypeId} {n : Nat} {vs : List Value} {y : DataW H × List MemPlace} (ht : P.underlying t = some (.int .u8)) (h : DataW.trod enc P w base spare held n t vs = some y) : ∃ a : Int, vs = [.int .u8 a] ∧ 0 ≤ a ∧ a < 256 := by
  obtain ⟨a, rfl⟩ := trod_int ht h
  refine ⟨a, rfl, ?_⟩
  cases n with
  | zero => simp [DataW.trod] at h
  | succ n =>
    unfold DataW.trod at h
    rw [ht] at h
    simp only at h
    split at h
    · rename_i hc
      have h2 := hc.2
      simp only [Lit.wf, Bool.and_eq_true, decide_eq_true_eq] at h2
      have e1 : IntKind.u8.min = 0 := rfl
      have e2 : IntKind.u8.max = 255 := rfl
      omega
    · cases h
theorem open_bytesA {t e : TypeId} {r : Reach} {b0 : Nat} {v : Value} {d : DataW H} {ps : List MemPlace} (ht : P.underlying t = some (.slice e)) (he : P.underlying e = some (.int .u8)) (hk : P.cellsOf e = 1) (hb : 0 < P.bytesOf e)
    (hval : Value.okWide P w r b0 t v) (h : DataW.Trod enc P w base spare held t v d ps) (hw : Wt P t d) : ∃ xs : List Int, Sl (allHp w) 1 (fun vs (n : Int) => vs = [.int .u8 n] ∧ 0 ≤ n ∧ n < 256) v xs := by
  obtain ⟨a, l, c, rfl⟩ := okWide_slice ht hval
  obtain ⟨n, h⟩ := h
  obtain ⟨v, xs, e, h1⟩ := trod_sl (R := fun vs (n : Int) => vs = [.int .u8 n] ∧ 0 ≤ n ∧ n < 256) ht hk (by decide) hb (fun _ _ _ _ h _ => trod_byte he h) h hw
  have : [Value.slice a l c] = [v] := e
  simp only [List.cons.injEq, and_true] at this
  exact ⟨xs, this ▸ h1⟩
theorem sameAt_of {W W' : World} (h : Ext NoX W W') {p : MemPlace} (hp : p.block < W.heap.size) : W.sameAt W' p := by
  cases p with
  | cell b o => exact World.cell?_of_block (w := W) (h.same b hp (fun x => x))
  | map b => exact h.same b hp (fun x => x)
theorem kept_of {W W' : World} (h : Ext NoX W W') (may : MemPlace → Prop) : W.keptBut W' may := by
  refine ⟨h.io.1, h.io.2, fun i hi => ?_⟩
  rw [h.same i hi (fun x => x)]
  split <;> simp_all
theorem trodAll_stays (hl : laidOutB P = true) {W W' : World} {sp : Nat → Bool} : ∀ {ts : List TypeId} {vs : List Value} {ds : List (DataW H)} {ps : List MemPlace},
    (∀ t ∈ ts, P.readableRec t = true ∧ t < P.types.size) → DataW.TrodAll enc P W 0 (fun _ => true) true ts vs ds ps → (∀ p ∈ ps, W.sameAt W' p) → (∀ p ∈ ps, sp p.block = true) → DataW.TrodAll enc P W' 0 sp true ts vs ds ps
  | [], vs, ds, ps, _, h, _, _ => by obtain ⟨rfl, rfl, rfl⟩ := trodAll_nil h; exact rfl
  | t :: ts, vs, ds, ps, hr, h, h1, h2 => by
    obtain ⟨v, vs, d, ds, p, q, rfl, rfl, rfl, h3, h4⟩ := trodAll_cons h
    exact ⟨p, q, WideElems.Trod_stays hl (hr t (.head _)).1 (hr t (.head _)).2 h3 (fun x hx => h1 x (List.mem_append_left _ hx)) (fun x hx => h2 x (List.mem_append_left _ hx)),
      trodAll_stays hl (fun t ht => hr t (.tail _ ht)) h4 (fun x hx => h1 x (List.mem_append_right _ hx)) (fun x hx => h2 x (List.mem_append_right _ hx)), rfl⟩
/-- A law that returned true and wrote nothing of what was there. -/
theorem post_true {f : Func} {s : ChangeSpec} {W W' : World} {args : Array Value} {ds gs : List (DataW H)} {before : List MemPlace} {tb : TypeId} (hl : laidOutB P = true)
    (hr : ∀ t ∈ f.params.toList, P.readableRec t = true ∧ t < P.types.size) (hv : s.vars = []) (ht : f.resultTypes = #[tb]) (hb : P.underlying tb = some .bool)
    (hW : DataW.Whole enc P f.params.toList s.vars false W args.toList ds gs before) (he : Ext NoX W W')
    (hres : (s.fn H (ds ++ gs)).results = [.lit (.bool true)]) (hargs : (s.fn H (ds ++ gs)).args = ds) (hvs : (s.fn H (ds ++ gs)).vars = []) :
    s.post enc P f false true false false W args (.bool true) W' := by
  have hW' := hW
  obtain ⟨p, q, hA, hV, rfl, _, _⟩ := hW
  rw [hv] at hV
  obtain ⟨rfl, rfl⟩ := trodVars_none hV
  have hlt := fun x hx => hW'.lt x hx
  refine ⟨ds, [], p ++ [], [], p, [], hW', ?_, ?_, ?_, kept_of he _, fun h => by cases h⟩
  · rw [hres, ht]
    exact trodAll_mk1 (shut_bool hb true)
  · rw [hargs]
    exact trodAll_stays hl hr hA (fun x hx => sameAt_of he (hlt x (by simpa using hx))) (fun x hx => by simpa using hlt x (by simpa using hx))
  · rw [hvs, hv]; exact rfl
end
end
section
open Go Go.ChangeShapes Go.WideShapes Go.ChangeAt Go.RowKit
theorem Tryz.own : ownKnob Tryz.prog.godebug = none := by kernel_rfl
theorem Tryz.laidOut : laidOutB Tryz.prog = true := by kernel_rfl
end
end Go.Proofs.YtolndgeihijlbaaGreat
