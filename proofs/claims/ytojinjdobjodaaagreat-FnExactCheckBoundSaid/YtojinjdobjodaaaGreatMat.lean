/- Lists of rows, each row in a block of its own: what is owned to the bottom. Conditions: none. -/
import Derived.Test.YtojinjdobjodaaaGreatCut
import Derived.Test.YtojinjdobjodaaaGreatMut
import Derived.Test.YtojinjdobjodaaaGreatSol
namespace Go.Proofs.YtojinjdobjodaaaGreat
open Go
set_option linter.unusedSimpArgs false
set_option linter.unusedVariables false
class Enc {A : Type} (enc : A → Value) : Prop where
  one : ∀ a, (enc a).oneCell' = true
  cells : ∀ a, (enc a).cells = [enc a].toArray
def encB (b : Bool) : Value := .bool b
def encI (n : Int) : Value := .int .i64 n
instance : Enc encB := ⟨fun _ => rfl, fun _ => rfl⟩
instance : Enc encI := ⟨fun _ => rfl, fun _ => rfl⟩
/-- u is a row that lies in the block b of K, from its head on. -/
def BlkR {A : Type} (E : Nat) (enc : A → Value) (K : Hp) (b : Nat) (xs : List A) (u : Value) : Prop :=
  ∃ c cur, u = .slice (some ⟨b, 0, none⟩) xs.length c ∧ xs.length ≤ c ∧ c ≤ maxLen ∧ c ≤ cur.size ∧ xs.length ≤ 140737488355328 ∧ cur.toList.take xs.length = xs.map enc ∧ K b = some (.cells cur E (0, 0))
/-- v, whose cells H holds, is a list of rows (their slices: us), each in a block of its own in K. -/
structure Mat {A : Type} (EH E : Nat) (enc : A → Value) (H K : Hp) (v : Value) (us : List Value) (xss : List (List A)) : Prop where
  hd : OwnS EH 1 H v xss.length us
  bs : ∃ bs : List Nat, bs.length = xss.length ∧ bs.Nodup ∧ ∀ i, i < xss.length → BlkR E enc K (bs.getD i 0) (xss.getD i []) (us.getD i undef)
  lq : Liq K
variable {A : Type} {enc : A → Value}
theorem Mat.ulen {EH E : Nat} {H K : Hp} {v : Value} {us : List Value} {xss : List (List A)} (h : Mat EH E enc H K v us xss) : us.length = xss.length := by have := h.hd.1; omega
theorem Mat.nil {EH E : Nat} {H : Hp} {v : Value} (h : OwnS EH 1 H v 0 []) : Mat EH E enc H noHp v [] [] := ⟨h, ⟨[], rfl, List.nodup_nil, fun i h => absurd h (Nat.not_lt_zero i)⟩, fun b o hb => by cases hb⟩
theorem BlkR.mono {E b : Nat} {K K' : Hp} {xs : List A} {u : Value} (h : BlkR E enc K b xs u) (hk : K' b = K b) : BlkR E enc K' b xs u := by
  obtain ⟨c, cur, h1, h2, h3, h4, h5, h6, h7⟩ := h
  exact ⟨c, cur, h1, h2, h3, h4, h5, h6, by rw [hk]; exact h7⟩
theorem blk_of {E : Nat} {K : Hp} {u : Value} {xs : List A} (h : OwnS E 1 K u xs.length (xs.map enc)) (h0 : 0 < xs.length) : ∃ b, BlkR E enc K b xs u ∧ K b ≠ none := by
  obtain ⟨h1, h2, h3⟩ := h
  rcases h3 with ⟨_, _, hn, _⟩ | ⟨b, c, cur, rfl, h4, h5, h6, h7, rfl⟩
  · omega
  · exact ⟨b, ⟨c, cur, rfl, h4, h5, by simpa using h6, h2, by simpa using h7, by simp⟩, by simp⟩
/-- A row of its own is put behind. -/
theorem Mat.push {EH E : Nat} {H H' K Hr : Hp} {v v' u : Value} {us : List Value} {xss : List (List A)} {r : List A} (h : Mat EH E enc H K v us xss) (ho : OwnS EH 1 H' v' (xss.length + 1) (us ++ [u])) (hr : OwnS E 1 Hr u r.length (r.map enc)) (h0 : 0 < r.length) (lr : Liq Hr) (ap : Apart K Hr) :
    Mat EH E enc H' (orHp K Hr) v' (us ++ [u]) (xss ++ [r]) := by
  obtain ⟨bs, h1, h2, h3⟩ := h.bs
  obtain ⟨b, hb, hbn⟩ := blk_of hr h0
  have hul := h.ulen
  have hK : ∀ q, Hr q ≠ none → K q = none := fun q hq => (ap q).resolve_right hq
  refine ⟨by simpa using ho, ⟨bs ++ [b], by simp [h1], ?_, fun i hi => ?_⟩, fun q o hq => ?_⟩
  · rw [List.nodup_append]
    refine ⟨h2, by simp, fun x hx y hy e => ?_⟩
    rw [List.mem_singleton] at hy
    subst hy e
    obtain ⟨i, hi, rfl⟩ := List.getElem_of_mem hx
    obtain ⟨c, cur, _, _, _, _, _, _, h9⟩ := h3 i (by omega)
    rw [List.getD_eq_getElem?_getD, List.getElem?_eq_getElem hi, Option.getD_some, hK _ hbn] at h9
    cases h9
  · simp only [List.length_append, List.length_singleton] at hi
    by_cases e : i < xss.length
    · have h4 := h3 i e
      have e1 : (bs ++ [b]).getD i 0 = bs.getD i 0 := by simp [List.getD, List.getElem?_append, h1, e]
      have e2 : (xss ++ [r]).getD i [] = xss.getD i [] := by simp [List.getD, List.getElem?_append, e]
      have e3 : (us ++ [u]).getD i undef = us.getD i undef := by simp [List.getD, List.getElem?_append, hul, e]
      rw [e1, e2, e3]
      obtain ⟨c, cur, q1, q2, q3, q4, q5, q6, q7⟩ := h4
      exact ⟨c, cur, q1, q2, q3, q4, q5, q6, by unfold orHp; rw [q7]; rfl⟩
    · have ei : i = xss.length := by omega
      subst ei
      have e1 : (bs ++ [b]).getD xss.length 0 = b := by simp [List.getD, List.getElem?_append, h1]
      have e2 : (xss ++ [r]).getD xss.length [] = r := by simp [List.getD, List.getElem?_append]
      have e3 : (us ++ [u]).getD xss.length undef = u := by simp [List.getD, List.getElem?_append, hul]
      rw [e1, e2, e3]
      refine hb.mono ?_
      simp [orHp, hK b hbn]
  · unfold orHp at hq
    cases e : K q with
    | none => rw [e] at hq; exact lr q o (by simpa using hq)
    | some x => rw [e] at hq; exact h.lq q o (by rw [e]; simpa using hq)
theorem enc_get {xs : List A} {cur : Array Value} {d : A} (h : cur.toList.take xs.length = xs.map enc) {j : Nat} (hj : j < xs.length) : cur[j]? = some (enc (xs.getD j d)) := by
  have h1 : (cur.toList.take xs.length)[j]? = some (enc (xs.getD j d)) := by rw [h]; simp [List.getD, hj]
  rw [List.getElem?_take, if_pos hj] at h1
  rw [← Array.getElem?_toList]; exact h1
section ops
variable {C : Cx} {dr : Bool} {ops : Array Oper} {Q : Post} {ims L : List Hp} {G : Env} {fl : List Bool} {rest : List Oper} {d ty : Nat} {pos : String} {af : Array Edge}
variable {EH E i j : Nat} {H K : Hp} {v p u : Value} {us : List Value} {xss : List (List A)} {x y : Operand} {T E' by' : Nat} {z : Value}
/-- An owned heaplet of two parts is two. -/
theorem St.split {B : World} {X : Side} {ims L' : List Hp} {w : World} {K H : Hp} (h : St B X ims (orHp K H :: L') w) (ap : Apart K H) : St B X ims (K :: H :: L') w := by
  have hk := h.own _ (.head _)
  have d1 : ∀ b, K b ≠ none → orHp K H b ≠ none := fun b hb e => by
    cases e1 : K b with
    | none => exact hb e1
    | some o => simp [orHp, e1] at e
  have d2 : ∀ b, H b ≠ none → orHp K H b ≠ none := fun b hb e => by
    have := (ap b).resolve_right hb
    simp [orHp, this] at e; exact hb e
  have a1 : Agree K w := fun b o hb => hk.1 b o (by simp [orHp, hb])
  have a2 : Agree H w := fun b o hb => hk.1 b o (by
    have := (ap b).resolve_right (by rw [hb]; simp)
    simp [orHp, this, hb])
  have sub : ∀ M : Hp, Apart (orHp K H) M → Apart K M ∧ Apart H M := fun M ha => ⟨fun b => by
      by_cases e : K b = none
      · exact .inl e
      · exact .inr ((ha b).resolve_left (d1 b e)), fun b => by
      by_cases e : H b = none
      · exact .inl e
      · exact .inr ((ha b).resolve_left (d2 b e))⟩
  have hnd := List.pairwise_cons.1 h.nd
  refine h.still (fun b hb => ?_) h.im (fun M hM => ?_) ?_
  · rcases hb with ⟨M, hM, hb⟩ | hb
    · cases hM with
      | head => exact .inl ⟨_, .head _, d1 b hb⟩
      | tail _ hM => cases hM with
        | head => exact .inl ⟨_, .head _, d2 b hb⟩
        | tail _ hM => exact .inl ⟨M, .tail _ hM, hb⟩
    · exact .inr hb
  · cases hM with
    | head => exact ⟨a1, fun b hb => hk.2.1 b (d1 b hb), fun I hI => (sub I (hk.2.2 I hI)).1⟩
    | tail _ hM => cases hM with
      | head => exact ⟨a2, fun b hb => hk.2.1 b (d2 b hb), fun I hI => (sub I (hk.2.2 I hI)).2⟩
      | tail _ hM => exact h.own M (.tail _ hM)
  · refine List.pairwise_cons.2 ⟨fun M hM => ?_, List.pairwise_cons.2 ⟨fun M hM => (sub M (hnd.1 M hM)).2, hnd.2⟩⟩
    cases hM with
    | head => exact ap
    | tail _ hM => exact (sub M (hnd.1 M hM)).1
end ops
/-- A list of rows that a call gives: header and rows in one heaplet. -/
def MatR (EH E : Nat) (enc : A → Value) (Hq : Hp) (v : Value) (xss : List (List A)) : Prop := ∃ (H K : Hp) (us : List Value), Hq = orHp H K ∧ Apart H K ∧ Mat EH E enc H K v us xss
theorem Mat.hlq {EH E : Nat} {H K : Hp} {v : Value} {us : List Value} {xss : List (List A)} (h : Mat EH E enc H K v us xss) : Liq H := by
  obtain ⟨_, _, h3⟩ := h.hd
  rcases h3 with ⟨_, _, _, rfl⟩ | ⟨b, c, cur, _, _, _, _, _, rfl⟩
  · exact fun b o hb => by cases hb
  · exact liq_sing
/-- What it reads as. -/
theorem Mat.rows {EH E : Nat} {H K M : Hp} {v : Value} {us : List Value} {xss : List (List Int)} (h : Mat EH E encI H K v us xss) (h1 : ∀ b o, H b = some o → M b = some o) (h2 : ∀ b o, K b = some o → M b = some o) : Rows M v xss := by
  obtain ⟨bs, hb1, hb2, h3⟩ := h.bs
  refine h.hd.sl (k := 1) (K := M) (R := SlC M 1 IntC) rfl h1 (fun i hi => ?_)
  obtain ⟨c, cur, e, q2, q3, q4, q5, q6, q7⟩ := h3 i hi
  have hu : i < us.length := by rw [h.ulen]; exact hi
  rw [Nat.mul_one, List.drop_eq_getElem_cons hu, List.take_succ_cons, List.take_zero]
  have e1 : us.getD i undef = us[i] := by simp [List.getD, hu]
  have e2 : xss.getD i [] = xss[i] := by simp [List.getD, hi]
  rw [e1, e2] at e
  rw [e2] at q2 q5 q6
  refine ⟨us[i], rfl, some ⟨bs.getD i 0, 0, none⟩, c, e, q2, q5, fun j hj => ⟨_, 0, rfl, [.int .i64 xss[i][j]], rfl, rfl, _, 0 + j * 1, cur, E, (0, 0), rfl, h2 _ _ q7, fun q w hq => ?_⟩⟩
  cases q with
  | zero =>
    simp only [List.getElem?_cons_zero, Option.some.injEq] at hq
    subst hq
    have := enc_get (enc := encI) (d := 0) q6 hj
    have e3 : (xss[i]).getD j 0 = xss[i][j] := by simp [List.getD, hj]
    rw [e3] at this
    simpa [encI] using this
  | succ q => simp at hq
end Go.Proofs.YtojinjdobjodaaaGreat
