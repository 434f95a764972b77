/- Regions that draw their order and write what they have made themselves: walked along what is ready. Conditions: none. -/
import Derived.Test.YtojinjdobjodaaaGreatFin
namespace Go.Proofs.YtojinjdobjodaaaGreat
open Go
set_option linter.unusedSimpArgs false
set_option linter.unusedVariables false
/-- What is left of a drawn region: the operations that are not in 'listed', in whatever order. LS: what is owned and read by operations that may be taken early; fx: the operations that come behind all of these. -/
def KT (C : Cx) (ops : Array Oper) (Q : Post) (fx : Nat → Bool) (LS : List Hp) (fuel : Nat) (listed : Array Bool) (ims L : List Hp) (G : Env) : Prop :=
  ∀ a w, Fit C.m G a → St C.B C.X ims L w → Dc .any ops listed → anyG C.P .any ops Q (St C.B C.X (LS ++ ims) []) fx fuel listed a w
/-- Behind an operation that may be taken early. -/
def QP (C : Cx) (ops : Array Oper) (Q : Post) (fx : Nat → Bool) (LS : List Hp) (fuel : Nat) (listed : Array Bool) (ims L : List Hp) : Post :=
  fun e a w => e = .normal ∧ (St C.B C.X ims L w → Dc .any ops listed → anyG C.P .any ops Q (St C.B C.X (LS ++ ims) []) fx fuel listed a w)
/-- Behind another one. -/
def QA (C : Cx) (ops : Array Oper) (Q : Post) (fx : Nat → Bool) (LS : List Hp) (k fuel : Nat) (listed : Array Bool) (ims : List Hp) : Post :=
  fun e a w => e = .normal ∧ (fx k = true ∨ St C.B C.X (LS ++ ims) [] w) ∧ (Dc .any ops listed → anyG C.P .any ops Q (St C.B C.X (LS ++ ims) []) fx fuel listed a w)
theorem St.low {B : World} {X : Side} {ims L LS : List Hp} {w : World} (h : St B X ims L w) (s : LS.Sublist L) : St B X (LS ++ ims) [] w :=
  h.still (fun b hb => by
      rcases hb with ⟨_, hb, _⟩ | ⟨hB, K, hK, hb⟩
      · cases hb
      · rcases List.mem_append.1 hK with hK | hK
        · exact .inl ⟨K, s.mem hK, hb⟩
        · exact .inr ⟨hB, K, hK, hb⟩)
    (fun K hK => by
      rcases List.mem_append.1 hK with hK | hK
      · exact (h.own K (s.mem hK)).1
      · exact h.im K hK)
    (fun _ h => by cases h) List.Pairwise.nil
theorem allIn_low {LS l m : List Hp} (i : AllIn l m) : AllIn (LS ++ l) (LS ++ m) := ⟨fun a ha => by
  rcases List.mem_append.1 ha with h | h
  · exact List.mem_append_left _ h
  · exact List.mem_append_right _ (i.all a h)⟩
theorem kc_tree {P : Program} {n : Nat} {B : World} {X : Side} {df : List Deferred} {R : Option Nat} {Q : Post} {ims L : List Hp} {G : Env} {id : Nat} {l : List Oper} (fx : Nat → Bool) (LS : List Hp) (hm : P.follows .mixedOrders = true)
    (h : KT ⟨P, n, B, X, false, df, R⟩ l.toArray (Only Q) fx LS l.length (Array.replicate l.length false) ims L G) (hd : noDef l = true := by rfl) : KC ⟨P, n, B, X, false, df, R⟩ Q ims L (.region id l.toArray true) G := fun a w hf hs => by
  refine wpIn_region_anyL hm hd (wpAny_of_anyG (S := St B X (LS ++ ims) []) (fx := fx) _ _ _ _ ?_)
  have := h a _ hf hs.drew (Dc.none _ _ _)
  simpa using this
section laws
variable {C : Cx} {ops : Array Oper} {Q : Post} {fx : Nat → Bool} {LS : List Hp} {fuel : Nat} {listed : Array Bool} {ims L : List Hp} {G : Env}
theorem kq_q {imsq : List Hp} (h : KT C ops Q fx LS fuel listed ims L G) : KQ C imsq [] G (QP C ops Q fx LS fuel listed ims L .normal) :=
  fun a w hf _ => ⟨rfl, fun hs => h a w hf hs⟩
theorem kq_a {k : Nat} {ims0 : List Hp} [i : AllIn ims0 ims] (hl : LS.Sublist L) (h : KT C ops Q fx LS fuel listed ims L G) : KQ C ims L G (QA C ops Q fx LS k fuel listed ims0 .normal) :=
  fun a w hf hs => ⟨rfl, .inr ((hs.low hl).ims (i := allIn_low i)), fun hd => anyG_mono (fun _ hu => St.ims (i := allIn_low i) hu) _ _ _ _ (h a w hf hs hd)⟩
theorem kq_x {k : Nat} {ims0 : List Hp} [i : AllIn ims0 ims] (hx : fx k = true) (h : KT C ops Q fx LS fuel listed ims L G) : KQ C ims L G (QA C ops Q fx LS k fuel listed ims0 .normal) :=
  fun a w hf hs => ⟨rfl, .inl hx, fun hd => anyG_mono (fun _ hu => St.ims (i := allIn_low i) hu) _ _ _ _ (h a w hf hs hd)⟩
theorem kt_q (k : Nat) {o : Oper} (hl : LS.Sublist L) (ho : ops[k]? = some o)
    (hB : (Region.noSelect ops && (Region.ready .any ops listed).contains k && Region.free .any ops listed k && (List.range ops.size).all (fun j => !(fx j) || listed.getD j false || waitsB .any ops ops.size j k)) = true)
    (h : KL C true ops (QP C ops (Only Q) fx LS fuel (listed.setIfInBounds k true) ims L) (LS ++ ims) [] [true] [o] G) : KT C ops (Only Q) fx LS (fuel + 1) listed ims L G := fun a w hf hs hdc => by
  have h1 := h a w hf (hs.low hl)
  have hW : C.W [] = [] := by unfold Cx.W; cases C.lo <;> rfl
  rw [hW] at h1
  simp only [Bool.and_eq_true, List.all_eq_true, List.mem_range, Bool.or_eq_true, Bool.not_eq_true'] at hB
  obtain ⟨⟨⟨hsel, hr⟩, hfree⟩, hwait⟩ := hB
  have hr' : k ∈ Region.ready .any ops listed := by simpa using hr
  have main : ∀ v, YieldsIf C.P ops (St C.B C.X (LS ++ ims) []) o v a → anyG C.P .any ops (Only Q) (St C.B C.X (LS ++ ims) []) fx fuel (listed.setIfInBounds k true) (a.put o.dst v) w →
      anyG C.P .any ops (Only Q) (St C.B C.X (LS ++ ims) []) fx (fuel + 1) listed a w := fun v hy hg =>
    anyG_first ho (Region.noSelect_spec hsel) (fun c a w hq => hq.elim) fuel listed a w (fun j hj hfj => by
      rcases hwait j hj with (h2 | h2) | h2
      · rw [hfj] at h2; cases h2
      · exact .inl h2
      · exact .inr h2) hdc (Region.free_spec ho hfree) hr' hy (hs.low hl) hg
  unfold wpSeq at h1
  split at h1
  · rename_i hw
    rcases h1 with ⟨v, hv, h2⟩ | ⟨hn, _⟩
    · exact main v (.inl ⟨hw, hv⟩) (h2.2 hs (hdc.set hr'))
    · cases hn rfl
  · rename_i hw
    exact main undef (.inr ⟨by simpa using hw, rfl⟩) (h1.2 hs (hdc.set hr'))
theorem wpOp_of {k : Nat} {o : Oper} (ho : ops[k]? = some o) {fuel : Nat} {listed : Array Bool} (hdc : Dc .any ops listed) (h : KL C true ops (QA C ops Q fx LS k fuel listed ims) ims L [false] [o] G) {a : Act} {w : World} (hf : Fit C.m G a) (hs : St C.B C.X ims L w) :
    wpOp C.P ops Q k (fun a' w' => (fx k = true ∨ St C.B C.X (LS ++ ims) [] w') ∧ anyG C.P .any ops Q (St C.B C.X (LS ++ ims) []) fx fuel listed a' w') a w := by
  have h1 := h a w hf hs
  unfold wpOp
  rw [ho]
  simp only
  unfold wpSeq at h1
  split at h1
  · rename_i hw
    rw [if_pos hw]
    left
    rcases h1 with ⟨v, hv, h2⟩ | ⟨_, h2⟩
    · unfold Oper.wp
      rw [hv w hs.w]
      exact ⟨h2.2.1, h2.2.2 hdc⟩
    · refine oper_wp_noPanic (fun a' w' h' => ?_) h2
      obtain ⟨S2, _, h3⟩ := h'
      exact ⟨h3.2.1, h3.2.2 hdc⟩
  · rename_i hw
    rw [if_neg hw]
    exact ⟨h1.2.1, h1.2.2 hdc⟩
theorem kt_a (k : Nat) {o : Oper} (ho : ops[k]? = some o) (hB : (Region.ready .any ops listed == [k]) = true)
    (h : KL C true ops (QA C ops Q fx LS k fuel (listed.setIfInBounds k true) ims) ims L [false] [o] G) : KT C ops Q fx LS (fuel + 1) listed ims L G := fun a w hf hs hdc => by
  have hr : Region.ready .any ops listed = [k] := by simpa using hB
  refine ⟨fun h' => absurd (hr ▸ h') (by simp), fun i hi => ?_⟩
  have hd2 := hdc.set hi
  rw [hr] at hi
  simp only [List.mem_singleton] at hi
  subst hi
  exact wpOp_of ho hd2 h hf hs
theorem kt_b (k1 k2 : Nat) {o1 o2 : Oper} (ho1 : ops[k1]? = some o1) (ho2 : ops[k2]? = some o2) (hB : (Region.ready .any ops listed == [k1, k2]) = true)
    (h1 : KL C true ops (QA C ops Q fx LS k1 fuel (listed.setIfInBounds k1 true) ims) ims L [false] [o1] G)
    (h2 : KL C true ops (QA C ops Q fx LS k2 fuel (listed.setIfInBounds k2 true) ims) ims L [false] [o2] G) : KT C ops Q fx LS (fuel + 1) listed ims L G := fun a w hf hs hdc => by
  have hr : Region.ready .any ops listed = [k1, k2] := by simpa using hB
  refine ⟨fun h' => absurd (hr ▸ h') (by simp), fun i hi => ?_⟩
  have hd2 := hdc.set hi
  rw [hr] at hi
  simp only [List.mem_cons, List.not_mem_nil, or_false] at hi
  rcases hi with rfl | rfl
  · exact wpOp_of ho1 hd2 h1 hf hs
  · exact wpOp_of ho2 hd2 h2 hf hs
theorem kt_end (hB : (Region.ready .any ops listed == []) = true) (h : KQ C ims L G (Q .normal)) : KT C ops Q fx LS 0 listed ims L G :=
  fun a w hf hs _ => ⟨by simpa using hB, h a w hf hs⟩
end laws
instance {α : Type} (a : α) (l m : List α) [h : In a l] : In a (l ++ m) := ⟨List.mem_append_left _ h.mem⟩
instance (priority := low) {α : Type} (a : α) (l m : List α) [h : In a m] : In a (l ++ m) := ⟨List.mem_append_right _ h.mem⟩
theorem at_box {b T off : Nat} {cs : List Value} {fz : Nat × Nat} : At (sing b (.cells cs.toArray T fz)) (.pointer (some ⟨b, off, none⟩)) (cs.drop off) := by
  have h : At (sing b (.cells cs.toArray T fz)) (.pointer (some ⟨b, 0, none⟩)) cs := At.sing (cs := cs.toArray)
  simpa using h.drop off
section early
variable {C : Cx} {dr : Bool} {ops : Array Oper} {Q : Post} {ims L : List Hp} {G : Env} {fl : List Bool} {rest : List Oper} {d ty : Nat} {pos : String} {af : Array Edge}
theorem kl_ldOe {E k n j : Nat} {H : Hp} {v p u : Value} {cs : List Value} {x : Operand} {T : Nat} [hT : OneC C.P T] (hx : ev G x = some p) (hp : PtrO v p j) (hv : OwnS E k H v n cs) [hi : In H ims] (hc : cs[j]? = some u)
    (h : KL C dr ops Q ims L fl.tail rest ((d, u) :: G)) (hlt : Nat.blt d C.n = true := by rfl) : KL C dr ops Q ims L fl (⟨some d, .load T x, ty, pos, af, none⟩ :: rest) G :=
  kl_y (fun r w hr hs => by
    obtain ⟨b, cur, rfl, rfl, hcur⟩ := hv.cell hp hc
    have hA := hs.im (sing b (.cells cur E (0, 0))) hi.mem b _ (sing_self _ _)
    have hcell : w.cell? ⟨b, j, none⟩ = some u := by simp [World.cell?, hA, hcur]
    simp [go_sem, hr _ _ hx, Instr.loadAt, loadVar, OneC.run, hcell]) h hlt
theorem kl_ldLIe {E i : Nat} {H K : Hp} {v p : Value} {xs : List Int} {x : Operand} {T : Nat} [hT : OneC C.P T] (hx : ev G x = some p) (hp : PtrL 1 v p i) (hv : OwnL E 1 H K IntV v xs) [hi : In H ims] (hc : i < xs.length)
    (h : KL C dr ops Q ims L fl.tail rest ((d, .int .i64 (xs.getD i 0)) :: G)) (hlt : Nat.blt d C.n = true := by rfl) : KL C dr ops Q ims L fl (⟨some d, .load T x, ty, pos, af, none⟩ :: rest) G := by
  obtain ⟨cs, u, h1, h2, h3⟩ := hv.at1 hc
  unfold IntV at h3
  simp at h3
  subst h3
  refine kl_ldOe hx hp h1 (by simpa using h2) ?_ hlt
  simpa [List.getD, hc] using h
end early
/-- A test that is written out. -/
theorem kc_condF {C : Cx} {Q : Post} {ims L : List Hp} {G : Env} {x y : Code} (h : KC C Q ims L y G) : KC C Q ims L (.cond (.const (.bool false)) x y) G := fun a w hf hs => by
  have he : a.eval (.const (.bool false)) = .bool false := rfl
  exact wpIn_cond he (h a w hf hs)
theorem kl_addN {C : Cx} {dr : Bool} {ops : Array Oper} {Q : Post} {ims L : List Hp} {G : Env} {fl : List Bool} {rest : List Oper} {d ty : Nat} {pos : String} {af : Array Edge} {x y : Operand} {T T2 m k : Nat}
    (hx : ev G x = some (.int .i64 (m : Int))) (hy : ev G y = some (.int .i64 (k : Int))) (hb : m + k ≤ 9223372036854775807) (h : KL C dr ops Q ims L fl.tail rest ((d, .int .i64 ((m + k : Nat) : Int)) :: G)) (hlt : Nat.blt d C.n = true := by rfl) :
    KL C dr ops Q ims L fl (⟨some d, .binOp .add T x y T2, ty, pos, af, none⟩ :: rest) G :=
  kl_add hx hy (by omega) (by rw [← Int.natCast_add]; exact h) hlt
end Go.Proofs.YtojinjdobjodaaaGreat
