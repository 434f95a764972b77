/- Regions that draw their order and write what they have made themselves: walked along what is ready. Conditions: none. -/
import Derived.Test.YtmdjiggnbdgipaaFin
namespace Go.Proofs.Ytmdjiggnbdgipaa
open Go
/-- What is left of a drawn region: the operations that are not in 'listed', in whatever order. -/
def KT (C : Cx) (ops : Array Oper) (Q : Post) (fuel : Nat) (listed : Array Bool) (ims L : List Hp) (G : Env) : Prop :=
  ∀ a w, Fit C.n G a → St C.B C.X ims L w → anyG C.P .any ops Q (St C.B C.X ims []) ops.size fuel listed a w
def QQ (C : Cx) (ops : Array Oper) (Q : Post) (fuel : Nat) (listed : Array Bool) (ims : List Hp) : Post :=
  fun e a w => e = .normal ∧ St C.B C.X ims [] w ∧ anyG C.P .any ops Q (St C.B C.X ims []) ops.size fuel listed a w
theorem Cx.wlo {C : Cx} (hl : C.lo = true) (L : List Hp) : C.W L = [] := by unfold Cx.W; rw [hl]; rfl
theorem St.none {B : World} {X : Nat → Prop} {ims L : List Hp} {w : World} (h : St B X ims L w) : St B X ims [] w := h.weak (i := allIn_refl _) (List.nil_sublist _)
theorem kc_tree {P : Program} {n : Nat} {B : World} {X : Nat → Prop} {Q : Post} {ims L : List Hp} {G : Env} {id : Nat} {l : List Oper} (hm : P.follows .mixedOrders = true)
    (h : KT ⟨P, n, B, X, true⟩ l.toArray (NoPanic Q) l.length (Array.replicate l.length false) ims L G) : KC ⟨P, n, B, X, false⟩ Q ims L (.region id l.toArray true) G := fun a w hf hs => by
  refine wp_region_noPanic (wp_region_any hm (wpAny_of_anyG (S := St B X ims []) (f := l.toArray.size) _ _ _ _ ?_))
  have := h a _ hf hs.drew
  simpa using this
section laws
variable {C : Cx} {ops : Array Oper} {Q : Post} {fuel : Nat} {listed : Array Bool} {ims L : List Hp} {G : Env}
theorem kt_pick {G' : Env} (hp : Pick G G') (h : KT C ops Q fuel listed ims L G') : KT C ops Q fuel listed ims L G := fun a w hf hs => h a w (hp.fit hf) hs
theorem kq_kt {ims0 : List Hp} [i : AllIn ims0 ims] (h : KT C ops Q fuel listed ims L G) : KQ C ims L G (QQ C ops Q fuel listed ims0 .normal) :=
  fun a w hf hs => ⟨rfl, hs.none.ims, anyG_mono (fun _ hu => St.ims hu) _ _ _ _ (h a w hf hs)⟩
theorem kt_q (k : Nat) {o : Oper} (hl : C.lo = true) (ho : ops[k]? = some o) (hB : (Region.noSelect ops && (Region.ready .any ops listed).contains k && Region.free .any ops listed k && Nat.blt k ops.size) = true)
    (h : KL C true ops (QQ C ops (NoPanic Q) fuel (listed.setIfInBounds k true) ims) ims L [true] [o] G) : KT C ops (NoPanic Q) (fuel + 1) listed ims L G := fun a w hf hs => by
  have h1 := h a w hf hs
  rw [Cx.wlo hl] at h1
  simp only [Bool.and_eq_true, Nat.blt_eq] at hB
  obtain ⟨⟨⟨hsel, hr⟩, hfree⟩, hk⟩ := hB
  have hno : ∀ o', ops[ops.size]? = some o' → ∃ e ∈ o'.after, Region.binds .any e = true ∧ e.on = k := fun o' ho' => by simp at ho'
  have main : ∀ v, YieldsIf C.P ops (St C.B C.X ims []) o v a → anyG C.P .any ops (NoPanic Q) (St C.B C.X ims []) ops.size fuel (listed.setIfInBounds k true) (a.put o.dst v) w →
      anyG C.P .any ops (NoPanic Q) (St C.B C.X ims []) ops.size (fuel + 1) listed a w := fun v hy hg =>
    anyG_first ho (Region.noSelect_spec hsel) (fun c a w hq => hq.elim) (by omega) hno fuel listed a w (Region.free_spec ho hfree) (by simpa using hr) hy hs.none hg
  unfold wpSeq at h1
  split at h1
  · rename_i hw
    rcases h1 with ⟨v, hv, h2⟩ | ⟨hn, _⟩
    · exact main v (.inl ⟨hw, hv⟩) h2.2.2
    · cases hn rfl
  · rename_i hw
    exact main undef (.inr ⟨by simpa using hw, rfl⟩) h1.2.2
theorem wpOp_of {k : Nat} {o : Oper} (hl : C.lo = true) (ho : ops[k]? = some o) {fuel : Nat} {listed : Array Bool} (h : KL C true ops (QQ C ops Q fuel listed ims) ims L [false] [o] G) {a : Act} {w : World} (hf : Fit C.n G a) (hs : St C.B C.X ims L w) :
    wpOp C.P ops Q k (fun a' w' => (k = ops.size ∨ St C.B C.X ims [] w') ∧ anyG C.P .any ops Q (St C.B C.X ims []) ops.size fuel listed a' w') a w := by
  have h1 := h a w hf hs
  rw [Cx.wlo hl] at h1
  unfold wpOp
  rw [ho]
  simp only
  unfold wpSeq at h1
  split at h1
  · rename_i hw
    rw [if_pos hw]
    left
    rcases h1 with ⟨v, hv, h2⟩ | ⟨_, h2⟩
    · unfold Oper.wp
      rw [hv w hs.none]
      exact ⟨.inr h2.2.1, h2.2.2⟩
    · refine oper_wp_noPanic (fun a' w' h' => ?_) h2
      obtain ⟨S2, _, h3⟩ := h'
      exact ⟨.inr h3.2.1, h3.2.2⟩
  · rename_i hw
    rw [if_neg hw]
    exact ⟨.inr h1.2.1, h1.2.2⟩
theorem kt_a (k : Nat) {o : Oper} (hl : C.lo = true) (ho : ops[k]? = some o) (hB : (Region.ready .any ops listed == [k]) = true)
    (h : KL C true ops (QQ C ops Q fuel (listed.setIfInBounds k true) ims) ims L [false] [o] G) : KT C ops Q (fuel + 1) listed ims L G := fun a w hf hs => by
  have hr : Region.ready .any ops listed = [k] := by simpa using hB
  refine ⟨fun h' => absurd (hr ▸ h') (by simp), fun i hi => ?_⟩
  rw [hr] at hi
  simp only [List.mem_singleton] at hi
  subst hi
  exact wpOp_of hl ho h hf hs
theorem kt_b (k1 k2 : Nat) {o1 o2 : Oper} (hl : C.lo = true) (ho1 : ops[k1]? = some o1) (ho2 : ops[k2]? = some o2) (hB : (Region.ready .any ops listed == [k1, k2]) = true)
    (h1 : KL C true ops (QQ C ops Q fuel (listed.setIfInBounds k1 true) ims) ims L [false] [o1] G)
    (h2 : KL C true ops (QQ C ops Q fuel (listed.setIfInBounds k2 true) ims) ims L [false] [o2] G) : KT C ops Q (fuel + 1) listed ims L G := fun a w hf hs => by
  have hr : Region.ready .any ops listed = [k1, k2] := by simpa using hB
  refine ⟨fun h' => absurd (hr ▸ h') (by simp), fun i hi => ?_⟩
  rw [hr] at hi
  simp only [List.mem_cons, List.not_mem_nil, or_false] at hi
  rcases hi with rfl | rfl
  · exact wpOp_of hl ho1 h1 hf hs
  · exact wpOp_of hl ho2 h2 hf hs
theorem kt_end {P : Program} {n : Nat} {B : World} {X : Nat → Prop} (hB : (Region.ready .any ops listed == []) = true) (h : KQ ⟨P, n, B, X, false⟩ ims L G (Q .normal)) : KT ⟨P, n, B, X, true⟩ ops Q 0 listed ims L G :=
  fun a w hf hs => ⟨by simpa using hB, h a w hf hs⟩
theorem fit_swap {n d1 d2 : Nat} {v1 v2 : Value} {G : Env} {a : Act} (hd : Nat.beq d1 d2 = false) (h : Fit n ((d1, v1) :: (d2, v2) :: G) a) : Fit n ((d2, v2) :: (d1, v1) :: G) a :=
  ⟨h.defers, h.size, fun s v hs => h.get s v (by
    simp only [look] at hs ⊢
    cases e1 : Nat.beq s d1 with
    | true =>
      have := Nat.eq_of_beq_eq_true e1
      subst this
      simpa [hd] using hs
    | false => simpa [e1] using hs)⟩
/-- A call and a list that is written out, in either order. -/
theorem kt_callLit (k1 k2 : Nat) {d1 d2 ty1 ty2 : Nat} {pos1 pos2 : String} {af1 af2 : Array Edge} {f : Operand} {xs : List Operand} {ats : Array Nat} {g : Nat} {cap : Array Value} {vs : List Value} {ims' : List Hp} {phi : Hp → Value → Prop}
    {T E by' n : Nat} {z : Value} {ps : List (Nat × Operand)} {pv : List (Nat × Value)} {us : List Value} (hl : C.lo = true)
    (ho1 : ops[k1]? = some ⟨some d1, .call ⟨.value f, xs.toArray, ats⟩, ty1, pos1, af1, none⟩) (ho2 : ops[k2]? = some ⟨some d2, .buildSlice T n ps.toArray, ty2, pos2, af2, none⟩)
    (hB : ((Region.ready .any ops listed == [k1, k2] || Region.ready .any ops listed == [k2, k1]) && Region.ready .any ops (listed.setIfInBounds k1 true) == [k2] && Region.ready .any ops (listed.setIfInBounds k2 true) == [k1] && !(Nat.beq d1 d2) && !(Nat.beq k1 k2) && Nat.blt d1 C.n && Nat.blt d2 C.n) = true)
    [hb : FnC C.P g] (hf : ∀ u, ev ((d2, u) :: G) f = some (.func (.func g) #[] cap)) (hf0 : ev G f = some (.func (.func g) #[] cap)) (ha : ∀ u, evs ((d2, u) :: G) xs = some vs) (ha0 : evs G xs = some vs) (hs : Spec C.P g (vs ++ cap.toList) ims' phi) [hi : AllGot ims' ims L]
    [hT : IsSlice C.P T E 1 by' z] (hp : ∀ v, evp ((d1, v) :: G) ps = some pv) (hp0 : evp G ps = some pv) (he : pv = enumV 0 us) (hn : Nat.beq us.length n = true) (hm : n ≤ 1000) (hu : ∀ u ∈ us, u.cells = #[u])
    (h : ∀ v H, Fr C.B H → phi H v → ∀ u K, Fr C.B K → Rd K 1 u n us → Sl K 1 (fun cs u => cs = [u]) u us → KT C ops Q fuel ((listed.setIfInBounds k1 true).setIfInBounds k2 true) (K :: ims) (H :: L) ((d2, u) :: (d1, v) :: G)) :
    KT C ops Q (fuel + 2) listed ims L G := by
  simp only [Bool.and_eq_true, Bool.or_eq_true, Bool.not_eq_true'] at hB
  obtain ⟨⟨⟨⟨⟨⟨b1, b2⟩, b3⟩, b4⟩, b5⟩, b6⟩, b7⟩ := hB
  have wayA : KL C true ops (QQ C ops Q (fuel + 1) (listed.setIfInBounds k1 true) ims) ims L [false] [⟨some d1, .call ⟨.value f, xs.toArray, ats⟩, ty1, pos1, af1, none⟩] G :=
    kl_callL hf0 ha0 hs (fun v H fr hp1 => kl_nil (kq_kt (kt_a k2 hl ho2 b2 (kl_bs (hp v) he hn hm hu (fun u K fr2 rd sl => kl_nil (kq_kt (i := ⟨fun _ ha => .tail _ ha⟩) (h v H fr hp1 u K fr2 rd sl))) b7 rfl)))) b6 rfl
  have wayB : KL C true ops (QQ C ops Q (fuel + 1) (listed.setIfInBounds k2 true) ims) ims L [false] [⟨some d2, .buildSlice T n ps.toArray, ty2, pos2, af2, none⟩] G :=
    kl_bs hp0 he hn hm hu (fun u K fr2 rd sl => kl_nil (kq_kt (i := ⟨fun _ ha => .tail _ ha⟩) (kt_a k1 hl ho1 b3 (kl_callL (hf u) (ha u) hs (hi := ⟨fun s => hi.g (s.weak (i := ⟨fun _ ha => .tail _ ha⟩) (List.Sublist.refl _))⟩)
      (fun v H fr hp1 => kl_nil (kq_kt (fun a w hF hS => by
        have := h v H fr hp1 u K fr2 rd sl a w (fit_swap (by simpa using b4) hF) hS
        rw [Array.setIfInBounds_comm _ _ (by intro e; subst e; simp at b5)] at this
        exact this))) b6 rfl)))) b7 rfl
  rcases b1 with b1 | b1
  · exact kt_b k1 k2 hl ho1 ho2 b1 wayA wayB
  · exact kt_b k2 k1 hl ho2 ho1 b1 wayB wayA
end laws
/-- A test that is written out. -/
theorem kc_condF {C : Cx} {Q : Post} {ims L : List Hp} {G : Env} {x y : Code} (h : KC C Q ims L y G) : KC C Q ims L (.cond (.const (.bool false)) x y) G := fun a w hf hs => by
  have he : a.eval (.const (.bool false)) = .bool false := rfl
  exact wp_cond he (h a w hf hs)
theorem kl_addN {C : Cx} {dr : Bool} {ops : Array Oper} {Q : Post} {ims L : List Hp} {G : Env} {fl : List Bool} {rest : List Oper} {d ty : Nat} {pos : String} {af : Array Edge} {x y : Operand} {T T2 m k : Nat}
    (hx : ev G x = some (.int .i64 (m : Int))) (hy : ev G y = some (.int .i64 (k : Int))) (hb : m + k ≤ 9223372036854775807) (h : KL C dr ops Q ims L fl.tail rest ((d, .int .i64 ((m + k : Nat) : Int)) :: G)) (hlt : Nat.blt d C.n = true := by rfl) :
    KL C dr ops Q ims L fl (⟨some d, .binOp .add T x y T2, ty, pos, af, none⟩ :: rest) G :=
  kl_add hx hy (by omega) (by rw [← Int.natCast_add]; exact h) hlt
end Go.Proofs.Ytmdjiggnbdgipaa
