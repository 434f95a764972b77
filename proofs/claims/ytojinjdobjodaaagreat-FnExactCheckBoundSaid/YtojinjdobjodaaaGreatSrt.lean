/- Sorting: what the walks of the library's sort ask. Conditions: none. -/
import Derived.Test.YtojinjdobjodaaaGreatTab
import Derived.Test.YtojinjdobjodaaaGreatTri
import Derived.Test.YtojinjdobjodaaaGreatPureA
import Derived.Test.YtojinjdobjodaaaGreatPureSo
namespace Go.Proofs.YtojinjdobjodaaaGreat
open Go
set_option linter.unusedSimpArgs false
set_option linter.unusedVariables false
def len8M : List UInt8 := [0, 1] ++ List.replicate 2 2 ++ List.replicate 4 3 ++ List.replicate 8 4 ++ List.replicate 16 5 ++ List.replicate 32 6 ++ List.replicate 64 7 ++ List.replicate 128 8
def len8B : ByteArray := ⟨len8M.toArray⟩
theorem len8_any {i : Nat} (h2 : i < 64) : ∃ b : UInt8, len8B[i]? = some b ∧ b.toNat ≤ 8 := by
  have key : ∀ i, i < 64 → ((len8M[i]?).map (fun b => decide (b.toNat ≤ 8))) = some true := by decide +kernel
  have h := key i h2
  cases e : len8M[i]? with
  | none => rw [e] at h; cases h
  | some b =>
    rw [e] at h
    refine ⟨b, ?_, by simpa using h⟩
    have hl : i < len8M.length := (List.getElem?_eq_some_iff.1 e).1
    have hs : i < len8B.size := by
      have e1 : len8B.size = len8M.length := by simp [len8B, ByteArray.size]
      omega
    rw [getElem?_pos len8B i hs]
    have e2 := (List.getElem?_eq_some_iff.1 e).2
    simp only [Option.some.injEq]
    rw [← e2]
    simp [len8B, ByteArray.getElem_eq_getElem_data]
section ops
variable {C : Cx} {dr : Bool} {ops : Array Oper} {Q : Post} {ims L : List Hp} {G : Env} {fl : List Bool} {rest : List Oper} {d ty : Nat} {pos : String} {af : Array Edge}
theorem kl_ixLen0 {x y : Operand} {T : Nat} {m : Int} [hT : IsStr C.P T] (hx : ev G x = some (.string len8B)) (hy : ev G y = some (.int .u8 (IntKind.wrap .u8 m))) (hm : 0 ≤ m ∧ m < 64)
    (h : ∀ z : Int, 0 ≤ z ∧ z ≤ 8 → KL C dr ops Q ims L fl.tail rest ((d, .int .u8 z) :: G)) (hlt : Nat.blt d C.n = true := by rfl) :
    KL C dr ops Q ims L fl (⟨some d, .index T x y, ty, pos, af, none⟩ :: rest) G := by
  have e : IntKind.wrap .u8 m = m := by
    have key : ∀ i, i < 64 → IntKind.wrap .u8 ((i : Nat) : Int) = ((i : Nat) : Int) := by decide +kernel
    obtain ⟨i, rfl⟩ := Int.eq_ofNat_of_zero_le (by omega : 0 ≤ m)
    exact key i (by omega)
  rw [e] at hy
  obtain ⟨b, hb, hv⟩ := len8_any (i := m.toNat) (by omega)
  have h0 : 0 ≤ m := hm.1
  refine kl_y (v := .int .u8 ((b.toNat : Nat) : Int)) (fun r w hr _ => ?_) (h _ (by omega)) hlt
  simp [execOp, hr _ _ hx, hr _ _ hy, Instr.index, run_underlying hT.u, asIntOf, go_sem, h0, hb]
end ops
/-! An operation that asks nothing of the world goes first, whatever the others write. -/
theorem anyG_firstP {P : Program} {md : Region.Mode} {ops : Array Oper} {Q : Exit → Act → World → Prop} {S : World → Prop} {fx : Nat → Bool} {i : Nat} {oi : Oper} {v : Value}
    (hi : ops[i]? = some oi) (hsel : ∀ (j : Nat) (o : Oper) cs b, ops[j]? = some o → o.op ≠ .select cs b)
    (hQ : ∀ c a w, Q (.panic c) (a.put oi.dst v) w → Q (.panic c) a w) (hfx : fx i = true) :
    ∀ (fuel : Nat) (listed : Array Bool) (a : Act) (w : World), Dc md ops listed →
      (∀ j oj, ops[j]? = some oj → j ≠ i → listed.getD j true = false → (∀ e ∈ oj.after, Region.binds md e = true → e.on ≠ i) → oi.apart ops oj = true) →
      i ∈ Region.ready md ops listed → YieldsIf P ops (fun _ => True) oi v a →
      anyG P md ops Q S fx fuel (listed.setIfInBounds i true) (a.put oi.dst v) w → anyG P md ops Q S fx (fuel + 1) listed a w := by
  intro fuel
  induction fuel with
  | zero =>
    intro listed a w _ _ hr hy H
    refine ⟨fun h => (by rw [h] at hr; cases hr), fun j hj => ?_⟩
    by_cases hji : j = i
    · subst hji; exact hy.wpOp hi trivial ⟨.inl hfx, H⟩
    · have := ready_mono hj hji
      rw [H.1] at this
      cases this
  | succ fuel ih =>
    intro listed a w hdc hfree hr hy H
    refine ⟨fun h => (by rw [h] at hr; cases hr), fun j hj => ?_⟩
    by_cases hji : j = i
    · subst hji; exact hy.wpOp hi trivial ⟨.inl hfx, H⟩
    · have h1 := H.2 j (ready_mono hj hji)
      obtain ⟨hjun, oj, hoj, hall⟩ := mem_ready.1 hj
      have hnot : ∀ e ∈ oj.after, Region.binds md e = true → e.on ≠ i := fun e he hb heq => by
        have h1 := hall e he hb
        have h0 := (mem_ready.1 hr).1
        rw [heq] at h1
        rcases Nat.lt_or_ge i listed.size with h' | h'
        · simp [h'] at h0 h1; rw [h0] at h1; cases h1
        · simp [Array.getElem?_eq_none h'] at h1
      have h2 := wpOp_putIf hoj (hfree j oj hoj hji hjun hnot) (fun cs b => hsel i oi cs b hi) (fun cs b => hsel j oj cs b hoj) hQ hy h1
      have hfree' : ∀ k ok, ops[k]? = some ok → k ≠ i → (listed.setIfInBounds j true).getD k true = false →
          (∀ e ∈ ok.after, Region.binds md e = true → e.on ≠ i) → oi.apart ops ok = true := fun k ok hk hki hun hno => by
        refine hfree k ok hk hki ?_ hno
        by_cases hjk : j = k
        · subst hjk; exact hjun
        · rw [getD_set_ne true hjk] at hun; exact hun
      refine wpOp_mono (fun a' w' h3 => ?_) h2
      refine ⟨h3.2.1, ih (listed.setIfInBounds j true) a' w' (hdc.set hj) hfree' (ready_mono hr (Ne.symm hji)) h3.1 ?_⟩
      rw [Array.setIfInBounds_comm _ _ hji]
      exact h3.2.2
theorem kt_p {C : Cx} {ops : Array Oper} {Q : Post} {ims L : List Hp} {G : Env} {fx : Nat → Bool} {LS : List Hp} {fuel : Nat} {listed : Array Bool} (k : Nat) {d ty : Nat} {op : Op} {pos : String} {af : Array Edge} {v : Value} (ho : ops[k]? = some ⟨some d, op, ty, pos, af, none⟩) (hfx : fx k = true)
    (hB : (Region.noSelect ops && (Region.ready .any ops listed).contains k && Region.free .any ops listed k) = true)
    (hy : ∀ (r : Operand → Value) (w : World), Ev G r → (execOp r ⟨some d, op, ty, pos, af, none⟩).run C.P w = .ok (.value v) w)
    (h : KT C ops (Only Q) fx LS fuel (listed.setIfInBounds k true) ims L ((d, v) :: G)) (hlt : Nat.blt d C.n = true := by rfl) : KT C ops (Only Q) fx LS (fuel + 1) listed ims L G := fun a w hf hs hdc => by
  simp only [Bool.and_eq_true] at hB
  obtain ⟨⟨hsel, hr⟩, hfree⟩ := hB
  have hr' : k ∈ Region.ready .any ops listed := by simpa using hr
  exact anyG_firstP ho (Region.noSelect_spec hsel) (fun c a w hq => hq.elim) hfx fuel listed a w hdc (Region.free_spec ho hfree) hr'
    (.inl ⟨by simp [Region.wanted], fun w' _ => hy a.eval w' hf.toEv⟩) (h _ w (hf.put (by simpa [Nat.blt_eq, Cx.m] using hlt)) hs (hdc.set hr'))
theorem py_mv {P : Program} {G : Env} {d ty : Nat} {pos : String} {af : Array Edge} {x : Operand} {v : Value} (hx : ev G x = some v) : ∀ (r : Operand → Value) (w : World), Ev G r → (execOp r ⟨some d, .move x, ty, pos, af, none⟩).run P w = .ok (.value v) w := fun a w hf => by simp [go_sem, hf _ _ hx]
theorem py_sub {P : Program} {G : Env} {d ty T T2 : Nat} {pos : String} {af : Array Edge} {x y : Operand} {m k : Int} (hx : ev G x = some (.int .i64 m)) (hy : ev G y = some (.int .i64 k)) (hb : -9223372036854775808 ≤ m - k ∧ m - k ≤ 9223372036854775807) :
    ∀ (r : Operand → Value) (w : World), Ev G r → (execOp r ⟨some d, .binOp .sub T x y T2, ty, pos, af, none⟩).run P w = .ok (.value (.int .i64 (m - k))) w := fun a w hf => by simp [go_sem, hf _ _ hx, hf _ _ hy, wrap_in hb]
section ops2
variable {C : Cx} {dr : Bool} {ops : Array Oper} {Q : Post} {ims L : List Hp} {G : Env} {fl : List Bool} {rest : List Oper} {d ty : Nat} {pos : String} {af : Array Edge}
end ops2
/-! Inside the sort. -/
variable {A : Type} {c : A → A → Int} {d : A} {xs ys : List A} {i j : Nat} {z : Int}
theorem so_pos (h : z = (j : Int) ∧ InsA c d xs ys i j) (hx : (decide ((0 : Int) < z) && decide (c (ys.getD z.toNat d) (ys.getD (z - 1).toNat d) < 0)) = true) : 0 < j := by
  simp only [Bool.and_eq_true, decide_eq_true_eq] at hx; omega
theorem so_step (hc : TotC c) (h : z = (j : Int) ∧ InsA c d xs ys i j) (hi : i < ys.length) (hx : (decide ((0 : Int) < z) && decide (c (ys.getD z.toNat d) (ys.getD (z - 1).toNat d) < 0)) = true) :
    z - 1 = ((j - 1 : Nat) : Int) ∧ InsA c d xs ((ys.set z.toNat (ys.getD (z - 1).toNat d)).set (z - 1).toNat (ys.getD z.toNat d)) i (j - 1) := by
  have hj := so_pos h hx
  obtain ⟨rfl, h⟩ := h
  simp only [Bool.and_eq_true, decide_eq_true_eq] at hx
  obtain ⟨k, rfl⟩ : ∃ k, j = k + 1 := ⟨j - 1, by omega⟩
  rw [show (((k + 1 : Nat) : Int) - 1).toNat = k from by omega, Int.toNat_natCast] at hx ⊢
  exact ⟨by omega, InsA.step hc h hj hi hx.2⟩
theorem so_exit (hc : TotC c) (h : z = (j : Int) ∧ InsA c d xs ys i j) (hx : (decide ((0 : Int) < z) && decide (c (ys.getD z.toNat d) (ys.getD (z - 1).toNat d) < 0)) = false) : SrtA c d xs ys (i + 1) := by
  obtain ⟨rfl, h⟩ := h
  by_cases hj : j = 0
  · subst hj; exact h.done0
  · obtain ⟨k, rfl⟩ : ∃ k, j = k + 1 := ⟨j - 1, by omega⟩
    rw [show (((k + 1 : Nat) : Int) - 1).toNat = k from by omega, Int.toNat_natCast, decide_eq_true (by omega : (0 : Int) < ((k + 1 : Nat) : Int)), Bool.true_and, decide_eq_false_iff_not] at hx
    exact h.done hc (Nat.succ_pos k) (by rw [Nat.add_sub_cancel]; exact hx)
/-! Literals. -/
theorem litLt_iff {a b : Lit} : litLt a b = true ↔ a.var < b.var ∨ (a.var = b.var ∧ (a.val < b.val ∨ (a.val = b.val ∧ (a.neg = false ∧ b.neg = true)))) := by
  unfold litLt
  by_cases h1 : a.var = b.var
  · rw [if_neg (by simpa using h1)]
    by_cases h2 : a.val = b.val
    · rw [if_neg (by simpa using h2)]; simp [h1, h2]
    · rw [if_pos h2]; simp [h1, h2]
  · rw [if_pos h1]; simp [h1]
theorem litC_iff {a b : Lit} : litCmp a b < 0 ↔ litLt a b = true := by
  have h := litCmp_lt a b
  cases e : litLt a b with
  | true => rw [e] at h; simp at h; simp; omega
  | false => rw [e] at h; simp at h; simp; omega
theorem litC_tot : TotC litCmp := by
  refine ⟨fun a b h => ?_, fun a b d h1 h2 => ?_⟩
  · rw [litC_iff, litLt_iff] at *
    rintro (g | ⟨g1, g | ⟨g2, g3, g4⟩⟩)
    · rcases h with h | ⟨h, _⟩ <;> omega
    · rcases h with h | ⟨h, h | ⟨h, _⟩⟩ <;> omega
    · rcases h with h | ⟨h, h | ⟨h, h3, h4⟩⟩
      · omega
      · omega
      · rw [g3] at h4; cases h4
  · rw [litC_iff, litLt_iff] at *
    rintro (g | ⟨g1, g | ⟨g2, g3, g4⟩⟩)
    · by_cases e : b.var < a.var
      · exact h1 (.inl e)
      · exact h2 (.inl (by omega))
    · by_cases e : b.var = a.var
      · by_cases e2 : b.val < a.val
        · exact h1 (.inr ⟨e, .inl e2⟩)
        · exact h2 (.inr ⟨by omega, .inl (by omega)⟩)
      · by_cases e3 : b.var < a.var
        · exact h1 (.inl e3)
        · exact h2 (.inl (by omega))
    · by_cases e : b.var = a.var
      · by_cases e2 : b.val = a.val
        · cases e5 : b.neg with
          | false => exact h1 (.inr ⟨e, .inr ⟨e2, e5, g4⟩⟩)
          | true => exact h2 (.inr ⟨by omega, .inr ⟨by omega, g3, e5⟩⟩)
        · by_cases e3 : b.val < a.val
          · exact h1 (.inr ⟨e, .inl e3⟩)
          · exact h2 (.inr ⟨by omega, .inl (by omega)⟩)
      · by_cases e3 : b.var < a.var
        · exact h1 (.inl e3)
        · exact h2 (.inl (by omega))
theorem SrtA.le {A : Type} {c : A → A → Int} {d : A} {xs ys : List A} {i n : Nat} (h : SrtA c d xs ys i) (hn : n ≤ i) : SrtA c d xs ys n := ⟨h.perm, fun p q h1 h2 => h.srt p q h1 (by omega)⟩
end Go.Proofs.YtojinjdobjodaaaGreat
