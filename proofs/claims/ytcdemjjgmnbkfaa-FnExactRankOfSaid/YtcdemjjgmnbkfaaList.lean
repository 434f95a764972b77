/- Lists that a call builds in memory of its own: one word for all kinds of elements, and the laws. Conditions: none. -/
import Derived.Test.YtcdemjjgmnbkfaaApp
namespace Go.Proofs.Ytcdemjjgmnbkfaa
open Go
set_option linter.unusedSimpArgs false
set_option linter.unusedVariables false

abbrev Rel (A : Type) := Hp → List Value → A → Prop
class RMono {A : Type} (R : Rel A) : Prop where
  mono : ∀ {H K : Hp} {vs : List Value} {x : A}, (∀ b o, H b = some o → K b = some o) → R H vs x → R K vs x
def IntV : Rel Int := fun _ vs n => vs = [.int .i64 n]
def BoolV : Rel Bool := fun _ vs b => vs = [.bool b]
def RowV : Rel (List Int) := fun K vs xs => ∃ u, vs = [u] ∧ Ints K u xs
def BRowV : Rel (List Bool) := fun K vs xs => ∃ u, vs = [u] ∧ Bools K u xs
instance : RMono IntV := ⟨fun _ h => h⟩
instance : RMono BoolV := ⟨fun _ h => h⟩
instance : RMono RowV := ⟨fun hk ⟨u, e, h⟩ => ⟨u, e, h.mono hk (fun _ _ h => h)⟩⟩
instance : RMono BRowV := ⟨fun hk ⟨u, e, h⟩ => ⟨u, e, h.mono hk (fun _ _ h => h)⟩⟩
theorem Rows.mono' {H K : Hp} {v : Value} {xs : List (List Int)} (h : Rows H v xs) (hk : ∀ b o, H b = some o → K b = some o) : Rows K v xs :=
  Sl.mono h hk (fun _ _ ⟨u, e, h⟩ => ⟨u, e, h.mono hk (fun _ _ h => h)⟩)
instance : RMono ConV := ⟨fun hk ⟨a, b, r, e, h1, h2, h3⟩ => ⟨a, b, r, e, h1.mono hk (fun _ _ h => h), h2.mono hk (fun _ _ h => h), h3.mono' hk⟩⟩
theorem Cons.mono' {H K : Hp} {v : Value} {xs : List Con} (h : Cons H v xs) (hk : ∀ b o, H b = some o → K b = some o) : Cons K v xs := Sl.mono h hk (fun _ _ h => RMono.mono hk h)
theorem orL {H K : Hp} : ∀ b o, H b = some o → orHp H K b = some o := fun b o h => by simp [orHp, h]
theorem orR {H K : Hp} {w : World} (hH : Fr w H) (hK : ∀ b o, K b = some o → b < w.heap.size) : ∀ b o, K b = some o → orHp H K b = some o := fun b o h => by
  have := hK b o h
  cases hh : H b with
  | none => simp [orHp, hh, h]
  | some x => exact absurd (hH.1 b (by rw [hh]; simp)) (Nat.not_le.2 this)

def OwnL {A : Type} (E k : Nat) (H K : Hp) (R : Rel A) (v : Value) (xs : List A) : Prop :=
  ∃ cs, OwnS E k H v xs.length cs ∧ ∀ i (h : i < xs.length), R K ((cs.drop (i * k)).take k) xs[i]
theorem OwnL.nil {A : Type} {E k : Nat} {K : Hp} {R : Rel A} : OwnL E k noHp K R (.slice none 0 0) [] := ⟨[], OwnS.nil, fun i h => absurd h (Nat.not_lt_zero i)⟩
theorem OwnL.len {A : Type} {E k : Nat} {H K : Hp} {R : Rel A} {v : Value} {xs : List A} (h : OwnL E k H K R v xs) : xs.length ≤ 140737488355328 := by
  obtain ⟨cs, h, _⟩ := h; exact h.len
theorem OwnL.cells {A : Type} {E k : Nat} {H K : Hp} {R : Rel A} {v : Value} {xs : List A} (h : OwnL E k H K R v xs) : v.cells = [v].toArray := by
  obtain ⟨cs, h, _⟩ := h; exact h.cells
theorem OwnL.oneCell {A : Type} {E k : Nat} {H K : Hp} {R : Rel A} {v : Value} {xs : List A} (h : OwnL E k H K R v xs) : v.oneCell' = true := by
  obtain ⟨cs, h, _⟩ := h; exact h.oneCell
theorem OwnL.mono {A : Type} {E k : Nat} {H K K' : Hp} {R : Rel A} [RMono R] {v : Value} {xs : List A} (h : OwnL E k H K R v xs) (hk : ∀ b o, K b = some o → K' b = some o) : OwnL E k H K' R v xs := by
  obtain ⟨cs, h1, h2⟩ := h
  exact ⟨cs, h1, fun i hi => RMono.mono hk (h2 i hi)⟩
/-- What it reads as, in any heaplet that holds both. -/
theorem OwnL.sl {A : Type} {E k : Nat} {H K M : Hp} {R : Rel A} [RMono R] {R' : List Value → A → Prop} {v : Value} {xs : List A} (h : OwnL E k H K R v xs) (h1 : ∀ b o, H b = some o → M b = some o)
    (h2 : ∀ vs x, R K vs x → R' vs x) : Sl M k R' v xs := by
  obtain ⟨cs, h3, h4⟩ := h
  exact h3.sl rfl h1 (fun i hi => h2 _ _ (h4 i hi))
theorem OwnL.ints {E : Nat} {H K : Hp} {v : Value} {xs : List Int} (h : OwnL E 1 H K IntV v xs) : Ints H v xs := h.sl (fun _ _ h => h) (fun _ _ h => h)
theorem OwnL.bools {E : Nat} {H K : Hp} {v : Value} {xs : List Bool} (h : OwnL E 1 H K BoolV v xs) : Bools H v xs := h.sl (fun _ _ h => h) (fun _ _ h => h)

section ops
variable {C : Cx} {dr : Bool} {ops : Array Oper} {Q : Post} {ims L : List Hp} {G : Env} {fl : List Bool} {rest : List Oper}
  {d ty : Nat} {pos : String} {af : Array Edge} {A : Type} {R : Rel A}

theorem madeCells_drop (z : Array Value) (k n i : Nat) (hz : z.size = k) (hi : i < n) : ((madeCells z (n * k)).toList.drop (i * k)).take k = z.toList := by
  have hik : (i + 1) * k ≤ n * k := Nat.mul_le_mul_right _ hi
  rw [Nat.add_mul] at hik
  apply List.ext_getElem
  · simp [madeCells, hz]; omega
  · intro j h1 h2
    simp only [Array.length_toList, hz] at h2
    simp only [List.getElem_take, List.getElem_drop, madeCells, Array.getElem_toList, Array.getElem_map, Array.getElem_range, hz]
    have : (i * k + j) % k = j := by rw [Nat.mul_comm, Nat.mul_add_mod, Nat.mod_eq_of_lt h2]
    rw [this]
    simp [hz, h2]
/-- make([]T, n). -/
theorem kl_mkL (x0 : A) {x y : Operand} {T E k by' : Nat} {z : Value} [hT : IsSlice C.P T E k by' z] {n : Nat} (hx : ev G x = some (.int .i64 (n : Int))) (hy : ev G y = some (.int .i64 (n : Int))) (h2 : n ≤ 1073741824) (hb : by' ≤ 1024)
    (hz : R noHp z.cells.toList x0)
    (h : ∀ v H, Fr C.B H → OwnL E k H noHp R v (List.replicate n x0) → KL C dr ops Q ims (H :: L) fl.tail rest ((d, v) :: G)) (hlt : Nat.blt d C.n = true := by rfl) (hfl : fl.headD false = false := by rfl) :
    KL C dr ops Q ims L fl (⟨some d, .makeSlice T x y, ty, pos, af, none⟩ :: rest) G :=
  kl_make hx hy (by omega) (Int.le_refl _) (by omega) hb (fun v H f ho => h v H f (by
    simp only [Int.toNat_natCast] at ho
    refine ⟨_, by simpa using ho, fun i hi => ?_⟩
    simp only [List.length_replicate] at hi
    have hfull : List.take (n * k) (madeCells z.cells (n * k)).toList = (madeCells z.cells (n * k)).toList := by
      rw [List.take_of_length_le]; simp [size_madeCells]
    rw [hfull, madeCells_drop _ _ _ _ hT.z hi, List.getElem_replicate]
    exact hz)) hlt hfl
/-- make([]T, 0, c). -/
theorem kl_mkL0 {x y : Operand} {T E k by' : Nat} {z : Value} [hT : IsSlice C.P T E k by' z] {c : Int} (hx : ev G x = some (.int .i64 0)) (hy : ev G y = some (.int .i64 c)) (h1 : 0 ≤ c) (h2 : c ≤ 1073741824) (hb : by' ≤ 1024)
    (h : ∀ v H, Fr C.B H → OwnL E k H noHp R v [] → KL C dr ops Q ims (H :: L) fl.tail rest ((d, v) :: G)) (hlt : Nat.blt d C.n = true := by rfl) (hfl : fl.headD false = false := by rfl) :
    KL C dr ops Q ims L fl (⟨some d, .makeSlice T x y, ty, pos, af, none⟩ :: rest) G :=
  kl_mk0 hx hy h1 h2 hb (fun v H f ho => h v H f ⟨[], ho, fun i hi => absurd hi (Nat.not_lt_zero i)⟩) hlt hfl

/-- p is where element i of v lies. -/
def PtrL (k : Nat) (v p : Value) (i : Nat) : Prop := PtrO v p (i * k)
theorem kl_lenL {E k : Nat} {H K : Hp} {v : Value} {xs : List A} {x : Operand} {T E' k' by' : Nat} {z : Value} [hT : IsSlice C.P T E' k' by' z]
    (hx : ev G x = some v) (hv : OwnL E k H K R v xs) (h : xs.length ≤ 140737488355328 → KL C dr ops Q ims L fl.tail rest ((d, .int .i64 xs.length) :: G)) (hlt : Nat.blt d C.n = true := by rfl) :
    KL C dr ops Q ims L fl (⟨some d, .call ⟨.builtin .len, #[x], #[T]⟩, ty, pos, af, none⟩ :: rest) G := by
  obtain ⟨cs, h1, _⟩ := hv
  exact kl_lenO hx h1 h hlt
theorem kl_ixL {E k : Nat} {H K : Hp} {v : Value} {xs : List A} {x y : Operand} {i : Int} {T E' by' : Nat} {z : Value} [hT : IsSlice C.P T E' k by' z]
    (hx : ev G x = some v) (hy : ev G y = some (.int .i64 i)) (hv : OwnL E k H K R v xs) (h0 : 0 ≤ i) (h1 : i < xs.length)
    (h : ∀ p, PtrL k v p i.toNat → KL C dr ops Q ims L fl.tail rest ((d, p) :: G)) (hlt : Nat.blt d C.n = true := by rfl) :
    KL C dr ops Q ims L fl (⟨some d, .indexAddr T x y, ty, pos, af, none⟩ :: rest) G := by
  obtain ⟨cs, h2, _⟩ := hv
  exact kl_ixO hx hy h2 h0 h1 h hlt
theorem kl_ixLn {E k : Nat} {H K : Hp} {v : Value} {xs : List A} {x y : Operand} {i : Nat} {T E' by' : Nat} {z : Value} [hT : IsSlice C.P T E' k by' z]
    (hx : ev G x = some v) (hy : ev G y = some (.int .i64 (i : Int))) (hv : OwnL E k H K R v xs) (h1 : i < xs.length)
    (h : ∀ p, PtrL k v p i → KL C dr ops Q ims L fl.tail rest ((d, p) :: G)) (hlt : Nat.blt d C.n = true := by rfl) :
    KL C dr ops Q ims L fl (⟨some d, .indexAddr T x y, ty, pos, af, none⟩ :: rest) G := kl_ixL hx hy hv (by omega) (by omega) h hlt
theorem OwnL.at1 {E : Nat} {H K : Hp} {v : Value} {xs : List A} (h : OwnL E 1 H K R v xs) {i : Nat} (hi : i < xs.length) : ∃ cs u, OwnS E 1 H v xs.length cs ∧ cs[i]? = some u ∧ R K [u] xs[i] := by
  obtain ⟨cs, h1, h2⟩ := h
  have h3 := h2 i hi
  have hl : i < cs.length := by have := h1.1; omega
  refine ⟨cs, cs[i], h1, by simp [hl], ?_⟩
  simp only [Nat.mul_one] at h3
  rw [List.drop_eq_getElem_cons hl, List.take_succ_cons, List.take_zero] at h3
  exact h3
theorem kl_ldLI {E i : Nat} {H K : Hp} {v p : Value} {xs : List Int} {x : Operand} {T : Nat} [hT : OneC C.P T] (hx : ev G x = some p) (hp : PtrL 1 v p i) (hv : OwnL E 1 H K IntV v xs) [hi : In H L] (hc : i < xs.length)
    (h : KL C dr ops Q ims L fl.tail rest ((d, .int .i64 (xs.getD i 0)) :: G)) (hlt : Nat.blt d C.n = true := by rfl) (hlo : C.lo = false := by rfl) : KL C dr ops Q ims L fl (⟨some d, .load T x, ty, pos, af, none⟩ :: rest) G := by
  obtain ⟨cs, u, h1, h2, h3⟩ := hv.at1 hc
  unfold IntV at h3
  simp at h3
  subst h3
  refine kl_ldO hx hp h1 (by simpa using h2) ?_ hlt hlo
  have : xs.getD i 0 = xs[i] := by simp [List.getD_eq_getElem?_getD, hc]
  rw [← this]; exact h
theorem kl_ldLB {E i : Nat} {H K : Hp} {v p : Value} {xs : List Bool} {x : Operand} {T : Nat} [hT : OneC C.P T] (hx : ev G x = some p) (hp : PtrL 1 v p i) (hv : OwnL E 1 H K BoolV v xs) [hi : In H L] (hc : i < xs.length)
    (h : KL C dr ops Q ims L fl.tail rest ((d, .bool (xs.getD i false)) :: G)) (hlt : Nat.blt d C.n = true := by rfl) (hlo : C.lo = false := by rfl) : KL C dr ops Q ims L fl (⟨some d, .load T x, ty, pos, af, none⟩ :: rest) G := by
  obtain ⟨cs, u, h1, h2, h3⟩ := hv.at1 hc
  unfold BoolV at h3
  simp at h3
  subst h3
  refine kl_ldO hx hp h1 (by simpa using h2) ?_ hlt hlo
  have : xs.getD i false = xs[i] := by simp [List.getD_eq_getElem?_getD, hc]
  rw [← this]; exact h
theorem kl_ldLR {E i : Nat} {H K : Hp} {v p : Value} {xs : List (List Int)} {x : Operand} {T : Nat} [hT : OneC C.P T] (hx : ev G x = some p) (hp : PtrL 1 v p i) (hv : OwnL E 1 H K RowV v xs) [hi : In H L] (hc : i < xs.length)
    (h : ∀ u, Ints K u (xs.getD i []) → KL C dr ops Q ims L fl.tail rest ((d, u) :: G)) (hlt : Nat.blt d C.n = true := by rfl) (hlo : C.lo = false := by rfl) : KL C dr ops Q ims L fl (⟨some d, .load T x, ty, pos, af, none⟩ :: rest) G := by
  obtain ⟨cs, u, h1, h2, u', h3, h4⟩ := hv.at1 hc
  simp at h3
  subst h3
  refine kl_ldO hx hp h1 (by simpa using h2) (h u ?_) hlt hlo
  simpa [List.getD_eq_getElem?_getD, hc] using h4

/-- A store of one cell. -/
theorem kl_stL {x y : Operand} {T i E : Nat} {H K : Hp} {v p u : Value} {xs : List A} {F : Hp → List Hp} [hT : OneC C.P T] [hF : UpdF H L F] (x1 : A)
    (hx : ev G x = some p) (hy : ev G y = some u) (hp : PtrL 1 v p i) (hv : OwnL E 1 H K R v xs) (hi : i < xs.length) (hR : R K [u] x1) (h1 : u.oneCell' = true) (hu : u.cells = [u].toArray)
    (h : ∀ H', OwnL E 1 H' K R v (xs.set i x1) → (∀ B, Fr B H → Fr B H') → KL C dr ops Q ims (F H') fl.tail rest G) (hfl : fl.headD false = false := by rfl) (hdr : (!dr || rest.isEmpty) = true := by rfl) :
    KL C dr ops Q ims L fl (⟨none, .store T x y, ty, pos, af, none⟩ :: rest) G := by
  obtain ⟨cs, h2, h3⟩ := hv
  have hl : cs.length = xs.length := by have := h2.1; omega
  refine kl_stO hx hy hp h2 (by omega) h1 hu (fun H' ho hf => h H' ⟨_, by simpa using ho, fun j hj => ?_⟩ hf) hfl hdr
  simp only [List.length_set] at hj
  have h4 := h3 j hj
  have hjl : j < cs.length := by omega
  simp only [Nat.mul_one] at h4 ⊢
  rw [List.drop_eq_getElem_cons hjl] at h4
  rw [List.drop_eq_getElem_cons (by simpa using hjl)]
  simp only [List.take_succ_cons, List.take_zero, List.getElem_set] at h4 ⊢
  by_cases e : i = j
  · subst e; simpa using hR
  · simpa [e] using h4
/-- A store of an element of k cells. -/
theorem kl_stLk {x y : Operand} {T i E k : Nat} {H K : Hp} {v p u : Value} {us : List Value} {xs : List A} {F : Hp → List Hp} [hT : AggC C.P T k] [hF : UpdF H L F] (x1 : A)
    (hx : ev G x = some p) (hy : ev G y = some u) (hp : PtrL k v p i) (hv : OwnL E k H K R v xs) (hi : i < xs.length) (hR : R K us x1) (hk : Nat.beq us.length k = true) (h1 : ∀ x ∈ us, x.oneCell' = true) (hu : u.cells = us.toArray)
    (h : ∀ H', OwnL E k H' K R v (xs.set i x1) → (∀ B, Fr B H → Fr B H') → KL C dr ops Q ims (F H') fl.tail rest G) (hfl : fl.headD false = false := by rfl) (hdr : (!dr || rest.isEmpty) = true := by rfl) :
    KL C dr ops Q ims L fl (⟨none, .store T x y, ty, pos, af, none⟩ :: rest) G := by
  obtain ⟨cs, h2, h3⟩ := hv
  have hus := Nat.eq_of_beq_eq_true hk
  have hl : cs.length = xs.length * k := h2.1
  have hik : (i + 1) * k ≤ xs.length * k := Nat.mul_le_mul_right _ hi
  rw [Nat.add_mul] at hik
  refine kl_stE hx hy hp h2 (by omega) hk h1 hu (fun H' ho hf => h H' ⟨_, by rw [List.length_set]; exact ho, fun j hj => ?_⟩ hf) hfl hdr
  simp only [List.length_set] at hj
  have h4 := h3 j hj
  have hjk : (j + 1) * k ≤ xs.length * k := Nat.mul_le_mul_right _ hj
  rw [Nat.add_mul] at hjk
  by_cases e : i = j
  · subst e
    have : ((cs.take (i * k) ++ us ++ cs.drop (i * k + k)).drop (i * k)).take k = us := by
      rw [List.append_assoc, List.drop_left' (by simp; omega), List.take_left' hus]
    rw [this]; simpa using hR
  · have : ((cs.take (i * k) ++ us ++ cs.drop (i * k + k)).drop (j * k)).take k = (cs.drop (j * k)).take k := by
      have hne : i * k + k ≤ j * k ∨ j * k + k ≤ i * k := by
        rcases Nat.lt_or_gt_of_ne e with h | h
        · left; have := Nat.mul_le_mul_right k (show i + 1 ≤ j from h); rw [Nat.add_mul] at this; omega
        · right; have := Nat.mul_le_mul_right k (show j + 1 ≤ i from h); rw [Nat.add_mul] at this; omega
      apply List.ext_getElem?
      intro q
      simp only [List.getElem?_take, List.getElem?_drop, List.getElem?_append, List.length_append, List.length_take, hus]
      have e2 : min (i * k) cs.length = i * k := by omega
      simp only [e2]
      by_cases hq : q < k
      · rw [if_pos hq, if_pos hq]
        rcases hne with h | h
        · rw [if_neg (by omega)]; congr 1; omega
        · rw [if_pos (by omega), if_pos (by omega), if_pos (by omega)]
      · rw [if_neg hq, if_neg hq]
    rw [this]
    have h5 : (xs.set i x1)[j]'(by simpa using hj) = xs[j] := by simp [e]
    rw [h5]; exact h4
/-- An append of one element. -/
theorem kl_apL {x y : Operand} {T E k by' : Nat} {z : Value} [hT : IsSlice C.P T E k by' z] {H K M : Hp} {v u : Value} {us : List Value} {xs : List A} {F : Hp → List Hp} [hF : UpdF H L F] [hi : In M ims] (x1 : A)
    (hx : ev G x = some v) (hy : ev G y = some u) (hv : OwnL E k H K R v xs) (hu : Rd M k u 1 us) (hR : R K us x1) (h1 : ∀ x ∈ us, x.oneCell' = true) (hb : xs.length + 1 ≤ 1073741824) (hby : by' ≤ 1024)
    (h : ∀ v' H', OwnL E k H' K R v' (xs ++ [x1]) → (∀ B : World, Fr B H → B.heap.size ≤ C.B.heap.size → Fr B H') → KL C dr ops Q ims (F H') fl.tail rest ((d, v') :: G)) (hlt : Nat.blt d C.n = true := by rfl) (hfl : fl.headD false = false := by rfl) (hdr : (!dr || rest.isEmpty || C.lo) = true := by rfl) :
    KL C dr ops Q ims L fl (⟨some d, .call ⟨.builtin .append, #[x, y], #[T, T]⟩, ty, pos, af, none⟩ :: rest) G := by
  obtain ⟨cs, h2, h3⟩ := hv
  have hus : us.length = k := by obtain ⟨_, _, _, h, _⟩ := hu; omega
  refine kl_app hx hy h2 hu h1 hb hby (fun v' H' ho hf => h v' H' ⟨_, by simpa using ho, fun j hj => ?_⟩ hf) hlt hfl hdr
  have hl : cs.length = xs.length * k := h2.1
  simp only [List.length_append, List.length_cons, List.length_nil] at hj
  by_cases e : j < xs.length
  · have hjk : (j + 1) * k ≤ xs.length * k := Nat.mul_le_mul_right _ e
    rw [Nat.add_mul] at hjk
    rw [List.drop_append_of_le_length (by omega), List.take_append_of_le_length (by simp; omega), List.getElem_append_left e]
    exact h3 j e
  · have hj' : j = xs.length := by omega
    subst hj'
    rw [List.drop_left' hl, List.take_of_length_le (by omega)]
    simpa using hR
end ops
class ROne {A : Type} (R : Rel A) : Prop where
  one : ∀ {K : Hp} {vs : List Value} {x : A}, R K vs x → ∀ u ∈ vs, u.oneCell' = true
instance : ROne IntV := ⟨fun h u hu => by subst h; rw [List.mem_singleton.1 hu]; rfl⟩
instance : ROne BoolV := ⟨fun h u hu => by subst h; rw [List.mem_singleton.1 hu]; rfl⟩
instance : ROne RowV := ⟨fun ⟨_, e, h⟩ u hu => by subst e; rw [List.mem_singleton.1 hu]; exact h.oneCell⟩
instance : ROne ConV := ⟨fun ⟨_, _, _, e, h1, h2, h3⟩ u hu => by
  subst e
  simp only [List.mem_cons, List.not_mem_nil, or_false] at hu
  rcases hu with rfl | rfl | rfl | rfl | rfl
  · rfl
  · exact h1.oneCell
  · exact h2.oneCell
  · rfl
  · exact h3.oneCell⟩
section whole
variable {A : Type} {R : Rel A} {C : Cx} {dr : Bool} {ops : Array Oper} {Q : Post} {ims L : List Hp} {G : Env} {fl : List Bool} {rest : List Oper} {d ty : Nat} {pos : String} {af : Array Edge}
/-- An append of a whole slice. -/
theorem kl_apS {x y : Operand} {T E k by' : Nat} {z : Value} [hT : IsSlice C.P T E k by' z] [hO : ROne R] {H K M : Hp} {R' : List Value → A → Prop} {v u : Value} {xs ys : List A} {F : Hp → List Hp} [hF : UpdF H L F] [hi : In M ims]
    (hx : ev G x = some v) (hy : ev G y = some u) (hv : OwnL E k H K R v xs) (hu : Sl M k R' u ys) (hR : ∀ vs y, R' vs y → R K vs y) (hb : xs.length + ys.length ≤ 1073741824) (hby : by' ≤ 1024)
    (h : ∀ v' H', OwnL E k H' K R v' (xs ++ ys) → (∀ B : World, Fr B H → B.heap.size ≤ C.B.heap.size → Fr B H') → KL C dr ops Q ims (F H') fl.tail rest ((d, v') :: G)) (hlt : Nat.blt d C.n = true := by rfl) (hfl : fl.headD false = false := by rfl) (hdr : (!dr || rest.isEmpty || C.lo) = true := by rfl) :
    KL C dr ops Q ims L fl (⟨some d, .call ⟨.builtin .append, #[x, y], #[T, T]⟩, ty, pos, af, none⟩ :: rest) G := by
  obtain ⟨cs, h2, h3⟩ := hv
  obtain ⟨news, hrd, hel⟩ := hu.rd
  have hlen : news.length = ys.length * k := by obtain ⟨_, _, _, h, _⟩ := hrd; exact h
  have hl : cs.length = xs.length * k := h2.1
  have hone : ∀ w ∈ news, w.oneCell' = true := fun w hw => by
    obtain ⟨j, hj, rfl⟩ := List.getElem_of_mem hw
    have hk : 0 < k := hT.p
    have hi : j / k < ys.length := (Nat.div_lt_iff_lt_mul hk).2 (by omega)
    refine hO.one (hR _ _ (hel (j / k) hi)) _ ?_
    have e : j / k * k + j % k = j := by rw [Nat.mul_comm]; exact Nat.div_add_mod j k
    have hm := Nat.mod_lt j hk
    rw [List.mem_iff_getElem?]
    refine ⟨j % k, ?_⟩
    rw [List.getElem?_take, if_pos hm, List.getElem?_drop, e]
    exact List.getElem?_eq_getElem hj
  refine kl_app hx hy h2 hrd hone hb hby (fun v' H' ho hf => h v' H' ⟨_, by simpa using ho, fun j hj => ?_⟩ hf) hlt hfl hdr
  rw [List.length_append] at hj
  by_cases e : j < xs.length
  · have hjk : (j + 1) * k ≤ xs.length * k := Nat.mul_le_mul_right _ e
    rw [Nat.add_mul] at hjk
    rw [List.drop_append_of_le_length (by omega), List.take_append_of_le_length (by simp; omega), List.getElem_append_left e]
    exact h3 j e
  · have hjx : j * k = cs.length + (j - xs.length) * k := by rw [hl, ← Nat.add_mul]; congr 1; omega
    have e1 : (cs ++ news).drop (j * k) = news.drop ((j - xs.length) * k) := by
      rw [hjx, List.drop_append, List.drop_eq_nil_of_le (by omega), List.nil_append]
      congr 1; omega
    rw [e1, List.getElem_append_right (by omega)]
    exact hR _ _ (hel _ (by omega))
/-- x[:0:0]: what may grow into new memory. -/
theorem kl_cut0 {B : Type} {H K : Hp} {k E : Nat} {R0 : List Value → B → Prop} {v : Value} {xs : List B} {x y z0 : Operand} {T k' by' : Nat} {z : Value} [hT : IsSlice C.P T E k' by' z]
    (hx : ev G x = some v) (hy : ev G y = some (.int .i64 0)) (hz : ev G z0 = some (.int .i64 0)) (hv : Sl H k R0 v xs)
    (h : ∀ u, OwnL E k' noHp K R u [] → KL C dr ops Q ims L fl.tail rest ((d, u) :: G)) (hlt : Nat.blt d C.n = true := by rfl) :
    KL C dr ops Q ims L fl (⟨some d, .slice T x none (some y) (some z0), ty, pos, af, none⟩ :: rest) G := by
  obtain ⟨a, c, rfl, h1, h2, h3⟩ := hv
  refine kl_y (v := .slice a 0 0) (fun r w hr _ => ?_) (h _ ⟨[], ⟨by simp, by simp, .inl ⟨a, rfl, rfl, rfl⟩⟩, fun i hi => absurd hi (Nat.not_lt_zero i)⟩) hlt
  simp only [execOp, Sem.run_bind, hr _ _ hx, hr _ _ hy, hr _ _ hz, Option.map_some, Option.map_none]
  cases a with
  | none => simp [Instr.sliceAt, run_underlying hT.u, Instr.slice, Instr.sliceBounds, Instr.sliceBound, asIntOf, go_sem, sizeOf_run hT.size]
  | some a => simp [Instr.sliceAt, run_underlying hT.u, Instr.slice, Instr.sliceBounds, Instr.sliceBound, asIntOf, go_sem, sizeOf_run hT.size, Addr.add]
end whole
end Go.Proofs.Ytcdemjjgmnbkfaa
