/- Region: what hangs together: plain laws. -/
import Derived.Test.YthmcknchkecciaaGE
namespace Go.Proofs.Ythmcknchkecciaa
open Go Go.RowKit

/-! ### Two ways to say which operators hang together -/
/-- An edge lets the greater first one be the lesser one. -/
def hangF (r : Nat → Nat) (a b : Nat) : Nat → Nat := fun x => if r x = max (r a) (r b) then min (r a) (r b) else r x
def hangs (r : Nat → Nat) : List (Nat × Nat) → (Nat → Nat)
  | [] => r
  | e :: l => hangs (hangF r e.1 e.2) l
theorem hangs_snoc (r : Nat → Nat) (l : List (Nat × Nat)) (e : Nat × Nat) : hangs r (l ++ [e]) = hangF (hangs r l) e.1 e.2 := by
  induction l generalizing r with
  | nil => rfl
  | cons x l ih => rw [List.cons_append, hangs, hangs, ih]
/-- Connected by edges. -/
inductive Conn (E : List (Nat × Nat)) : Nat → Nat → Prop
  | edge {a b : Nat} : (a, b) ∈ E → Conn E a b
  | refl (a : Nat) : Conn E a a
  | symm {a b : Nat} : Conn E a b → Conn E b a
  | trans {a b c : Nat} : Conn E a b → Conn E b c → Conn E a c
theorem Conn.mono {E E' : List (Nat × Nat)} (h : ∀ e ∈ E, e ∈ E') {a b : Nat} (hc : Conn E a b) : Conn E' a b := by
  induction hc with
  | edge h1 => exact .edge (h _ h1)
  | refl a => exact .refl a
  | symm _ ih => exact .symm ih
  | trans _ _ i1 i2 => exact .trans i1 i2
/-- What the first ones tell. -/
structure Firsts (E : List (Nat × Nat)) (r : Nat → Nat) : Prop where
  conn : ∀ x, Conn E (r x) x
  same : ∀ x y, Conn E x y → r x = r y
  idem : ∀ x, r (r x) = r x
  le : ∀ x, r x ≤ x
theorem Firsts.start : Firsts [] id := ⟨fun x => .refl x, fun x y h => by
  induction h with
  | edge h => cases h
  | refl a => rfl
  | symm _ ih => exact ih.symm
  | trans _ _ i1 i2 => exact i1.trans i2, fun _ => rfl, fun x => Nat.le_refl x⟩
theorem Firsts.hang {E : List (Nat × Nat)} {r : Nat → Nat} (h : Firsts E r) (a b : Nat) : Firsts (E ++ [(a, b)]) (hangF r a b) := by
  have hE : ∀ e ∈ E, e ∈ E ++ [(a, b)] := fun e he => List.mem_append_left _ he
  have hab : Conn (E ++ [(a, b)]) (r a) (r b) := .trans ((h.conn a).mono hE) (.trans (.edge (by simp)) (.symm ((h.conn b).mono hE)))
  have hmm : Conn (E ++ [(a, b)]) (min (r a) (r b)) (max (r a) (r b)) := by
    rcases Nat.le_total (r a) (r b) with h1 | h1
    · rw [Nat.min_eq_left h1, Nat.max_eq_right h1]; exact hab
    · rw [Nat.min_eq_right h1, Nat.max_eq_left h1]; exact hab.symm
  have hra : hangF r a b a = hangF r a b b := by
    unfold hangF
    rcases Nat.le_total (r a) (r b) with h1 | h1
    · rw [Nat.min_eq_left h1, Nat.max_eq_right h1, if_pos rfl]
      split <;> first | rfl | (rename_i h2; omega)
    · rw [Nat.min_eq_right h1, Nat.max_eq_left h1, if_pos rfl]
      split <;> first | rfl | (rename_i h2; omega)
  refine ⟨fun x => ?_, fun x y hxy => ?_, fun x => ?_, fun x => ?_⟩
  · unfold hangF
    split
    · rename_i h1
      exact .trans hmm (by rw [← h1]; exact (h.conn x).mono hE)
    · exact (h.conn x).mono hE
  · induction hxy with
    | edge he =>
      rename_i p q
      rcases List.mem_append.1 he with he | he
      · have := h.same p q (.edge he)
        unfold hangF
        rw [this]
      · have := List.mem_singleton.1 he
        cases this
        exact hra
    | refl a => rfl
    | symm _ ih => exact ih.symm
    | trans _ _ i1 i2 => exact i1.trans i2
  · unfold hangF
    have i1 := h.idem a
    have i2 := h.idem b
    have i3 := h.idem x
    have hmin : r (min (r a) (r b)) = min (r a) (r b) := by
      rcases Nat.le_total (r a) (r b) with h1 | h1
      · rw [Nat.min_eq_left h1]; exact i1
      · rw [Nat.min_eq_right h1]; exact i2
    by_cases h1 : r x = max (r a) (r b)
    · rw [if_pos h1, hmin]
      split
      · rfl
      · rfl
    · rw [if_neg h1, i3, if_neg h1]
  · unfold hangF
    have := h.le x
    split
    · rename_i h1; omega
    · exact this
theorem Firsts.all (E : List (Nat × Nat)) : Firsts E (hangs id E) := by
  have : ∀ (l E0 : List (Nat × Nat)) (r : Nat → Nat), Firsts E0 r → Firsts (E0 ++ l) (hangs r l) := by
    intro l
    induction l with
    | nil => intro E0 r h; rw [List.append_nil]; exact h
    | cons e l ih =>
      intro E0 r h
      have := ih (E0 ++ [e]) (hangF r e.1 e.2) (h.hang e.1 e.2)
      rw [List.append_assoc] at this
      exact this
  exact this E [] id Firsts.start
theorem Firsts.iff {E : List (Nat × Nat)} {r : Nat → Nat} (h : Firsts E r) (x y : Nat) : r x = r y ↔ Conn E x y :=
  ⟨fun e => .trans (.symm (h.conn x)) (by rw [e]; exact h.conn y), h.same x y⟩

/-! ### The document's way: rounds that add -/
def addE (S : List Int) (e : Nat × Nat) : List Int := if (e.1 : Int) ∈ S ∨ (e.2 : Int) ∈ S then insL (insL S e.1) e.2 else S
def roundE (E : List (Nat × Nat)) (S : List Int) : List Int := E.foldl addE S
def rounds (E : List (Nat × Nat)) : Nat → List Int → List Int
  | 0, S => S
  | n + 1, S => rounds E n (roundE E S)
theorem addE_sub {S : List Int} {e : Nat × Nat} {x : Int} (h : x ∈ S) : x ∈ addE S e := by
  unfold addE
  split
  · rw [insL_mem, insL_mem]; exact .inr (.inr h)
  · exact h
theorem addE_strict {S : List Int} (h : strict S) (e : Nat × Nat) : strict (addE S e) := by
  unfold addE
  split
  · exact insL_strict (insL_strict h _) _
  · exact h
theorem addE_mem {S : List Int} {e : Nat × Nat} {x : Int} (h : x ∈ addE S e) : x ∈ S ∨ (((e.1 : Int) ∈ S ∨ (e.2 : Int) ∈ S) ∧ (x = e.1 ∨ x = e.2)) := by
  unfold addE at h
  split at h
  · rename_i h1
    rw [insL_mem, insL_mem] at h
    rcases h with h | h | h
    · exact .inr ⟨h1, .inr h⟩
    · exact .inr ⟨h1, .inl h⟩
    · exact .inl h
  · exact .inl h
theorem roundE_sub : ∀ (E : List (Nat × Nat)) {S : List Int} {x : Int}, x ∈ S → x ∈ roundE E S
  | [], S, x, h => h
  | e :: E, S, x, h => roundE_sub E (addE_sub h)
theorem roundE_strict : ∀ (E : List (Nat × Nat)) {S : List Int}, strict S → strict (roundE E S)
  | [], S, h => h
  | e :: E, S, h => roundE_strict E (addE_strict h e)
theorem roundE_both : ∀ (E : List (Nat × Nat)) {S : List Int} {e : Nat × Nat}, e ∈ E → ((e.1 : Int) ∈ S ∨ (e.2 : Int) ∈ S) → (e.1 : Int) ∈ roundE E S ∧ (e.2 : Int) ∈ roundE E S
  | [], S, e, he, _ => by cases he
  | d :: E, S, e, he, h => by
    rcases List.mem_cons.1 he with rfl | he
    · have h1 : (e.1 : Int) ∈ addE S e ∧ (e.2 : Int) ∈ addE S e := by
        unfold addE
        rw [if_pos h]
        exact ⟨by rw [insL_mem, insL_mem]; exact .inr (.inl rfl), by rw [insL_mem]; exact .inl rfl⟩
      exact ⟨roundE_sub E h1.1, roundE_sub E h1.2⟩
    · exact roundE_both E he (h.imp addE_sub addE_sub)
theorem roundE_mem {P : Int → Prop} : ∀ (E : List (Nat × Nat)) {S : List Int}, (∀ x ∈ S, P x) → (∀ e ∈ E, P e.1 ∨ P e.2 → P e.1 ∧ P e.2) → ∀ x ∈ roundE E S, P x
  | [], S, h, _ => h
  | e :: E, S, h, hE => roundE_mem E (fun x hx => by
      rcases addE_mem hx with hx | ⟨h1, h2⟩
      · exact h x hx
      · have := hE e (by simp) (h1.imp (h _) (h _))
        rcases h2 with rfl | rfl
        · exact this.1
        · exact this.2) (fun d hd => hE d (by simp [hd]))
theorem rounds_mem {P : Int → Prop} {E : List (Nat × Nat)} (hE : ∀ e ∈ E, P e.1 ∨ P e.2 → P e.1 ∧ P e.2) : ∀ (n : Nat) {S : List Int}, (∀ x ∈ S, P x) → ∀ x ∈ rounds E n S, P x
  | 0, S, h => h
  | n + 1, S, h => rounds_mem hE n (roundE_mem E h hE)
theorem rounds_strict (E : List (Nat × Nat)) : ∀ (n : Nat) {S : List Int}, strict S → strict (rounds E n S)
  | 0, S, h => h
  | n + 1, S, h => rounds_strict E n (roundE_strict E h)
theorem rounds_sub (E : List (Nat × Nat)) : ∀ (n : Nat) {S : List Int} {x : Int}, x ∈ S → x ∈ rounds E n S
  | 0, S, x, h => h
  | n + 1, S, x, h => rounds_sub E n (roundE_sub E h)
def closedE (E : List (Nat × Nat)) (S : List Int) : Prop := ∀ e ∈ E, ((e.1 : Int) ∈ S ∨ (e.2 : Int) ∈ S) → (e.1 : Int) ∈ S ∧ (e.2 : Int) ∈ S
theorem strict_sub_len {A B : List Int} (hA : strict A) (hB : strict B) (h : ∀ x ∈ A, x ∈ B) : A.length ≤ B.length ∧ (B.length ≤ A.length → ∀ x ∈ B, x ∈ A) := by
  have e : A = B.filter fun x => decide (x ∈ A) := strict_ext hA (List.Pairwise.filter _ hB) fun x => by
    rw [List.mem_filter]
    exact ⟨fun hx => ⟨h x hx, decide_eq_true hx⟩, fun hx => of_decide_eq_true hx.2⟩
  have hl : A.length = (B.filter fun x => decide (x ∈ A)).length := congrArg List.length e
  have hle := List.length_filter_le (fun x => decide (x ∈ A)) B
  refine ⟨by omega, fun hBA x hx => ?_⟩
  have hq : (B.filter fun x => decide (x ∈ A)).length = B.length := by omega
  exact of_decide_eq_true (List.length_filter_eq_length_iff.1 hq x hx)
theorem closed_round {E : List (Nat × Nat)} {S : List Int} (hs : strict S) (h : closedE E S) : roundE E S = S :=
  strict_ext (roundE_strict E hs) hs fun x => ⟨fun hx => roundE_mem (P := fun x => x ∈ S) E (fun x hx => hx) h x hx, roundE_sub E⟩
theorem closed_rounds {E : List (Nat × Nat)} : ∀ (n : Nat) {S : List Int}, strict S → closedE E S → rounds E n S = S
  | 0, _, _, _ => rfl
  | n + 1, S, hs, h => by rw [rounds, closed_round hs h]; exact closed_rounds n hs h
def natsTo (N : Nat) : List Int := (List.range N).map fun x : Nat => (x : Int)
theorem natsTo_strict (N : Nat) : strict (natsTo N) := by
  unfold natsTo strict
  rw [List.pairwise_map]
  exact List.pairwise_lt_range.imp fun h => by omega
theorem natsTo_mem {N : Nat} {x : Int} : x ∈ natsTo N ↔ 0 ≤ x ∧ x < N := by
  unfold natsTo
  rw [List.mem_map]
  constructor
  · rintro ⟨y, hy, rfl⟩
    have := List.mem_range.1 hy
    omega
  · intro h
    exact ⟨x.toNat, List.mem_range.2 (by omega), by omega⟩
theorem rounds_closed {E : List (Nat × Nat)} {N : Nat} (hE : ∀ e ∈ E, e.1 < N ∧ e.2 < N) : ∀ (n : Nat) {S : List Int}, strict S → (∀ x ∈ S, 0 ≤ x ∧ x < (N : Int)) → N < S.length + n → closedE E (rounds E n S)
  | 0, S, hs, hb, hn => by
    have := (strict_sub_len hs (natsTo_strict N) fun x hx => natsTo_mem.2 (hb x hx)).1
    unfold natsTo at this
    rw [List.length_map, List.length_range] at this
    omega
  | n + 1, S, hs, hb, hn => by
    have hb' : ∀ x ∈ roundE E S, 0 ≤ x ∧ x < (N : Int) := roundE_mem E hb fun e he _ => by
      have := hE e he
      omega
    have hl := strict_sub_len hs (roundE_strict E hs) fun x hx => roundE_sub E hx
    by_cases h1 : (roundE E S).length ≤ S.length
    · have hcl : closedE E S := fun e he hx => by
        have := roundE_both E he hx
        exact ⟨hl.2 h1 _ this.1, hl.2 h1 _ this.2⟩
      rw [closed_rounds (n + 1) hs hcl]
      exact hcl
    · exact rounds_closed hE n (roundE_strict E hs) hb' (by omega)
theorem closed_conn {E : List (Nat × Nat)} {S : List Int} (h : closedE E S) {a b : Nat} (hc : Conn E a b) : (a : Int) ∈ S ↔ (b : Int) ∈ S := by
  induction hc with
  | edge he => exact ⟨fun hx => (h _ he (.inl hx)).2, fun hx => (h _ he (.inr hx)).1⟩
  | refl a => exact Iff.rfl
  | symm _ ih => exact ih.symm
  | trans _ _ i1 i2 => exact i1.trans i2
theorem rounds_conn {E : List (Nat × Nat)} {N op : Nat} (hE : ∀ e ∈ E, e.1 < N ∧ e.2 < N) (ho : op < N) (x : Int) : x ∈ rounds E N [(op : Int)] ↔ 0 ≤ x ∧ Conn E op x.toNat := by
  have hs : strict [(op : Int)] := List.pairwise_singleton _ _
  constructor
  · intro hx
    refine rounds_mem (P := fun x => 0 ≤ x ∧ Conn E op x.toNat) (fun e he h => ?_) N (fun y hy => ?_) x hx
    · have hc : Conn E e.1 e.2 := .edge he
      simp only [Int.toNat_natCast] at h ⊢
      rcases h with h | h
      · exact ⟨⟨by omega, h.2⟩, by omega, .trans h.2 hc⟩
      · exact ⟨⟨by omega, .trans h.2 (.symm hc)⟩, by omega, h.2⟩
    · rw [List.mem_singleton.1 hy]
      exact ⟨by omega, by rw [Int.toNat_natCast]; exact .refl _⟩
  · rintro ⟨h0, hc⟩
    have hcl := rounds_closed hE N hs (fun y hy => by rw [List.mem_singleton.1 hy]; omega) (by simp)
    have := (closed_conn hcl hc).1 (rounds_sub E N (List.mem_singleton.2 rfl))
    rwa [show ((x.toNat : Nat) : Int) = x by omega] at this

/-! ### Of graphs -/
def insE (i : Nat) (l : List Int) : List (Nat × Nat) := l.map fun k => (i, k.toNat)
/-- The edges of the operators ahead of i, and of i's first k inputs. -/
def edgeN (g : List Opr) (i k : Nat) : List (Nat × Nat) := ((List.range i).map fun j => insE j (insAt g j)).flatten ++ insE i ((insAt g i).take k)
 where insAt (g : List Opr) (j : Nat) : List Int := match g[j]? with
  | some o => o.ins
  | none => []
def edgesL (g : List Opr) : List (Nat × Nat) := edgeN g g.length 0
theorem edgeN_k {g : List Opr} {i k : Nat} {o : Opr} {x : Int} (h : g[i]? = some o) (hx : o.ins[k]? = some x) : edgeN g i (k + 1) = edgeN g i k ++ [(i, x.toNat)] := by
  obtain ⟨hk, he⟩ := List.getElem?_eq_some_iff.1 hx
  unfold edgeN edgeN.insAt
  rw [h]
  dsimp only
  rw [List.take_succ_eq_append_getElem hk, he, insE, insE, List.map_append, List.append_assoc]
  rfl
theorem edgeN_i {g : List Opr} {i : Nat} {o : Opr} (h : g[i]? = some o) : edgeN g (i + 1) 0 = edgeN g i o.ins.length := by
  unfold edgeN
  rw [List.range_succ, List.map_append, List.flatten_append]
  have : edgeN.insAt g i = o.ins := by unfold edgeN.insAt; rw [h]
  rw [this, List.take_length, List.take_zero]
  simp [this, insE]
theorem edge_mem {g : List Opr} (hg : goodTo g g.length) {i k : Nat} (hi : i ≤ g.length) {e : Nat × Nat} (he : e ∈ edgeN g i k) : e.1 < g.length ∧ e.2 < e.1 := by
  have key : ∀ j x, x ∈ edgeN.insAt g j → j < g.length ∧ x.toNat < j := fun j x hx => by
    unfold edgeN.insAt at hx
    cases ho : g[j]? with
    | none => rw [ho] at hx; cases hx
    | some o =>
      rw [ho] at hx
      have hj := (List.getElem?_eq_some_iff.1 ho).1
      have := alone_ins (hg j o hj ho) x hx
      exact ⟨hj, by omega⟩
  unfold edgeN at he
  rcases List.mem_append.1 he with he | he
  · obtain ⟨l, hl, he⟩ := List.mem_flatten.1 he
    obtain ⟨j, _, rfl⟩ := List.mem_map.1 hl
    obtain ⟨x, hx, rfl⟩ := List.mem_map.1 he
    exact key j x hx
  · obtain ⟨x, hx, rfl⟩ := List.mem_map.1 he
    exact key i x (List.mem_of_mem_take hx)
/-- The first one of an operator's region. -/
def regN (g : List Opr) (i k x : Nat) : Nat := hangs id (edgeN g i k) x
def regOf (g : List Opr) (x : Nat) : Nat := hangs id (edgesL g) x
theorem regOf_le (g : List Opr) (x : Nat) : regOf g x ≤ x := (Firsts.all (edgesL g)).le x
theorem regOf_idem (g : List Opr) (x : Nat) : regOf g (regOf g x) = regOf g x := (Firsts.all (edgesL g)).idem x
/-- An operator's region. -/
def ofL (g : List Opr) (op : Nat) : List Int := (natsTo g.length).filter fun x => decide (regOf g x.toNat = regOf g op)
theorem ofL_strict (g : List Opr) (op : Nat) : strict (ofL g op) := List.Pairwise.filter _ (natsTo_strict _)
theorem ofL_mem {g : List Opr} {op : Nat} {x : Int} : x ∈ ofL g op ↔ (0 ≤ x ∧ x < g.length) ∧ regOf g x.toNat = regOf g op := by
  unfold ofL
  rw [List.mem_filter, natsTo_mem, decide_eq_true_eq]
theorem rounds_of {g : List Opr} (hg : goodTo g g.length) {op : Nat} (ho : op < g.length) : rounds (edgesL g) g.length [(op : Int)] = ofL g op := by
  have hE : ∀ e ∈ edgesL g, e.1 < g.length ∧ e.2 < g.length := fun e he => by
    have := edge_mem hg (Nat.le_refl _) he
    omega
  have hF := Firsts.all (edgesL g)
  refine strict_ext (rounds_strict _ _ (List.pairwise_singleton _ _)) (ofL_strict g op) fun x => ?_
  rw [rounds_conn hE ho, ofL_mem]
  constructor
  · rintro ⟨h0, hc⟩
    have hm := (rounds_conn hE ho x).2 ⟨h0, hc⟩
    have hb := rounds_mem (P := fun x => 0 ≤ x ∧ x < (g.length : Int)) (fun e he _ => by have := hE e he; omega) g.length (fun y hy => by rw [List.mem_singleton.1 hy]; omega) x hm
    exact ⟨hb, (hF.same _ _ hc).symm⟩
  · rintro ⟨h, he⟩
    exact ⟨h.1, (hF.iff op x.toNat).1 he.symm⟩
end Go.Proofs.Ythmcknchkecciaa
