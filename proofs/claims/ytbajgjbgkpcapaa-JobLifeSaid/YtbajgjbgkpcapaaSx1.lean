/-
  A symbolic executor for the model's code, as Lean functions that the elaborator and the kernel run ('whnf'): 1: values, states, and what it means that a state describes a frame and a world. Conditions: none; nothing here speaks of one program.
-/
import Derived.WalkKit
import Derived.WalkSpells
import Derived.WalkLawsBesides
import Derived.OrdersHeld
import Derived.Deep.MidRow
namespace Go.Proofs.Ytbajgjbgkpcapaa.Sx
open Go Go.RowKit

/-! ### Values -/
/-- What one cell may hold: a plain value; a pointer into local block k; the slice that is row k; a pointer to cell 'off' of row k. -/
inductive C where
  | v (x : Value)
  | loc (k off : Nat)
  | row (k : Nat)
  | rp (k off : Nat)
inductive V1 where
  | c (x : C)
  | agg (cs : List C)
inductive SV where
  | c (x : C)
  | agg (cs : List C)
  | tup (vs : List V1)
  | un
/-- A block of cells of the call's own; a slice of the call's own; a slice that is read alone. -/
inductive Blk where
  | cells (ty : Nat) (cs : List C)
  | row (ety esz n : Nat) (xs : List C)
  | ext (esz n : Nat) (xs : List C)
  | dead
structure Env where
  ad : Nat → Nat
  rv : Nat → Value
  ra : Nat → Addr

def C.den (e : Env) : C → Value
  | .v x => x
  | .loc k off => .pointer (some ⟨e.ad k, off, none⟩)
  | .row k => e.rv k
  | .rp k off => .pointer (some ((e.ra k).add off))
def V1.den (e : Env) : V1 → Value
  | .c x => x.den e
  | .agg cs => .agg (cs.map (C.den e)).toArray
def SV.den (e : Env) : SV → Value
  | .c x => x.den e
  | .agg cs => .agg (cs.map (C.den e)).toArray
  | .tup vs => .tuple (vs.map (V1.den e)).toArray
  | .un => undef
def V1.sv : V1 → SV
  | .c x => .c x
  | .agg cs => .agg cs
theorem V1.den_sv (e : Env) (x : V1) : x.sv.den e = x.den e := by cases x <;> rfl

/-! ### Which numbers of blocks a value names; and that it fills one cell -/
def C.lt (n : Nat) : C → Bool
  | .v x => x.oneCell'
  | .loc k _ => Nat.blt k n
  | .row k => Nat.blt k n
  | .rp k _ => Nat.blt k n
def ltAll (n : Nat) : List C → Bool
  | [] => true
  | c :: r => match c.lt n with | true => ltAll n r | false => false
def V1.lt (n : Nat) : V1 → Bool
  | .c x => x.lt n
  | .agg cs => ltAll n cs
def ltAll1 (n : Nat) : List V1 → Bool
  | [] => true
  | c :: r => match c.lt n with | true => ltAll1 n r | false => false
def SV.lt (n : Nat) : SV → Bool
  | .c x => x.lt n
  | .agg cs => ltAll n cs
  | .tup vs => ltAll1 n vs
  | .un => true
def Blk.lt (n : Nat) : Blk → Bool
  | .cells _ cs => ltAll n cs
  | .row _ _ _ xs => ltAll n xs
  | .ext _ _ xs => ltAll n xs
  | .dead => true

theorem blt_iff {a b : Nat} : Nat.blt a b = true ↔ a < b := by simp [Nat.blt, Nat.succ_le_iff]
theorem ltAll_mem {n : Nat} : ∀ {l : List C}, ltAll n l = true → ∀ c ∈ l, c.lt n = true
  | [], _, c, hc => by cases hc
  | x :: r, h, c, hc => by
    unfold ltAll at h
    cases hx : x.lt n with
    | false => rw [hx] at h; cases h
    | true =>
      rw [hx] at h
      rcases List.mem_cons.1 hc with rfl | hc
      · exact hx
      · exact ltAll_mem h c hc
theorem ltAll_of {n : Nat} : ∀ {l : List C}, (∀ c ∈ l, c.lt n = true) → ltAll n l = true
  | [], _ => rfl
  | x :: r, h => by
    unfold ltAll
    rw [h x (by simp)]
    exact ltAll_of fun c hc => h c (by simp [hc])
theorem ltAll_v {n : Nat} {xs : List Value} (h : ∀ x ∈ xs, x.oneCell' = true) : ltAll n (xs.map C.v) = true := ltAll_of fun c hc => by
  obtain ⟨x, hx, rfl⟩ := List.mem_map.1 hc
  exact h x hx
theorem ltAll1_mem {n : Nat} : ∀ {l : List V1}, ltAll1 n l = true → ∀ c ∈ l, c.lt n = true
  | [], _, c, hc => by cases hc
  | x :: r, h, c, hc => by
    unfold ltAll1 at h
    cases hx : x.lt n with
    | false => rw [hx] at h; cases h
    | true =>
      rw [hx] at h
      rcases List.mem_cons.1 hc with rfl | hc
      · exact hx
      · exact ltAll1_mem h c hc
theorem C.lt_mono {n m : Nat} (h : n ≤ m) {c : C} (hc : c.lt n = true) : c.lt m = true := by
  cases c <;> simp only [C.lt] at hc ⊢ <;> first | exact hc | exact blt_iff.2 (Nat.lt_of_lt_of_le (blt_iff.1 hc) h)
theorem ltAll_mono {n m : Nat} (h : n ≤ m) {l : List C} (hl : ltAll n l = true) : ltAll m l = true := ltAll_of fun c hc => C.lt_mono h (ltAll_mem hl c hc)
theorem V1.lt_mono {n m : Nat} (h : n ≤ m) {c : V1} (hc : c.lt n = true) : c.lt m = true := by
  cases c with
  | c x => exact C.lt_mono h hc
  | agg cs => exact ltAll_mono h hc
theorem ltAll1_of {n : Nat} : ∀ {l : List V1}, (∀ c ∈ l, c.lt n = true) → ltAll1 n l = true
  | [], _ => rfl
  | x :: r, h => by
    unfold ltAll1
    rw [h x (by simp)]
    exact ltAll1_of fun c hc => h c (by simp [hc])
theorem SV.lt_mono {n m : Nat} (h : n ≤ m) {c : SV} (hc : c.lt n = true) : c.lt m = true := by
  cases c with
  | c x => exact C.lt_mono h hc
  | agg cs => exact ltAll_mono h hc
  | tup vs => exact ltAll1_of fun c hv => V1.lt_mono h (ltAll1_mem hc c hv)
  | un => rfl
theorem Blk.lt_mono {n m : Nat} (h : n ≤ m) {b : Blk} (hb : b.lt n = true) : b.lt m = true := by
  cases b with
  | cells t cs => exact ltAll_mono h hb
  | row e z k xs => exact ltAll_mono h hb
  | ext z k xs => exact ltAll_mono h hb
  | dead => rfl

/-- Two surroundings that agree on the numbers below n. -/
def Env.same (n : Nat) (e e' : Env) : Prop := ∀ k, k < n → e'.ad k = e.ad k ∧ e'.rv k = e.rv k ∧ e'.ra k = e.ra k
theorem Env.same.refl (n : Nat) (e : Env) : Env.same n e e := fun _ _ => ⟨rfl, rfl, rfl⟩
theorem C.den_same {n : Nat} {e e' : Env} (h : Env.same n e e') {c : C} (hc : c.lt n = true) : c.den e' = c.den e := by
  cases c <;> simp only [C.lt] at hc <;> simp only [C.den]
  · rw [(h _ (blt_iff.1 hc)).1]
  · rw [(h _ (blt_iff.1 hc)).2.1]
  · rw [(h _ (blt_iff.1 hc)).2.2]
theorem map_den_same {n : Nat} {e e' : Env} (h : Env.same n e e') {l : List C} (hl : ltAll n l = true) : l.map (C.den e') = l.map (C.den e) :=
  List.map_congr_left fun c hc => C.den_same h (ltAll_mem hl c hc)
theorem V1.den_same {n : Nat} {e e' : Env} (h : Env.same n e e') {c : V1} (hc : c.lt n = true) : c.den e' = c.den e := by
  cases c with
  | c x => exact C.den_same h hc
  | agg cs => simp only [V1.den, map_den_same h hc]
theorem SV.den_same {n : Nat} {e e' : Env} (h : Env.same n e e') {c : SV} (hc : c.lt n = true) : c.den e' = c.den e := by
  cases c with
  | c x => exact C.den_same h hc
  | agg cs => simp only [SV.den, map_den_same h hc]
  | tup vs =>
    simp only [SV.den]
    rw [List.map_congr_left fun c hv => V1.den_same h (ltAll1_mem hc c hv)]
  | un => rfl

theorem C.one_of {X1 : Nat} {e : Env} (ho : ∀ k, (e.rv k).oneCell' = true) {c : C} (h : c.lt X1 = true) : (c.den e).oneCell' = true := by
  cases c with
  | v x => exact h
  | loc k off => rfl
  | row k => exact ho k
  | rp k off => rfl

/-! ### Lists of pairs -/
def get {α : Type} : List (Nat × α) → Nat → Option α
  | [], _ => none
  | (k, v) :: r, i => match Nat.beq k i with | true => some v | false => get r i
theorem get_same {α : Type} (k : Nat) (v : α) (r : List (Nat × α)) : get ((k, v) :: r) k = some v := by simp [get]
theorem get_other {α : Type} {k i : Nat} (h : k ≠ i) (v : α) (r : List (Nat × α)) : get ((k, v) :: r) i = get r i := by
  have : Nat.beq k i = false := by
    cases hb : Nat.beq k i with
    | false => rfl
    | true => exact absurd (Nat.eq_of_beq_eq_true hb) h
  simp [get, this]
theorem get_cons {α : Type} {k i : Nat} {v u : α} {r : List (Nat × α)} (h : get ((k, v) :: r) i = some u) : (k = i ∧ u = v) ∨ (k ≠ i ∧ get r i = some u) := by
  by_cases hk : k = i
  · subst hk
    rw [get_same] at h
    exact .inl ⟨rfl, by injection h with h; exact h.symm⟩
  · rw [get_other hk] at h
    exact .inr ⟨hk, h⟩

/-! ### The program's types, as a table -/
structure TI where
  d : TypeDesc
  size : Nat
  bytes : Nat
  zero : Value
abbrev Tab := List (Nat × TI)
def TabOk (P : Program) : Tab → Prop
  | [] => True
  | (t, i) :: r => (P.underlying t = some i.d ∧ (P.info? t).map (fun j => (j.zero, j.size, j.bytes)) = some (some i.zero, i.size, i.bytes)) ∧ TabOk P r
theorem TabOk.get {P : Program} : ∀ {T : Tab}, TabOk P T → ∀ {t : Nat} {i : TI}, get T t = some i → P.underlying t = some i.d ∧ ∃ j, P.info? t = some j ∧ j.zero = some i.zero ∧ j.size = i.size ∧ j.bytes = i.bytes
  | [], _, t, i, h => by cases h
  | (u, j) :: r, h, t, i, hg => by
    rcases get_cons hg with ⟨rfl, rfl⟩ | ⟨_, hg⟩
    · refine ⟨h.1.1, ?_⟩
      have h2 := h.1.2
      cases hp : P.info? u with
      | none => rw [hp] at h2; cases h2
      | some q =>
        rw [hp] at h2
        simp only [Option.map_some, Option.some.injEq, Prod.mk.injEq] at h2
        exact ⟨q, rfl, h2.1, h2.2.1, h2.2.2⟩
    · exact TabOk.get h.2 hg

/-! ### States -/
structure St where
  fr : List (Nat × SV)
  H : List (Nat × Blk)
  nx : Nat
  F : Nat → Prop
  E : World → Prop
structure Cx where
  P : Program
  T : Tab
  w0 : World
  nt : Nat

/-- A slice that is read: its cells lie within F. -/
def Reads (F : Nat → Prop) (w : World) (size : Nat) (v : Value) (n : Nat) (xs : List Value) : Prop :=
  xs.length = n * size ∧ ∃ A c, v = .slice A n c ∧ n ≤ c ∧ c ≤ maxLen ∧ (0 < n → ∃ a, A = some a ∧ F a.block ∧ ∀ j u, xs[j]? = some u → w.cell? (a.add j) = some u)
theorem addr_block (a : Addr) (n : Nat) : (a.add n).block = a.block := by unfold Addr.add; split <;> rfl
theorem addr_add (a : Addr) (i j : Nat) : (a.add i).add j = a.add (i + j) := by
  unfold Addr.add
  by_cases hi : i = 0 <;> by_cases hj : j = 0 <;> simp [hi, hj, Nat.add_assoc]
theorem Reads.keep {F F' : Nat → Prop} {w w' : World} {size n : Nat} {v : Value} {xs : List Value} (h : Reads F w size v n xs) (hF : ∀ b, F b → F' b) (hk : ∀ b, F b → w'.heap[b]? = w.heap[b]?) : Reads F' w' size v n xs := by
  obtain ⟨hl, A, c, hv, h1, h2, h3⟩ := h
  refine ⟨hl, A, c, hv, h1, h2, fun hn => ?_⟩
  obtain ⟨a, ha, hb, hc⟩ := h3 hn
  exact ⟨a, ha, hF _ hb, fun j u hu => (World.cell?_of_block (hk _ (by rw [addr_block]; exact hb))).trans (hc j u hu)⟩

def Blk.holds (F : Nat → Prop) (B : Nat) (e : Env) (k : Nat) (w : World) : Blk → Prop
  | .cells ty cs => w.heap[e.ad k]? = some (.cells (cs.map (C.den e)).toArray ty (0, 0))
  | .row ety esz n xs => w.ownsRow B ety esz (e.rv k) n (xs.map (C.den e)) ∧ ∀ p l c, e.rv k = .slice (some p) l c → e.ra k = p
  | .ext esz n xs => Reads F w esz (e.rv k) n (xs.map (C.den e)) ∧ ∀ p l c, e.rv k = .slice (some p) l c → e.ra k = p
  | .dead => True
def Blk.foot (e : Env) (k : Nat) : Blk → Nat → Prop
  | .cells _ _, x => x = e.ad k
  | .row _ _ _ _, x => (e.rv k).ownBlock = some x
  | .ext _ _ _, _ => False
  | .dead, _ => False

/-- State S describes frame a and world w. -/
structure Rep (X : Cx) (e : Env) (S : St) (a : Act) (w : World) : Prop where
  df : a.defers = []
  sz : a.tmps.size = X.nt
  fr : ∀ t v, get S.fr t = some v → a.tmps[t]? = some (v.den e)
  frlt : ∀ t v, get S.fr t = some v → v.lt S.nx = true
  hp : ∀ k b, get S.H k = some b → b.holds S.F X.w0.heap.size e k w
  hlt : ∀ k b, get S.H k = some b → k < S.nx ∧ b.lt S.nx = true
  sep : ∀ k k' b b' x, get S.H k = some b → get S.H k' = some b' → k ≠ k' → b.foot e k x → b'.foot e k' x → False
  ff : ∀ k b x, get S.H k = some b → b.foot e k x → ¬ S.F x
  bel : Below X.w0.heap.size X.w0 w
  fl : ∀ x, S.F x → x < w.heap.size
  f0 : ∀ x, x < X.w0.heap.size → S.F x
  ev : ∀ w', (∀ x, S.F x → w'.heap[x]? = w.heap[x]?) → S.E w'
  one : ∀ k, (e.rv k).oneCell' = true

/-- The part of it that operations need which yield a value and leave the world as it is. -/
structure RepV (X : Cx) (e : Env) (S : St) (a : Act) (w : World) : Prop where
  fr : ∀ t v, get S.fr t = some v → a.tmps[t]? = some (v.den e)
  frlt : ∀ t v, get S.fr t = some v → v.lt S.nx = true
  hp : ∀ k b, get S.H k = some b → ∃ F, b.holds F X.w0.heap.size e k w
  hlt : ∀ k b, get S.H k = some b → k < S.nx ∧ b.lt S.nx = true
  one : ∀ k, (e.rv k).oneCell' = true
theorem Rep.v {X : Cx} {e : Env} {S : St} {a : Act} {w : World} (h : Rep X e S a w) : RepV X e S a w := ⟨h.fr, h.frlt, fun k b hk => ⟨_, h.hp k b hk⟩, h.hlt, h.one⟩

theorem Blk.foot_lt {F : Nat → Prop} {B : Nat} {e : Env} {k x : Nat} {w : World} {b : Blk} (h : b.holds F B e k w) (hx : b.foot e k x) : x < w.heap.size := by
  cases b with
  | cells ty cs =>
    have hx : x = e.ad k := hx
    subst hx
    exact (Array.getElem?_eq_some_iff.1 h).1
  | row ety esz n xs => exact (h.1.lt _ hx).2
  | ext esz n xs => exact hx.elim
  | dead => exact hx.elim
theorem Rep.foot_lt {X : Cx} {e : Env} {S : St} {a : Act} {w : World} (h : Rep X e S a w) {k x : Nat} {b : Blk} (hk : get S.H k = some b) (hx : b.foot e k x) : x < w.heap.size := Blk.foot_lt (h.hp k b hk) hx
theorem Rep.foot_ge {X : Cx} {e : Env} {S : St} {a : Act} {w : World} (h : Rep X e S a w) {k x : Nat} {b : Blk} (hk : get S.H k = some b) (hx : b.foot e k x) : X.w0.heap.size ≤ x := by
  rcases Nat.lt_or_ge x X.w0.heap.size with hl | hg
  · exact absurd (h.f0 x hl) (h.ff k b x hk hx)
  · exact hg

/-- What holds of a block holds while that block, and what is read, is as it was. -/
theorem Blk.holds_keep {F F' : Nat → Prop} {B : Nat} {e e' : Env} {k n : Nat} {w w' : World} {b : Blk} (h : b.holds F B e k w) (hs : Env.same n e e') (hkn : k < n) (hlt : b.lt n = true)
    (hF : ∀ x, F x → F' x) (hf : ∀ x, b.foot e k x → w'.heap[x]? = w.heap[x]?) (hk : ∀ x, F x → w'.heap[x]? = w.heap[x]?) : b.holds F' B e' k w' := by
  cases b with
  | cells ty cs =>
    show w'.heap[e'.ad k]? = some (.cells (cs.map (C.den e')).toArray ty (0, 0))
    rw [(hs k hkn).1, map_den_same hs hlt, hf _ rfl]
    exact h
  | row ety esz n' xs =>
    refine ⟨?_, by rw [(hs k hkn).2.1, (hs k hkn).2.2]; exact h.2⟩
    rw [(hs k hkn).2.1, map_den_same hs hlt]
    obtain ⟨h1, h2⟩ := h.1
    refine ⟨h1, ?_⟩
    rcases h2 with hn | ⟨g, cap, cur, hv, hb, hg, r⟩
    · exact .inl hn
    · exact .inr ⟨g, cap, cur, hv, hb, (hf g (by show (e.rv k).ownBlock = some g; rw [hv]; rfl)).trans hg, r⟩
  | ext esz n' xs =>
    refine ⟨?_, by rw [(hs k hkn).2.1, (hs k hkn).2.2]; exact h.2⟩
    rw [(hs k hkn).2.1, map_den_same hs hlt]
    exact Reads.keep h.1 hF hk
  | dead => trivial
theorem Blk.foot_same {e e' : Env} {k n x : Nat} {b : Blk} (hs : Env.same n e e') (hkn : k < n) (h : b.foot e' k x) : b.foot e k x := by
  cases b with
  | cells ty cs => exact Eq.trans (b := e'.ad k) h (hs k hkn).1
  | row ety esz n' xs => show (e.rv k).ownBlock = some x; rw [← (hs k hkn).2.1]; exact h
  | ext esz n' xs => exact h
  | dead => exact h

section
variable {X : Cx} {e : Env} {S : St} {a : Act} {w : World}

/-- A draw changes nothing that a state tells. -/
theorem Rep.drawn (h : Rep X e S a w) (n : Nat) : Rep X e S a { w with drawn := n } :=
  { h with hp := fun k b hk => Blk.holds_keep (h.hp k b hk) (Env.same.refl S.nx e) (h.hlt k b hk).1 (h.hlt k b hk).2 (fun _ h => h) (fun _ _ => rfl) (fun _ _ => rfl), bel := ⟨h.bel.os, h.bel.tape, h.bel.output, h.bel.size, h.bel.block⟩, fl := h.fl, ev := fun w' hw => h.ev w' hw }

def St.put (S : St) (d : Option Nat) (v : SV) : St := match d with
  | some t => (match S with | ⟨fr, H, nx, F, E⟩ => ⟨(t, v) :: fr, H, nx, F, E⟩)
  | none => S
def St.setH (S : St) (k : Nat) (b : Blk) : St := match S with | ⟨fr, H, nx, F, E⟩ => ⟨fr, (k, b) :: H, nx, F, E⟩
def St.onlyH (S : St) (H' : List (Nat × Blk)) : St := match S with | ⟨fr, _, nx, F, E⟩ => ⟨fr, H', nx, F, E⟩
def dstOk (n : Nat) : Option Nat → Bool
  | some t => Nat.blt t n
  | none => true
theorem Rep.put (h : Rep X e S a w) {d : Option Nat} {v : SV} (hd : dstOk X.nt d = true) (hv : v.lt S.nx = true) : Rep X e (S.put d v) (a.put d (v.den e)) w := by
  cases d with
  | none => exact h
  | some t =>
    have ht : t < X.nt := blt_iff.1 hd
    refine { h with sz := by simpa [Act.put] using h.sz, fr := fun i u hi => ?_, frlt := fun i u hi => ?_ }
    · rcases get_cons hi with ⟨rfl, rfl⟩ | ⟨hne, hi⟩
      · have := h.sz
        simp [Act.put, this, ht]
      · have := h.fr i u hi
        simp [Act.put, hne, this]
    · rcases get_cons hi with ⟨rfl, rfl⟩ | ⟨_, hi⟩
      · exact hv
      · exact h.frlt i u hi

/-- Another world, and another block or row under a new number or in an old one's place: all that is not it is as it was. -/
theorem Rep.step {e' : Env} {w' : World} {k0 : Nat} {b0 : Blk} {nx' : Nat} {F' : Nat → Prop} {E' : World → Prop} (h : Rep X e S a w) (hs : Env.same S.nx e e') (hnx : S.nx ≤ nx') (hk0 : k0 < nx') (hb0 : b0.lt nx' = true)
    (hF : ∀ x, S.F x → F' x) (hF' : ∀ x, F' x → S.F x ∨ w.heap.size ≤ x) (hFl : ∀ x, F' x → x < w'.heap.size) (hE : ∀ w'', (∀ x, F' x → w''.heap[x]? = w'.heap[x]?) → E' w'')
    (hos : w'.os = w.os) (htape : w'.tape = w.tape) (hout : w'.output = w.output) (hsize : w.heap.size ≤ w'.heap.size)
    (hrestF : ∀ x, S.F x → w'.heap[x]? = w.heap[x]?) (hrestH : ∀ k b x, get S.H k = some b → k ≠ k0 → b.foot e k x → w'.heap[x]? = w.heap[x]?)
    (hone : ∀ k, (e'.rv k).oneCell' = true) (hnew : b0.holds F' X.w0.heap.size e' k0 w') (hfoot : ∀ x, b0.foot e' k0 x → ¬ F' x ∧ ∀ k b, get S.H k = some b → k ≠ k0 → ¬ b.foot e k x) :
    Rep X e' { S with H := (k0, b0) :: S.H, nx := nx', F := F', E := E' } a w' := by
  refine ⟨h.df, h.sz, fun t v ht => ?_, fun t v ht => SV.lt_mono hnx (h.frlt t v ht), fun k b hk => ?_, fun k b hk => ?_, fun k k' b b' x hk hk' hne hx hx' => ?_, fun k b x hk hx => ?_, ?_, hFl, fun x hx => hF x (h.f0 x hx), hE, hone⟩
  · rw [SV.den_same hs (h.frlt t v ht)]
    exact h.fr t v ht
  · rcases get_cons hk with ⟨rfl, rfl⟩ | ⟨hne, hk⟩
    · exact hnew
    · exact Blk.holds_keep (h.hp k b hk) hs (h.hlt k b hk).1 (h.hlt k b hk).2 hF (fun x hx => hrestH k b x hk (Ne.symm hne) hx) hrestF
  · rcases get_cons hk with ⟨rfl, rfl⟩ | ⟨_, hk⟩
    · exact ⟨hk0, hb0⟩
    · exact ⟨Nat.lt_of_lt_of_le (h.hlt k b hk).1 hnx, Blk.lt_mono hnx (h.hlt k b hk).2⟩
  · rcases get_cons hk with ⟨e1, e2⟩ | ⟨hn, hk2⟩ <;> rcases get_cons hk' with ⟨e3, e4⟩ | ⟨hn', hk2'⟩
    · exact hne (e1.symm.trans e3)
    · subst e1; subst e2
      exact (hfoot x hx).2 k' b' hk2' (Ne.symm hn') (Blk.foot_same hs (h.hlt k' b' hk2').1 hx')
    · subst e3; subst e4
      exact (hfoot x hx').2 k b hk2 (Ne.symm hn) (Blk.foot_same hs (h.hlt k b hk2).1 hx)
    · exact h.sep k k' b b' x hk2 hk2' hne (Blk.foot_same hs (h.hlt k b hk2).1 hx) (Blk.foot_same hs (h.hlt k' b' hk2').1 hx')
  · rcases get_cons hk with ⟨rfl, rfl⟩ | ⟨_, hk⟩
    · exact (hfoot x hx).1
    · intro hf
      have hx2 := Blk.foot_same hs (h.hlt k b hk).1 hx
      rcases hF' x hf with h1 | h1
      · exact h.ff k b x hk hx2 h1
      · have := h.foot_lt hk hx2; omega
  · refine ⟨hos.trans h.bel.os, htape.trans h.bel.tape, hout.trans h.bel.output, Nat.le_trans h.bel.size hsize, fun x hx => ?_⟩
    rw [hrestF x (h.f0 x hx)]
    exact h.bel.block x hx

/-- A new block. -/
theorem Rep.alloc (h : Rep X e S a w) (ty : Nat) (cs : List C) (hl : ltAll S.nx cs = true) :
    Rep X { e with ad := fun j => if j = S.nx then w.heap.size else e.ad j } { S with H := (S.nx, .cells ty cs) :: S.H, nx := S.nx + 1 } a (w.alloc (.cells (cs.map (C.den e)).toArray ty)) := by
  have hs : Env.same S.nx e { e with ad := fun j => if j = S.nx then w.heap.size else e.ad j } := fun k hk => ⟨by simp [Nat.ne_of_lt hk], rfl, rfl⟩
  refine h.step (F' := S.F) (E' := S.E) (k0 := S.nx) (b0 := .cells ty cs) hs (Nat.le_succ _) (Nat.lt_succ_self _) (ltAll_mono (Nat.le_succ _) hl) (fun _ h => h) (fun _ h => .inl h) (fun x hx => ?_) (fun w'' hw => ?_) rfl rfl rfl (by simp) (fun x hx => heap_alloc_old w _ (h.fl x hx)) (fun k b x hk _ hx => heap_alloc_old w _ (h.foot_lt hk hx)) h.one ?_ (fun x hx => ?_)
  · have := h.fl x hx; simp; omega
  · exact h.ev w'' fun x hx => (hw x hx).trans (heap_alloc_old w _ (h.fl x hx))
  · show (w.alloc _).heap[if S.nx = S.nx then w.heap.size else e.ad S.nx]? = _
    rw [map_den_same hs hl, if_pos rfl]
    exact heap_alloc_new w _
  · have hx : x = if S.nx = S.nx then w.heap.size else e.ad S.nx := hx
    rw [if_pos rfl] at hx
    subst hx
    exact ⟨fun hf => by have := h.fl _ hf; omega, fun k b hk _ hf => by have := h.foot_lt hk hf; omega⟩
end
end Go.Proofs.Ytbajgjbgkpcapaa.Sx
