/-
  The symbolic executor, 6: calls; one operation, a region's operations, code; a function.
-/
import Derived.Test.YtbajgjbgkpcapaaSx5
import Derived.Deep.LoopGhost
namespace Go.Proofs.Ytbajgjbgkpcapaa.Sx
open Go Go.RowKit
section
variable {X : Cx} {e : Env} {S : St} {a : Act} {w : World}

/-! ### Calls -/
/-- A call leaves all that was there as it was. -/
theorem Rep.below (h : Rep X e S a w) {w' : World} (hb : Below w.heap.size w w') : Rep X e S a w' := by
  refine ⟨h.df, h.sz, h.fr, h.frlt, fun k b hk => Blk.holds_keep (h.hp k b hk) (Env.same.refl S.nx e) (h.hlt k b hk).1 (h.hlt k b hk).2 (fun _ h => h) (fun x hx => hb.block x (h.foot_lt hk hx)) (fun x hx => hb.block x (h.fl x hx)), h.hlt, h.sep, h.ff,
    h.bel.trans (hb.mono h.bel.size), fun x hx => Nat.lt_of_lt_of_le (h.fl x hx) hb.size, h.f0, fun w'' hw => h.ev w'' fun x hx => (hw x hx).trans (hb.block x (h.fl x hx)), h.one⟩
def evs (S : St) : List Operand → Option (List SV)
  | [] => some []
  | x :: r => match S.ev x with
    | some v => (match evs S r with
      | some l => some (v :: l)
      | none => none)
    | none => none
def denAll (e : Env) (l : List SV) : Array Value := (l.map (SV.den e)).toArray
theorem evs_den (h : RepV X e S a w) : ∀ {xs : List Operand} {l : List SV}, evs S xs = some l → xs.map a.eval = l.map (SV.den e)
  | [], l, hl => by cases hl; rfl
  | x :: r, l, hl => by
    simp only [evs] at hl
    split at hl
    · rename_i v hv
      split at hl
      · rename_i l' hl'
        cases hl
        simp only [List.map_cons, (h.ev_den hv).1, evs_den h hl']
      · cases hl
    · cases hl
/-- A call of function f. -/
structure callP (X : Cx) (S : St) (d : Option Nat) (f : Nat) (args : List SV) (K : St → Prop) : Prop where
  out :   (∀ as w, (callFunc f as).run X.P w = .ok (.enter f as) w) ∧
  ∀ e a w, Rep X e S a w → ∀ KK : Act → World → Prop, (∀ e' S' a' w', Env.same S.nx e e' → Rep X e' S' a' w' → K S' → KK a' w') → Calls X.P f (denAll e args) w fun E w' => ∃ v, E = .returned v ∧ KK (a.put d v) w'
def xCall (S : St) (d : Option Nat) (X : Cx) (fo : Operand) (args : List Operand) (K : St → Prop) : Prop := match S.ev fo with
  | some (.c (.v (.func (.func f) as bs))) => (match as.toList, bs.toList with
    | [], [] => (match evs S args with
      | some l => callP X S d f l K
      | none => False)
    | _, _ => False)
  | _ => False
theorem call_ok (h : Rep X e S a w) {o : Oper} {fo : Operand} {args : Array Operand} {ts : Array TypeId} {K : St → Prop} (ho : o.op = .call { callee := .value fo, args := args, argTypes := ts }) (hk : xCall S o.dst X fo args.toList K) : Wv X e S.nx a w o K := by
  intro KK Q hKK
  unfold xCall at hk
  split at hk
  · rename_i f as bs hf
    split at hk
    · rename_i has hbs
      split at hk
      · rename_i l hl
        replace hk := hk.out
        obtain ⟨hcall, hk⟩ := hk
        have hd := (h.ev_den hf).1
        simp only [SV.den, C.den] at hd
        have has : as = #[] := Array.ext' (by simpa using has)
        have hbs : bs = #[] := Array.ext' (by simpa using hbs)
        subst has; subst hbs
        have hargs : args.map a.eval = denAll e l := by
          apply Array.ext'
          simp only [Array.toList_map, denAll]
          exact evs_den h.v hl
        unfold Oper.wp
        rw [show (execOp a.eval o).run X.P w = .ok (.enter f (denAll e l)) w by simp [execOp, ho, resolve, hd, Deferred.ofValue, invoke, hargs, hcall]]
        exact (hk e a w h KK hKK).mono fun E w' ⟨v, hE, hv⟩ => by subst hE; exact hv
      · exact hk.elim
    · exact hk.elim
  · exact hk.elim

/-- The callee hands back a value that is known, and leaves all that was there as it was. -/
def Ret (v : Value) (w : World) (E : Ending) (w' : World) : Prop := E = .returned v ∧ Below w.heap.size w w'
theorem call_val {d : Option Nat} {f : Nat} {args : List SV} {K : St → Prop} (sv : SV) (hcall : ∀ as w, (callFunc f as).run X.P w = .ok (.enter f as) w) (hd : dstOk X.nt d = true) (hl : sv.lt S.nx = true)
    (hc : ∀ e a w, Rep X e S a w → Calls X.P f (denAll e args) w (Ret (sv.den e) w)) (hk : K (S.put d sv)) : callP X S d f args K := by
  refine ⟨?_⟩
  refine ⟨hcall, fun e a w h KK hKK => (hc e a w h).mono fun E w' ⟨hE, hb⟩ => ⟨_, hE, ?_⟩⟩
  exact hKK _ _ _ _ (Env.same.refl _ _) ((h.below hb).put hd hl) hk
/-- The callee hands back a value that is known up to what the caller can name. -/
def RetEx {α : Type} (p : α → Prop) (v : α → Value) (w : World) (E : Ending) (w' : World) : Prop := ∃ x, p x ∧ E = .returned (v x) ∧ Below w.heap.size w w'
theorem call_ex {α : Type} {d : Option Nat} {f : Nat} {args : List SV} {K : St → Prop} (p : α → Prop) (sv : α → SV) (hcall : ∀ as w, (callFunc f as).run X.P w = .ok (.enter f as) w) (hd : dstOk X.nt d = true) (hl : ∀ x, p x → (sv x).lt S.nx = true)
    (hc : ∀ e a w, Rep X e S a w → Calls X.P f (denAll e args) w (RetEx p (fun x => (sv x).den e) w)) (hk : ∀ x, p x → K (S.put d (sv x))) : callP X S d f args K := by
  refine ⟨?_⟩
  refine ⟨hcall, fun e a w h KK hKK => (hc e a w h).mono fun E w' ⟨x, hp, hE, hb⟩ => ⟨_, hE, ?_⟩⟩
  exact hKK _ _ _ _ (Env.same.refl _ _) ((h.below hb).put hd (hl x hp)) (hk x hp)
/-- The callee hands back a slice in memory of its own (within a value, perhaps): the caller owns it. -/
def RetRow {α : Type} (p : α → Prop) (ety esz : Nat) (n : α → Nat) (xs : α → List Value) (v : α → Value → Value) (w : World) (E : Ending) (w' : World) : Prop :=
  ∃ x r, p x ∧ E = .returned (v x r) ∧ Below w.heap.size w w' ∧ w'.ownsRow w.heap.size ety esz r (n x) (xs x) ∧ ∀ u ∈ xs x, u.oneCell' = true
theorem map_den_v (e : Env) (xs : List Value) : (xs.map C.v).map (C.den e) = xs := by
  rw [List.map_map]
  exact List.map_id _
theorem call_row {α : Type} {d : Option Nat} {f : Nat} {args : List SV} {K : St → Prop} (p : α → Prop) (ety esz : Nat) (n : α → Nat) (xs : α → List Value) (sv : α → SV) (hcall : ∀ as w, (callFunc f as).run X.P w = .ok (.enter f as) w) (hd : dstOk X.nt d = true)
    (hl : ∀ x, p x → (sv x).lt (S.nx + 1) = true) (hc : ∀ e a w, Rep X e S a w → Calls X.P f (denAll e args) w (RetRow p ety esz n xs (fun x r => (sv x).den (e.withRow S.nx r)) w))
    (hk : ∀ x, p x → K ((S.new (.row ety esz (n x) ((xs x).map C.v))).put d (sv x))) : callP X S d f args K := by
  refine ⟨?_⟩
  refine ⟨hcall, fun e a w h KK hKK => (hc e a w h).mono fun E w' ⟨x, r, hp, hE, hb, hown, hone⟩ => ⟨_, hE, ?_⟩⟩
  have hr1 : r.oneCell' = true := by rcases hown.2 with ⟨hn, _⟩ | ⟨g, cap, cur, hn, _⟩ <;> rw [hn] <;> rfl
  have hge : ∀ x, r.ownBlock = some x → w.heap.size ≤ x := fun x hx => (hown.lt x hx).1
  have hR := h.newRow (w' := w') (ety := ety) (esz := esz) (n := n x) (xs := (xs x).map C.v) (v := r) hr1 (ltAll_v hone) hb.os hb.tape hb.output hb.size (fun y hy _ => hb.block y hy) (by rw [map_den_v]; exact ownsRow_mono h.bel.size hown)
    (fun y hy => ⟨fun hf => by have := h.fl y hf; have := hge y hy; omega, fun k b hk hf => by have := h.foot_lt hk hf; have := hge y hy; omega⟩)
  exact hKK _ _ _ _ (Env.withRow_same _ _ _) (hR.put hd (hl x hp)) (hk x hp)
theorem call_slice {α : Type} {d : Option Nat} {f : Nat} {args : List SV} {K : St → Prop} (p : α → Prop) (ety esz : Nat) (n : α → Nat) (xs : α → List Value) (hcall : ∀ as w, (callFunc f as).run X.P w = .ok (.enter f as) w) (hd : dstOk X.nt d = true)
    (hc : ∀ e a w, Rep X e S a w → Calls X.P f (denAll e args) w (RetRow p ety esz n xs (fun _ r => r) w))
    (hk : ∀ x, p x → K ((S.new (.row ety esz (n x) ((xs x).map C.v))).put d (.c (.row S.nx)))) : callP X S d f args K :=
  call_row p ety esz n xs (fun _ => .c (.row S.nx)) hcall hd (fun _ _ => blt_iff.2 (Nat.lt_succ_self _)) (fun e a w h => by
    have : (fun (_ : α) (r : Value) => (SV.c (.row S.nx)).den (e.withRow S.nx r)) = fun _ r => r := by
      funext x r
      exact Env.withRow_rv e S.nx r
    rw [this]
    exact hc e a w h) hk
/-- The callee hands back a value of which something holds in memory that is new. -/
def RetMem {α : Type} (p : α → (Nat → Prop) → World → Prop) (v : α → Value) (w : World) (E : Ending) (w' : World) : Prop :=
  ∃ x, E = .returned (v x) ∧ Below w.heap.size w w' ∧ p x (fun b => w.heap.size ≤ b ∧ b < w'.heap.size) w'
theorem Rep.learn (h : Rep X e S a w) {G : Nat → Prop} {p : (Nat → Prop) → World → Prop} (hG : ∀ b, G b → b < w.heap.size ∧ ∀ k c, get S.H k = some c → ¬ c.foot e k b) (hp : p G w)
    (hkeep : ∀ (G G' : Nat → Prop) (w w' : World), p G w → (∀ b, G b → G' b) → (∀ b, G b → w'.heap[b]? = w.heap[b]?) → p G' w') :
    Rep X e { S with F := fun b => S.F b ∨ G b, E := fun w => S.E w ∧ p (fun b => S.F b ∨ G b) w } a w := by
  refine { h with hp := fun k b hk => Blk.holds_keep (h.hp k b hk) (Env.same.refl S.nx e) (h.hlt k b hk).1 (h.hlt k b hk).2 (fun _ h => .inl h) (fun _ _ => rfl) (fun _ _ => rfl), ff := fun k b x hk hx => ?_, fl := fun x hx => ?_, f0 := fun x hx => .inl (h.f0 x hx), ev := fun w' hw => ⟨h.ev w' fun x hx => hw x (.inl hx), ?_⟩ }
  · rintro (hf | hf)
    · exact h.ff k b x hk hx hf
    · exact (hG x hf).2 k b hk hx
  · rcases hx with hx | hx
    · exact h.fl x hx
    · exact (hG x hx).1
  · exact hkeep G _ w w' hp (fun b hb => .inr hb) (fun b hb => hw b (.inr hb))
def St.knows (S : St) (F' : Nat → Prop) (E' : World → Prop) : St := match S with | ⟨fr, H, nx, _, _⟩ => ⟨fr, H, nx, F', E'⟩
theorem call_mem {α : Type} {d : Option Nat} {f : Nat} {args : List SV} {K : St → Prop} (p : α → (Nat → Prop) → World → Prop) (sv : α → SV) (hcall : ∀ as w, (callFunc f as).run X.P w = .ok (.enter f as) w) (hd : dstOk X.nt d = true)
    (hl : ∀ x, (sv x).lt S.nx = true) (hkeep : ∀ (x : α) (G G' : Nat → Prop) (w w' : World), p x G w → (∀ b, G b → G' b) → (∀ b, G b → w'.heap[b]? = w.heap[b]?) → p x G' w')
    (hc : ∀ e a w, Rep X e S a w → Calls X.P f (denAll e args) w (RetMem p (fun x => (sv x).den e) w))
    (hk : ∀ (x : α) (G : Nat → Prop), K ((S.knows (fun b => S.F b ∨ G b) (fun w => S.E w ∧ p x (fun b => S.F b ∨ G b) w)).put d (sv x))) : callP X S d f args K := by
  refine ⟨?_⟩
  refine ⟨hcall, fun e a w h KK hKK => (hc e a w h).mono fun E w' ⟨x, hE, hb, hp⟩ => ⟨_, hE, ?_⟩⟩
  have hR := (h.below hb).learn (G := fun b => w.heap.size ≤ b ∧ b < w'.heap.size) (fun b hG => ⟨hG.2, fun k c hk hf => by have := h.foot_lt hk hf; omega⟩) hp (hkeep x)
  exact hKK _ _ _ _ (Env.same.refl _ _) (hR.put hd (hl x)) (hk x _)

/-! ### Slices of which a state knows nothing yet; slices of slices -/
/-- A value that is a slice: the prover says what it holds, or lets it be. -/
structure openP (X : Cx) (S : St) (x : Value) (K : St → SV → Prop) : Prop where
  out :   K S (.c (.v x)) ∨ ∃ esz n xs, (∀ e a w, Rep X e S a w → Reads S.F w esz x n xs) ∧ (∀ u ∈ xs, u.oneCell' = true) ∧ K (S.new (.ext esz n (xs.map C.v))) (.c (.row S.nx))
theorem open_skip {x : Value} {K : St → SV → Prop} (h : K S (.c (.v x))) : openP X S x K := by refine ⟨?_⟩; exact .inl h
theorem open_ext {x : Value} {K : St → SV → Prop} (esz n : Nat) (xs : List Value) (hr : ∀ e a w, Rep X e S a w → Reads S.F w esz x n xs) (h1 : ∀ u ∈ xs, u.oneCell' = true) (h : K (S.new (.ext esz n (xs.map C.v))) (.c (.row S.nx))) : openP X S x K := by
  refine ⟨?_⟩; exact .inr ⟨esz, n, xs, hr, h1, h⟩
theorem Reads.one {F : Nat → Prop} {w : World} {size n : Nat} {v : Value} {xs : List Value} (h : Reads F w size v n xs) : v.oneCell' = true := by
  obtain ⟨_, A, c, hv, _⟩ := h
  rw [hv]; rfl
theorem Rep.newExt (h : Rep X e S a w) {esz n : Nat} {xs : List C} {v : Value} (hlt : ltAll S.nx xs = true) (hr : Reads S.F w esz v n (xs.map (C.den e))) : Rep X (e.withRow S.nx v) (S.new (.ext esz n xs)) a w := by
  have hs := Env.withRow_same e S.nx v
  refine h.step (F' := S.F) (E' := S.E) (k0 := S.nx) (b0 := .ext esz n xs) hs (Nat.le_succ _) (Nat.lt_succ_self _) (ltAll_mono (Nat.le_succ _) hlt) (fun _ h => h) (fun _ h => .inl h) h.fl h.ev rfl rfl rfl (Nat.le_refl _) (fun _ _ => rfl) (fun _ _ _ _ _ _ => rfl) (fun k => ?_) ⟨?_, fun p l c hp => ?_⟩ (fun _ hx => hx.elim)
  · by_cases hk : k = S.nx
    · subst hk; rw [Env.withRow_rv]; exact hr.one
    · simp only [Env.withRow, if_neg hk]; exact h.one k
  · rw [Env.withRow_rv, map_den_same hs hlt]; exact hr
  · rw [Env.withRow_rv] at hp
    rw [Env.withRow_ra]; exact addrOf_slice p l c hp
theorem open_ok (h : Rep X e S a w) {d : Option Nat} (hd : dstOk X.nt d = true) {x : Value} (hx : x.oneCell' = true) {K : St → Prop} (hk : openP X S x fun S' v => K (S'.put d v)) : ∃ e' S', Env.same S.nx e e' ∧ Rep X e' S' (a.put d x) w ∧ K S' := by
  replace hk := hk.out
  rcases hk with hk | ⟨esz, n, xs, hr, h1, hk⟩
  · exact ⟨e, _, Env.same.refl _ _, h.put (v := .c (.v x)) hd hx, hk⟩
  · have hR := h.newExt (xs := xs.map C.v) (v := x) (ltAll_v h1) (by rw [map_den_v]; exact hr e a w h)
    have hp := hR.put (d := d) (v := .c (.row S.nx)) hd (blt_iff.2 (Nat.lt_succ_self _))
    simp only [SV.den, C.den, Env.withRow_rv] at hp
    exact ⟨_, _, Env.withRow_same _ _ _, hp, hk⟩
/-- Is a value's type a slice's? Then it is the prover's to open it. -/
def sliceTy (X : Cx) (t : Nat) : Bool := match get X.T t with
  | some ti => sliceTB ti.d
  | none => false
def putOpen (X : Cx) (S : St) (o : Oper) (K : St → Prop) (v : SV) : Prop := match sliceTy X o.type with
  | true => (match v with
    | .c (.v x) => openP X S x fun S' v => K (S'.put o.dst v)
    | v => K (S.put o.dst v))
  | false => K (S.put o.dst v)
theorem Yv.wvOpen (h : Rep X e S a w) {o : Oper} (hd : dstOk X.nt o.dst = true) {K : St → Prop} (hy : Yv X e S a o (putOpen X S o K)) : Wv X e S.nx a w o K := by
  intro KK Q hKK
  obtain ⟨v, hK, hyv⟩ := hy
  obtain ⟨hl, hrun⟩ := hyv w h.v
  unfold Oper.wp
  rw [hrun]
  have plain : K (S.put o.dst v) → KK (a.put o.dst (v.den e)) w := fun hK => hKK _ _ _ _ (Env.same.refl _ _) (h.put hd hl) hK
  unfold putOpen at hK
  split at hK
  · cases v with
    | c c =>
      cases c with
      | v x =>
        obtain ⟨e', S', hs, hR, hK⟩ := open_ok h hd hl hK
        exact hKK _ _ _ _ hs hR hK
      | loc k off => exact plain hK
      | row k => exact plain hK
      | rp k off => exact plain hK
    | agg cs => exact plain hK
    | tup vs => exact plain hK
    | un => exact plain hK
  · exact plain hK

structure sliP (lo hi : Int) (n : Nat) (K : Nat → Nat → Prop) : Prop where
  out : (0 ≤ lo ∧ lo ≤ hi ∧ hi ≤ n) ∧ K lo.toNat hi.toNat
theorem sli_in {lo hi : Int} {n : Nat} {K : Nat → Nat → Prop} (h : 0 ≤ lo ∧ lo ≤ hi ∧ hi ≤ n) (hk : K lo.toNat hi.toNat) : sliP lo hi n K := by refine ⟨?_⟩; exact ⟨h, hk⟩
theorem sli_nat {lo hi n : Nat} {K : Nat → Nat → Prop} (h : lo ≤ hi ∧ hi ≤ n) (hk : K lo hi) : sliP (lo : Int) (hi : Int) n K := by refine ⟨?_⟩; exact ⟨⟨by omega, by omega, by omega⟩, hk⟩
theorem sli_get {lo hi : Int} {n : Nat} {K : Nat → Nat → Prop} (h : sliP lo hi n K) : (0 ≤ lo ∧ lo ≤ hi ∧ hi ≤ n) ∧ K lo.toNat hi.toNat := by replace h := h.out; exact h
def optInt (S : St) (d : Int) : Option Operand → Option Int
  | none => some d
  | some x => match S.ev x with
    | some (.c (.v (.int _ n))) => some n
    | _ => none
def xSlice (X : Cx) (S : St) (d : Option Nat) (t : Nat) (x : Operand) (lo hi mx : Option Operand) (K : St → Prop) : Prop := match mx with
  | some _ => False
  | none => (match get X.T t with
    | some ti => (match ti.d with
      | .slice el => (match get X.T el with
        | some ei => (match S.ev x with
          | some (.c (.row k)) => (match get S.H k with
            | some (.ext esz n xs) => (match Nat.beq esz ei.size with
              | true => (match optInt S 0 lo with
                | some l => (match optInt S n hi with
                  | some h => sliP l h n fun l h => K ((S.new (.ext esz (h - l) ((xs.drop (l * esz)).take ((h - l) * esz)))).put d (.c (.row S.nx)))
                  | none => False)
                | none => False)
              | false => False)
            | _ => False)
          | _ => False)
        | none => False)
      | .string => (match S.ev x with
        | some (.c (.v (.string s))) => (match optInt S 0 lo with
          | some l => (match optInt S s.size hi with
            | some h => sliP l h s.size fun l h => K (S.put d (.c (.v (.string (s.extract l h)))))
            | none => False)
          | none => False)
        | _ => False)
      | _ => False)
    | none => False)
theorem optInt_ok (h : RepV X e S a w) {d n : Int} {x : Option Operand} (hx : optInt S d x = some n) : (x = none ∧ n = d) ∨ ∃ y k, x = some y ∧ a.eval y = .int k n := by
  cases x with
  | none => simp only [optInt, Option.some.injEq] at hx; exact .inl ⟨rfl, hx.symm⟩
  | some y =>
    simp only [optInt] at hx
    split at hx
    · rename_i k m hy
      simp only [Option.some.injEq] at hx
      subst hx
      exact .inr ⟨y, k, rfl, (h.ev_den hy).1⟩
    · cases hx
theorem run_sliceBounds {P : Program} (isSlice : Bool) {n c : Nat} {lo hi : Option Operand} {l h : Int} {ρ : Operand → Value} (hn : n ≤ c) (hlo : (lo = none ∧ l = 0) ∨ ∃ y k, lo = some y ∧ ρ y = .int k l) (hhi : (hi = none ∧ h = n) ∨ ∃ y k, hi = some y ∧ ρ y = .int k h)
    (hb : 0 ≤ l ∧ l ≤ h ∧ h ≤ n) (w : World) : (Instr.sliceBounds isSlice n c (lo.map ρ) (hi.map ρ) none).run P w = .ok (l.toNat, h.toNat, c) w := by
  have h2 : h ≤ (c : Int) := by omega
  have h3 : 0 ≤ h := by omega
  have h4 : l ≤ (h.toNat : Int) := by omega
  rcases hlo with ⟨rfl, rfl⟩ | ⟨y, k, rfl, hy⟩ <;> rcases hhi with ⟨rfl, rfl⟩ | ⟨z, k', rfl, hz⟩
  · simp [Instr.sliceBounds]
  · simp [Instr.sliceBounds, Instr.sliceBound, hz, asIntOf, h2, h3]
  · simp [Instr.sliceBounds, Instr.sliceBound, hy, asIntOf, hb.1, hb.2.1]
  · simp [Instr.sliceBounds, Instr.sliceBound, hy, hz, asIntOf, h2, h3, hb.1]
    intro hc
    exfalso
    omega
theorem slice_ok (hT : TabOk X.P X.T) (h : Rep X e S a w) {o : Oper} (hd : dstOk X.nt o.dst = true) {t : Nat} {x : Operand} {lo hi mx : Option Operand} {K : St → Prop} (ho : o.op = .slice t x lo hi mx) (hk : xSlice X S o.dst t x lo hi mx K) : Wv X e S.nx a w o K := by
  intro KK Q hKK
  unfold xSlice at hk
  split at hk
  · exact hk.elim
  · split at hk
    · rename_i ti hti
      have hu0 := (TabOk.get hT hti).1
      split at hk
      · rename_i el hdd
        have hu := hu0
        rw [hdd] at hu
        split at hk
        · rename_i ei hei
          obtain ⟨_, j, hj, _, hjs, _⟩ := TabOk.get hT hei
          split at hk
          · rename_i k hx
            split at hk
            · rename_i esz n xs hH
              split at hk
              · rename_i he
                have he := Nat.eq_of_beq_eq_true he
                split at hk
                · rename_i l hl
                  split at hk
                  · rename_i h' hh
                    obtain ⟨hbd, hk⟩ := sli_get hk
                    have hdx := (h.ev_den hx).1
                    simp only [SV.den, C.den] at hdx
                    obtain ⟨⟨hlen, A, c, hv, hnc, hcm, hcells⟩, hra⟩ := h.hp k _ hH
                    rw [hv] at hdx
                    have hb := run_sliceBounds (P := X.P) true hnc (optInt_ok h.v hl) (optInt_ok h.v hh) hbd w
                    have hrun : (execOp a.eval o).run X.P w = .ok (.value (.slice (if c = l.toNat then A else A.map (·.add (l.toNat * j.size))) (h'.toNat - l.toNat) (c - l.toNat))) w := by
                      simp [execOp, ho, Instr.sliceAt, Instr.slice, run_underlying hu, hdx, hb, run_sizeOf hj]
                    unfold Oper.wp
                    rw [hrun]
                    have hlt := (h.hlt k _ hH).2
                    have hR := h.newExt (esz := esz) (n := h'.toNat - l.toNat) (xs := (xs.drop (l.toNat * esz)).take ((h'.toNat - l.toNat) * esz)) (v := .slice (if c = l.toNat then A else A.map (·.add (l.toNat * j.size))) (h'.toNat - l.toNat) (c - l.toNat)) (ltAll_drop_take hlt) (by
                      rw [List.length_map] at hlen
                      refine ⟨?_, _, _, rfl, by omega, by omega, fun hpos => ?_⟩
                      · have h1 : (h'.toNat - l.toNat) * esz ≤ n * esz - l.toNat * esz := by rw [← Nat.sub_mul]; exact Nat.mul_le_mul_right _ (by omega)
                        simp only [List.length_map, List.length_take, List.length_drop, hlen]
                        omega
                      · obtain ⟨p, rfl, hF, hc⟩ := hcells (by omega)
                        have hne : ¬ c = l.toNat := by omega
                        refine ⟨p.add (l.toNat * j.size), by simp [hne], by rw [addr_block]; exact hF, fun i u hu' => ?_⟩
                        rw [addr_add, hjs, ← he]
                        refine hc _ u ?_
                        rw [List.map_take, List.map_drop] at hu'
                        exact take_drop_get rfl i u hu')
                    have hp := hR.put (d := o.dst) (v := .c (.row S.nx)) hd (blt_iff.2 (Nat.lt_succ_self _))
                    simp only [SV.den, C.den, Env.withRow_rv] at hp
                    exact hKK _ _ _ _ (Env.withRow_same _ _ _) hp hk
                  · exact hk.elim
                · exact hk.elim
              · exact hk.elim
            · exact hk.elim
          · exact hk.elim
        · exact hk.elim
      · rename_i hdd
        have hu := hu0
        rw [hdd] at hu
        split at hk
        · rename_i s hx
          split at hk
          · rename_i l hl
            split at hk
            · rename_i h' hh
              obtain ⟨hbd, hk⟩ := sli_get hk
              have hdx := (h.ev_den hx).1
              simp only [SV.den, C.den] at hdx
              have hb := run_sliceBounds (P := X.P) false (Nat.le_refl s.size) (optInt_ok h.v hl) (optInt_ok h.v hh) hbd w
              unfold Oper.wp
              rw [show (execOp a.eval o).run X.P w = .ok (.value (.string (s.extract l.toNat h'.toNat))) w by simp [execOp, ho, Instr.sliceAt, Instr.slice, run_underlying hu, hdx, hb]]
              exact hKK _ _ _ _ (Env.same.refl _ _) (h.put (v := .c (.v (.string (s.extract l.toNat h'.toNat)))) hd rfl) hk
            · exact hk.elim
          · exact hk.elim
        · exact hk.elim
      · exact hk.elim
    · exact hk.elim

/-! ### One operation -/
def xop (X : Cx) (o : Oper) (S : St) (K : St → Prop) : Prop := match dstOk X.nt o.dst with
  | false => False
  | true => (match o.op with
    | .move x => evK S x fun v => K (S.put o.dst v)
    | .assign x => evK S x fun v => K (S.put o.dst v)
    | .pick c x y => xvPick S c x y fun v => K (S.put o.dst v)
    | .alloc t => xAlloc X S o.dst t K
    | .box t x => xBox S o.dst t x K
    | .build t ps => xvBuild X S t ps.toList fun v => K (S.put o.dst v)
    | .buildSlice t n ps => xBuildSlice X S o.dst t n ps.toList K
    | .load t x => xvLoad X S t x (putOpen X S o K)
    | .store t p x => xStore X S o.dst t p x K
    | .binOp op t x y _ => xvBin X S op t x y fun v => K (S.put o.dst v)
    | .unOp op _ x => xvUn S op x fun v => K (S.put o.dst v)
    | .convert s d x => xvConv X S s d x fun v => K (S.put o.dst v)
    | .fieldAddr t x f => xvFieldAddr X S t x f fun v => K (S.put o.dst v)
    | .indexAddr t x i => xvIndexAddr X S t x i fun v => K (S.put o.dst v)
    | .index t x i => xvIndex X S t x i (putOpen X S o K)
    | .field t x f => xvField X S t x f (putOpen X S o K)
    | .slice t x lo hi mx => xSlice X S o.dst t x lo hi mx K
    | .extract x i => xvExtract S x i (putOpen X S o K)
    | .call c => (match c.callee with
      | .value fo => xCall S o.dst X fo c.args.toList K
      | .builtin b => (match b with
        | .append => (match c.args.toList, c.argTypes.toList with
          | [s, x], [t, t'] => (match Nat.beq t t' with
            | true => xAppend X S o.dst t s x K
            | false => False)
          | _, _ => False)
        | b => xvBuiltin X S b c.args.toList c.argTypes.toList fun v => K (S.put o.dst v))
      | _ => False)
    | _ => False)
theorem xop_ok (hT : TabOk X.P X.T) (h : Rep X e S a w) {o : Oper} {K : St → Prop} (hk : xop X o S K) : Wv X e S.nx a w o K := by
  unfold xop at hk
  split at hk
  · exact hk.elim
  · rename_i hd
    split at hk
    · rename_i x ho; exact Yv.wv h hd (move_ok e a (.inl ho) hk)
    · rename_i x ho; exact Yv.wv h hd (move_ok e a (.inr ho) hk)
    · rename_i c x y ho; exact Yv.wv h hd (pick_ok e a ho hk)
    · rename_i t ho; exact alloc_ok hT h hd ho hk
    · rename_i t x ho; exact box_ok h hd ho hk
    · rename_i t ps ho; exact Yv.wv h hd (build_ok hT e a ho hk)
    · rename_i t n ps ho; exact buildSlice_ok hT h hd ho hk
    · rename_i t x ho; exact Yv.wvOpen h hd (load_ok hT e a ho hk)
    · rename_i t p x ho; exact store_ok hT h hd ho hk
    · rename_i op t x y t' ho; exact Yv.wv h hd (bin_ok hT e a ho hk)
    · rename_i op t x ho; exact Yv.wv h hd (un_ok e a ho hk)
    · rename_i s d x ho; exact Yv.wv h hd (conv_ok hT e a ho hk)
    · rename_i t x f ho; exact Yv.wv h hd (fieldAddr_ok hT e a ho hk)
    · rename_i t x i ho; exact Yv.wv h hd (indexAddr_ok hT e a ho hk)
    · rename_i t x i ho; exact Yv.wvOpen h hd (index_ok hT e a ho hk)
    · rename_i t x f ho; exact Yv.wvOpen h hd (field_ok hT e a ho hk)
    · rename_i t x lo hi mx ho; exact slice_ok hT h hd ho hk
    · rename_i x i ho; exact Yv.wvOpen h hd (extract_ok e a ho hk)
    · rename_i c ho
      obtain ⟨callee, args, ts⟩ := c
      split at hk
      · rename_i fo hc
        simp only at hc
        subst hc
        exact call_ok h ho hk
      · rename_i b hc
        simp only at hc
        subst hc
        split at hk
        · split at hk
          · rename_i s x t t' h1 h2
            split at hk
            · rename_i htt
              have htt := Nat.eq_of_beq_eq_true htt
              subst htt
              have h3 : args = #[s, x] := Array.ext' (by simpa using h1)
              have h4 : ts = #[t, t] := Array.ext' (by simpa using h2)
              subst h3; subst h4
              exact append_ok hT h hd ho hk
            · exact hk.elim
          · exact hk.elim
        · exact Yv.wv h hd (builtin_ok hT e a ho hk)
      · exact hk.elim
    · exact hk.elim
end
end Go.Proofs.Ytbajgjbgkpcapaa.Sx
