/-
  The symbolic executor, 9: calls; slices that are opened; one operation.
-/
import Derived.Test.YteldohidnepaoaaSyM
namespace Go.Proofs.Yteldohidnepaoaa.Sy
open Go Go.RowKit
section
variable {X : Cx} {e : Env} {S : St} {a : Act} {w : World}

/-! ### Calls -/
theorem callsIn_of {r : Option Nat} {P : Program} {f : FuncId} {args : Array Value} {w : World} {R : Ending → World → Prop} (h : Calls P f args w R) : CallsIn (fenOf r) 0 P f args w R := by
  have h := callsIn_wide (n := 0).2 h
  cases r with
  | none => exact h
  | some l => exact h
/-- What a call leaves, where it may have written to the row that is v0. -/
structure Grown (v0 : Value) (w w' : World) : Prop where
  os : w'.os = w.os
  tape : w'.tape = w.tape
  output : w'.output = w.output
  size : w.heap.size ≤ w'.heap.size
  block : ∀ k, k < w.heap.size → ¬ rfoot v0 k → w'.heap[k]? = w.heap[k]?
def noRow : Value := .slice none 0 0
theorem noRow_foot (x : Nat) : ¬ rfoot noRow x := fun ⟨p, n, c, hv, _⟩ => by cases hv
theorem grown_of {w w' : World} (h : Below w.heap.size w w') : Grown noRow w w' := ⟨h.os, h.tape, h.output, h.size, fun k hk _ => h.block k hk⟩
theorem Grown.below {w w' : World} (h : Grown noRow w w') : Below w.heap.size w w' := ⟨h.os, h.tape, h.output, h.size, fun k hk => h.block k hk (noRow_foot k)⟩
/-- A call leaves all that was there as it was. -/
theorem Rep.grown (h : Rep X e S a w) {w' : World} {v0 : Value} (hb : Grown v0 w w') (hk : ∀ x, rfoot v0 x → ¬ Kept e S S.nx x) : Rep X e S a w' := by
  have hkeep : ∀ x, Kept e S S.nx x → w'.heap[x]? = w.heap[x]? := fun x hx => hb.block x (h.kept_lt hx) (fun hf => hk x hf hx)
  refine ⟨h.sz, h.fr, h.frlt, fun k b hk => Blk.holds_keep (h.hp k b hk) (Env.same.refl S.nx e) (h.hlt k b hk).1 (h.hlt k b hk).2 (fun _ h => h) (fun x hx => hkeep x (.inr (.inl ⟨k, b, hk, Nat.ne_of_lt (h.hlt k b hk).1, hx⟩))) (fun x hx => hkeep x (.inl hx)), h.hlt, h.sep, h.ff,
    ⟨hb.os.trans h.bel.os, hb.tape.trans h.bel.tape, hb.output.trans h.bel.output, Nat.le_trans h.bel.size hb.size, fun x hx ho => (hkeep x (.inl (h.f0 x hx ho))).trans (h.bel.block x hx ho)⟩,
    fun x hx => Nat.lt_of_lt_of_le (h.fl x hx) hb.size, h.f0, fun w'' hw => h.ev w'' fun x hx => (hw x hx).trans (hkeep x (.inl hx)), h.one, h.gl, h.glen, h.mkd, h.mnd, fun D hD => ⟨(hkeep D (.inr (.inr hD))).trans (h.mks D hD).1, (h.mks D hD).2⟩, h.es, h.n0, h.pin, h.rdm⟩
theorem Rep.below (h : Rep X e S a w) {w' : World} (hb : Below w.heap.size w w') : Rep X e S a w' := h.grown (grown_of hb) fun x hx => absurd hx (noRow_foot x)
def evs (S : St) : List Operand → Option (List SV)
  | [] => some []
  | x :: r => match S.ev x with
    | some v => (match evs S r with
      | some l => some (v :: l)
      | none => none)
    | none => none
def denAll (e : Env) (l : List SV) : Array Value := (l.map (SV.den e)).toArray
theorem evs_den (h : RepV X e S a w) : ∀ {xs : List Operand} {l : List SV}, evs S xs = some l → xs.map a.eval = l.map (SV.den e) ∧ ∀ v ∈ l, v.lt S.nx = true
  | [], l, hl => by cases hl; exact ⟨rfl, fun v hv => by cases hv⟩
  | x :: r, l, hl => by
    simp only [evs] at hl
    split at hl
    · rename_i v hv
      split at hl
      · rename_i l' hl'
        cases hl
        obtain ⟨h1, h2⟩ := evs_den h hl'
        obtain ⟨h3, h4⟩ := h.ev_den hv
        refine ⟨by simp only [List.map_cons, h3, h1], fun u hu => ?_⟩
        rcases List.mem_cons.1 hu with rfl | hu
        · exact h4
        · exact h2 u hu
      · cases hl
    · cases hl
/-- A call of function f. -/
structure callP (X : Cx) (S : St) (d : Option Nat) (f : Nat) (args : List SV) (K : St → Prop) : Prop where
  out : dstOk X.nt d = true → (∀ v ∈ args, v.lt S.nx = true) → ((∀ as w, (callFunc f as).run X.P w = .ok (.enter f as) w) ∧
  ∀ e a w, Rep X e S a w → ∀ KK : Act → World → Prop, (∀ e' S' a' w', Rep X e' S' a' w' → K S' → KK a' w') → CallsIn X.fen 0 X.P f (denAll e args) w fun E w' => ∃ v, E = .returned v ∧ KK (a.put d v) w') ∨
  ∃ sv : SV, sv.lt S.nx = true ∧ K (S.put d sv) ∧ ∀ e a w, Rep X e S a w → (callFunc f (denAll e args)).run X.P w = .ok (.value (sv.den e)) w
/-- A call of the body of a range over a function. -/
structure yieldP (X : Cx) (S : St) (d : Option Nat) (k : Nat) (args : List SV) (K : St → Prop) : Prop where
  out : dstOk X.nt d = true → (∀ v ∈ args, v.lt S.nx = true) → ∀ e a w, Rep X e S a w → ∀ KK : Act → World → Prop, (∀ e' S' a' w', Rep X e' S' a' w' → K S' → KK a' w') →
    ∃ f tmps as bd, (Instr.yield (e.ad k) (denAll e args)).run X.P w = .ok (.round (e.ad k) f tmps as bd) w ∧ RoundIn X.fen 0 X.P (e.ad k) f tmps as bd w fun E w' => ∃ v, E = .returned v ∧ KK (a.put d v) w'
def xCall (S : St) (d : Option Nat) (X : Cx) (fo : Operand) (args : List Operand) (K : St → Prop) : Prop := match S.ev fo with
  | some (.c (.v (.func (.func f) as bs))) => (match as.toList, bs.toList with
    | [], [] => (match evs S args with
      | some l => callP X S d f l K
      | none => False)
    | [], b :: bs => (match evs S args with
      | some l => (match (b :: bs).all Value.oneCell' with
        | true => callP X S d f (l ++ (b :: bs).map fun x => SV.c (C.v x)) K
        | false => False)
      | none => False)
    | _, _ => False)
  | some (.c (.row k)) => (match get S.H k with
    | some (.fn f cs) => (match evs S args with
      | some l => callP X S d f (l ++ cs.map SV.c) K
      | none => False)
    | some (.lrec _ _ _ _ _ _) => (match evs S args with
      | some l => yieldP X S d k l K
      | none => False)
    | _ => False)
  | _ => False
theorem call_ok (h : Rep X e S a w) {o : Oper} (hd : dstOk X.nt o.dst = true) {fo : Operand} {args : Array Operand} {ts : Array TypeId} {K : St → Prop} (ho : o.op = .call { callee := .value fo, args := args, argTypes := ts }) (hk : xCall S o.dst X fo args.toList K) : Wv X a w o K := by
  intro KK Q hKK
  have enter : ∀ (f : Nat) (cs : Array Value) (l : List SV) (L : List SV), evs S args.toList = some l → a.eval fo = .func (.func f) #[] cs → denAll e l ++ cs = denAll e L → (∀ v ∈ L, v.lt S.nx = true) → callP X S o.dst f L K → o.wpIn X.fen 0 X.P a w KK Q := by
    intro f cs l L hl hf hL hlt hk
    have hargs : args.map a.eval = denAll e l := by
      apply Array.ext'
      simp only [Array.toList_map, denAll]
      exact (evs_den h.v hl).1
    rcases hk.out hd hlt with ⟨hcall, hk⟩ | ⟨sv, hsv, hk, hext⟩
    case inr =>
      have hrun : (execOp a.eval o).run X.P w = .ok (.value (sv.den e)) w := by
        simp [execOp, ho, resolve, hf, Deferred.ofValue, invoke, hargs, hext e a w h, hL]
      exact wpo_value hrun (hKK _ _ _ _ (h.put hd hsv) hk)
    have hrun : (execOp a.eval o).run X.P w = .ok (.enter f (denAll e L)) w := by
      simp [execOp, ho, resolve, hf, Deferred.ofValue, invoke, hargs, hcall, hL]
    refine ⟨fun f _ => fen_fn _ f, ?_⟩
    rw [semAt_of hrun (fun d hd => by cases hd)]
    refine ⟨fun hdp => fen_depth _ hdp 0, (hk e a w h KK hKK).mono fun E w' ⟨v, hE, hv⟩ => by subst hE; exact hv⟩
  unfold xCall at hk
  split at hk
  · rename_i f as bs hf
    split at hk
    · rename_i has hbs
      split at hk
      · rename_i l hl
        have hd := (h.ev_den hf).1
        simp only [SV.den, C.den] at hd
        have has : as = #[] := Array.ext' (by simpa using has)
        have hbs : bs = #[] := Array.ext' (by simpa using hbs)
        subst has; subst hbs
        exact enter f #[] l l hl hd (by simp) (evs_den h.v hl).2 hk
      · exact hk.elim
    · rename_i b0 bs0 has hbs
      split at hk
      · rename_i l hl
        split at hk
        · rename_i hone
          have hd := (h.ev_den hf).1
          simp only [SV.den, C.den] at hd
          have has : as = #[] := Array.ext' (by simpa using has)
          have hbs : bs = (b0 :: bs0).toArray := Array.ext' (by simpa using hbs)
          subst has; subst hbs
          refine enter f _ l _ hl hd ?_ (fun v hv => ?_) hk
          · simp [denAll, Function.comp_def, SV.den, C.den]
          · rcases List.mem_append.1 hv with hv | hv
            · exact (evs_den h.v hl).2 v hv
            · obtain ⟨x, hx, rfl⟩ := List.mem_map.1 hv
              exact List.all_eq_true.1 hone x hx
        · exact hk.elim
      · exact hk.elim
    · exact hk.elim
  · rename_i k hf
    split at hk
    · rename_i f cs hH
      split at hk
      · rename_i l hl
        have hd := (h.ev_den hf).1
        have hfn : e.rv k = .func (.func f) #[] (cs.map (C.den e)).toArray := h.hp k _ hH
        simp only [SV.den, C.den, hfn] at hd
        refine enter f _ l _ hl hd ?_ (fun v hv => ?_) hk
        · simp [denAll, Function.comp_def, SV.den]
        · rcases List.mem_append.1 hv with hv | hv
          · exact (evs_den h.v hl).2 v hv
          · obtain ⟨c, hc, rfl⟩ := List.mem_map.1 hv
            exact ltAll_mem (h.hlt k _ hH).2 c hc
      · exact hk.elim
    · rename_i hH
      split at hk
      · rename_i l hl
        have hdf := (h.ev_den hf).1
        have hfn := (h.hp k _ hH).1
        simp only [SV.den, C.den, hfn] at hdf
        have hargs : args.map a.eval = denAll e l := by
          apply Array.ext'
          simp only [Array.toList_map, denAll]
          exact (evs_den h.v hl).1
        obtain ⟨f, tmps, as, bd, hy, hr⟩ := hk.out hd (evs_den h.v hl).2 e a w h KK hKK
        have hrun : (execOp a.eval o).run X.P w = .ok (.round (e.ad k) f tmps as bd) w := by
          simp [execOp, ho, resolve, hdf, Deferred.ofValue, invoke, hargs, hy]
        refine ⟨fun f _ => fen_fn _ f, ?_⟩
        rw [semAt_of hrun (fun d hd => by cases hd)]
        refine ⟨fun hdp => fen_depth _ hdp 0, hr.mono fun E w' ⟨v, hE, hv⟩ => by subst hE; exact hv⟩
      · exact hk.elim
    · exact hk.elim
  · exact hk.elim

/-! ### What a callee hands back -/
/-- The callee hands back a value that is known, and leaves all that was there as it was. -/
def Ret (v : Value) (w : World) (E : Ending) (w' : World) : Prop := E = .returned v ∧ Below w.heap.size w w'
theorem call_ext {d : Option Nat} {f : Nat} {args : List SV} {K : St → Prop} (sv : SV) (hl : sv.lt S.nx = true) (hc : ∀ e a w, Rep X e S a w → (callFunc f (denAll e args)).run X.P w = .ok (.value (sv.den e)) w) (hk : K (S.put d sv)) : callP X S d f args K :=
  ⟨fun _ _ => .inr ⟨sv, hl, hk, hc⟩⟩
theorem call_val {d : Option Nat} {f : Nat} {args : List SV} {K : St → Prop} (sv : SV) (hcall : ∀ as w, (callFunc f as).run X.P w = .ok (.enter f as) w) (hl : sv.lt S.nx = true)
    (hc : ∀ e a w, Rep X e S a w → Calls X.P f (denAll e args) w (Ret (sv.den e) w)) (hk : K (S.put d sv)) : callP X S d f args K := by
  refine ⟨fun hd _ => .inl ⟨hcall, fun e a w h KK hKK => callsIn_of ((hc e a w h).mono fun E w' ⟨hE, hb⟩ => ⟨_, hE, ?_⟩)⟩⟩
  exact hKK _ _ _ _ ((h.below hb).put hd hl) hk
/-- The callee hands back a value that is known up to what the caller can name. -/
def RetEx {α : Type} (p : α → Prop) (v : α → Value) (w : World) (E : Ending) (w' : World) : Prop := ∃ x, p x ∧ E = .returned (v x) ∧ Below w.heap.size w w'
theorem call_ex {α : Type} {d : Option Nat} {f : Nat} {args : List SV} {K : St → Prop} (p : α → Prop) (sv : α → SV) (hcall : ∀ as w, (callFunc f as).run X.P w = .ok (.enter f as) w) (hl : ∀ x, p x → (sv x).lt S.nx = true)
    (hc : ∀ e a w, Rep X e S a w → Calls X.P f (denAll e args) w (RetEx p (fun x => (sv x).den e) w)) (hk : ∀ x, p x → K (S.put d (sv x))) : callP X S d f args K := by
  refine ⟨fun hd _ => .inl ⟨hcall, fun e a w h KK hKK => callsIn_of ((hc e a w h).mono fun E w' ⟨x, hp, hE, hb⟩ => ⟨_, hE, ?_⟩)⟩⟩
  exact hKK _ _ _ _ ((h.below hb).put hd (hl x hp)) (hk x hp)
/-- Rows that a callee hands back: element type, size, length, elements. -/
structure RD where
  ety : Nat
  esz : Nat
  n : Nat
  xs : List (List Value)
def OwnAll (w : World) : List RD → List Value → Prop
  | [], [] => True
  | r :: l, v :: vs => OwnE w r.ety r.esz v r.n r.xs ∧ (∀ x, rfoot v x → ∀ u ∈ vs, ¬ rfoot u x) ∧ OwnAll w l vs
  | _, _ => False
/-- The callee hands back slices (within a value, perhaps) in memory of its own, or in the row that was v0: the caller owns them. -/
def RetRows {α : Type} (v0 : Value) (p : α → Prop) (rs : α → List RD) (v : α → List Value → Value) (w : World) (E : Ending) (w' : World) : Prop :=
  ∃ x vs, p x ∧ E = .returned (v x vs) ∧ Grown v0 w w' ∧ OwnAll w' (rs x) vs ∧ ∀ u ∈ vs, ∀ y, rfoot u y → rfoot v0 y ∨ w.heap.size ≤ y
def St.rows (S : St) : List RD → St
  | [] => S
  | ⟨ety, esz, n, xs⟩ :: l => (S.new (.row ety esz n (.vs xs))).rows l
def Env.withRows (e : Env) (k : Nat) : List RD → List Value → Env
  | r :: l, v :: vs => (e.withRow k v r.esz).withRows (k + 1) l vs
  | _, _ => e
theorem new_nx (S : St) (b : Blk) : (S.new b).nx = S.nx + 1 := rfl
theorem rows_nx : ∀ (l : List RD) (S : St), (S.rows l).nx = S.nx + l.length
  | [], S => rfl
  | r :: l, S => by rw [St.rows, rows_nx l, new_nx, List.length_cons]; omega
theorem OwnE.els_one {ety esz n : Nat} {v : Value} {xs : List (List Value)} (h : OwnE w ety esz v n xs) : ∀ c ∈ xs, ∀ u ∈ c, u.oneCell' = true := by
  rcases h.2.2 with ⟨A, _, hn⟩ | ⟨g, cap, _, hb⟩
  · have := h.1
    rw [hn] at this
    rw [List.eq_nil_of_length_eq_zero this]
    intro c hc; cases hc
  · exact fun c hc u hu => hb.one u (List.mem_flatten.2 ⟨c, hc, hu⟩)
theorem Rep.rows : ∀ (l : List RD) (vs : List Value) {e : Env} {S : St}, Rep X e S a w → OwnAll w l vs → (∀ u ∈ vs, ∀ y, rfoot u y → ¬ Kept e S S.nx y) → Rep X (e.withRows S.nx l vs) (S.rows l) a w
  | [], [], e, S, h, _, _ => h
  | r :: l, v :: vs, e, S, h, ⟨ho, hsep, hr⟩, hf => by
    have h1 := h.newRow (w' := w) (ety := r.ety) (esz := r.esz) (n := r.n) (xs := .vs r.xs) (v := v) ho.els_one rfl rfl rfl (Nat.le_refl _) (fun _ _ => rfl) ho (hf v (by simp))
    refine Rep.rows l vs h1 hr fun u hu y hy hk => ?_
    rcases hk with hk | ⟨k, b, hk, hne, hx⟩ | hk
    · exact hf u (by simp [hu]) y hy (.inl hk)
    · rcases get_cons hk with ⟨e1, e2⟩ | ⟨hne', hk2⟩
      · subst e1; subst e2
        have hx : rfoot ((e.withRow S.nx v r.esz).rv S.nx) y := hx
        rw [Env.withRow_rv] at hx
        exact hsep y hx u hu hy
      · exact hf u (by simp [hu]) y hy (.inr (.inl ⟨k, b, hk2, Nat.ne_of_lt (h.hlt k b hk2).1, Blk.foot_same (Env.withRow_same e S.nx v r.esz) (h.hlt k b hk2).1 hx⟩))
    · exact hf u (by simp [hu]) y hy (.inr (.inr hk))
  | [], _ :: _, _, _, _, h, _ => h.elim
  | _ :: _, [], _, _, _, h, _ => h.elim
theorem St.killed_put (S : St) (k : Option Nat) : (S.killed k).nx = S.nx := killed_nx S k
/-- k: the row that the callee takes over. -/
theorem call_rows {α : Type} {d : Option Nat} {f : Nat} {args : List SV} {K : St → Prop} (k : Option Nat) (p : α → Prop) (rs : α → List RD) (sv : α → SV) (hcall : ∀ as w, (callFunc f as).run X.P w = .ok (.enter f as) w)
    (hk0 : ∀ j, k = some j → ∃ ety esz n xs, get S.H j = some (.row ety esz n xs)) (hl : ∀ x, p x → (sv x).lt (S.nx + (rs x).length) = true)
    (hc : ∀ e a w, Rep X e S a w → Calls X.P f (denAll e args) w (RetRows (match k with | some j => e.rv j | none => noRow) p rs (fun x vs => (sv x).den (e.withRows S.nx (rs x) vs)) w))
    (hk : ∀ x, p x → K (((S.killed k).rows (rs x)).put d (sv x))) : callP X S d f args K := by
  refine ⟨fun hd _ => .inl ⟨hcall, fun e a w h KK hKK => callsIn_of ((hc e a w h).mono fun E w' ⟨x, vs, hp, hE, hg, hown, hfr⟩ => ⟨_, hE, ?_⟩)⟩⟩
  have hR : Rep X e (S.killed k) a w' ∧ ∀ u ∈ vs, ∀ y, rfoot u y → ¬ Kept e (S.killed k) (S.killed k).nx y := by
    cases k with
    | none =>
      exact ⟨h.grown hg fun y hy => absurd hy (noRow_foot y), fun u hu y hy => by
        rcases hfr u hu y hy with hy | hy
        · exact absurd hy (noRow_foot y)
        · exact h.not_kept_new hy⟩
    | some j =>
      obtain ⟨ety, esz, n, xs, hH⟩ := hk0 j rfl
      have hkill := h.kill j (h.hlt j _ hH).1
      have hkept : ∀ y, Kept e (S.setH j .dead) S.nx y → Kept e S j y := by
        rintro y (hy | ⟨k', b', hk', hne, hy⟩ | hy)
        · exact .inl hy
        · rcases get_cons hk' with ⟨e1, e2⟩ | ⟨hne', hk2⟩
          · subst e2; exact hy.elim
          · exact .inr (.inl ⟨k', b', hk2, Ne.symm hne', hy⟩)
        · exact .inr (.inr hy)
      have hfoot : ∀ y, rfoot (e.rv j) y → ¬ Kept e (S.setH j .dead) S.nx y := fun y hy hk => h.not_kept hH (x := y) hy (hkept y hk)
      exact ⟨hkill.grown hg hfoot, fun u hu y hy => by
        rcases hfr u hu y hy with hy | hy
        · exact hfoot y hy
        · exact hkill.not_kept_new hy⟩
  have hnx := killed_nx S k
  have h2 := Rep.rows (rs x) vs hR.1 hown hR.2
  rw [hnx] at h2
  exact hKK _ _ _ _ (h2.put hd (by rw [rows_nx, hnx]; exact hl x hp)) (hk x hp)
/-- The callee hands back a value of which something holds in memory that is new. -/
def RetMem {α : Type} (p : α → (Nat → Prop) → World → Prop) (v : α → Value) (w : World) (E : Ending) (w' : World) : Prop :=
  ∃ x, E = .returned (v x) ∧ Below w.heap.size w w' ∧ p x (fun b => w.heap.size ≤ b ∧ b < w'.heap.size) w'
def St.knows (S : St) (F' : Nat → Prop) (E' : World → Prop) : St := match S with | ⟨fr, H, nx, _, _, g⟩ => ⟨fr, H, nx, F', E', g⟩
theorem Rep.learn (h : Rep X e S a w) {G : Nat → Prop} {p : (Nat → Prop) → World → Prop} (hG : ∀ b, G b → b < w.heap.size ∧ (∀ k c, get S.H k = some c → ¬ c.foot e k b) ∧ b ∉ e.G) (hp : p G w)
    (hkeep : ∀ (G G' : Nat → Prop) (w w' : World), p G w → (∀ b, G b → G' b) → (∀ b, G b → w'.heap[b]? = w.heap[b]?) → p G' w') :
    Rep X e (S.knows (fun b => S.F b ∨ G b) (fun w => S.E w ∧ p (fun b => S.F b ∨ G b) w)) a w := by
  refine { h with hp := fun k b hk => Blk.holds_keep (h.hp k b hk) (Env.same.refl S.nx e) (h.hlt k b hk).1 (h.hlt k b hk).2 (fun _ h => .inl h) (fun _ _ => rfl) (fun _ _ => rfl), ff := fun k b x hk hx => ?_, fl := fun x hx => ?_, f0 := fun x hx ho => .inl (h.f0 x hx ho), ev := fun w' hw => ⟨h.ev w' fun x hx => hw x (.inl hx), ?_⟩, mks := fun D hD => ⟨(h.mks D hD).1, ?_, (h.mks D hD).2.2⟩ }
  · rintro (hf | hf)
    · exact h.ff k b x hk hx hf
    · exact (hG x hf).2.1 k b hk hx
  · rcases hx with hx | hx
    · exact h.fl x hx
    · exact (hG x hx).1
  · exact hkeep G _ w w' hp (fun b hb => .inr hb) (fun b hb => hw b (.inr hb))
  · rintro (hf | hf)
    · exact (h.mks D hD).2.1 hf
    · exact (hG D hf).2.2 hD
theorem call_mem {α : Type} {d : Option Nat} {f : Nat} {args : List SV} {K : St → Prop} (p : α → (Nat → Prop) → World → Prop) (sv : α → SV) (hcall : ∀ as w, (callFunc f as).run X.P w = .ok (.enter f as) w)
    (hl : ∀ x, (sv x).lt S.nx = true) (hkeep : ∀ (x : α) (G G' : Nat → Prop) (w w' : World), p x G w → (∀ b, G b → G' b) → (∀ b, G b → w'.heap[b]? = w.heap[b]?) → p x G' w')
    (hc : ∀ e a w, Rep X e S a w → Calls X.P f (denAll e args) w (RetMem p (fun x => (sv x).den e) w))
    (hk : ∀ (x : α) (G : Nat → Prop), K ((S.knows (fun b => S.F b ∨ G b) (fun w => S.E w ∧ p x (fun b => S.F b ∨ G b) w)).put d (sv x))) : callP X S d f args K := by
  refine ⟨fun hd _ => .inl ⟨hcall, fun e a w h KK hKK => callsIn_of ((hc e a w h).mono fun E w' ⟨x, hE, hb, hp⟩ => ⟨_, hE, ?_⟩)⟩⟩
  have hR := (h.below hb).learn (G := fun b => w.heap.size ≤ b ∧ b < w'.heap.size) (fun b hG => ⟨hG.2, fun k c hk hf => by have := h.foot_lt hk hf; omega, fun hm => by have := h.kept_lt (k0 := S.nx) (.inr (.inr hm)); omega⟩) hp (hkeep x)
  exact hKK _ _ _ _ (hR.put hd (hl x)) (hk x _)

/-! ### Slices of which a state knows nothing yet; slices of slices -/
/-- A value that is a slice: the prover says what it holds, or lets it be. -/
structure openP (X : Cx) (S : St) (x : Value) (K : St → SV → Prop) : Prop where
  out : K S (.c (.v x)) ∨ ∃ esz n xs, (∀ e a w, Rep X e S a w → ReadsE S.F w esz x n xs) ∧ (∀ c ∈ xs, ∀ u ∈ c, u.oneCell' = true) ∧ K (S.new (.ext esz n (.vs xs))) (.c (.row S.nx))
theorem open_skip {x : Value} {K : St → SV → Prop} (h : K S (.c (.v x))) : openP X S x K := by refine ⟨?_⟩; exact .inl h
theorem open_ext {x : Value} {K : St → SV → Prop} (esz n : Nat) (xs : List (List Value)) (hr : ∀ e a w, Rep X e S a w → ReadsE S.F w esz x n xs) (h1 : ∀ c ∈ xs, ∀ u ∈ c, u.oneCell' = true) (h : K (S.new (.ext esz n (.vs xs))) (.c (.row S.nx))) : openP X S x K := by
  refine ⟨?_⟩; exact .inr ⟨esz, n, xs, hr, h1, h⟩
theorem open_ok (h : Rep X e S a w) {d : Option Nat} (hd : dstOk X.nt d = true) {x : Value} (hx : x.oneCell' = true) {K : St → Prop} (hk : openP X S x fun S' v => K (S'.put d v)) : ∃ e' S', Rep X e' S' (a.put d x) w ∧ K S' := by
  replace hk := hk.out
  rcases hk with hk | ⟨esz, n, xs, hr, h1, hk⟩
  · exact ⟨e, _, h.put (v := .c (.v x)) hd hx, hk⟩
  · have hR := h.newExt (xs := .vs xs) (v := x) h1 (hr e a w h)
    have hp := hR.put (d := d) (v := .c (.row S.nx)) hd (blt_iff.2 (Nat.lt_succ_self _))
    simp only [SV.den, C.den, Env.withRow_rv] at hp
    exact ⟨_, _, hp, hk⟩
/-- Is a value's type a slice's? Then it is the prover's to open it. -/
def sliceTy (X : Cx) (t : Nat) : Bool := match get X.T t with
  | some ti => sliceTB ti.d
  | none => false
def isSl : Value → Bool
  | .slice none 0 0 => false
  | _ => true
def putOpen (X : Cx) (S : St) (o : Oper) (K : St → Prop) (v : SV) : Prop := match sliceTy X o.type with
  | true => (match v with
    | .c (.v x) => openP X S x fun S' v => K (S'.put o.dst v)
    | v => K (S.put o.dst v))
  | false => K (S.put o.dst v)
theorem Yv.wvOpen (h : Rep X e S a w) {o : Oper} (hd : dstOk X.nt o.dst = true) {K : St → Prop} (hy : Yv X e S a o (putOpen X S o K)) : Wv X a w o K := by
  intro KK Q hKK
  obtain ⟨v, hK, hyv⟩ := hy
  obtain ⟨hl, hrun⟩ := hyv w h.v
  refine wpo_value hrun ?_
  have plain : K (S.put o.dst v) → KK (a.put o.dst (v.den e)) w := fun hK => hKK _ _ _ _ (h.put hd hl) hK
  unfold putOpen at hK
  split at hK
  · split at hK
    · obtain ⟨e', S', hR, hK⟩ := open_ok h hd hl hK
      exact hKK _ _ _ _ hR hK
    · exact plain hK
  · exact plain hK

/-! ### One operation -/
def nilConst : Operand → Option Value
  | .const v => (match isNil v with
    | true => some v
    | false => none)
  | _ => none
theorem nilConst_eq {x : Operand} {v : Value} (h : nilConst x = some v) : x = .const v := by
  cases x <;> simp only [nilConst] at h <;> first | (cases h; done) | skip
  split at h
  · cases h; rfl
  · cases h
def xop (X : Cx) (o : Oper) (S : St) (K : St → Prop) : Prop := match dstOk X.nt o.dst with
  | false => False
  | true => (match o.op with
    | .move x => evK S x fun v => K (S.put o.dst v)
    | .assign x => evK S x fun v => K (S.put o.dst v)
    | .pick c x y => xvPick S c x y fun v => K (S.put o.dst v)
    | .alloc t => xAlloc X S o.dst t K
    | .box t x => xBox S o.dst t x K
    | .build t ps => xvBuild X S t ps.toList fun v => K (S.put o.dst v)
    | .buildSlice t n ps => xBuildSlice X S o.dst t n ps.toList K
    | .load t x => xvLoad X S t x (putOpen X S o K)
    | .store t p x => xStore X S o.dst t p x K
    | .binOp op t x y _ => (match nilConst y with
      | some z => xvNil X S op t x z fun v => K (S.put o.dst v)
      | none => xvBin X S op t x y fun v => K (S.put o.dst v))
    | .unOp op _ x => xvUn S op x fun v => K (S.put o.dst v)
    | .convert s d x => xvConv X S s d x fun v => K (S.put o.dst v)
    | .fieldAddr t x f => xvFieldAddr X S t x f fun v => K (S.put o.dst v)
    | .indexAddr t x i => xvIndexAddr X S t x i fun v => K (S.put o.dst v)
    | .index t x i => xvIndex X S t x i (putOpen X S o K)
    | .field t x f => xvField X S t x f (putOpen X S o K)
    | .slice t x lo hi mx => xSlice X S o.dst t x lo hi mx K
    | .makeSlice t l c => xMakeSlice X S o.dst t l c K
    | .makeFunc fn first caps => xMakeFunc S o.dst fn first.toList caps.toList K
    | .makeMap _ r => xMakeMap S o.dst r K
    | .lookup t x i ok => xvLookup X S t x i ok fun v => K (S.put o.dst v)
    | .mapUpdate t m k x => xMapUpdate X S t m k x fun S' => K (S'.put o.dst .un)
    | .extract x i => xvExtract S x i (putOpen X S o K)
    | .nilCheck x => evK S x fun v => (match v with
      | .c (.loc _ _) => K (S.put o.dst v)
      | .c (.ep _ _ _) => K (S.put o.dst v)
      | _ => False)
    | .call c => (match c.callee with
      | .value fo => xCall S o.dst X fo c.args.toList K
      | .builtin b => (match b with
        | .append => (match c.args.toList, c.argTypes.toList with
          | [s, x], [t, t'] => (match Nat.beq t t' with
            | true => xAppend X S o.dst t s x K
            | false => xAppendZ X S o.dst t t' s x K)
          | _, _ => False)
        | .copy => (match c.args.toList, c.argTypes.toList with
          | [s, x], [t, _] => xCopy X S o.dst t s x K
          | _, _ => False)
        | .clear => (match c.args.toList, c.argTypes.toList with
          | [s], [t] => xClear X S o.dst t s K
          | _, _ => False)
        | b => xvBuiltin X S b c.args.toList c.argTypes.toList fun v => K (S.put o.dst v))
      | _ => False)
    | _ => False)
theorem nilCheck_ok (h : Rep X e S a w) {o : Oper} (hd : dstOk X.nt o.dst = true) {x : Operand} {K : St → Prop} (ho : o.op = .nilCheck x) (hk : evK S x fun v => (match v with
      | .c (.loc _ _) => K (S.put o.dst v)
      | .c (.ep _ _ _) => K (S.put o.dst v)
      | _ => False)) : Wv X a w o K := by
  intro KK Q hKK
  obtain ⟨v, hv, hk⟩ := evK_get hk
  obtain ⟨hdv, hl⟩ := h.ev_den hv
  split at hk
  · refine wpo_value (v := a.eval x) (w' := w) (by simp only [SV.den, C.den] at hdv; simp [execOp, ho, hdv]) ?_
    rw [hdv]; exact hKK _ _ _ _ (h.put hd hl) hk
  · refine wpo_value (v := a.eval x) (w' := w) (by simp only [SV.den, C.den] at hdv; simp [execOp, ho, hdv]) ?_
    rw [hdv]; exact hKK _ _ _ _ (h.put hd hl) hk
  · exact hk.elim
theorem xop_ok (hT : TabOk X.P X.T) (h : Rep X e S a w) {o : Oper} {K : St → Prop} (hk : xop X o S K) : Wv X a w o K := by
  unfold xop at hk
  split at hk
  · exact hk.elim
  · rename_i hd
    split at hk
    · rename_i x ho; exact Yv.wv h hd (move_ok e a (.inl ho) hk)
    · rename_i x ho; exact Yv.wv h hd (move_ok e a (.inr ho) hk)
    · rename_i c x y ho; exact Yv.wv h hd (pick_ok e a ho hk)
    · rename_i t ho; exact alloc_ok hT h hd ho hk
    · rename_i t x ho; exact box_ok h hd ho hk
    · rename_i t ps ho; exact Yv.wv h hd (build_ok hT e a ho hk)
    · rename_i t n ps ho; exact buildSlice_ok hT h hd ho hk
    · rename_i t x ho; exact Yv.wvOpen h hd (load_ok hT e a ho hk)
    · rename_i t p x ho; exact store_ok hT h hd ho hk
    · rename_i op t x y t' ho
      split at hk
      · rename_i z hz
        have := nilConst_eq hz
        subst this
        exact Yv.wv h hd (nil_ok hT e a ho hk)
      · exact Yv.wv h hd (bin_ok hT e a ho hk)
    · rename_i op t x ho; exact Yv.wv h hd (un_ok e a ho hk)
    · rename_i s d x ho; exact Yv.wv h hd (conv_ok hT e a ho hk)
    · rename_i t x f ho; exact Yv.wv h hd (fieldAddr_ok hT e a ho hk)
    · rename_i t x i ho; exact Yv.wv h hd (indexAddr_ok hT e a ho hk)
    · rename_i t x i ho; exact Yv.wvOpen h hd (index_ok hT e a ho hk)
    · rename_i t x f ho; exact Yv.wvOpen h hd (field_ok hT e a ho hk)
    · rename_i t x lo hi mx ho; exact slice_ok hT h hd ho hk
    · rename_i t l c ho; exact makeSlice_ok hT h hd ho hk
    · rename_i fn first caps ho; exact makeFunc_ok h hd ho hk
    · rename_i t r ho; exact makeMap_ok h hd ho hk
    · rename_i t x i ok ho; exact Yv.wv h hd (lookup_ok hT e a ho hk)
    · rename_i t m k x ho; exact mapUpdate_ok hT h hd ho hk
    · rename_i x i ho; exact Yv.wvOpen h hd (extract_ok e a ho hk)
    · rename_i x ho; exact nilCheck_ok h hd ho hk
    · rename_i c ho
      obtain ⟨callee, args, ts⟩ := c
      split at hk
      · rename_i fo hc
        simp only at hc
        subst hc
        exact call_ok h hd ho hk
      · rename_i b hc
        simp only at hc
        subst hc
        split at hk
        · split at hk
          · rename_i s x t t' h1 h2
            have h3 : args = #[s, x] := Array.ext' (by simpa using h1)
            have h4 : ts = #[t, t'] := Array.ext' (by simpa using h2)
            subst h3; subst h4
            split at hk
            · rename_i htt
              have htt := Nat.eq_of_beq_eq_true htt
              subst htt
              exact append_ok hT h hd ho hk
            · exact appendZ_ok hT h hd ho hk
          · exact hk.elim
        · split at hk
          · rename_i s x t t' h1 h2
            have h3 : args = #[s, x] := Array.ext' (by simpa using h1)
            have h4 : ts = #[t, t'] := Array.ext' (by simpa using h2)
            subst h3; subst h4
            exact copy_ok hT h hd ho hk
          · exact hk.elim
        · split at hk
          · rename_i s t h1 h2
            have h3 : args = #[s] := Array.ext' (by simpa using h1)
            have h4 : ts = #[t] := Array.ext' (by simpa using h2)
            subst h3; subst h4
            exact clear_ok hT h hd ho hk
          · exact hk.elim
        · exact Yv.wv h hd (builtin_ok hT e a ho hk)
      · exact hk.elim
    · exact hk.elim
end
end Go.Proofs.Yteldohidnepaoaa.Sy
