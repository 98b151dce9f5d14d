/-
  The symbolic executor, 4: literals of structs and arrays; operations that change the world: new variables, stores, slices of the call's own, append.
-/
import Derived.Test.YteldohidnepaoaaSy3
namespace Go.Proofs.Yteldohidnepaoaa.Sy
open Go Go.RowKit
section
variable {X : Cx} {e : Env} {S : St} {a : Act} {w : World}

/-! ### Literals -/
theorem length_splice {α : Type} : ∀ (vs cs : List α) (o : Nat), (splice cs o vs).length = cs.length
  | [], _, _ => rfl
  | v :: r, cs, o => by rw [splice, length_splice r]; simp
theorem mem_splice {α : Type} : ∀ (vs cs : List α) (o : Nat) (x : α), x ∈ splice cs o vs → x ∈ cs ∨ x ∈ vs
  | [], _, _, x, h => .inl h
  | v :: r, cs, o, x, h => by
    rw [splice] at h
    rcases mem_splice r _ _ x h with h | h
    · rcases List.mem_or_eq_of_mem_set h with h | rfl
      · exact .inl h
      · exact .inr (by simp)
    · exact .inr (by simp [h])
theorem lt_splice {n : Nat} (vs cs : List C) (o : Nat) (h : ltAll n cs = true) (hv : ltAll n vs = true) : ltAll n (splice cs o vs) = true := ltAll_of fun c hc => by
  rcases mem_splice _ _ _ c hc with hc | hc
  · exact ltAll_mem h c hc
  · exact ltAll_mem hv c hc
theorem map_splice {α β : Type} (f : α → β) : ∀ (vs cs : List α) (o : Nat), (splice cs o vs).map f = splice (cs.map f) o (vs.map f)
  | [], _, _ => rfl
  | v :: r, cs, o => by rw [splice, map_splice f r, List.map_cons, splice, List.map_set]
theorem splice_app_left {α : Type} (y : List α) : ∀ (vs x : List α) (o : Nat), o + vs.length ≤ x.length → splice (x ++ y) o vs = splice x o vs ++ y
  | [], _, _, _ => rfl
  | v :: r, x, o, h => by
    simp only [List.length_cons] at h
    rw [splice, splice, List.set_append_left _ _ (by omega), splice_app_left y r _ _ (by simp; omega)]
theorem splice_app_right {α : Type} (x : List α) : ∀ (vs y : List α) (o : Nat), splice (x ++ y) (x.length + o) vs = x ++ splice y o vs
  | [], _, _ => rfl
  | v :: r, y, o => by
    rw [splice, splice, List.set_append_right _ _ (by omega), Nat.add_sub_cancel_left, Nat.add_assoc, splice_app_right x r]
theorem take_splice {α : Type} : ∀ (vs x : List α) (o m : Nat), (splice x o vs).take m = splice (x.take m) o vs
  | [], _, _, _ => rfl
  | v :: r, x, o, m => by rw [splice, splice, take_splice r, List.take_set]
/-- Within the list of all cells, within one element. -/
theorem splice_flat {α : Type} {sz : Nat} : ∀ {xs : List (List α)}, (∀ c ∈ xs, c.length = sz) → ∀ {i o : Nat} {c vs : List α}, xs[i]? = some c → o + vs.length ≤ c.length → splice xs.flatten (i * sz + o) vs = (xs.set i (splice c o vs)).flatten
  | [], _, i, o, c, vs, hc, _ => by simp at hc
  | x :: r, h, i, o, c, vs, hc, hl => by
    cases i with
    | zero =>
      simp only [List.getElem?_cons_zero, Option.some.injEq] at hc
      subst hc
      rw [List.flatten_cons, Nat.zero_mul, Nat.zero_add, splice_app_left _ _ _ _ hl, List.set_cons_zero, List.flatten_cons]
    | succ i =>
      rw [List.getElem?_cons_succ] at hc
      rw [List.flatten_cons, show (i + 1) * sz + o = x.length + (i * sz + o) by rw [h x (by simp), Nat.add_mul]; omega, splice_app_right, splice_flat (fun c hc => h c (by simp [hc])) hc hl, List.set_cons_succ, List.flatten_cons]
/-- Several elements, one behind another. -/
theorem splice_flats {α : Type} {sz : Nat} {xs : List (List α)} (h : ∀ c ∈ xs, c.length = sz) : ∀ (ys : List (List α)) (i : Nat), (∀ c ∈ ys, c.length = sz) → i + ys.length ≤ xs.length → splice xs.flatten (i * sz) ys.flatten = (xs.take i ++ ys ++ xs.drop (i + ys.length)).flatten := by
  intro ys i hy hl
  have h1 : xs = xs.take i ++ ((xs.drop i).take ys.length ++ xs.drop (i + ys.length)) := by
    rw [← List.drop_drop, List.take_append_drop, List.take_append_drop]
  have hs1 : ∀ c ∈ xs.take i, c.length = sz := fun c hc => h c (List.mem_of_mem_take hc)
  have hs2 : ∀ c ∈ (xs.drop i).take ys.length, c.length = sz := fun c hc => h c (List.mem_of_mem_drop (List.mem_of_mem_take hc))
  have l1 : (xs.take i).flatten.length = i * sz := by rw [flat_len hs1, List.length_take, Nat.min_eq_left (by omega)]
  have l2 : ((xs.drop i).take ys.length).flatten.length = ys.flatten.length := by rw [flat_len hs2, flat_len hy, List.length_take, List.length_drop, Nat.min_eq_left (by omega)]
  have over : ∀ (vs x : List α), vs.length = x.length → splice x 0 vs = vs := by
    intro vs
    have : ∀ (vs p x : List α), vs.length = x.length → splice (p ++ x) p.length vs = p ++ vs := by
      intro vs
      induction vs with
      | nil => intro p x hx; rw [List.eq_nil_of_length_eq_zero hx.symm]; rfl
      | cons v r ih =>
        intro p x hx
        cases x with
        | nil => cases hx
        | cons y x =>
          rw [splice, List.set_append_right _ _ (Nat.le_refl _), Nat.sub_self, List.set_cons_zero]
          have := ih (p ++ [v]) x (by simpa using hx)
          simp only [List.append_assoc, List.singleton_append, List.length_append, List.length_singleton] at this
          exact this
    intro x hx
    exact this vs [] x hx
  conv => lhs; rw [h1]
  rw [List.flatten_append, List.flatten_append, ← Nat.add_zero (i * sz), ← l1, splice_app_right, splice_app_left _ _ _ _ (by rw [l2]; omega), over _ _ l2.symm, List.append_assoc, List.flatten_append, List.flatten_append]
theorem splice_fold : ∀ (vs cs : List Value) (o : Nat), splice cs o vs = vs.zipIdx.foldl (fun cs (x : Value × Nat) => cs.set (o + x.2) x.1) cs
  | [], _, _ => rfl
  | v :: r, cs, o => by
    rw [splice, splice_fold r]
    simp only [List.zipIdx_cons, List.foldl_cons, Nat.add_zero]
    have : ∀ (l : List Value) (k : Nat) (c : List Value), (l.zipIdx k).foldl (fun (cs : List Value) (x : Value × Nat) => cs.set (o + 1 + x.2) x.1) c = (l.zipIdx (k + 1)).foldl (fun cs (x : Value × Nat) => cs.set (o + x.2) x.1) c := by
      intro l
      induction l with
      | nil => intro k c; rfl
      | cons y l ih =>
        intro k c
        simp only [List.zipIdx_cons, List.foldl_cons]
        rw [ih, show o + 1 + k = o + (k + 1) by omega]
    exact this _ 0 _
theorem foldl_toList (vs : List Value) (o : Nat) : ∀ (k : Nat) (c : Array Value), ((vs.zipIdx k).foldl (fun cs (x : Value × Nat) => cs.setIfInBounds (o + x.2) x.1) c).toList = (vs.zipIdx k).foldl (fun cs (x : Value × Nat) => cs.set (o + x.2) x.1) c.toList := by
  induction vs with
  | nil => intro k c; rfl
  | cons v r ih =>
    intro k c
    simp only [List.zipIdx_cons, List.foldl_cons]
    rw [ih]
    simp
def SV.plain : SV → Bool
  | .c _ => true
  | .agg _ => true
  | .tup _ => false
  | .un => false
theorem cells_den {n : Nat} (ho : ∀ k, (e.rv k).oneCell' = true) {v : SV} (hp : v.plain = true) (hl : v.lt n = true) : (v.den e).cells = (v.list.map (C.den e)).toArray := by
  cases v with
  | c x =>
    have := C.one_of (n := n) ho (c := x) hl
    simp only [SV.den, SV.list, List.map_cons, List.map_nil]
    cases hx : x.den e <;> first | rfl | (rw [hx] at this; cases this)
  | agg cs => rfl
  | tup vs => cases hp
  | un => cases hp
theorem SV.list_lt {n : Nat} {v : SV} (hl : v.lt n = true) : ltAll n v.list = true := by
  cases v with
  | c x => exact ltAll_of fun c hc => by rcases List.mem_singleton.1 hc with rfl; exact hl
  | agg cs => exact hl
  | tup vs => rfl
  | un => rfl
theorem fillS_ok (h : RepV X e S a w) {place placeP : Nat → Option (Nat × Nat)} (hpl : ∀ i p, place i = some p → placeP i = some p) : ∀ (parts : List (Nat × Operand)) (cs cs' : List C), ltAll S.nx cs = true → fillS S place cs parts = some cs' →
    ltAll S.nx cs' = true ∧ Instr.fill placeP (cs.map (C.den e)).toArray (parts.map fun (i, x) => (i, a.eval x)) = some (cs'.map (C.den e)).toArray
  | [], cs, cs', hl, hf => by
    simp only [fillS, Option.some.injEq] at hf
    subst hf
    exact ⟨hl, rfl⟩
  | (i, x) :: r, cs, cs', hl, hf => by
    simp only [fillS] at hf
    split at hf
    · rename_i v hv
      have key : v.plain = true → (match place i with
          | some (off, size) => (match Nat.beq v.list.length size with
            | true => (match Nat.ble (off + v.list.length) cs.length with
              | true => fillS S place (splice cs off v.list) r
              | false => none)
            | false => none)
          | none => none) = some cs' → ltAll S.nx cs' = true ∧ Instr.fill placeP (cs.map (C.den e)).toArray (((i, x) :: r).map fun (i, x) => (i, a.eval x)) = some (cs'.map (C.den e)).toArray := by
        intro hp hf
        split at hf
        · rename_i off size hpi
          split at hf
          · rename_i hsz
            split at hf
            · rename_i hle
              obtain ⟨hd, hlv⟩ := h.ev_den hv
              have hsz : v.list.length = size := Nat.eq_of_beq_eq_true hsz
              have hle : off + v.list.length ≤ cs.length := Nat.le_of_ble_eq_true hle
              obtain ⟨h1, h2⟩ := fillS_ok h hpl r _ _ (lt_splice _ _ _ hl (SV.list_lt hlv)) hf
              refine ⟨h1, ?_⟩
              rw [← h2]
              have hc := cells_den h.one hp hlv
              simp only [List.map_cons, hd, Instr.fill, hpl i _ hpi, hc]
              rw [if_neg (by simp; omega)]
              congr 1
              apply Array.ext'
              have hft := foldl_toList (v.list.map (C.den e)) off 0 (cs.map (C.den e)).toArray
              rw [map_splice, splice_fold, ← Array.foldl_toList, Array.toList_zipIdx]
              exact hft
            · cases hf
          · cases hf
        · cases hf
      cases v with
      | c y => exact key rfl hf
      | agg y => exact key rfl hf
      | tup y => cases hf
      | un => cases hf
    · cases hf
/-- All of a struct's places. -/
def placesS (T : Tab) : List Field → Option (List (Nat × Nat))
  | [] => some []
  | f :: r => (match get T f.type with
    | some fi => (match placesS T r with
      | some l => some ((f.offset, fi.size) :: l)
      | none => none)
    | none => none)
theorem run_places (hT : TabOk X.P X.T) (w : World) : ∀ (fs : List Field) (l : List (Nat × Nat)), placesS X.T fs = some l → (List.mapM (fun f : Field => Functor.map (Prod.mk f.offset) (sizeOf f.type)) fs).run X.P w = .ok l w
  | [], l, h => by
    simp only [placesS, Option.some.injEq] at h
    subst h
    simp
  | f :: r, l, h => by
    simp only [placesS] at h
    split at h
    · rename_i fi hfi
      split at h
      · rename_i l' hl'
        simp only [Option.some.injEq] at h
        subst h
        obtain ⟨_, j, hj, _, hjs, _, _⟩ := TabOk.get hT hfi
        simp [run_sizeOf hj, hjs, run_places hT w r l' hl']
      · cases h
    · cases h
theorem run_zeroValue {P : Program} {t : TypeId} {j : TypeInfo} {z : Value} (hi : P.info? t = some j) (hz : j.zero = some z) (w : World) : (zeroValue t).run P w = .ok z w := by
  simp [zeroValue, typeInfo, hi, hz]
def zeroS (z : Value) : List C := z.cells.toList.map C.v
theorem zeroS_den (e : Env) (z : Value) : (zeroS z).map (C.den e) = z.cells.toList := by
  simp only [zeroS, List.map_map]
  exact List.map_id _
theorem zeroS_lt {n : Nat} {z : Value} (h : z.cells.toList.all Value.oneCell' = true) : ltAll n (zeroS z) = true :=
  ltAll_v fun x hx => List.all_eq_true.1 h x hx
def xvBuild (X : Cx) (S : St) (t : Nat) (parts : List (Nat × Operand)) (K : SV → Prop) : Prop := match get X.T t with
  | some ti => (match ti.zero.cells.toList.all Value.oneCell' with
    | true => (match ti.d with
      | .struct fs => (match placesS X.T fs.toList with
        | some l => (match fillS S (fun i => l[i]?) (zeroS ti.zero) parts with
          | some cs => K (.agg cs)
          | none => False)
        | none => False)
      | .array _ el => (match get X.T el with
        | some ei => (match fillS S (fun i => some (i * ei.size, ei.size)) (zeroS ti.zero) parts with
          | some cs => K (.agg cs)
          | none => False)
        | none => False)
      | _ => False)
    | false => False)
  | none => False
theorem build_ok (hT : TabOk X.P X.T) (e : Env) (a : Act) {o : Oper} {t : Nat} {parts : Array (Nat × Operand)} {K : SV → Prop} (ho : o.op = .build t parts) (hk : xvBuild X S t parts.toList K) : Yv X e S a o K := by
  obtain ⟨parts⟩ := parts
  unfold xvBuild at hk
  split at hk
  · rename_i ti hti
    obtain ⟨hu, j, hj, hjz, hjs, _, _⟩ := TabOk.get hT hti
    split at hk
    · rename_i hz
      split at hk
      · rename_i fs hd
        rw [hd] at hu
        split at hk
        · rename_i l hl
          split at hk
          · rename_i cs hcs
            refine ⟨_, hk, fun w h => ?_⟩
            obtain ⟨h1, h2⟩ := fillS_ok h (placeP := fun i => l[i]?) (fun i p hp => hp) _ _ _ (zeroS_lt hz) hcs
            refine ⟨h1, ?_⟩
            rw [zeroS_den] at h2
            have hp := run_places hT w fs.toList l hl
            have hp2 : (Array.mapM (fun f : Field => Functor.map (Prod.mk f.offset) (sizeOf f.type)) fs).run X.P w = .ok l.toArray w := by
              rw [← Array.toArray_toList (xs := fs), List.mapM_toArray]
              simp [hp]
            simp only [Array.toArray_toList] at h2
            simp [execOp, ho, Instr.build, run_zeroValue hj hjz, run_underlying hu, hp2, h2, SV.den]
          · exact hk.elim
        · exact hk.elim
      · rename_i n el hd
        rw [hd] at hu
        split at hk
        · rename_i ei hei
          obtain ⟨_, je, hje, _, hjes, _, _⟩ := TabOk.get hT hei
          split at hk
          · rename_i cs hcs
            refine ⟨_, hk, fun w h => ?_⟩
            obtain ⟨h1, h2⟩ := fillS_ok h (placeP := fun i => some (i * ei.size, ei.size)) (fun i p hp => hp) _ _ _ (zeroS_lt hz) hcs
            refine ⟨h1, ?_⟩
            rw [zeroS_den] at h2
            simp only [Array.toArray_toList] at h2
            simp [execOp, ho, Instr.build, run_zeroValue hj hjz, run_underlying hu, run_sizeOf hje, hjes, h2, SV.den]
          · exact hk.elim
        · exact hk.elim
      · exact hk.elim
    · exact hk.elim
  · exact hk.elim

/-! ### What an operation does -/
theorem semAt_of {ro : Option Nat} {ρ : Operand → Value} {o : Oper} {P : Program} {w w' : World} {n : Next} (h : (execOp ρ o).run P w = .ok n w') (hn : ∀ d, n ≠ .defer d) : (Oper.semAt ro ρ o).run P w = .ok n w' := by
  rw [Oper.semAt_eq ro ρ o fun c hc => ?_]
  · exact h
  · simp only [execOp, hc, Sem.run_bind] at h
    generalize (resolve ρ c o.type).run P w = r at h
    cases r with
    | ok d w1 =>
      simp only [Result.andThen_ok, Sem.run_pure] at h
      injection h with h
      exact hn d h.symm
    | halt x w1 => cases h
/-- The operation is carried out, and what is known behind it satisfies K. -/
def Wv (X : Cx) (a : Act) (w : World) (o : Oper) (K : St → Prop) : Prop :=
  ∀ (KK : Act → World → Prop) (Q : Exit → Act → World → Prop), (∀ e' S' a' w', Rep X e' S' a' w' → K S' → KK a' w') → o.wpIn X.fen 0 X.P a w KK Q
theorem wpo_value {o : Oper} {v : Value} {w' : World} {KK : Act → World → Prop} {Q : Exit → Act → World → Prop} (hrun : (execOp a.eval o).run X.P w = .ok (.value v) w') (h : KK (a.put o.dst v) w') : o.wpIn X.fen 0 X.P a w KK Q := by
  refine ⟨fun f _ => fen_fn _ f, ?_⟩
  rw [semAt_of hrun (fun d hd => by cases hd)]
  exact h
theorem wpo_skip {o : Oper} {w' : World} {KK : Act → World → Prop} {Q : Exit → Act → World → Prop} (hrun : (execOp a.eval o).run X.P w = .ok .skip w') (h : KK (a.put o.dst undef) w') : o.wpIn X.fen 0 X.P a w KK Q := by
  refine ⟨fun f _ => fen_fn _ f, ?_⟩
  rw [semAt_of hrun (fun d hd => by cases hd)]
  exact h
theorem Yv.wv (h : Rep X e S a w) {o : Oper} (hd : dstOk X.nt o.dst = true) {K : St → Prop} (hy : Yv X e S a o fun v => K (S.put o.dst v)) : Wv X a w o K := by
  intro KK Q hKK
  obtain ⟨v, hK, hyv⟩ := hy
  obtain ⟨hl, hrun⟩ := hyv w h.v
  exact wpo_value hrun (hKK _ _ _ _ (h.put hd hl) hK)

theorem run_newVar' (P : Program) (t : TypeId) (v : Value) (w : World) : (newVar t v).run P w = .ok ⟨w.heap.size, 0, none⟩ (w.alloc (.cells v.cells t)) := rfl
theorem run_newRow' (P : Program) (t : TypeId) (cs : Array Value) (w : World) : (newRow t cs).run P w = .ok ⟨w.heap.size, 0, none⟩ (w.alloc (.cells cs t)) := rfl
/-- A new variable. -/
theorem new_ok (h : Rep X e S a w) {o : Oper} (hd : dstOk X.nt o.dst = true) {ty : Nat} {cs : List C} (hl : ltAll S.nx cs = true) {K : St → Prop} (hk : K ((S.new (.cells ty cs)).put o.dst (.c (.loc S.nx 0))))
    (hrun : (execOp a.eval o).run X.P w = .ok (.value (.pointer (some ⟨w.heap.size, 0, none⟩))) (w.alloc (.cells (cs.map (C.den e)).toArray ty))) : Wv X a w o K := by
  intro KK Q hKK
  refine wpo_value hrun ?_
  have hr := h.alloc ty cs hl
  have hp := hr.put (d := o.dst) (v := .c (.loc S.nx 0)) hd (blt_iff.2 (Nat.lt_succ_self _))
  simp only [SV.den, C.den, if_pos] at hp
  exact hKK _ _ _ _ hp hk
def xBox (S : St) (d : Option Nat) (t : Nat) (x : Operand) (K : St → Prop) : Prop := match S.ev x with
  | some v => (match v.plain with
    | true => K ((S.new (.cells t v.list)).put d (.c (.loc S.nx 0)))
    | false => False)
  | none => False
theorem box_ok (h : Rep X e S a w) {o : Oper} (hd : dstOk X.nt o.dst = true) {t : Nat} {x : Operand} {K : St → Prop} (ho : o.op = .box t x) (hk : xBox S o.dst t x K) : Wv X a w o K := by
  unfold xBox at hk
  split at hk
  · rename_i v hx
    split at hk
    · rename_i hp
      obtain ⟨hdx, hl⟩ := h.ev_den hx
      refine new_ok h hd (SV.list_lt hl) hk ?_
      have hc := cells_den h.one hp hl
      simp [execOp, ho, hdx, Instr.box, run_newVar', hc]
    · exact hk.elim
  · exact hk.elim
def xAlloc (X : Cx) (S : St) (d : Option Nat) (t : Nat) (K : St → Prop) : Prop := match get X.T t with
  | some ti => (match ti.zero.cells.toList.all Value.oneCell' with
    | true => K ((S.new (.cells t (zeroS ti.zero))).put d (.c (.loc S.nx 0)))
    | false => False)
  | none => False
theorem alloc_ok (hT : TabOk X.P X.T) (h : Rep X e S a w) {o : Oper} (hd : dstOk X.nt o.dst = true) {t : Nat} {K : St → Prop} (ho : o.op = .alloc t) (hk : xAlloc X S o.dst t K) : Wv X a w o K := by
  unfold xAlloc at hk
  split at hk
  · rename_i ti hti
    split at hk
    · rename_i hz
      obtain ⟨hu, j, hj, hjz, hjs, _, _⟩ := TabOk.get hT hti
      refine new_ok h hd (zeroS_lt hz) hk ?_
      rw [zeroS_den]
      simp [execOp, ho, Instr.alloc, run_zeroValue hj hjz, run_newVar']
    · exact hk.elim
  · exact hk.elim

/-! ### Functions with what they captured -/
def evsC (S : St) : List Operand → Option (List C)
  | [] => some []
  | x :: r => match S.ev x with
    | some (.c c) => (match evsC S r with
      | some l => some (c :: l)
      | none => none)
    | _ => none
theorem evsC_den (h : RepV X e S a w) : ∀ {xs : List Operand} {l : List C}, evsC S xs = some l → xs.map a.eval = l.map (C.den e) ∧ ltAll S.nx l = true
  | [], l, hl => by cases hl; exact ⟨rfl, rfl⟩
  | x :: r, l, hl => by
    simp only [evsC] at hl
    split at hl
    · rename_i v hv
      split at hl
      · rename_i l' hl'
        cases hl
        obtain ⟨h1, h2⟩ := evsC_den h hl'
        obtain ⟨h3, h4⟩ := h.ev_den hv
        refine ⟨by simp only [List.map_cons, h3, h1, SV.den], ltAll_of fun c hc => ?_⟩
        rcases List.mem_cons.1 hc with rfl | hc
        · exact h4
        · exact ltAll_mem h2 c hc
      · cases hl
    · cases hl
def xMakeFunc (S : St) (d : Option Nat) (fn : Fn) (first captured : List Operand) (K : St → Prop) : Prop := match fn with
  | .func f => (match first with
    | [] => (match evsC S captured with
      | some [] => K (S.put d (.c (.v (.func (.func f) #[] #[]))))
      | some cs => K ((S.new (.fn f cs)).put d (.c (.row S.nx)))
      | none => False)
    | _ => False)
  | _ => False
theorem makeFunc_ok (h : Rep X e S a w) {o : Oper} (hd : dstOk X.nt o.dst = true) {fn : Fn} {first captured : Array Operand} {K : St → Prop} (ho : o.op = .makeFunc fn first captured) (hk : xMakeFunc S o.dst fn first.toList captured.toList K) : Wv X a w o K := by
  intro KK Q hKK
  obtain ⟨first⟩ := first
  obtain ⟨captured⟩ := captured
  unfold xMakeFunc at hk
  split at hk
  · rename_i f
    split at hk
    · rename_i hf
      simp only at hf
      subst hf
      have run : ∀ l, evsC S captured = some l → (execOp a.eval o).run X.P w = .ok (.value (.func (.func f) #[] (l.map (C.den e)).toArray)) w := fun l hl => by
        obtain ⟨h1, _⟩ := evsC_den h.v hl
        simp [execOp, ho, Instr.makeFunc, h1]
      split at hk
      · rename_i hl
        exact wpo_value (run _ hl) (hKK _ _ _ _ (h.put (v := .c (.v (.func (.func f) #[] #[]))) hd rfl) hk)
      · rename_i cs _ hl
        have hR := h.newFn (f := f) (cs := cs) (evsC_den h.v hl).2
        have hp := hR.put (d := o.dst) (v := .c (.row S.nx)) hd (blt_iff.2 (Nat.lt_succ_self _))
        simp only [SV.den, C.den, Env.withRow_rv] at hp
        exact wpo_value (run _ hl) (hKK _ _ _ _ hp hk)
      · exact hk.elim
    · exact hk.elim
  · exact hk.elim

/-! ### Stores -/
theorem heap_setCells (g : Nat) (ty : TypeId) : ∀ (vs : List Value) (o : Nat) (w : World) (cs : List Value), w.heap[g]? = some (.cells cs.toArray ty (0, 0)) →
    (w.setCells g o vs).heap[g]? = some (.cells (splice cs o vs).toArray ty (0, 0))
  | [], o, w, cs, h => h
  | v :: r, o, w, cs, h => by
    have h1 := heap_setCell_same w g o cs.toArray ty v h
    rw [World.setCells, splice]
    exact heap_setCells g ty r (o + 1) (w.setCell ⟨g, o, none⟩ v) (cs.set o v) (by rw [h1]; simp)
theorem size_setCells (g : Nat) : ∀ (vs : List Value) (o : Nat) (w : World), (w.setCells g o vs).heap.size = w.heap.size
  | [], _, _ => rfl
  | v :: r, o, w => by rw [World.setCells, size_setCells g r]; simp [World.setCell]
theorem streams_setCells (g : Nat) : ∀ (vs : List Value) (o : Nat) (w : World), (w.setCells g o vs).os = w.os ∧ (w.setCells g o vs).tape = w.tape ∧ (w.setCells g o vs).output = w.output
  | [], _, _ => ⟨rfl, rfl, rfl⟩
  | v :: r, o, w => by rw [World.setCells]; exact streams_setCells g r (o + 1) _
theorem heap_setCells_far (g : Nat) {i : Nat} (hi : i ≠ g) : ∀ (vs : List Value) (o : Nat) (w : World), (w.setCells g o vs).heap[i]? = w.heap[i]?
  | [], _, _ => rfl
  | v :: r, o, w => by rw [World.setCells, heap_setCells_far g hi r]; exact heap_setCell_other w _ _ _ hi
theorem run_storeAt {P : Program} {t : TypeId} {j : TypeInfo} (hi : P.info? t = some j) {b o : Nat} {v : Value} {vs : List Value} (hv : v.cells = vs.toArray) (hs : vs.length = j.size) (ty : TypeId) (cs : List Value) {w : World} (hb : w.heap[b]? = some (.cells cs.toArray ty (0, 0)))
    (hle : o + vs.length ≤ cs.length) (h1 : ∀ u ∈ vs, u.oneCell' = true) : (Instr.storeAt t (.pointer (some ⟨b, o, none⟩)) v).run P w = .ok () (w.setCells b o vs) := by
  have hst := run_storeCells_cells (P := P) b o vs 0 w (fun k hk => by
    rw [cell_of_row w b _ cs.toArray ty (0, 0) hb]
    simp
    omega) (fun k hk => frozen_of_row w b _ cs.toArray ty hb) h1
  simp only [Nat.add_zero] at hst
  simp [Instr.storeAt, Instr.sureAddr, storeVar, hv, run_sizeOf hi, hs, hst]
/-- Entry k becomes b0: its block's cells are other ones. -/
theorem Rep.write (h : Rep X e S a w) {k g : Nat} {b b0 : Blk} (hk : get S.H k = some b) (hg : b.foot e k g) (hl0 : b0.lt S.nx) {o : Nat} {vs : List Value} (hfoot : ∀ x, b0.foot e k x → b.foot e k x) (hnew : b0.holds S.F X e k (w.setCells g o vs)) : Rep X e (S.setH k b0) a (w.setCells g o vs) := by
  have hst := streams_setCells g vs o w
  exact h.step (k0 := k) (b0 := b0) (Env.same.refl _ _) rfl (Nat.le_refl _) (h.hlt k _ hk).1 hl0 hst.1 hst.2.1 hst.2.2 (by rw [size_setCells]; exact Nat.le_refl _)
    (fun x hx => heap_setCells_far _ (fun e1 => by subst e1; exact h.not_kept hk hg hx) _ _ _) h.one hnew (fun x hx => h.not_kept hk (hfoot x hx))
def storeEl (xs : Els) (i o : Nat) (cs : List C) (K : Els → Prop) : Prop := match xs with
  | .vs l => (match plainVals cs with
    | some vals => elP l i fun c => (match Nat.ble (o + cs.length) c.length with
      | true => K (.vs (l.set i (splice c o vals)))
      | false => False)
    | none => elP l i fun c => (match Nat.ble (o + cs.length) c.length with
      | true => K (.cs ((l.map fun c => c.map C.v).set i (splice (c.map C.v) o cs)))
      | false => False))
  | .cs l => elcP l i fun c => (match Nat.ble (o + cs.length) c.length with
    | true => K (.cs (l.set i (splice c o cs)))
    | false => False)
theorem storeEl_get (e : Env) {xs : Els} {i o n : Nat} {cs : List C} {K : Els → Prop} (h : storeEl xs i o cs K) (hl : xs.lt n) (hc : ltAll n cs = true) :
    ∃ (ys : Els) (c : List Value), K ys ∧ ys.lt n ∧ (xs.den e)[i]? = some c ∧ o + cs.length ≤ c.length ∧ ys.den e = (xs.den e).set i (splice c o (cs.map (C.den e))) := by
  cases xs with
  | vs l =>
    simp only [storeEl] at h
    split at h
    · rename_i vals hv
      obtain ⟨c, hci, h⟩ := el_get h
      split at h
      · rename_i hle
        have hcs := plainVals_eq hv
        refine ⟨_, c, h, fun d hd u hu => ?_, hci, Nat.le_of_ble_eq_true hle, by rw [hcs, map_den_v']; rfl⟩
        rcases List.mem_or_eq_of_mem_set hd with hd | rfl
        · exact hl d hd u hu
        · rcases mem_splice _ _ _ u hu with hu | hu
          · exact hl c (List.mem_of_getElem? hci) u hu
          · rw [hcs] at hc
            exact ltAll_mem hc (.v u) (List.mem_map_of_mem hu)
      · exact h.elim
    · obtain ⟨c, hci, h⟩ := el_get h
      split at h
      · rename_i hle
        refine ⟨_, c, h, fun d hd => ?_, hci, Nat.le_of_ble_eq_true hle, ?_⟩
        · rcases List.mem_or_eq_of_mem_set hd with hd | rfl
          · obtain ⟨d', hd', rfl⟩ := List.mem_map.1 hd
            exact ltAll_v (hl d' hd')
          · exact lt_splice _ _ _ (ltAll_v (hl c (List.mem_of_getElem? hci))) hc
        · simp only [Els.den, List.map_set, List.map_map, map_splice]
          congr 1
          · exact (List.map_congr_left fun c _ => show (c.map C.v).map (C.den e) = c from map_den_v' e c).trans (List.map_id' l)
          · rw [← List.map_map, map_den_v']
      · exact h.elim
  | cs l =>
    obtain ⟨c, hci, h⟩ := elc_get h
    split at h
    · rename_i hle
      refine ⟨_, c.map (C.den e), h, fun d hd => ?_, ?_, by rw [List.length_map]; exact Nat.le_of_ble_eq_true hle, ?_⟩
      · rcases List.mem_or_eq_of_mem_set hd with hd | rfl
        · exact hl d hd
        · exact lt_splice _ _ _ (hl c (List.mem_of_getElem? hci)) hc
      · simp [Els.den, hci]
      · simp only [Els.den, List.map_set, map_splice]
    · exact h.elim
theorem set_szs {α : Type} {sz : Nat} {xs : List (List α)} (h : ∀ c ∈ xs, c.length = sz) {i : Nat} {c : List α} (hc : xs[i]? = some c) (o : Nat) (vs : List α) : ∀ d ∈ xs.set i (splice c o vs), d.length = sz := fun d hd => by
  rcases List.mem_or_eq_of_mem_set hd with hd | rfl
  · exact h d hd
  · rw [length_splice]; exact h c (List.mem_of_getElem? hc)
/-- A row's cells are other ones. -/
theorem OwnB.setEl {ety esz g cap i o : Nat} {xs : List (List Value)} {c vs : List Value} (h : OwnB w ety esz g cap xs) (hc : xs[i]? = some c) (hl : o + vs.length ≤ c.length) (hv1 : ∀ u ∈ vs, u.oneCell' = true) :
    OwnB (w.setCells g (i * esz + o) vs) ety esz g cap (xs.set i (splice c o vs)) ∧ (∃ cur : List Value, w.heap[g]? = some (.cells cur.toArray ety (0, 0)) ∧ i * esz + o + vs.length ≤ cur.length) := by
  obtain ⟨h1, h2, h3, h4, cur, h5, h6, h7, h8⟩ := h
  have h5' : w.heap[g]? = some (.cells cur.toList.toArray ety (0, 0)) := by simpa using h5
  have hi : i < xs.length := (List.getElem?_eq_some_iff.1 hc).1
  have hce := h1 c (List.mem_of_getElem? hc)
  refine ⟨⟨set_szs h1 hc o vs, by simpa using h2, h3, h4, _, heap_setCells g ety vs _ w _ h5', by simp [length_splice, h6], ?_, fun u hu => ?_⟩, _, h5', ?_⟩
  · rw [List.length_set, take_splice, h7]
    exact splice_flat h1 hc hl
  · rcases mem_splice _ _ _ u hu with hu | hu
    · exact h8 u hu
    · exact hv1 u hu
  · have : (i + 1) * esz ≤ cap * esz := Nat.mul_le_mul_right _ (by omega)
    rw [Nat.add_mul, Nat.one_mul] at this
    simp
    omega
def xStore (X : Cx) (S : St) (d : Option Nat) (t : Nat) (p x : Operand) (K : St → Prop) : Prop := match get X.T t with
  | some ti => (match S.ev x with
    | some v => (match v.plain with
      | true => (match Nat.beq v.list.length ti.size with
        | true => (match S.ev p with
          | some (.c (.loc k o)) => (match get S.H k with
            | some (.cells ty cs) => (match Nat.ble (o + v.list.length) cs.length with
              | true => K ((S.setH k (.cells ty (splice cs o v.list))).put d .un)
              | false => False)
            | _ => False)
          | some (.c (.ep k i o)) => (match get S.H k with
            | some (.row ety esz n xs) => storeEl xs i o v.list fun ys => K ((S.setH k (.row ety esz n ys)).put d .un)
            | some (.buf ety esz cap xs) => storeEl xs i o v.list fun ys => K ((S.setH k (.buf ety esz cap ys)).put d .un)
            | _ => False)
          | _ => False)
        | false => False)
      | false => False)
    | none => False)
  | none => False
theorem store_ok (hT : TabOk X.P X.T) (h : Rep X e S a w) {o : Oper} (hd : dstOk X.nt o.dst = true) {t : Nat} {p x : Operand} {K : St → Prop} (ho : o.op = .store t p x) (hk : xStore X S o.dst t p x K) : Wv X a w o K := by
  intro KK Q hKK
  unfold xStore at hk
  split at hk
  · rename_i ti hti
    obtain ⟨hu, j, hj, hjz, hjs, _, _⟩ := TabOk.get hT hti
    split at hk
    · rename_i v hx
      split at hk
      · rename_i hp
        split at hk
        · rename_i hsz
          have hsz : v.list.length = ti.size := Nat.eq_of_beq_eq_true hsz
          obtain ⟨hdx, hl⟩ := h.ev_den hx
          have hll := SV.list_lt hl
          have hc := cells_den h.one hp hl
          have h1 : ∀ u ∈ v.list.map (C.den e), u.oneCell' = true := fun u hu => by
            obtain ⟨c, hc, rfl⟩ := List.mem_map.1 hu
            exact C.one_of h.one (ltAll_mem hll c hc)
          split at hk
          · rename_i k o' hpp
            have hdp := (h.ev_den hpp).1
            simp only [SV.den, C.den] at hdp
            split at hk
            · rename_i ty cs hH
              split at hk
              · rename_i hle
                have hle : o' + v.list.length ≤ cs.length := Nat.le_of_ble_eq_true hle
                have hb : w.heap[e.ad k]? = some (.cells (cs.map (C.den e)).toArray ty (0, 0)) := h.hp k _ hH
                have hrun := run_storeAt (o := o') hj hc (by simpa [hjs] using hsz) ty _ hb (by simpa using hle) h1
                refine wpo_skip (show (execOp a.eval o).run X.P w = .ok .skip (w.setCells (e.ad k) o' (v.list.map (C.den e))) by simp [execOp, ho, hdx, hdp, hrun]) ?_
                have hr := h.write (o := o') (vs := v.list.map (C.den e)) hH (b0 := .cells ty (splice cs o' v.list)) (g := e.ad k) rfl (lt_splice _ _ _ (h.hlt k _ hH).2 hll) (fun _ hx => hx) (by
                  show (w.setCells (e.ad k) o' (v.list.map (C.den e))).heap[e.ad k]? = some (.cells ((splice cs o' v.list).map (C.den e)).toArray ty (0, 0))
                  rw [map_splice]
                  exact heap_setCells _ _ _ _ _ _ hb)
                exact hKK _ _ _ _ (hr.put hd rfl) hk
              · exact hk.elim
            · exact hk.elim
          · rename_i k i o' hpp
            have hdp := (h.ev_den hpp).1
            simp only [SV.den, C.den] at hdp
            have main : ∀ (g ety cap : Nat) (c : List Value) (ys xs : Els) (b b0 : Blk), get S.H k = some b → b.foot e k g → b0.lt S.nx → (∀ x, b0.foot e k x → b.foot e k x) → e.ra k = ⟨g, 0, none⟩ → OwnB w ety (e.es k) g cap (xs.den e) → (xs.den e)[i]? = some c → o' + v.list.length ≤ c.length → ys.den e = (xs.den e).set i (splice c o' (v.list.map (C.den e))) →
                (∀ w', OwnB w' ety (e.es k) g cap (ys.den e) → b0.holds S.F X e k w') → K ((S.setH k b0).put o.dst .un) → o.wpIn X.fen 0 X.P a w KK Q := by
              intro g ety cap c ys xs b b0 hH hfoot hlt0 hff hra hown hci hlc hys hnew hK
              obtain ⟨hown', cur, hcur, hle⟩ := hown.setEl (o := o') (vs := v.list.map (C.den e)) hci (by simpa using hlc) h1
              rw [hra, addr_mid] at hdp
              have hrun := run_storeAt (o := i * e.es k + o') hj hc (by simpa [hjs] using hsz) ety _ hcur hle h1
              refine wpo_skip (show (execOp a.eval o).run X.P w = .ok .skip (w.setCells g (i * e.es k + o') (v.list.map (C.den e))) by simp [execOp, ho, hdx, hdp, hrun]) ?_
              rw [← hys] at hown'
              exact hKK _ _ _ _ ((h.write hH hfoot hlt0 hff (hnew _ hown')).put hd rfl) hK
            split at hk
            · rename_i ety esz n xs hH
              obtain ⟨ys, c, hK, hylt, hci, hlc, hys⟩ := storeEl_get e hk (h.hlt k _ hH).2 hll
              obtain ⟨hown, hes, hra⟩ := h.hp k _ hH
              subst hes
              rcases hown.2.2 with ⟨A, hv, hn⟩ | ⟨g, cap, hv, hb⟩
              · have := (List.getElem?_eq_some_iff.1 hci).1
                rw [hown.1] at this
                omega
              · refine main g ety cap c ys xs _ (.row ety (e.es k) n ys) hH ⟨_, _, _, hv, hb.2.2.2.1, rfl⟩ hylt (fun x hx => hx) (hra _ _ _ hv) hb hci hlc hys (fun w' hw' => ⟨⟨?_, hw'.1, .inr ⟨g, cap, hv, hw'⟩⟩, rfl, hra⟩) hK
                rw [hys, List.length_set]; exact hown.1
            · rename_i ety esz cap xs hH
              obtain ⟨ys, c, hK, hylt, hci, hlc, hys⟩ := storeEl_get e hk (h.hlt k _ hH).2 hll
              obtain ⟨hown, hes, hcp, hra⟩ := h.hp k _ hH
              subst hes
              exact main (e.ad k) ety cap c ys xs _ (.buf ety (e.es k) cap ys) hH rfl hylt (fun x hx => hx) hra hown hci hlc hys (fun w' hw' => ⟨hw', rfl, hcp, hra⟩) hK
            · exact hk.elim
          · exact hk.elim
        · exact hk.elim
      · exact hk.elim
    · exact hk.elim
  · exact hk.elim
end
end Go.Proofs.Yteldohidnepaoaa.Sy
