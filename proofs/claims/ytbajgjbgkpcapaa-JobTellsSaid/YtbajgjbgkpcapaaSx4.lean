/-
  The symbolic executor, 4: literals of structs and arrays; operations that change the world: new variables, stores, slices of the call's own, append.
-/
import Derived.Test.YtbajgjbgkpcapaaSx3
namespace Go.Proofs.Ytbajgjbgkpcapaa.Sx
open Go Go.RowKit
section
variable {X : Cx} {e : Env} {S : St} {a : Act} {w : World}

/-! ### Literals -/
theorem length_splice : ∀ (vs cs : List C) (o : Nat), (splice cs o vs).length = cs.length
  | [], _, _ => rfl
  | v :: r, cs, o => by rw [splice, length_splice r]; simp
theorem lt_splice {n : Nat} : ∀ (vs cs : List C) (o : Nat), ltAll n cs = true → ltAll n vs = true → ltAll n (splice cs o vs) = true
  | [], _, _, h, _ => h
  | v :: r, cs, o, h, hv => by
    rw [splice]
    refine lt_splice r _ _ (ltAll_of fun c hc => ?_) (ltAll_of fun c hc => ltAll_mem hv c (by simp [hc]))
    rcases List.mem_or_eq_of_mem_set hc with hc | rfl
    · exact ltAll_mem h c hc
    · exact ltAll_mem hv c (by simp)
theorem map_splice (f : C → Value) : ∀ (vs cs : List C) (o : Nat), (splice cs o vs).map f = (vs.map f).zipIdx.foldl (fun cs (x : Value × Nat) => cs.set (o + x.2) x.1) (cs.map f)
  | [], _, _ => rfl
  | v :: r, cs, o => by
    rw [splice, map_splice f r]
    simp only [List.map_cons, List.map_set, List.zipIdx_cons, List.foldl_cons, Nat.add_zero]
    have : ∀ (l : List Value) (k : Nat) (c : List Value), (l.zipIdx k).foldl (fun (cs : List Value) (x : Value × Nat) => cs.set (o + 1 + x.2) x.1) c = (l.zipIdx (k + 1)).foldl (fun cs (x : Value × Nat) => cs.set (o + x.2) x.1) c := by
      intro l
      induction l with
      | nil => intro k c; rfl
      | cons y l ih =>
        intro k c
        simp only [List.zipIdx_cons, List.foldl_cons]
        rw [ih, show o + 1 + k = o + (k + 1) by omega]
    exact this _ 0 _
theorem foldl_toList (vs : List Value) (o : Nat) : ∀ (k : Nat) (c : Array Value), ((vs.zipIdx k).foldl (fun cs (x : Value × Nat) => cs.setIfInBounds (o + x.2) x.1) c).toList = (vs.zipIdx k).foldl (fun cs (x : Value × Nat) => cs.set (o + x.2) x.1) c.toList := by
  induction vs with
  | nil => intro k c; rfl
  | cons v r ih =>
    intro k c
    simp only [List.zipIdx_cons, List.foldl_cons]
    rw [ih]
    simp
def SV.plain : SV → Bool
  | .c _ => true
  | .agg _ => true
  | .tup _ => false
  | .un => false
theorem cells_den {n : Nat} (ho : ∀ k, (e.rv k).oneCell' = true) {v : SV} (hp : v.plain = true) (hl : v.lt n = true) : (v.den e).cells = (v.list.map (C.den e)).toArray := by
  cases v with
  | c x =>
    have := C.one_of (X1 := n) ho (c := x) hl
    simp only [SV.den, SV.list, List.map_cons, List.map_nil]
    cases hx : x.den e <;> first | rfl | (rw [hx] at this; cases this)
  | agg cs => rfl
  | tup vs => cases hp
  | un => cases hp
theorem SV.list_lt {n : Nat} {v : SV} (hl : v.lt n = true) : ltAll n v.list = true := by
  cases v with
  | c x => exact ltAll_of fun c hc => by rcases List.mem_singleton.1 hc with rfl; exact hl
  | agg cs => exact hl
  | tup vs => rfl
  | un => rfl
theorem fillS_ok (h : RepV X e S a w) {place placeP : Nat → Option (Nat × Nat)} (hpl : ∀ i p, place i = some p → placeP i = some p) : ∀ (parts : List (Nat × Operand)) (cs cs' : List C), ltAll S.nx cs = true → fillS S place cs parts = some cs' →
    ltAll S.nx cs' = true ∧ Instr.fill placeP (cs.map (C.den e)).toArray (parts.map fun (i, x) => (i, a.eval x)) = some (cs'.map (C.den e)).toArray
  | [], cs, cs', hl, hf => by
    simp only [fillS, Option.some.injEq] at hf
    subst hf
    exact ⟨hl, rfl⟩
  | (i, x) :: r, cs, cs', hl, hf => by
    simp only [fillS] at hf
    split at hf
    · rename_i v hv
      have key : v.plain = true → (match place i with
          | some (off, size) => (match Nat.beq v.list.length size with
            | true => (match Nat.ble (off + v.list.length) cs.length with
              | true => fillS S place (splice cs off v.list) r
              | false => none)
            | false => none)
          | none => none) = some cs' → ltAll S.nx cs' = true ∧ Instr.fill placeP (cs.map (C.den e)).toArray (((i, x) :: r).map fun (i, x) => (i, a.eval x)) = some (cs'.map (C.den e)).toArray := by
        intro hp hf
        split at hf
        · rename_i off size hpi
          split at hf
          · rename_i hsz
            split at hf
            · rename_i hle
              obtain ⟨hd, hlv⟩ := h.ev_den hv
              have hsz : v.list.length = size := Nat.eq_of_beq_eq_true hsz
              have hle : off + v.list.length ≤ cs.length := Nat.le_of_ble_eq_true hle
              obtain ⟨h1, h2⟩ := fillS_ok h hpl r _ _ (lt_splice _ _ _ hl (SV.list_lt hlv)) hf
              refine ⟨h1, ?_⟩
              rw [← h2]
              have hc := cells_den h.one hp hlv
              simp only [List.map_cons, hd, Instr.fill, hpl i _ hpi, hc]
              rw [if_neg (by simp; omega)]
              congr 1
              apply Array.ext'
              have hft := foldl_toList (v.list.map (C.den e)) off 0 (cs.map (C.den e)).toArray
              rw [map_splice, ← Array.foldl_toList, Array.toList_zipIdx]
              exact hft
            · cases hf
          · cases hf
        · cases hf
      cases v with
      | c y => exact key rfl hf
      | agg y => exact key rfl hf
      | tup y => cases hf
      | un => cases hf
    · cases hf
/-- All of a struct's places. -/
def placesS (T : Tab) : List Field → Option (List (Nat × Nat))
  | [] => some []
  | f :: r => (match get T f.type with
    | some fi => (match placesS T r with
      | some l => some ((f.offset, fi.size) :: l)
      | none => none)
    | none => none)
theorem run_places (hT : TabOk X.P X.T) (w : World) : ∀ (fs : List Field) (l : List (Nat × Nat)), placesS X.T fs = some l → (List.mapM (fun f : Field => Functor.map (Prod.mk f.offset) (sizeOf f.type)) fs).run X.P w = .ok l w
  | [], l, h => by
    simp only [placesS, Option.some.injEq] at h
    subst h
    simp
  | f :: r, l, h => by
    simp only [placesS] at h
    split at h
    · rename_i fi hfi
      split at h
      · rename_i l' hl'
        simp only [Option.some.injEq] at h
        subst h
        obtain ⟨_, j, hj, _, hjs, _⟩ := TabOk.get hT hfi
        simp [run_sizeOf hj, hjs, run_places hT w r l' hl']
      · cases h
    · cases h
theorem run_zeroValue {P : Program} {t : TypeId} {j : TypeInfo} {z : Value} (hi : P.info? t = some j) (hz : j.zero = some z) (w : World) : (zeroValue t).run P w = .ok z w := by
  simp [zeroValue, typeInfo, hi, hz]
def zeroS (z : Value) : List C := z.cells.toList.map C.v
theorem zeroS_den (e : Env) (z : Value) : (zeroS z).map (C.den e) = z.cells.toList := by
  simp only [zeroS, List.map_map]
  exact List.map_id _
theorem zeroS_lt {n : Nat} {z : Value} (h : z.cells.toList.all Value.oneCell' = true) : ltAll n (zeroS z) = true :=
  ltAll_v fun x hx => List.all_eq_true.1 h x hx
def xvBuild (X : Cx) (S : St) (t : Nat) (parts : List (Nat × Operand)) (K : SV → Prop) : Prop := match get X.T t with
  | some ti => (match ti.zero.cells.toList.all Value.oneCell' with
    | true => (match ti.d with
      | .struct fs => (match placesS X.T fs.toList with
        | some l => (match fillS S (fun i => l[i]?) (zeroS ti.zero) parts with
          | some cs => K (.agg cs)
          | none => False)
        | none => False)
      | .array _ el => (match get X.T el with
        | some ei => (match fillS S (fun i => some (i * ei.size, ei.size)) (zeroS ti.zero) parts with
          | some cs => K (.agg cs)
          | none => False)
        | none => False)
      | _ => False)
    | false => False)
  | none => False
theorem build_ok (hT : TabOk X.P X.T) (e : Env) (a : Act) {o : Oper} {t : Nat} {parts : Array (Nat × Operand)} {K : SV → Prop} (ho : o.op = .build t parts) (hk : xvBuild X S t parts.toList K) : Yv X e S a o K := by
  obtain ⟨parts⟩ := parts
  unfold xvBuild at hk
  split at hk
  · rename_i ti hti
    obtain ⟨hu, j, hj, hjz, hjs, _⟩ := TabOk.get hT hti
    split at hk
    · rename_i hz
      split at hk
      · rename_i fs hd
        rw [hd] at hu
        split at hk
        · rename_i l hl
          split at hk
          · rename_i cs hcs
            refine ⟨_, hk, fun w h => ?_⟩
            obtain ⟨h1, h2⟩ := fillS_ok h (placeP := fun i => l[i]?) (fun i p hp => hp) _ _ _ (zeroS_lt hz) hcs
            refine ⟨h1, ?_⟩
            rw [zeroS_den] at h2
            have hp := run_places hT w fs.toList l hl
            have hp2 : (Array.mapM (fun f : Field => Functor.map (Prod.mk f.offset) (sizeOf f.type)) fs).run X.P w = .ok l.toArray w := by
              rw [← Array.toArray_toList (xs := fs), List.mapM_toArray]
              simp [hp]
            simp only [Array.toArray_toList] at h2
            simp [execOp, ho, Instr.build, run_zeroValue hj hjz, run_underlying hu, hp2, h2, SV.den]
          · exact hk.elim
        · exact hk.elim
      · rename_i n el hd
        rw [hd] at hu
        split at hk
        · rename_i ei hei
          obtain ⟨_, je, hje, _, hjes, _⟩ := TabOk.get hT hei
          split at hk
          · rename_i cs hcs
            refine ⟨_, hk, fun w h => ?_⟩
            obtain ⟨h1, h2⟩ := fillS_ok h (placeP := fun i => some (i * ei.size, ei.size)) (fun i p hp => hp) _ _ _ (zeroS_lt hz) hcs
            refine ⟨h1, ?_⟩
            rw [zeroS_den] at h2
            simp only [Array.toArray_toList] at h2
            simp [execOp, ho, Instr.build, run_zeroValue hj hjz, run_underlying hu, run_sizeOf hje, hjes, h2, SV.den]
          · exact hk.elim
        · exact hk.elim
      · exact hk.elim
    · exact hk.elim
  · exact hk.elim

/-! ### What an operation does -/
/-- The operation is carried out, and what is known behind it satisfies K. -/
def Wv (X : Cx) (e : Env) (n : Nat) (a : Act) (w : World) (o : Oper) (K : St → Prop) : Prop :=
  ∀ (KK : Act → World → Prop) (Q : Exit → Act → World → Prop), (∀ e' S' a' w', Env.same n e e' → Rep X e' S' a' w' → K S' → KK a' w') → o.wp X.P a w KK Q
theorem Yv.wv (h : Rep X e S a w) {o : Oper} (hd : dstOk X.nt o.dst = true) {K : St → Prop} (hy : Yv X e S a o fun v => K (S.put o.dst v)) : Wv X e S.nx a w o K := by
  intro KK Q hKK
  obtain ⟨v, hK, hyv⟩ := hy
  obtain ⟨hl, hrun⟩ := hyv w h.v
  unfold Oper.wp
  rw [hrun]
  exact hKK _ _ _ _ (Env.same.refl _ _) (h.put hd hl) hK

theorem run_newVar' (P : Program) (t : TypeId) (v : Value) (w : World) : (newVar t v).run P w = .ok ⟨w.heap.size, 0, none⟩ (w.alloc (.cells v.cells t)) := rfl
theorem run_newRow' (P : Program) (t : TypeId) (cs : Array Value) (w : World) : (newRow t cs).run P w = .ok ⟨w.heap.size, 0, none⟩ (w.alloc (.cells cs t)) := rfl
/-- A new variable. -/
def St.new (S : St) (b : Blk) : St := match S with | ⟨fr, H, nx, F, E⟩ => ⟨fr, (nx, b) :: H, nx + 1, F, E⟩
theorem new_ok (h : Rep X e S a w) {o : Oper} (hd : dstOk X.nt o.dst = true) {ty : Nat} {cs : List C} (hl : ltAll S.nx cs = true) {K : St → Prop} (hk : K ((S.new (.cells ty cs)).put o.dst (.c (.loc S.nx 0))))
    (hrun : (execOp a.eval o).run X.P w = .ok (.value (.pointer (some ⟨w.heap.size, 0, none⟩))) (w.alloc (.cells (cs.map (C.den e)).toArray ty))) : Wv X e S.nx a w o K := by
  intro KK Q hKK
  unfold Oper.wp
  rw [hrun]
  have hr := h.alloc ty cs hl
  have hp := hr.put (d := o.dst) (v := .c (.loc S.nx 0)) hd (blt_iff.2 (Nat.lt_succ_self _))
  simp only [SV.den, C.den, if_pos] at hp
  exact hKK { e with ad := fun j => if j = S.nx then w.heap.size else e.ad j } _ _ _ (fun k hk => ⟨by simp [Nat.ne_of_lt hk], rfl, rfl⟩) hp hk
def xBox (S : St) (d : Option Nat) (t : Nat) (x : Operand) (K : St → Prop) : Prop := match S.ev x with
  | some v => (match v.plain with
    | true => K ((S.new (.cells t v.list)).put d (.c (.loc S.nx 0)))
    | false => False)
  | none => False
theorem box_ok (h : Rep X e S a w) {o : Oper} (hd : dstOk X.nt o.dst = true) {t : Nat} {x : Operand} {K : St → Prop} (ho : o.op = .box t x) (hk : xBox S o.dst t x K) : Wv X e S.nx a w o K := by
  unfold xBox at hk
  split at hk
  · rename_i v hx
    split at hk
    · rename_i hp
      obtain ⟨hdx, hl⟩ := h.ev_den hx
      refine new_ok h hd (SV.list_lt hl) hk ?_
      have hc := cells_den h.one hp hl
      simp [execOp, ho, hdx, Instr.box, run_newVar', hc]
    · exact hk.elim
  · exact hk.elim
def xAlloc (X : Cx) (S : St) (d : Option Nat) (t : Nat) (K : St → Prop) : Prop := match get X.T t with
  | some ti => (match ti.zero.cells.toList.all Value.oneCell' with
    | true => K ((S.new (.cells t (zeroS ti.zero))).put d (.c (.loc S.nx 0)))
    | false => False)
  | none => False
theorem alloc_ok (hT : TabOk X.P X.T) (h : Rep X e S a w) {o : Oper} (hd : dstOk X.nt o.dst = true) {t : Nat} {K : St → Prop} (ho : o.op = .alloc t) (hk : xAlloc X S o.dst t K) : Wv X e S.nx a w o K := by
  unfold xAlloc at hk
  split at hk
  · rename_i ti hti
    split at hk
    · rename_i hz
      obtain ⟨hu, j, hj, hjz, hjs, _⟩ := TabOk.get hT hti
      refine new_ok h hd (zeroS_lt hz) hk ?_
      rw [zeroS_den]
      simp [execOp, ho, Instr.alloc, run_zeroValue hj hjz, run_newVar']
    · exact hk.elim
  · exact hk.elim

/-! ### Stores -/
theorem heap_setCells (g : Nat) (ty : TypeId) : ∀ (vs : List Value) (o : Nat) (w : World) (cs : List Value), w.heap[g]? = some (.cells cs.toArray ty (0, 0)) → o + vs.length ≤ cs.length →
    (w.setCells g o vs).heap[g]? = some (.cells ((vs.zipIdx.foldl (fun cs (x : Value × Nat) => cs.set (o + x.2) x.1) cs)).toArray ty (0, 0))
  | [], o, w, cs, h, _ => h
  | v :: r, o, w, cs, h, hl => by
    simp only [List.length_cons] at hl
    have h1 := heap_setCell_same w g o cs.toArray ty v h
    have h2 := heap_setCells g ty r (o + 1) (w.setCell ⟨g, o, none⟩ v) (cs.set o v) (by rw [h1]; simp) (by simp; omega)
    rw [World.setCells, h2]
    simp only [List.zipIdx_cons, List.foldl_cons, Nat.add_zero]
    have : ∀ (l : List Value) (k : Nat) (c : List Value), (l.zipIdx k).foldl (fun (cs : List Value) (x : Value × Nat) => cs.set (o + 1 + x.2) x.1) c = (l.zipIdx (k + 1)).foldl (fun cs (x : Value × Nat) => cs.set (o + x.2) x.1) c := by
      intro l
      induction l with
      | nil => intro k c; rfl
      | cons y l ih =>
        intro k c
        simp only [List.zipIdx_cons, List.foldl_cons]
        rw [ih, show o + 1 + k = o + (k + 1) by omega]
    rw [this]
theorem size_setCells (g : Nat) : ∀ (vs : List Value) (o : Nat) (w : World), (w.setCells g o vs).heap.size = w.heap.size
  | [], _, _ => rfl
  | v :: r, o, w => by rw [World.setCells, size_setCells g r]; simp [World.setCell]
theorem streams_setCells (g : Nat) : ∀ (vs : List Value) (o : Nat) (w : World), (w.setCells g o vs).os = w.os ∧ (w.setCells g o vs).tape = w.tape ∧ (w.setCells g o vs).output = w.output
  | [], _, _ => ⟨rfl, rfl, rfl⟩
  | v :: r, o, w => by rw [World.setCells]; exact streams_setCells g r (o + 1) _
theorem heap_setCells_far (g : Nat) {i : Nat} (hi : i ≠ g) : ∀ (vs : List Value) (o : Nat) (w : World), (w.setCells g o vs).heap[i]? = w.heap[i]?
  | [], _, _ => rfl
  | v :: r, o, w => by rw [World.setCells, heap_setCells_far g hi r]; exact heap_setCell_other w _ _ _ hi
theorem run_storeAt {P : Program} {t : TypeId} {j : TypeInfo} (hi : P.info? t = some j) {b o : Nat} {v : Value} {vs : List Value} (hv : v.cells = vs.toArray) (hs : vs.length = j.size) (ty : TypeId) (cs : List Value) {w : World} (hb : w.heap[b]? = some (.cells cs.toArray ty (0, 0)))
    (hle : o + vs.length ≤ cs.length) (h1 : ∀ u ∈ vs, u.oneCell' = true) : (Instr.storeAt t (.pointer (some ⟨b, o, none⟩)) v).run P w = .ok () (w.setCells b o vs) := by
  have hst := run_storeCells_cells (P := P) b o vs 0 w (fun k hk => by
    rw [cell_of_row w b _ cs.toArray ty (0, 0) hb]
    simp
    omega) (fun k hk => frozen_of_row w b _ cs.toArray ty hb) h1
  simp only [Nat.add_zero] at hst
  simp [Instr.storeAt, Instr.sureAddr, storeVar, hv, run_sizeOf hi, hs, hst]
def xStore (X : Cx) (S : St) (d : Option Nat) (t : Nat) (p x : Operand) (K : St → Prop) : Prop := match get X.T t with
  | some ti => (match S.ev x with
    | some v => (match v.plain with
      | true => (match Nat.beq v.list.length ti.size with
        | true => (match S.ev p with
          | some (.c (.loc k o)) => (match get S.H k with
            | some (.cells ty cs) => (match Nat.ble (o + v.list.length) cs.length with
              | true => K ((S.setH k (.cells ty (splice cs o v.list))).put d .un)
              | false => False)
            | _ => False)
          | some (.c (.rp k o)) => (match get S.H k with
            | some (.row ety esz n xs) => needP (o + v.list.length ≤ xs.length) (K ((S.setH k (.row ety esz n (splice xs o v.list))).put d .un))
            | _ => False)
          | _ => False)
        | false => False)
      | false => False)
    | none => False)
  | none => False
theorem store_ok (hT : TabOk X.P X.T) (h : Rep X e S a w) {o : Oper} (hd : dstOk X.nt o.dst = true) {t : Nat} {p x : Operand} {K : St → Prop} (ho : o.op = .store t p x) (hk : xStore X S o.dst t p x K) : Wv X e S.nx a w o K := by
  intro KK Q hKK
  unfold xStore at hk
  split at hk
  · rename_i ti hti
    obtain ⟨hu, j, hj, hjz, hjs, _⟩ := TabOk.get hT hti
    split at hk
    · rename_i v hx
      split at hk
      · rename_i hp
        split at hk
        · rename_i hsz
          have hsz : v.list.length = ti.size := Nat.eq_of_beq_eq_true hsz
          obtain ⟨hdx, hl⟩ := h.ev_den hx
          have hc := cells_den h.one hp hl
          have h1 : ∀ u ∈ v.list.map (C.den e), u.oneCell' = true := fun u hu => by
            obtain ⟨c, hc, rfl⟩ := List.mem_map.1 hu
            exact C.one_of h.one (ltAll_mem (SV.list_lt hl) c hc)
          split at hk
          · rename_i k o' hpp
            have hdp := (h.ev_den hpp).1
            simp only [SV.den, C.den] at hdp
            split at hk
            · rename_i ty cs hH
              split at hk
              · rename_i hle
                have hle : o' + v.list.length ≤ cs.length := Nat.le_of_ble_eq_true hle
                have hb : w.heap[e.ad k]? = some (.cells (cs.map (C.den e)).toArray ty (0, 0)) := h.hp k _ hH
                have hrun := run_storeAt (o := o') hj hc (by simpa [hjs] using hsz) ty _ hb (by simpa using hle) h1
                have hst := streams_setCells (e.ad k) (v.list.map (C.den e)) o' w
                unfold Oper.wp
                rw [show (execOp a.eval o).run X.P w = .ok .skip (w.setCells (e.ad k) o' (v.list.map (C.den e))) by simp [execOp, ho, hdx, hdp, hrun]]
                have hr := h.step (F' := S.F) (E' := S.E) (k0 := k) (b0 := .cells ty (splice cs o' v.list)) (w' := w.setCells (e.ad k) o' (v.list.map (C.den e))) (Env.same.refl _ _) (Nat.le_refl _) (h.hlt k _ hH).1 (lt_splice _ _ _ (h.hlt k _ hH).2 (SV.list_lt hl)) (fun _ h => h) (fun _ h => .inl h)
                  (fun x hx => by rw [size_setCells]; exact h.fl x hx)
                  (fun w'' hw => h.ev w'' fun x hx => (hw x hx).trans (heap_setCells_far _ (fun e1 => h.ff k _ x hH e1 hx) _ _ _))
                  hst.1 hst.2.1 hst.2.2 (by rw [size_setCells]; exact Nat.le_refl _)
                  (fun x hx => heap_setCells_far _ (fun e1 => h.ff k _ x hH e1 hx) _ _ _) (fun k' b' x hk' hne hx => heap_setCells_far _ (fun e1 => h.sep k' k b' _ x hk' hH hne hx e1) _ _ _) h.one
                  (by
                    show (w.setCells (e.ad k) o' (v.list.map (C.den e))).heap[e.ad k]? = some (.cells ((splice cs o' v.list).map (C.den e)).toArray ty (0, 0))
                    rw [map_splice]
                    exact heap_setCells _ _ _ _ _ _ hb (by simpa using hle))
                  (fun x hx => ⟨fun hf => h.ff k _ x hH hx hf, fun k' b' hk' hne hx' => h.sep k' k b' _ x hk' hH hne hx' hx⟩)
                exact hKK _ _ _ _ (Env.same.refl _ _) (hr.put hd rfl) hk
              · exact hk.elim
            · exact hk.elim
          · rename_i k o' hpp
            have hdp := (h.ev_den hpp).1
            simp only [SV.den, C.den] at hdp
            split at hk
            · rename_i ety esz n xs hH
              obtain ⟨hle, hk⟩ := need_get hk
              obtain ⟨hown, hra⟩ := h.hp k _ hH
              rcases hown.2 with ⟨hv, hn⟩ | ⟨g, cap, cur, hv, hbg, hg, hnc, hcm, hcs, htake⟩
              · have hlen := hown.1
                rw [hn, Nat.zero_mul, List.length_map] at hlen
                have hj0 : v.list.length = 0 := by omega
                have hv0 : v.list = [] := List.eq_nil_of_length_eq_zero hj0
                have hrun : (Instr.storeAt t (.pointer (some ((e.ra k).add o'))) (v.den e)).run X.P w = .ok () w := by
                  simp [Instr.storeAt, Instr.sureAddr, storeVar, hc, hv0, run_sizeOf hj, hjs, ← hsz, storeCells]
                unfold Oper.wp
                rw [show (execOp a.eval o).run X.P w = .ok .skip w by simp [execOp, ho, hdx, hdp, hrun]]
                rw [hv0] at hk
                have hr := h.step (F' := S.F) (E' := S.E) (k0 := k) (b0 := .row ety esz n xs) (w' := w) (Env.same.refl _ _) (Nat.le_refl _) (h.hlt k _ hH).1 (h.hlt k _ hH).2 (fun _ h => h) (fun _ h => .inl h) h.fl h.ev rfl rfl rfl (Nat.le_refl _) (fun _ _ => rfl) (fun _ _ _ _ _ _ => rfl) h.one (h.hp k _ hH)
                  (fun x hx => ⟨fun hf => h.ff k _ x hH hx hf, fun k' b' hk' hne hx' => h.sep k' k b' _ x hk' hH hne hx' hx⟩)
                exact hKK _ _ _ _ (Env.same.refl _ _) (hr.put hd rfl) hk
              · have hra := hra _ _ _ hv
                rw [hra, Addr.add_mid, Nat.zero_add] at hdp
                have hxl : xs.length ≤ cur.size := by
                  have := hown.1
                  rw [List.length_map] at this
                  rw [this, hcs]
                  exact Nat.mul_le_mul_right _ hnc
                have hg' : w.heap[g]? = some (.cells cur.toList.toArray ety (0, 0)) := by simpa using hg
                have hrun := run_storeAt (o := o') hj hc (by simpa [hjs] using hsz) ety _ hg' (by simp; omega) h1
                have hst := streams_setCells g (v.list.map (C.den e)) o' w
                have hfoot : ∀ x, (Blk.row ety esz n xs).foot e k x ↔ x = g := fun x => by
                  show (e.rv k).ownBlock = some x ↔ _
                  rw [hv]
                  simp [Value.ownBlock, eq_comm]
                unfold Oper.wp
                rw [show (execOp a.eval o).run X.P w = .ok .skip (w.setCells g o' (v.list.map (C.den e))) by simp [execOp, ho, hdx, hdp, hrun]]
                have hr := h.step (F' := S.F) (E' := S.E) (k0 := k) (b0 := .row ety esz n (splice xs o' v.list)) (w' := w.setCells g o' (v.list.map (C.den e))) (Env.same.refl _ _) (Nat.le_refl _) (h.hlt k _ hH).1 (lt_splice _ _ _ (h.hlt k _ hH).2 (SV.list_lt hl)) (fun _ h => h) (fun _ h => .inl h)
                  (fun x hx => by rw [size_setCells]; exact h.fl x hx)
                  (fun w'' hw => h.ev w'' fun x hx => (hw x hx).trans (heap_setCells_far _ (fun e1 => h.ff k _ x hH ((hfoot x).2 e1) hx) _ _ _))
                  hst.1 hst.2.1 hst.2.2 (by rw [size_setCells]; exact Nat.le_refl _)
                  (fun x hx => heap_setCells_far _ (fun e1 => h.ff k _ x hH ((hfoot x).2 e1) hx) _ _ _) (fun k' b' x hk' hne hx => heap_setCells_far _ (fun e1 => h.sep k' k b' _ x hk' hH hne hx ((hfoot x).2 e1)) _ _ _) h.one
                  (by
                    have hnew := heap_setCells g ety (v.list.map (C.den e)) o' w _ hg' (by simp; omega)
                    refine ⟨⟨by rw [List.length_map, length_splice]; simpa using hown.1, .inr ⟨g, cap, _, hv, hbg, hnew, hnc, hcm, ?_, ?_⟩⟩, fun p l c hp => (h.hp k _ hH).2 p l c hp⟩
                    · have : ∀ (l : List (Value × Nat)) (c : List Value), (l.foldl (fun cs (x : Value × Nat) => cs.set (o' + x.2) x.1) c).length = c.length := by
                        intro l
                        induction l with
                        | nil => intro c; rfl
                        | cons y l ih => intro c; rw [List.foldl_cons, ih]; simp
                      simp [this, hcs]
                    · rw [map_splice, ← htake]
                      have : ∀ (l : List (Value × Nat)) (c : List Value) (m : Nat), (l.foldl (fun cs (x : Value × Nat) => cs.set (o' + x.2) x.1) c).take m = l.foldl (fun cs (x : Value × Nat) => cs.set (o' + x.2) x.1) (c.take m) := by
                        intro l
                        induction l with
                        | nil => intro c m; rfl
                        | cons y l ih => intro c m; rw [List.foldl_cons, List.foldl_cons, ih, List.take_set]
                      simpa using this _ _ _)
                  (fun x hx => ⟨fun hf => h.ff k _ x hH hx hf, fun k' b' hk' hne hx' => h.sep k' k b' _ x hk' hH hne hx' hx⟩)
                exact hKK _ _ _ _ (Env.same.refl _ _) (hr.put hd rfl) hk
            · exact hk.elim
          · exact hk.elim
        · exact hk.elim
      · exact hk.elim
    · exact hk.elim
  · exact hk.elim
end
end Go.Proofs.Ytbajgjbgkpcapaa.Sx
