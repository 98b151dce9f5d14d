/-
  The symbolic executor, 12: a function: what it begins with, what it hands back, calls that are walked in place.
-/
import Derived.Test.YteldohidnepaoaaSy11
namespace Go.Proofs.Yteldohidnepaoaa.Sy
open Go Go.RowKit
section
variable {X : Cx} {e : Env} {S : St} {a : Act} {w : World}

/-! ### Results -/
def xresult (X : Cx) (S : St) : ResultVar → Option V1
  | .tmp t => (match get S.fr t with
    | some (.c x) => some (.c x)
    | some (.agg cs) => some (.agg cs)
    | _ => none)
  | .cell p t => (match get S.fr p with
    | some (.c (.loc k o)) => (match get S.H k with
      | some (.cells _ cs) => (match get X.T t with
        | some ti => (match rowB ti.d with
          | true => (match Nat.ble (o + ti.size) cs.length with
            | true => some (.agg ((cs.drop o).take ti.size))
            | false => none)
          | false => (match cs[o]? with
            | some c => some (.c c)
            | none => none))
        | none => none)
      | _ => none)
    | _ => none)
def xresults (X : Cx) (S : St) : List ResultVar → Option (List V1)
  | [] => some []
  | r :: l => match xresult X S r with
    | some v => (match xresults X S l with
      | some vs => some (v :: vs)
      | none => none)
    | none => none
def oneOf : List V1 → SV
  | [v] => v.sv
  | vs => .tup vs
/-- What the model's 'results' does with one result. -/
def resOne (tmps : Array Value) : ResultVar → Sem Value
  | .tmp t => pure (tmps.getD t undef)
  | .cell a t => do loadVar t (← asAddr (tmps.getD a undef))
theorem results_eq (fn : Func) (tmps : Array Value) : results fn tmps = (do let vs ← fn.results.mapM (resOne tmps); pure (if h : vs.size = 1 then vs[0] else .tuple vs)) := by
  unfold results
  congr 1
theorem xresult_ok (hT : TabOk X.P X.T) (h : Rep X e S a w) {r : ResultVar} {v : V1} (hv : xresult X S r = some v) :
    (resOne a.tmps r).run X.P w = .ok (v.den e) w ∧ v.lt S.nx = true := by
  unfold resOne
  cases r with
  | tmp t =>
    simp only [xresult] at hv
    split at hv
    · rename_i x hx
      cases hv
      have := h.fr t _ hx
      exact ⟨by simp [this, SV.den, V1.den], h.frlt t _ hx⟩
    · rename_i x hx
      cases hv
      have := h.fr t _ hx
      exact ⟨by simp [this, SV.den, V1.den], h.frlt t _ hx⟩
    · cases hv
  | cell p t =>
    simp only [xresult] at hv
    split at hv
    · rename_i k o' hx
      have hp := h.fr p _ hx
      split at hv
      · rename_i ty cs hH
        have hb : w.heap[e.ad k]? = some (.cells (cs.map (C.den e)).toArray ty (0, 0)) := h.hp k _ hH
        have hlt : ltAll S.nx cs = true := (h.hlt k _ hH).2
        split at hv
        · rename_i ti hti
          obtain ⟨hu, j, hj, _, hjs, _⟩ := TabOk.get hT hti
          split at hv
          · rename_i hr
            split at hv
            · rename_i hle
              have hle : o' + ti.size ≤ cs.length := Nat.le_of_ble_eq_true hle
              cases hv
              have hrun := run_load_agg (p := ⟨e.ad k, o', none⟩) (cs := ((cs.drop o').take ti.size).map (C.den e)) (w := w) hu hr hj (by simp; omega) (fun i v hi => by
                rw [Addr.add_mid]
                refine cell_of_block hb ?_
                rw [List.getElem?_map] at hi
                cases hc : ((cs.drop o').take ti.size)[i]? with
                | none => rw [hc] at hi; cases hi
                | some c =>
                  rw [hc] at hi
                  simp only [Option.map_some, Option.some.injEq] at hi
                  subst hi
                  have := take_drop_get rfl i c hc
                  simp [this])
              simp only [Instr.loadAt, Instr.sureAddr, Sem.run_bind, Sem.run_pure, Result.andThen_ok] at hrun
              exact ⟨by simp [hp, SV.den, C.den, asAddr, hrun, V1.den], ltAll_drop_take hlt⟩
            · cases hv
          · rename_i hr
            split at hv
            · rename_i c hc
              cases hv
              have hrun := run_load_one (w := w) (v := c.den e) hu hr (cell_of_block (o := o') hb (by simp [hc]))
              simp only [Instr.loadAt, Instr.sureAddr, Sem.run_bind, Sem.run_pure, Result.andThen_ok] at hrun
              exact ⟨by simp [hp, SV.den, C.den, asAddr, hrun, V1.den], ltAll_get hlt hc⟩
            · cases hv
        · cases hv
      · cases hv
    · cases hv
theorem xresults_ok (hT : TabOk X.P X.T) (h : Rep X e S a w) : ∀ {l : List ResultVar} {vs : List V1}, xresults X S l = some vs →
    (List.mapM (resOne a.tmps) l).run X.P w = .ok (vs.map (V1.den e)) w ∧ ltAll1 S.nx vs = true
  | [], vs, hv => by cases hv; exact ⟨rfl, rfl⟩
  | r :: l, vs, hv => by
    simp only [xresults] at hv
    split at hv
    · rename_i v h1
      split at hv
      · rename_i vs' h2
        cases hv
        obtain ⟨i1, i2⟩ := xresult_ok hT h h1
        obtain ⟨j1, j2⟩ := xresults_ok hT h h2
        refine ⟨?_, ltAll1_of fun c hc => ?_⟩
        · rw [List.mapM_cons]
          simp only [Sem.run_bind, i1, Result.andThen_ok, j1, Sem.run_pure, List.map_cons]
        · rcases List.mem_cons.1 hc with rfl | hc
          · exact i2
          · exact ltAll1_mem j2 c hc
      · cases hv
    · cases hv
theorem results_ok (hT : TabOk X.P X.T) (h : Rep X e S a w) {fn : Func} {vs : List V1} (hvs : xresults X S fn.results.toList = some vs) : (results fn a.tmps).run X.P w = .ok ((oneOf vs).den e) w ∧ (oneOf vs).lt S.nx = true := by
  obtain ⟨hm, hl⟩ := xresults_ok hT h hvs
  refine ⟨?_, ?_⟩
  · have hm2 : (fn.results.mapM (resOne a.tmps)).run X.P w = .ok (vs.map (V1.den e)).toArray w := by
      rw [← Array.toArray_toList (xs := fn.results), List.mapM_toArray]
      simp only [map_eq_pure_bind, Sem.run_bind, hm, Result.andThen_ok, Sem.run_pure]
    rw [results_eq]
    simp only [Sem.run_bind, hm2, Result.andThen_ok, Sem.run_pure]
    congr 1
    match vs with
    | [] => rfl
    | [v] => simp [oneOf, V1.den_sv]
    | v :: u :: r => simp [oneOf, SV.den]
  · match vs with
    | [] => rfl
    | [v] =>
      have := ltAll1_mem hl v (by simp)
      cases v <;> exact this
    | v :: u :: r => exact hl

/-! ### The way out: the marks of ranges over functions -/
theorem Rep.unmark (h : Rep X e S a w) {ds : List Deferred} {d : Deferred} (hd : a.defers = d :: ds) : ∃ D, d = markOf D ∧ (Instr.takeDeferred D).run X.P w = .ok [] (w.putObj D (.deferred none)) ∧ Rep X { e with G := e.G.tail } S { a with defers := ds } (w.putObj D (.deferred none)) := by
  have hm := h.mkd
  rw [List.flatMap_cons, hd] at hm
  cases hG : e.G with
  | nil => rw [hG] at hm; cases hm
  | cons D G =>
    rw [hG] at hm
    simp only [List.cons_append, List.map_cons, List.cons.injEq] at hm
    obtain ⟨hm1, hm2⟩ := hm
    have hnd := h.mnd
    rw [hG] at hnd
    have hD := h.mks D (by rw [hG]; simp)
    have hlt : D < w.heap.size := (Array.getElem?_eq_some_iff.1 hD.1).1
    have hne : ∀ x, Kept e S S.nx x → x ∉ e.G → (w.putObj D (.deferred none)).heap[x]? = w.heap[x]? := fun x _ hx => World.putObj_heap_other (fun e1 => hx (by rw [e1, hG]; simp))
    have hF : ∀ x, S.F x → (w.putObj D (.deferred none)).heap[x]? = w.heap[x]? := fun x hx => World.putObj_heap_other (fun e1 => by subst e1; exact hD.2.1 hx)
    have hs : Env.same S.nx e { e with G := e.G.tail } := fun _ _ => ⟨rfl, rfl, rfl, rfl, rfl⟩
    refine ⟨D, hm1, run_takeDeferred hD.1, ⟨h.sz, h.fr, h.frlt, fun k b hk => ?_, h.hlt, h.sep, h.ff, ⟨h.bel.os, h.bel.tape, h.bel.output, by rw [World.putObj_size]; exact h.bel.size, fun x hx ho => ?_⟩, fun x hx => by rw [World.putObj_size]; exact h.fl x hx, h.f0, fun w'' hw => h.ev w'' fun x hx => (hw x hx).trans (hF x hx), h.one, h.gl, h.glen, ?_, ?_, fun D' hD' => ?_, h.es, h.n0, h.pin, fun hr => by have := h.rdm hr; rw [hd] at this; cases this⟩⟩
    · exact Blk.holds_keep (h.hp k b hk) hs (h.hlt k b hk).1 (h.hlt k b hk).2 (fun _ h => h) (fun x hx => World.putObj_heap_other (fun e1 => by subst e1; exact hD.2.2 k b hk hx)) hF
    · exact (hF x (h.f0 x hx ho)).trans (h.bel.block x hx ho)
    · rw [List.flatMap_cons]; simp only [hG, List.tail_cons]; exact hm2
    · simp only [hG, List.tail_cons]; exact (List.nodup_cons.1 hnd).2
    · simp only [hG, List.tail_cons] at hD'
      have hne : D' ≠ D := fun e1 => (List.nodup_cons.1 hnd).1 (e1 ▸ hD')
      have := h.mks D' (by rw [hG]; simp [hD'])
      exact ⟨(World.putObj_heap_other hne).trans this.1, this.2⟩
theorem leaves_ok {fn : Func} {R : Ending → World → Prop} : ∀ (ds : List Deferred) {e : Env} {a : Act} {w : World}, Rep X e S a w → a.defers = ds →
    (∀ e' w', Rep X e' S { a with defers := [] } w' → ∃ v, (results fn a.tmps).run X.P w' = .ok v w' ∧ R (.returned v) w') → LeavesInM Fence.wide 0 X.P fn a.tmps R ds .returning w
  | [], e, a, w, h, hd, hk => by
    have : a = { a with defers := [] } := by cases a; cases hd; rfl
    exact hk e w (this ▸ h)
  | d :: ds, e, a, w, h, hd, hk => by
    obtain ⟨D, rfl, h1, h2⟩ := h.unmark hd
    exact ⟨(fun h => by cases h), .inl ⟨D, _, rfl, h1, leaves_ok ds (a := { a with defers := ds }) h2 rfl hk⟩⟩
structure finP (X : Cx) (S : St) (v : SV) (R : Ending → World → Prop) : Prop where
  out : ∀ e a w, Rep X e S a w → R (.returned (v.den e)) w
def xret (X : Cx) (fn : Func) (R : Ending → World → Prop) (ex : Exit) (S : St) : Prop := match ex with
  | .normal => (match xresults X S fn.results.toList with
    | some vs => finP X S (oneOf vs) R
    | none => False)
  | .ret => (match xresults X S fn.results.toList with
    | some vs => finP X S (oneOf vs) R
    | none => False)
  | _ => False
theorem xret_ok (hT : TabOk X.P X.T) {fn : Func} {R : Ending → World → Prop} : compat X (xret X fn R) (bodyPostM Fence.wide 0 X.P fn R) := by
  intro ex e S a w h hk
  have key : (match xresults X S fn.results.toList with
      | some vs => finP X S (oneOf vs) R
      | none => False) → LeavesInM Fence.wide 0 X.P fn a.tmps R a.defers .returning w := by
    intro hk
    split at hk
    · rename_i vs hvs
      replace hk := hk.out
      exact leaves_ok a.defers h rfl fun e' w' hR => ⟨_, (results_ok hT hR hvs).1, hk _ _ _ hR⟩
    · exact hk.elim
  cases ex with
  | normal => exact key hk
  | ret => exact key hk
  | exit id => exact hk.elim
  | goto l => exact hk.elim
  | panic ch => exact hk.elim
  | outgrown => exact hk.elim

/-! ### A function -/
def number : Nat → List SV → List (Nat × SV)
  | _, [] => []
  | i, v :: r => (i, v) :: number (i + 1) r
theorem get_number {t : Nat} {v : SV} : ∀ {l : List SV} {j : Nat}, get (number j l) t = some v → j ≤ t ∧ l[t - j]? = some v
  | [], j, h => by cases h
  | u :: r, j, h => by
    rcases get_cons h with ⟨rfl, rfl⟩ | ⟨hne, h⟩
    · exact ⟨Nat.le_refl _, by simp⟩
    · obtain ⟨h1, h2⟩ := get_number h
      refine ⟨by omega, ?_⟩
      rw [show t - j = (t - (j + 1)) + 1 by omega, List.getElem?_cons_succ]
      exact h2
def actOf (args : Array Value) (nt : Nat) : Act := { tmps := args ++ Array.replicate (nt - args.size) undef, defers := [] }
theorem actOf_size {args : Array Value} {nt : Nat} (h : args.size ≤ nt) : (actOf args nt).tmps.size = nt := by simp [actOf]; omega
def St.withFr (S : St) (fr : List (Nat × SV)) : St := match S with | ⟨_, H, nx, F, E, g⟩ => ⟨fr, H, nx, F, E, g⟩
/-- The frame at a function's beginning. -/
theorem Rep.setFr {args : Array Value} {nt : Nat} (h : Rep X e S (actOf args nt) w) (avs : List SV) (hargs : args = denAll e avs) (hl : ∀ v ∈ avs, v.lt S.nx = true) (hn : avs.length ≤ nt) : Rep X e (S.withFr (number 0 avs)) (actOf args nt) w := by
  refine { h with fr := fun t v hv => ?_, frlt := fun t v hv => ?_ }
  · obtain ⟨_, h2⟩ := get_number hv
    rw [Nat.sub_zero] at h2
    have hlt : t < avs.length := (List.getElem?_eq_some_iff.1 h2).1
    subst hargs
    show ((denAll e avs) ++ _)[t]? = _
    rw [Array.getElem?_append_left (by simpa [denAll] using hlt)]
    simp [denAll, h2]
  · obtain ⟨_, h2⟩ := get_number hv
    exact hl v (List.mem_of_getElem? h2)
/-- The state at a function's beginning, before its arguments are told. -/
def St.bare (w : World) (own : Nat → Prop) : St := { fr := [], H := [], nx := 0, F := fun x => x < w.heap.size ∧ ¬ own x, E := fun _ => True }
theorem rep_bare {lv : List (Nat × List Nat)} {P : Program} {T : Tab} {w : World} {nt : Nat} {own : Nat → Prop} {args : Array Value} (hn : args.size ≤ nt) :
    Rep { P := P, T := T, w0 := w, nt := nt, own := own, lv := lv } env0 (St.bare w own) (actOf args nt) w := by
  refine ⟨actOf_size hn, fun t v hv => (by cases hv), fun t v hv => (by cases hv), fun k b hk => (by cases hk), fun k b hk => (by cases hk), fun k k' b b' x hk => (by cases hk), fun k b x hk => (by cases hk), ⟨rfl, rfl, rfl, Nat.le_refl _, fun _ _ _ => rfl⟩, fun x hx => hx.1, fun x hx ho => ⟨hx, ho⟩, fun _ _ => trivial, fun _ => rfl, fun i fr hi => by simp [St.bare] at hi, rfl, rfl, List.nodup_nil, fun D hD => (by cases hD), fun k hk => (by cases hk), Nat.le_refl _, (fun p hp => by cases hp), fun _ => rfl⟩
/-- A slice that comes in. -/
structure XD where
  v : Value
  esz : Nat
  n : Nat
  xs : List (List Value)
def XD.ok (F : Nat → Prop) (w : World) (d : XD) : Prop := ReadsE F w d.esz d.v d.n d.xs ∧ ∀ c ∈ d.xs, ∀ u ∈ c, u.oneCell' = true
def St.exts (S : St) : List XD → St
  | [] => S
  | ⟨_, esz, n, xs⟩ :: l => (S.new (.ext esz n (.vs xs))).exts l
def Env.exts (e : Env) (k : Nat) : List XD → Env
  | [] => e
  | d :: l => (e.withRow k d.v d.esz).exts (k + 1) l
theorem Rep.exts : ∀ (l : List XD) {e : Env} {S : St}, Rep X e S a w → (∀ d ∈ l, d.ok S.F w) → Rep X (e.exts S.nx l) (S.exts l) a w
  | [], e, S, h, _ => h
  | d :: l, e, S, h, hl => by
    have h1 := h.newExt (esz := d.esz) (n := d.n) (xs := .vs d.xs) (v := d.v) (hl d (by simp)).2 (hl d (by simp)).1
    exact Rep.exts l h1 fun d' hd => hl d' (by simp [hd])
def allLt (n : Nat) : List SV → Bool
  | [] => true
  | v :: r => match v.lt n with
    | true => allLt n r
    | false => false
theorem allLt_mem {n : Nat} : ∀ {l : List SV}, allLt n l = true → ∀ v ∈ l, v.lt n = true
  | [], _, v, hv => by cases hv
  | x :: r, h, v, hv => by
    unfold allLt at h
    split at h
    · rename_i hx
      rcases List.mem_cons.1 hv with rfl | hv
      · exact hx
      · exact allLt_mem h v hv
    · cases h
def AllOk (F : Nat → Prop) (w : World) : List XD → Prop
  | [] => True
  | d :: l => d.ok F w ∧ AllOk F w l
theorem AllOk.mem {F : Nat → Prop} : ∀ {l : List XD}, AllOk F w l → ∀ d ∈ l, d.ok F w
  | [], _, d, hd => by cases hd
  | x :: r, h, d, hd => by
    rcases List.mem_cons.1 hd with rfl | hd
    · exact h.1
    · exact AllOk.mem h.2 d hd
theorem calls_go {lv : List (Nat × List Nat)} {P : Program} {T : Tab} {f : FuncId} {fn : Func} {c : Code} {w : World} {R : Ending → World → Prop} (hT : TabOk P T) (hf : P.funcs[f]? = some fn) (hb : fn.body = some c) {nt : Nat} (hnt : fn.ntmps = nt) {args : Array Value} {own : Nat → Prop} {n0 : Nat} {e0 : Env} {e : Env} {S : St}
    (h : Rep { P := P, T := T, w0 := w, nt := nt, own := own, n0 := n0, e0 := e0, lv := lv } e S (actOf args nt) w) (hx : xcode { P := P, T := T, w0 := w, nt := nt, own := own, n0 := n0, e0 := e0, lv := lv } c S (xret { P := P, T := T, w0 := w, nt := nt, own := own, n0 := n0, e0 := e0, lv := lv } fn R)) : Calls P f args w R := by
  refine callsIn_wide (n := 0).1 (callsIn_of_wp_marks hf hb trivial ?_)
  rw [hnt]
  exact xcode_ok hT c h hx (xret_ok hT)
/-- A call of function f: its code, from the state at its beginning on; exts: the slices among the arguments. -/
theorem calls_of (lv : List (Nat × List Nat)) {P : Program} {T : Tab} {f : FuncId} {fn : Func} {c : Code} {w : World} {R : Ending → World → Prop} (hT : TabOk P T) (hf : P.funcs[f]? = some fn) (hb : fn.body = some c) (nt : Nat) (hnt : fn.ntmps = nt) {args : Array Value} (exts : List XD) (avs : List SV) (hargs : args = denAll (env0.exts 0 exts) avs) (hl : allLt exts.length avs = true) (hn : Nat.ble avs.length nt = true)
    (hd : AllOk (fun x => x < w.heap.size) w exts)
    (hx : St.forceAll (((St.bare w fun _ => False).exts exts).withFr (number 0 avs)) fun S => xcode { P := P, T := T, w0 := w, nt := nt, lv := lv } c S (xret { P := P, T := T, w0 := w, nt := nt, lv := lv } fn R)) : Calls P f args w R := by
  rw [forceAll_eq] at hx
  have hn := Nat.le_of_ble_eq_true hn
  have hsz : args.size = avs.length := by rw [hargs]; simp [denAll]
  have h0 := rep_bare (lv := lv) (P := P) (T := T) (w := w) (nt := nt) (own := fun _ => False) (args := args) (by omega)
  have h1 := Rep.exts exts h0 (fun d hd' => ⟨(AllOk.mem hd d hd').1.keep (fun b hb => ⟨hb, fun h => h⟩) (fun _ _ => rfl), (AllOk.mem hd d hd').2⟩)
  have hnx : ∀ (l : List XD) (S : St), (S.exts l).nx = S.nx + l.length := by
    intro l
    induction l with
    | nil => intro S; rfl
    | cons d l ih => intro S; rw [St.exts, ih, new_nx, List.length_cons]; omega
  have h2 := h1.setFr avs hargs (fun v hv => by rw [hnx]; simpa [St.bare] using allLt_mem hl v hv) hn
  exact calls_go hT hf hb hnt h2 hx
theorem fin_of {v : SV} {R : Ending → World → Prop} (h : ∀ e a w, Rep X e S a w → R (.returned (v.den e)) w) : finP X S v R := by refine ⟨?_⟩; exact h
theorem fin_val {lv : List (Nat × List Nat)} {P : Program} {T : Tab} {w0 : World} {nt : Nat} {v : SV} {u : Value} (h : ∀ e, v.den e = u) : finP { P := P, T := T, w0 := w0, nt := nt, lv := lv } S v (Ret u w0) := fin_of fun e a w hR => ⟨by rw [h], hR.bel.below⟩

/-! ### A call that is walked in place -/
def dropRecs (n : Nat) : List (Nat × Blk) → List (Nat × Blk)
  | [] => []
  | (k, b) :: r => (match b with
    | .lrec j nt ps as bd st => (match Nat.blt j n with
      | true => (k, .lrec j nt ps as bd st)
      | false => (k, .dead))
    | b => (k, b)) :: dropRecs n r
theorem get_dropRecs {n : Nat} : ∀ {H : List (Nat × Blk)} {k : Nat} {b : Blk}, get (dropRecs n H) k = some b → ∃ b0, get H k = some b0 ∧ (b = .dead ∨ (b = b0 ∧ ∀ j nt ps as bd st, b = .lrec j nt ps as bd st → j < n))
  | [], k, b, h => by cases h
  | (j, c) :: r, k, b, h => by
    unfold dropRecs at h
    have cons : ∀ c', get ((j, c') :: dropRecs n r) k = some b → (j = k → ∃ b0, get ((j, c) :: r) k = some b0 ∧ (b = .dead ∨ (b = b0 ∧ ∀ j nt ps as bd st, b = .lrec j nt ps as bd st → j < n))) → ∃ b0, get ((j, c) :: r) k = some b0 ∧ (b = .dead ∨ (b = b0 ∧ ∀ j nt ps as bd st, b = .lrec j nt ps as bd st → j < n)) := by
      intro c' h h0
      rcases get_cons h with ⟨e1, _⟩ | ⟨hne, h⟩
      · exact h0 e1
      · obtain ⟨b0, h1, h2⟩ := get_dropRecs h
        exact ⟨b0, by rw [get_other hne]; exact h1, h2⟩
    split at h
    · split at h
      · rename_i j' nt ps as bd st hj
        refine cons _ h fun e1 => ?_
        subst e1
        rw [get_same] at h
        injection h with h
        exact ⟨_, get_same _ _ _, .inr ⟨h.symm, fun j0 _ _ _ _ _ he => by rw [← h] at he; injection he with he; subst he; exact blt_iff.1 hj⟩⟩
      · refine cons _ h fun e1 => ?_
        subst e1
        rw [get_same] at h
        injection h with h
        exact ⟨_, get_same _ _ _, .inl h.symm⟩
    · rename_i hn
      refine cons _ h fun e1 => ?_
      subst e1
      rw [get_same] at h
      injection h with h
      exact ⟨_, get_same _ _ _, .inr ⟨h.symm, fun j0 nt ps as bd st he => absurd (h.trans he) (by intro h2; exact hn _ _ _ _ _ _ h2)⟩⟩
def St.leave (S : St) : St := match S with
  | ⟨_, H, nx, F, E, fr :: g⟩ => ⟨fr, dropRecs g.length H, nx, F, E, g⟩
  | S => S
theorem holds_gh {F : Nat → Prop} {X X' : Cx} {e : Env} {k : Nat} {w : World} {b : Blk} (h : b.holds F X e k w) (hg : ∀ j nt ps as bd st, b = .lrec j nt ps as bd st → X'.gh.reverse[j]? = X.gh.reverse[j]?) : b.holds F X' e k w := by
  cases b with
  | lrec j nt ps as bd st =>
    obtain ⟨h1, b, f, D, h2, h3⟩ := h
    exact ⟨h1, b, f, D, by rw [hg j nt ps as bd st rfl]; exact h2, h3⟩
  | _ => exact h
theorem reverse_push {α : Type} {l : List α} {x : α} {j : Nat} (h : j < l.length) : (x :: l).reverse[j]? = l.reverse[j]? := by
  rw [List.reverse_cons, List.getElem?_append_left (by simpa using h)]
/-- The context of a call. -/
def Cx.in (X : Cx) (lv : List (Nat × List Nat)) (nt : Nat) (rd : Option Nat) (b : Act) : Cx := { X with nt := nt, rd := rd, gh := b :: X.gh, lv := lv, lvg := X.lv :: X.lvg }
def St.push (S : St) : St := match S with | ⟨fr, H, nx, F, E, g⟩ => ⟨[], H, nx, F, E, fr :: g⟩
theorem Rep.push {lv : List (Nat × List Nat)} (h : Rep X e S a w) {nt : Nat} {rd : Option Nat} {a0 : Act} (hs : a0.tmps.size = nt) (hd : a0.defers = []) : Rep (X.in lv nt rd a) e S.push a0 w := by
  refine ⟨hs, fun t v hv => (by cases hv), fun t v hv => (by cases hv), fun k b hk => holds_gh (h.hp k b hk) fun j nt' ps as bd st hb => ?_, h.hlt, h.sep, h.ff, h.bel, h.fl, h.f0, h.ev, h.one, fun i fr hi => ?_, by show S.g.length + 1 = X.gh.length + 1; rw [h.glen], ?_, h.mnd, h.mks, h.es, h.n0, h.pin, fun _ => hd⟩
  · have := h.hp k b hk
    rw [hb] at this
    obtain ⟨_, b', _, _, h2, _⟩ := this
    have hj := (List.getElem?_eq_some_iff.1 h2).1
    exact reverse_push (by simpa using hj)
  · cases i with
    | zero =>
      have hi : S.fr = fr := by simpa [St.push] using hi
      subst hi
      exact ⟨a, rfl, fun t v hv => ⟨h.fr t v hv, h.frlt t v hv⟩⟩
    | succ i => exact h.gl i fr hi
  · show a0.defers ++ (a :: X.gh).flatMap (·.defers) = _
    rw [hd, List.nil_append]; exact h.mkd
theorem Rep.leave {lv : List (Nat × List Nat)} {nt : Nat} {rd : Option Nat} {b : Act} (h : Rep (X.in lv nt rd b) e S a w) (hd : a.defers = []) (hb : b.tmps.size = X.nt) (hrdb : X.rd.isSome = true → b.defers = []) : Rep X e S.leave b w := by
  cases S with
  | mk fr H nx F E g =>
    cases g with
    | nil => exact absurd h.glen (by simp [Cx.in])
    | cons fr0 g =>
      have hgl := h.glen
      have hlen : g.length = X.gh.length := by simpa [Cx.in] using hgl
      obtain ⟨b', hb', hv⟩ := h.gl 0 fr0 rfl
      have : b = b' := by simpa [Cx.in] using hb'
      subst this
      have old : ∀ {k c}, get (dropRecs g.length H) k = some c → c ≠ .dead → get H k = some c ∧ ∀ j nt ps as bd st, c = .lrec j nt ps as bd st → j < g.length := fun {k c} hk hc => by
        obtain ⟨b0, h1, h2⟩ := get_dropRecs hk
        rcases h2 with h2 | ⟨rfl, h2⟩
        · exact absurd h2 hc
        · exact ⟨h1, h2⟩
      have foot0 : ∀ {k c x}, get (dropRecs g.length H) k = some c → c.foot e k x → get H k = some c := fun {k c x} hk hx => by
        refine (old hk fun hc => ?_).1
        subst hc; exact hx
      refine ⟨hb, fun t v ht => (hv t v ht).1, fun t v ht => (hv t v ht).2, fun k c hk => ?_, fun k c hk => ?_, fun k k' c c' x hk hk' hne hx hx' => h.sep k k' c c' x (foot0 hk hx) (foot0 hk' hx') hne hx hx', fun k c x hk hx => h.ff k c x (foot0 hk hx) hx, h.bel, h.fl, h.f0, h.ev, h.one, fun i f hi => h.gl (i + 1) f hi, hlen, ?_, h.mnd, fun D hD => ⟨(h.mks D hD).1, (h.mks D hD).2.1, fun k c hk hx => (h.mks D hD).2.2 k c (foot0 hk hx) hx⟩, h.es, h.n0, h.pin, hrdb⟩
      · by_cases hc : c = .dead
        · subst hc; trivial
        · obtain ⟨h1, h2⟩ := old hk hc
          exact holds_gh (h.hp k c h1) fun j nt' ps as bd st hb => (reverse_push (by rw [← hlen]; exact h2 j nt' ps as bd st hb)).symm
      · by_cases hc : c = .dead
        · subst hc
          obtain ⟨b0, h1, _⟩ := get_dropRecs hk
          exact ⟨(h.hlt k b0 h1).1, trivial⟩
        · exact h.hlt k c (old hk hc).1
      · have := h.mkd
        rw [List.flatMap_cons, hd, List.nil_append] at this
        exact this
/-- What is done with a callee's results. -/
def xretK (X : Cx) (fn : Func) (K : St → SV → Prop) (ex : Exit) (S : St) : Prop := match ex with
  | .normal => (match xresults X S fn.results.toList with
    | some vs => K S.leave (oneOf vs)
    | none => False)
  | .ret => (match xresults X S fn.results.toList with
    | some vs => K S.leave (oneOf vs)
    | none => False)
  | _ => False
theorem leave_nx (S : St) : S.leave.nx = S.nx := by
  cases S with
  | mk fr H nx F E g => cases g <;> rfl
theorem xretK_ok {lv : List (Nat × List Nat)} {X' : Cx} {b : Act} (hT : TabOk X.P X.T) {fn : Func} {nt : Nat} {d : Option Nat} (hd : dstOk X.nt d = true) (hb : b.tmps.size = X.nt) (hrdb : X.rd.isSome = true → b.defers = []) {K : St → Prop} {KK : Act → World → Prop} (hKK : ∀ e' S' a' w', Rep X e' S' a' w' → K S' → KK a' w') (hX : X' = X.in lv nt none b) :
    compat X' (xretK X' fn fun S' v => K (S'.put d v)) (bodyPostM Fence.wide 0 X.P fn fun E w' => ∃ v, E = .returned v ∧ KK (b.put d v) w') := by
  subst hX
  intro ex e S a w h hk
  have key : (match xresults (X.in lv nt none b) S fn.results.toList with
      | some vs => K (S.leave.put d (oneOf vs))
      | none => False) → LeavesInM Fence.wide 0 X.P fn a.tmps (fun E w' => ∃ v, E = .returned v ∧ KK (b.put d v) w') a.defers .returning w := by
    intro hk
    split at hk
    · rename_i vs hvs
      refine leaves_ok (X := X.in lv nt none b) a.defers h rfl fun e' w' hR => ?_
      obtain ⟨h1, h2⟩ := results_ok (X := X.in lv nt none b) hT hR hvs
      exact ⟨_, h1, _, rfl, hKK _ _ _ _ ((hR.leave rfl hb hrdb).put hd (by rw [leave_nx]; exact h2)) hk⟩
    · exact hk.elim
  cases ex with
  | normal => exact key hk
  | ret => exact key hk
  | exit id => exact hk.elim
  | goto l => exact hk.elim
  | panic ch => exact hk.elim
  | outgrown => exact hk.elim
theorem push_nx (S : St) : S.push.nx = S.nx := by cases S; rfl
/-- A call, walked in place. -/
theorem call_in (lv : List (Nat × List Nat)) (hT : TabOk X.P X.T) {d : Option Nat} {f : Nat} {args : List SV} {K : St → Prop} {fn : Func} {c : Code} (hf : X.P.funcs[f]? = some fn) (hb : fn.body = some c) (nt : Nat) (hnt : fn.ntmps = nt) (hcall : ∀ as w, (callFunc f as).run X.P w = .ok (.enter f as) w) (hn : Nat.ble args.length nt = true)
    (hx : ∀ b, St.forceAll (S.push.withFr (number 0 args)) fun S' => xcode (X.in lv nt none b) c S' (xretK (X.in lv nt none b) fn fun S' v => K (S'.put d v))) : callP X S d f args K := by
  refine ⟨fun hd hlt => .inl ⟨hcall, fun e a w h KK hKK => ?_⟩⟩
  have hx := hx a
  rw [forceAll_eq] at hx
  have hn := Nat.le_of_ble_eq_true hn
  have hsz : (denAll e args).size = args.length := by simp [denAll]
  have main : CallsIn Fence.wide 0 X.P f (denAll e args) w fun E w' => ∃ v, E = .returned v ∧ KK (a.put d v) w' := by
    refine callsIn_of_wp_marks hf hb trivial ?_
    rw [hnt]
    have h1 := h.push (lv := lv) (nt := nt) (rd := none) (a0 := actOf (denAll e args) nt) (actOf_size (by omega)) rfl
    have h2 := h1.setFr args rfl (fun v hv => by rw [push_nx]; exact hlt v hv) hn
    exact xcode_ok (X := X.in lv nt none a) hT c h2 hx (xretK_ok hT hd h.sz h.rdm hKK rfl)
  have hr : X.fen = fenOf X.rd := rfl
  rw [hr]
  cases X.rd with
  | none => exact main
  | some l => exact main
end
end Go.Proofs.Yteldohidnepaoaa.Sy
