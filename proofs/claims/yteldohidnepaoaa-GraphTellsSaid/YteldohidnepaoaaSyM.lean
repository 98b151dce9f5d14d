/-
  The symbolic executor, maps of the call's own: made, looked up, written.
-/
import Derived.Test.YteldohidnepaoaaSy8
import Derived.MapKept
namespace Go.Proofs.Yteldohidnepaoaa.Sy
open Go Go.RowKit
section
variable {X : Cx} {e : Env} {S : St} {a : Act} {w : World}

theorem getObj_at {P : Program} {w : World} {r : Nat} {en : Array MapEntry} {cl : Nat} (h : w.heap[r]? = some (.map en cl)) : (getObj r).run P w = .ok (.map en cl) w := by simp [getObj, Sem.run, h]
theorem setObj_at {P : Program} {w : World} {r : Nat} {en : Array MapEntry} {cl : Nat} (o' : Obj) (h : w.heap[r]? = some (.map en cl)) : (setObj r o').run P w = .ok () { w with heap := w.heap.setIfInBounds r o' } := by simp [setObj, Sem.run, h]
/-- What a search for a key gives, in whatever entries that have these keys and values. -/
def FindIs (P : Program) (kt : TypeId) (kv : Value) (es : List (Value × Value)) (r : Option (Nat × Value)) : Prop :=
  (∀ en : List MapEntry, en.map (fun x => (x.key, x.val)) = es → ∀ w, (Instr.findKey kt kv en).run P w = .ok r w) ∧ ∀ i v, r = some (i, v) → ∃ k', es[i]? = some (k', v) ∧ Instr.sameBits 10000 k' kv = true
structure findP (P : Program) (kt : TypeId) (kv : Value) (es : List (Value × Value)) (K : Option (Nat × Value) → Prop) : Prop where
  out : ∃ r, (∀ b w, (Instr.checkKey b 10000 kt kv).run P w = .ok () w) ∧ FindIs P kt kv es r ∧ K r
def mapOf (S : St) (x : Operand) : Option (Nat × List (Value × Value)) := match S.ev x with
  | some (.c (.row k)) => (match get S.H k with
    | some (.mp es) => some (k, es)
    | _ => none)
  | _ => none
theorem mapOf_get {x : Operand} {k : Nat} {es : List (Value × Value)} (h : mapOf S x = some (k, es)) : S.ev x = some (.c (.row k)) ∧ get S.H k = some (.mp es) := by
  unfold mapOf at h
  split at h
  · rename_i k' hx
    split at h
    · rename_i es' hH
      cases h
      exact ⟨hx, hH⟩
    · cases h
  · cases h
def lookVal (ei : TI) (ok : Bool) (r : Option (Nat × Value)) (K : SV → Prop) : Prop := match ok with
  | true => (match r with
    | some (_, v) => K (.tup [.c (.v v), .c (.v (.bool true))])
    | none => K (.tup [.c (.v ei.zero), .c (.v (.bool false))]))
  | false => (match r with
    | some (_, v) => K (.c (.v v))
    | none => K (.c (.v ei.zero)))
def lookSV (ei : TI) (ok : Bool) (r : Option (Nat × Value)) : SV := match ok with
  | true => (match r with
    | some (_, v) => .tup [.c (.v v), .c (.v (.bool true))]
    | none => .tup [.c (.v ei.zero), .c (.v (.bool false))])
  | false => (match r with
    | some (_, v) => .c (.v v)
    | none => .c (.v ei.zero))
theorem lookVal_eq {ei : TI} {ok : Bool} {r : Option (Nat × Value)} {K : SV → Prop} (h : lookVal ei ok r K) : K (lookSV ei ok r) := by
  cases ok <;> cases r <;> exact h
theorem lookSV_lt {ei : TI} {ok : Bool} {r : Option (Nat × Value)} {n : Nat} (hz : ei.zero.oneCell' = true) (hr : ∀ q, r = some q → q.2.oneCell' = true) : (lookSV ei ok r).lt n = true := by
  cases ok with
  | false =>
    cases r with
    | none => exact hz
    | some q => exact hr q rfl
  | true =>
    cases r with
    | none =>
      show (match ei.zero.oneCell' with | true => true | false => false) = true
      rw [hz]
    | some q =>
      show (match q.2.oneCell' with | true => true | false => false) = true
      rw [hr q rfl]
theorem run_lookup {P : Program} {t kt et g : Nat} {kv : Value} {en : Array MapEntry} {cl : Nat} {ei : TI} {j : TypeInfo} {w : World} {r : Option (Nat × Value)} (e : Env) (hu : P.underlying t = some (.map kt et)) (hb : w.heap[g]? = some (.map en cl)) (hchk : ∀ b w, (Instr.checkKey b 10000 kt kv).run P w = .ok () w)
    (hfind : (Instr.findKey kt kv en.toList).run P w = .ok r w) (hj : P.info? et = some j) (hjz : j.zero = some ei.zero) (ok : Bool) : (Instr.lookup t (.map (some g)) kv ok).run P w = .ok ((lookSV ei ok r).den e) w := by
  cases ok <;> cases r with
  | none => simp [Instr.lookup, run_underlying hu, getObj_at hb, hchk, hfind, run_zeroValue hj hjz, lookSV, SV.den, V1.den, C.den]
  | some q => simp [Instr.lookup, run_underlying hu, getObj_at hb, hchk, hfind, lookSV, SV.den, V1.den, C.den]
def xvLookup (X : Cx) (S : St) (t : Nat) (x i : Operand) (ok : Bool) (K : SV → Prop) : Prop := match get X.T t with
  | some ti => (match ti.d with
    | .map kt et => (match get X.T et with
      | some ei => (match ei.zero.oneCell' with
        | true => (match mapOf S x with
          | some (_, es) => (match S.ev i with
            | some (.c (.v kv)) => findP X.P kt kv es fun r => lookVal ei ok r K
            | some (.agg cs) => (match plainVals cs with
              | some vs => findP X.P kt (.agg vs.toArray) es fun r => lookVal ei ok r K
              | none => False)
            | _ => False)
          | none => False)
        | false => False)
      | none => False)
    | _ => False)
  | none => False
theorem lookup_core (hT : TabOk X.P X.T) (e : Env) (a : Act) {o : Oper} {t kt et : Nat} {x i : Operand} {ok : Bool} {K : SV → Prop} (ho : o.op = .lookup t x i ok) {ti ei : TI} (hti : get X.T t = some ti) (hdd : ti.d = .map kt et) (hei : get X.T et = some ei) (hz : ei.zero.oneCell' = true)
    {k : Nat} {es : List (Value × Value)} (hx : mapOf S x = some (k, es)) {kv : Value} (hi : ∀ w, RepV X e S a w → a.eval i = kv) (hk : findP X.P kt kv es fun r => lookVal ei ok r K) : Yv X e S a o K := by
  obtain ⟨r, hchk, hfind, hk⟩ := hk.out
  obtain ⟨hxv, hH⟩ := mapOf_get hx
  obtain ⟨hu, _⟩ := TabOk.get hT hti
  rw [hdd] at hu
  obtain ⟨_, j, hj, hjz, _⟩ := TabOk.get hT hei
  refine ⟨lookSV ei ok r, lookVal_eq hk, fun w h => ?_⟩
  obtain ⟨F, hrv, en, cl, hb, hen⟩ := h.hp k _ hH
  have hxd := (h.ev_den hxv).1
  simp only [SV.den, C.den, hrv] at hxd
  refine ⟨lookSV_lt hz fun q hq => ?_, ?_⟩
  · obtain ⟨k', hk', _⟩ := hfind.2 q.1 q.2 hq
    exact (h.hlt k _ hH).2 _ (List.mem_of_getElem? hk')
  · have hrun := run_lookup e hu hb hchk (hfind.1 en.toList hen w) hj hjz ok
    simp [execOp, ho, hxd, hi w h, hrun]
theorem lookup_ok (hT : TabOk X.P X.T) (e : Env) (a : Act) {o : Oper} {t : Nat} {x i : Operand} {ok : Bool} {K : SV → Prop} (ho : o.op = .lookup t x i ok) (hk : xvLookup X S t x i ok K) : Yv X e S a o K := by
  unfold xvLookup at hk
  split at hk
  · rename_i ti hti
    split at hk
    · rename_i kt et hdd
      split at hk
      · rename_i ei hei
        split at hk
        · rename_i hz
          split at hk
          · rename_i k es hx
            split at hk
            · rename_i kv hi
              exact lookup_core hT e a ho hti hdd hei hz hx (fun w h => (h.ev_den hi).1) hk
            · rename_i cs hi
              split at hk
              · rename_i vs hvs
                exact lookup_core hT e a ho hti hdd hei hz hx (fun w h => by
                  have := (h.ev_den hi).1
                  rw [this, plainVals_eq hvs]
                  simp only [SV.den, map_den_v']) hk
              · exact hk.elim
            · exact hk.elim
          · exact hk.elim
        · exact hk.elim
      · exact hk.elim
    · exact hk.elim
  · exact hk.elim

/-! ### Made -/
def xMakeMap (S : St) (d : Option Nat) (r : Option Operand) (K : St → Prop) : Prop := match r with
  | none => K ((S.new (.mp [])).put d (.c (.row S.nx)))
  | some _ => False
def Env.withMap (e : Env) (k g : Nat) : Env := { e with ad := fun j => if j = k then g else e.ad j, rv := fun j => if j = k then .map (some g) else e.rv j }
theorem Rep.newMap (h : Rep X e S a w) : Rep X (e.withMap S.nx w.heap.size) (S.new (.mp [])) a (w.alloc (.map #[] 0)) := by
  have hs : Env.same S.nx e (e.withMap S.nx w.heap.size) := fun k hk => ⟨by simp [Env.withMap, Nat.ne_of_lt hk], by simp [Env.withMap, Nat.ne_of_lt hk], rfl, rfl, rfl⟩
  have h1 : (e.withMap S.nx w.heap.size).ad S.nx = w.heap.size := by simp [Env.withMap]
  have h2 : (e.withMap S.nx w.heap.size).rv S.nx = .map (some w.heap.size) := by simp [Env.withMap]
  refine h.step (k0 := S.nx) (b0 := .mp []) hs rfl (Nat.le_succ _) (Nat.lt_succ_self _) (fun x hx => by cases hx) rfl rfl rfl (by simp) (fun x hx => heap_alloc_old w _ (h.kept_lt hx)) (fun k => ?_) ⟨by rw [h1, h2], #[], 0, ?_, rfl⟩ (fun x hx => ?_)
  · by_cases hk : k = S.nx
    · subst hk; rw [h2]; rfl
    · simp only [Env.withMap, if_neg hk]; exact h.one k
  · rw [h1]; exact heap_alloc_new w _
  · have hx : x = (e.withMap S.nx w.heap.size).ad S.nx := hx
    rw [h1] at hx
    exact h.not_kept_new (by omega)
theorem makeMap_ok (h : Rep X e S a w) {o : Oper} (hd : dstOk X.nt o.dst = true) {t : Nat} {r : Option Operand} {K : St → Prop} (ho : o.op = .makeMap t r) (hk : xMakeMap S o.dst r K) : Wv X a w o K := by
  intro KK Q hKK
  unfold xMakeMap at hk
  split at hk
  · have hrun : (execOp a.eval o).run X.P w = .ok (.value (.map (some w.heap.size))) (w.alloc (.map #[] 0)) := by
      simp [execOp, ho, Instr.makeMap]
    have h1 := h.newMap.put (d := o.dst) (v := .c (.row S.nx)) hd (blt_iff.2 (Nat.lt_succ_self _))
    have h2 : SV.den (e.withMap S.nx w.heap.size) (.c (.row S.nx)) = .map (some w.heap.size) := by simp [SV.den, C.den, Env.withMap]
    rw [h2] at h1
    exact wpo_value hrun (hKK _ _ _ _ h1 hk)
  · exact hk.elim

/-! ### Written -/
def setEs (es : List (Value × Value)) (kv v : Value) (r : Option (Nat × Value)) : List (Value × Value) := match r with
  | some (i, _) => es.set i (kv, v)
  | none => es ++ [(kv, v)]
def xMapUpdate (X : Cx) (S : St) (t : Nat) (m k x : Operand) (K : St → Prop) : Prop := match get X.T t with
  | some ti => (match ti.d with
    | .map kt _ => (match mapOf S m with
      | some (j, es) => (match S.ev x with
        | some (.c (.v v)) => (match S.ev k with
          | some (.c (.v kv)) => findP X.P kt kv es fun r => K (S.setH j (.mp (setEs es kv v r)))
          | some (.agg cs) => (match plainVals cs with
            | some vs => findP X.P kt (.agg vs.toArray) es fun r => K (S.setH j (.mp (setEs es (.agg vs.toArray) v r)))
            | none => False)
          | _ => False)
        | _ => False)
      | none => False)
    | _ => False)
  | none => False
theorem mapUpdate_core (hT : TabOk X.P X.T) (h : Rep X e S a w) {o : Oper} (hd : dstOk X.nt o.dst = true) {t kt et : Nat} {m k x : Operand} {K : St → Prop} (ho : o.op = .mapUpdate t m k x) {ti : TI} (hti : get X.T t = some ti) (hdd : ti.d = .map kt et)
    {j : Nat} {es : List (Value × Value)} (hm : mapOf S m = some (j, es)) {v kv : Value} (hx : S.ev x = some (.c (.v v))) (hi : a.eval k = kv) (hk : findP X.P kt kv es fun r => K ((S.setH j (.mp (setEs es kv v r))).put o.dst .un)) : Wv X a w o K := by
  intro KK Q hKK
  obtain ⟨r, hchk, hfind, hk⟩ := hk.out
  obtain ⟨hxv, hH⟩ := mapOf_get hm
  obtain ⟨hu, _⟩ := TabOk.get hT hti
  rw [hdd] at hu
  obtain ⟨hrv, en, cl, hb, hen⟩ := h.hp j _ hH
  have hmd := (h.ev_den hxv).1
  simp only [SV.den, C.den, hrv] at hmd
  obtain ⟨hvd, hvl⟩ := h.ev_den hx
  simp only [SV.den, C.den] at hvd
  have hv1 : v.oneCell' = true := hvl
  have hlt := h.hlt j _ hH
  have step : ∀ en' cl', en'.toList.map (fun x : MapEntry => (x.key, x.val)) = setEs es kv v r → Rep X e (S.setH j (.mp (setEs es kv v r))) a { w with heap := w.heap.setIfInBounds (e.ad j) (.map en' cl') } := by
    intro en' cl' hen'
    have hsz : e.ad j < w.heap.size := (Array.getElem?_eq_some_iff.1 hb).1
    refine h.step (k0 := j) (b0 := .mp (setEs es kv v r)) (Env.same.refl _ _) rfl (Nat.le_refl _) hlt.1 (fun z hz => ?_) rfl rfl rfl (by simp) (fun y hy => ?_) h.one ⟨hrv, en', cl', ?_, hen'⟩ (fun y hy => h.not_kept hH hy)
    · unfold setEs at hz
      split at hz
      · rcases List.mem_or_eq_of_mem_set hz with hz | hz
        · exact hlt.2 z hz
        · rw [hz]; exact hv1
      · rcases List.mem_append.1 hz with hz | hz
        · exact hlt.2 z hz
        · rw [List.mem_singleton.1 hz]; exact hv1
    · have hne : e.ad j ≠ y := fun e1 => h.not_kept hH (x := y) e1.symm hy
      show (w.heap.setIfInBounds (e.ad j) _)[y]? = _
      rw [Array.getElem?_setIfInBounds_ne hne]
    · show (w.heap.setIfInBounds (e.ad j) _)[e.ad j]? = _
      rw [Array.getElem?_setIfInBounds_self_of_lt hsz]
  have fin : ∀ w', (Instr.mapUpdate t (.map (some (e.ad j))) kv v).run X.P w = .ok () w' → Rep X e (S.setH j (.mp (setEs es kv v r))) a w' → o.wpIn X.fen 0 X.P a w KK Q := by
    intro w' hrun hR
    refine wpo_skip (w' := w') (by simp [execOp, ho, hmd, hi, hvd, hrun]) (hKK _ _ _ _ (hR.put (d := o.dst) (v := .un) hd rfl) hk)
  cases r with
  | none =>
    refine fin _ ?_ (step (en.push { key := kv, val := v, born := cl }) (cl + 1) ?_)
    · simp [Instr.mapUpdate, run_underlying hu, getObj_at hb, hchk, hfind.1 en.toList hen w, setObj_at _ hb]
    · simp [setEs, hen]
  | some q =>
    obtain ⟨i, v0⟩ := q
    obtain ⟨k', hk', hsb⟩ := hfind.2 i v0 rfl
    have hki : ((en[i]?).map (·.key)).getD kv = k' := by
      rw [← hen, List.getElem?_map] at hk'
      rw [← Array.getElem?_toList]
      cases hq : en.toList[i]? with
      | none => rw [hq] at hk'; cases hk'
      | some z => rw [hq] at hk'; simp at hk'; simp [hk'.1]
    refine fin _ ?_ (step (en.modify i fun z => { z with key := kv, val := v }) cl ?_)
    · simp [Instr.mapUpdate, run_underlying hu, getObj_at hb, hchk, hfind.1 en.toList hen w, hki, Instr.keyThatStays, hsb, setObj_at _ hb]
    · simp only [setEs, Array.toList_modify]
      rw [← hen]
      apply List.ext_getElem?
      intro n
      rw [List.getElem?_map, List.getElem?_modify, List.getElem?_set]
      by_cases hn : i = n
      · subst hn
        rw [← hen, List.getElem?_map] at hk'
        cases hq : en.toList[i]? with
        | none => rw [hq] at hk'; cases hk'
        | some z =>
          have hlt2 : i < en.toList.length := (List.getElem?_eq_some_iff.1 hq).1
          simp at hlt2
          simp [hlt2]
      · simp [hn]
theorem mapUpdate_ok (hT : TabOk X.P X.T) (h : Rep X e S a w) {o : Oper} (hd : dstOk X.nt o.dst = true) {t : Nat} {m k x : Operand} {K : St → Prop} (ho : o.op = .mapUpdate t m k x) (hk : xMapUpdate X S t m k x fun S' => K (S'.put o.dst .un)) : Wv X a w o K := by
  unfold xMapUpdate at hk
  split at hk
  · rename_i ti hti
    split at hk
    · rename_i kt et hdd
      split at hk
      · rename_i j es hm
        split at hk
        · rename_i v hx
          split at hk
          · rename_i kv hi
            exact mapUpdate_core hT h hd ho hti hdd hm hx (h.ev_den hi).1 hk
          · rename_i cs hi
            split at hk
            · rename_i vs hvs
              exact mapUpdate_core hT h hd ho hti hdd hm hx (by
                have := (h.ev_den hi).1
                rw [this, plainVals_eq hvs]
                simp only [SV.den, map_den_v']) hk
            · exact hk.elim
          · exact hk.elim
        · exact hk.elim
      · exact hk.elim
    · exact hk.elim
  · exact hk.elim

/-! ### Keys that are integers, strings -/
/-- The place of a key among keys of a kind, each once. -/
theorem findNow_int {k : IntKind} {x : Int} : ∀ (l : List (Int × Value)) (en : List MapEntry) (j : Nat), en.map (fun z => (z.key, z.val)) = l.map (fun z => (Value.int k z.1, z.2)) →
    Instr.findNow (.int k) (.int k x) en j = some ((l.findIdx? (fun z => z.1 == x)).bind fun i => (l[i]?).map fun z => (j + i, z.2))
  | [], [], j, _ => rfl
  | z :: l, y :: en, j, h => by
    simp only [List.map_cons, List.cons.injEq, Prod.mk.injEq] at h
    obtain ⟨⟨h1, h2⟩, h3⟩ := h
    have ih := findNow_int (k := k) (x := x) l en (j + 1) h3
    unfold Instr.findNow
    rw [h1]
    simp only [Instr.sameNow, if_true]
    by_cases hz : z.1 = x
    · have : (x == z.1) = true := by simp [hz]
      rw [this]
      simp [List.findIdx?_cons, hz, h2]
    · have : (x == z.1) = false := by simp [Ne.symm hz]
      rw [this]
      simp only
      rw [ih]
      have hz' : (z.1 == x) = false := by simpa using hz
      rw [List.findIdx?_cons, hz']
      simp only [Bool.false_eq_true, if_false]
      cases hf : l.findIdx? (fun z => z.1 == x) with
      | none => rfl
      | some i => simp [Nat.add_assoc, Nat.add_comm 1 i]
  | [], _ :: _, _, h => by simp at h
  | _ :: _, [], _, h => by simp at h
theorem find_int {P : Program} {kt : TypeId} {k : IntKind} (hu : P.underlying kt = some (.int k)) (l : List (Int × Value)) (x : Int) : FindIs P kt (.int k x) (l.map fun z => (Value.int k z.1, z.2)) ((l.findIdx? (fun z => z.1 == x)).bind fun i => (l[i]?).map fun z => (i, z.2)) := by
  refine ⟨fun en hen w => ?_, fun i v hr => ?_⟩
  · have := findNow_int (k := k) (x := x) l en 0 hen
    simp [Instr.findKey, run_underlying hu, this]
  · obtain ⟨i', hf, hr⟩ := Option.bind_eq_some_iff.1 hr
    obtain ⟨z, hz, hr⟩ := Option.map_eq_some_iff.1 hr
    cases hr
    obtain ⟨h1, h2, _⟩ := List.findIdx?_eq_some_iff_getElem.1 hf
    have hz' := (List.getElem?_eq_some_iff.1 hz).2
    rw [hz'] at h2
    refine ⟨.int k z.1, by rw [List.getElem?_map, hz]; rfl, ?_⟩
    simp at h2
    simp [Instr.sameBits, h2]
theorem check_simple {P : Program} {kt : TypeId} {d : TypeDesc} (hu : P.underlying kt = some d) (hd : match d with | .int _ => True | .string => True | .bool => True | _ => False) (v : Value) (b : Bool) (w : World) : (Instr.checkKey b 10000 kt v).run P w = .ok () w := by
  have h1 : ∀ n, (Instr.checkKey b (n + 1) kt v).run P w = .ok () w := fun n => by
    cases d <;> first | exact hd.elim | (unfold Instr.checkKey; simp [run_underlying hu])
  exact h1 9999
/-- The key is there. -/
theorem map_hit {P : Program} {kt : TypeId} {k : IntKind} {K : Option (Nat × Value) → Prop} (l : List (Int × Value)) (x : Int) (i : Nat) (v : Value) (hu : P.underlying kt = some (.int k)) (hi : l[i]? = some (x, v)) (hno : ∀ j z, j < i → l[j]? = some z → z.1 ≠ x) (hk : K (some (i, v))) :
    findP P kt (.int k x) (l.map fun z => (Value.int k z.1, z.2)) K := by
  have hf : l.findIdx? (fun z => z.1 == x) = some i := by
    rw [List.findIdx?_eq_some_iff_getElem]
    obtain ⟨h1, h2⟩ := List.getElem?_eq_some_iff.1 hi
    refine ⟨h1, by rw [h2]; simp, fun j hj => ?_⟩
    have := hno j _ hj (List.getElem?_eq_getElem (by omega))
    simpa using this
  have := find_int hu l x
  rw [hf] at this
  simp only [Option.bind_some, hi, Option.map_some] at this
  exact ⟨_, fun b w => check_simple hu trivial _ b w, this, hk⟩
/-- The key is not there. -/
theorem map_miss {P : Program} {kt : TypeId} {k : IntKind} {K : Option (Nat × Value) → Prop} (l : List (Int × Value)) (x : Int) (hu : P.underlying kt = some (.int k)) (hno : ∀ z ∈ l, z.1 ≠ x) (hk : K none) : findP P kt (.int k x) (l.map fun z => (Value.int k z.1, z.2)) K := by
  have hf : l.findIdx? (fun z => z.1 == x) = none := by
    rw [List.findIdx?_eq_none_iff]
    intro z hz
    simpa using hno z hz
  have := find_int hu l x
  rw [hf] at this
  exact ⟨_, fun b w => check_simple hu trivial _ b w, this, hk⟩
end
end Go.Proofs.Yteldohidnepaoaa.Sy
