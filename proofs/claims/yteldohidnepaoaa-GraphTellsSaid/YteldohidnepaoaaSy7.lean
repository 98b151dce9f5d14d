/-
  The symbolic executor, 7: slices: literals, make, append of zero values, copy, clear, parts of slices.
-/
import Derived.Test.YteldohidnepaoaaSy6
namespace Go.Proofs.Yteldohidnepaoaa.Sy
open Go Go.RowKit
section
variable {X : Cx} {e : Env} {S : St} {a : Act} {w : World}

/-! ### Literals -/
def chunk {α : Type} (sz : Nat) : Nat → List α → List (List α)
  | 0, _ => []
  | n + 1, l => l.take sz :: chunk sz n (l.drop sz)
theorem chunk_len {α : Type} (sz : Nat) : ∀ (n : Nat) (l : List α), (chunk sz n l).length = n
  | 0, _ => rfl
  | n + 1, l => by rw [chunk, List.length_cons, chunk_len]
theorem chunk_szs {α : Type} {sz : Nat} : ∀ {n : Nat} {l : List α}, l.length = n * sz → ∀ c ∈ chunk sz n l, c.length = sz
  | 0, _, _, c, hc => by cases hc
  | n + 1, l, h, c, hc => by
    rw [Nat.add_mul] at h
    rw [chunk] at hc
    rcases List.mem_cons.1 hc with rfl | hc
    · rw [List.length_take]; omega
    · exact chunk_szs (by rw [List.length_drop]; omega) c hc
theorem chunk_flat {α : Type} {sz : Nat} : ∀ {n : Nat} {l : List α}, l.length = n * sz → (chunk sz n l).flatten = l
  | 0, l, h => by rw [Nat.zero_mul] at h; rw [List.eq_nil_of_length_eq_zero h]; rfl
  | n + 1, l, h => by
    rw [Nat.add_mul] at h
    rw [chunk, List.flatten_cons, chunk_flat (by rw [List.length_drop]; omega), List.take_append_drop]
theorem chunk_map {α β : Type} (f : α → β) (sz : Nat) : ∀ (n : Nat) (l : List α), (chunk sz n l).map (fun c => c.map f) = chunk sz n (l.map f)
  | 0, _ => rfl
  | n + 1, l => by rw [chunk, chunk, List.map_cons, chunk_map f, List.map_take, List.map_drop]
theorem mem_chunk {α : Type} (sz : Nat) : ∀ (n : Nat) (l : List α) (c : List α), c ∈ chunk sz n l → ∀ x ∈ c, x ∈ l
  | 0, _, c, h, x, hx => by cases h
  | n + 1, l, c, h, x, hx => by
    rw [chunk] at h
    rcases List.mem_cons.1 h with rfl | h
    · exact List.mem_of_mem_take hx
    · exact List.mem_of_mem_drop (mem_chunk sz n _ c h x hx)
def plainEls : List (List C) → Option (List (List Value))
  | [] => some []
  | c :: r => (match plainVals c with
    | some v => (match plainEls r with
      | some l => some (v :: l)
      | none => none)
    | none => none)
theorem plainEls_eq : ∀ {l : List (List C)} {v : List (List Value)}, plainEls l = some v → l = v.map fun c => c.map C.v
  | [], v, h => by cases h; rfl
  | c :: r, v, h => by
    simp only [plainEls] at h
    split at h
    · rename_i x hx
      split at h
      · rename_i l hl
        cases h
        rw [plainEls_eq hl, plainVals_eq hx]; rfl
      · cases h
    · cases h
def toEls (l : List (List C)) : Els := match plainEls l with
  | some v => .vs v
  | none => .cs l
theorem toEls_den (e : Env) (l : List (List C)) : (toEls l).den e = l.map fun c => c.map (C.den e) := by
  unfold toEls
  split
  · rename_i v hv
    rw [plainEls_eq hv, List.map_map]
    exact ((List.map_congr_left fun c _ => show (c.map C.v).map (C.den e) = c from map_den_v' e c).trans (List.map_id' v)).symm
  · rfl
theorem toEls_lt {n : Nat} {l : List (List C)} (h : ∀ c ∈ l, ltAll n c = true) : (toEls l).lt n := by
  unfold toEls
  split
  · rename_i v hv
    intro c hc u hu
    rw [plainEls_eq hv] at h
    exact ltAll_mem (h _ (List.mem_map_of_mem hc)) (.v u) (List.mem_map_of_mem hu)
  · exact h
theorem run_buildSlice' {P : Program} (w : World) (t el : TypeId) (len : Nat) (parts : Array (Nat × Value)) (cells : Array Value) (ie : TypeInfo) (z : Value)
    (hu : P.underlying t = some (.slice el)) (hie : P.info? el = some ie) (hz : ie.zero = some z) (hsmall : len * ie.size ≤ 16777216)
    (h : Instr.fill (fun i => some (i * ie.size, ie.size)) ((Array.range (len * ie.size)).map (z.cells[· % z.cells.size]!)) parts.toList = some cells) :
    (Instr.buildSlice t len parts).run P w = .ok (.slice (some ⟨w.heap.size, 0, none⟩) len len) (w.alloc (.cells cells el)) := by
  have hs : ¬ len * ie.size > 2 ^ 24 := by omega
  by_cases h0 : len * ie.size = 0
  · have e0 : ∀ f : Nat → Value, (Array.range (len * ie.size)).map f = #[] := fun f => by rw [h0]; apply Array.ext'; simp
    rw [e0] at h
    simp only [Instr.buildSlice, Sem.run_bind, run_underlying hu, run_sizeOf hie, Result.andThen_ok, if_neg hs, if_pos h0, Sem.run_pure, e0, h, run_newRow']
  · exact run_buildSlice w t el len parts cells ie z hu hie hz hs h0 h
def zeroRow (z : Value) (n : Nat) : List C := (List.range n).map fun i => C.v (z.cells[i % z.cells.size]!)
def xBuildSlice (X : Cx) (S : St) (d : Option Nat) (t len : Nat) (parts : List (Nat × Operand)) (K : St → Prop) : Prop := match get X.T t with
  | some ti => (match ti.d with
    | .slice el => (match get X.T el with
      | some ei => (match Nat.ble (len * ei.size) 16777216 with
        | true => (match Nat.ble len 16777216 with
          | true => (match ltAll 0 (zeroRow ei.zero (len * ei.size)) with
            | true => (match fillS S (fun i => some (i * ei.size, ei.size)) (zeroRow ei.zero (len * ei.size)) parts with
              | some cs => (match Nat.beq cs.length (len * ei.size) with
                | true => K ((S.new (.row el ei.size len (toEls (chunk ei.size len cs)))).put d (.c (.row S.nx)))
                | false => False)
              | none => False)
            | false => False)
          | false => False)
        | false => False)
      | none => False)
    | _ => False)
  | none => False
theorem rfoot_slice {g n c x : Nat} (h : rfoot (.slice (some ⟨g, 0, none⟩) n c) x) : x = g := by
  obtain ⟨p, n', c', hv, _, rfl⟩ := h
  injection hv with hv
  injection hv with hv
  rw [← hv]
theorem buildSlice_ok (hT : TabOk X.P X.T) (h : Rep X e S a w) {o : Oper} (hd : dstOk X.nt o.dst = true) {t len : Nat} {parts : Array (Nat × Operand)} {K : St → Prop} (ho : o.op = .buildSlice t len parts) (hk : xBuildSlice X S o.dst t len parts.toList K) : Wv X a w o K := by
  intro KK Q hKK
  obtain ⟨parts⟩ := parts
  unfold xBuildSlice at hk
  split at hk
  · rename_i ti hti
    split at hk
    · rename_i el hdd
      split at hk
      · rename_i ei hei
        split at hk
        · rename_i hsm
          split at hk
          · rename_i hlen
            split at hk
            · rename_i hz0
              split at hk
              · rename_i cs hcs
                split at hk
                · rename_i hcl
                  have hcl : cs.length = len * ei.size := Nat.eq_of_beq_eq_true hcl
                  have hsm : len * ei.size ≤ 16777216 := Nat.le_of_ble_eq_true hsm
                  have hlen : len ≤ 16777216 := Nat.le_of_ble_eq_true hlen
                  have hu := (TabOk.get hT hti).1
                  rw [hdd] at hu
                  obtain ⟨_, j, hj, hjz, hjs, _, _⟩ := TabOk.get hT hei
                  obtain ⟨h1, h2⟩ := fillS_ok h.v (placeP := fun i => some (i * ei.size, ei.size)) (fun i p hp => hp) _ _ _ (ltAll_mono (Nat.zero_le _) hz0) hcs
                  have hzr : ((zeroRow ei.zero (len * ei.size)).map (C.den e)).toArray = (Array.range (len * j.size)).map (ei.zero.cells[· % ei.zero.cells.size]!) := by
                    rw [hjs]
                    apply Array.ext'
                    simp [zeroRow, Function.comp_def, C.den]
                  rw [hzr, ← hjs] at h2
                  have hrun := run_buildSlice' (P := X.P) w t el len (parts.map fun (i, x) => (i, a.eval x)).toArray _ j ei.zero hu hj hjz (by rw [hjs]; omega) (by simpa using h2)
                  have hrun2 : (execOp a.eval o).run X.P w = .ok (.value (.slice (some ⟨w.heap.size, 0, none⟩) len len)) (w.alloc (.cells (cs.map (C.den e)).toArray el)) := by
                    simp only [execOp, ho, List.map_toArray]
                    simp only [Sem.run_bind, hrun, Result.andThen_ok, Sem.run_pure]
                  have hden : (toEls (chunk ei.size len cs)).den e = chunk ei.size len (cs.map (C.den e)) := by rw [toEls_den, chunk_map]
                  have hcl' : (cs.map (C.den e)).length = len * ei.size := by rw [List.length_map]; exact hcl
                  have hone : ∀ u ∈ cs.map (C.den e), u.oneCell' = true := fun u hu => by
                    obtain ⟨c, hc, rfl⟩ := List.mem_map.1 hu
                    exact C.one_of h.one (ltAll_mem h1 c hc)
                  have hr := h.newRow (w' := w.alloc (.cells (cs.map (C.den e)).toArray el)) (ety := el) (esz := ei.size) (n := len) (xs := toEls (chunk ei.size len cs)) (v := .slice (some ⟨w.heap.size, 0, none⟩) len len)
                    (toEls_lt fun c hc => ltAll_of fun x hx => ltAll_mem h1 x (mem_chunk _ _ _ c hc x hx)) rfl rfl rfl (by simp) (fun x hx => heap_alloc_old w _ (h.kept_lt hx))
                    (by
                      rw [hden]
                      refine ⟨chunk_len _ _ _, chunk_szs hcl', ?_⟩
                      rcases Nat.eq_zero_or_pos len with h0 | h0
                      · subst h0; exact .inl ⟨_, rfl, rfl⟩
                      · refine .inr ⟨_, _, rfl, chunk_szs hcl', by rw [chunk_len]; exact Nat.le_refl _, by simp only [maxLen]; omega, h0, _, heap_alloc_new w _, by simpa using hcl, ?_, by simpa using hone⟩
                        rw [chunk_len, chunk_flat hcl']
                        exact List.take_of_length_le (by simpa using Nat.le_of_eq hcl))
                    (fun x hx => by rw [rfoot_slice hx]; exact h.not_kept_new (Nat.le_refl _))
                  have hp := hr.put (d := o.dst) (v := .c (.row S.nx)) hd (blt_iff.2 (Nat.lt_succ_self _))
                  simp only [SV.den, C.den, Env.withRow_rv] at hp
                  exact wpo_value hrun2 (hKK _ _ _ _ hp hk)
                · exact hk.elim
              · exact hk.elim
            · exact hk.elim
          · exact hk.elim
        · exact hk.elim
      · exact hk.elim
    · exact hk.elim
  · exact hk.elim

/-! ### make, and append of zero values -/
theorem zeros_flat {z : Array Value} {sz : Nat} (hz : z.size = sz) : ∀ n, (List.range (n * sz)).map (fun i => z[i % sz]!) = (List.replicate n z.toList).flatten
  | 0 => by simp
  | n + 1 => by
    rw [Nat.add_mul, Nat.one_mul, List.range_add, List.map_append, zeros_flat hz n, List.replicate_succ', List.flatten_append, List.map_map]
    congr 1
    simp only [List.flatten_singleton]
    apply List.ext_getElem
    · simp [hz]
    · intro i h1 h2
      simp only [List.length_map, List.length_range] at h1
      simp [Nat.add_comm (n * sz) i, Nat.add_mul_mod_self_right, Nat.mod_eq_of_lt h1, getElem!_pos z i (by omega)]
theorem replicate_szs {α : Type} {c : List α} {sz n : Nat} (h : c.length = sz) : ∀ d ∈ List.replicate n c, d.length = sz := fun d hd => by rw [List.eq_of_mem_replicate hd]; exact h
/-- A length that is computed. -/
structure mkP (l c : Int) (b : Nat) (K : Nat → Prop) : Prop where
  out : (0 ≤ l ∧ l ≤ c ∧ (b : Int) * c ≤ 281474976710656 ∧ c ≤ 140737488355328) ∧ K l.toNat
theorem mk_of {l c : Int} {b : Nat} {K : Nat → Prop} (h : 0 ≤ l ∧ l ≤ c ∧ (b : Int) * c ≤ 281474976710656 ∧ c ≤ 140737488355328) (hk : K l.toNat) : mkP l c b K := by refine ⟨?_⟩; exact ⟨h, hk⟩
theorem mk_nat {l : Nat} {c : Int} {b : Nat} {K : Nat → Prop} (h : (l : Int) ≤ c ∧ (b : Int) * c ≤ 281474976710656 ∧ c ≤ 140737488355328) (hk : K l) : mkP (l : Int) c b K := by refine ⟨?_⟩; exact ⟨⟨by omega, h⟩, hk⟩
def xMakeSlice (X : Cx) (S : St) (d : Option Nat) (t : Nat) (l c : Operand) (K : St → Prop) : Prop := match get X.T t with
  | some ti => (match ti.d with
    | .slice el => (match get X.T el with
      | some ei => (match okZero ei with
        | true => (match S.ev l with
          | some (.c (.v (.int _ l))) => (match S.ev c with
            | some (.c (.v (.int _ c))) => mkP l c ei.bytes fun n => K ((S.new (.row el ei.size n (.vs (List.replicate n (zeroE ei))))).put d (.c (.row S.nx)))
            | _ => False)
          | _ => False)
        | false => False)
      | none => False)
    | _ => False)
  | none => False
theorem makeSlice_ok (hT : TabOk X.P X.T) (h : Rep X e S a w) {o : Oper} (hd : dstOk X.nt o.dst = true) {t : Nat} {l c : Operand} {K : St → Prop} (ho : o.op = .makeSlice t l c) (hk : xMakeSlice X S o.dst t l c K) : Wv X a w o K := by
  intro KK Q hKK
  unfold xMakeSlice at hk
  split at hk
  · rename_i ti hti
    split at hk
    · rename_i el hdd
      split at hk
      · rename_i ei hei
        split at hk
        · rename_i hz
          split at hk
          · rename_i kl l' hl
            split at hk
            · rename_i kc c' hc
              replace hk := hk.out
              obtain ⟨⟨h0, h1, h2, h3⟩, hk⟩ := hk
              have hu := (TabOk.get hT hti).1
              rw [hdd] at hu
              obtain ⟨_, j, hj, hjz, hjs, hjb, _⟩ := TabOk.get hT hei
              obtain ⟨z1, z2, z3⟩ := okZero_get hz
              have hld := (h.ev_den hl).1
              have hcd := (h.ev_den hc).1
              simp only [SV.den, C.den] at hld hcd
              have hr := run_make (P := X.P) w t el j ei.zero hu hj hjz kl kc l' c' h0 h1 (by rw [hjb]; exact h2) (by omega)
              have hrun : (execOp a.eval o).run X.P w = .ok (.value (.slice (some ⟨w.heap.size, 0, none⟩) l'.toNat c'.toNat)) (w.alloc (.cells (madeCells ei.zero.cells (c'.toNat * j.size)) el)) := by
                simp [execOp, ho, hld, hcd, hr]
              have hzl : (zeroE ei).length = ei.size := by simp [zeroE, z1]
              have hzf := zeros_flat (z := ei.zero.cells) z1
              have hcur : (madeCells ei.zero.cells (c'.toNat * j.size)).toList = (List.replicate c'.toNat (zeroE ei)).flatten := by
                rw [hjs, zeroE, ← hzf]; simp [madeCells, z1]
              have hR := h.newRow (w' := w.alloc (.cells (madeCells ei.zero.cells (c'.toNat * j.size)) el)) (ety := el) (esz := ei.size) (n := l'.toNat) (xs := .vs (List.replicate l'.toNat (zeroE ei))) (v := .slice (some ⟨w.heap.size, 0, none⟩) l'.toNat c'.toNat)
                (fun d hd u hu => by rw [List.eq_of_mem_replicate hd] at hu; exact List.all_eq_true.1 z3 u hu) rfl rfl rfl (by simp) (fun x hx => heap_alloc_old w _ (h.kept_lt hx)) (by
                  refine ⟨by simp [Els.den], replicate_szs hzl, ?_⟩
                  rcases Nat.eq_zero_or_pos c'.toNat with hc0 | hc0
                  · exact .inl ⟨_, by rw [hc0, show l'.toNat = 0 by omega], by omega⟩
                  · refine .inr ⟨_, _, rfl, replicate_szs hzl, by simp [Els.den]; omega, by simp only [maxLen]; omega, hc0, _, heap_alloc_new w _, by rw [← Array.length_toList, hcur, flat_len (replicate_szs hzl), List.length_replicate], ?_, fun u hu => ?_⟩
                    · rw [hcur, ← flat_take (replicate_szs hzl)]
                      simp [Els.den, Nat.min_eq_left (show l'.toNat ≤ c'.toNat by omega)]
                    · rw [hcur] at hu
                      obtain ⟨d, hd, hu⟩ := List.mem_flatten.1 hu
                      rw [List.eq_of_mem_replicate hd] at hu
                      exact List.all_eq_true.1 z3 u hu)
                (fun x hx => by rw [rfoot_slice hx]; exact h.not_kept_new (Nat.le_refl _))
              have hp := hR.put (d := o.dst) (v := .c (.row S.nx)) hd (blt_iff.2 (Nat.lt_succ_self _))
              simp only [SV.den, C.den, Env.withRow_rv] at hp
              exact wpo_value hrun (hKK _ _ _ _ hp hk)
            · exact hk.elim
          · exact hk.elim
        · exact hk.elim
      · exact hk.elim
    · exact hk.elim
  · exact hk.elim
def intTB : TypeDesc → Bool
  | .int _ => true
  | _ => false
theorem intTB_eq {d : TypeDesc} (h : intTB d = true) : ∃ k, d = .int k := by cases d <;> first | exact ⟨_, rfl⟩ | cases h
/-- A count that is computed. -/
structure cntP (m : Int) (K : Nat → Prop) : Prop where
  out : 0 < m ∧ K m.toNat
theorem cnt_of {m : Int} {K : Nat → Prop} (h : 0 < m) (hk : K m.toNat) : cntP m K := by refine ⟨?_⟩; exact ⟨h, hk⟩
theorem cnt_eq {m : Int} {K : Nat → Prop} (j : Nat) (hm : m = (j : Int)) (h : 0 < j) (hk : K j) : cntP m K := by subst hm; exact ⟨⟨by omega, hk⟩⟩
/-- append of so many zero values, where there is no room. -/
def xAppendZ (X : Cx) (S : St) (d : Option Nat) (t t' : Nat) (s x : Operand) (K : St → Prop) : Prop := match get X.T t with
  | some ti => (match ti.d with
    | .slice el => (match get X.T el with
      | some ei => (match get X.T t' with
        | some ni => (match intTB ni.d with
          | true => (match okZero ei with
            | true => (match S.ev x with
              | some (.c (.v (.int _ m))) => (match S.ev s with
                | some (.c (.sl k 0 n)) => (match get S.H k with
                  | some (.buf ety sz cap xs) => (match Nat.beq ety el with
                    | true => (match Nat.beq sz ei.size with
                      | true => cntP m fun m => needP (n ≤ xs.len ∧ cap < n + m ∧ (n + m) * ei.bytes ≤ 140737488355328 ∧ n + m ≤ 140737488355328) (∀ cap', n + m ≤ cap' → cap' ≤ maxLen → K ((S.new (.buf el ei.size cap' ((xs.take n).app (.vs (List.replicate m (zeroE ei)))))).put d (.c (.sl S.nx 0 (n + m)))))
                      | false => False)
                    | false => False)
                  | _ => False)
                | some (.c (.v (.slice none 0 0))) => cntP m fun m => needP (m * ei.bytes ≤ 140737488355328 ∧ m ≤ 140737488355328) (∀ cap', m ≤ cap' → cap' ≤ maxLen → K ((S.new (.buf el ei.size cap' (.vs (List.replicate m (zeroE ei))))).put d (.c (.sl S.nx 0 m))))
                | _ => False)
              | _ => False)
            | false => False)
          | false => False)
        | none => False)
      | none => False)
    | _ => False)
  | none => False
theorem zeroCells_flat {z : Value} {sz : Nat} (hz : z.cells.size = sz) (n : Nat) : (Builtin.zeroCells z.cells n).toList = (List.replicate n z.cells.toList).flatten := by
  rw [← zeros_flat hz]; simp [Builtin.zeroCells, hz]
theorem appendZ_ok (hT : TabOk X.P X.T) (h : Rep X e S a w) {o : Oper} (hd : dstOk X.nt o.dst = true) {t t' : Nat} {s x : Operand} {K : St → Prop} (ho : o.op = .call { callee := .builtin .append, args := #[s, x], argTypes := #[t, t'] }) (hk : xAppendZ X S o.dst t t' s x K) : Wv X a w o K := by
  intro KK Q hKK
  unfold xAppendZ at hk
  split at hk
  · rename_i ti hti
    split at hk
    · rename_i el hdd
      split at hk
      · rename_i ei hei
        split at hk
        · rename_i ni hni
          split at hk
          · rename_i hnd
            split at hk
            · rename_i hz
              split at hk
              · rename_i kq m hx
                obtain ⟨kn, hkn⟩ := intTB_eq hnd
                have hu := (TabOk.get hT hti).1
                rw [hdd] at hu
                have hun := (TabOk.get hT hni).1
                rw [hkn] at hun
                obtain ⟨_, j, hj, hjz, hjs, hjb, _⟩ := TabOk.get hT hei
                obtain ⟨z1, z2, z3⟩ := okZero_get hz
                have hxd := (h.ev_den hx).1
                simp only [SV.den, C.den] at hxd
                have hzl : (zeroE ei).length = ei.size := by simp [zeroE, z1]
                have hzo : ∀ m, ∀ u ∈ (List.replicate m (zeroE ei)).flatten, u.oneCell' = true := fun m u hu => by
                  obtain ⟨d, hd, hu⟩ := List.mem_flatten.1 hu
                  rw [List.eq_of_mem_replicate hd] at hu
                  exact List.all_eq_true.1 z3 u hu
                have fin : ∀ (A : Option Addr) (n cap m : Nat) (xs : Els), 0 < m → a.eval s = .slice A n cap → a.eval x = .int kq (m : Int) → xs.lt S.nx → (xs.den e).length = n → (∀ c ∈ xs.den e, c.length = ei.size) → (Builtin.firstCells j.size n (.slice A n cap)).run X.P w.drew = .ok (xs.den e).flatten.toArray w.drew → (∀ u ∈ (xs.den e).flatten, u.oneCell' = true) → cap < n + m → (n + m) * ei.bytes ≤ 140737488355328 → n + m ≤ 140737488355328 →
                    (∀ cap', n + m ≤ cap' → cap' ≤ maxLen → K ((S.new (.buf el ei.size cap' (xs.app (.vs (List.replicate m (zeroE ei)))))).put o.dst (.c (.sl S.nx 0 (n + m))))) → o.wpIn X.fen 0 X.P a w KK Q := by
                  intro A n cap m xs hm hsd hxd hlx hxl hxsz hf hx1 hcap hb hnm hK
                  have hmb : m * ei.bytes ≤ 140737488355328 := Nat.le_trans (Nat.mul_le_mul_right _ (Nat.le_add_left _ _)) hb
                  have hr := Lib.run_append_grow_zeros (P := X.P) w t t' o.type el j ei.zero kq kn hu hun hj hjz A n cap _ hf m hm (by rw [hjs]; exact z2) hcap (by omega) (by rw [hjb]; omega) (growslice_fits hcap (by rw [hjb]; exact hb))
                  have hge := grownCap_ge w (n + m) cap el
                  have hgm := grownCap_le_maxLen w (n + m) cap el (by simp only [maxLen]; omega)
                  have hO := own_grown (el := el) (esz := ei.size) (need := n + m) (cap := grownCap w (n + m) cap el) (zs := xs.den e ++ List.replicate m (zeroE ei)) (z := ei.zero) w z1 z3 z2 (by rw [List.length_append, hxl, List.length_replicate]) (szs_app hxsz (replicate_szs hzl)) (fun u hu => by
                    rw [List.flatten_append] at hu
                    rcases List.mem_append.1 hu with hu | hu
                    · exact hx1 u hu
                    · exact hzo m u hu) hge hgm (by omega)
                  have harr : (List.replicate m (zeroE ei)).flatten.toArray = Builtin.zeroCells ei.zero.cells m := by
                    rw [zeroE, ← zeroCells_flat (z := ei.zero) z1]
                  rw [List.flatten_append, ← List.append_toArray, harr] at hO
                  have hR := h.newBuf (ety := el) (esz := ei.size) (cap := grownCap w (n + m) cap el) (g := w.heap.size) (xs := xs.app (.vs (List.replicate m (zeroE ei)))) (Els.app_lt hlx (fun d hd u hu => by rw [List.eq_of_mem_replicate hd] at hu; exact List.all_eq_true.1 z3 u hu)) (w' := w.drew.alloc (.cells ((xs.den e).flatten.toArray ++ Builtin.zeroCells ei.zero.cells m ++ Builtin.zeroCells ei.zero.cells (grownCap w (n + m) cap el - (n + m))) el)) rfl rfl rfl (by simp) (fun x hx => heap_alloc_old w.drew _ (h.kept_lt hx)) (by rw [Els.den_app]; exact hO) (h.not_kept_new (Nat.le_refl _))
                  have hp := hR.put (d := o.dst) (v := .c (.sl S.nx 0 (n + m))) hd (blt_iff.2 (Nat.lt_succ_self _))
                  obtain ⟨q1, q2, q3, q4⟩ := Env.withBuf_at e S.nx w.heap.size ei.size (grownCap w (n + m) cap el)
                  simp only [SV.den, C.den, Nat.zero_mul, q2, q4, Nat.sub_zero] at hp
                  exact wpo_value (run_append_op ho hsd hxd hr) (hKK _ _ _ _ hp (hK _ hge hgm))
                split at hk
                · rename_i k n hs
                  split at hk
                  · rename_i ety sz cap xs hH
                    split at hk
                    · rename_i h1
                      split at hk
                      · rename_i h2
                        have h1 := Nat.eq_of_beq_eq_true h1
                        have h2 := Nat.eq_of_beq_eq_true h2
                        subst h1; subst h2
                        replace hk := hk.out
                        obtain ⟨hm, hk⟩ := hk
                        obtain ⟨⟨g1, g2, g3, g4⟩, hk⟩ := need_get hk
                        obtain ⟨hown, hes, hcp, hra⟩ := h.hp k _ hH
                        have hxs : (xs.den e).length = xs.len := Els.den_len e xs
                        have hpl : ((xs.den e).take n).length = n := by rw [List.length_take, Nat.min_eq_left (by omega)]
                        refine fin (some ⟨e.ad k, 0, none⟩) n cap m.toNat (xs.take n) (by omega) (by
                          have := (h.ev_den hs).1
                          simp only [SV.den, C.den, Nat.zero_mul, hra, hcp, Nat.sub_zero] at this
                          rw [this]; rfl) (by rw [hxd, Int.toNat_of_nonneg (by omega)]) (Els.take_lt (h.hlt k _ hH).2 _) (by rw [Els.den_take]; exact hpl) (by rw [Els.den_take]; exact szs_take hown.1 _) ?_ (fun u hu => ?_) g2 g3 g4 hk
                        · rw [Els.den_take]
                          refine run_firstCells_some (P := X.P) w.drew j.size n _ n cap _ (by rw [flat_len (szs_take hown.1 n), hpl, hjs]) fun i u hu => ?_
                          rw [addr_mid]
                          rw [flat_take hown.1] at hu
                          exact hown.cells i u (get_of_take hu)
                        · rw [Els.den_take, flat_take hown.1] at hu
                          exact hown.one u (List.mem_of_mem_take hu)
                      · exact hk.elim
                    · exact hk.elim
                  · exact hk.elim
                · rename_i hs
                  replace hk := hk.out
                  obtain ⟨hm, hk⟩ := hk
                  obtain ⟨⟨g3, g4⟩, hk⟩ := need_get hk
                  refine fin none 0 0 m.toNat (.vs []) (by omega) (by simpa [SV.den, C.den] using (h.ev_den hs).1) (by rw [hxd, Int.toNat_of_nonneg (by omega)]) (fun c hc => by cases hc) rfl (fun c hc => by cases hc) (by simp [Builtin.firstCells, Els.den]) (fun u hu => by cases hu) (by omega) (by rw [Nat.zero_add]; exact g3) (by omega) ?_
                  rw [Els.nil_app, Nat.zero_add]
                  exact hk
                · exact hk.elim
              · exact hk.elim
            · exact hk.elim
          · exact hk.elim
        · exact hk.elim
      · exact hk.elim
    · exact hk.elim
  · exact hk.elim
end
end Go.Proofs.Yteldohidnepaoaa.Sy
