/-
  The symbolic executor, 5: slices of the call's own: literals, append; slices of slices; calls.
-/
import Derived.Test.YtbajgjbgkpcapaaSx4
import Derived.Maps.AppendAt
import Derived.Great.BuildSlice
namespace Go.Proofs.Ytbajgjbgkpcapaa.Sx
open Go Go.RowKit
section
variable {X : Cx} {e : Env} {S : St} {a : Act} {w : World}

/-! ### A new row, or a row in an old one's place -/
theorem Rep.kill (h : Rep X e S a w) (k : Nat) (hk : k < S.nx) : Rep X e { S with H := (k, .dead) :: S.H } a w :=
  h.step (F' := S.F) (E' := S.E) (k0 := k) (b0 := .dead) (Env.same.refl _ _) (Nat.le_refl _) hk rfl (fun _ h => h) (fun _ h => .inl h) h.fl h.ev rfl rfl rfl (Nat.le_refl _) (fun _ _ => rfl) (fun _ _ _ _ _ _ => rfl) h.one trivial (fun _ hx => hx.elim)
def addrOf : Value → Addr
  | .slice (some a) _ _ => a
  | _ => ⟨0, 0, none⟩
def Env.withRow (e : Env) (k : Nat) (v : Value) : Env := { e with rv := fun j => if j = k then v else e.rv j, ra := fun j => if j = k then addrOf v else e.ra j }
theorem Env.withRow_same (e : Env) (k : Nat) (v : Value) : Env.same k e (e.withRow k v) := fun j hj => by simp [Env.withRow, Nat.ne_of_lt hj]
theorem Env.withRow_rv (e : Env) (k : Nat) (v : Value) : (e.withRow k v).rv k = v := by simp [Env.withRow]
theorem Env.withRow_ra (e : Env) (k : Nat) (v : Value) : (e.withRow k v).ra k = addrOf v := by simp [Env.withRow]
theorem addrOf_slice {v : Value} : ∀ p l c, v = .slice (some p) l c → addrOf v = p := fun p l c h => by rw [h]; rfl
theorem ownBlock_slice {p : Option Addr} {n c x : Nat} (h : (Value.slice p n c).ownBlock = some x) : ∃ q, p = some q ∧ q.block = x := by
  cases p with
  | none => simp [Value.ownBlock] at h
  | some q => simp [Value.ownBlock] at h; exact ⟨q, rfl, h⟩
/-- A row that a world has newly: its block is new, or was free. -/
theorem Rep.newRow (h : Rep X e S a w) {w' : World} {ety esz n : Nat} {xs : List C} {v : Value} (hv1 : v.oneCell' = true) (hlt : ltAll S.nx xs = true)
    (hos : w'.os = w.os) (htape : w'.tape = w.tape) (hout : w'.output = w.output) (hsize : w.heap.size ≤ w'.heap.size)
    (hkeep : ∀ x, x < w.heap.size → (S.F x ∨ ∃ k b, get S.H k = some b ∧ b.foot e k x) → w'.heap[x]? = w.heap[x]?) (hown : w'.ownsRow X.w0.heap.size ety esz v n (xs.map (C.den e)))
    (hfree : ∀ x, v.ownBlock = some x → ¬ S.F x ∧ ∀ k b, get S.H k = some b → ¬ b.foot e k x) :
    Rep X (e.withRow S.nx v) (S.new (.row ety esz n xs)) a w' := by
  have hs := Env.withRow_same e S.nx v
  refine h.step (F' := S.F) (E' := S.E) (k0 := S.nx) (b0 := .row ety esz n xs) hs (Nat.le_succ _) (Nat.lt_succ_self _) (ltAll_mono (Nat.le_succ _) hlt) (fun _ h => h) (fun _ h => .inl h)
    (fun x hx => Nat.lt_of_lt_of_le (h.fl x hx) hsize) (fun w'' hw => h.ev w'' fun x hx => (hw x hx).trans (hkeep x (h.fl x hx) (.inl hx))) hos htape hout hsize
    (fun x hx => hkeep x (h.fl x hx) (.inl hx)) (fun k b x hk _ hx => hkeep x (h.foot_lt hk hx) (.inr ⟨k, b, hk, hx⟩)) (fun k => ?_) ⟨?_, fun p l c hp => ?_⟩ (fun x hx => ?_)
  · by_cases hk : k = S.nx
    · subst hk; rw [Env.withRow_rv]; exact hv1
    · simp only [Env.withRow, if_neg hk]; exact h.one k
  · rw [Env.withRow_rv, map_den_same hs hlt]; exact hown
  · rw [Env.withRow_rv] at hp
    rw [Env.withRow_ra]; exact addrOf_slice p l c hp
  · have hx : ((e.withRow S.nx v).rv S.nx).ownBlock = some x := hx
    rw [Env.withRow_rv] at hx
    exact ⟨(hfree x hx).1, fun k b hk _ => (hfree x hx).2 k b hk⟩

theorem ownsRow_mono {w : World} {B B' : Nat} (hB : B' ≤ B) {e : TypeId} {size : Nat} {v : Value} {n : Nat} {xs : List Value} (h : w.ownsRow B e size v n xs) : w.ownsRow B' e size v n xs := by
  refine ⟨h.1, ?_⟩
  rcases h.2 with hn | ⟨g, cap, cur, hv, hb, r⟩
  · exact .inl hn
  · exact .inr ⟨g, cap, cur, hv, Nat.le_trans hB hb, r⟩

/-! ### Literals of slices -/
def zeroRow (z : Value) (n : Nat) : List C := (List.range n).map fun i => C.v (z.cells[i % z.cells.size]!)
def xBuildSlice (X : Cx) (S : St) (d : Option Nat) (t len : Nat) (parts : List (Nat × Operand)) (K : St → Prop) : Prop := match get X.T t with
  | some ti => (match ti.d with
    | .slice el => (match get X.T el with
      | some ei => (match Nat.ble (len * ei.size) 16777216 with
        | true => (match Nat.beq (len * ei.size) 0 with
          | true => False
          | false => (match ltAll 0 (zeroRow ei.zero (len * ei.size)) with
            | true => (match fillS S (fun i => some (i * ei.size, ei.size)) (zeroRow ei.zero (len * ei.size)) parts with
              | some cs => (match Nat.beq cs.length (len * ei.size) with
                | true => K ((S.new (.row el ei.size len cs)).put d (.c (.row S.nx)))
                | false => False)
              | none => False)
            | false => False))
        | false => False)
      | none => False)
    | _ => False)
  | none => False
theorem buildSlice_ok (hT : TabOk X.P X.T) (h : Rep X e S a w) {o : Oper} (hd : dstOk X.nt o.dst = true) {t len : Nat} {parts : Array (Nat × Operand)} {K : St → Prop} (ho : o.op = .buildSlice t len parts) (hk : xBuildSlice X S o.dst t len parts.toList K) : Wv X e S.nx a w o K := by
  intro KK Q hKK
  obtain ⟨parts⟩ := parts
  unfold xBuildSlice at hk
  split at hk
  · rename_i ti hti
    split at hk
    · rename_i el hdd
      split at hk
      · rename_i ei hei
        split at hk
        · rename_i hsm
          split at hk
          · exact hk.elim
          · rename_i hnz
            split at hk
            · rename_i hz0
              split at hk
              · rename_i cs hcs
                split at hk
                · rename_i hcl
                  have hcl : cs.length = len * ei.size := Nat.eq_of_beq_eq_true hcl
                  have hsm : len * ei.size ≤ 16777216 := Nat.le_of_ble_eq_true hsm
                  have hu := (TabOk.get hT hti).1
                  rw [hdd] at hu
                  obtain ⟨_, j, hj, hjz, hjs, _⟩ := TabOk.get hT hei
                  have hne : ¬ len * j.size = 0 := fun h0 => by rw [hjs] at h0; rw [h0] at hnz; exact absurd hnz (by decide)
                  have hlen : len ≤ maxLen := by
                    have : 0 < ei.size := by rcases Nat.eq_zero_or_pos ei.size with h0 | h0; · exact absurd (by rw [hjs, h0]; rfl) hne
                                             · exact h0
                    have h2 : len * 1 ≤ len * ei.size := Nat.mul_le_mul_left _ this
                    simp only [maxLen]; omega
                  obtain ⟨h1, h2⟩ := fillS_ok h.v (placeP := fun i => some (i * ei.size, ei.size)) (fun i p hp => hp) _ _ _ (ltAll_mono (Nat.zero_le _) hz0) hcs
                  have hzr : ((zeroRow ei.zero (len * ei.size)).map (C.den e)).toArray = (Array.range (len * j.size)).map (ei.zero.cells[· % ei.zero.cells.size]!) := by
                    rw [hjs]
                    apply Array.ext'
                    simp [zeroRow, Function.comp_def, C.den]
                  rw [hzr, ← hjs] at h2
                  have hrun := run_buildSlice (P := X.P) w t el len (parts.map fun (i, x) => (i, a.eval x)).toArray _ j ei.zero hu hj hjz (by rw [hjs]; omega) hne (by simpa using h2)
                  unfold Oper.wp
                  rw [show (execOp a.eval o).run X.P w = .ok (.value (.slice (some ⟨w.heap.size, 0, none⟩) len len)) (w.alloc (.cells (cs.map (C.den e)).toArray el)) by
                    simp only [execOp, ho, List.map_toArray]
                    simp only [Sem.run_bind, hrun, Result.andThen_ok, Sem.run_pure]]
                  have hr := h.newRow (w' := w.alloc (.cells (cs.map (C.den e)).toArray el)) (ety := el) (esz := ei.size) (n := len) (xs := cs) (v := .slice (some ⟨w.heap.size, 0, none⟩) len len) rfl h1 rfl rfl rfl (by simp) (fun x hx _ => heap_alloc_old w _ hx)
                    ⟨by simpa using hcl, .inr ⟨w.heap.size, len, _, rfl, h.bel.size, heap_alloc_new w _, Nat.le_refl _, hlen, by simpa using hcl, by rw [← hcl]; exact List.take_of_length_le (by simp)⟩⟩
                    (fun x hx => by
                      obtain ⟨q, hq, hx⟩ := ownBlock_slice hx
                      injection hq with hq
                      subst hq
                      have hx : w.heap.size = x := hx
                      subst hx
                      exact ⟨fun hf => by have := h.fl _ hf; omega, fun k b hk hf => by have := h.foot_lt hk hf; omega⟩)
                  have hp := hr.put (d := o.dst) (v := .c (.row S.nx)) hd (blt_iff.2 (Nat.lt_succ_self _))
                  simp only [SV.den, C.den, Env.withRow_rv] at hp
                  exact hKK _ _ _ _ (Env.withRow_same _ _ _) hp hk
                · exact hk.elim
              · exact hk.elim
            · exact hk.elim
        · exact hk.elim
      · exact hk.elim
    · exact hk.elim
  · exact hk.elim

/-! ### append -/
theorem run_append_nilsrc {P : Program} {t el : TypeId} {j : TypeInfo} (hu : P.underlying t = some (.slice el)) (hj : P.info? el = some j) {base size n : Nat} {v : Value} {xs : List Value} {w : World} (hown : w.ownsRow base el size v n xs) (c ty : Nat) :
    (Builtin.append_ #[t, t] ty #[v, .slice none 0 c]).run P w = .ok v w := by
  rcases hown.2 with ⟨rfl, hn⟩ | ⟨g, cap, cur, rfl, _, _, hnc, _⟩
  · simp [Builtin.append_, run_underlying hu, run_sizeOf hj, Builtin.lenOf, Builtin.firstCells]
  · simp [Builtin.append_, run_underlying hu, run_sizeOf hj, Builtin.lenOf, Builtin.firstCells, hnc, storeCells]
/-- The row that is appended to: its number, its length, its cells. -/
def dstRow (S : St) (el esz : Nat) (s : Operand) : Option (Option Nat × Nat × List C) := match S.ev s with
  | some (.c (.row k)) => (match get S.H k with
    | some (.row ety sz n xs) => (match Nat.beq ety el with
      | true => (match Nat.beq sz esz with
        | true => some (some k, n, xs)
        | false => none)
      | false => none)
    | _ => none)
  | some (.c (.v (.slice none 0 0))) => some (none, 0, [])
  | _ => none
/-- What is appended. -/
def srcRow (S : St) (esz : Nat) (x : Operand) : Option (Nat × List C) := match S.ev x with
  | some (.c (.row k)) => (match get S.H k with
    | some (.row _ sz m ys) => (match Nat.beq sz esz with
      | true => some (m, ys)
      | false => none)
    | some (.ext sz m ys) => (match Nat.beq sz esz with
      | true => some (m, ys)
      | false => none)
    | _ => none)
  | some (.c (.v (.slice none 0 0))) => some (0, [])
  | _ => none
def St.killed (S : St) : Option Nat → St
  | some k => S.setH k .dead
  | none => S
theorem killed_nx (S : St) (k : Option Nat) : (S.killed k).nx = S.nx := by cases k <;> rfl
def xAppend (X : Cx) (S : St) (d : Option Nat) (t : Nat) (s x : Operand) (K : St → Prop) : Prop := match get X.T t with
  | some ti => (match ti.d with
    | .slice el => (match get X.T el with
      | some ei => (match Nat.beq ei.zero.cells.size ei.size with
        | true => (match Nat.blt 0 ei.size with
          | true => (match dstRow S el ei.size s with
            | some (k, n, xs) => (match srcRow S ei.size x with
              | some (m, ys) => needP ((n + m) * ei.bytes ≤ 140737488355328 ∧ n + m ≤ 140737488355328) (K (((S.killed k).new (.row el ei.size (n + m) (xs ++ ys))).put d (.c (.row S.nx))))
              | none => False)
            | none => False)
          | false => False)
        | false => False)
      | none => False)
    | _ => False)
  | none => False
theorem dstRow_ok (h : Rep X e S a w) {el esz : Nat} {s : Operand} {k : Option Nat} {n : Nat} {xs : List C} (hs : dstRow S el esz s = some (k, n, xs)) :
    ∃ v, a.eval s = v ∧ v.oneCell' = true ∧ w.ownsRow X.w0.heap.size el esz v n (xs.map (C.den e)) ∧ ltAll S.nx xs = true ∧ (∀ j, k = some j → get S.H j = some (.row el esz n xs) ∧ v = e.rv j) ∧ (k = none → v.ownBlock = none) := by
  unfold dstRow at hs
  split at hs
  · rename_i j hx
    have hd := (h.ev_den hx).1
    split at hs
    · rename_i ety sz n' xs' hH
      split at hs
      · rename_i h1
        split at hs
        · rename_i h2
          have h1 := Nat.eq_of_beq_eq_true h1
          have h2 := Nat.eq_of_beq_eq_true h2
          subst h1; subst h2
          simp only [Option.some.injEq, Prod.mk.injEq] at hs
          obtain ⟨rfl, rfl, rfl⟩ := hs
          exact ⟨_, hd, h.one j, (h.hp j _ hH).1, (h.hlt j _ hH).2, fun j' hj => by injection hj with hj; subst hj; exact ⟨hH, rfl⟩, fun hn => (by cases hn)⟩
        · cases hs
      · cases hs
    · cases hs
  · rename_i hx
    have hd := (h.ev_den hx).1
    simp only [Option.some.injEq, Prod.mk.injEq] at hs
    obtain ⟨rfl, rfl, rfl⟩ := hs
    exact ⟨_, hd, rfl, World.ownsRow_nil w _ _ _, rfl, fun j hj => (by cases hj), fun _ => rfl⟩
  · cases hs
theorem srcRow_ok (h : Rep X e S a w) {esz : Nat} {x : Operand} {m : Nat} {ys : List C} (hs : srcRow S esz x = some (m, ys)) :
    ∃ A c, a.eval x = .slice A m c ∧ ltAll S.nx ys = true ∧ ys.length = m * esz ∧ (0 < m → ∃ p, A = some p ∧ ∀ i u, (ys.map (C.den e))[i]? = some u → w.cell? (p.add i) = some u) := by
  unfold srcRow at hs
  split at hs
  · rename_i k hx
    have hd := (h.ev_den hx).1
    have fin : ∀ (ys' : List C) (m' sz : Nat), isRow S k sz m' ys' → ys'.length = m' * sz →
        ∃ A c, a.eval x = .slice A m' c ∧ ltAll S.nx ys' = true ∧ ys'.length = m' * sz ∧ (0 < m' → ∃ p, A = some p ∧ ∀ i u, (ys'.map (C.den e))[i]? = some u → w.cell? (p.add i) = some u) := by
      intro ys' m' sz hH hl
      obtain ⟨A, c, hv, _⟩ := row_len h.v hH
      refine ⟨A, c, hd.trans hv, row_lt h.v hH, hl, fun hm => ?_⟩
      obtain ⟨c', hv'⟩ := row_value h.v hH hm
      rw [hv] at hv'
      injection hv' with h1
      refine ⟨_, h1, fun i u hu => ?_⟩
      rw [List.getElem?_map] at hu
      cases hc : ys'[i]? with
      | none => rw [hc] at hu; cases hu
      | some cc =>
        rw [hc] at hu
        simp only [Option.map_some, Option.some.injEq] at hu
        subst hu
        exact row_cells h.v hH i cc hc
    split at hs
    · rename_i ety sz m' ys' hH
      split at hs
      · rename_i h2
        have h2 := Nat.eq_of_beq_eq_true h2
        subst h2
        simp only [Option.some.injEq, Prod.mk.injEq] at hs
        obtain ⟨rfl, rfl⟩ := hs
        exact fin _ _ _ (.inl ⟨_, hH⟩) (by have := (h.hp k _ hH).1.1; simpa using this)
      · cases hs
    · rename_i sz m' ys' hH
      split at hs
      · rename_i h2
        have h2 := Nat.eq_of_beq_eq_true h2
        subst h2
        simp only [Option.some.injEq, Prod.mk.injEq] at hs
        obtain ⟨rfl, rfl⟩ := hs
        exact fin _ _ _ (.inr hH) (by have := (h.hp k _ hH).1.1; simpa using this)
      · cases hs
    · cases hs
  · rename_i hx
    have hd := (h.ev_den hx).1
    simp only [Option.some.injEq, Prod.mk.injEq] at hs
    obtain ⟨rfl, rfl⟩ := hs
    exact ⟨_, _, hd, rfl, by simp, fun hm => by omega⟩
  · cases hs
theorem append_ok (hT : TabOk X.P X.T) (h : Rep X e S a w) {o : Oper} (hd : dstOk X.nt o.dst = true) {t : Nat} {s x : Operand} {K : St → Prop} (ho : o.op = .call { callee := .builtin .append, args := #[s, x], argTypes := #[t, t] }) (hk : xAppend X S o.dst t s x K) : Wv X e S.nx a w o K := by
  intro KK Q hKK
  unfold xAppend at hk
  split at hk
  · rename_i ti hti
    split at hk
    · rename_i el hdd
      split at hk
      · rename_i ei hei
        split at hk
        · rename_i hzs
          split at hk
          · rename_i hpos
            split at hk
            · rename_i k n xs hdst
              split at hk
              · rename_i m ys hsrc
                obtain ⟨⟨hb, hnm⟩, hk⟩ := need_get hk
                have hu := (TabOk.get hT hti).1
                rw [hdd] at hu
                obtain ⟨_, j, hj, hjz, hjs, hjb⟩ := TabOk.get hT hei
                obtain ⟨v, hv, hv1, hown, hlx, hkk, hkn⟩ := dstRow_ok h hdst
                obtain ⟨A, c, hx, hly, hyl, hcells⟩ := srcRow_ok h hsrc
                have key : ∃ v' w', (Builtin.append_ #[t, t] o.type #[v, .slice A m c]).run X.P w = .ok v' w' ∧ w'.ownsRow X.w0.heap.size el ei.size v' (n + m) (xs.map (C.den e) ++ ys.map (C.den e)) ∧ w.grownBy w' v.ownBlock ∧ (v'.ownBlock = v.ownBlock ∨ v'.ownBlock = some w.heap.size) := by
                  cases A with
                  | none =>
                    have hm : m = 0 := by
                      rcases Nat.eq_zero_or_pos m with h0 | h0
                      · exact h0
                      · obtain ⟨p, hp, _⟩ := hcells h0
                        cases hp
                    subst hm
                    have hy : ys = [] := List.eq_nil_of_length_eq_zero (by simpa using hyl)
                    subst hy
                    exact ⟨v, w, run_append_nilsrc hu hj hown c o.type, by simpa using hown, ⟨rfl, rfl, rfl, Nat.le_refl _, fun _ _ _ => rfl⟩, .inl rfl⟩
                  | some p =>
                    have hcells' : ∀ i u, (ys.map (C.den e))[i]? = some u → w.cell? (p.add i) = some u := by
                      intro i u hu'
                      rcases Nat.eq_zero_or_pos m with h0 | h0
                      · subst h0
                        have hy : ys = [] := List.eq_nil_of_length_eq_zero (by simpa using hyl)
                        subst hy
                        simp at hu'
                      · obtain ⟨q, hq, hc⟩ := hcells h0
                        injection hq with hq
                        subst hq
                        exact hc i u hu'
                    obtain ⟨v', w', h1, h2, h3, _, h5⟩ := run_append_own_at (P := X.P) w X.w0.heap.size t o.type el j ei.zero ei.size ei.bytes hu hj hjz hjs hjb (Nat.eq_of_beq_eq_true hzs) (blt_iff.1 hpos) v n (xs.map (C.den e)) hown p m c (ys.map (C.den e)) (by simpa using hyl) hcells'
                      (fun u hu' => by obtain ⟨cc, hcc, rfl⟩ := List.mem_map.1 hu'; exact C.one_of h.one (ltAll_mem hly cc hcc)) (by simp only [maxLen]; omega) hb h.bel.size
                    exact ⟨v', w', h1, h2, h3, h5⟩
                obtain ⟨v', w', hrun, hown', hgr, hat⟩ := key
                have hv1' : v'.oneCell' = true := by
                  rcases hown'.2 with ⟨hn, _⟩ | ⟨g, cap, cur, hn, _⟩ <;> rw [hn] <;> rfl
                unfold Oper.wp
                rw [show (execOp a.eval o).run X.P w = .ok (.value v') w' by simp [execOp, ho, resolve, invoke, builtin, hv, hx, hrun]]
                rw [← List.map_append] at hown'
                have hl2 : ltAll S.nx (xs ++ ys) = true := ltAll_of fun cc hcc => by
                  rcases List.mem_append.1 hcc with hc | hc
                  · exact ltAll_mem hlx cc hc
                  · exact ltAll_mem hly cc hc
                have hfin : ∀ S' : St, S'.nx = S.nx → S'.F = S.F → Rep X e S' a w → (∀ x, v.ownBlock = some x → ∀ k' b', get S'.H k' = some b' → ¬ b'.foot e k' x) → (∀ x, v.ownBlock = some x → ¬ S.F x) →
                    Rep X (e.withRow S.nx v') (S'.new (.row el ei.size (n + m) (xs ++ ys))) a w' := by
                  intro S' hnx hF hR hfree hfF
                  have := hR.newRow (w' := w') (ety := el) (esz := ei.size) (n := n + m) (xs := xs ++ ys) hv1' (by rw [hnx]; exact hl2) hgr.os hgr.tape hgr.output hgr.size (fun x hx' hor => hgr.block x hx' fun hb => ?_) hown' (fun x hx' => ?_)
                  · rw [hnx] at this; exact this
                  · rcases hor with hf | ⟨k', b', hk', hf⟩
                    · rw [hF] at hf
                      exact hfF x hb.symm hf
                    · exact hfree x hb.symm k' b' hk' hf
                  · rcases hat with hat | hat
                    · rw [hat] at hx'
                      exact ⟨by rw [hF]; exact hfF x hx', hfree x hx'⟩
                    · rw [hat] at hx'
                      injection hx' with hx'
                      subst hx'
                      exact ⟨fun hf => by have := hR.fl _ hf; omega, fun k' b' hk' hf => by have := hR.foot_lt hk' hf; omega⟩
                have hR : Rep X (e.withRow S.nx v') ((S.killed k).new (.row el ei.size (n + m) (xs ++ ys))) a w' := by
                  cases k with
                  | none =>
                    have hn := hkn rfl
                    exact hfin S rfl rfl h (fun x hx' => by rw [hn] at hx'; cases hx') (fun x hx' => by rw [hn] at hx'; cases hx')
                  | some kk =>
                    obtain ⟨hH, hvk⟩ := hkk kk rfl
                    have hfoot : ∀ x, v.ownBlock = some x → (Blk.row el ei.size n xs).foot e kk x := fun x hx' => by rw [hvk] at hx'; exact hx'
                    refine hfin { S with H := (kk, .dead) :: S.H } rfl rfl (h.kill kk (h.hlt kk _ hH).1) (fun x hx' k' b' hk' hf => ?_) (fun x hx' => h.ff kk _ x hH (hfoot x hx'))
                    rcases get_cons hk' with ⟨e1, e2⟩ | ⟨hne, hk2⟩
                    · subst e2; exact hf
                    · exact h.sep k' kk b' _ x hk2 hH (Ne.symm hne) hf (hfoot x hx')
                have hp := hR.put (d := o.dst) (v := .c (.row S.nx)) hd (blt_iff.2 (by show S.nx < (S.killed k).nx + 1; rw [killed_nx]; omega))
                simp only [SV.den, C.den, Env.withRow_rv] at hp
                exact hKK _ _ _ _ (Env.withRow_same _ _ _) hp hk
              · exact hk.elim
            · exact hk.elim
          · exact hk.elim
        · exact hk.elim
      · exact hk.elim
    · exact hk.elim
  · exact hk.elim
end
end Go.Proofs.Ytbajgjbgkpcapaa.Sx
