/-
  The symbolic executor, 8: copy, clear, parts of slices.
-/
import Derived.Test.YteldohidnepaoaaSy7
namespace Go.Proofs.Yteldohidnepaoaa.Sy
open Go Go.RowKit
section
variable {X : Cx} {e : Env} {S : St} {a : Act} {w : World}

/-- The lesser of two lengths. -/
structure copP (m n : Nat) (K : Nat → Prop) : Prop where
  out : K (min m n)
theorem cop_left {m n : Nat} {K : Nat → Prop} (h : m ≤ n) (hk : K m) : copP m n K := by refine ⟨?_⟩; rw [Nat.min_eq_left h]; exact hk
theorem cop_right {m n : Nat} {K : Nat → Prop} (h : n ≤ m) (hk : K n) : copP m n K := by refine ⟨?_⟩; rw [Nat.min_eq_right h]; exact hk
/-- Cells of a buffer are other ones: what becomes of the state. -/
theorem buf_write (h : Rep X e S a w) {k ety esz cap i : Nat} {xs ys : Els} (hH : get S.H k = some (.buf ety esz cap xs)) (hly : ys.lt S.nx) (hysz : ∀ c ∈ ys.den e, c.length = esz) (hi : i ≤ xs.len) (hle : i + ys.len ≤ cap) :
    Rep X e (S.setH k (.buf ety esz cap ((xs.take i).app (ys.app (xs.drop (i + ys.len)))))) a (w.setCells (e.ad k) (i * esz) (ys.den e).flatten) ∧ (storeCells ⟨e.ad k, i * esz, none⟩ (ys.den e).flatten).run X.P w = .ok () (w.setCells (e.ad k) (i * esz) (ys.den e).flatten) := by
  obtain ⟨hown, hes, hcp, hra⟩ := h.hp k _ hH
  have hy1 := flat_all (e := e) h.one hly
  have hsp := hown.splices (i := i) (ys := ys.den e) (by rw [Els.den_len]; exact hi) (by rw [Els.den_len]; exact hle) hysz hy1
  rw [Els.den_len] at hsp
  refine ⟨h.write (k := k) (g := e.ad k) (b0 := .buf ety esz cap ((xs.take i).app (ys.app (xs.drop (i + ys.len))))) hH rfl (Els.app_lt (Els.take_lt (h.hlt k _ hH).2 _) (Els.app_lt hly (Els.drop_lt (h.hlt k _ hH).2 _))) (fun _ hx => hx) ⟨by
    rw [Els.den_app, Els.den_app, Els.den_take, Els.den_drop]; exact hsp.1, hes, hcp, hra⟩, ?_⟩
  obtain ⟨cur', hcur', hle'⟩ := hsp.2
  have hst := run_storeCells_cells (P := X.P) (e.ad k) (i * esz) (ys.den e).flatten 0 w (fun q hq => by
    rw [cell_of_row w _ _ cur'.toArray ety (0, 0) hcur']
    simp; omega) (fun q hq => frozen_of_row w _ _ cur'.toArray ety hcur') hy1
  simpa only [Nat.add_zero] using hst
def xCopy (X : Cx) (S : St) (d : Option Nat) (t : Nat) (s x : Operand) (K : St → Prop) : Prop := match get X.T t with
  | some ti => (match ti.d with
    | .slice el => (match get X.T el with
      | some ei => (match S.ev s with
        | some (.c (.sl k lo n)) => (match get S.H k with
          | some (.buf ety sz cap xs) => (match Nat.beq sz ei.size with
            | true => srcK S ei.size x fun m ys => needP (lo + n ≤ xs.len) (copP m n fun c => K ((S.setH k (.buf ety sz cap ((xs.take lo).app ((ys.take c).app (xs.drop (lo + c)))))).put d (.c (.v (.int .i64 c)))))
            | false => False)
          | _ => False)
        | _ => False)
      | none => False)
    | _ => False)
  | none => False
theorem copy_ok (hT : TabOk X.P X.T) (h : Rep X e S a w) {o : Oper} (hd : dstOk X.nt o.dst = true) {t t' : Nat} {s x : Operand} {K : St → Prop} (ho : o.op = .call { callee := .builtin .copy, args := #[s, x], argTypes := #[t, t'] }) (hk : xCopy X S o.dst t s x K) : Wv X a w o K := by
  intro KK Q hKK
  unfold xCopy at hk
  split at hk
  · rename_i ti hti
    split at hk
    · rename_i el hdd
      split at hk
      · rename_i ei hei
        split at hk
        · rename_i k lo n hs
          split at hk
          · rename_i ety sz cap xs hH
            split at hk
            · rename_i h2
              have h2 := Nat.eq_of_beq_eq_true h2
              subst h2
              obtain ⟨m, ys, hk, hsrc⟩ := srcK_get (X := X) hk
              obtain ⟨hle, hk⟩ := need_get hk
              replace hk := hk.out
              have hu := (TabOk.get hT hti).1
              rw [hdd] at hu
              obtain ⟨_, j, hj, hjz, hjs, hjb, _⟩ := TabOk.get hT hei
              obtain ⟨A, c, hx, hly, hyl, hysz, hcell⟩ := hsrc e a w h
              obtain ⟨hown, hes, hcp, hra⟩ := h.hp k _ hH
              have hcap : xs.len ≤ cap := by rw [← Els.den_len e]; exact hown.2.1
              have hyl' : ys.len = m := by rw [← Els.den_len e]; exact hyl
              have htl : (ys.take (min m n)).len = min m n := by rw [← Els.den_len e, Els.den_take, List.length_take, hyl]; omega
              obtain ⟨hR, hst⟩ := buf_write h (i := lo) (ys := ys.take (min m n)) hH (Els.take_lt hly _) (by rw [Els.den_take]; exact szs_take hysz _) (by omega) (by rw [htl]; omega)
              rw [htl] at hR
              have hsd : a.eval s = .slice (some ⟨e.ad k, lo * ei.size, none⟩) n (cap - lo) := by
                have := (h.ev_den hs).1
                simp only [SV.den, C.den, hra, hcp, addr_mid, hes] at this
                exact this
              have hf : (Builtin.firstCells j.size (min m n) (.slice A m c)).run X.P w = .ok ((ys.take (min m n)).den e).flatten.toArray w := by
                rw [Els.den_take, flat_take hysz]
                rcases Nat.eq_zero_or_pos (min m n) with hm | hm
                · rw [hm]
                  cases A <;> simp [Builtin.firstCells, loadCells, loadCellsFrom]
                · obtain ⟨p, rfl, hc⟩ := hcell (by omega)
                  refine run_firstCells_some (P := X.P) w j.size _ p m c _ ?_ (fun i u hu => hc i u (get_of_take hu))
                  rw [List.length_take, flat_len hysz, hyl, hjs, Nat.min_eq_left]
                  exact Nat.mul_le_mul_right _ (Nat.min_le_left _ _)
              have hrun : (execOp a.eval o).run X.P w = .ok (.value (.int .i64 (min m n : Nat))) (w.setCells (e.ad k) (lo * ei.size) ((ys.take (min m n)).den e).flatten) := by
                have e1 : Nat.min m n = min m n := rfl
                simp only [execOp, ho, resolve, invoke, builtin, List.map_toArray, List.map_cons, List.map_nil, hsd, hx, Sem.run_bind, Sem.run_pure, Result.andThen_ok, Builtin.copy_]
                simp [run_underlying hu, run_sizeOf hj, Builtin.lenOf, e1, hf, hst, goInt]
              exact wpo_value hrun (hKK _ _ _ _ (hR.put (v := .c (.v (.int .i64 (min m n : Nat)))) hd rfl) hk)
            · exact hk.elim
          · exact hk.elim
        · exact hk.elim
      · exact hk.elim
    · exact hk.elim
  · exact hk.elim
def xClear (X : Cx) (S : St) (d : Option Nat) (t : Nat) (s : Operand) (K : St → Prop) : Prop := match get X.T t with
  | some ti => (match ti.d with
    | .slice el => (match get X.T el with
      | some ei => (match okZero ei with
        | true => (match S.ev s with
          | some (.c (.sl k lo n)) => (match get S.H k with
            | some (.buf ety sz cap xs) => (match Nat.beq sz ei.size with
              | true => needP (lo + n ≤ xs.len) (K ((S.setH k (.buf ety sz cap ((xs.take lo).app ((Els.vs (List.replicate n (zeroE ei))).app (xs.drop (lo + n)))))).put d (.tup [])))
              | false => False)
            | _ => False)
          | some (.c (.row k)) => (match get S.H k with
            | some (.row _ _ 0 _) => K (S.put d (.tup []))
            | some (.ext _ 0 _) => K (S.put d (.tup []))
            | _ => False)
          | _ => False)
        | false => False)
      | none => False)
    | _ => False)
  | none => False
theorem clear_ok (hT : TabOk X.P X.T) (h : Rep X e S a w) {o : Oper} (hd : dstOk X.nt o.dst = true) {t : Nat} {s : Operand} {K : St → Prop} (ho : o.op = .call { callee := .builtin .clear, args := #[s], argTypes := #[t] }) (hk : xClear X S o.dst t s K) : Wv X a w o K := by
  intro KK Q hKK
  unfold xClear at hk
  split at hk
  · rename_i ti hti
    split at hk
    · rename_i el hdd
      have hu := (TabOk.get hT hti).1
      rw [hdd] at hu
      split at hk
      · rename_i ei hei
        split at hk
        · rename_i hz
          split at hk
          · rename_i k lo n hs
            split at hk
            · rename_i ety sz cap xs hH
              split at hk
              · rename_i h2
                have h2 := Nat.eq_of_beq_eq_true h2
                subst h2
                obtain ⟨hle, hk⟩ := need_get hk
                obtain ⟨_, j, hj, hjz, hjs, hjb, _⟩ := TabOk.get hT hei
                obtain ⟨z1, z2, z3⟩ := okZero_get hz
                obtain ⟨hown, hes, hcp, hra⟩ := h.hp k _ hH
                have hcap : xs.len ≤ cap := by rw [← Els.den_len e]; exact hown.2.1
                have hzl : (zeroE ei).length = ei.size := by simp [zeroE, z1]
                have hlen : (Els.vs (List.replicate n (zeroE ei))).len = n := by simp [Els.len]
                obtain ⟨hR, hst⟩ := buf_write h (i := lo) (ys := .vs (List.replicate n (zeroE ei))) hH (fun d hd u hu => by rw [List.eq_of_mem_replicate hd] at hu; exact List.all_eq_true.1 z3 u hu) (replicate_szs hzl) (by omega) (by rw [hlen]; omega)
                rw [hlen] at hR
                have hsd : a.eval s = .slice (some ⟨e.ad k, lo * ei.size, none⟩) n (cap - lo) := by
                  have := (h.ev_den hs).1
                  simp only [SV.den, C.den, hra, hcp, addr_mid, hes] at this
                  exact this
                have hzc : (Builtin.zeroCells ei.zero.cells n).toList = ((Els.vs (List.replicate n (zeroE ei))).den e).flatten := by rw [zeroCells_flat z1]; rfl
                have hrun : (execOp a.eval o).run X.P w = .ok (.value (.tuple #[])) (w.setCells (e.ad k) (lo * ei.size) ((Els.vs (List.replicate n (zeroE ei))).den e).flatten) := by
                  simp only [execOp, ho, resolve, invoke, builtin, List.map_toArray, List.map_cons, List.map_nil, hsd, Sem.run_bind, Sem.run_pure, Result.andThen_ok, Builtin.clear_]
                  rcases Nat.eq_zero_or_pos n with hn | hn
                  · subst hn
                    simp [run_underlying hu, Els.den, World.setCells]
                  · obtain ⟨n', rfl⟩ : ∃ n', n = n' + 1 := ⟨n - 1, by omega⟩
                    simp [run_underlying hu, run_zeroValue hj hjz, hzc, hst]
                exact wpo_value hrun (hKK _ _ _ _ (hR.put (v := .tup []) hd rfl) hk)
              · exact hk.elim
            · exact hk.elim
          · rename_i k hs
            have fin : (∃ ety sz xs, get S.H k = some (.row ety sz 0 xs)) ∨ (∃ sz xs, get S.H k = some (.ext sz 0 xs)) → K (S.put o.dst (.tup [])) → o.wpIn X.fen 0 X.P a w KK Q := by
              intro hH hk
              obtain ⟨A, c, hv, _⟩ := row_len h.v (m := 0) hH
              have hsd : a.eval s = .slice A 0 c := by
                have := (h.ev_den hs).1
                simp only [SV.den, C.den] at this
                rw [this, hv]
              have hrun : (execOp a.eval o).run X.P w = .ok (.value (.tuple #[])) w := by
                simp only [execOp, ho, resolve, invoke, builtin, List.map_toArray, List.map_cons, List.map_nil, hsd, Sem.run_bind, Sem.run_pure, Result.andThen_ok, Builtin.clear_]
                cases A <;> simp [run_underlying hu]
              exact wpo_value hrun (hKK _ _ _ _ (h.put (v := .tup []) hd rfl) hk)
            split at hk
            · rename_i hH; exact fin (.inl ⟨_, _, _, hH⟩) hk
            · rename_i hH; exact fin (.inr ⟨_, _, hH⟩) hk
            · exact hk.elim
          · exact hk.elim
        · exact hk.elim
      · exact hk.elim
    · exact hk.elim
  · exact hk.elim

/-! ### Parts of slices -/
structure sliP (lo hi : Int) (n : Nat) (K : Nat → Nat → Prop) : Prop where
  out : (0 ≤ lo ∧ lo ≤ hi ∧ hi ≤ n) ∧ K lo.toNat hi.toNat
theorem sli_in {lo hi : Int} {n : Nat} {K : Nat → Nat → Prop} (h : 0 ≤ lo ∧ lo ≤ hi ∧ hi ≤ n) (hk : K lo.toNat hi.toNat) : sliP lo hi n K := by refine ⟨?_⟩; exact ⟨h, hk⟩
theorem sli_nat {lo hi n : Nat} {K : Nat → Nat → Prop} (h : lo ≤ hi ∧ hi ≤ n) (hk : K lo hi) : sliP (lo : Int) (hi : Int) n K := by refine ⟨?_⟩; exact ⟨⟨by omega, by omega, by omega⟩, hk⟩
theorem sli_eq {lo hi : Int} {n : Nat} {K : Nat → Nat → Prop} (l h' : Nat) (e1 : lo = (l : Int)) (e2 : hi = (h' : Int)) (h : l ≤ h' ∧ h' ≤ n) (hk : K l h') : sliP lo hi n K := by subst e1; subst e2; exact sli_nat h hk
theorem sli_get {lo hi : Int} {n : Nat} {K : Nat → Nat → Prop} (h : sliP lo hi n K) : (0 ≤ lo ∧ lo ≤ hi ∧ hi ≤ n) ∧ K lo.toNat hi.toNat := by replace h := h.out; exact h
/-- The part of a buffer that is wanted is known; or the rest of its cells comes in. -/
structure revP (esz cap need : Nat) (xs : Els) (K1 : Prop) (K2 : Els → Prop) : Prop where
  out : (need ≤ xs.len ∧ K1) ∨ (need ≤ cap ∧ ∀ sp : List (List Value), sp.length = cap - xs.len → (∀ c ∈ sp, c.length = esz) → K2 (xs.app (.vs sp)))
theorem rev_in {esz cap need : Nat} {xs : Els} {K1 : Prop} {K2 : Els → Prop} (h : need ≤ xs.len) (hk : K1) : revP esz cap need xs K1 K2 := by refine ⟨?_⟩; exact .inl ⟨h, hk⟩
theorem rev_out {esz cap need : Nat} {xs : Els} {K1 : Prop} {K2 : Els → Prop} (h : need ≤ cap) (hk : ∀ sp : List (List Value), sp.length = cap - xs.len → (∀ c ∈ sp, c.length = esz) → K2 (xs.app (.vs sp))) : revP esz cap need xs K1 K2 := by refine ⟨?_⟩; exact .inr ⟨h, hk⟩
def optInt (S : St) (d : Int) : Option Operand → Option Int
  | none => some d
  | some x => match S.ev x with
    | some (.c (.v (.int _ n))) => some n
    | _ => none
def xSlice (X : Cx) (S : St) (d : Option Nat) (t : Nat) (x : Operand) (lo hi mx : Option Operand) (K : St → Prop) : Prop := match get X.T t with
  | some ti => (match ti.d with
    | .slice el => (match get X.T el with
      | some ei => (match S.ev x with
        | some (.c (.row k)) => (match mx with
          | none => (match get S.H k with
            | some (.ext esz n xs) => (match Nat.beq esz ei.size with
              | true => (match optInt S 0 lo with
                | some l => (match optInt S n hi with
                  | some h => sliP l h n fun l h => K ((S.new (.ext esz (h - l) (xs.sub l (h - l)))).put d (.c (.row S.nx)))
                  | none => False)
                | none => False)
              | false => False)
            | some (.row _ _ n _) => (match optInt S 0 lo with
              | some l => (match optInt S n hi with
                | some h => sliP l h n fun _ _ => K ((S.new .dead).put d (.c (.row S.nx)))
                | none => False)
              | none => False)
            | _ => False)
          | some _ => False)
        | some (.c (.sl k lo0 n)) => (match get S.H k with
          | some (.buf ety esz cap xs) => (match Nat.beq esz ei.size with
            | true => (match optInt S 0 lo with
              | some l => (match optInt S n hi with
                | some h => (match mx with
                  | none => sliP l h (cap - lo0) fun l h => brP (decide (lo0 + l < cap))
                      (revP esz cap (lo0 + h) xs (K (S.put d (.c (.sl k (lo0 + l) (h - l))))) (fun ys => K ((S.setH k (.buf ety esz cap ys)).put d (.c (.sl k (lo0 + l) (h - l))))))
                      (K ((S.new (.row ety esz 0 (.vs []))).put d (.c (.row S.nx))))
                  | some m => (match hi with
                    | none => False
                    | some _ => match S.ev m with
                    | some (.c (.v (.int _ m))) => needP (0 ≤ l ∧ l ≤ h ∧ h ≤ m ∧ m ≤ (cap - lo0 : Nat)) (K ((S.new .dead).put d (.c (.row S.nx))))
                    | _ => False))
                | none => False)
              | none => False)
            | false => False)
          | _ => False)
        | some (.c (.v (.slice none 0 0))) => (match mx with
          | none => (match optInt S 0 lo with
            | some l => (match optInt S 0 hi with
              | some h => sliP l h 0 fun _ _ => K (S.put d (.c (.v (.slice none 0 0))))
              | none => False)
            | none => False)
          | some _ => False)
        | _ => False)
      | none => False)
    | .string => (match mx with
      | none => (match S.ev x with
        | some (.c (.v (.string s))) => (match optInt S 0 lo with
          | some l => (match optInt S s.size hi with
            | some h => sliP l h s.size fun l h => K (S.put d (.c (.v (.string (s.extract l h)))))
            | none => False)
          | none => False)
        | _ => False)
      | some _ => False)
    | _ => False)
  | none => False
theorem optInt_ok (h : RepV X e S a w) {d n : Int} {x : Option Operand} (hx : optInt S d x = some n) : (x = none ∧ n = d) ∨ ∃ y k, x = some y ∧ a.eval y = .int k n := by
  cases x with
  | none => simp only [optInt, Option.some.injEq] at hx; exact .inl ⟨rfl, hx.symm⟩
  | some y =>
    simp only [optInt] at hx
    split at hx
    · rename_i k m hy
      simp only [Option.some.injEq] at hx
      subst hx
      exact .inr ⟨y, k, rfl, (h.ev_den hy).1⟩
    · cases hx
theorem run_sliceBounds {P : Program} (isSlice : Bool) {n c : Nat} {lo hi : Option Operand} {l h : Int} {ρ : Operand → Value} (hlo : (lo = none ∧ l = 0) ∨ ∃ y k, lo = some y ∧ ρ y = .int k l) (hhi : (hi = none ∧ h = n) ∨ ∃ y k, hi = some y ∧ ρ y = .int k h)
    (hb : 0 ≤ l ∧ l ≤ h ∧ h ≤ c) (w : World) : (Instr.sliceBounds isSlice n c (lo.map ρ) (hi.map ρ) none).run P w = .ok (l.toNat, h.toNat, c) w := by
  have h3 : 0 ≤ h := by omega
  have h4 : l ≤ (h.toNat : Int) := by omega
  rcases hlo with ⟨rfl, rfl⟩ | ⟨y, k, rfl, hy⟩ <;> rcases hhi with ⟨rfl, rfl⟩ | ⟨z, k', rfl, hz⟩
  · simp [Instr.sliceBounds]
  · simp [Instr.sliceBounds, Instr.sliceBound, hz, asIntOf, hb.2.2, h3]
  · simp [Instr.sliceBounds, Instr.sliceBound, hy, asIntOf, hb.1, hb.2.1]
  · simp [Instr.sliceBounds, Instr.sliceBound, hy, hz, asIntOf, hb.2.2, h3, hb.1]
    intro hc
    exfalso
    omega
theorem run_sliceBounds3 {P : Program} {n c : Nat} {lo hi : Option Operand} {l h m : Int} {ρ : Operand → Value} {y : Operand} {km : IntKind} (hlo : (lo = none ∧ l = 0) ∨ ∃ y k, lo = some y ∧ ρ y = .int k l) (hhi : ∃ y k, hi = some y ∧ ρ y = .int k h) (hm : ρ y = .int km m)
    (hb : 0 ≤ l ∧ l ≤ h ∧ h ≤ m ∧ m ≤ c) (w : World) : (Instr.sliceBounds true n c (lo.map ρ) (hi.map ρ) (some (ρ y))).run P w = .ok (l.toNat, h.toNat, m.toNat) w := by
  obtain ⟨z, k', rfl, hz⟩ := hhi
  have h1 : 0 ≤ h := by omega
  have h2 : 0 ≤ m := by omega
  have h3 : h ≤ (m.toNat : Int) := by omega
  have h4 : l ≤ (h.toNat : Int) := by omega
  rcases hlo with ⟨rfl, rfl⟩ | ⟨y, k, rfl, hy⟩
  · simp [Instr.sliceBounds, Instr.sliceBound, hz, hm, asIntOf, hb.2.2.2, h1, h2, h3, -Int.ofNat_toNat]
  · simp [Instr.sliceBounds, Instr.sliceBound, hy, hz, hm, asIntOf, hb.2.2.2, h1, h2, hb.1, h3, h4, -Int.ofNat_toNat]
/-- All cells of a buffer, by elements. -/
theorem OwnB.reveal {ety esz g cap : Nat} {xs : List (List Value)} (h : OwnB w ety esz g cap xs) : ∃ sp : List (List Value), sp.length = cap - xs.length ∧ (∀ c ∈ sp, c.length = esz) ∧ (∀ c ∈ sp, ∀ u ∈ c, u.oneCell' = true) ∧ OwnB w ety esz g cap (xs ++ sp) := by
  obtain ⟨h1, h2, h3, h4, cur, h5, h6, h7, h8⟩ := h
  have hl : (cur.toList.drop (xs.length * esz)).length = (cap - xs.length) * esz := by rw [List.length_drop, Array.length_toList, h6, Nat.sub_mul]
  refine ⟨chunk esz (cap - xs.length) (cur.toList.drop (xs.length * esz)), chunk_len _ _ _, chunk_szs hl, fun c hc u hu => h8 u (List.mem_of_mem_drop (mem_chunk _ _ _ c hc u hu)), szs_app h1 (chunk_szs hl), by rw [List.length_append, chunk_len]; omega, h3, h4, cur, h5, h6, ?_, h8⟩
  rw [List.length_append, chunk_len, List.flatten_append, chunk_flat hl, ← h7, List.take_append_drop]
  exact List.take_of_length_le (by rw [Array.length_toList, h6]; exact Nat.mul_le_mul_right _ (by omega))
theorem Rep.newDead (h : Rep X e S a w) {v : Value} (hv : v.oneCell' = true) : Rep X (e.withRow S.nx v 0) (S.new .dead) a w := by
  refine h.step (k0 := S.nx) (b0 := .dead) (Env.withRow_same e S.nx v 0) rfl (Nat.le_succ _) (Nat.lt_succ_self _) trivial rfl rfl rfl (Nat.le_refl _) (fun _ _ => rfl) (fun k => ?_) trivial (fun _ hx => hx.elim)
  by_cases hk : k = S.nx
  · subst hk; rw [Env.withRow_rv]; exact hv
  · simp only [Env.withRow, if_neg hk]; exact h.one k
theorem Rep.setSame (h : Rep X e S a w) {k : Nat} {b b0 : Blk} (hk : get S.H k = some b) (hl0 : b0.lt S.nx) (hfoot : ∀ x, b0.foot e k x → b.foot e k x) (hnew : b0.holds S.F X e k w) : Rep X e (S.setH k b0) a w :=
  h.step (k0 := k) (b0 := b0) (Env.same.refl _ _) rfl (Nat.le_refl _) (h.hlt k _ hk).1 hl0 rfl rfl rfl (Nat.le_refl _) (fun _ _ => rfl) h.one hnew (fun x hx => h.not_kept hk (hfoot x hx))
theorem slice_ok (hT : TabOk X.P X.T) (h : Rep X e S a w) {o : Oper} (hd : dstOk X.nt o.dst = true) {t : Nat} {x : Operand} {lo hi mx : Option Operand} {K : St → Prop} (ho : o.op = .slice t x lo hi mx) (hk : xSlice X S o.dst t x lo hi mx K) : Wv X a w o K := by
  intro KK Q hKK
  unfold xSlice at hk
  split at hk
  · rename_i ti hti
    have hu0 := (TabOk.get hT hti).1
    split at hk
    · rename_i el hdd
      have hu := hu0
      rw [hdd] at hu
      split at hk
      · rename_i ei hei
        obtain ⟨_, j, hj, _, hjs, _, _⟩ := TabOk.get hT hei
        split at hk
        · rename_i k hx
          split at hk
          · split at hk
            · rename_i esz n xs hH
              split at hk
              · rename_i he
                have he := Nat.eq_of_beq_eq_true he
                split at hk
                · rename_i l hl
                  split at hk
                  · rename_i h' hh
                    obtain ⟨hbd, hk⟩ := sli_get hk
                    have hdx := (h.ev_den hx).1
                    simp only [SV.den, C.den] at hdx
                    obtain ⟨⟨hlen, hsz, A, c, hv, hnc, hcm, hcells⟩, hes, hra⟩ := h.hp k _ hH
                    rw [hv] at hdx
                    have hb := run_sliceBounds (P := X.P) true (n := n) (c := c) (optInt_ok h.v hl) (optInt_ok h.v hh) (by omega) w
                    have hrun : (execOp a.eval o).run X.P w = .ok (.value (.slice (if c = l.toNat then A else A.map (·.add (l.toNat * j.size))) (h'.toNat - l.toNat) (c - l.toNat))) w := by
                      simp [execOp, ho, Instr.sliceAt, Instr.slice, run_underlying hu, hdx, hb, run_sizeOf hj]
                    have hlt := (h.hlt k _ hH).2
                    have hR := h.newExt (esz := esz) (n := h'.toNat - l.toNat) (xs := xs.sub l.toNat (h'.toNat - l.toNat)) (v := .slice (if c = l.toNat then A else A.map (·.add (l.toNat * j.size))) (h'.toNat - l.toNat) (c - l.toNat)) (Els.sub_lt hlt _ _) (by
                      rw [Els.den_sub]
                      refine ⟨by rw [List.length_take, List.length_drop, hlen]; omega, szs_take (szs_drop hsz _) _, _, _, rfl, by omega, by omega, fun hpos => ?_⟩
                      obtain ⟨p, rfl, hF, hc⟩ := hcells (by omega)
                      have hne : ¬ c = l.toNat := by omega
                      refine ⟨p.add (l.toNat * j.size), by simp [hne], by rw [addr_block]; exact hF, fun i u hu' => ?_⟩
                      rw [addr_add, hjs, ← he]
                      refine hc _ u ?_
                      rw [flat_take (szs_drop hsz _), flat_drop hsz] at hu'
                      exact take_drop_get rfl i u hu')
                    have hp := hR.put (d := o.dst) (v := .c (.row S.nx)) hd (blt_iff.2 (Nat.lt_succ_self _))
                    simp only [SV.den, C.den, Env.withRow_rv] at hp
                    exact wpo_value hrun (hKK _ _ _ _ hp hk)
                  · exact hk.elim
                · exact hk.elim
              · exact hk.elim
            · rename_i ety esz n xs hH
              split at hk
              · rename_i l hl
                split at hk
                · rename_i h' hh
                  obtain ⟨hbd, hk⟩ := sli_get hk
                  have hdx := (h.ev_den hx).1
                  simp only [SV.den, C.den] at hdx
                  have hown := (h.hp k _ hH).1
                  obtain ⟨A, c, hv, hnc⟩ : ∃ A c, e.rv k = .slice A n c ∧ n ≤ c := by
                    rcases hown.2.2 with ⟨A, hv, hn⟩ | ⟨g, cap, hv, hb⟩
                    · exact ⟨A, 0, by rw [hv, hn], by omega⟩
                    · exact ⟨_, _, hv, by have := hb.2.1; have := hown.1; omega⟩
                  rw [hv] at hdx
                  have hb := run_sliceBounds (P := X.P) true (n := n) (c := c) (optInt_ok h.v hl) (optInt_ok h.v hh) (by omega) w
                  have hrun : (execOp a.eval o).run X.P w = .ok (.value (.slice (if c = l.toNat then A else A.map (·.add (l.toNat * j.size))) (h'.toNat - l.toNat) (c - l.toNat))) w := by
                    simp [execOp, ho, Instr.sliceAt, Instr.slice, run_underlying hu, hdx, hb, run_sizeOf hj]
                  have hR := h.newDead (v := .slice (if c = l.toNat then A else A.map (·.add (l.toNat * j.size))) (h'.toNat - l.toNat) (c - l.toNat)) rfl
                  have hp := hR.put (d := o.dst) (v := .c (.row S.nx)) hd (blt_iff.2 (Nat.lt_succ_self _))
                  simp only [SV.den, C.den, Env.withRow_rv] at hp
                  exact wpo_value hrun (hKK _ _ _ _ hp hk)
                · exact hk.elim
              · exact hk.elim
            · exact hk.elim
          · exact hk.elim
        · rename_i k lo0 n hx
          split at hk
          · rename_i ety esz cap xs hH
            split at hk
            · rename_i he
              have he := Nat.eq_of_beq_eq_true he
              subst he
              split at hk
              · rename_i l hl
                split at hk
                · rename_i h' hh
                  obtain ⟨hown, hes, hcp, hra⟩ := h.hp k _ hH
                  have hdx : a.eval x = .slice (some ⟨e.ad k, lo0 * ei.size, none⟩) n (cap - lo0) := by
                    have := (h.ev_den hx).1
                    simp only [SV.den, C.den, hra, hcp, addr_mid, hes] at this
                    exact this
                  split at hk
                  · obtain ⟨hbd, hk⟩ := sli_get hk
                    have hb := run_sliceBounds (P := X.P) true (n := n) (c := cap - lo0) (optInt_ok h.v hl) (optInt_ok h.v hh) hbd w
                    have hrun : (execOp a.eval o).run X.P w = .ok (.value (.slice (if cap - lo0 = l.toNat then some ⟨e.ad k, lo0 * ei.size, none⟩ else some ⟨e.ad k, (lo0 + l.toNat) * ei.size, none⟩) (h'.toNat - l.toNat) (cap - lo0 - l.toNat))) w := by
                      have e1 : (⟨e.ad k, lo0 * ei.size, none⟩ : Addr).add (l.toNat * ei.size) = ⟨e.ad k, (lo0 + l.toNat) * ei.size, none⟩ := by rw [Addr.add_mid, ← Nat.add_mul]
                      simp only [execOp, ho, Instr.sliceAt, Sem.run_bind, run_underlying hu, Result.andThen_ok, hdx, Option.map_none, Instr.slice, hb, run_sizeOf hj, hjs, Option.map_some, e1, Sem.run_pure]
                    have hden : lo0 + l.toNat < cap → (SV.c (.sl k (lo0 + l.toNat) (h'.toNat - l.toNat))).den e = .slice (if cap - lo0 = l.toNat then some ⟨e.ad k, lo0 * ei.size, none⟩ else some ⟨e.ad k, (lo0 + l.toNat) * ei.size, none⟩) (h'.toNat - l.toNat) (cap - lo0 - l.toNat) := fun hlt => by
                      rw [if_neg (by omega)]
                      simp only [SV.den, C.den, hra, hcp, hes, addr_mid, Nat.sub_sub]
                    rcases br_case hk with ⟨hin, hk⟩ | ⟨hin, hk⟩
                    · have hin := of_decide_eq_true hin
                      have hd0 := hden hin
                      replace hk := hk.out
                      refine wpo_value hrun ?_
                      rw [← hd0]
                      rcases hk with ⟨_, hk⟩ | ⟨hc, hk⟩
                      · exact hKK _ _ _ _ (h.put hd (blt_iff.2 (h.hlt k _ hH).1)) hk
                      · obtain ⟨sp, s1, s2, s3, s4⟩ := hown.reveal
                        rw [Els.den_len] at s1
                        have hR := h.setSame (b0 := .buf ety ei.size cap (xs.app (.vs sp))) hH (Els.app_lt (h.hlt k _ hH).2 s3) (fun _ hx => hx) ⟨by rw [Els.den_app]; exact s4, hes, hcp, hra⟩
                        exact hKK _ _ _ _ (hR.put (v := .c (.sl k (lo0 + l.toNat) (h'.toNat - l.toNat))) hd (blt_iff.2 (h.hlt k _ hH).1)) (hk sp s1 s2)
                    · have hin := of_decide_eq_false hin
                      have z1 : cap - lo0 = l.toNat := by omega
                      have z2 : h'.toNat - l.toNat = 0 := by omega
                      have z3 : cap - lo0 - l.toNat = 0 := by omega
                      rw [if_pos z1, z2, z3] at hrun
                      have hR := h.newRow (w' := w) (ety := ety) (esz := ei.size) (n := 0) (xs := .vs []) (v := .slice (some ⟨e.ad k, lo0 * ei.size, none⟩) 0 0) (fun c hc => by cases hc) rfl rfl rfl (Nat.le_refl _) (fun _ _ => rfl) ⟨rfl, fun c hc => (by cases hc), .inl ⟨_, rfl, rfl⟩⟩ (fun y hy => by
                        obtain ⟨p, n', c', hv, hc', _⟩ := hy
                        injection hv with _ _ hv; omega)
                      have hp := hR.put (d := o.dst) (v := .c (.row S.nx)) hd (blt_iff.2 (Nat.lt_succ_self _))
                      simp only [SV.den, C.den, Env.withRow_rv] at hp
                      exact wpo_value hrun (hKK _ _ _ _ hp hk)
                  · rename_i my
                    split at hk
                    · exact hk.elim
                    split at hk
                    · rename_i km m hm
                      obtain ⟨hbd, hk⟩ := need_get hk
                      have hmd := (h.ev_den hm).1
                      simp only [SV.den, C.den] at hmd
                      rcases optInt_ok h.v hh with ⟨hh0, _⟩ | hh0
                      · cases hh0
                      · have hb := run_sliceBounds3 (P := X.P) (n := n) (c := cap - lo0) (optInt_ok h.v hl) hh0 hmd hbd w
                        simp only [Option.map_some] at hb
                        refine wpo_value (show (execOp a.eval o).run X.P w = .ok (.value (.slice (if m.toNat = l.toNat then some ⟨e.ad k, lo0 * ei.size, none⟩ else some ((⟨e.ad k, lo0 * ei.size, none⟩ : Addr).add (l.toNat * ei.size))) (h'.toNat - l.toNat) (m.toNat - l.toNat))) w by
                          simp only [execOp, ho, Instr.sliceAt, Sem.run_bind, run_underlying hu, Result.andThen_ok, hdx, Instr.slice, Option.map_some, hb, run_sizeOf hj, hjs, Sem.run_pure]) ?_
                        have hR := h.newDead (v := .slice (if m.toNat = l.toNat then some ⟨e.ad k, lo0 * ei.size, none⟩ else some ((⟨e.ad k, lo0 * ei.size, none⟩ : Addr).add (l.toNat * ei.size))) (h'.toNat - l.toNat) (m.toNat - l.toNat)) rfl
                        have hp := hR.put (d := o.dst) (v := .c (.row S.nx)) hd (blt_iff.2 (Nat.lt_succ_self _))
                        simp only [SV.den, C.den, Env.withRow_rv] at hp
                        exact hKK _ _ _ _ hp hk
                    · exact hk.elim
                · exact hk.elim
              · exact hk.elim
            · exact hk.elim
          · exact hk.elim
        · rename_i hx
          split at hk
          · split at hk
            · rename_i l hl
              split at hk
              · rename_i h' hh
                obtain ⟨hbd, hk⟩ := sli_get hk
                have hdx := (h.ev_den hx).1
                simp only [SV.den, C.den] at hdx
                have hb := run_sliceBounds (P := X.P) true (n := 0) (c := 0) (optInt_ok h.v hl) (optInt_ok h.v hh) hbd w
                have z1 : l.toNat = 0 := by omega
                have z2 : h'.toNat = 0 := by omega
                rw [z1, z2] at hb
                have hrun : (execOp a.eval o).run X.P w = .ok (.value (.slice none 0 0)) w := by
                  simp [execOp, ho, Instr.sliceAt, Instr.slice, run_underlying hu, hdx, hb, run_sizeOf hj]
                exact wpo_value hrun (hKK _ _ _ _ (h.put (v := .c (.v (.slice none 0 0))) hd rfl) hk)
              · exact hk.elim
            · exact hk.elim
          · exact hk.elim
        · exact hk.elim
      · exact hk.elim
    · rename_i hdd
      have hu := hu0
      rw [hdd] at hu
      split at hk
      · split at hk
        · rename_i s hx
          split at hk
          · rename_i l hl
            split at hk
            · rename_i h' hh
              obtain ⟨hbd, hk⟩ := sli_get hk
              have hdx := (h.ev_den hx).1
              simp only [SV.den, C.den] at hdx
              have hb := run_sliceBounds (P := X.P) false (n := s.size) (c := s.size) (optInt_ok h.v hl) (optInt_ok h.v hh) hbd w
              refine wpo_value (show (execOp a.eval o).run X.P w = .ok (.value (.string (s.extract l.toNat h'.toNat))) w by simp [execOp, ho, Instr.sliceAt, Instr.slice, run_underlying hu, hdx, hb]) ?_
              exact hKK _ _ _ _ (h.put (v := .c (.v (.string (s.extract l.toNat h'.toNat)))) hd rfl) hk
            · exact hk.elim
          · exact hk.elim
        · exact hk.elim
      · exact hk.elim
    · exact hk.elim
  · exact hk.elim
end
end Go.Proofs.Yteldohidnepaoaa.Sy
