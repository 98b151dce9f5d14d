/-
  The symbolic executor, 16: calls in short: callees that hand back rows, whose numbers are the next ones; what came in reads later as it did.
-/
import Derived.Test.YteldohidnepaoaaSy15
namespace Go.Proofs.Yteldohidnepaoaa.Sy
open Go Go.RowKit
section
variable {X : Cx} {e : Env} {S : St} {a : Act} {w : World}

/-- One row comes back; k: its number. -/
theorem call_r1 {d : Option Nat} {f : Nat} {args : List SV} {K : St → Prop} {v : Unit → List Value → Value} (r : RD) (sv : Nat → SV) (hcall : ∀ as w, (callFunc f as).run X.P w = .ok (.enter f as) w)
    (hc : ∀ e a w, Rep X e S a w → Calls X.P f (denAll e args) w (RetRows noRow (fun _ : Unit => True) (fun _ => [r]) v w))
    (hk : K ((S.rows [r]).put d (sv S.nx))) (hv : ∀ (e : Env) u, v () [u] = (sv S.nx).den (e.withRows S.nx [r] [u]) := by intros; rfl) (hl : (sv S.nx).lt (S.nx + 1) = true := by rfl) : callP X S d f args K :=
  call_rows none (fun _ : Unit => True) (fun _ => [r]) (fun _ => sv S.nx) hcall (fun j hj => by cases hj) (fun _ _ => hl) (fun e a w h => rows_one (hc e a w h) (fun x u => hv e u)) (fun _ _ => hk)
/-- Two rows come back; k, k + 1: their numbers. -/
theorem call_r2 {d : Option Nat} {f : Nat} {args : List SV} {K : St → Prop} {v : Unit → List Value → Value} (k : Nat) (r r' : RD) (sv : SV) (hcall : ∀ as w, (callFunc f as).run X.P w = .ok (.enter f as) w)
    (hc : ∀ e a w, Rep X e S a w → Calls X.P f (denAll e args) w (RetRows noRow (fun _ : Unit => True) (fun _ => [r, r']) v w))
    (hk : K ((S.rows [r, r']).put d sv)) (hn : S.nx = k := by rfl) (hv : ∀ (e : Env) u u', v () [u, u'] = sv.den (e.withRows k [r, r'] [u, u']) := by intros; rfl) (hl : sv.lt (k + 2) = true := by rfl) : callP X S d f args K := by
  subst hn
  exact call_rows none (fun _ : Unit => True) (fun _ => [r, r']) (fun _ => sv) hcall (fun j hj => by cases hj) (fun _ _ => hl) (fun e a w h => rows_two (hc e a w h) (fun x u u' => hv e u u')) (fun _ _ => hk)
/-- .. whatever number comes next. -/
theorem call_r2f {d : Option Nat} {f : Nat} {args : List SV} {K : St → Prop} {v : Unit → List Value → Value} (r r' : RD) (sv : Nat → SV) (hcall : ∀ as w, (callFunc f as).run X.P w = .ok (.enter f as) w)
    (hc : ∀ e a w, Rep X e S a w → Calls X.P f (denAll e args) w (RetRows noRow (fun _ : Unit => True) (fun _ => [r, r']) v w))
    (hk : K ((S.rows [r, r']).put d (sv S.nx))) (hv : ∀ (e : Env) u u', v () [u, u'] = (sv S.nx).den (e.withRows S.nx [r, r'] [u, u']) := by intros; rfl) (hl : (sv S.nx).lt (S.nx + 2) = true := by rfl) : callP X S d f args K :=
  call_r2 S.nx r r' (sv S.nx) hcall hc hk rfl hv hl
/-- The callee takes over row j; one row comes back. -/
theorem call_k1 {d : Option Nat} {f : Nat} {args : List SV} {K : St → Prop} {v : Unit → List Value → Value} (j : Nat) (r : RD) (sv : Nat → SV) (hcall : ∀ as w, (callFunc f as).run X.P w = .ok (.enter f as) w)
    (hc : ∀ e a w, Rep X e S a w → Calls X.P f (denAll e args) w (RetRows (e.rv j) (fun _ : Unit => True) (fun _ => [r]) v w))
    (hk : K (((S.setH j .dead).rows [r]).put d (sv S.nx))) (hj : ∃ ety esz n xs, get S.H j = some (.row ety esz n xs) := by exact ⟨_, _, _, _, rfl⟩)
    (hv : ∀ (e : Env) u, v () [u] = (sv S.nx).den (e.withRows S.nx [r] [u]) := by intros; rfl) (hl : (sv S.nx).lt (S.nx + 1) = true := by rfl) : callP X S d f args K :=
  call_rows (some j) (fun _ : Unit => True) (fun _ => [r]) (fun _ => sv S.nx) hcall (fun i hi => by cases hi; exact hj) (fun _ _ => hl) (fun e a w h => rows_one (hc e a w h) (fun x u => hv e u)) (fun _ _ => hk)
/-- What came in reads later as it did. -/
theorem later_ok (h : Rep X e S a w) {d : XD} (hr : XD.ok (fun b => b < X.w0.heap.size) X.w0 d) (ho : ∀ b, b < X.w0.heap.size → ¬ X.own b) : XD.ok (fun b => b < w.heap.size) w d :=
  ⟨(reads_later h (hr.1.keep (fun b hb => ⟨hb, ho b hb⟩) (fun _ _ => rfl))).keep h.fl (fun _ _ => rfl), hr.2⟩
/-- .. in a function that takes nothing over. -/
theorem later_in {lv : List (Nat × List Nat)} {lvg : List (List (Nat × List Nat))} {P : Program} {T : Tab} {w0 : World} {nt : Nat} {rd : Option Nat} {gh : List Act} {n0 : Nat} {e0 : Env} {pins : List (Nat × Nat)}
    (h : Rep { P := P, T := T, w0 := w0, nt := nt, rd := rd, gh := gh, n0 := n0, e0 := e0, pins := pins, lv := lv, lvg := lvg } e S a w) {d : XD} (hr : XD.ok (fun b => b < w0.heap.size) w0 d) : XD.ok (fun b => b < w.heap.size) w d :=
  later_ok h hr fun _ _ h => h
/-- Rows are handed back. -/
theorem fin_r1 {lv : List (Nat × List Nat)} {v : Unit → List Value → Value} {P : Program} {T : Tab} {w0 : World} {nt : Nat} {sv : SV} {r : RD} (k : C) (hr : RowC S r k) (hv : ∀ e, sv.den e = v () [k.den e] := by intros; rfl) :
    finP { P := P, T := T, w0 := w0, nt := nt, lv := lv } S sv (RetRows noRow (fun _ : Unit => True) (fun _ => [r]) v w0) :=
  fin_rows () trivial [k] ⟨hr, (by intro j hj; cases hj), trivial⟩ hv
theorem fin_r2 {lv : List (Nat × List Nat)} {v : Unit → List Value → Value} {P : Program} {T : Tab} {w0 : World} {nt : Nat} {sv : SV} {r r' : RD} (k k' : C) (hr : RowC S r k) (hr' : RowC S r' k') (hne : rowId k ≠ none → rowId k' ≠ rowId k := by decide) (hv : ∀ e, sv.den e = v () [k.den e, k'.den e] := by intros; rfl) :
    finP { P := P, T := T, w0 := w0, nt := nt, lv := lv } S sv (RetRows noRow (fun _ : Unit => True) (fun _ => [r, r']) v w0) :=
  fin_rows () trivial [k, k'] ⟨hr, (by intro j hj h; simp at hj; subst hj; exact hne h), hr', (by intro j hj; cases hj), trivial⟩ hv
def St.news (S : St) : List Blk → St
  | [] => S
  | b :: l => (S.new b).news l
/-- The ways through x (a region that draws its order, say) meet again: behind it one of the states with new blocks 'bs', slots 'fr', blocks 'H' holds; k: the number of the first new block. -/
theorem meet {x y : Code} {Q : Exit → St → Prop} {ι : Type} (bs : ι → Nat → List Blk) (fr : ι → Nat → List (Nat × SV)) (H : ι → Nat → List (Nat × Blk)) (ok : ι → Prop) (hT : TabOk X.P X.T)
    (hx : semP X x S (then_ Q fun S' => ∃ j, ok j ∧ SubGo X S' ((((S.prune (liveAt X x)).prune (liveAt X y)).inv (writes x) (fr j S.nx) (H j S.nx)).news (bs j S.nx))))
    (hy : ∀ i, ok i → St.forceAll ((((S.prune (liveAt X x)).prune (liveAt X y)).inv (writes x) (fr i S.nx) (H i S.nx)).news (bs i S.nx)) fun S1 => xcode X y S1 Q) : semP X x S (then_ Q fun S' => xcode X y S' Q) := by
  refine ⟨?_⟩
  intro e a w h Qr hQ
  refine sem_get hx h (fun ex e S' a w hR hS' => ?_)
  cases ex with
  | normal =>
    obtain ⟨i, hi, h3⟩ := hS'
    obtain ⟨e2, hR2⟩ := sub_get (sub_auto h3) hR
    have := hy i hi
    rw [forceAll_eq] at this
    exact hQ .normal e2 _ _ _ hR2 this
  | exit id => exact hQ _ _ _ _ _ hR hS'
  | goto l => exact hQ _ _ _ _ _ hR hS'
  | ret => exact hQ _ _ _ _ _ hR hS'
  | panic ch => exact hQ _ _ _ _ _ hR hS'
  | outgrown => exact hQ _ _ _ _ _ hR hS'
/-- .. one state. -/
theorem meet1 (k : Nat) {x y : Code} {Q : Exit → St → Prop} (bs : List Blk) (fr : List (Nat × SV)) (H : List (Nat × Blk)) (hT : TabOk X.P X.T) (_ : S.nx = k)
    (hx : semP X x S (then_ Q fun S' => SubGo X S' ((((S.prune (liveAt X x)).prune (liveAt X y)).inv (writes x) fr H).news bs)))
    (hy : St.forceAll ((((S.prune (liveAt X x)).prune (liveAt X y)).inv (writes x) fr H).news bs) fun S1 => xcode X y S1 Q) : semP X x S (then_ Q fun S' => xcode X y S' Q) := by
  refine ⟨?_⟩
  intro e a w h Qr hQ
  refine sem_get hx h (fun ex e S' a w hR hS' => ?_)
  cases ex with
  | normal =>
    obtain ⟨e2, hR2⟩ := sub_get (sub_auto hS') hR
    rw [forceAll_eq] at hy
    exact hQ .normal e2 _ _ _ hR2 hy
  | exit id => exact hQ _ _ _ _ _ hR hS'
  | goto l => exact hQ _ _ _ _ _ hR hS'
  | ret => exact hQ _ _ _ _ _ hR hS'
  | panic ch => exact hQ _ _ _ _ _ hR hS'
  | outgrown => exact hQ _ _ _ _ _ hR hS'
end
end Go.Proofs.Yteldohidnepaoaa.Sy
