/-
  The symbolic executor, 15: more rules.
-/
import Derived.Test.YteldohidnepaoaaSy14
namespace Go.Proofs.Yteldohidnepaoaa.Sy
open Go Go.RowKit
section
variable {X : Cx} {e : Env} {S : St} {a : Act} {w : World}
/-- Go on from another state, put into plain form. -/
theorem sem_subF {S S' : St} {c : Code} {Q : Exit → St → Prop} (hs : Sub X S S') (hc : St.forceAll S' fun S' => semP X c S' Q) : semP X c S Q := by
  rw [forceAll_eq] at hc
  exact sem_sub hs hc
theorem OwnAll.len {w : World} : ∀ {rs : List RD} {vs : List Value}, OwnAll w rs vs → vs.length = rs.length
  | [], [], _ => rfl
  | _ :: _, _ :: _, h => by rw [List.length_cons, List.length_cons, OwnAll.len h.2.2]
  | [], _ :: _, h => h.elim
  | _ :: _, [], h => h.elim
/-- The value that is handed back, named otherwise. -/
theorem rows_as {α : Type} {P : Program} {f : Nat} {args : Array Value} {v0 : Value} {p : α → Prop} {rs : α → List RD} {v v' : α → List Value → Value} (h : Calls P f args w (RetRows v0 p rs v w)) (hv : ∀ x vs, vs.length = (rs x).length → v x vs = v' x vs) :
    Calls P f args w (RetRows v0 p rs v' w) :=
  h.mono fun E w' ⟨x, vs, hp, hE, hg, hown, hf⟩ => ⟨x, vs, hp, by rw [hE, hv x vs hown.len], hg, hown, hf⟩
/-- One row. -/
theorem rows_one {α : Type} {P : Program} {f : Nat} {args : Array Value} {v0 : Value} {p : α → Prop} {r : α → RD} {v v' : α → List Value → Value} (h : Calls P f args w (RetRows v0 p (fun x => [r x]) v w)) (hv : ∀ x u, v x [u] = v' x [u]) :
    Calls P f args w (RetRows v0 p (fun x => [r x]) v' w) :=
  rows_as h fun x vs hl => by
    match vs, hl with
    | [u], _ => exact hv x u
theorem rows_two {α : Type} {P : Program} {f : Nat} {args : Array Value} {v0 : Value} {p : α → Prop} {r r' : α → RD} {v v' : α → List Value → Value} (h : Calls P f args w (RetRows v0 p (fun x => [r x, r' x]) v w)) (hv : ∀ x u u', v x [u, u'] = v' x [u, u']) :
    Calls P f args w (RetRows v0 p (fun x => [r x, r' x]) v' w) :=
  rows_as h fun x vs hl => by
    match vs, hl with
    | [u, u'], _ => exact hv x u u'
theorem fin_ex {lv : List (Nat × List Nat)} {α : Type} {p : α → Prop} {v : α → Value} {P : Program} {T : Tab} {w0 : World} {nt : Nat} {sv : SV} (x : α) (hp : p x) (h : ∀ e, sv.den e = v x) : finP { P := P, T := T, w0 := w0, nt := nt, lv := lv } S sv (RetEx p v w0) :=
  fin_of fun e a w hR => ⟨x, hp, by rw [h], hR.bel.below⟩
theorem OwnE.reads {ety esz n : Nat} {v : Value} {xs : List (List Value)} (hh : OwnE w ety esz v n xs) : XD.ok (fun b => b < w.heap.size ∧ rfoot v b) w ⟨v, esz, n, xs⟩ := by
  refine ⟨⟨hh.1, hh.2.1, ?_⟩, hh.els_one⟩
  rcases hh.2.2 with ⟨A, hv, hn⟩ | ⟨g, cap, hv, hb⟩
  · have hn : n = 0 := hn
    subst hn
    exact ⟨A, 0, hv, Nat.le_refl _, by simp [maxLen], fun h0 => absurd h0 (Nat.lt_irrefl 0)⟩
  · have hb1 := hb.2.1
    rw [hh.1] at hb1
    exact ⟨_, cap, hv, hb1, hb.2.2.1, fun _ => ⟨_, rfl, ⟨hb.lt, ⟨_, _, _, hv, hb.2.2.2.1, rfl⟩⟩, fun j u hu => by rw [addr_mid]; exact hb.cells j u hu⟩⟩
theorem XD.ok.mono {F F' : Nat → Prop} {d : XD} (h : XD.ok F w d) (hF : ∀ b, F b → F' b) : XD.ok F' w d := ⟨h.1.keep hF (fun _ _ => rfl), h.2⟩
end
end Go.Proofs.Yteldohidnepaoaa.Sy
