/- Slices that a callee hands back become known memory. -/
import Derived.Test.YtmahldelmbhjfaaSyH
namespace Go.Proofs.Ytmahldelmbhjfaa
open Go Go.RowKit
open Sy (C SV V1 Blk St XD Els RD)

structure One where
  v : Value
  h : v.oneCell' = true
structure Two where
  a : Value
  b : Value
  ha : a.oneCell' = true
  hb : b.oneCell' = true
/-- Reads the row, in memory that is not below n. -/
theorem mem_r1 {P : Program} {f : FuncId} {args : Array Value} {w : World} {r : RD} {v : Unit → List Value → Value} (n : Nat) (hn : n ≤ w.heap.size) (h : Calls P f args w (Sy.RetRows Sy.noRow (fun _ : Unit => True) (fun _ => [r]) v w)) :
    Calls P f args w (Sy.RetMem (fun (x : One) G w' => XD.ok (fun b => G b ∧ n ≤ b) w' ⟨x.v, r.esz, r.n, r.xs⟩) (fun x => v () [x.v]) w) :=
  h.mono fun E w' ⟨_, vs, _, hE, hg, ho, hf⟩ => by
    match vs, ho, hf, hE with
    | [u], ho, hf, hE =>
      refine ⟨⟨u, Sy.OwnE.one ho.1⟩, hE, hg.below, XD.ok.mono (Sy.OwnE.reads ho.1) fun b hb => ?_⟩
      have := (hf u List.mem_cons_self b hb.2).resolve_left (Sy.noRow_foot b)
      exact ⟨⟨this, hb.1⟩, Nat.le_trans hn this⟩
theorem mem_r2 {P : Program} {f : FuncId} {args : Array Value} {w : World} {r r' : RD} {v : Unit → List Value → Value} (n : Nat) (hn : n ≤ w.heap.size) (h : Calls P f args w (Sy.RetRows Sy.noRow (fun _ : Unit => True) (fun _ => [r, r']) v w)) :
    Calls P f args w (Sy.RetMem (fun (x : Two) G w' => XD.ok (fun b => G b ∧ n ≤ b) w' ⟨x.a, r.esz, r.n, r.xs⟩ ∧ XD.ok (fun b => G b ∧ n ≤ b) w' ⟨x.b, r'.esz, r'.n, r'.xs⟩) (fun x => v () [x.a, x.b]) w) :=
  h.mono fun E w' ⟨_, vs, _, hE, hg, ho, hf⟩ => by
    match vs, ho, hf, hE with
    | [u, t], ho, hf, hE =>
      refine ⟨⟨u, t, Sy.OwnE.one ho.1, Sy.OwnE.one ho.2.2.1⟩, hE, hg.below, XD.ok.mono (Sy.OwnE.reads ho.1) fun b hb => ?_, XD.ok.mono (Sy.OwnE.reads ho.2.2.1) fun b hb => ?_⟩
      · have := (hf u List.mem_cons_self b hb.2).resolve_left (Sy.noRow_foot b)
        exact ⟨⟨this, hb.1⟩, Nat.le_trans hn this⟩
      · have := (hf t (List.mem_cons_of_mem _ List.mem_cons_self) b hb.2).resolve_left (Sy.noRow_foot b)
        exact ⟨⟨this, hb.1⟩, Nat.le_trans hn this⟩
/-- Known memory is handed back. -/
theorem fin_mem {lv : List (Nat × List Nat)} {P : Program} {T : Sy.Tab} {w0 : World} {nt : Nat} {α : Type} {p : α → (Nat → Prop) → World → Prop} {v : α → Value} {S : St} {sv : SV} (x : α) (hv : ∀ e, sv.den e = v x)
    (hp : ∀ w, w0.heap.size ≤ w.heap.size → S.E w → (∀ b, S.F b → b < w.heap.size) → p x (fun b => w0.heap.size ≤ b ∧ b < w.heap.size) w) : Sy.finP { P := P, T := T, w0 := w0, nt := nt, lv := lv } S sv (Sy.RetMem p v w0) :=
  Sy.fin_of fun e a w h => ⟨x, by rw [hv], h.bel.below, hp w h.bel.size (h.ev w fun _ _ => rfl) fun b hb => h.fl b hb⟩
theorem XD.ok.keep {F F' : Nat → Prop} {w w' : World} {d : XD} (h : XD.ok F w d) (hF : ∀ b, F b → F' b) (hk : ∀ b, F b → w'.heap[b]? = w.heap[b]?) : XD.ok F' w' d := ⟨h.1.keep hF hk, h.2⟩
/-- A row that is handed back within a value becomes known memory. -/
theorem fin_freezeg {X : Sy.Cx} {S : St} {R : Ending → World → Prop} {v : SV} (v' : Value → SV) (k ety esz n : Nat) (xs : List (List Value)) (hH : Sy.get S.H k = some (.row ety esz n (.vs xs))) (hden : ∀ e : Sy.Env, v.den e = (v' (e.rv k)).den e)
    (hc : ∀ (u : Value) (G : Nat → Prop), (∀ b, G b → ¬ S.F b) → u.oneCell' = true → Sy.finP X (S.froz k (fun b => S.F b ∨ G b) (fun w => S.E w ∧ (XD.ok G w ⟨u, esz, n, xs⟩ ∧ ∀ b, G b → S.F b ∨ G b))) (v' u) R) : Sy.finP X S v R := Sy.fin_of fun e a w h => by
  have hh := h.hp k _ hH
  have hown : Sy.OwnE w ety esz (e.rv k) n xs := hh.1
  have hc := hc (e.rv k) (Sy.rfoot (e.rv k)) (fun b hb => h.ff k _ b hH hb) (h.one k)
  have hkill := h.kill k (h.hlt k _ hH).1
  have hR := hkill.learn (G := Sy.rfoot (e.rv k)) (p := fun G w => XD.ok (Sy.rfoot (e.rv k)) w ⟨e.rv k, esz, n, xs⟩ ∧ ∀ b, Sy.rfoot (e.rv k) b → G b) (fun b hb => ⟨hown.lt hb, fun k' c hk' hf => ?_, fun hm => (h.mks b hm).2.2 k _ hH hb⟩)
    ⟨XD.ok.mono hown.reads (fun b hb => hb.2), fun b hb => hb⟩ (fun G G' w1 w2 hp hG hk' => ⟨⟨hp.1.1.keep (fun _ hb => hb) (fun b hb => hk' b (hp.2 b hb)), hp.1.2⟩, fun b hb => hG b (hp.2 b hb)⟩)
  · have hput : Sy.Rep X e (S.froz k (fun b => S.F b ∨ Sy.rfoot (e.rv k) b) (fun w => S.E w ∧ (XD.ok (Sy.rfoot (e.rv k)) w ⟨e.rv k, esz, n, xs⟩ ∧ ∀ b, Sy.rfoot (e.rv k) b → S.F b ∨ Sy.rfoot (e.rv k) b))) a w := by
      cases S; exact hR
    rw [hden e]
    exact hc.out e a w hput
  · rcases Sy.get_cons hk' with ⟨e1, e2⟩ | ⟨hne, hk2⟩
    · subst e2; exact hf.elim
    · exact h.sep k k' _ c b hH hk2 hne hb hf
theorem snoc_ind {α : Type} {P : List α → Prop} (h0 : P []) (h : ∀ l x, P l → P (l ++ [x])) (l : List α) : P l := by
  rw [← List.reverse_reverse l]
  generalize l.reverse = r
  induction r with
  | nil => exact h0
  | cons x r ih =>
    rw [List.reverse_cons]
    exact h _ x ih
end Go.Proofs.Ytmahldelmbhjfaa
