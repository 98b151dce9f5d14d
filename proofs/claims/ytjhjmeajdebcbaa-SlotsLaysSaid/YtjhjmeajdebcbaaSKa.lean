/- Slots: deeds; sets of numbers as maps; ways that meet behind a part. -/
import Derived.Test.YtjhjmeajdebcbaaSX
namespace Go.Proofs.Ytjhjmeajdebcbaa
open Go Go.RowKit
namespace Sy
section
variable {X : Cx} {S : St}
/-- What is to be shown, held back from the walk. -/
structure Hold (P : Prop) : Prop where
  out : P
theorem seq_hold {x y : Code} {Q : Exit → St → Prop} (h : semP X x S (then_ Q fun S' => Hold (semP X y S' Q))) : semP X (.seq x y) S Q :=
  ⟨fun _ _ _ hR _ hQ => wpIn_seq (sem_get h hR (compat_then hQ fun e2 _ a2 w2 hR2 hS2 => hS2.out.out e2 a2 w2 hR2 _ hQ))⟩
theorem block_sem {id : Nat} {p : Code} {Q : Exit → St → Prop} (h : semP X p S (inBlk id Q)) : semP X (.block id p) S Q := ⟨fun _ _ _ hR _ hQ => wpIn_block (sem_get h hR (compat_inBlk hQ))⟩
/-- A loop, of which a round is shown at its meaning. -/
theorem loop_sem {p : Code} {Q : Exit → St → Prop} {ι : Type} (fr : ι → List (Nat × SV)) (H : ι → List (Nat × Blk)) (ok : ι → Prop) (μ : ι → Nat) (i0 : ι) (h0 : ok i0)
    (hs : SubGo X (S.prune (liveAt X p)) ((S.prune (liveAt X p)).inv (writes p) (fr i0) (H i0)))
    (round : ∀ i, ok i → St.forceAll ((S.prune (liveAt X p)).inv (writes p) (fr i) (H i)) fun S1 => semP X p S1 (then_ Q fun S' => ∃ j, ok j ∧ μ j < μ i ∧ SubGo X S' ((S.prune (liveAt X p)).inv (writes p) (fr j) (H j)))) : semP X (.loop p) S Q := by
  refine ⟨?_⟩
  intro e a w h Qr hQ
  obtain ⟨e0, hR0⟩ := sub_get (sub_auto hs) (h.prune (liveAt X p))
  refine wpIn_loop_ghost (fun n a w => ∃ i e, ok i ∧ μ i = n ∧ Rep X e ((S.prune (liveAt X p)).inv (writes p) (fr i) (H i)) a w) (μ i0) ⟨i0, e0, h0, rfl, hR0⟩ ?_
  rintro n a w ⟨i, e, hi, rfl, hR⟩
  have := round i hi
  rw [forceAll_eq] at this
  refine sem_get this hR (compat_then hQ fun e' S' a' w' hR' hS' => ?_)
  obtain ⟨j, hj, hlt, h3⟩ := hS'
  obtain ⟨e2, hR2⟩ := sub_get (sub_auto h3) hR'
  exact ⟨μ j, hlt, j, e2, hj, rfl, hR2⟩
theorem sem_go (hT : TabOk X.P X.T) {c : Code} {Q : Exit → St → Prop} (h : xcode X c S Q) : semP X c S Q := ⟨fun _ _ _ hR _ hQ => xcode_ok hT c hR h hQ⟩
/-- The ways through x meet again: new blocks bs, slots fr, blocks H. -/
theorem meetS (hT : TabOk X.P X.T) {x y : Code} {Q : Exit → St → Prop} {ι : Type} (bs : ι → List Blk) (fr : ι → List (Nat × SV)) (H : ι → List (Nat × Blk)) (ok : ι → Prop)
    (hx : semP X x S (then_ Q fun S' => ∃ j, ok j ∧ SubGo X S' ((((S.prune (liveAt X x)).prune (liveAt X y)).inv (writes x) (fr j) (H j)).news (bs j))))
    (hy : ∀ i, ok i → St.forceAll ((((S.prune (liveAt X x)).prune (liveAt X y)).inv (writes x) (fr i) (H i)).news (bs i)) fun S1 => xcode X y S1 Q) : semP X (.seq x y) S Q := by
  refine ⟨?_⟩
  intro e a w h Qr hQ
  refine wpIn_seq (sem_get hx h (compat_then hQ fun e' S' a' w' hR hS' => ?_))
  obtain ⟨i, hi, h3⟩ := hS'
  obtain ⟨e2, hR2⟩ := sub_get (sub_auto h3) hR
  have := hy i hi
  rw [forceAll_eq] at this
  exact xcode_ok hT y hR2 this hQ
/-- One more block: a row of nothing. -/
theorem sub_ghost (S : St) (ety esz : Nat) : Sub X S { S with H := (S.nx, .row ety esz 0 (.vs [])) :: S.H, nx := S.nx + 1 } := by
  refine ⟨?_⟩
  intro e a w h
  have hR := h.newRow (w' := w) (ety := ety) (esz := esz) (n := 0) (xs := .vs []) (v := .slice none 0 0) (fun c hc => by cases hc) rfl rfl rfl (Nat.le_refl _) (fun _ _ => rfl) ⟨rfl, fun c hc => (by cases hc), .inl ⟨none, rfl, rfl⟩⟩ (fun x hx => absurd hx (noRow_foot x))
  exact ⟨_, hR⟩
end
end Sy
open Sy (C SV V1 Blk St XD Els)
theorem open_x {X : Sy.Cx} {S : St} {v : Value} {K : St → SV → Prop} (esz n : Nat) (xs : List (List Value)) (h : XD.ok (fun b => b < X.w0.heap.size) X.w0 ⟨v, esz, n, xs⟩) (ho : ∀ b, ¬ X.own b) (hk : K (S.new (.ext esz n (.vs xs))) (.c (.row S.nx))) : Sy.openP X S v K :=
  Sy.open_in esz n xs (h.1.keep (fun b hb => ⟨hb, ho b⟩) (fun _ _ => rfl)) h.2 hk
theorem open_c {X : Sy.Cx} {S : St} {c : Code} {Q : Exit → St → Prop} (k o esz n : Nat) (xs : List (List Value)) {ty : Nat} {cs : List C} {u : Value} (hk : Sy.get S.H k = some (.cells ty cs)) (ho : cs[o]? = some (.v u)) (h : XD.ok (fun b => b < X.w0.heap.size) X.w0 ⟨u, esz, n, xs⟩) (hown : ∀ b, ¬ X.own b)
    (hc : St.forceAll { S with H := (k, .cells ty (cs.set o (.row S.nx))) :: (S.nx, .ext esz n (.vs xs)) :: S.H, nx := S.nx + 1 } fun S' => Sy.semP X c S' Q) : Sy.semP X c S Q :=
  Sy.sem_subF (Sy.sub_open k o esz n xs hk ho (Sy.reads_w0 (h.1.keep (fun b hb => ⟨hb, hown b⟩) (fun _ _ => rfl))) h.2) hc
structure Deed where
  kind : Int
  wk : Int × Int
  tv : Value
  ts : List Int
def encD (d : Deed) : List Value := [.int .i64 d.kind, .int .i64 d.wk.1, .int .i64 d.wk.2, d.tv]
/-- A set of numbers, as a map's entries. -/
def setE (ks : List Int) : List (Value × Value) := (ks.map fun k => (k, Value.bool true)).map fun z => (Value.int .i64 z.1, z.2)
theorem set_add {P : Program} {kt : Nat} {K : Option (Nat × Value) → Prop} (ks : List Int) (x : Int) (hu : P.underlying kt = some (.int .i64)) (hn : ks.Nodup) (hk : ∀ r, (x ∈ ks ∧ ∃ i, r = some (i, .bool true) ∧ ks[i]? = some x) ∨ (x ∉ ks ∧ r = none) → K r) : Sy.findP P kt (.int .i64 x) (setE ks) K := by
  by_cases hx : x ∈ ks
  · obtain ⟨i, hi, he⟩ := List.mem_iff_getElem.1 hx
    have hg : ks[i]? = some x := by rw [List.getElem?_eq_getElem hi, he]
    refine Sy.map_hit (ks.map fun k => (k, Value.bool true)) x i (.bool true) hu (by simp [hg]) (fun j z hj hz => ?_) (hk _ (.inl ⟨hx, i, rfl, hg⟩))
    rw [List.getElem?_map] at hz
    obtain ⟨y, hy, rfl⟩ := Option.map_eq_some_iff.1 hz
    intro e
    have e : y = x := e
    subst e
    obtain ⟨hj', hy⟩ := List.getElem?_eq_some_iff.1 hy
    have := (List.getElem_inj hn).1 (hy.trans he.symm)
    omega
  · refine Sy.map_miss (ks.map fun k => (k, Value.bool true)) x hu (fun z hz => ?_) (hk _ (.inr ⟨hx, rfl⟩))
    obtain ⟨y, hy, rfl⟩ := List.mem_map.1 hz
    intro e
    have e : y = x := e
    subst e; exact hx hy
theorem set_same (ks : List Int) {i : Nat} {x : Int} (h : ks[i]? = some x) : (setE ks).set i (.int .i64 x, .bool true) = setE ks := by
  obtain ⟨hi, he⟩ := List.getElem?_eq_some_iff.1 h
  unfold setE
  refine List.ext_getElem? fun j => ?_
  rw [List.getElem?_set]
  split
  · rename_i e; subst e
    simp [hi, he]
  · rfl
theorem set_new (ks : List Int) (x : Int) : setE ks ++ [(.int .i64 x, .bool true)] = setE (ks ++ [x]) := by simp [setE]
theorem ok_nil : FlOk [] [] := by decide
theorem whrV_ok {ws ps : List (Int × Int)} {n : Int} (h : FlOk ws ps) : whrV ws ps n = whrL ps n := by unfold whrV; rw [if_pos h]
theorem chk_ok {ws ps : List (Int × Int)} (h : FlOk ws ps) : chkE ws ps = 0 := by unfold chkE; rw [if_pos h]
theorem set_nil : setE [] = [] := rfl
theorem set_step {ks : List Int} {ts : List Int} {m : Nat} {x : Int} (hg : ts[m]? = some x) (hm : ∀ y, y ∈ ks ↔ y ∈ ts.take m) (y : Int) : (y ∈ ks ∨ y = x) ↔ y ∈ ts.take (m + 1) := by
  obtain ⟨hl, he⟩ := List.getElem?_eq_some_iff.1 hg
  rw [List.take_succ_eq_append_getElem hl, List.mem_append, List.mem_singleton, he, hm]
theorem kp_mem {ps ws' ps' : List (Int × Int)} {ks ls : List Int} (h : ∀ x, x ∈ ks ↔ x ∈ ls) (hk : Kp ps ws' ps' ls) : Kp ps ws' ps' ks := ⟨hk.1, fun t => ⟨fun h1 h2 => (hk.2 t).1 h1 fun h3 => h2 ((h t).2 h3), fun h1 => (hk.2 t).2 ((h t).1 h1)⟩⟩
attribute [local irreducible] FlOk sumL frL
theorem freeV_bd (ws ps : List (Int × Int)) : 0 ≤ freeV ws ps ∧ freeV ws ps ≤ 32 := by
  unfold freeV
  split
  · rename_i hok
    have hwl := (ok_lens hok).1
    have hvs := ok_vals hok
    have hlen := frL_len ws ps
    have := sumAt_nat hvs (List.range (frL ws ps).length)
    rw [sumAt_range _ _ rfl, List.length_range] at this
    omega
  · decide
end Go.Proofs.Ytjhjmeajdebcbaa
