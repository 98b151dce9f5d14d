/- Parts of a walk at their meaning; ways that meet behind a part. -/
import Derived.Test.YtbajgjbgkpcapaaSyH
namespace Go.Proofs.Ytbajgjbgkpcapaa
open Go Go.RowKit
namespace Sy
section
variable {X : Cx} {S : St}
/-- What is to be shown, held back from the walk. -/
structure Hold (P : Prop) : Prop where
  out : P
theorem seq_hold {x y : Code} {Q : Exit → St → Prop} (h : semP X x S (then_ Q fun S' => Hold (semP X y S' Q))) : semP X (.seq x y) S Q :=
  ⟨fun _ _ _ hR _ hQ => wpIn_seq (sem_get h hR (compat_then hQ fun e2 _ a2 w2 hR2 hS2 => hS2.out.out e2 a2 w2 hR2 _ hQ))⟩
theorem block_sem {id : Nat} {p : Code} {Q : Exit → St → Prop} (h : semP X p S (inBlk id Q)) : semP X (.block id p) S Q := ⟨fun _ _ _ hR _ hQ => wpIn_block (sem_get h hR (compat_inBlk hQ))⟩
/-- A loop, of which a round is shown at its meaning. -/
theorem loop_sem {p : Code} {Q : Exit → St → Prop} {ι : Type} (fr : ι → List (Nat × SV)) (H : ι → List (Nat × Blk)) (ok : ι → Prop) (μ : ι → Nat) (i0 : ι) (h0 : ok i0)
    (hs : SubGo X (S.prune (liveAt X p)) ((S.prune (liveAt X p)).inv (writes p) (fr i0) (H i0)))
    (round : ∀ i, ok i → St.forceAll ((S.prune (liveAt X p)).inv (writes p) (fr i) (H i)) fun S1 => semP X p S1 (then_ Q fun S' => ∃ j, ok j ∧ μ j < μ i ∧ SubGo X S' ((S.prune (liveAt X p)).inv (writes p) (fr j) (H j)))) : semP X (.loop p) S Q := by
  refine ⟨?_⟩
  intro e a w h Qr hQ
  obtain ⟨e0, hR0⟩ := sub_get (sub_auto hs) (h.prune (liveAt X p))
  refine wpIn_loop_ghost (fun n a w => ∃ i e, ok i ∧ μ i = n ∧ Rep X e ((S.prune (liveAt X p)).inv (writes p) (fr i) (H i)) a w) (μ i0) ⟨i0, e0, h0, rfl, hR0⟩ ?_
  rintro n a w ⟨i, e, hi, rfl, hR⟩
  have := round i hi
  rw [forceAll_eq] at this
  refine sem_get this hR (compat_then hQ fun e' S' a' w' hR' hS' => ?_)
  obtain ⟨j, hj, hlt, h3⟩ := hS'
  obtain ⟨e2, hR2⟩ := sub_get (sub_auto h3) hR'
  exact ⟨μ j, hlt, j, e2, hj, rfl, hR2⟩
theorem sem_go (hT : TabOk X.P X.T) {c : Code} {Q : Exit → St → Prop} (h : xcode X c S Q) : semP X c S Q := ⟨fun _ _ _ hR _ hQ => xcode_ok hT c hR h hQ⟩
/-- The ways through x meet again: new blocks bs, slots fr, blocks H. -/
theorem meetS (hT : TabOk X.P X.T) {x y : Code} {Q : Exit → St → Prop} {ι : Type} (bs : ι → List Blk) (fr : ι → List (Nat × SV)) (H : ι → List (Nat × Blk)) (ok : ι → Prop)
    (hx : semP X x S (then_ Q fun S' => ∃ j, ok j ∧ SubGo X S' ((((S.prune (liveAt X x)).prune (liveAt X y)).inv (writes x) (fr j) (H j)).news (bs j))))
    (hy : ∀ i, ok i → St.forceAll ((((S.prune (liveAt X x)).prune (liveAt X y)).inv (writes x) (fr i) (H i)).news (bs i)) fun S1 => xcode X y S1 Q) : semP X (.seq x y) S Q := by
  refine ⟨?_⟩
  intro e a w h Qr hQ
  refine wpIn_seq (sem_get hx h (compat_then hQ fun e' S' a' w' hR hS' => ?_))
  obtain ⟨i, hi, h3⟩ := hS'
  obtain ⟨e2, hR2⟩ := sub_get (sub_auto h3) hR
  have := hy i hi
  rw [forceAll_eq] at this
  exact xcode_ok hT y hR2 this hQ
/-- The ways through x meet again, where what is behind it is held. -/
theorem meetH {x y : Code} {Q : Exit → St → Prop} {ι : Type} (bs : ι → List Blk) (fr : ι → List (Nat × SV)) (H : ι → List (Nat × Blk)) (ok : ι → Prop) (_ : TabOk X.P X.T)
    (hx : semP X x S (then_ Q fun S' => ∃ j, ok j ∧ SubGo X S' ((((S.prune (liveAt X x)).prune (liveAt X y)).inv (writes x) (fr j) (H j)).news (bs j))))
    (hy : ∀ i, ok i → St.forceAll ((((S.prune (liveAt X x)).prune (liveAt X y)).inv (writes x) (fr i) (H i)).news (bs i)) fun S1 => semP X y S1 Q) : semP X x S (then_ Q fun S' => Hold (semP X y S' Q)) := by
  refine ⟨?_⟩
  intro e a w h Qr hQ
  refine sem_get hx h (fun ex e S' a w hR hS' => ?_)
  cases ex with
  | normal =>
    obtain ⟨i, hi, h3⟩ := hS'
    obtain ⟨e2, hR2⟩ := sub_get (sub_auto h3) hR
    have := hy i hi
    rw [forceAll_eq] at this
    exact hQ .normal e2 _ _ _ hR2 ⟨this⟩
  | exit id => exact hQ _ _ _ _ _ hR hS'
  | goto l => exact hQ _ _ _ _ _ hR hS'
  | _ => exact hQ _ _ _ _ _ hR hS'
/-- One more block: a row of nothing. -/
theorem sub_ghost (S : St) (ety esz : Nat) : Sub X S { S with H := (S.nx, .row ety esz 0 (.vs [])) :: S.H, nx := S.nx + 1 } := by
  refine ⟨?_⟩
  intro e a w h
  have hR := h.newRow (w' := w) (ety := ety) (esz := esz) (n := 0) (xs := .vs []) (v := .slice none 0 0) (fun c hc => by cases hc) rfl rfl rfl (Nat.le_refl _) (fun _ _ => rfl) ⟨rfl, fun c hc => (by cases hc), .inl ⟨none, rfl, rfl⟩⟩ (fun x hx => absurd hx (noRow_foot x))
  exact ⟨_, hR⟩
end
end Sy
end Go.Proofs.Ytbajgjbgkpcapaa
