/- A row becomes known memory; what is known stands behind two variables. -/
import Derived.Test.YthmcknchkecciaaEnc
import Derived.Test.YthmcknchkecciaaSyG
namespace Go.Proofs.Ythmcknchkecciaa
namespace Sy
open Go Go.RowKit
variable {X : Cx} {S : St}
theorem freezeF {c : Code} {Q : Exit → St → Prop} (t k ety esz n : Nat) (xs : List (List Value)) (ht : get S.fr t = some (.c (.row k))) (hH : get S.H k = some (.row ety esz n (.vs xs))) (hone : ∀ c ∈ xs, ∀ u ∈ c, u.oneCell' = true)
    (hc : ∀ (u : Value) (F : Nat → Prop) (E : World → Prop), (∀ b, S.F b → F b) → (∀ w, E w → S.E w ∧ XD.ok F w ⟨u, esz, n, xs⟩) → u.oneCell' = true → St.forceAll (S.frozen k t u F E) fun S' => semP X c S' Q) : semP X c S Q :=
  freeze t k ety esz n xs ht hH fun u _ _ ho => hc u _ _ (fun _ h => .inl h) (fun _ h => ⟨h.1, h.2.1.keep (fun _ hb => .inr hb) (fun _ _ => rfl), hone⟩) ho
theorem ints_one {l : List Int} : ∀ c ∈ l.map encI, ∀ u ∈ c, u.oneCell' = true := by
  intro c hc u hu
  obtain ⟨x, _, rfl⟩ := List.mem_map.1 hc
  cases List.mem_singleton.1 hu
  rfl
end Sy
end Go.Proofs.Ythmcknchkecciaa
