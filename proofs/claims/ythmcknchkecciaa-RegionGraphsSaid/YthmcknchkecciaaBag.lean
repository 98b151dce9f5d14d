/- Rows of the call's own that are elements of a row of the call's own: they lie in a bag. -/
import Derived.Test.YthmcknchkecciaaSyH
namespace Go.Proofs.Ythmcknchkecciaa.Sy
open Go Go.RowKit
section
variable {X : Cx} {e : Env} {S : St} {a : Act} {w : World}
theorem sub_newbag (ety esz : Nat) : Sub X S (S.new (.bag ety esz [])) :=
  ⟨fun e a w h => ⟨e, by
    have hs := h.step (k0 := S.nx) (b0 := .bag ety esz []) (nx' := S.nx + 1) (Env.same.refl _ _) rfl (Nat.le_succ _) (Nat.lt_succ_self _) trivial rfl rfl rfl (Nat.le_refl _) (fun _ _ => rfl) h.one ⟨fun x hx => (by cases hx), List.Pairwise.nil⟩ (fun x ⟨y, hy, _⟩ => (by cases hy))
    cases S; exact hs⟩⟩
theorem subx_newbag (ety esz : Nat) : SubX X S (S.new (.bag ety esz [])) :=
  ⟨fun e a w h => ⟨e, Env.same.refl _ _, by
    have hs := h.step (k0 := S.nx) (b0 := .bag ety esz []) (nx' := S.nx + 1) (Env.same.refl _ _) rfl (Nat.le_succ _) (Nat.lt_succ_self _) trivial rfl rfl rfl (Nat.le_refl _) (fun _ _ => rfl) h.one ⟨fun x hx => (by cases hx), List.Pairwise.nil⟩ (fun x ⟨y, hy, _⟩ => (by cases hy))
    cases S; exact hs⟩⟩
theorem sub_dropbag (kb ety esz : Nat) (l l' : List (Value × Nat × List (List Value))) (hk : get S.H kb = some (.bag ety esz l)) (hl : l'.Sublist l) : Sub X S (S.setH kb (.bag ety esz l')) :=
  ⟨fun e a w h => ⟨e, by
    have hh := h.hp kb _ hk
    exact h.setSame hk trivial (fun x ⟨y, hy, hx⟩ => ⟨y, hl.subset hy, hx⟩) ⟨fun x hx => hh.1 x (hl.subset hx), hh.2.sublist hl⟩⟩⟩
/-- What is known of a bag's slices. -/
theorem bag_reads (h : Rep X e S a w) {kb ety esz : Nat} {l : List (Value × Nat × List (List Value))} (hk : get S.H kb = some (.bag ety esz l)) {y : Value × Nat × List (List Value)} (hy : y ∈ l) : OwnE w ety esz y.1 y.2.1 y.2.2 := (h.hp kb _ hk).1 y hy

def St.bagged (S : St) (k j kb ty sz m ety esz : Nat) (xs : List (List Value)) (l : List (Value × Nat × List (List Value))) : St := match S with
  | ⟨fr, H, nx, F, E, g⟩ => ⟨fr, (j, .row ty sz m (.vs xs)) :: (kb, .bag ety esz l) :: (k, .dead) :: H, nx, F, E, g⟩
theorem pairwise_snoc {α : Type} {R : α → α → Prop} : ∀ {l : List α} {x : α}, l.Pairwise R → (∀ y ∈ l, R y x) → (l ++ [x]).Pairwise R := fun h hx =>
  List.pairwise_append.2 ⟨h, List.pairwise_singleton _ _, fun y hy z hz => by rw [List.mem_singleton.1 hz]; exact hx y hy⟩
/-- Row k goes into the bag; row j, whose elements name it, names a value. -/
theorem end_bag {K : St → Prop} (k j kb : Nat) {ety esz n ty sz m : Nat} {xs : List (List Value)} {ys : Els} {l : List (Value × Nat × List (List Value))} (ls : Value → List (List Value)) (hkj : k ≠ j) (hkb : k ≠ kb) (hjb : kb ≠ j)
    (hk : get S.H k = some (.row ety esz n (.vs xs))) (hj : get S.H j = some (.row ty sz m ys)) (hb : get S.H kb = some (.bag ety esz l)) (hden : ∀ e : Env, ys.den e = ls (e.rv k))
    (hc : ∀ u : Value, u.oneCell' = true → St.forceAll (S.bagged k j kb ty sz m ety esz (ls u) (l ++ [(u, n, xs)])) fun S' => endP X S' K) : endP X S K := by
  refine ⟨fun e a w h => ?_⟩
  have hh := h.hp k _ hk
  have hown : OwnE w ety esz (e.rv k) n xs := hh.1
  have hj2 := h.hp j _ hj
  have hb2 := h.hp kb _ hb
  have hc := hc (e.rv k) (h.one k)
  rw [forceAll_eq] at hc
  have hkill := h.kill k (h.hlt k _ hk).1
  have hbag := hkill.step (k0 := kb) (b0 := .bag ety esz (l ++ [(e.rv k, n, xs)])) (nx' := (S.setH k .dead).nx) (Env.same.refl _ _) rfl (Nat.le_refl _) (h.hlt kb _ hb).1 trivial rfl rfl rfl (Nat.le_refl _) (fun _ _ => rfl) h.one
    ⟨fun x hx => ?_, pairwise_snoc hb2.2 fun y hy b hyb hkb' => h.sep kb k _ _ b hb hk (Ne.symm hkb) ⟨y, hy, hyb⟩ hkb'⟩ (fun x hx => ?_)
  · have hd : OwnE w ty sz (e.rv j) m (ls (e.rv k)) := by rw [← hden e]; exact hj2.1
    cases S with
    | mk fr H nx F E g =>
      have hset := hbag.setSame (k := j) (b := .row ty sz m ys) (b0 := .row ty sz m (.vs (ls (e.rv k)))) (by show get ((kb, _) :: (k, Blk.dead) :: H) j = _; rw [get_other hjb, get_other hkj]; exact hj) hd.els_one (fun x hx => hx) ⟨hd, hj2.2⟩
      exact hc.out e a w hset
  · rcases List.mem_append.1 hx with hx | hx
    · exact hb2.1 x hx
    · rw [List.mem_singleton.1 hx]; exact hown
  · obtain ⟨y, hy, hyx⟩ := hx
    have hget : ∀ k' c, get (S.setH k .dead).H k' = some c → k' ≠ kb → c.foot e k' x → False := fun k' c hk' hne hf => by
      rcases get_cons hk' with ⟨e1, e2⟩ | ⟨hne2, hk2⟩
      · subst e2; exact hf.elim
      · rcases List.mem_append.1 hy with hy | hy
        · exact h.sep kb k' _ c x hb hk2 (Ne.symm hne) ⟨y, hy, hyx⟩ hf
        · rw [List.mem_singleton.1 hy] at hyx
          exact h.sep k k' _ c x hk hk2 hne2 hyx hf
    rintro (hF | ⟨k', c, hk', hne, hf⟩ | hG)
    · rcases List.mem_append.1 hy with hy | hy
      · exact h.ff kb _ x hb ⟨y, hy, hyx⟩ hF
      · rw [List.mem_singleton.1 hy] at hyx
        exact h.ff k _ x hk hyx hF
    · exact hget k' c hk' hne hf
    · rcases List.mem_append.1 hy with hy | hy
      · exact (h.mks x hG).2.2 kb _ hb ⟨y, hy, hyx⟩
      · rw [List.mem_singleton.1 hy] at hyx
        exact (h.mks x hG).2.2 k _ hk hyx
def St.unbag (S : St) (j kb ty sz m ety esz n : Nat) (ys : Els) (xs : List (List Value)) (l : List (Value × Nat × List (List Value))) : St := match S with
  | ⟨fr, H, nx, F, E, g⟩ => ⟨fr, (j, .row ty sz m ys) :: (nx, .row ety esz n (.vs xs)) :: (kb, .bag ety esz l) :: H, nx + 1, F, E, g⟩
theorem Rep.unbag (h : Rep X e S a w) {j kb ty sz m ety esz n : Nat} {u : Value} {xs : List (List Value)} {ls : Els} {ys : Els} {l : List (Value × Nat × List (List Value))} (hj : get S.H j = some (.row ty sz m ls)) (hb : get S.H kb = some (.bag ety esz ((u, n, xs) :: l)))
    (hden : ∀ e' : Env, Env.same S.nx e e' → e'.rv S.nx = u → ys.den e' = ls.den e) (hlt : ls.lt S.nx → ys.lt (S.nx + 1)) :
    Rep X (e.withRow S.nx u esz) (S.unbag j kb ty sz m ety esz n ys xs l) a w := by
  have hb2 := h.hp kb _ hb
  have hown : OwnE w ety esz u n xs := hb2.1 _ List.mem_cons_self
  have hpw := List.pairwise_cons.1 hb2.2
  have h1 := h.setSame (k := kb) (b0 := .bag ety esz l) hb trivial (fun x ⟨y, hy, hx⟩ => ⟨y, List.mem_cons_of_mem _ hy, hx⟩) ⟨fun x hx => hb2.1 x (List.mem_cons_of_mem _ hx), hpw.2⟩
  have h2 := h1.newRow (w' := w) (ety := ety) (esz := esz) (n := n) (xs := .vs xs) (v := u) hown.els_one rfl rfl rfl (Nat.le_refl _) (fun _ _ => rfl) hown (fun x hx hk => ?_)
  · have hjl := h.hlt j _ hj
    have hj2 := h.hp j _ hj
    have hs : Env.same S.nx e (e.withRow S.nx u esz) := Env.withRow_same e S.nx u esz
    cases S with
    | mk fr H nx F E g =>
      by_cases hjb : j = kb
      · subst hjb; rw [hj] at hb; cases hb
      · have hget : get ((nx, Blk.row ety esz n (.vs xs)) :: (kb, Blk.bag ety esz l) :: H) j = some (.row ty sz m ls) := by rw [get_other (Ne.symm (Nat.ne_of_lt hjl.1)), get_other (Ne.symm hjb)]; exact hj
        have hh := h2.hp j _ hget
        refine h2.setSame (k := j) (b := .row ty sz m ls) (b0 := .row ty sz m ys) hget (hlt hjl.2) (fun x hx => hx) ⟨?_, hh.2⟩
        show OwnE w ty sz ((e.withRow nx u esz).rv j) m (ys.den (e.withRow nx u esz))
        rw [hden _ hs (Env.withRow_rv _ _ _ _)]
        have := hh.1
        exact (congrArg (OwnE w ty sz ((e.withRow nx u esz).rv j) m) (Els.den_same hs hjl.2)).mp this
  · rcases hk with hF | ⟨k', c, hk', hne, hf⟩ | hG
    · exact h.ff kb _ x hb ⟨_, List.mem_cons_self, hx⟩ hF
    · rcases get_cons hk' with ⟨e1, e2⟩ | ⟨hne2, hk2⟩
      · subst e2
        obtain ⟨y, hy, hyx⟩ := hf
        exact hpw.1 y hy x hx hyx
      · exact h.sep kb k' _ c x hb hk2 hne2 ⟨_, List.mem_cons_self, hx⟩ hf
    · exact (h.mks x hG).2.2 kb _ hb ⟨_, List.mem_cons_self, hx⟩
/-- A slice is read that lies in a bag: it becomes a row, which row j's elements name. -/
theorem open_bag {K : St → SV → Prop} (j kb : Nat) {ty sz m ety esz n : Nat} {u : Value} {xs : List (List Value)} {ls : Els} (ys : Els) {l : List (Value × Nat × List (List Value))} (hj : get S.H j = some (.row ty sz m ls)) (hb : get S.H kb = some (.bag ety esz ((u, n, xs) :: l)))
    (hden : ∀ e e' : Env, Env.same S.nx e e' → e'.rv S.nx = u → ys.den e' = ls.den e) (hlt : ls.lt S.nx → ys.lt (S.nx + 1)) (h : St.forceAll (S.unbag j kb ty sz m ety esz n ys xs l) fun S' => K S' (.c (.row S.nx))) : openP X S u K := by
  rw [forceAll_eq] at h
  refine open_as _ (.c (.row S.nx)) ?_ (fun e a w hR => ⟨_, hR.unbag hj hb (hden e) hlt, ?_⟩) h
  · cases S; exact blt_iff.2 (Nat.lt_succ_self _)
  · simp only [SV.den, C.den, Env.withRow_rv]
/-- Row k is of no use any more; row j, whose elements name it, names a value. -/
theorem end_drop {K : St → Prop} (k j : Nat) {ety esz n ty sz m : Nat} {xs : Els} {ys : Els} (ls : Value → List (List Value)) (hkj : k ≠ j)
    (hk : get S.H k = some (.row ety esz n xs)) (hj : get S.H j = some (.row ty sz m ys)) (hden : ∀ e : Env, ys.den e = ls (e.rv k))
    (hc : ∀ u : Value, u.oneCell' = true → St.forceAll (S.frozR k j ty sz m (ls u) S.F S.E) fun S' => endP X S' K) : endP X S K := by
  refine ⟨fun e a w h => ?_⟩
  have hj2 := h.hp j _ hj
  have hc := hc (e.rv k) (h.one k)
  rw [forceAll_eq] at hc
  have hkill := h.kill k (h.hlt k _ hk).1
  have hd : OwnE w ty sz (e.rv j) m (ls (e.rv k)) := by rw [← hden e]; exact hj2.1
  cases S with
  | mk fr H nx F E g =>
    have hset := hkill.setSame (k := j) (b := .row ty sz m ys) (b0 := .row ty sz m (.vs (ls (e.rv k)))) (by show get ((k, Blk.dead) :: H) j = _; rw [get_other hkj]; exact hj) hd.els_one (fun x hx => hx) ⟨hd, hj2.2⟩
    exact hc.out e a w hset
end
end Go.Proofs.Ythmcknchkecciaa.Sy
