/- Region: the plain law of Parts. -/
import Derived.Test.YthmcknchkecciaaRC
namespace Go.Proofs.Ythmcknchkecciaa
open Go Go.RowKit

def rootsL (g : List Opr) : List Nat := (List.range g.length).filter fun i => decide (regOf g i = i)
theorem allN_roots (g : List Opr) : allN g g.length = (rootsL g).map (ofL g) := rfl
theorem roots_nodup (g : List Opr) : (rootsL g).Nodup := List.Pairwise.filter _ List.nodup_range
theorem roots_mem {g : List Opr} {i : Nat} : i ∈ rootsL g ↔ i < g.length ∧ regOf g i = i := by
  unfold rootsL
  rw [List.mem_filter, List.mem_range, decide_eq_true_eq]
theorem ofL_memk {g : List Opr} {r : Nat} {z : Int} : z ∈ ofL g r ↔ ∃ k : Nat, z = (k : Int) ∧ k < g.length ∧ regOf g k = regOf g r := by
  rw [ofL_mem]
  constructor
  · rintro ⟨⟨h1, h2⟩, h3⟩
    exact ⟨z.toNat, by omega, by omega, h3⟩
  · rintro ⟨k, rfl, h2, h3⟩
    exact ⟨⟨by omega, by omega⟩, by rw [Int.toNat_natCast]; exact h3⟩
theorem ofL_nodup (g : List Opr) (r : Nat) : (ofL g r).Nodup := (ofL_strict g r).imp fun h => by omega
theorem ofL_root (g : List Opr) (i : Nat) : ofL g (regOf g i) = ofL g i := by
  unfold ofL
  rw [regOf_idem]
/-- Which operators have which row's number, after m rows and p of the next one. -/
def inAt (g : List Opr) (m p : Nat) (z : Int × Int) : Prop := ∃ k j : Nat, z = ((k : Int), (j : Int)) ∧ k < g.length ∧ (rootsL g)[j]? = some (regOf g k) ∧ (j < m ∨ (j = m ∧ (k : Int) ∈ (ofL g (regOf g k)).take p))
def InOk (g : List Opr) (m p : Nat) (es : List (Int × Int)) : Prop := (es.map Prod.fst).Nodup ∧ ∀ z, z ∈ es ↔ inAt g m p z
theorem in_zero (g : List Opr) : InOk g 0 0 [] := ⟨List.nodup_nil, fun z => ⟨fun h => (by cases h), fun ⟨k, j, _, _, _, h⟩ => by
  rcases h with h | h
  · omega
  · rw [List.take_zero] at h; cases h.2⟩⟩
theorem in_next {g : List Opr} {m : Nat} {r : Nat} {es : List (Int × Int)} (hr : (rootsL g)[m]? = some r) (h : InOk g m (ofL g r).length es) : InOk g (m + 1) 0 es := by
  refine ⟨h.1, fun z => (h.2 z).trans ⟨?_, ?_⟩⟩
  · rintro ⟨k, j, rfl, hk, hj, hc⟩
    refine ⟨k, j, rfl, hk, hj, .inl ?_⟩
    rcases hc with hc | hc <;> omega
  · rintro ⟨k, j, rfl, hk, hj, hc⟩
    refine ⟨k, j, rfl, hk, hj, ?_⟩
    rcases hc with hc | hc
    · rcases Nat.lt_or_ge j m with h1 | h1
      · exact .inl h1
      · have e : j = m := by omega
        refine .inr ⟨e, ?_⟩
        rw [e, hr] at hj
        have hj := Option.some.inj hj
        rw [← hj, List.take_length]
        rw [hj, ofL_root]
        exact ofL_memk.2 ⟨k, rfl, hk, rfl⟩
    · rw [List.take_zero] at hc; cases hc.2
theorem in_new {g : List Opr} {m p r : Nat} {x : Int} {es : List (Int × Int)} (hr : (rootsL g)[m]? = some r) (hx : (ofL g r)[p]? = some x) (h : InOk g m p es) : (∀ z ∈ es, z.1 ≠ x) ∧ InOk g m (p + 1) (es ++ [(x, (m : Int))]) := by
  obtain ⟨k, rfl, hk, hkr⟩ := ofL_memk.1 (List.mem_of_getElem? hx)
  have hrm := (roots_mem.1 (List.mem_of_getElem? hr)).2
  rw [hrm] at hkr
  have hno : ∀ z ∈ es, z.1 ≠ (k : Int) := fun z hz he => by
    obtain ⟨k', j, rfl, _, hj, hc⟩ := (h.2 z).1 hz
    have e : k' = k := by have : (k' : Int) = k := he; omega
    subst e
    rw [hkr] at hj hc
    have hjm : j = m := (List.getElem?_inj (List.getElem?_eq_some_iff.1 hj).1 (roots_nodup g)).1 (hj.trans hr.symm)
    rcases hc with hc | hc
    · omega
    · obtain ⟨q, hq⟩ := List.mem_iff_getElem?.1 hc.2
      have hqp : q < p := by
        have := (List.getElem?_eq_some_iff.1 hq).1
        rw [List.length_take] at this; omega
      rw [List.getElem?_take_of_lt hqp] at hq
      have := (List.getElem?_inj (List.getElem?_eq_some_iff.1 hq).1 (ofL_nodup g r)).1 (hq.trans hx.symm)
      omega
  refine ⟨hno, ?_, fun z => ?_⟩
  · rw [List.map_append]
    refine List.nodup_append.2 ⟨h.1, by simp, fun a ha b hb => ?_⟩
    obtain ⟨z, hz, rfl⟩ := List.mem_map.1 ha
    have hb : b = (k : Int) := by simpa using hb
    rw [hb]
    exact hno z hz
  · rw [List.mem_append, List.mem_singleton, h.2]
    have htk : (ofL g r).take (p + 1) = (ofL g r).take p ++ [(k : Int)] := by
      obtain ⟨hp, he⟩ := List.getElem?_eq_some_iff.1 hx
      rw [List.take_succ_eq_append_getElem hp, he]
    constructor
    · rintro (⟨k', j, rfl, hk', hj, hc⟩ | rfl)
      · refine ⟨k', j, rfl, hk', hj, hc.imp id fun hc => ⟨hc.1, ?_⟩⟩
        exact (List.take_prefix_take_left (Nat.le_succ p)).subset hc.2
      · refine ⟨k, m, rfl, hk, by rw [hr, hkr], .inr ⟨rfl, ?_⟩⟩
        rw [hkr, htk]
        simp
    · rintro ⟨k', j, rfl, hk', hj, hc⟩
      rcases hc with hc | ⟨hc, hm⟩
      · exact .inl ⟨k', j, rfl, hk', hj, .inl hc⟩
      · subst hc
        have e : regOf g k' = r := by rw [hr] at hj; exact (Option.some.inj hj).symm
        rw [e, htk, List.mem_append, List.mem_singleton] at hm
        rcases hm with hm | hm
        · exact .inl ⟨k', j, rfl, hk', hj, .inr ⟨rfl, by rw [e]; exact hm⟩⟩
        · right
          rw [hm]
theorem in_all {g : List Opr} {es : List (Int × Int)} (h : InOk g (rootsL g).length 0 es) : es.length = g.length ∧ ∀ k, k < g.length → ∃ j : Nat, ((k : Int), (j : Int)) ∈ es ∧ (rootsL g)[j]? = some (regOf g k) ∧ j < (rootsL g).length := by
  have hroot : ∀ k, k < g.length → regOf g k ∈ rootsL g := fun k hk => roots_mem.2 ⟨Nat.lt_of_le_of_lt (regOf_le g k) hk, regOf_idem g k⟩
  have hat : ∀ k, k < g.length → ∃ j : Nat, ((k : Int), (j : Int)) ∈ es ∧ (rootsL g)[j]? = some (regOf g k) ∧ j < (rootsL g).length := fun k hk => by
    obtain ⟨j, hj⟩ := List.mem_iff_getElem?.1 (hroot k hk)
    have hlt := (List.getElem?_eq_some_iff.1 hj).1
    exact ⟨j, (h.2 _).2 ⟨k, j, rfl, hk, hj, .inl hlt⟩, hj, hlt⟩
  refine ⟨?_, hat⟩
  have hp : (es.map Prod.fst).length = (natsTo g.length).length := by
    refine List.Perm.length_eq ((List.perm_ext_iff_of_nodup h.1 ?_).2 fun z => ?_)
    · exact List.Pairwise.map _ (R := fun a b : Nat => a ≠ b) (fun a b h => by omega) List.nodup_range
    · unfold natsTo
      rw [List.mem_map, List.mem_map]
      constructor
      · rintro ⟨y, hy, rfl⟩
        obtain ⟨k, j, rfl, hk, _⟩ := (h.2 y).1 hy
        exact ⟨k, List.mem_range.2 hk, rfl⟩
      · rintro ⟨k, hk, rfl⟩
        obtain ⟨j, hj, _⟩ := hat k (List.mem_range.1 hk)
        exact ⟨_, hj, rfl⟩
  rw [List.length_map, natsTo_len] at hp
  exact hp
theorem in_one {es : List (Int × Int)} (h : (es.map Prod.fst).Nodup) {x a b : Int} (ha : (x, a) ∈ es) (hb : (x, b) ∈ es) : a = b := by
  obtain ⟨i, hi⟩ := List.mem_iff_getElem?.1 ha
  obtain ⟨j, hj⟩ := List.mem_iff_getElem?.1 hb
  have h1 : (es.map Prod.fst)[i]? = some x := by rw [List.getElem?_map, hi]; rfl
  have h2 : (es.map Prod.fst)[j]? = some x := by rw [List.getElem?_map, hj]; rfl
  have := (List.getElem?_inj (List.getElem?_eq_some_iff.1 h1).1 h).1 (h1.trans h2.symm)
  subst this
  rw [hi] at hj
  exact congrArg Prod.snd (Option.some.inj hj)
theorem reg_edge {g : List Opr} {i : Nat} {o : Opr} {k : Int} (ho : g[i]? = some o) (hk : k ∈ o.ins) : regOf g k.toNat = regOf g i := by
  have hi := (List.getElem?_eq_some_iff.1 ho).1
  have : (i, k.toNat) ∈ edgesL g := by
    unfold edgesL edgeN
    refine List.mem_append.2 (.inl (List.mem_flatten.2 ⟨insE i (edgeN.insAt g i), List.mem_map.2 ⟨i, List.mem_range.2 hi, rfl⟩, ?_⟩))
    unfold insE edgeN.insAt
    rw [ho]
    exact List.mem_map.2 ⟨k, hk, rfl⟩
  exact (Firsts.all (edgesL g)).same _ _ (.symm (.edge this))
end Go.Proofs.Ythmcknchkecciaa
