/- Plan: the plain laws of One and Groups. -/
import Derived.Test.YtcjiaiojkciheaaPV
import Derived.Test.YtcjiaiojkciheaaPK
import Derived.Test.YtcjiaiojkciheaaPL
namespace Go.Proofs.Ytcjiaiojkciheaa
open Go Go.RowKit

theorem subs_inj {g : List Opr} {i j : Nat} {s : Nat × Nat} (hi : (subsL g)[i]? = some s) (hj : (subsL g)[j]? = some s) : i = j := by
  have hp := List.pairwise_iff_getElem.1 (subsL_sorted g)
  obtain ⟨h1, e1⟩ := List.getElem?_eq_some_iff.1 hi
  obtain ⟨h2, e2⟩ := List.getElem?_eq_some_iff.1 hj
  rcases Nat.lt_trichotomy i j with h | h | h
  · have := hp i j h1 h2 h
    rw [e1, e2] at this; omega
  · exact h
  · have := hp j i h2 h1 h
    rw [e1, e2] at this; omega
theorem bit_own {g : List Opr} (hg : goodTo g g.length) {i j : Nat} {a b : Nat × Nat} {gr : Nat} (hgr : gr < 8) (ha : (subsL g)[i]? = some a) (hb : (subsL g)[j]? = some b) : bitB g (subsL g) gr (i, j) = (ownB (widN g a.1) a.2 gr && ownB (widN g b.1) b.2 gr) := by
  have wa := small_at hg ha
  have wb := small_at hg hb
  rw [bitB_of g gr ha hb, Bool.eq_iff_iff, beq_iff_eq]
  exact both_bit _ (by omega) _ (by omega) _ (by omega) _ (by omega) gr hgr
/-- Who has a record's group. -/
theorem has_at {g : List Opr} (h0 : (checkV g).2 = 0) {n : Nat} {a : Nat × Nat} {s k : Int} (ha : (subsL g)[n]? = some a) (hk : recOk s k) : hasE g n s k = 0 ∧ hasB g n s k = ownB (widN g a.1) a.2 (k.toNat % 8) := by
  have hlt := (List.getElem?_eq_some_iff.1 ha).1
  have hsE : subE g n = 0 := by unfold subE; rw [if_neg (by omega)]
  have hsV : subV g n = a := by unfold subV; rw [if_pos hsE, Int.toNat_natCast, ha]; rfl
  have hE : hasE g n s k = 0 := by unfold hasE hasE0; rw [if_pos h0, if_pos hsE]; exact recE_ok hk
  exact ⟨hE, by unfold hasB; rw [hE, hsV]; rfl⟩
/-- The owners come one operator after another. -/
theorem ownAt_lt {g : List Opr} (hg : goodTo g g.length) {i j gr : Nat} (hj : j < g.length) (hij : i < j) (hgr : gr < 8) : ownAt g i gr < ownAt g j gr := by
  have hp := List.pairwise_iff_getElem.1 (subsL_sorted g)
  obtain ⟨h1, e1⟩ := List.getElem?_eq_some_iff.1 (ownAt_get hg (show i < g.length by omega) hgr)
  obtain ⟨h2, e2⟩ := List.getElem?_eq_some_iff.1 (ownAt_get hg hj hgr)
  rcases Nat.lt_trichotomy (ownAt g i gr) (ownAt g j gr) with h | h | h
  · exact h
  · have : (subsL g)[ownAt g i gr] = (subsL g)[ownAt g j gr] := by congr 1
    rw [e1, e2] at this
    have := congrArg Prod.fst this
    dsimp only at this; omega
  · have := hp _ _ h2 h1 h
    rw [e1, e2] at this
    dsimp only at this; omega
theorem own_is {g : List Opr} {n gr : Nat} {a : Nat × Nat} (hg : goodTo g g.length) (hgr : gr < 8) (ha : (subsL g)[n]? = some a) (ho : ownB (widN g a.1) a.2 gr = true) : n = ownAt g a.1 gr := by
  have h1 := ownAt_get hg (small_at hg ha).1 hgr
  rw [← own_uniq ho] at h1
  exact subs_inj ha h1
theorem own_not {g : List Opr} {n gr i : Nat} {a : Nat × Nat} (hg : goodTo g g.length) (hgr : gr < 8) (ha : (subsL g)[n]? = some a) (ho : ownB (widN g a.1) a.2 gr = false) (hi : i < g.length) : ownAt g i gr ≠ n := fun h => by
  have h1 := ownAt_get hg hi hgr
  rw [h, ha] at h1
  have h1 := Option.some.inj h1
  rw [h1] at ho
  rw [show ownB (widN g i) (i, gr * widN g i / 8).2 gr = true from own_at _ _] at ho
  cases ho
/-- How many owners are ahead of n: m, one for each operator. -/
def OwnTo (g : List Opr) (gr n m : Nat) : Prop := m ≤ g.length ∧ (∀ i, i < m → ownAt g i gr < n) ∧ ∀ i, m ≤ i → i < g.length → n ≤ ownAt g i gr
theorem ownTo_zero (g : List Opr) (gr : Nat) : OwnTo g gr 0 0 := ⟨Nat.zero_le _, fun i hi => by omega, fun i _ _ => Nat.zero_le _⟩
theorem ownTo_own {g : List Opr} (hg : goodTo g g.length) {gr n m : Nat} {a : Nat × Nat} (hgr : gr < 8) (h : OwnTo g gr n m) (ha : (subsL g)[n]? = some a) (ho : ownB (widN g a.1) a.2 gr = true) : a.1 = m ∧ OwnTo g gr (n + 1) (m + 1) := by
  obtain ⟨h1, h2, h3⟩ := h
  have hn := own_is hg hgr ha ho
  have hal := (small_at hg ha).1
  have e : a.1 = m := by
    rcases Nat.lt_trichotomy a.1 m with h | h | h
    · have := h2 _ h; omega
    · exact h
    · have := ownAt_lt hg hal h hgr
      have := h3 m (Nat.le_refl _) (by omega)
      omega
  refine ⟨e, by omega, fun i hi => ?_, fun i hi hl => ?_⟩
  · rcases Nat.lt_or_ge i m with h | h
    · have := h2 i h; omega
    · rw [show i = a.1 by omega]; omega
  · have := ownAt_lt hg hl (show a.1 < i by omega) hgr
    omega
theorem ownTo_not {g : List Opr} (hg : goodTo g g.length) {gr n m : Nat} {a : Nat × Nat} (hgr : gr < 8) (h : OwnTo g gr n m) (ha : (subsL g)[n]? = some a) (ho : ownB (widN g a.1) a.2 gr = false) : OwnTo g gr (n + 1) m := by
  obtain ⟨h1, h2, h3⟩ := h
  refine ⟨h1, fun i hi => by have := h2 i hi; omega, fun i hi hl => ?_⟩
  have := h3 i hi hl
  have := own_not hg hgr ha ho hl
  omega
theorem ownTo_all {g : List Opr} (hg : goodTo g g.length) {gr m : Nat} (hgr : gr < 8) (h : OwnTo g gr (subsL g).length m) : m = g.length := by
  obtain ⟨h1, h2, h3⟩ := h
  refine Classical.byContradiction fun hn => ?_
  have := h3 m (Nat.le_refl _) (by omega)
  have := (List.getElem?_eq_some_iff.1 (ownAt_get hg (show m < g.length by omega) hgr)).1
  omega
def onesL (m : Nat) : List (Int × Int) := (List.range m).map fun i : Nat => ((i : Int), (1 : Int))
theorem onesL_succ (m : Nat) : onesL (m + 1) = onesL m ++ [((m : Int), 1)] := by unfold onesL; rw [List.range_succ, List.map_append]; rfl
theorem onesL_fst (m : Nat) : (onesL m).map Prod.fst = (List.range m).map fun i : Nat => (i : Int) := by unfold onesL; rw [List.map_map]; rfl
theorem onesL_nodup (m : Nat) : ((onesL m).map Prod.fst).Nodup := by
  rw [onesL_fst]
  exact List.Pairwise.map _ (R := fun a b : Nat => a ≠ b) (fun a b h => by omega) List.nodup_range
theorem onesL_miss (m : Nat) : ∀ z ∈ onesL m, z.1 ≠ (m : Int) := fun z hz => by
  obtain ⟨i, hi, rfl⟩ := List.mem_map.1 hz
  have := List.mem_range.1 hi
  dsimp only; omega
theorem onesL_hit {m i : Nat} (h : i < m) : ((i : Int), (1 : Int)) ∈ onesL m := List.mem_map.2 ⟨i, List.mem_range.2 h, rfl⟩
/-- The operators at a channel's ends. -/
def opTo (g : List Opr) (c : Int) : Int := match (chansL g)[c.toNat]? with
  | some d => (match (subsL g)[d.2]? with
    | some b => (b.1 : Int)
    | none => 0)
  | none => 0
def opFrom (g : List Opr) (c : Int) : Int := match (chansL g)[c.toNat]? with
  | some d => (match (subsL g)[d.1]? with
    | some b => (b.1 : Int)
    | none => 0)
  | none => 0
theorem opTo_at {g : List Opr} {i : Nat} {d b : Nat × Nat} (hd : (chansL g)[i]? = some d) (hb : (subsL g)[d.2]? = some b) : opTo g i = b.1 := by unfold opTo; rw [Int.toNat_natCast, hd]; dsimp only; rw [hb]
theorem opFrom_at {g : List Opr} {i : Nat} {d b : Nat × Nat} (hd : (chansL g)[i]? = some d) (hb : (subsL g)[d.1]? = some b) : opFrom g i = b.1 := by unfold opFrom; rw [Int.toNat_natCast, hd]; dsimp only; rw [hb]
theorem chan_at {g : List Opr} {i : Nat} {d : Nat × Nat} (hd : (chansL g)[i]? = some d) : ∃ a b, (subsL g)[d.1]? = some a ∧ (subsL g)[d.2]? = some b ∧ linkB g a b = true := link_at (chansL_mem (List.mem_of_getElem? hd)).2.2
theorem chans_lt {g : List Opr} {i j : Nat} {d e : Nat × Nat} (hd : (chansL g)[i]? = some d) (he : (chansL g)[j]? = some e) (h : i < j) : d.1 < e.1 ∨ d.1 = e.1 ∧ d.2 < e.2 := by
  obtain ⟨h1, e1⟩ := List.getElem?_eq_some_iff.1 hd
  obtain ⟨h2, e2⟩ := List.getElem?_eq_some_iff.1 he
  have := List.pairwise_iff_getElem.1 (chansL_sorted g) i j h1 h2 h
  rwa [e1, e2] at this
/-- By just one channel to each that reads. -/
theorem one_at {g : List Opr} (hg : goodTo g g.length) {n gr : Nat} {a : Nat × Nat} (hgr : gr < 8) (ha : (subsL g)[n]? = some a) {c : Int} (hc : c ∈ pick (viaB g (subsL g) n gr) (chansL g)) : ∃ (i : Nat) (d b : Nat × Nat), c = (i : Int) ∧ (chansL g)[i]? = some d ∧ d.1 = n ∧ (subsL g)[d.2]? = some b ∧ linkB g a b = true ∧ ownB (widN g b.1) b.2 gr = true ∧ opTo g c = b.1 := by
  obtain ⟨i, d, rfl, hd, hp⟩ := pick_mem.1 hc
  unfold viaB at hp
  obtain ⟨hp1, hp2⟩ := Bool.and_eq_true_iff.1 hp
  have hp1 := of_decide_eq_true hp1
  obtain ⟨a', b, ha', hb, hl⟩ := chan_at hd
  have hdn : d.1 = n := by omega
  have hbo := bit_own hg hgr ha' hb
  rw [show (d.1, d.2) = d from rfl, hp2] at hbo
  rw [hdn, ha] at ha'
  rw [Option.some.inj ha']
  exact ⟨i, d, b, rfl, hd, hdn, hb, hl, (Bool.and_eq_true_iff.1 hbo.symm).2, opTo_at hd hb⟩
theorem one_route {g : List Opr} (hg : goodTo g g.length) {n gr : Nat} {a : Nat × Nat} (hgr : gr < 8) (ha : (subsL g)[n]? = some a) (ho : ownB (widN g a.1) a.2 gr = true) : ((pick (viaB g (subsL g) n gr) (chansL g)).map (opTo g)).Nodup ∧ ∀ z, z ∈ (pick (viaB g (subsL g) n gr) (chansL g)).map (opTo g) ↔ z ∈ rdrs g a.1 := by
  constructor
  · refine List.pairwise_map.2 ((pick_sorted _ _).imp_of_mem fun {c c'} hc hc' hlt => ?_)
    obtain ⟨i, d, b, rfl, hd, hdn, hb, _, hbo, hop⟩ := one_at hg hgr ha hc
    obtain ⟨i', d', b', rfl, hd', hdn', hb', _, hbo', hop'⟩ := one_at hg hgr ha hc'
    rw [hop, hop']
    intro he
    have h1 := chans_lt hd hd' (by omega)
    have e1 : b.1 = b'.1 := by omega
    have e2 : b = b' := Prod.ext e1 (by rw [own_uniq hbo, own_uniq hbo', e1])
    rw [e2] at hb
    have := subs_inj hb hb'
    omega
  · intro z
    rw [List.mem_map]
    constructor
    · rintro ⟨c, hc, rfl⟩
      obtain ⟨i, d, b, rfl, hd, hdn, hb, hl, hbo, hop⟩ := one_at hg hgr ha hc
      rw [hop]
      have hr := link_reads hl
      have hbl := (small_at hg hb).1
      exact rdrs_mem.2 ⟨b.1, g[b.1], rfl, List.getElem?_eq_getElem hbl, (reads_iff (List.getElem?_eq_getElem hbl)).1 hr⟩
    · intro hz
      obtain ⟨K, o, rfl, hK, hin⟩ := rdrs_mem.1 hz
      have hKl := (List.getElem?_eq_some_iff.1 hK).1
      have hat := ownAt_get hg hKl hgr
      have hsa := small_at hg hat
      have hsm := small_at hg ha
      have hl := link_of (g := g) (a := a) (b := (K, gr * widN g K / 8)) (n := gr) (by omega) (by omega) hgr ho (own_at _ _) ((reads_iff hK).2 hin)
      have hm : (n, ownAt g K gr) ∈ chansL g := chans_mem_iff.2 ⟨(List.getElem?_eq_some_iff.1 ha).1, (List.getElem?_eq_some_iff.1 hat).1, by rw [linkAt_iff ha hat]; exact hl⟩
      obtain ⟨j, hj⟩ := List.mem_iff_getElem?.1 hm
      refine ⟨(j : Int), pick_mem.2 ⟨j, _, rfl, hj, ?_⟩, opTo_at hj hat⟩
      unfold viaB
      rw [decide_eq_true rfl, bit_own hg hgr ha hat, ho]
      exact own_at _ _
/-- The channels that come: whose beginnings have a group. -/
def ownF (g : List Opr) (gr : Nat) (c : Int) : Bool := match (chansL g)[c.toNat]? with
  | some d => (match (subsL g)[d.1]? with
    | some a => ownB (widN g a.1) a.2 gr
    | none => false)
  | none => false
theorem in_at {g : List Opr} {n : Nat} {b : Nat × Nat} {gr : Nat} (hb : (subsL g)[n]? = some b) {c : Int} (hc : c ∈ pick (fun c => decide ((c.2 : Int) = n)) (chansL g)) : ∃ (i : Nat) (d a : Nat × Nat), c = (i : Int) ∧ (chansL g)[i]? = some d ∧ d.2 = n ∧ (subsL g)[d.1]? = some a ∧ linkB g a b = true ∧ ownF g gr c = ownB (widN g a.1) a.2 gr ∧ opFrom g c = a.1 := by
  obtain ⟨i, d, rfl, hd, hp⟩ := pick_mem.1 hc
  have hp := of_decide_eq_true hp
  obtain ⟨a, b', ha, hb', hl⟩ := chan_at hd
  have hdn : d.2 = n := by omega
  rw [hdn, hb] at hb'
  rw [← Option.some.inj hb'] at hl
  exact ⟨i, d, a, rfl, hd, hdn, ha, hl, by unfold ownF; rw [Int.toNat_natCast, hd]; dsimp only; rw [ha], opFrom_at hd ha⟩
def selL (g : List Opr) (n gr m : Nat) : List Int := (((pick (fun c => decide ((c.2 : Int) = n)) (chansL g)).take m).filter (ownF g gr)).map (opFrom g)
theorem selL_succ {g : List Opr} {n gr m : Nat} {c : Int} (h : (pick (fun c => decide ((c.2 : Int) = n)) (chansL g))[m]? = some c) : selL g n gr (m + 1) = selL g n gr m ++ (if ownF g gr c = true then [opFrom g c] else []) := by
  obtain ⟨hm, he⟩ := List.getElem?_eq_some_iff.1 h
  unfold selL
  rw [List.take_succ_eq_append_getElem hm, he, List.filter_append, List.map_append]
  congr 1
  by_cases ho : ownF g gr c = true
  · rw [if_pos ho, List.filter_cons, if_pos ho]; rfl
  · rw [if_neg ho, List.filter_cons, if_neg ho]; rfl
theorem sel_all {g : List Opr} (_ : goodTo g g.length) {n gr : Nat} {b : Nat × Nat} (_ : gr < 8) (hb : (subsL g)[n]? = some b) : (((pick (fun c => decide ((c.2 : Int) = n)) (chansL g)).filter (ownF g gr)).map (opFrom g)).Nodup := by
  refine List.pairwise_map.2 ((List.Pairwise.filter _ (pick_sorted _ _)).imp_of_mem fun {c c'} hc hc' hlt => ?_)
  obtain ⟨hc, hcf⟩ := List.mem_filter.1 hc
  obtain ⟨hc', hcf'⟩ := List.mem_filter.1 hc'
  obtain ⟨i, d, a, rfl, hd, hdn, ha, _, hao, hop⟩ := in_at (gr := gr) hb hc
  obtain ⟨i', d', a', rfl, hd', hdn', ha', _, hao', hop'⟩ := in_at (gr := gr) hb hc'
  rw [hop, hop']
  intro he
  have h1 := chans_lt hd hd' (by omega)
  have e1 : a.1 = a'.1 := by omega
  rw [hao] at hcf
  rw [hao'] at hcf'
  have e2 : a = a' := Prod.ext e1 (by rw [own_uniq hcf, own_uniq hcf', e1])
  rw [e2] at ha
  have := subs_inj ha ha'
  omega
theorem selL_nodup {g : List Opr} (hg : goodTo g g.length) {n gr : Nat} {b : Nat × Nat} (hgr : gr < 8) (hb : (subsL g)[n]? = some b) (m : Nat) : (selL g n gr m).Nodup := by
  unfold selL
  exact (sel_all hg hgr hb).sublist (List.Sublist.map _ (List.Sublist.filter _ (List.take_sublist m _)))
theorem selL_mem {g : List Opr} (hg : goodTo g g.length) {n gr : Nat} {b : Nat × Nat} {o : Opr} (hgr : gr < 8) (hb : (subsL g)[n]? = some b) (ho : ownB (widN g b.1) b.2 gr = true) (hbo : g[b.1]? = some o) {z : Int} (hz : z ∈ o.ins) : z ∈ selL g n gr (pick (fun c => decide ((c.2 : Int) = n)) (chansL g)).length := by
  have hbl := (List.getElem?_eq_some_iff.1 hbo).1
  have hzi := alone_ins (hg b.1 o hbl hbo) z hz
  obtain ⟨K, rfl⟩ : ∃ K : Nat, z = (K : Int) := ⟨z.toNat, by omega⟩
  have hK : K < g.length := by omega
  have hat := ownAt_get hg hK hgr
  have hsa := small_at hg hat
  have hsm := small_at hg hb
  have hl := link_of (g := g) (a := (K, gr * widN g K / 8)) (b := b) (n := gr) (by omega) (by omega) hgr (own_at _ _) ho ((reads_iff hbo).2 hz)
  have hm : (ownAt g K gr, n) ∈ chansL g := chans_mem_iff.2 ⟨(List.getElem?_eq_some_iff.1 hat).1, (List.getElem?_eq_some_iff.1 hb).1, by rw [linkAt_iff hat hb]; exact hl⟩
  obtain ⟨j, hj⟩ := List.mem_iff_getElem?.1 hm
  unfold selL
  rw [List.take_length]
  refine List.mem_map.2 ⟨(j : Int), List.mem_filter.2 ⟨pick_mem.2 ⟨j, _, rfl, hj, decide_eq_true rfl⟩, ?_⟩, opFrom_at hj hat⟩
  unfold ownF
  rw [Int.toNat_natCast, hj]
  dsimp only
  rw [hat]
  exact own_at _ _
theorem rdrs_nodup (g : List Opr) (i : Int) : (rdrs g i).Nodup := by
  unfold rdrs rdN
  exact List.Pairwise.map _ (R := fun a b : Nat => a ≠ b) (fun a b h => by omega) (List.Pairwise.filter _ List.nodup_range)
theorem take_fresh {A : List Int} {m : Nat} {x : Int} (hn : A.Nodup) (h : A[m]? = some x) : x ∉ A.take m := fun hx => by
  obtain ⟨j, hj⟩ := List.mem_iff_getElem?.1 hx
  have hjm : j < m := by
    have := (List.getElem?_eq_some_iff.1 hj).1
    rw [List.length_take] at this; omega
  rw [List.getElem?_take_of_lt hjm] at hj
  have hlt := (List.getElem?_eq_some_iff.1 hj).1
  have := (List.getElem?_inj hlt hn).1 (hj.trans h.symm)
  omega
theorem take_snoc {A : List Int} {m : Nat} {x : Int} (h : A[m]? = some x) : A.take (m + 1) = A.take m ++ [x] := by
  obtain ⟨hm, he⟩ := List.getElem?_eq_some_iff.1 h
  rw [List.take_succ_eq_append_getElem hm, he]
theorem len_same {a b : List Int} (ha : a.Nodup) (hb : b.Nodup) (h : ∀ z, z ∈ a ↔ z ∈ b) : a.length = b.length := ((List.perm_ext_iff_of_nodup ha hb).2 h).length_eq
end Go.Proofs.Ytcjiaiojkciheaa
