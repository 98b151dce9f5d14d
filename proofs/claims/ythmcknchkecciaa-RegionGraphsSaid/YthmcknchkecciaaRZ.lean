/- Region: the law Graphs, and its plain laws: a region alone may be a graph, it is one region, and together they have all. -/
import Derived.Test.YthmcknchkecciaaRX
import Derived.Test.YthmcknchkecciaaRQ
namespace Go.Proofs.Ythmcknchkecciaa
open Go Go.RowKit
namespace Sy
open Go Go.RowKit
variable {X : Cx} {S : St}
def St.frozenB (S : St) (k : Nat) (F' : Nat → Prop) (E' : World → Prop) : St := match S with
  | ⟨fr, H, nx, _, _, g⟩ => ⟨fr, (k, .dead) :: H, nx, F', E', g⟩
/-- The bag's slices are not written any more: from here on it is known how they read. -/
theorem freeze_bag {c : Code} {Q : Exit → St → Prop} (k ety esz : Nat) (l : List (Value × Nat × List (List Value))) (hH : get S.H k = some (.bag ety esz l))
    (hc : ∀ G : Nat → Prop, (∀ b, G b → ¬ S.F b) → St.forceAll (S.frozenB k (fun b => S.F b ∨ G b) (fun w => S.E w ∧ ((∀ y ∈ l, ReadsE (fun b => S.F b ∨ G b) w esz y.1 y.2.1 y.2.2)))) fun S' => semP X c S' Q) : semP X c S Q := by
  refine ⟨?_⟩
  intro e a w h Qr hQ
  have hh := h.hp k _ hH
  have hc := hc (fun b => ∃ y ∈ l, rfoot y.1 b) (fun b ⟨y, hy, hb⟩ => h.ff k _ b hH ⟨y, hy, hb⟩)
  rw [forceAll_eq] at hc
  have hkill := h.kill k (h.hlt k _ hH).1
  have hR := hkill.learn (G := fun b => ∃ y ∈ l, rfoot y.1 b) (p := fun G w => ∀ y ∈ l, ReadsE G w esz y.1 y.2.1 y.2.2) (fun b ⟨y, hy, hb⟩ => ⟨(hh.1 y hy).lt hb, fun k' c hk' hf => ?_, fun hm => (h.mks b hm).2.2 k _ hH ⟨y, hy, hb⟩⟩)
    (fun y hy => ((hh.1 y hy).reads.1).keep (fun b hb => ⟨y, hy, hb.2⟩) (fun _ _ => rfl)) (fun G G' w1 w2 hp hG hk' y hy => (hp y hy).keep hG hk')
  · have hput : Rep X e (S.frozenB k (fun b => S.F b ∨ ∃ y ∈ l, rfoot y.1 b) (fun w => S.E w ∧ ∀ y ∈ l, ReadsE (fun b => S.F b ∨ ∃ y ∈ l, rfoot y.1 b) w esz y.1 y.2.1 y.2.2)) a w := by
      cases S with
      | mk fr0 H0 nx0 F0 E0 g0 => exact hR
    exact sem_get hc hput hQ
  · rcases get_cons hk' with ⟨e1, e2⟩ | ⟨hne, hk2⟩
    · subst e2; exact hf.elim
    · exact h.sep k k' _ c b hH hk2 hne ⟨y, hy, hb⟩ hf
/-- What is known stands behind two variables. -/
theorem freeze_bagF {c : Code} {Q : Exit → St → Prop} (k ety esz : Nat) (l : List (Value × Nat × List (List Value))) (hH : get S.H k = some (.bag ety esz l))
    (hc : ∀ (F : Nat → Prop) (E : World → Prop), (∀ b, S.F b → F b) → (∀ w, E w → S.E w ∧ ∀ y ∈ l, ReadsE F w esz y.1 y.2.1 y.2.2) → St.forceAll (S.frozenB k F E) fun S' => semP X c S' Q) : semP X c S Q :=
  freeze_bag k ety esz l hH fun _ _ => hc _ _ (fun _ h => .inl h) (fun _ h => h)
theorem ints_one {l : List Int} : ∀ c ∈ l.map encI, ∀ u ∈ c, u.oneCell' = true := by
  intro c hc u hu
  obtain ⟨x, _, rfl⟩ := List.mem_map.1 hc
  cases List.mem_singleton.1 hu
  rfl
end Sy
def rootsL (g : List Opr) : List Nat := (List.range g.length).filter fun i => decide (regOf g i = i)
theorem allN_roots (g : List Opr) : allN g g.length = (rootsL g).map (ofL g) := rfl
theorem roots_nodup (g : List Opr) : (rootsL g).Nodup := List.Pairwise.filter _ List.nodup_range
theorem roots_mem {g : List Opr} {i : Nat} : i ∈ rootsL g ↔ i < g.length ∧ regOf g i = i := by
  unfold rootsL
  rw [List.mem_filter, List.mem_range, decide_eq_true_eq]
theorem ofL_memk {g : List Opr} {r : Nat} {z : Int} : z ∈ ofL g r ↔ ∃ k : Nat, z = (k : Int) ∧ k < g.length ∧ regOf g k = regOf g r := by
  rw [ofL_mem]
  constructor
  · rintro ⟨⟨h1, h2⟩, h3⟩
    exact ⟨z.toNat, by omega, by omega, h3⟩
  · rintro ⟨k, rfl, h2, h3⟩
    exact ⟨⟨by omega, by omega⟩, by rw [Int.toNat_natCast]; exact h3⟩
theorem ofL_nodup (g : List Opr) (r : Nat) : (ofL g r).Nodup := (ofL_strict g r).imp fun h => by omega
theorem check_unread {g : List Opr} (h : (checkV g).2 = 0) : ∀ i, i < g.length → unreadB g i = false := by
  have h8 := check_ok h
  intro i hi
  have hw := firstW_none h8.2.2
  rw [checkV, if_neg (by omega), hw] at h
  dsimp only at h
  cases hu : firstU g with
  | none =>
    have := List.find?_eq_none.1 hu i (List.mem_range.2 hi)
    simpa using this
  | some j => rw [hu] at h; cases h

theorem aloneN_get {g : List Opr} {l : List Int} {m : List Int} (hm : ∀ x ∈ m, x.toNat < g.length) {p : Nat} {k : Int} {o : Opr} (h : m[p]? = some k) (ho : g[k.toNat]? = some o) : (aloneN g l m)[p]? = some (aloneO l o) := by
  induction m generalizing p with
  | nil => cases h
  | cons x m ih =>
    obtain ⟨y, h1⟩ : ∃ y, g[x.toNat]? = some y := ⟨_, List.getElem?_eq_getElem (hm x List.mem_cons_self)⟩
    have e : aloneN g l (x :: m) = aloneO l y :: aloneN g l m := by
      unfold aloneN
      rw [List.filterMap_cons, h1]
      rfl
    rw [e]
    cases p with
    | zero =>
      have hx : x = k := Option.some.inj h
      subst hx
      rw [h1] at ho
      rw [← Option.some.inj ho]; rfl
    | succ p => exact ih (fun y hy => hm y (List.mem_cons_of_mem _ hy)) h
/-- What is said of a region of a graph that may be. -/
structure Rgn (g : List Opr) (r : Nat) (L : List Int) (A : List Opr) : Prop where
  ck : (checkV g).2 = 0
  lt : r < g.length
  el : L = ofL g r
  ea : A = aloneN g L L
namespace Rgn
variable {g : List Opr} {r : Nat} {L : List Int} {A : List Opr}
theorem good (h : Rgn g r L A) : goodTo g g.length := check_good h.ck
theorem nd (h : Rgn g r L A) : L.Nodup := by rw [h.el]; exact ofL_nodup g r
theorem mem (h : Rgn g r L A) {x : Int} : x ∈ L ↔ ∃ k : Nat, x = (k : Int) ∧ k < g.length ∧ regOf g k = regOf g r := by rw [h.el]; exact ofL_memk
theorem inr (h : Rgn g r L A) : ∀ x ∈ L, x.toNat < g.length := fun x hx => by
  obtain ⟨k, rfl, hk, _⟩ := h.mem.1 hx
  rwa [Int.toNat_natCast]
theorem len (h : Rgn g r L A) : A.length = L.length := by rw [h.ea]; exact aloneN_len h.inr
theorem len8 (h : Rgn g r L A) : 1 ≤ L.length ∧ L.length ≤ 8 := by
  have h1 : (r : Int) ∈ L := h.mem.2 ⟨r, rfl, h.lt, rfl⟩
  have h2 := List.length_pos_of_mem h1
  have h3 := ofL_len g r
  have h4 := check_ok h.ck
  rw [← h.el] at h3
  omega
theorem at_ (h : Rgn g r L A) {p : Nat} (hp : p < L.length) : ∃ (k : Nat) (o : Opr), L[p]? = some (k : Int) ∧ g[k]? = some o ∧ A[p]? = some (aloneO L o) := by
  have h1 := List.getElem?_eq_getElem hp
  obtain ⟨k, hk, hlt, _⟩ := h.mem.1 (List.getElem_mem hp)
  rw [hk] at h1
  have h2 := List.getElem?_eq_getElem hlt
  exact ⟨k, g[k], h1, h2, by rw [h.ea]; exact aloneN_get h.inr h1 (by rw [Int.toNat_natCast]; exact h2)⟩
theorem of (h : Rgn g r L A) {p : Nat} {q : Opr} (hq : A[p]? = some q) : ∃ (k : Nat) (o : Opr), L[p]? = some (k : Int) ∧ g[k]? = some o ∧ q = aloneO L o := by
  have hp := (List.getElem?_eq_some_iff.1 hq).1
  rw [h.len] at hp
  obtain ⟨k, o, h1, h2, h3⟩ := h.at_ hp
  rw [hq] at h3
  exact ⟨k, o, h1, h2, Option.some.inj h3⟩
theorem pos (h : Rgn g r L A) {p : Nat} {x : Int} (hx : L[p]? = some x) : posL L x = p := by
  obtain ⟨i, h1, _, h2⟩ := pos_at (List.mem_of_getElem? hx) h.nd
  rw [h1, (h2 p).1 hx]
theorem posn (h : Rgn g r L A) {x : Int} (hx : x ∈ L) : L[(posL L x).toNat]? = some x ∧ 0 ≤ posL L x := by
  obtain ⟨i, h1, _, h2⟩ := pos_at hx h.nd
  rw [h1, Int.toNat_natCast]
  exact ⟨(h2 i).2 rfl, by omega⟩
theorem strict_get (h : Rgn g r L A) {p q : Nat} {x y : Int} (hx : L[p]? = some x) (hy : L[q]? = some y) : p < q ↔ x < y := by
  have hs : strict L := by rw [h.el]; exact ofL_strict g r
  obtain ⟨hp, hx⟩ := List.getElem?_eq_some_iff.1 hx
  obtain ⟨hq, hy⟩ := List.getElem?_eq_some_iff.1 hy
  have key : ∀ (i j : Nat) (hi : i < L.length) (hj : j < L.length), i < j → L[i] < L[j] := fun i j hi hj hij => List.pairwise_iff_getElem.1 hs i j hi hj hij
  constructor
  · intro hpq
    have := key p q hp hq hpq
    rwa [hx, hy] at this
  · intro hxy
    rcases Nat.lt_trichotomy p q with h1 | h1 | h1
    · exact h1
    · subst h1; rw [hx] at hy; omega
    · have := key q p hq hp h1
      rw [hx, hy] at this; omega
theorem mono (h : Rgn g r L A) {x y : Int} (hx : x ∈ L) (hy : y ∈ L) (hxy : x < y) : posL L x < posL L y := by
  have h1 := h.posn hx
  have h2 := h.posn hy
  have := (h.strict_get h1.1 h2.1).2 hxy
  omega
theorem ins (h : Rgn g r L A) {k : Nat} {o : Opr} (hk : (k : Int) ∈ L) (ho : g[k]? = some o) {x : Int} (hx : x ∈ o.ins) : x ∈ L := by
  rw [h.el] at hk ⊢
  exact alone_closed h.good hk (by rw [Int.toNat_natCast]; exact ho) hx
end Rgn
theorem rises_map {L : List Int} {f : Int → Int} (hm : ∀ x ∈ L, ∀ y ∈ L, x < y → f x < f y) {below : Int} (hb : below ∈ L) : ∀ {l : List Int} {last last' : Int}, (∀ x ∈ L, last < x → last' < f x) → risesB last below l = true → (∀ x ∈ l, x ∈ L) → risesB last' (f below) (l.map f) = true
  | [], _, _, _, _, _ => rfl
  | n :: t, last, last', h1, h, hl => by
    simp only [risesB, Bool.and_eq_true, decide_eq_true_eq] at h
    have hn := hl n List.mem_cons_self
    have ih := rises_map hm hb (l := t) (last := n) (last' := f n) (fun x hx hlt => hm n hn x hx hlt) h.2 (fun x hx => hl x (List.mem_cons_of_mem _ hx))
    simp only [List.map_cons, risesB, Bool.and_eq_true, decide_eq_true_eq]
    exact ⟨⟨h1 n hn h.1.1, hm n hn below hb h.1.2⟩, ih⟩
namespace Rgn
variable {g : List Opr} {r : Nat} {L : List Int} {A : List Opr}
theorem goodA (h : Rgn g r L A) : goodTo A A.length := fun j q hj hq => by
  obtain ⟨k, o, h1, h2, rfl⟩ := h.of hq
  have hk := List.mem_of_getElem? h1
  have ha := h.good k o (List.getElem?_eq_some_iff.1 h2).1 h2
  have hr : risesB (-1) (posL L (k : Int)) (o.ins.map (posL L)) = true := rises_map (fun x hx y hy hxy => h.mono hx hy hxy) hk (fun x hx _ => by have := (h.posn hx).2; omega) ha.2.2.1 fun x hx => h.ins hk h2 hx
  rw [h.pos h1] at hr
  obtain ⟨a1, a2, a3, a4⟩ := ha
  refine ⟨a1, a2, hr, ?_⟩
  have hl : (aloneO L o).ins.length = o.ins.length := List.length_map _
  rw [hl]
  exact a4
theorem tag (h : Rgn g r L A) {p k : Nat} (hp : L[p]? = some (k : Int)) : tagAt A p = tagAt g k := by
  obtain ⟨k', o, h1, h2, h3⟩ := h.at_ (List.getElem?_eq_some_iff.1 hp).1
  have e : k' = k := by rw [hp] at h1; have := Option.some.inj h1; omega
  subst e
  unfold tagAt
  rw [h2, h3]; rfl
theorem src (h : Rgn g r L A) : ∀ (p k : Nat), L[p]? = some (k : Int) → ∀ s, hasSrc A (p + 1) p s = true ↔ hasSrc g (k + 1) k s = true := by
  intro p
  induction p using Nat.strongRecOn with
  | _ p ih =>
    intro k hp s
    have hpl := (List.getElem?_eq_some_iff.1 hp).1
    obtain ⟨k', o, h1, h2, h3⟩ := h.at_ hpl
    have e : k' = k := by rw [hp] at h1; have := Option.some.inj h1; omega
    subst e
    have hk := List.mem_of_getElem? h1
    have hkl := (List.getElem?_eq_some_iff.1 h2).1
    have hA := h.goodA.mono (m := p + 1) (by rw [h.len]; omega)
    have hG := h.good.mono (m := k' + 1) (by omega)
    rw [hasSrc_at hA h3, hasSrc_at hG h2]
    have key : ∀ x ∈ o.ins, (hasSrc A ((posL L x).toNat + 1) (posL L x).toNat s = true ↔ hasSrc g (x.toNat + 1) x.toNat s = true) := fun x hx => by
      have hxL := h.ins hk h2 hx
      have h4 := h.posn hxL
      obtain ⟨q, rfl, _, _⟩ := h.mem.1 hxL
      have h5 := alone_ins (h.good k' o hkl h2) _ hx
      have h6 := (h.strict_get h4.1 h1).2 h5.2
      rw [Int.toNat_natCast]
      exact ih _ h6 q h4.1 s
    constructor
    · rintro (⟨t1, t2⟩ | ⟨t1, y, hy, t2⟩)
      · exact .inl ⟨t1, t2⟩
      · obtain ⟨x, hx, rfl⟩ := List.mem_map.1 hy
        exact .inr ⟨t1, x, hx, (key x hx).1 t2⟩
    · rintro (⟨t1, t2⟩ | ⟨t1, x, hx, t2⟩)
      · exact .inl ⟨t1, t2⟩
      · exact .inr ⟨t1, posL L x, List.mem_map.2 ⟨x, hx, rfl⟩, (key x hx).2 t2⟩
theorem srcs_eq (h : Rgn g r L A) {p k : Nat} (hp : L[p]? = some (k : Int)) : srcs A p = srcs g k := by
  unfold srcs
  refine List.filter_congr fun s _ => ?_
  exact Bool.eq_iff_iff.2 (h.src p k hp s)
theorem sum_eq (h : Rgn g r L A) {l : List Int} (hl : ∀ x ∈ l, x ∈ L) : insSum A (l.map (posL L)) = insSum g l := by
  unfold insSum srcRows
  rw [List.map_map]
  congr 2
  refine List.map_congr_left fun x hx => ?_
  obtain ⟨q, rfl, _, _⟩ := h.mem.1 (hl x hx)
  have := h.srcs_eq (h.posn (hl _ hx)).1
  rw [Int.toNat_natCast]
  exact this
end Rgn
/-- An operator's width, by its number. -/
def wAt (g : List Opr) (k : Nat) : Int := match g[k]? with
  | some o => o.width
  | none => 0
theorem wAt_nn {g : List Opr} (hg : goodTo g g.length) (k : Nat) : 0 ≤ wAt g k := by
  unfold wAt
  cases ho : g[k]? with
  | none => exact Int.le_refl _
  | some o =>
    have := (hg k o (List.getElem?_eq_some_iff.1 ho).1 ho).1
    show 0 ≤ o.width
    omega
theorem wide_sum (g : List Opr) (n : Nat) (hn : n ≤ g.length) : wideN g n = ((List.range n).map (wAt g)).sum := by
  induction n with
  | zero => simp [wideN]
  | succ n ih =>
    have h1 := List.getElem?_eq_getElem (show n < g.length by omega)
    rw [wideN_succ h1, ih (by omega), List.range_succ, List.map_append, List.sum_append]
    have : wAt g n = g[n].width := by unfold wAt; rw [h1]
    simp [this]
theorem sum_filter_le {f : Nat → Int} (hf : ∀ k, 0 ≤ f k) (p : Nat → Bool) : ∀ l : List Nat, 0 ≤ ((l.filter p).map f).sum ∧ ((l.filter p).map f).sum ≤ (l.map f).sum
  | [] => by simp
  | x :: l => by
    have ih := sum_filter_le hf p l
    have hx := hf x
    rw [List.filter_cons]
    split
    · simp only [List.map_cons, List.sum_cons]; omega
    · simp only [List.map_cons, List.sum_cons]; omega
theorem ofL_nat (g : List Opr) (r : Nat) : ofL g r = ((List.range g.length).filter fun k => decide (regOf g k = regOf g r)).map fun k : Nat => (k : Int) := by
  unfold ofL natsTo
  rw [List.filter_map]
  congr 1
theorem sum_take_le {f : Nat → Int} (hf : ∀ k, 0 ≤ f k) : ∀ (l : List Nat) (n : Nat), ((l.take n).map f).sum ≤ (l.map f).sum
  | [], n => by simp
  | x :: l, 0 => by
    have h1 := (sum_filter_le hf (fun _ => false) (x :: l))
    have : ((x :: l).filter fun _ => false) = [] := List.filter_eq_nil_iff.2 fun _ _ => by simp
    rw [this] at h1
    exact h1.2
  | x :: l, n + 1 => by
    have ih := sum_take_le hf l n
    simp only [List.take_succ_cons, List.map_cons, List.sum_cons]; omega
namespace Rgn
variable {g : List Opr} {r : Nat} {L : List Int} {A : List Opr}
theorem wide (h : Rgn g r L A) (n : Nat) : wideN A n = ((((List.range g.length).filter fun k => decide (regOf g k = regOf g r)).take n).map (wAt g)).sum := by
  have e : A.map (·.width) = ((List.range g.length).filter fun k => decide (regOf g k = regOf g r)).map (wAt g) := by
    refine List.ext_getElem? fun p => ?_
    have hL : L = ((List.range g.length).filter fun k => decide (regOf g k = regOf g r)).map fun k : Nat => (k : Int) := by rw [h.el]; exact ofL_nat g r
    rw [List.getElem?_map, List.getElem?_map]
    rcases Nat.lt_or_ge p L.length with hp | hp
    · obtain ⟨k, o, h1, h2, h3⟩ := h.at_ hp
      rw [hL, List.getElem?_map] at h1
      obtain ⟨k', h4, h5⟩ := Option.map_eq_some_iff.1 h1
      have : k' = k := by omega
      subst this
      rw [h3, h4]
      show some o.width = some (wAt g k')
      unfold wAt
      rw [h2]
    · have h1 : A[p]? = none := List.getElem?_eq_none_iff.2 (by rw [h.len]; exact hp)
      rw [hL, List.length_map] at hp
      rw [h1, List.getElem?_eq_none_iff.2 hp]; rfl
  unfold wideN
  rw [List.map_take, e, ← List.map_take]
  rfl
theorem wide16 (h : Rgn g r L A) (n : Nat) : wideN A n ≤ 16 := by
  have hw := h.wide n
  have h0 := wAt_nn h.good
  have h1 := sum_take_le h0 ((List.range g.length).filter fun k => decide (regOf g k = regOf g r)) n
  have h2 := (sum_filter_le h0 (fun k => decide (regOf g k = regOf g r)) (List.range g.length)).2
  have h3 := wide_sum g g.length (Nat.le_refl _)
  have h4 : wideN g g.length ≤ 16 := by
    obtain ⟨c1, c2, c3⟩ := check_ok h.ck
    have h5 := c3 (g.length - 1) (by omega)
    have h6 := List.getElem?_eq_getElem (show g.length - 1 < g.length by omega)
    unfold wrongAt at h5
    rw [h6] at h5
    dsimp only at h5
    rw [show g.length - 1 + 1 = g.length by omega] at h5
    unfold wrongE at h5
    split at h5
    · split at h5
      · cases h5
      · split at h5
        · cases h5
        · split at h5
          · cases h5
          · split at h5
            · cases h5
            · omega
    · cases h5
  omega
theorem wrongA (h : Rgn g r L A) (j : Nat) (hj : j < A.length) : wrongAt A j = 0 := by
  rw [h.len] at hj
  obtain ⟨k, o, h1, h2, h3⟩ := h.at_ hj
  have hk := List.mem_of_getElem? h1
  have hkl := (List.getElem?_eq_some_iff.1 h2).1
  have hw := (check_ok h.ck).2.2 k hkl
  unfold wrongAt at hw ⊢
  rw [h2] at hw
  rw [h3]
  dsimp only at hw ⊢
  have hin : ∀ x ∈ o.ins, x ∈ L := fun x hx => h.ins hk h2 hx
  have hs : sinkB A (aloneO L o).ins = sinkB g o.ins := by
    show List.any (o.ins.map (posL L)) _ = _
    unfold sinkB
    rw [List.any_map]
    refine any_congr' fun x hx => ?_
    obtain ⟨q, rfl, _, _⟩ := h.mem.1 (hin x hx)
    have := h.tag (h.posn (hin _ hx)).1
    simp only [Function.comp, this, Int.toNat_natCast]
  have hd : dupB (g.take k) o.a = false → dupB (A.take j) o.a = false := fun hd => by
    unfold dupB at hd ⊢
    rw [List.any_eq_false] at hd ⊢
    intro q hq
    obtain ⟨i, hi⟩ := List.mem_iff_getElem?.1 hq
    have hij : i < j := by
      have := (List.getElem?_eq_some_iff.1 hi).1
      rw [List.length_take] at this; omega
    rw [List.getElem?_take_of_lt hij] at hi
    obtain ⟨m, y, m1, m2, rfl⟩ := h.of hi
    have hmk := (h.strict_get m1 h1).1 hij
    have hy : y ∈ g.take k := List.mem_of_getElem? (i := m) (by rw [List.getElem?_take_of_lt (by omega)]; exact m2)
    exact hd y hy
  have hu : insSum A (aloneO L o).ins = insSum g o.ins := h.sum_eq hin
  have hsr : srcs A j = srcs g k := h.srcs_eq h1
  have ha := h.goodA j _ (by rw [h.len]; exact hj) h3
  have h16 := h.wide16 (j + 1)
  unfold wrongE at hw ⊢
  rw [if_pos ha, hs, hu, hsr]
  rw [if_pos (h.good k o hkl h2)] at hw
  split at hw
  · cases hw
  · rename_i n1
    split at hw
    · cases hw
    · rename_i n2
      split at hw
      · cases hw
      · rename_i n3
        have n3' : ¬ ((aloneO L o).tag = 6 ∧ insSum g o.ins ≠ (srcs g k).length) := n3
        have n2' : ¬ ((aloneO L o).tag = 1 ∧ dupB (A.take j) (aloneO L o).a = true) := fun ⟨t1, t2⟩ => by
          by_cases hdd : dupB (g.take k) o.a = true
          · exact n2 ⟨t1, hdd⟩
          · have := hd (by simpa using hdd)
            rw [show (aloneO L o).a = o.a from rfl, this] at t2; cases t2
        rw [if_neg n1, if_neg n2', if_neg n3', if_neg (by omega)]
theorem readA (h : Rgn g r L A) (j : Nat) (hj : j < A.length) : unreadB A j = false := by
  rw [h.len] at hj
  obtain ⟨k, o, h1, h2, h3⟩ := h.at_ hj
  have hk := List.mem_of_getElem? h1
  have hkl := (List.getElem?_eq_some_iff.1 h2).1
  have hu := check_unread h.ck k hkl
  have ht := h.tag h1
  by_cases h7 : tagAt g k = 7
  · exact unread_sink (ht.trans h7)
  · rw [unread_not h7] at hu
    rw [unread_not (by rw [ht]; exact h7)]
    have hr : readB g k = true := by simpa using hu
    unfold readB at hr
    obtain ⟨y, hy, hyk⟩ := List.any_eq_true.1 hr
    obtain ⟨m, hm⟩ := List.mem_iff_getElem?.1 hy
    have hyk : (k : Int) ∈ y.ins := of_decide_eq_true hyk
    have hreg := regOf_in hm hyk
    rw [Int.toNat_natCast] at hreg
    obtain ⟨k2, e2, _, hkr⟩ := h.mem.1 hk
    have e2 : k2 = k := by omega
    subst e2
    have hmL : (m : Int) ∈ L := h.mem.2 ⟨m, rfl, (List.getElem?_eq_some_iff.1 hm).1, hreg.trans hkr⟩
    have hp := h.posn hmL
    obtain ⟨m2, y2, p1, p2, p3⟩ := h.at_ (List.getElem?_eq_some_iff.1 hp.1).1
    rw [hp.1] at p1
    have : m2 = m := by have := Option.some.inj p1; omega
    subst this
    rw [hm] at p2
    cases p2
    have : readB A j = true := by
      unfold readB
      refine List.any_eq_true.2 ⟨_, List.mem_of_getElem? p3, decide_eq_true ?_⟩
      refine List.mem_map.2 ⟨k2, hyk, h.pos h1⟩
    rw [this]; rfl
theorem check (h : Rgn g r L A) : checkV A = (0, 0) := by
  have h8 := h.len8
  have hl := h.len
  exact checkV_ok (by omega) h.wrongA h.readA
/-- A region alone is one region. -/
theorem one (h : Rgn g r L A) : ∀ p, p < A.length → regOf A p = 0 := by
  have key : ∀ a b : Nat, Conn (edgesL g) a b → ((a : Int) ∈ L ↔ (b : Int) ∈ L) ∧ ((a : Int) ∈ L → regOf A (posL L a).toNat = regOf A (posL L b).toNat) := by
    intro a b hc
    induction hc with
    | edge he =>
      rename_i a b
      have hb := edge_mem h.good (Nat.le_refl _) he
      have hsame : regOf g a = regOf g b := (Firsts.all (edgesL g)).same a b (.edge he)
      have hiff : (a : Int) ∈ L ↔ (b : Int) ∈ L := by
        rw [h.mem, h.mem]
        constructor
        · rintro ⟨k, e, _, hk⟩
          have : k = a := by omega
          subst this
          exact ⟨b, rfl, by have := hb.2; dsimp only at this; omega, by rw [← hsame]; exact hk⟩
        · rintro ⟨k, e, _, hk⟩
          have : k = b := by omega
          subst this
          exact ⟨a, rfl, hb.1, by rw [hsame]; exact hk⟩
      refine ⟨hiff, fun ha => ?_⟩
      have hex : ∃ o, g[a]? = some o ∧ ∃ x ∈ o.ins, x.toNat = b := by
        unfold edgesL edgeN at he
        rw [List.mem_append] at he
        rcases he with he | he
        · obtain ⟨l, hl, hm⟩ := List.mem_flatten.1 he
          obtain ⟨i, _, rfl⟩ := List.mem_map.1 hl
          unfold insE edgeN.insAt at hm
          cases ho : g[i]? with
          | none => rw [ho] at hm; cases hm
          | some o =>
            rw [ho] at hm
            obtain ⟨x, hx, e⟩ := List.mem_map.1 hm
            cases e
            exact ⟨o, ho, x, hx, rfl⟩
        · rw [List.take_zero] at he
          cases he
      obtain ⟨o, ho, x, hx, rfl⟩ := hex
      have hxn : ((x.toNat : Nat) : Int) = x := by
        have := alone_ins (h.good a o hb.1 ho) x hx
        omega
      rw [hxn]
      have hp := h.posn ha
      obtain ⟨m2, y2, p1, p2, p3⟩ := h.at_ (List.getElem?_eq_some_iff.1 hp.1).1
      rw [hp.1] at p1
      have : m2 = a := by have := Option.some.inj p1; omega
      subst this
      rw [ho] at p2
      cases p2
      exact regOf_in p3 (List.mem_map.2 ⟨x, hx, rfl⟩)
    | refl a => exact ⟨Iff.rfl, fun _ => rfl⟩
    | symm _ ih => exact ⟨ih.1.symm, fun hb => (ih.2 (ih.1.2 hb)).symm⟩
    | trans _ _ i1 i2 => exact ⟨i1.1.trans i2.1, fun ha => (i1.2 ha).trans (i2.2 (i1.1.1 ha))⟩
  intro p hp
  rw [h.len] at hp
  have h8 := h.len8
  obtain ⟨k, _, h1, _, _⟩ := h.at_ hp
  obtain ⟨k0, _, h2, _, _⟩ := h.at_ (show 0 < L.length by omega)
  have m1 := List.mem_of_getElem? h1
  have m2 := List.mem_of_getElem? h2
  obtain ⟨a, ea, _, ra⟩ := h.mem.1 m1
  obtain ⟨b, eb, _, rb⟩ := h.mem.1 m2
  have ea : a = k := by omega
  have eb : b = k0 := by omega
  subst ea; subst eb
  have hc := ((Firsts.all (edgesL g)).iff a b).1 (ra.trans rb.symm)
  have := (key a b hc).2 m1
  rw [h.pos h1, h.pos h2] at this
  have h0 := regOf_le A 0
  rw [Int.toNat_natCast, Int.toNat_natCast] at this
  rw [this]
  omega
theorem all (h : Rgn g r L A) : ∃ row, allL A = [row] ∧ row.length = L.length := by
  have h8 := h.len8
  have hl := h.len
  have key : ∀ m, m < A.length → allN A (m + 1) = [ofL A 0] := by
    intro m
    induction m with
    | zero =>
      intro hm
      rw [allN_succ, h.one 0 hm, if_pos rfl]; rfl
    | succ m ih =>
      intro hm
      rw [allN_succ, ih (by omega), h.one (m + 1) hm, if_neg (by omega), List.append_nil]
  refine ⟨ofL A 0, ?_, ?_⟩
  · have := key (A.length - 1) (by omega)
    rw [show A.length - 1 + 1 = A.length by omega] at this
    rw [allL, h.check, if_pos rfl, this]
  · rw [← hl]
    have : ofL A 0 = natsTo A.length := by
      unfold ofL
      refine List.filter_eq_self.2 fun x hx => ?_
      obtain ⟨x0, x1⟩ := natsTo_mem.1 hx
      rw [h.one x.toNat (by omega), h.one 0 (by omega)]; rfl
    rw [this, natsTo_len]
end Rgn
/-! ### Together they have all -/
theorem pick_sum {c : Int} {a : Nat} : ∀ {R : List Nat}, R.Nodup → (R.map fun r => if a = r then c else 0).sum = if a ∈ R then c else 0
  | [], _ => by simp
  | x :: R, h => by
    have h := List.nodup_cons.1 h
    have ih := pick_sum (c := c) (a := a) h.2
    rw [List.map_cons, List.sum_cons, ih]
    by_cases e : a = x
    · subst e
      rw [if_pos rfl, if_neg h.1, if_pos List.mem_cons_self]; omega
    · rw [if_neg e]
      by_cases hm : a ∈ R
      · rw [if_pos hm, if_pos (List.mem_cons_of_mem _ hm)]; omega
      · rw [if_neg hm, if_neg (by simp [e, hm])]; omega
theorem part_sum {ρ : Nat → Nat} {f : Nat → Int} {R : List Nat} (hR : R.Nodup) : ∀ xs : List Nat, (R.map fun r => ((xs.filter fun k => decide (ρ k = r)).map f).sum).sum = ((xs.filter fun k => decide (ρ k ∈ R)).map f).sum
  | [] => by
    have : ∀ R : List Nat, (R.map fun _ => (0 : Int)).sum = 0 := fun R => by
      induction R with
      | nil => rfl
      | cons x R ih => rw [List.map_cons, List.sum_cons, ih]; rfl
    exact this R
  | x :: xs => by
    have ih := part_sum (ρ := ρ) (f := f) hR xs
    have e1 : ∀ r, (((x :: xs).filter fun k => decide (ρ k = r)).map f).sum = (if ρ x = r then f x else 0) + ((xs.filter fun k => decide (ρ k = r)).map f).sum := fun r => by
      rw [List.filter_cons]
      by_cases e : ρ x = r
      · rw [if_pos (by simpa using e), if_pos e]; simp
      · rw [if_neg (by simpa using e), if_neg e]; omega
    have e2 : ∀ (R : List Nat) (u v : Nat → Int), (R.map fun r => u r + v r).sum = (R.map u).sum + (R.map v).sum := fun R u v => by
      induction R with
      | nil => rfl
      | cons y R ih => rw [List.map_cons, List.sum_cons, ih, List.map_cons, List.sum_cons, List.map_cons, List.sum_cons]; omega
    rw [List.map_congr_left (g := fun r => (if ρ x = r then f x else 0) + ((xs.filter fun k => decide (ρ k = r)).map f).sum) fun r _ => e1 r, e2, pick_sum hR, ih, List.filter_cons]
    by_cases hm : ρ x ∈ R
    · rw [if_pos hm, if_pos (by simpa using hm)]; simp
    · rw [if_neg hm, if_neg (by simpa using hm)]; omega
theorem ofL_lit {g : List Opr} {r : Nat} (hr : r ∈ rootsL g) : (List.range g.length).filter (fun k => decide (regOf g k = regOf g r)) = (List.range g.length).filter fun k => decide (regOf g k = r) := by rw [(roots_mem.1 hr).2]
/-- Over the first rows: how many operators, and how wide they are. -/
def opsTo (g : List Opr) (n : Nat) : Int := (((rootsL g).take n).map fun r => ((ofL g r).length : Int)).sum
def tasksTo (g : List Opr) (n : Nat) : Int := (((rootsL g).take n).map fun r => wideN (aloneN g (ofL g r) (ofL g r)) (ofL g r).length).sum
theorem to_succ {f : Nat → Int} {R : List Nat} {n r : Nat} (h : R[n]? = some r) : ((R.take (n + 1)).map f).sum = ((R.take n).map f).sum + f r := by
  obtain ⟨hn, he⟩ := List.getElem?_eq_some_iff.1 h
  rw [List.take_succ_eq_append_getElem hn, he, List.map_append, List.sum_append]
  simp
theorem to_zero0 (g : List Opr) : opsTo g 0 = 0 ∧ tasksTo g 0 = 0 := ⟨rfl, rfl⟩
theorem to_zero (g : List Opr) : 0 ≤ opsTo g 0 ∧ opsTo g 0 ≤ 8 * ((0 : Nat) : Int) ∧ 0 ≤ tasksTo g 0 ∧ tasksTo g 0 ≤ 16 * ((0 : Nat) : Int) := by
  rw [(to_zero0 g).1, (to_zero0 g).2]; omega
theorem roots_all (g : List Opr) (f : Nat → Int) : ((rootsL g).map fun r => (((List.range g.length).filter fun k => decide (regOf g k = r)).map f).sum).sum = ((List.range g.length).map f).sum := by
  rw [part_sum (roots_nodup g)]
  have : ((List.range g.length).filter fun k => decide (regOf g k ∈ rootsL g)) = List.range g.length := List.filter_eq_self.2 fun k hk => decide_eq_true (roots_mem.2 ⟨Nat.lt_of_le_of_lt (regOf_le g k) (List.mem_range.1 hk), regOf_idem g k⟩)
  rw [this]
theorem ones_sum : ∀ l : List Nat, (l.map fun _ => (1 : Int)).sum = l.length
  | [] => rfl
  | x :: l => by rw [List.map_cons, List.sum_cons, ones_sum l, List.length_cons]; omega
theorem ops_all (g : List Opr) : opsTo g (rootsL g).length = g.length := by
  unfold opsTo
  rw [List.take_length]
  have h := roots_all g fun _ => 1
  rw [ones_sum, List.length_range] at h
  rw [← h]
  refine congrArg List.sum (List.map_congr_left fun r hr => ?_)
  rw [ones_sum, ofL_nat, List.length_map, ofL_lit hr]
theorem tasks_all {g : List Opr} (h0 : (checkV g).2 = 0) : tasksTo g (rootsL g).length = wideN g g.length := by
  unfold tasksTo
  rw [List.take_length, wide_sum g g.length (Nat.le_refl _), ← roots_all g (wAt g)]
  refine congrArg List.sum (List.map_congr_left fun r hr => ?_)
  have hR : Rgn g r (ofL g r) (aloneN g (ofL g r) (ofL g r)) := ⟨h0, (roots_mem.1 hr).1, rfl, rfl⟩
  rw [hR.wide _, ← ofL_lit hr]
  have : (ofL g r).length = ((List.range g.length).filter fun k => decide (regOf g k = regOf g r)).length := by rw [ofL_nat, List.length_map]
  rw [this, List.take_length]
open Sy (C SV V1 Blk St XD Els)
set_option maxRecDepth 10000

attribute [local irreducible] checkV ofL regOf allL askE opsTo tasksTo wideN
set_option maxHeartbeats 8000000 in
theorem lgraphs_any (v : Value) (gl : List OpV) (w : World) (hr : GOk (fun b => b < w.heap.size) w v gl) :
    Calls Try.prog 10 #[.agg #[v]] w (Sy.Ret (.bool true) w) := by
  have hone := hr.one
  refine Sy.calls_of Sy.lv10 Sy.tab_ok Try.func10 rfl _ Try.ntmps10 [] [.agg [.v v]] rfl (lt_g1 hone) rfl trivial ?_
  ((repeat' ((conv => whnf);(first|refine zA ?_|(refine zI ?_ ?_<;> intro hh<;> first|(exfalso;omega)|skip)|(refine zl ?_ ?_<;> intro hh)|refine zq ?_|refine zv ?_|exact Sy.fin_val fun e=>rfl)));(all_goals (try conv => whnf)))
  refine Sy.call_val (.c (.v (.bool true))) Try.call11 rfl (fun e a w' h => wakes_any w') ?_
  ((repeat' ((conv => whnf);(first|refine zA ?_|(refine zI ?_ ?_<;> intro hh<;> first|(exfalso;omega)|skip)|(refine zl ?_ ?_<;> intro hh)|refine zq ?_|refine zv ?_|exact Sy.fin_val fun e=>rfl)));(all_goals (try conv => whnf)))
  refine short_call v gl rfl hr (fun _ h => h) ?_
  ((conv => whnf);(refine And.intro ?_ (And.intro ?_ (And.intro ?_ (And.intro ?_ ?_))));(all_goals ((repeat' (first|((conv => whnf);done)|((try conv => whnf);first|exact trivial|(refine And.intro ?_ ?_)|rfl|exact fun _ _ _ h=>h|exact fun _ _ _ _=>trivial)));(all_goals (try conv => whnf))));rotate_right)
  intro ls hls G
  have hol := opsOf_len ls
  have hln : ls.length ≤ 9 := by rw [← hol, show opsOf ls = shortM (opsOf gl) from hls]; exact shortM_len _
  ((repeat' ((conv => whnf);(first|refine zA ?_|(refine zI ?_ ?_<;> intro hh<;> first|(exfalso;omega)|skip)|(refine zl ?_ ?_<;> intro hh)|refine zq ?_|refine zv ?_|exact Sy.fin_val fun e=>rfl)));(all_goals (try conv => whnf)))
  refine Sy.call_own (all1_does ls (by omega)) Try.call13 ?_ (fun e a w' F' h hF' o ho => ((h.ev w' fun _ _ => rfl).2.2 o ho).mono fun b hb => hF' b hb) (fun _ us G G' w1 w2 hq hG hk x hx => ⟨(hq x hx).1.keep hG hk, (hq x hx).2⟩)
  ((conv => whnf);(refine And.intro ?_ (And.intro ?_ (And.intro ?_ (And.intro ?_ ?_))));(all_goals ((repeat' (first|((conv => whnf);done)|((try conv => whnf);first|exact trivial|(refine And.intro ?_ ?_)|rfl|exact fun _ _ _ h=>h|exact fun _ _ _ _=>trivial)));(all_goals (try conv => whnf))));rotate_right)
  intro us hus G3
  have hus : rowsOf us = allL (opsOf ls) := hus
  have hul : us.length = (allL (opsOf ls)).length := by rw [← hus]; unfold rowsOf; rw [List.length_map]
  by_cases h0 : (checkV (opsOf ls)).2 = 0
  · have hg := check_good h0
    have hal : allL (opsOf ls) = (rootsL (opsOf ls)).map (ofL (opsOf ls)) := by rw [← allN_roots]; unfold allL; exact if_pos h0
    have hur : us.length = (rootsL (opsOf ls)).length := by rw [hul, hal, List.length_map]
    have hat : ∀ (m : Nat) (x : Value × List Int), us[m]? = some x → ∃ r, (rootsL (opsOf ls))[m]? = some r ∧ x.2 = ofL (opsOf ls) r := fun m x hx => by
      have h1 : (rowsOf us)[m]? = some x.2 := by unfold rowsOf; rw [List.getElem?_map, hx]; rfl
      rw [hus, hal, List.getElem?_map] at h1
      obtain ⟨r, hr1, hr2⟩ := Option.map_eq_some_iff.1 h1
      exact ⟨r, hr1, hr2.symm⟩
    have hub : us.length ≤ 9 := by
      rw [hul, show allL (opsOf ls) = allN (opsOf ls) (opsOf ls).length by unfold allL; exact if_pos h0]
      have h2 := allN_len (opsOf ls) (opsOf ls).length
      omega
    ((repeat' ((conv => whnf);(first|refine zA ?_|(refine zI ?_ ?_<;> intro hh<;> first|(exfalso;omega)|skip)|(refine zl ?_ ?_<;> intro hh)|refine zq ?_|refine zv ?_|exact Sy.fin_val fun e=>rfl)));(all_goals (try conv => whnf)))
    refine' Sy.loop_learn Sy.tab_ok (fun x : Nat × (Nat → Prop) × (World → Prop) => [(33, .c (.v (.int .i64 x.1))), (6, .c (.v (.int .i64 (opsTo (opsOf ls) x.1)))), (7, .c (.v (.int .i64 (tasksTo (opsOf ls) x.1))))]) (fun _ => []) (fun x => x.2.1) (fun x => x.2.2)
      (fun x => x.1 ≤ us.length ∧ (0 ≤ opsTo (opsOf ls) x.1 ∧ opsTo (opsOf ls) x.1 ≤ 8 * x.1 ∧ 0 ≤ tasksTo (opsOf ls) x.1 ∧ tasksTo (opsOf ls) x.1 ≤ 16 * x.1) ∧ ∀ w', x.2.2 w' → (∀ o ∈ ls, OOk x.2.1 w' o) ∧ UsOk x.2.1 w' us) (fun x => us.length - x.1) (0, _, _) ?h0 ?hs (fun x hx => ?hr)
    case hs =>
      dsimp only
      rw [(to_zero0 (opsOf ls)).1, (to_zero0 (opsOf ls)).2]
      ((repeat' (first|((conv => whnf);done)|((try conv => whnf);first|exact trivial|(refine And.intro ?_ ?_)|rfl|exact fun _ _ _ h=>h|exact fun _ _ _ _=>trivial)));(all_goals (try conv => whnf)))
    case h0 =>
      exact ⟨Nat.zero_le _, to_zero _, fun w' hw => ⟨fun o ho => (hw.1.2.2 o ho).mono fun b hb => .inl hb, fun y hy => XD.ok.mono (hw.2.2 y hy) fun b hb => hb⟩⟩
    case hr =>
      obtain ⟨m, F, E⟩ := x
      obtain ⟨hm, hb, hE⟩ := hx
      dsimp only at hm hb hE ⊢
      by_cases hlt : m < us.length
      · have hgm := List.getElem?_eq_getElem hlt
        generalize us[m] = x at *
        obtain ⟨r, hr1, hr2⟩ := hat m x hgm
        have hxm := List.mem_of_getElem? hgm
        have hrr := roots_mem.1 (List.mem_of_getElem? hr1)
        have hae : askE (opsOf ls) r ls.length = 0 := by unfold askE; rw [if_pos h0, if_neg (by omega)]
        have hov : ofV (opsOf ls) r = ofL (opsOf ls) r := by unfold ofV; rw [hol, if_pos hae, Int.toNat_natCast]
        have hhd := ofL_head (g := opsOf ls) (op := r) hrr.1
        rw [hrr.2, ← hr2] at hhd
        have hpos := (List.getElem?_eq_some_iff.1 hhd).1
        have hR : Rgn (opsOf ls) r x.2 (aloneL (opsOf ls) r) := ⟨h0, hrr.1, hr2, by rw [hr2]; unfold aloneL; rw [hov]⟩
        have hx8 := hR.len8
        have hsO : opsTo (opsOf ls) (m + 1) = opsTo (opsOf ls) m + x.2.length := by
          have := to_succ (f := fun r => ((ofL (opsOf ls) r).length : Int)) hr1
          unfold opsTo; rw [this, hr2]
        have hsT : tasksTo (opsOf ls) (m + 1) = tasksTo (opsOf ls) m + subtasks (aloneL (opsOf ls) r) := by
          have := to_succ (f := fun r => wideN (aloneN (opsOf ls) (ofL (opsOf ls) r) (ofL (opsOf ls) r)) (ofL (opsOf ls) r).length) hr1
          unfold tasksTo; rw [this]
          unfold subtasks
          rw [hR.check, if_pos rfl, hR.len, hR.ea, hr2]
        have hst : 0 ≤ subtasks (aloneL (opsOf ls) r) ∧ subtasks (aloneL (opsOf ls) r) ≤ 16 := by
          unfold subtasks
          rw [hR.check, if_pos rfl]
          exact ⟨(wideN_le _ hR.goodA).1, hR.wide16 _⟩
        ((repeat' ((conv => whnf);(first|refine zA ?_|(refine zI ?_ ?_<;> intro hh<;> first|(exfalso;omega)|skip)|(refine zl ?_ ?_<;> intro hh)|refine zq ?_|refine zv ?_|exact Sy.fin_val fun e=>rfl)));(all_goals (try conv => whnf)))
        refine Sy.el_map x hgm ?_
        ((repeat' ((conv => whnf);(first|refine zA ?_|(refine zI ?_ ?_<;> intro hh<;> first|(exfalso;omega)|skip)|(refine zl ?_ ?_<;> intro hh)|refine zq ?_|refine zv ?_|exact Sy.fin_val fun e=>rfl)));(all_goals (try conv => whnf)))
        refine Sy.open_ext 1 x.2.length (x.2.map encI) (fun e a w' h => ((hE w' (h.ev w' fun _ _ => rfl)).2 x hxm).1) Sy.ints_one ?_
        ((repeat' ((conv => whnf);(first|refine zA ?_|(refine zI ?_ ?_<;> intro hh<;> first|(exfalso;omega)|skip)|(refine zl ?_ ?_<;> intro hh)|refine zq ?_|refine zv ?_|exact Sy.fin_val fun e=>rfl)));(all_goals (try conv => whnf)))
        refine Sy.draw_go [] (by kernel_rfl) ?_
        intro e0
        conv => whnf
        refine zt 0 rfl ?_
        conv => whnf
        refine zt 1 rfl ?_
        conv => whnf
        refine zt 2 rfl ?_
        (conv => whnf);(repeat' ((first|refine zA ?_|(refine zI ?_ ?_<;> intro hh<;> first|(exfalso;omega)|skip)|(refine zl ?_ ?_<;> intro hh)|refine zq ?_|refine zv ?_|refine zu ?_|exact Sy.fin_val fun e=>rfl);(try conv => whnf)))
        refine zt 3 rfl ?_
        conv => whnf
        refine Sy.el_map _ hhd ?_
        conv => whnf
        focus
          refine zd1 [4, 9] (zx rfl ?_ (zx rfl ?_ zy))
          focus
            conv => whnf
            refine Sy.call_own (alone_does ls r (by omega)) Try.call33 ?_ (fun e a w' F' h hF' o ho => ((hE w' (h.ev w' fun _ _ => rfl)).1 o ho).mono hF') (fun _ _ G G' w1 w2 hq hG hk => trivial)
            ((conv => whnf);(refine And.intro ?_ (And.intro ?_ (And.intro ?_ (And.intro ?_ ?_))));(all_goals ((repeat' (first|((conv => whnf);done)|((try conv => whnf);first|exact trivial|(refine And.intro ?_ ?_)|rfl|exact fun _ _ _ h=>h|exact fun _ _ _ _=>trivial)));(all_goals (try conv => whnf))));rotate_right)
            intro la hla G4
            conv => whnf
            refine ⟨(by repeat' ((conv => whnf);first|exact trivial|(refine And.intro ?_ ?_)|rfl)), ?_⟩
            refine zt 5 rfl ?_
            conv => whnf
            refine zt 6 rfl ?_
            conv => whnf
            refine zt 7 rfl ?_
            conv => whnf
            refine zt 8 rfl ?_
            conv => whnf
            refine zd1 [9] (zx rfl ?_ zy)
            conv => whnf
            refine ⟨(by repeat' ((conv => whnf);first|exact trivial|(refine And.intro ?_ ?_)|rfl)), ?_⟩
            refine zd1 [10] (zx rfl ?_ zy)
            conv => whnf
            refine ⟨(by repeat' ((conv => whnf);first|exact trivial|(refine And.intro ?_ ?_)|rfl)), ?_⟩
            refine zt 11 rfl ?_
            conv => whnf
            refine zt 12 rfl ?_
            conv => whnf
            refine zw ?_
            skip
          rotate_right
          focus
            conv => whnf
            refine ⟨(by repeat' ((conv => whnf);first|exact trivial|(refine And.intro ?_ ?_)|rfl)), ?_⟩
            refine zd1 [4] (zx rfl ?_ zy)
            conv => whnf
            refine Sy.call_own (alone_does ls r (by omega)) Try.call33 ?_ (fun e a w' F' h hF' o ho => ((hE w' (h.ev w' fun _ _ => rfl)).1 o ho).mono hF') (fun _ _ G G' w1 w2 hq hG hk => trivial)
            ((conv => whnf);(refine And.intro ?_ (And.intro ?_ (And.intro ?_ (And.intro ?_ ?_))));(all_goals ((repeat' (first|((conv => whnf);done)|((try conv => whnf);first|exact trivial|(refine And.intro ?_ ?_)|rfl|exact fun _ _ _ h=>h|exact fun _ _ _ _=>trivial)));(all_goals (try conv => whnf))));rotate_right)
            intro la hla G4
            conv => whnf
            refine ⟨(by repeat' ((conv => whnf);first|exact trivial|(refine And.intro ?_ ?_)|rfl)), ?_⟩
            refine zt 5 rfl ?_
            conv => whnf
            refine zt 6 rfl ?_
            conv => whnf
            refine zt 7 rfl ?_
            conv => whnf
            refine zt 8 rfl ?_
            conv => whnf
            refine zd1 [10] (zx rfl ?_ zy)
            conv => whnf
            refine ⟨(by repeat' ((conv => whnf);first|exact trivial|(refine And.intro ?_ ?_)|rfl)), ?_⟩
            refine zt 11 rfl ?_
            conv => whnf
            refine zt 12 rfl ?_
            conv => whnf
            refine zw ?_
            skip
        all_goals
          have hla : opsOf la = aloneL (opsOf ls) r := hla
          have hll : la.length = x.2.length := by rw [← opsOf_len, hla, hR.len]
          rw [hae, hov, ← hr2]
          ((repeat' ((conv => whnf);(first|refine zA ?_|(refine zI ?_ ?_<;> intro hh<;> first|(exfalso;omega)|skip)|(refine zl ?_ ?_<;> intro hh)|exact Sy.fin_val fun e=>rfl)));(all_goals (try conv => whnf)))
          refine Sy.cut_sem (Sy.seq_go Sy.tab_ok ?_)
          first | (refine Sy.freeze_bagF 10 3 1 (bagL la) rfl (fun F2 E2 hF2 hE2 => ?_); conv => whnf) | (refine Sy.freeze_bagF 11 3 1 (bagL la) rfl (fun F2 E2 hF2 hE2 => ?_); conv => whnf)
          refine Sy.region_go Sy.tab_ok ?_
          ((repeat' ((conv => whnf);(first|refine zA ?_|(refine zI ?_ ?_<;> intro hh<;> first|(exfalso;omega)|skip)|(refine zl ?_ ?_<;> intro hh)|refine zq ?_|refine zv ?_|exact Sy.fin_val fun e=>rfl)));(all_goals (try conv => whnf)))
          refine Sy.call_val (.c (.v (.bool true))) Try.call25 rfl (fun e a w' h => by
            first | (have h1 := equalI_any (e.rv 7) (e.rv 4) x.2 x.2 w' (Sy.row_reads h (.inl ⟨_, rfl⟩)) (Sy.row_reads h (.inr rfl)); rw [decide_eq_true rfl] at h1; exact h1) | (have h1 := equalI_any (e.rv 8) (e.rv 4) x.2 x.2 w' (Sy.row_reads h (.inl ⟨_, rfl⟩)) (Sy.row_reads h (.inr rfl)); rw [decide_eq_true rfl] at h1; exact h1)) ?_
          ((repeat' ((conv => whnf);(first|refine zA ?_|(refine zI ?_ ?_<;> intro hh<;> first|(exfalso;omega)|skip)|(refine zl ?_ ?_<;> intro hh)|refine zq ?_|refine zv ?_|exact Sy.fin_val fun e=>rfl)));(all_goals (try conv => whnf)))
          refine Sy.call_val (.tup [.c (.v (.int .i64 0)), .c (.v (.int .i64 0))]) Try.call35 rfl (fun e a w' h => by
            have h1 : checkV (opsOf la) = (0, 0) := by rw [hla]; exact hR.check
            have h3 : ∀ o ∈ la, OOk (fun b => b < w'.heap.size) w' o := fun o ho => ⟨((hE2 w' (h.ev w' fun _ _ => rfl)).2 _ (List.mem_map.2 ⟨o, ho, rfl⟩)).keep h.fl (fun _ _ => rfl), Sy.ints_one⟩
            first | (have h2 := check_any (e.rv 10) la w' ⟨Sy.row_reads h (.inl ⟨_, rfl⟩), h3⟩; rw [h1] at h2; exact h2) | (have h2 := check_any (e.rv 9) la w' ⟨Sy.row_reads h (.inl ⟨_, rfl⟩), h3⟩; rw [h1] at h2; exact h2)) ?_
          ((repeat' ((conv => whnf);(first|refine zA ?_|(refine zI ?_ ?_<;> intro hh<;> first|(exfalso;omega)|skip)|(refine zl ?_ ?_<;> intro hh)|refine zq ?_|refine zv ?_|exact Sy.fin_val fun e=>rfl)));(all_goals (try conv => whnf)))
          have hck : (checkV (opsOf la)).2 = 0 := by rw [hla, hR.check]
          refine Sy.call_own (all1_does la (by omega)) Try.call13 ?_ (fun e a w' F' h hF' o ho => ⟨((hE2 w' (h.ev w' fun _ _ => rfl)).2 _ (List.mem_map.2 ⟨o, ho, rfl⟩)).keep hF' (fun _ _ => rfl), Sy.ints_one⟩) (fun _ us G G' w1 w2 hq hG hk x hx => ⟨(hq x hx).1.keep hG hk, (hq x hx).2⟩)
          ((conv => whnf);(refine And.intro ?_ (And.intro ?_ (And.intro ?_ (And.intro ?_ ?_))));(all_goals ((repeat' (first|((conv => whnf);done)|((try conv => whnf);first|exact trivial|(refine And.intro ?_ ?_)|rfl|exact fun _ _ _ h=>h|exact fun _ _ _ _=>trivial)));(all_goals (try conv => whnf))));rotate_right)
          intro ua hua G6
          obtain ⟨row, hrow, hrl⟩ := hR.all
          obtain ⟨ux, rfl, hux⟩ : ∃ ux, ua = [ux] ∧ ux.2.length = x.2.length := by
            have h1 : rowsOf ua = [row] := by rw [show rowsOf ua = allL (opsOf la) from hua, hla, hrow]
            unfold rowsOf at h1
            match ua, h1 with
            | [ux], h1 => exact ⟨ux, rfl, by rw [← hrl]; exact congrArg List.length (List.cons.inj h1).1⟩
          ((repeat' ((conv => whnf);(first|refine zA ?_|(refine zI ?_ ?_<;> intro hh<;> first|(exfalso;omega)|skip)|(refine zl ?_ ?_<;> intro hh)|refine zq ?_|refine zv ?_|exact Sy.fin_val fun e=>rfl)));(all_goals (try conv => whnf)))
          refine Sy.idx_nat (i := 0) (show 0 < [ux].length from Nat.zero_lt_one) ?_
          ((repeat' ((conv => whnf);(first|refine zA ?_|(refine zI ?_ ?_<;> intro hh<;> first|(exfalso;omega)|skip)|(refine zl ?_ ?_<;> intro hh)|refine zq ?_|refine zv ?_|exact Sy.fin_val fun e=>rfl)));(all_goals (try conv => whnf)))
          refine Sy.el_map ux rfl ?_
          ((repeat' ((conv => whnf);(first|refine zA ?_|(refine zI ?_ ?_<;> intro hh<;> first|(exfalso;omega)|skip)|(refine zl ?_ ?_<;> intro hh)|refine zq ?_|refine zv ?_|exact Sy.fin_val fun e=>rfl)));(all_goals (try conv => whnf)))
          refine Sy.open_ext 1 ux.2.length (ux.2.map encI) (fun e a w' h => ((h.ev w' fun _ _ => rfl).2.2 ux List.mem_cons_self).1) Sy.ints_one ?_
          ((repeat' ((conv => whnf);(first|refine zA ?_|(refine zI ?_ ?_<;> intro hh<;> first|(exfalso;omega)|skip)|(refine zl ?_ ?_<;> intro hh)|refine zq ?_|refine zv ?_|exact Sy.fin_val fun e=>rfl)));(all_goals (try conv => whnf)))
          refine Sy.loop_inv Sy.tab_ok (fun i : Nat => [(85, .c (.v (.int .i64 i)))]) (fun _ => []) (fun i => i ≤ la.length) (fun i => la.length - i) 0 (Nat.zero_le _) ?_ (fun i hi => ?_)
          · ((repeat' (first|((conv => whnf);done)|((try conv => whnf);first|exact trivial|(refine And.intro ?_ ?_)|rfl|exact fun _ _ _ h=>h|exact fun _ _ _ _=>trivial)));(all_goals (try conv => whnf)))
          · ((repeat' ((conv => whnf);(first|refine zA ?_|(refine zI ?_ ?_<;> intro hh<;> first|(exfalso;omega)|skip)|(refine zl ?_ ?_<;> intro hh)|refine zq ?_|refine zv ?_|exact Sy.fin_val fun e=>rfl)));(all_goals (try conv => whnf)))
            · have hil : i < la.length := by omega
              have hga := List.getElem?_eq_getElem hil
              generalize la[i] = o at *
              have hom := List.mem_of_getElem? hga
              obtain ⟨k, y', hk1, hk2, hk3⟩ := hR.at_ (show i < x.2.length by omega)
              have hkl : k < ls.length := by have := (List.getElem?_eq_some_iff.1 hk2).1; omega
              have hgy := List.getElem?_eq_getElem hkl
              generalize ls[k] = y at *
              have hy' : y' = y.op := by
                have := opsOf_get hgy
                rw [hk2] at this; exact Option.some.inj this
              have hoo : o.op = aloneO x.2 y.op := by
                have := opsOf_get hga
                rw [hla, hk3, hy'] at this; exact (Option.some.inj this).symm
              have e1 : o.op.tag = y.op.tag := by rw [hoo]; rfl
              have e2 : o.op.width = y.op.width := by rw [hoo]; rfl
              have e3 : o.op.a = y.op.a := by rw [hoo]; rfl
              have e4 : o.op.b = y.op.b := by rw [hoo]; rfl
              have e5 : o.op.ins.length = y.op.ins.length := by rw [hoo]; exact List.length_map _
              have hym := List.mem_of_getElem? hgy
              refine Sy.el_map _ hga ?_
              ((repeat' ((conv => whnf);(first|refine zA ?_|(refine zI ?_ ?_<;> intro hh<;> first|(exfalso;omega)|skip)|(refine zl ?_ ?_<;> intro hh)|refine zq ?_|refine zv ?_|exact Sy.fin_val fun e=>rfl)));(all_goals (try conv => whnf)))
              refine Sy.draw_go [] (by kernel_rfl) ?_
              intro e0
              conv => whnf
              refine zt 0 rfl ?_
              conv => whnf
              refine zt 1 rfl ?_
              conv => whnf
              refine zt 2 rfl ?_
              conv => whnf
              refine zt 3 rfl ?_
              conv => whnf
              refine zt 4 rfl ?_
              (conv => whnf);(repeat' ((first|refine zA ?_|(refine zI ?_ ?_<;> intro hh<;> first|(exfalso;omega)|skip)|(refine zl ?_ ?_<;> intro hh)|refine zq ?_|refine zv ?_|refine zu ?_|exact Sy.fin_val fun e=>rfl);(try conv => whnf)))
              refine zt 5 rfl ?_
              conv => whnf
              refine Sy.el_map _ hk1 ?_
              conv => whnf
              refine zt 6 rfl ?_
              (conv => whnf);(repeat' ((first|refine zA ?_|(refine zI ?_ ?_<;> intro hh<;> first|(exfalso;omega)|skip)|(refine zl ?_ ?_<;> intro hh)|refine zq ?_|refine zv ?_|refine zu ?_|exact Sy.fin_val fun e=>rfl);(try conv => whnf)))
              refine zt 7 rfl ?_
              conv => whnf
              refine Sy.el_map y hgy ?_
              conv => whnf
              refine zd1 [8] (zx rfl ?_ zy)
              conv => whnf
              refine ⟨(by repeat' ((conv => whnf);first|exact trivial|(refine And.intro ?_ ?_)|rfl)), ?_⟩
              refine zd1 [9] (zx rfl ?_ zy)
              conv => whnf
              refine ⟨(by repeat' ((conv => whnf);first|exact trivial|(refine And.intro ?_ ?_)|rfl)), ?_⟩
              refine zw ?_
              skip
              ((repeat' ((conv => whnf);(first|refine zA ?_|(refine zI ?_ ?_<;> intro hh<;> first|(exfalso;omega)|skip)|(refine zl ?_ ?_<;> intro hh)|refine zq ?_|refine zv ?_|exact Sy.fin_val fun e=>rfl)));(all_goals (try conv => whnf)))
              refine Sy.open_ext 1 o.op.ins.length (o.op.ins.map encI) (fun e a w' h => ((hE2 w' (h.ev w' fun _ _ => rfl).1).2 _ (List.mem_map.2 ⟨o, hom, rfl⟩)).keep (fun b hb => .inl hb) (fun _ _ => rfl)) Sy.ints_one ?_
              ((repeat' ((conv => whnf);(first|refine zA ?_|(refine zI ?_ ?_<;> intro hh<;> first|(exfalso;omega)|skip)|(refine zl ?_ ?_<;> intro hh)|refine zq ?_|refine zv ?_|exact Sy.fin_val fun e=>rfl)));(all_goals (try conv => whnf)))
              refine Sy.open_ext 1 y.op.ins.length (y.op.ins.map encI) (fun e a w' h => (((hE w' (hE2 w' (h.ev w' fun _ _ => rfl).1).1).1 y hym).mono fun b hb => .inl (hF2 b hb)).1) Sy.ints_one ?_
              ((repeat' ((conv => whnf);(first|refine zA ?_|(refine zI ?_ ?_<;> intro hh<;> first|(exfalso;omega)|skip)|(refine zl ?_ ?_<;> intro hh)|refine zq ?_|refine zv ?_|exact Sy.fin_val fun e=>rfl)));(all_goals (try conv => whnf)))
              refine ⟨i + 1, by omega, by omega, ?_⟩
              ((repeat' (first|((conv => whnf);done)|((try conv => whnf);first|exact trivial|(refine And.intro ?_ ?_)|rfl|exact fun _ _ _ h=>h|exact fun _ _ _ _=>trivial)));(all_goals (try conv => whnf)))
            · refine Sy.call_val (.c (.v (.int .i64 (subtasks (aloneL (opsOf ls) r))))) Try.call20 rfl (fun e a w' h => by
                have h3 : ∀ o ∈ la, OOk (fun b => b < w'.heap.size) w' o := fun o ho => ⟨((hE2 w' (h.ev w' fun _ _ => rfl).1).2 _ (List.mem_map.2 ⟨o, ho, rfl⟩)).keep (fun b hb => h.fl b (.inl hb)) (fun _ _ => rfl), Sy.ints_one⟩
                first | (have h2 := subtasks_any (e.rv 10) la w' ⟨Sy.row_reads h (.inl ⟨_, rfl⟩), h3⟩; rw [hla] at h2; exact h2) | (have h2 := subtasks_any (e.rv 9) la w' ⟨Sy.row_reads h (.inl ⟨_, rfl⟩), h3⟩; rw [hla] at h2; exact h2)) ?_
              ((repeat' ((conv => whnf);(first|refine zA ?_|(refine zI ?_ ?_<;> intro hh<;> first|(exfalso;omega)|skip)|(refine zl ?_ ?_<;> intro hh)|refine zq ?_|refine zv ?_|exact Sy.fin_val fun e=>rfl)));(all_goals (try conv => whnf)))
              refine' ⟨(m + 1, _, _), ?c1, ?c2, ?c3⟩
              case c3 =>
                dsimp only
                rw [hsO, hsT, ← hll]
                ((repeat' (first|((conv => whnf);done)|((try conv => whnf);first|exact trivial|(refine And.intro ?_ ?_)|rfl|exact fun _ _ _ h=>h|exact fun _ _ _ _=>trivial)));(all_goals (try conv => whnf)))
              case c1 => exact ⟨by dsimp only; omega, by dsimp only; rw [hsO, hsT]; omega, fun w' hw => ⟨fun o ho => ((hE w' (hE2 w' hw.1).1).1 o ho).mono fun b hb => .inl (hF2 b hb), fun y hy => XD.ok.mono ((hE w' (hE2 w' hw.1).1).2 y hy) fun b hb => .inl (hF2 b hb)⟩⟩
              case c2 => dsimp only; omega
      · have e : m = us.length := by omega
        subst e
        have ho : opsTo (opsOf ls) us.length = ls.length := by rw [hur, ops_all, hol]
        have ht : tasksTo (opsOf ls) us.length = subtasks (opsOf ls) := by rw [hur, tasks_all h0]; unfold subtasks; rw [if_pos h0]
        rw [ho, ht]
        ((repeat' ((conv => whnf);(first|refine zA ?_|(refine zI ?_ ?_<;> intro hh<;> first|(exfalso;omega)|skip)|(refine zl ?_ ?_<;> intro hh)|refine zq ?_|refine zv ?_|exact Sy.fin_val fun e=>rfl)));(all_goals (try conv => whnf)))
        refine Sy.call_val (.c (.v (.int .i64 (subtasks (opsOf ls))))) Try.call20 rfl (fun e a w' h => subtasks_any (e.rv 1) ls w' ⟨Sy.row_reads h (.inl ⟨_, rfl⟩), fun o ho => ((hE w' (h.ev w' fun _ _ => rfl)).1 o ho).mono h.fl⟩) ?_
        ((repeat' ((conv => whnf);(first|refine zA ?_|(refine zI ?_ ?_<;> intro hh<;> first|(exfalso;omega)|skip)|(refine zl ?_ ?_<;> intro hh)|refine zq ?_|refine zv ?_|exact Sy.fin_val fun e=>rfl)));(all_goals (try conv => whnf)))
        exact Sy.fin_val (fun e => congrArg Value.bool (beq_self_eq_true _))
  · have he : us = [] := by
      have : rowsOf us = [] := by rw [hus]; unfold allL; exact if_neg h0
      unfold rowsOf at this
      exact List.map_eq_nil_iff.1 this
    subst he
    ((repeat' ((conv => whnf);(first|refine zA ?_|(refine zI ?_ ?_<;> intro hh<;> first|(exfalso;omega)|skip)|(refine zl ?_ ?_<;> intro hh)|refine zq ?_|refine zv ?_|exact Sy.fin_val fun e=>rfl)));(all_goals (try conv => whnf)))
    all_goals done
end Go.Proofs.Ythmcknchkecciaa
