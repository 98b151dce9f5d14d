/-
  The symbolic executor, 11: weaker states by their parts; what a loop keeps.
-/
import Derived.Test.YteldohidnepaoaaSy10
namespace Go.Proofs.Yteldohidnepaoaa.Sy
open Go Go.RowKit

/-! ### Which number of the one state is which number of the other -/
def pairC : C → C → List (Nat × Nat)
  | .loc k _, .loc k' _ => [(k, k')]
  | .row k, .row k' => [(k, k')]
  | .ep k _ _, .ep k' _ _ => [(k, k')]
  | .sl k _ _, .sl k' _ _ => [(k, k')]
  | _, _ => []
def pairL : List C → List C → List (Nat × Nat)
  | c :: r, c' :: r' => pairC c c' ++ pairL r r'
  | _, _ => []
def pairSV : SV → SV → List (Nat × Nat)
  | .c x, .c y => pairC x y
  | .agg x, .agg y => pairL x y
  | _, _ => []
def pairBlk : Blk → Blk → List (Nat × Nat)
  | .cells _ x, .cells _ y => pairL x y
  | .fn _ x, .fn _ y => pairL x y
  | _, _ => []
def rhoFr (fr : List (Nat × SV)) : List (Nat × SV) → List (Nat × Nat)
  | [] => []
  | (t, v) :: r => (match get fr t with
    | some v' => pairSV v v' ++ rhoFr fr r
    | none => rhoFr fr r)
def rhoG : List (List (Nat × SV)) → List (List (Nat × SV)) → List (Nat × Nat)
  | f :: r, f' :: r' => rhoFr f f' ++ rhoG r r'
  | _, _ => []
def ap (r : List (Nat × Nat)) (k : Nat) : Nat := match get r k with
  | some j => j
  | none => k
def rhoH (H : List (Nat × Blk)) (r : List (Nat × Nat)) : List (Nat × Blk) → List (Nat × Nat)
  | [] => []
  | (k, b) :: l => (match get H (ap r k) with
    | some b' => pairBlk b b' ++ rhoH H r l
    | none => rhoH H r l)
/-- Each number once. -/
def dedupR (seen : List Nat) : List (Nat × Nat) → List (Nat × Nat)
  | [] => []
  | (k, j) :: r => (match seen.any (Nat.beq k) with
    | true => dedupR seen r
    | false => (k, j) :: dedupR (k :: seen) r)
def forceR : List (Nat × Nat) → (List (Nat × Nat) → Prop) → Prop
  | [], K => K []
  | (k, j) :: r, K => forceNat k fun k => forceNat j fun j => forceR r fun r => K ((k, j) :: r)
theorem forceR_eq : ∀ (l : List (Nat × Nat)) (K : List (Nat × Nat) → Prop), forceR l K = K l
  | [], K => rfl
  | (t, v) :: r, K => by simp only [forceR, forceNat_eq, forceR_eq r]
def findK (S S' : St) (K : List (Nat × Nat) → Prop) : Prop :=
  forceR (dedupR [] (rhoFr S.fr S'.fr ++ rhoG S.g S'.g)) fun r => forceR (dedupR [] (r ++ rhoH S.H r S'.H)) fun r => forceR (dedupR [] (r ++ rhoH S.H r S'.H)) K
theorem findK_get {S S' : St} {K : List (Nat × Nat) → Prop} (h : findK S S' K) : ∃ r, K r := by
  unfold findK at h
  simp only [forceR_eq] at h
  exact ⟨_, h⟩

/-! ### The second state says less: target first, source second -/
section
variable (ρ : Nat → Nat) (n : Nat)
def idOk (k k' : Nat) : Prop := (Nat.beq k' (ρ k) && Nat.blt k n) = true
def CEq : C → C → Prop
  | .v x, .v y => y = x
  | .loc k o, .loc k' o' => idOk ρ n k k' ∧ o' = o
  | .row k, .row k' => idOk ρ n k k'
  | .ep k i o, .ep k' i' o' => idOk ρ n k k' ∧ i' = i ∧ o' = o
  | .sl k o m, .sl k' o' m' => idOk ρ n k k' ∧ o' = o ∧ m' = m
  | _, _ => False
def CsEq : List C → List C → Prop
  | [], [] => True
  | c :: r, c' :: r' => CEq ρ n c c' ∧ CsEq r r'
  | _, _ => False
def SVEq : SV → SV → Prop
  | .c x, .c y => CEq ρ n x y
  | .agg x, .agg y => CsEq ρ n x y
  | .un, .un => True
  | _, _ => False
def CssEq : List (List C) → List (List C) → Prop
  | [], [] => True
  | c :: r, c' :: r' => CsEq ρ n c c' ∧ CssEq r r'
  | _, _ => False
def ElsEq : Els → Els → Prop
  | .vs x, .vs y => y = x
  | .cs x, .cs y => CssEq ρ n x y
  | _, _ => False
def BlkEq : Blk → Blk → Prop
  | .cells t x, .cells t' y => t' = t ∧ CsEq ρ n x y
  | .row t z m x, .row t' z' m' y => (t' = t ∧ z' = z) ∧ m' = m ∧ ElsEq ρ n x y
  | .ext z m x, .ext z' m' y => z' = z ∧ m' = m ∧ ElsEq ρ n x y
  | .buf t z m x, .buf t' z' m' y => (t' = t ∧ z' = z) ∧ m' = m ∧ ElsEq ρ n x y
  | .fn f x, .fn f' y => f' = f ∧ CsEq ρ n x y
  | .lrec j nt ps as bd st, .lrec j' nt' ps' as' bd' st' => (j' = j ∧ nt' = nt ∧ ps' = ps) ∧ as' = as ∧ bd' = bd ∧ st' = st
  | .mp es, .mp es' => es' = es
  | .dead, _ => True
  | _, _ => False
def SubFr (fr : List (Nat × SV)) : List (Nat × SV) → Prop
  | [] => True
  | (t, v) :: r => (match get fr t with
    | some v' => SVEq ρ n v v'
    | none => False) ∧ SubFr fr r
def SubH (H : List (Nat × Blk)) : List (Nat × Blk) → Prop
  | [] => True
  | (k, b) :: r => (match get H (ρ k) with
    | some b' => BlkEq ρ n b b'
    | none => False) ∧ Nat.blt k n = true ∧ SubH H r
def SubG : List (List (Nat × SV)) → List (List (Nat × SV)) → Prop
  | [], [] => True
  | f :: r, f' :: r' => SubFr ρ n f f' ∧ SubG r r'
  | _, _ => False
end
/-- No two of these numbers become one. -/
def apartB (ρ : Nat → Nat) : List (Nat × Blk) → Bool
  | [] => true
  | (k, _) :: r => match r.all (fun x => !(Nat.beq (ρ x.1) (ρ k)) || Nat.beq x.1 k) with
    | true => apartB ρ r
    | false => false
def fixB (ρ : Nat → Nat) (n0 nx : Nat) : Bool := match Nat.ble n0 nx with
  | true => (List.range n0).all fun k => Nat.beq (ρ k) k
  | false => false
def pinB (ρ : Nat → Nat) (nx : Nat) : List (Nat × Nat) → Bool
  | [] => true
  | (k, _) :: r => match Nat.beq (ρ k) k && Nat.blt k nx with
    | true => pinB ρ nx r
    | false => false
theorem pinB_get {ρ : Nat → Nat} {nx : Nat} : ∀ {l : List (Nat × Nat)}, pinB ρ nx l = true → ∀ p ∈ l, ρ p.1 = p.1 ∧ p.1 < nx
  | [], _, p, hp => by cases hp
  | (k, v) :: r, h, p, hp => by
    unfold pinB at h
    split at h
    · rename_i hk
      rw [Bool.and_eq_true] at hk
      rcases List.mem_cons.1 hp with rfl | hp
      · exact ⟨Nat.eq_of_beq_eq_true hk.1, blt_iff.1 hk.2⟩
      · exact pinB_get h p hp
    · cases h
def SubOk (r : List (Nat × Nat)) (X : Cx) (S S' : St) : Prop :=
  SubFr (ap r) S'.nx S.fr S'.fr ∧ SubH (ap r) S'.nx S.H S'.H ∧ apartB (ap r) S'.H = true ∧ SubG (ap r) S'.nx S.g S'.g ∧ fixB (ap r) X.n0 S'.nx = true ∧ pinB (ap r) S'.nx X.pins = true

/-- So it is worked out. -/
def SubGo (X : Cx) (S S' : St) : Prop := St.forceAll S fun S => St.forceAll S' fun S' => match S with
  | ⟨fr, H, nx, F, E, g⟩ => (match S' with
    | ⟨fr', H', nx', F', E', g'⟩ => (F' = F ∧ E' = E) ∧ findK ⟨fr, H, nx, F, E, g⟩ ⟨fr', H', nx', F', E', g'⟩ fun r => SubOk r X ⟨fr, H, nx, F, E, g⟩ ⟨fr', H', nx', F', E', g'⟩)
theorem subGo_get {X : Cx} {S S' : St} (h : SubGo X S S') : (∃ r, SubOk r X S S') ∧ S'.F = S.F ∧ S'.E = S.E := by
  unfold SubGo at h
  rw [forceAll_eq, forceAll_eq] at h
  cases S; cases S'
  exact ⟨findK_get h.2, h.1.1, h.1.2⟩
def Env.ren (e : Env) (ρ : Nat → Nat) : Env := ⟨fun k => e.ad (ρ k), fun k => e.rv (ρ k), fun k => e.ra (ρ k), fun k => e.es (ρ k), fun k => e.cp (ρ k), e.G⟩
section
variable {ρ : Nat → Nat} {n m : Nat} {e : Env}
theorem idOk_get {k k' : Nat} (h : idOk ρ n k k') : k' = ρ k ∧ Nat.blt k n = true := by
  unfold idOk at h
  rw [Bool.and_eq_true] at h
  exact ⟨Nat.eq_of_beq_eq_true h.1, h.2⟩
theorem CEq.den {c c' : C} (h : CEq ρ n c c') : c'.den e = c.den (e.ren ρ) ∧ (c'.lt m = true → c.lt n = true) := by
  cases c <;> cases c' <;> simp only [CEq] at h <;> first | exact h.elim | skip
  · subst h; exact ⟨rfl, fun h => h⟩
  · obtain ⟨h, rfl⟩ := h; obtain ⟨rfl, h2⟩ := idOk_get h; exact ⟨rfl, fun _ => h2⟩
  · obtain ⟨rfl, h2⟩ := idOk_get h; exact ⟨rfl, fun _ => h2⟩
  · obtain ⟨h, rfl, rfl⟩ := h; obtain ⟨rfl, h2⟩ := idOk_get h; exact ⟨rfl, fun _ => h2⟩
  · obtain ⟨h, rfl, rfl⟩ := h; obtain ⟨rfl, h2⟩ := idOk_get h; exact ⟨rfl, fun _ => h2⟩
theorem CsEq.den : ∀ {x y : List C}, CsEq ρ n x y → y.map (C.den e) = x.map (C.den (e.ren ρ)) ∧ (ltAll m y = true → ltAll n x = true)
  | [], [], _ => ⟨rfl, fun _ => rfl⟩
  | c :: r, c' :: r', h => by
    obtain ⟨h1, h2⟩ := h
    obtain ⟨i1, i2⟩ := CsEq.den h2
    obtain ⟨j1, j2⟩ := h1.den (e := e) (m := m)
    refine ⟨by rw [List.map_cons, List.map_cons, j1, i1], fun hl => ltAll_of fun x hx => ?_⟩
    rcases List.mem_cons.1 hx with rfl | hx
    · exact j2 (ltAll_mem hl _ (by simp))
    · exact ltAll_mem (i2 (ltAll_of fun y hy => ltAll_mem hl y (by simp [hy]))) x hx
  | [], _ :: _, h => h.elim
  | _ :: _, [], h => h.elim
theorem SVEq.den {x y : SV} (h : SVEq ρ n x y) : y.den e = x.den (e.ren ρ) ∧ (y.lt m = true → x.lt n = true) := by
  cases x <;> cases y <;> simp only [SVEq] at h <;> first | exact h.elim | skip
  · exact h.den
  · obtain ⟨h1, h2⟩ := h.den (e := e) (m := m); exact ⟨by simp only [SV.den, h1], h2⟩
  · exact ⟨rfl, fun _ => rfl⟩
theorem CssEq.den : ∀ {x y : List (List C)}, CssEq ρ n x y → y.map (fun c => c.map (C.den e)) = x.map (fun c => c.map (C.den (e.ren ρ))) ∧ ((∀ c ∈ y, ltAll m c = true) → ∀ c ∈ x, ltAll n c = true)
  | [], [], _ => ⟨rfl, fun _ c hc => by cases hc⟩
  | c :: r, c' :: r', h => by
    obtain ⟨h1, h2⟩ := h
    obtain ⟨i1, i2⟩ := CssEq.den h2
    obtain ⟨j1, j2⟩ := h1.den (e := e) (m := m)
    refine ⟨by simp only [List.map_cons, j1, i1], fun hl d hd => ?_⟩
    rcases List.mem_cons.1 hd with rfl | hd
    · exact j2 (hl _ (by simp))
    · exact i2 (fun y hy => hl y (by simp [hy])) d hd
  | [], _ :: _, h => h.elim
  | _ :: _, [], h => h.elim
theorem ElsEq.den {x y : Els} (h : ElsEq ρ n x y) : y.den e = x.den (e.ren ρ) ∧ (y.lt m → x.lt n) := by
  cases x <;> cases y <;> simp only [ElsEq] at h <;> first | exact h.elim | skip
  · subst h; exact ⟨rfl, fun h => h⟩
  · exact h.den
theorem BlkEq.den {F : Nat → Prop} {X : Cx} {k : Nat} {w : World} {b b' : Blk} (h : BlkEq ρ n b b') : (b'.holds F X e (ρ k) w → b.holds F X (e.ren ρ) k w) ∧ (b'.lt m → b.lt n) ∧ ∀ x, b.foot (e.ren ρ) k x → b'.foot e (ρ k) x := by
  cases b <;> cases b' <;> simp only [BlkEq] at h <;> first | exact h.elim | skip
  · obtain ⟨rfl, h⟩ := h
    obtain ⟨h1, h2⟩ := h.den (e := e) (m := m)
    exact ⟨fun hh => by
      show w.heap[e.ad (ρ k)]? = _
      rw [← h1]; exact hh, h2, fun x hx => hx⟩
  · obtain ⟨⟨rfl, rfl⟩, rfl, h⟩ := h
    obtain ⟨h1, h2⟩ := h.den (e := e) (m := m)
    exact ⟨fun hh => ⟨by rw [← h1]; exact hh.1, hh.2⟩, h2, fun x hx => hx⟩
  · obtain ⟨rfl, rfl, h⟩ := h
    obtain ⟨h1, h2⟩ := h.den (e := e) (m := m)
    exact ⟨fun hh => ⟨by rw [← h1]; exact hh.1, hh.2⟩, h2, fun x hx => hx⟩
  · obtain ⟨⟨rfl, rfl⟩, rfl, h⟩ := h
    obtain ⟨h1, h2⟩ := h.den (e := e) (m := m)
    exact ⟨fun hh => ⟨by rw [← h1]; exact hh.1, hh.2⟩, h2, fun x hx => hx⟩
  · obtain ⟨rfl, h⟩ := h
    obtain ⟨h1, h2⟩ := h.den (e := e) (m := m)
    exact ⟨fun hh => by
      show e.rv (ρ k) = _
      rw [← h1]; exact hh, h2, fun x hx => hx⟩
  · obtain ⟨⟨rfl, rfl, rfl⟩, rfl, rfl, rfl⟩ := h
    exact ⟨fun hh => hh, fun _ => trivial, fun x hx => hx⟩
  all_goals first
    | (subst h; exact ⟨fun hh => hh, fun hh => hh, fun x hx => hx⟩)
    | exact ⟨fun _ => trivial, fun _ => trivial, fun x hx => hx.elim⟩
theorem SubFr.mem {fr : List (Nat × SV)} : ∀ {l : List (Nat × SV)}, SubFr ρ n fr l → ∀ {t : Nat} {v : SV}, (t, v) ∈ l → ∃ v', get fr t = some v' ∧ SVEq ρ n v v'
  | [], _, t, v, hm => by cases hm
  | (t', u) :: r, h, t, v, hm => by
    rcases List.mem_cons.1 hm with he | hm
    · cases he
      have h := h.1
      split at h
      · rename_i v' hv'; exact ⟨v', hv', h⟩
      · exact h.elim
    · exact SubFr.mem h.2 hm
theorem SubH.mem {H : List (Nat × Blk)} : ∀ {l : List (Nat × Blk)}, SubH ρ n H l → ∀ {k : Nat} {b : Blk}, (k, b) ∈ l → ∃ b', get H (ρ k) = some b' ∧ BlkEq ρ n b b' ∧ Nat.blt k n = true
  | [], _, k, b, hm => by cases hm
  | (k', c) :: r, h, k, b, hm => by
    rcases List.mem_cons.1 hm with he | hm
    · cases he
      obtain ⟨h1, h2, _⟩ := h
      split at h1
      · rename_i b' hb'; exact ⟨b', hb', h1, h2⟩
      · exact h1.elim
    · exact SubH.mem h.2.2 hm
theorem SubG.get : ∀ {g g' : List (List (Nat × SV))}, SubG ρ n g g' → g.length = g'.length ∧ ∀ (i : Nat) (f' : List (Nat × SV)), g'[i]? = some f' → ∃ f, g[i]? = some f ∧ SubFr ρ n f f'
  | [], [], _ => ⟨rfl, fun i f h => by simp at h⟩
  | f :: r, f' :: r', h => by
    obtain ⟨h1, h2⟩ := h
    obtain ⟨i1, i2⟩ := SubG.get h2
    refine ⟨by simp [i1], fun i x hx => ?_⟩
    cases i with
    | zero =>
      simp only [List.getElem?_cons_zero, Option.some.injEq] at hx
      subst hx
      exact ⟨f, rfl, h1⟩
    | succ i => exact i2 i x hx
  | [], _ :: _, h => h.elim
  | _ :: _, [], h => h.elim
theorem apartB_mem : ∀ {l : List (Nat × Blk)}, apartB ρ l = true → ∀ {k k' : Nat} {b b' : Blk}, (k, b) ∈ l → (k', b') ∈ l → ρ k = ρ k' → k = k'
  | [], _, k, k', b, b', hm, _, _ => by cases hm
  | (j, c) :: r, h, k, k', b, b', hm, hm', he => by
    unfold apartB at h
    split at h
    · rename_i ha
      have hall : ∀ x ∈ r, ρ x.1 = ρ j → x.1 = j := fun x hx hxe => by
        have := List.all_eq_true.1 ha x hx
        simpa [hxe] using this
      rcases List.mem_cons.1 hm with e1 | hm <;> rcases List.mem_cons.1 hm' with e2 | hm'
      · cases e1; cases e2; rfl
      · cases e1; exact (hall _ hm' he.symm).symm
      · cases e2; exact hall _ hm he
      · exact apartB_mem h hm hm' he
    · cases h
end
section
variable {X : Cx} {e : Env} {S : St} {a : Act} {w : World}
/-- S' says less than S, up to the numbers of blocks. -/
theorem sub_of (r : List (Nat × Nat)) {S S' : St} (h : SubOk r X S S') (hF : S'.F = S.F) (hE : ∀ w, S.E w → S'.E w) : Sub X S S' := by
  refine ⟨?_⟩
  intro e a w hR
  obtain ⟨hfr, hH, hap, hG, hfix, hpin⟩ := h
  have fixed : X.n0 ≤ S'.nx ∧ ∀ k, k < X.n0 → ap r k = k := by
    unfold fixB at hfix
    split at hfix
    · rename_i hle
      exact ⟨Nat.le_of_ble_eq_true hle, fun k hk => Nat.eq_of_beq_eq_true (List.all_eq_true.1 hfix k (List.mem_range.2 hk))⟩
    · cases hfix
  have hg := SubG.get hG
  refine ⟨e.ren (ap r), hR.sz, fun t v hv => ?_, fun t v hv => ?_, fun k b hk => ?_, fun k b hk => ?_, fun k k' b b' x hk hk' hne hx hx' => ?_, fun k b x hk hx => ?_, hR.bel, fun x hx => ?_, fun x hx ho => ?_, fun w' hw => ?_, fun k => hR.one _, fun i f hf => ?_, by rw [← hg.1]; exact hR.glen, hR.mkd, hR.mnd, fun D hD => ?_, fun k hk => ?_, fixed.1, fun p hp => ?_, hR.rdm⟩
  · obtain ⟨v', h1, h2⟩ := hfr.mem (mem_of_get hv)
    rw [← (h2.den (e := e) (m := S.nx)).1]
    exact hR.fr t _ h1
  · obtain ⟨v', h1, h2⟩ := hfr.mem (mem_of_get hv)
    exact (h2.den (e := e) (m := S.nx)).2 (hR.frlt t _ h1)
  · obtain ⟨b', h1, h2, _⟩ := hH.mem (mem_of_get hk)
    rw [hF]
    exact (h2.den (m := S.nx)).1 (hR.hp _ _ h1)
  · obtain ⟨b', h1, h2, h3⟩ := hH.mem (mem_of_get hk)
    exact ⟨blt_iff.1 h3, (h2.den (F := S.F) (X := X) (w := w) (e := e) (k := k) (m := S.nx)).2.1 (hR.hlt _ _ h1).2⟩
  · have m1 := mem_of_get hk
    have m2 := mem_of_get hk'
    obtain ⟨c, h1, h2, _⟩ := hH.mem m1
    obtain ⟨c', h1', h2', _⟩ := hH.mem m2
    exact hR.sep _ _ _ _ x h1 h1' (fun e1 => hne (apartB_mem hap m1 m2 e1)) ((h2.den (F := S.F) (X := X) (w := w) (m := S.nx)).2.2 x hx) ((h2'.den (F := S.F) (X := X) (w := w) (m := S.nx)).2.2 x hx')
  · obtain ⟨c, h1, h2, _⟩ := hH.mem (mem_of_get hk)
    rw [hF]
    exact hR.ff _ _ x h1 ((h2.den (F := S.F) (X := X) (w := w) (m := S.nx)).2.2 x hx)
  · rw [hF] at hx; exact hR.fl x hx
  · rw [hF]; exact hR.f0 x hx ho
  · exact hE w' (hR.ev w' fun x hx => hw x (by rw [hF]; exact hx))
  · obtain ⟨f0, h1, h2⟩ := hg.2 i f hf
    obtain ⟨b, hb, hv⟩ := hR.gl i f0 h1
    refine ⟨b, hb, fun t v ht => ?_⟩
    obtain ⟨v', h3, h4⟩ := h2.mem (mem_of_get ht)
    obtain ⟨h5, h6⟩ := hv t v' h3
    exact ⟨by rw [← (h4.den (e := e) (m := S.nx)).1]; exact h5, (h4.den (e := e) (m := S.nx)).2 h6⟩
  · obtain ⟨h1, h2, h3⟩ := hR.mks D hD
    refine ⟨h1, by rw [hF]; exact h2, fun k b hk hx => ?_⟩
    obtain ⟨c, h4, h5, _⟩ := hH.mem (mem_of_get hk)
    exact h3 _ _ h4 ((h5.den (F := S.F) (X := X) (w := w) (m := S.nx)).2.2 D hx)
  · have := hR.es k hk
    show e.ad (ap r k) = _ ∧ e.rv (ap r k) = _ ∧ e.ra (ap r k) = _ ∧ e.es (ap r k) = _ ∧ e.cp (ap r k) = _
    rw [fixed.2 k hk]
    exact this
  · obtain ⟨h1, h2⟩ := pinB_get hpin p hp
    exact ⟨by show e.ad (ap r p.1) = _; rw [h1]; exact (hR.pin p hp).1, h2⟩
theorem sub_auto {S S' : St} (h : SubGo X S S') : Sub X S S' := by
  obtain ⟨⟨r, h1⟩, h2, h3⟩ := subGo_get h
  exact sub_of r h1 h2 fun w hw => by rw [h3]; exact hw

/-! ### What a loop keeps -/
def writesOps : List Oper → List Nat
  | [] => []
  | o :: r => (match o.dst with
    | some d => d :: writesOps r
    | none => writesOps r)
/-- The slots that code writes. -/
def writes : Code → List Nat
  | .region _ ops _ => writesOps ops.toList
  | .seq x y => writes x ++ writes y
  | .cond _ x y => writes x ++ writes y
  | .block _ x => writes x
  | .loop x => writes x
  | _ => []
def keepFr (ws : List Nat) : List (Nat × SV) → List (Nat × SV)
  | [] => []
  | (t, v) :: r => (match ws.any (Nat.beq t) with
    | true => keepFr ws r
    | false => (match v with
      | .tup _ => keepFr (t :: ws) r
      | v => (t, v) :: keepFr (t :: ws) r))
def dedupH (seen : List Nat) : List (Nat × Blk) → List (Nat × Blk)
  | [] => []
  | (k, b) :: r => (match seen.any (Nat.beq k) with
    | true => dedupH seen r
    | false => (match b with
      | .dead => dedupH (k :: seen) r
      | b => (k, b) :: dedupH (k :: seen) r))
/-- The region with which code begins. -/
def firstReg : Code → Option Nat
  | .region id _ _ => some id
  | .seq x y => (match firstReg x with
    | some i => some i
    | none => firstReg y)
  | .block _ x => firstReg x
  | .loop x => firstReg x
  | _ => none
def liveAt (X : Cx) (c : Code) : Option (List Nat) := match firstReg c with
  | some i => get X.lv i
  | none => none
/-- State S, but for these slots and blocks; the slots ws are not known. -/
def St.inv (S : St) (ws : List Nat) (fr : List (Nat × SV)) (H : List (Nat × Blk)) : St := match S with
  | ⟨fr0, H0, nx, F, E, g⟩ => ⟨fr ++ keepFr (fr.map (·.1) ++ ws) fr0, dedupH [] (H ++ H0), nx, F, E, g⟩
theorem loop_inv (hT : TabOk X.P X.T) {p : Code} {Q : Exit → St → Prop} {ι : Type} (fr : ι → List (Nat × SV)) (H : ι → List (Nat × Blk)) (ok : ι → Prop) (μ : ι → Nat) (i0 : ι) (h0 : ok i0)
    (hs : SubGo X (S.prune (liveAt X p)) ((S.prune (liveAt X p)).inv (writes p) (fr i0) (H i0)))
    (round : ∀ i, ok i → St.forceAll ((S.prune (liveAt X p)).inv (writes p) (fr i) (H i)) fun S1 => xcode X p S1 (then_ Q fun S' => ∃ j, ok j ∧ μ j < μ i ∧ SubGo X S' ((S.prune (liveAt X p)).inv (writes p) (fr j) (H j)))) : semP X (.loop p) S Q := by
  refine ⟨?_⟩
  intro e a w h Qr hQ
  obtain ⟨e0, hR0⟩ := sub_get (sub_auto hs) (h.prune (liveAt X p))
  refine wpIn_loop_ghost (fun n a w => ∃ i e, ok i ∧ μ i = n ∧ Rep X e ((S.prune (liveAt X p)).inv (writes p) (fr i) (H i)) a w) (μ i0) ⟨i0, e0, h0, rfl, hR0⟩ ?_
  rintro n a w ⟨i, e, hi, rfl, hR⟩
  have := round i hi
  rw [forceAll_eq] at this
  refine xcode_ok hT p hR this (compat_then hQ fun e' S' a' w' hR' hS' => ?_)
  obtain ⟨j, hj, hlt, h3⟩ := hS'
  obtain ⟨e2, hR2⟩ := sub_get (sub_auto h3) hR'
  exact ⟨μ j, hlt, j, e2, hj, rfl, hR2⟩
/-- The ways through x meet again: behind it one of the states 'inv' holds. -/
theorem cut_inv (hT : TabOk X.P X.T) {x y : Code} {Q : Exit → St → Prop} {ι : Type} (fr : ι → List (Nat × SV)) (H : ι → List (Nat × Blk)) (ok : ι → Prop)
    (hx : semP X x S (then_ Q fun S' => ∃ j, ok j ∧ SubGo X S' ((S.prune (liveAt X y)).inv (writes x) (fr j) (H j))))
    (hy : ∀ i, ok i → St.forceAll ((S.prune (liveAt X y)).inv (writes x) (fr i) (H i)) fun S1 => xcode X y S1 Q) : semP X (.seq x y) S Q := by
  refine ⟨?_⟩
  intro e a w h Qr hQ
  refine wpIn_seq (sem_get hx h (compat_then hQ fun e' S' a' w' hR hS' => ?_))
  obtain ⟨i, hi, h3⟩ := hS'
  obtain ⟨e2, hR2⟩ := sub_get (sub_auto h3) hR
  have := hy i hi
  rw [forceAll_eq] at this
  exact xcode_ok hT y hR2 this hQ
/-- A nil slice in a slot is a row of no elements. -/
theorem sub_row {S : St} (t ety esz : Nat) (ht : get S.fr t = some (.c (.v (.slice none 0 0)))) : Sub X S { S with fr := (t, .c (.row S.nx)) :: S.fr, H := (S.nx, .row ety esz 0 (.vs [])) :: S.H, nx := S.nx + 1 } := by
  refine ⟨?_⟩
  intro e a w h
  have hR := h.newRow (w' := w) (ety := ety) (esz := esz) (n := 0) (xs := .vs []) (v := .slice none 0 0) (fun c hc => by cases hc) rfl rfl rfl (Nat.le_refl _) (fun _ _ => rfl) ⟨rfl, fun c hc => (by cases hc), .inl ⟨none, rfl, rfl⟩⟩ (fun x hx => absurd hx (noRow_foot x))
  refine ⟨_, { hR with fr := fun i v hv => ?_, frlt := fun i v hv => ?_ }⟩
  · rcases get_cons hv with ⟨rfl, rfl⟩ | ⟨_, hv⟩
    · have := h.fr t _ ht
      simp only [SV.den, C.den, Env.withRow_rv] at this ⊢
      exact this
    · exact hR.fr i v hv
  · rcases get_cons hv with ⟨rfl, rfl⟩ | ⟨_, hv⟩
    · exact blt_iff.2 (Nat.lt_succ_self _)
    · exact hR.frlt i v hv
/-- A nil slice in a variable is a row of no elements. -/
theorem sub_rowc {S : St} (k o ety esz : Nat) {ty : Nat} {cs : List C} (hk : get S.H k = some (.cells ty cs)) (ho : cs[o]? = some (.v (.slice none 0 0))) : Sub X S { S with H := (k, .cells ty (cs.set o (.row S.nx))) :: (S.nx, .row ety esz 0 (.vs [])) :: S.H, nx := S.nx + 1 } := by
  refine ⟨?_⟩
  intro e a w h
  have hR := h.newRow (w' := w) (ety := ety) (esz := esz) (n := 0) (xs := .vs []) (v := .slice none 0 0) (fun c hc => by cases hc) rfl rfl rfl (Nat.le_refl _) (fun _ _ => rfl) ⟨rfl, fun c hc => (by cases hc), .inl ⟨none, rfl, rfl⟩⟩ (fun x hx => absurd hx (noRow_foot x))
  have hlt := h.hlt k _ hk
  have hk' : get (S.new (.row ety esz 0 (.vs []))).H k = some (.cells ty cs) := (get_other (Ne.symm (Nat.ne_of_lt hlt.1)) _ _).trans hk
  refine ⟨_, hR.setSame (k := k) (b0 := .cells ty (cs.set o (.row S.nx))) hk' (ltAll_of fun c hc => ?_) (fun _ hx => hx) ?_⟩
  · rcases List.mem_or_eq_of_mem_set hc with hc | rfl
    · exact C.lt_mono (Nat.le_succ _) (ltAll_mem hlt.2 c hc)
    · exact blt_iff.2 (Nat.lt_succ_self _)
  · have hh := hR.hp k _ hk'
    show w.heap[_]? = _
    rw [show w.heap[_]? = _ from hh, List.map_set]
    congr 3
    have e1 : C.den (e.withRow S.nx (.slice none 0 0) esz) (.row S.nx) = .slice none 0 0 := Env.withRow_rv _ _ _ _
    rw [e1]
    refine (List.ext_getElem? fun i => ?_)
    rw [List.getElem?_set]
    by_cases hi : o = i
    · subst hi
      obtain ⟨h1, h2⟩ := List.getElem?_eq_some_iff.1 ho
      rw [if_pos rfl, if_pos (by simpa using h1), List.getElem?_map, ho]
      rfl
    · simp [hi]
end
end Go.Proofs.Yteldohidnepaoaa.Sy
