/-
  The symbolic executor, 19: a row whose block is told: from there on a buffer.
-/
import Derived.Test.YtmahldelmbhjfaaGreatSyG
namespace Go.Proofs.YtmahldelmbhjfaaGreat.Sy
open Go Go.RowKit
section
variable {X : Cx} {e : Env} {S : St} {a : Act} {w : World}
def swapC (k j n : Nat) (c : C) : C := match c with
  | .row i => (match Nat.beq i k with
    | true => .sl j 0 n
    | false => .row i)
  | c => c
def swapL (k j n : Nat) : List C → List C
  | [] => []
  | c :: r => swapC k j n c :: swapL k j n r
def swapSV (k j n : Nat) (v : SV) : SV := match v with
  | .c x => .c (swapC k j n x)
  | .agg x => .agg (swapL k j n x)
  | v => v
def swapFr (k j n : Nat) : List (Nat × SV) → List (Nat × SV)
  | [] => []
  | (t, v) :: r => (t, swapSV k j n v) :: swapFr k j n r
def swapBlk (k j n : Nat) (b : Blk) : Blk := match b with
  | .cells t x => .cells t (swapL k j n x)
  | .fn f x => .fn f (swapL k j n x)
  | b => b
def swapH (k j n : Nat) : List (Nat × Blk) → List (Nat × Blk)
  | [] => []
  | (i, b) :: r => (i, swapBlk k j n b) :: swapH k j n r
def St.rowBuf (S : St) (k n ety esz cap : Nat) (xs : Els) : St := match S with
  | ⟨fr, H, nx, F, E, g⟩ => ⟨swapFr k nx n fr, (nx, .buf ety esz cap xs) :: (k, .dead) :: swapH k nx n H, nx + 1, F, E, g⟩
section
variable {k j n m : Nat} {e' : Env}
theorem swapC_den (he : C.den e (.row k) = C.den e' (.sl j 0 n)) (hs : Env.same m e e') {c : C} (hc : c.lt m = true) (hj : j < m + 1) : (swapC k j n c).den e' = c.den e ∧ (swapC k j n c).lt (m + 1) = true := by
  cases c with
  | row i =>
    unfold swapC
    dsimp only
    cases hb : Nat.beq i k with
    | true =>
      have := Nat.eq_of_beq_eq_true hb
      subst this
      exact ⟨he.symm, blt_iff.2 hj⟩
    | false => exact ⟨C.den_same hs hc, C.lt_mono (Nat.le_succ m) hc⟩
  | v x => exact ⟨rfl, hc⟩
  | loc i o => exact ⟨C.den_same hs hc, C.lt_mono (Nat.le_succ m) hc⟩
  | ep i o p => exact ⟨C.den_same hs hc, C.lt_mono (Nat.le_succ m) hc⟩
  | sl i o p => exact ⟨C.den_same hs hc, C.lt_mono (Nat.le_succ m) hc⟩
theorem swapL_den (he : C.den e (.row k) = C.den e' (.sl j 0 n)) (hs : Env.same m e e') (hj : j < m + 1) : ∀ {l : List C}, ltAll m l = true → (swapL k j n l).map (C.den e') = l.map (C.den e) ∧ ltAll (m + 1) (swapL k j n l) = true
  | [], _ => ⟨rfl, rfl⟩
  | c :: r, h => by
    have h1 := swapC_den he hs (ltAll_mem h c (by simp)) hj
    have h2 := swapL_den he hs hj (l := r) (ltAll_of fun x hx => ltAll_mem h x (by simp [hx]))
    exact ⟨by simp only [swapL, List.map_cons, h1.1, h2.1], by simp only [swapL, ltAll, h1.2, h2.2]⟩
theorem swapSV_den (he : C.den e (.row k) = C.den e' (.sl j 0 n)) (hs : Env.same m e e') (hj : j < m + 1) {v : SV} (hv : v.lt m = true) : (swapSV k j n v).den e' = v.den e ∧ (swapSV k j n v).lt (m + 1) = true := by
  cases v with
  | c x => exact swapC_den he hs hv hj
  | agg x => have := swapL_den he hs hj (l := x) hv; exact ⟨by simp only [swapSV, SV.den, this.1], this.2⟩
  | tup x => exact ⟨SV.den_same hs hv, SV.lt_mono (Nat.le_succ m) hv⟩
  | un => exact ⟨rfl, rfl⟩
theorem get_swapFr {t : Nat} {v : SV} : ∀ {l : List (Nat × SV)}, get (swapFr k j n l) t = some v → ∃ u, get l t = some u ∧ v = swapSV k j n u
  | [], h => by cases h
  | (i, u) :: r, h => by
    rcases get_cons h with ⟨rfl, rfl⟩ | ⟨hne, h⟩
    · exact ⟨u, get_same _ _ _, rfl⟩
    · obtain ⟨u', h1, h2⟩ := get_swapFr h
      exact ⟨u', by rw [get_other hne]; exact h1, h2⟩
theorem get_swapH {t : Nat} {v : Blk} : ∀ {l : List (Nat × Blk)}, get (swapH k j n l) t = some v → ∃ u, get l t = some u ∧ v = swapBlk k j n u
  | [], h => by cases h
  | (i, u) :: r, h => by
    rcases get_cons h with ⟨rfl, rfl⟩ | ⟨hne, h⟩
    · exact ⟨u, get_same _ _ _, rfl⟩
    · obtain ⟨u', h1, h2⟩ := get_swapH h
      exact ⟨u', by rw [get_other hne]; exact h1, h2⟩
theorem swapBlk_holds (he : C.den e (.row k) = C.den e' (.sl j 0 n)) (hs : Env.same m e e') (hj : j < m + 1) {F : Nat → Prop} {i : Nat} (hi : i < m) {b : Blk} (hb : b.lt m) (h : b.holds F X e i w) : (swapBlk k j n b).holds F X e' i w ∧ (swapBlk k j n b).lt (m + 1) := by
  have other : b.holds F X e' i w ∧ b.lt (m + 1) := ⟨Blk.holds_keep h hs hi hb (fun _ h => h) (fun _ _ => rfl) (fun _ _ => rfl), Blk.lt_mono (Nat.le_succ m) hb⟩
  obtain ⟨s1, s2, s3, s4, s5⟩ := hs i hi
  cases b with
  | cells t x =>
    have := swapL_den he hs hj (l := x) hb
    refine ⟨?_, this.2⟩
    show w.heap[e'.ad i]? = _
    rw [this.1, s1]; exact h
  | fn f x =>
    have := swapL_den he hs hj (l := x) hb
    refine ⟨?_, this.2⟩
    show e'.rv i = _
    rw [this.1, s2]; exact h
  | _ => exact other
theorem swapBlk_foot {i x : Nat} {b : Blk} (h : (swapBlk k j n b).foot e i x) : b.foot e i x := by cases b <;> exact h
end
/-- Row k, which is not empty, is a buffer from here on; its capacity is told. -/
theorem row_buf {c : Code} {Q : Exit → St → Prop} (k ety esz n : Nat) (xs : Els) (hH : get S.H k = some (.row ety esz n xs)) (hn : 0 < n) 
    (hc : ∀ cap, n ≤ cap → cap ≤ maxLen → St.forceAll (S.rowBuf k n ety esz cap xs) fun S' => semP X c S' Q) : semP X c S Q := by
  refine ⟨?_⟩
  intro e a w h Qr hQ
  obtain ⟨hown, hes, hra⟩ := h.hp k _ hH
  obtain ⟨hl, hsz, hcase⟩ := hown
  rcases hcase with ⟨A, _, h0⟩ | ⟨g, cap, hv, hB⟩
  · omega
  · have hle : n ≤ cap := by have := hB.2.1; omega
    have hc := hc cap hle hB.2.2.1
    rw [forceAll_eq] at hc
    have hlt := h.hlt k _ hH
    have hfk : rfoot (e.rv k) g := ⟨_, _, _, hv, hB.2.2.2.1, rfl⟩
    have hkill := h.kill k hlt.1
    have hR := hkill.newBuf (w' := w) (ety := ety) (esz := esz) (cap := cap) (g := g) (xs := xs) hlt.2 rfl rfl rfl (Nat.le_refl _) (fun _ _ => rfl) hB (fun hk => by
      refine h.not_kept hH (x := g) hfk ?_
      rcases hk with hk | ⟨k', b', hk', hne, hf⟩ | hk
      · exact .inl hk
      · rcases get_cons hk' with ⟨e1, e2⟩ | ⟨hne', hk2⟩
        · subst e2; exact hf.elim
        · exact .inr (.inl ⟨k', b', hk2, Ne.symm hne', hf⟩)
      · exact .inr (.inr hk))
    obtain ⟨fr, H, nx, F, E, gg⟩ := S
    have hs : Env.same nx e (e.withBuf nx g esz cap) := Env.withBuf_same e nx g esz cap
    have hat := Env.withBuf_at e nx g esz cap
    have he : C.den e (.row k) = C.den (e.withBuf nx g esz cap) (.sl nx 0 n) := by
      show e.rv k = .slice (some (((e.withBuf nx g esz cap).ra nx).add (0 * _))) n ((e.withBuf nx g esz cap).cp nx - 0)
      rw [hat.2.1, hat.2.2.2, hv, Nat.zero_mul]
      rfl
    have hR2 : Rep X (e.withBuf nx g esz cap) (St.rowBuf ⟨fr, H, nx, F, E, gg⟩ k n ety esz cap xs) a w := by
      have hget : ∀ i b, get ((nx, Blk.buf ety esz cap xs) :: (k, .dead) :: swapH k nx n H) i = some b → (∃ b', get ((nx, Blk.buf ety esz cap xs) :: (k, .dead) :: H) i = some b' ∧ (b = b' ∨ (b = swapBlk k nx n b' ∧ get H i = some b'))) := by
        intro i b hi
        rcases get_cons hi with ⟨rfl, rfl⟩ | ⟨hne, hi⟩
        · exact ⟨_, get_same _ _ _, .inl rfl⟩
        · rcases get_cons hi with ⟨rfl, rfl⟩ | ⟨hne', hi⟩
          · exact ⟨.dead, by rw [get_other hne]; exact get_same _ _ _, .inl rfl⟩
          · obtain ⟨u, h1, h2⟩ := get_swapH hi
            exact ⟨u, by rw [get_other hne, get_other hne']; exact h1, .inr ⟨h2, h1⟩⟩
      have hfoot : ∀ i b x, get ((nx, Blk.buf ety esz cap xs) :: (k, .dead) :: swapH k nx n H) i = some b → b.foot (e.withBuf nx g esz cap) i x → ∃ b', get ((nx, Blk.buf ety esz cap xs) :: (k, .dead) :: H) i = some b' ∧ b'.foot (e.withBuf nx g esz cap) i x := by
        intro i b x hi hx
        obtain ⟨b', h1, h2⟩ := hget i b hi
        rcases h2 with rfl | ⟨rfl, _⟩
        · exact ⟨_, h1, hx⟩
        · exact ⟨_, h1, swapBlk_foot hx⟩
      refine { hR with fr := fun t v ht => ?_, frlt := fun t v ht => ?_, hp := fun i b hi => ?_, hlt := fun i b hi => ?_, sep := fun i i' b b' x hi hi' hne hx hx' => ?_, ff := fun i b x hi hx => ?_, mks := fun D hD => ?_ }
      · obtain ⟨u, h1, rfl⟩ := get_swapFr ht
        rw [(swapSV_den he hs (Nat.lt_succ_self nx) (h.frlt t u h1)).1]
        exact h.fr t u h1
      · obtain ⟨u, h1, rfl⟩ := get_swapFr ht
        exact (swapSV_den he hs (Nat.lt_succ_self nx) (h.frlt t u h1)).2
      · obtain ⟨b', h1, h2⟩ := hget i b hi
        rcases h2 with rfl | ⟨rfl, h3⟩
        · exact hR.hp i _ h1
        · exact (swapBlk_holds he hs (Nat.lt_succ_self nx) (h.hlt i _ h3).1 (h.hlt i _ h3).2 (h.hp i _ h3)).1
      · obtain ⟨b', h1, h2⟩ := hget i b hi
        rcases h2 with rfl | ⟨rfl, h3⟩
        · exact hR.hlt i _ h1
        · exact ⟨Nat.lt_succ_of_lt (h.hlt i _ h3).1, (swapBlk_holds he hs (Nat.lt_succ_self nx) (h.hlt i _ h3).1 (h.hlt i _ h3).2 (h.hp i _ h3)).2⟩
      · obtain ⟨c, h1, h2⟩ := hfoot i b x hi hx
        obtain ⟨c', h1', h2'⟩ := hfoot i' b' x hi' hx'
        exact hR.sep i i' c c' x h1 h1' hne h2 h2'
      · obtain ⟨c, h1, h2⟩ := hfoot i b x hi hx
        exact hR.ff i c x h1 h2
      · obtain ⟨m1, m2, m3⟩ := hR.mks D hD
        exact ⟨m1, m2, fun i b hi hx => by
          obtain ⟨c, h1, h2⟩ := hfoot i b D hi hx
          exact m3 i c h1 h2⟩
    exact sem_get hc hR2 hQ

/-! ### A buffer's first elements become a row -/
theorem buf_row (h : Rep X e S a w) {k n ety esz cap : Nat} {xs : List (List Value)} (hH : get S.H k = some (.buf ety esz cap (.vs xs))) (hn : n ≤ xs.length) :
    Rep X (e.withRow S.nx (C.den e (.sl k 0 n)) esz) ((S.setH k .dead).new (.row ety esz n (.vs (xs.take n)))) a w := by
  obtain ⟨hown, hes, hcp, hra⟩ := h.hp k _ hH
  have hden : C.den e (.sl k 0 n) = .slice (some ⟨e.ad k, 0, none⟩) n cap := by
    simp only [C.den, Nat.zero_mul, hra, hcp, Nat.sub_zero]; rfl
  rw [hden]
  have hkill := h.kill k (h.hlt k _ hH).1
  obtain ⟨h1, h2, h3, h4, cur, h5, h6, h7, h8⟩ := hown
  have h1 : ∀ c ∈ xs, c.length = esz := h1
  have hl : (xs.take n).length = n := by rw [List.length_take]; omega
  have h2' : xs.length ≤ cap := h2
  have h7' : cur.toList.take (xs.length * esz) = xs.flatten := h7
  have hown2 : OwnE w ety esz (.slice (some ⟨e.ad k, 0, none⟩) n cap) n (xs.take n) := by
    refine ⟨hl, fun c hc => h1 c (List.mem_of_mem_take hc), .inr ⟨e.ad k, cap, rfl, fun c hc => h1 c (List.mem_of_mem_take hc), by rw [hl]; omega, h3, h4, cur, h5, h6, ?_, h8⟩⟩
    rw [hl, flat_take h1, ← h7', List.take_take, Nat.min_eq_left (Nat.mul_le_mul_right _ hn)]
  refine hkill.newRow (w' := w) (ety := ety) (esz := esz) (n := n) (xs := .vs (xs.take n)) (v := .slice (some ⟨e.ad k, 0, none⟩) n cap) (hown2.els_one) rfl rfl rfl (Nat.le_refl _) (fun _ _ => rfl) hown2 (fun x hx hk => ?_)
  obtain ⟨p, m, c, hv, hc, rfl⟩ := hx
  cases hv
  refine h.not_kept hH (x := e.ad k) rfl ?_
  rcases hk with hk | ⟨k', b', hk', hne, hf⟩ | hk
  · exact .inl hk
  · rcases get_cons hk' with ⟨e1, e2⟩ | ⟨hne', hk2⟩
    · subst e2; exact hf.elim
    · exact .inr (.inl ⟨k', b', hk2, Ne.symm hne', hf⟩)
  · exact .inr (.inr hk)
/-- A state that says less; the numbers are the same. -/
structure SubX (X : Cx) (S S' : St) : Prop where
  out : ∀ e a w, Rep X e S a w → ∃ e', Env.same S.nx e e' ∧ Rep X e' S' a w
theorem SubX.sub {S S' : St} (h : SubX X S S') : Sub X S S' := ⟨fun e a w hR => by obtain ⟨e', _, h2⟩ := h.out e a w hR; exact ⟨e', h2⟩⟩
theorem fin_subx {S S' : St} {v : SV} {R : Ending → World → Prop} (hs : SubX X S S') (hf : St.forceAll S' fun S' => finP X S' v R) (hv : v.lt S.nx = true := by rfl) : finP X S v R := fin_of fun e a w hR => by
  rw [forceAll_eq] at hf
  obtain ⟨e', h1, h2⟩ := hs.out e a w hR
  rw [← SV.den_same h1 hv]
  exact hf.out e' a w h2
/-- .. in a variable. -/
theorem sub_bufrowc {S : St} (k0 o k n ety esz cap : Nat) (xs : List (List Value)) {ty : Nat} {cs : List C} (h0 : get S.H k0 = some (.cells ty cs)) (ho : cs[o]? = some (.sl k 0 n)) (hH : get S.H k = some (.buf ety esz cap (.vs xs))) (hn : n ≤ xs.length) :
    SubX X S { S with H := (k0, .cells ty (cs.set o (.row S.nx))) :: (S.nx, .row ety esz n (.vs (xs.take n))) :: (k, .dead) :: S.H, nx := S.nx + 1 } := by
  refine ⟨fun e a w h => ?_⟩
  have hR := buf_row h hH hn
  have hs := Env.withRow_same e S.nx (C.den e (.sl k 0 n)) esz
  refine ⟨_, hs, ?_⟩
  have hne : k0 ≠ S.nx := Nat.ne_of_lt (h.hlt _ _ h0).1
  have hnk : k ≠ k0 := fun e1 => by subst e1; rw [hH] at h0; cases h0
  have h0' : get ((S.setH k .dead).new (.row ety esz n (.vs (xs.take n)))).H k0 = some (.cells ty cs) := by
    cases S
    show get ((_, _) :: (k, Blk.dead) :: _) k0 = _
    rw [get_other (Ne.symm hne), get_other hnk]
    exact h0
  have hlt0 := (h.hlt _ _ h0).2
  have hcs : ltAll (S.nx + 1) (cs.set o (.row S.nx)) = true := ltAll_of fun c hc => by
    rcases List.mem_or_eq_of_mem_set hc with hc | rfl
    · exact C.lt_mono (Nat.le_succ _) (ltAll_mem hlt0 c hc)
    · exact blt_iff.2 (Nat.lt_succ_self _)
  have hden : (cs.set o (.row S.nx)).map (C.den (e.withRow S.nx (C.den e (.sl k 0 n)) esz)) = cs.map (C.den e) := by
    rw [List.map_set, show C.den (e.withRow S.nx (C.den e (.sl k 0 n)) esz) (.row S.nx) = C.den e (.sl k 0 n) from Env.withRow_rv _ _ _ _, map_den_same hs hlt0]
    obtain ⟨hi, he⟩ := List.getElem?_eq_some_iff.1 ho
    refine List.ext_getElem? fun i => ?_
    rw [List.getElem?_set]
    split
    · rename_i hio
      subst hio
      simp [he, hi]
    · rfl
  have hset := hR.setSame (k := k0) (b0 := .cells ty (cs.set o (.row S.nx))) h0' (by cases S; exact hcs) (fun x hx => hx) (by
    show w.heap[(e.withRow S.nx (C.den e (.sl k 0 n)) esz).ad k0]? = _
    rw [hden]
    exact h.hp k0 _ h0)
  cases S
  exact hset
/-- .. that is handed back. -/
theorem fin_bufv {R : Ending → World → Prop} (k n ety esz cap : Nat) (xs : List (List Value)) (hH : get S.H k = some (.buf ety esz cap (.vs xs))) (hn : n ≤ xs.length)
    (hf : St.forceAll ((S.setH k .dead).new (.row ety esz n (.vs (xs.take n)))) fun S' => finP X S' (.c (.row S.nx)) R) : finP X S (.c (.sl k 0 n)) R := fin_of fun e a w hR => by
  rw [forceAll_eq] at hf
  have h2 := hf.out _ a w (buf_row hR hH hn)
  rw [show SV.den (e.withRow S.nx (C.den e (.sl k 0 n)) esz) (.c (.row S.nx)) = SV.den e (.c (.sl k 0 n)) from Env.withRow_rv _ _ _ _] at h2
  exact h2
end
end Go.Proofs.YtmahldelmbhjfaaGreat.Sy
/-
  The symbolic executor, 20: slices within variables that are opened ahead; what is handed back becomes known memory.
-/
namespace Go.Proofs.YtmahldelmbhjfaaGreat.Sy
open Go Go.RowKit
section
variable {X : Cx} {e : Env} {S : St} {a : Act} {w : World}
theorem set_den {e e' : Env} {m : Nat} (hs : Env.same m e e') {cs : List C} (hl : ltAll m cs = true) {o k : Nat} {u : Value} (ho : cs[o]? = some (.v u)) (hv : e'.rv k = u) : (cs.set o (.row k)).map (C.den e') = cs.map (C.den e) := by
  rw [List.map_set, show C.den e' (.row k) = u from hv, map_den_same hs hl]
  obtain ⟨hi, he⟩ := List.getElem?_eq_some_iff.1 ho
  refine List.ext_getElem? fun i => ?_
  rw [List.getElem?_set]
  split
  · rename_i hio
    subst hio
    simp [hi, he, C.den]
  · rfl
/-- A slice's value in a variable is opened. -/
theorem sub_open {S : St} (k o esz n : Nat) (xs : List (List Value)) {ty : Nat} {cs : List C} {u : Value} (hk : get S.H k = some (.cells ty cs)) (ho : cs[o]? = some (.v u)) (hr : ∀ e a w, Rep X e S a w → ReadsE S.F w esz u n xs) (h1 : ∀ c ∈ xs, ∀ x ∈ c, x.oneCell' = true) :
    Sub X S { S with H := (k, .cells ty (cs.set o (.row S.nx))) :: (S.nx, .ext esz n (.vs xs)) :: S.H, nx := S.nx + 1 } := by
  refine ⟨fun e a w h => ?_⟩
  have hR := h.newExt (esz := esz) (n := n) (xs := .vs xs) (v := u) h1 (hr e a w h)
  have hs := Env.withRow_same e S.nx u esz
  refine ⟨e.withRow S.nx u esz, ?_⟩
  have hlt0 := h.hlt _ _ hk
  have hne : k ≠ S.nx := Nat.ne_of_lt hlt0.1
  have hk' : get (S.new (.ext esz n (.vs xs))).H k = some (.cells ty cs) := by
    cases S
    show get ((_, _) :: _) k = _
    rw [get_other (Ne.symm hne)]
    exact hk
  have hcs : ltAll (S.nx + 1) (cs.set o (.row S.nx)) = true := ltAll_of fun c hc => by
    rcases List.mem_or_eq_of_mem_set hc with hc | rfl
    · exact C.lt_mono (Nat.le_succ _) (ltAll_mem hlt0.2 c hc)
    · exact blt_iff.2 (Nat.lt_succ_self _)
  have hset := hR.setSame (k := k) (b0 := .cells ty (cs.set o (.row S.nx))) hk' (by cases S; exact hcs) (fun x hx => hx) (by
    show w.heap[(e.withRow S.nx u esz).ad k]? = _
    rw [set_den hs hlt0.2 ho (Env.withRow_rv _ _ _ _)]
    exact h.hp k _ hk)
  cases S
  exact hset
/-- .. in a slot. -/
theorem sub_openS {S : St} (t esz n : Nat) (xs : List (List Value)) {u : Value} (ht : get S.fr t = some (.c (.v u))) (hr : ∀ e a w, Rep X e S a w → ReadsE S.F w esz u n xs) (h1 : ∀ c ∈ xs, ∀ x ∈ c, x.oneCell' = true) :
    Sub X S { S with fr := (t, .c (.row S.nx)) :: S.fr, H := (S.nx, .ext esz n (.vs xs)) :: S.H, nx := S.nx + 1 } := by
  refine ⟨fun e a w h => ?_⟩
  have hR := h.newExt (esz := esz) (n := n) (xs := .vs xs) (v := u) h1 (hr e a w h)
  refine ⟨e.withRow S.nx u esz, ?_⟩
  cases S with
  | mk fr H nx F E g =>
    refine { hR with fr := fun i v hv => ?_, frlt := fun i v hv => ?_ }
    · rcases get_cons hv with ⟨rfl, rfl⟩ | ⟨_, hv⟩
      · have h0 := h.fr t _ ht
        rw [h0]
        show some u = some ((e.withRow nx u esz).rv nx)
        rw [Env.withRow_rv]
      · exact hR.fr i v hv
    · rcases get_cons hv with ⟨rfl, rfl⟩ | ⟨_, hv⟩
      · exact blt_iff.2 (Nat.lt_succ_self _)
      · exact hR.frlt i v hv
/-- Cell t of a variable is another one of the same value: the way back is not needed. -/
theorem reads_w0 {esz n : Nat} {v : Value} {xs : List (List Value)} (hr : ReadsE (fun b => b < X.w0.heap.size ∧ ¬ X.own b) X.w0 esz v n xs) : ∀ e a w, Rep X e S a w → ReadsE S.F w esz v n xs := fun _ _ _ h => reads_later h hr

/-! ### What is handed back becomes known memory -/
def St.froz (S : St) (k : Nat) (F' : Nat → Prop) (E' : World → Prop) : St := match S with
  | ⟨fr, H, nx, _, _, g⟩ => ⟨fr, (k, .dead) :: H, nx, F', E', g⟩
/-- A row of nodes that lead to none. -/
theorem sub_ns {S : St} (k ety esz n : Nat) (l : List (List Value)) (ls : List (List Value)) (hk : get S.H k = some (.row ety esz n (.vs l))) (hl : l = ls.map fun x => Value.pointer none :: x) :
    Sub X S { S with H := (k, .row ety esz n (.ns k (ls.map fun x => (none, x)))) :: S.H } := by
  refine ⟨?_⟩
  intro e a w h
  have hlt := h.hlt k _ hk
  obtain ⟨h1, h2, h3⟩ := h.hp k _ hk
  have hd : (Els.ns k (ls.map fun x => (none, x))).den e = l := by
    rw [hl]
    simp only [Els.den, List.map_map]
    refine List.map_congr_left fun x _ => ?_
    show C.den e (.v (.pointer none)) :: (x.map C.v).map (C.den e) = _
    rw [map_den_v']; rfl
  have := h.sameBlk (b0 := .row ety esz n (.ns k (ls.map fun x => (none, x)))) hk ⟨hlt.1, fun x hx u hu => by
    obtain ⟨y, hy, rfl⟩ := List.mem_map.1 hx
    have hll : ∀ c ∈ l, ∀ u ∈ c, u.oneCell' = true := hlt.2
    exact hll (Value.pointer none :: y) (by rw [hl]; exact List.mem_map_of_mem hy) u (List.mem_cons_of_mem _ hu)⟩ (fun _ hx => hx) ⟨by rw [hd]; exact h1, h2, h3⟩
  exact ⟨e, by cases S; exact this⟩
theorem fin_nilrow {v : SV} {R : Ending → World → Prop} (ety esz : Nat) (v' : SV) (hden : ∀ e : Env, e.rv S.nx = .slice none 0 0 → v'.den e = v.den e)
    (hf : St.forceAll { S with H := (S.nx, .row ety esz 0 (.vs [])) :: S.H, nx := S.nx + 1 } fun S' => finP X S' v' R) (hv : v.lt S.nx = true := by rfl) : finP X S v R := fin_of fun e a w h => by
  rw [forceAll_eq] at hf
  have hR := h.newRow (w' := w) (ety := ety) (esz := esz) (n := 0) (xs := .vs []) (v := .slice none 0 0) (fun c hc => by cases hc) rfl rfl rfl (Nat.le_refl _) (fun _ _ => rfl) ⟨rfl, fun c hc => (by cases hc), .inl ⟨none, rfl, rfl⟩⟩ (fun x hx => absurd hx (noRow_foot x))
  have h1 := hf.out _ a w { hR with fr := fun i v hv => hR.fr i v hv, frlt := fun i v hv => hR.frlt i v hv }
  rw [hden _ (Env.withRow_rv e S.nx _ _)] at h1
  have hs : Env.same S.nx e (e.withRow S.nx (.slice none 0 0) esz) := Env.withRow_same e S.nx _ _
  rw [SV.den_same hs hv] at h1
  exact h1
theorem fin_freezev {R : Ending → World → Prop} (k ety esz n : Nat) (xs : List (List Value)) (hH : get S.H k = some (.row ety esz n (.vs xs)))
    (hc : ∀ (u : Value) (G : Nat → Prop), (∀ b, G b → ¬ S.F b) → u.oneCell' = true → St.forceAll (S.froz k (fun b => S.F b ∨ G b) (fun w => S.E w ∧ (XD.ok G w ⟨u, esz, n, xs⟩ ∧ ∀ b, G b → S.F b ∨ G b))) fun S' => finP X S' (.c (.v u)) R) : finP X S (.c (.row k)) R := fin_of fun e a w h => by
  have hh := h.hp k _ hH
  have hown : OwnE w ety esz (e.rv k) n xs := hh.1
  have hu1 := h.one k
  have hc := hc (e.rv k) (rfoot (e.rv k)) (fun b hb => h.ff k _ b hH hb) hu1
  rw [forceAll_eq] at hc
  have hkill := h.kill k (h.hlt k _ hH).1
  have hR := hkill.learn (G := rfoot (e.rv k)) (p := fun G w => XD.ok (rfoot (e.rv k)) w ⟨e.rv k, esz, n, xs⟩ ∧ ∀ b, rfoot (e.rv k) b → G b) (fun b hb => ⟨hown.lt hb, fun k' c hk' hf => ?_, fun hm => (h.mks b hm).2.2 k _ hH hb⟩)
    ⟨XD.ok.mono hown.reads (fun b hb => hb.2), fun b hb => hb⟩ (fun G G' w1 w2 hp hG hk' => ⟨⟨hp.1.1.keep (fun _ hb => hb) (fun b hb => hk' b (hp.2 b hb)), hp.1.2⟩, fun b hb => hG b (hp.2 b hb)⟩)
  · have hput : Rep X e (S.froz k (fun b => S.F b ∨ rfoot (e.rv k) b) (fun w => S.E w ∧ (XD.ok (rfoot (e.rv k)) w ⟨e.rv k, esz, n, xs⟩ ∧ ∀ b, rfoot (e.rv k) b → S.F b ∨ rfoot (e.rv k) b))) a w := by
      cases S; exact hR
    exact hc.out e a w hput
  · rcases get_cons hk' with ⟨e1, e2⟩ | ⟨hne, hk2⟩
    · subst e2; exact hf.elim
    · exact h.sep k k' _ c b hH hk2 hne hb hf
/-- A callee that hands back a row of its own hands back known memory. -/
theorem does_freeze {P : Program} {f : Nat} {avs : List SV} {n0 : Nat} {H0 H1 : List (Nat × Blk)} {pre : (Nat → Prop) → World → Prop} {ety esz n : Nat} {xs : List (List Value)}
    (hl : ∀ k b, get H1 k = some b → k < n0 ∧ b.lt n0)
    (h : Does P f { avs := avs, n0 := n0, H0 := H0, pre := pre, sv := fun _ : Unit => .c (.row n0), n1 := fun _ => n0 + 1, H1 := fun _ => (n0, .row ety esz n (.vs xs)) :: H1 }) :
    Does P f { avs := avs, n0 := n0, H0 := H0, pre := pre, sv := fun u : Value => .c (.v u), n1 := fun _ => n0, H1 := fun _ => H1, learn := true, q := fun u G w => XD.ok G w ⟨u, esz, n, xs⟩ } := by
  intro e0 w hO hpre
  refine (h e0 w hO hpre).mono fun E w' ⟨x, e1, G, hp, hE, hs, hb, hO1, hob, hfr, hlt, hn, hG, hq⟩ => ?_
  have hk : get ((n0, Blk.row ety esz n (.vs xs)) :: H1) n0 = some (.row ety esz n (.vs xs)) := get_same _ _ _
  have hget : ∀ k b, get H1 k = some b → get ((n0, Blk.row ety esz n (.vs xs)) :: H1) k = some b := fun k b hk' => by rw [get_other (Nat.ne_of_gt (hl k b hk').1)]; exact hk'
  have hown : OwnE w' ety esz (e1.rv n0) n xs := (hO1.hp { P := P, T := [], w0 := w, nt := 0 } n0 _ hk).1
  refine ⟨e1.rv n0, e1, rfoot (e1.rv n0), trivial, hE, hs, hb, ⟨fun X k b hk' => hO1.hp X k b (hget k b hk'), hl, fun k k' b b' y h1 h2 => hO1.sep k k' b b' y (hget k b h1) (hget k' b' h2), hO1.one⟩, fun k b hk' => hob k b (hget k b hk'),
    fun y ⟨k, b, hk', hy⟩ => hfr y ⟨k, b, hget k b hk', hy⟩, hO1.one n0, Nat.le_refl _, fun b hb' => ⟨hfr b ⟨n0, _, hk, hb'⟩, hown.lt hb', fun ⟨k, c, hk', hy⟩ => ?_⟩, XD.ok.mono hown.reads fun b hb => hb.2⟩
  exact hO1.sep n0 k _ c b hk (hget k c hk') (Nat.ne_of_gt (hl k c hk').1) hb' hy

/-! ### A loop at whose rounds' ends rows become known memory -/
structure endP (X : Cx) (S : St) (K : St → Prop) : Prop where
  out : ∀ e a w, Rep X e S a w → ∃ e' S', Rep X e' S' a w ∧ K S'
theorem end_here {K : St → Prop} (h : K S) : endP X S K := ⟨fun e _ _ hR => ⟨e, S, hR, h⟩⟩
def St.frozR (S : St) (k j ty sz m : Nat) (l : List (List Value)) (F' : Nat → Prop) (E' : World → Prop) : St := match S with
  | ⟨fr, H, nx, _, _, g⟩ => ⟨fr, (j, .row ty sz m (.vs l)) :: (k, .dead) :: H, nx, F', E', g⟩
/-- Row k becomes known memory; row j, whose elements name it, names a value. -/
theorem end_freeze {K : St → Prop} (k j : Nat) {ety esz n ty sz m : Nat} {xs : List (List Value)} {ys : Els} (ls : Value → List (List Value)) (hkj : k ≠ j) (hk : get S.H k = some (.row ety esz n (.vs xs))) (hj : get S.H j = some (.row ty sz m ys)) (hden : ∀ e : Env, ys.den e = ls (e.rv k))
    (hc : ∀ (u : Value) (G : Nat → Prop), (∀ b, G b → ¬ S.F b) → u.oneCell' = true → St.forceAll (S.frozR k j ty sz m (ls u) (fun b => S.F b ∨ G b) (fun w => S.E w ∧ (XD.ok G w ⟨u, esz, n, xs⟩ ∧ ∀ b, G b → S.F b ∨ G b))) fun S' => endP X S' K) : endP X S K := by
  refine ⟨fun e a w h => ?_⟩
  have hh := h.hp k _ hk
  have hown : OwnE w ety esz (e.rv k) n xs := hh.1
  have hj2 := h.hp j _ hj
  have hc := hc (e.rv k) (rfoot (e.rv k)) (fun b hb => h.ff k _ b hk hb) (h.one k)
  rw [forceAll_eq] at hc
  have hkill := h.kill k (h.hlt k _ hk).1
  have hR := hkill.learn (G := rfoot (e.rv k)) (p := fun G w => XD.ok (rfoot (e.rv k)) w ⟨e.rv k, esz, n, xs⟩ ∧ ∀ b, rfoot (e.rv k) b → G b) (fun b hb => ⟨hown.lt hb, fun k' c hk' hf => ?_, fun hm => (h.mks b hm).2.2 k _ hk hb⟩)
    ⟨XD.ok.mono hown.reads (fun b hb => hb.2), fun b hb => hb⟩ (fun G G' w1 w2 hp hG hk' => ⟨⟨hp.1.1.keep (fun _ hb => hb) (fun b hb => hk' b (hp.2 b hb)), hp.1.2⟩, fun b hb => hG b (hp.2 b hb)⟩)
  · have hd : OwnE w ty sz (e.rv j) m (ls (e.rv k)) := by rw [← hden e]; exact hj2.1
    cases S with
    | mk fr H nx F E g =>
      have hset := hR.setSame (k := j) (b := .row ty sz m ys) (b0 := .row ty sz m (.vs (ls (e.rv k)))) (by show get ((k, Blk.dead) :: H) j = _; rw [get_other hkj]; exact hj) hd.els_one (fun x hx => hx) ⟨hd, hj2.2⟩
      exact hc.out e a w hset
  · rcases get_cons hk' with ⟨e1, e2⟩ | ⟨hne, hk2⟩
    · subst e2; exact hf.elim
    · exact h.sep k k' _ c b hk hk2 hne hb hf
theorem loop_ends (hT : TabOk X.P X.T) {p : Code} {Q : Exit → St → Prop} {ι : Type} (fr : ι → List (Nat × SV)) (H : ι → List (Nat × Blk)) (F : ι → Nat → Prop) (E : ι → World → Prop) (ok : ι → Prop) (μ : ι → Nat) (i0 : ι) (h0 : ok i0)
    (hs : SubGo X (S.prune (liveAt X p)) (((S.prune (liveAt X p)).inv (writes p) (fr i0) (H i0)).knowing (F i0) (E i0)))
    (round : ∀ i, ok i → St.forceAll (((S.prune (liveAt X p)).inv (writes p) (fr i) (H i)).knowing (F i) (E i)) fun S1 => xcode X p S1 (then_ Q fun S' => endP X S' fun S'' => ∃ j, ok j ∧ μ j < μ i ∧ SubGo X S'' (((S.prune (liveAt X p)).inv (writes p) (fr j) (H j)).knowing (F j) (E j)))) : semP X (.loop p) S Q := by
  refine ⟨?_⟩
  intro e a w h Qr hQ
  obtain ⟨e0, hR0⟩ := sub_get (sub_auto hs) (h.prune (liveAt X p))
  refine wpIn_loop_ghost (fun n a w => ∃ i e, ok i ∧ μ i = n ∧ Rep X e (((S.prune (liveAt X p)).inv (writes p) (fr i) (H i)).knowing (F i) (E i)) a w) (μ i0) ⟨i0, e0, h0, rfl, hR0⟩ ?_
  rintro n a w ⟨i, e, hi, rfl, hR⟩
  have := round i hi
  rw [forceAll_eq] at this
  refine xcode_ok hT p hR this (compat_then hQ fun e' S' a' w' hR' hS' => ?_)
  obtain ⟨e1, S1, hR1, j, hj, hlt, h3⟩ := hS'.out e' a' w' hR'
  obtain ⟨e2, hR2⟩ := sub_get (sub_auto h3) hR1
  exact ⟨μ j, hlt, j, e2, hj, rfl, hR2⟩
end
end Go.Proofs.YtmahldelmbhjfaaGreat.Sy
