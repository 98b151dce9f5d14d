/-
  The symbolic executor, 19: a row whose block is told: from there on a buffer.
-/
import Derived.Test.YteldohidnepaoaaSy18
namespace Go.Proofs.Yteldohidnepaoaa.Sy
open Go Go.RowKit
section
variable {X : Cx} {e : Env} {S : St} {a : Act} {w : World}
def swapC (k j n : Nat) (c : C) : C := match c with
  | .row i => (match Nat.beq i k with
    | true => .sl j 0 n
    | false => .row i)
  | c => c
def swapL (k j n : Nat) : List C → List C
  | [] => []
  | c :: r => swapC k j n c :: swapL k j n r
def swapSV (k j n : Nat) (v : SV) : SV := match v with
  | .c x => .c (swapC k j n x)
  | .agg x => .agg (swapL k j n x)
  | v => v
def swapFr (k j n : Nat) : List (Nat × SV) → List (Nat × SV)
  | [] => []
  | (t, v) :: r => (t, swapSV k j n v) :: swapFr k j n r
def swapBlk (k j n : Nat) (b : Blk) : Blk := match b with
  | .cells t x => .cells t (swapL k j n x)
  | .fn f x => .fn f (swapL k j n x)
  | b => b
def swapH (k j n : Nat) : List (Nat × Blk) → List (Nat × Blk)
  | [] => []
  | (i, b) :: r => (i, swapBlk k j n b) :: swapH k j n r
def St.rowBuf (S : St) (k n ety esz cap : Nat) (xs : Els) : St := match S with
  | ⟨fr, H, nx, F, E, g⟩ => ⟨swapFr k nx n fr, (nx, .buf ety esz cap xs) :: (k, .dead) :: swapH k nx n H, nx + 1, F, E, g⟩
section
variable {k j n m : Nat} {e' : Env}
theorem swapC_den (he : C.den e (.row k) = C.den e' (.sl j 0 n)) (hs : Env.same m e e') {c : C} (hc : c.lt m = true) (hj : j < m + 1) : (swapC k j n c).den e' = c.den e ∧ (swapC k j n c).lt (m + 1) = true := by
  cases c with
  | row i =>
    unfold swapC
    dsimp only
    cases hb : Nat.beq i k with
    | true =>
      have := Nat.eq_of_beq_eq_true hb
      subst this
      exact ⟨he.symm, blt_iff.2 hj⟩
    | false => exact ⟨C.den_same hs hc, C.lt_mono (Nat.le_succ m) hc⟩
  | v x => exact ⟨rfl, hc⟩
  | loc i o => exact ⟨C.den_same hs hc, C.lt_mono (Nat.le_succ m) hc⟩
  | ep i o p => exact ⟨C.den_same hs hc, C.lt_mono (Nat.le_succ m) hc⟩
  | sl i o p => exact ⟨C.den_same hs hc, C.lt_mono (Nat.le_succ m) hc⟩
theorem swapL_den (he : C.den e (.row k) = C.den e' (.sl j 0 n)) (hs : Env.same m e e') (hj : j < m + 1) : ∀ {l : List C}, ltAll m l = true → (swapL k j n l).map (C.den e') = l.map (C.den e) ∧ ltAll (m + 1) (swapL k j n l) = true
  | [], _ => ⟨rfl, rfl⟩
  | c :: r, h => by
    have h1 := swapC_den he hs (ltAll_mem h c (by simp)) hj
    have h2 := swapL_den he hs hj (l := r) (ltAll_of fun x hx => ltAll_mem h x (by simp [hx]))
    exact ⟨by simp only [swapL, List.map_cons, h1.1, h2.1], by simp only [swapL, ltAll, h1.2, h2.2]⟩
theorem swapSV_den (he : C.den e (.row k) = C.den e' (.sl j 0 n)) (hs : Env.same m e e') (hj : j < m + 1) {v : SV} (hv : v.lt m = true) : (swapSV k j n v).den e' = v.den e ∧ (swapSV k j n v).lt (m + 1) = true := by
  cases v with
  | c x => exact swapC_den he hs hv hj
  | agg x => have := swapL_den he hs hj (l := x) hv; exact ⟨by simp only [swapSV, SV.den, this.1], this.2⟩
  | tup x => exact ⟨SV.den_same hs hv, SV.lt_mono (Nat.le_succ m) hv⟩
  | un => exact ⟨rfl, rfl⟩
theorem get_swapFr {t : Nat} {v : SV} : ∀ {l : List (Nat × SV)}, get (swapFr k j n l) t = some v → ∃ u, get l t = some u ∧ v = swapSV k j n u
  | [], h => by cases h
  | (i, u) :: r, h => by
    rcases get_cons h with ⟨rfl, rfl⟩ | ⟨hne, h⟩
    · exact ⟨u, get_same _ _ _, rfl⟩
    · obtain ⟨u', h1, h2⟩ := get_swapFr h
      exact ⟨u', by rw [get_other hne]; exact h1, h2⟩
theorem get_swapH {t : Nat} {v : Blk} : ∀ {l : List (Nat × Blk)}, get (swapH k j n l) t = some v → ∃ u, get l t = some u ∧ v = swapBlk k j n u
  | [], h => by cases h
  | (i, u) :: r, h => by
    rcases get_cons h with ⟨rfl, rfl⟩ | ⟨hne, h⟩
    · exact ⟨u, get_same _ _ _, rfl⟩
    · obtain ⟨u', h1, h2⟩ := get_swapH h
      exact ⟨u', by rw [get_other hne]; exact h1, h2⟩
theorem swapBlk_holds (he : C.den e (.row k) = C.den e' (.sl j 0 n)) (hs : Env.same m e e') (hj : j < m + 1) {F : Nat → Prop} {i : Nat} (hi : i < m) {b : Blk} (hb : b.lt m) (h : b.holds F X e i w) : (swapBlk k j n b).holds F X e' i w ∧ (swapBlk k j n b).lt (m + 1) := by
  have other : b.holds F X e' i w ∧ b.lt (m + 1) := ⟨Blk.holds_keep h hs hi hb (fun _ h => h) (fun _ _ => rfl) (fun _ _ => rfl), Blk.lt_mono (Nat.le_succ m) hb⟩
  obtain ⟨s1, s2, s3, s4, s5⟩ := hs i hi
  cases b with
  | cells t x =>
    have := swapL_den he hs hj (l := x) hb
    refine ⟨?_, this.2⟩
    show w.heap[e'.ad i]? = _
    rw [this.1, s1]; exact h
  | fn f x =>
    have := swapL_den he hs hj (l := x) hb
    refine ⟨?_, this.2⟩
    show e'.rv i = _
    rw [this.1, s2]; exact h
  | _ => exact other
theorem swapBlk_foot {i x : Nat} {b : Blk} (h : (swapBlk k j n b).foot e i x) : b.foot e i x := by cases b <;> exact h
end
/-- Row k, which is not empty, is a buffer from here on; its capacity is told. -/
theorem row_buf {c : Code} {Q : Exit → St → Prop} (k ety esz n : Nat) (xs : Els) (hH : get S.H k = some (.row ety esz n xs)) (hn : 0 < n) 
    (hc : ∀ cap, n ≤ cap → cap ≤ maxLen → St.forceAll (S.rowBuf k n ety esz cap xs) fun S' => semP X c S' Q) : semP X c S Q := by
  refine ⟨?_⟩
  intro e a w h Qr hQ
  obtain ⟨hown, hes, hra⟩ := h.hp k _ hH
  obtain ⟨hl, hsz, hcase⟩ := hown
  rcases hcase with ⟨A, _, h0⟩ | ⟨g, cap, hv, hB⟩
  · omega
  · have hle : n ≤ cap := by have := hB.2.1; omega
    have hc := hc cap hle hB.2.2.1
    rw [forceAll_eq] at hc
    have hlt := h.hlt k _ hH
    have hfk : rfoot (e.rv k) g := ⟨_, _, _, hv, hB.2.2.2.1, rfl⟩
    have hkill := h.kill k hlt.1
    have hR := hkill.newBuf (w' := w) (ety := ety) (esz := esz) (cap := cap) (g := g) (xs := xs) hlt.2 rfl rfl rfl (Nat.le_refl _) (fun _ _ => rfl) hB (fun hk => by
      refine h.not_kept hH (x := g) hfk ?_
      rcases hk with hk | ⟨k', b', hk', hne, hf⟩ | hk
      · exact .inl hk
      · rcases get_cons hk' with ⟨e1, e2⟩ | ⟨hne', hk2⟩
        · subst e2; exact hf.elim
        · exact .inr (.inl ⟨k', b', hk2, Ne.symm hne', hf⟩)
      · exact .inr (.inr hk))
    obtain ⟨fr, H, nx, F, E, gg⟩ := S
    have hs : Env.same nx e (e.withBuf nx g esz cap) := Env.withBuf_same e nx g esz cap
    have hat := Env.withBuf_at e nx g esz cap
    have he : C.den e (.row k) = C.den (e.withBuf nx g esz cap) (.sl nx 0 n) := by
      show e.rv k = .slice (some (((e.withBuf nx g esz cap).ra nx).add (0 * _))) n ((e.withBuf nx g esz cap).cp nx - 0)
      rw [hat.2.1, hat.2.2.2, hv, Nat.zero_mul]
      rfl
    have hR2 : Rep X (e.withBuf nx g esz cap) (St.rowBuf ⟨fr, H, nx, F, E, gg⟩ k n ety esz cap xs) a w := by
      have hget : ∀ i b, get ((nx, Blk.buf ety esz cap xs) :: (k, .dead) :: swapH k nx n H) i = some b → (∃ b', get ((nx, Blk.buf ety esz cap xs) :: (k, .dead) :: H) i = some b' ∧ (b = b' ∨ (b = swapBlk k nx n b' ∧ get H i = some b'))) := by
        intro i b hi
        rcases get_cons hi with ⟨rfl, rfl⟩ | ⟨hne, hi⟩
        · exact ⟨_, get_same _ _ _, .inl rfl⟩
        · rcases get_cons hi with ⟨rfl, rfl⟩ | ⟨hne', hi⟩
          · exact ⟨.dead, by rw [get_other hne]; exact get_same _ _ _, .inl rfl⟩
          · obtain ⟨u, h1, h2⟩ := get_swapH hi
            exact ⟨u, by rw [get_other hne, get_other hne']; exact h1, .inr ⟨h2, h1⟩⟩
      have hfoot : ∀ i b x, get ((nx, Blk.buf ety esz cap xs) :: (k, .dead) :: swapH k nx n H) i = some b → b.foot (e.withBuf nx g esz cap) i x → ∃ b', get ((nx, Blk.buf ety esz cap xs) :: (k, .dead) :: H) i = some b' ∧ b'.foot (e.withBuf nx g esz cap) i x := by
        intro i b x hi hx
        obtain ⟨b', h1, h2⟩ := hget i b hi
        rcases h2 with rfl | ⟨rfl, _⟩
        · exact ⟨_, h1, hx⟩
        · exact ⟨_, h1, swapBlk_foot hx⟩
      refine { hR with fr := fun t v ht => ?_, frlt := fun t v ht => ?_, hp := fun i b hi => ?_, hlt := fun i b hi => ?_, sep := fun i i' b b' x hi hi' hne hx hx' => ?_, ff := fun i b x hi hx => ?_, mks := fun D hD => ?_ }
      · obtain ⟨u, h1, rfl⟩ := get_swapFr ht
        rw [(swapSV_den he hs (Nat.lt_succ_self nx) (h.frlt t u h1)).1]
        exact h.fr t u h1
      · obtain ⟨u, h1, rfl⟩ := get_swapFr ht
        exact (swapSV_den he hs (Nat.lt_succ_self nx) (h.frlt t u h1)).2
      · obtain ⟨b', h1, h2⟩ := hget i b hi
        rcases h2 with rfl | ⟨rfl, h3⟩
        · exact hR.hp i _ h1
        · exact (swapBlk_holds he hs (Nat.lt_succ_self nx) (h.hlt i _ h3).1 (h.hlt i _ h3).2 (h.hp i _ h3)).1
      · obtain ⟨b', h1, h2⟩ := hget i b hi
        rcases h2 with rfl | ⟨rfl, h3⟩
        · exact hR.hlt i _ h1
        · exact ⟨Nat.lt_succ_of_lt (h.hlt i _ h3).1, (swapBlk_holds he hs (Nat.lt_succ_self nx) (h.hlt i _ h3).1 (h.hlt i _ h3).2 (h.hp i _ h3)).2⟩
      · obtain ⟨c, h1, h2⟩ := hfoot i b x hi hx
        obtain ⟨c', h1', h2'⟩ := hfoot i' b' x hi' hx'
        exact hR.sep i i' c c' x h1 h1' hne h2 h2'
      · obtain ⟨c, h1, h2⟩ := hfoot i b x hi hx
        exact hR.ff i c x h1 h2
      · obtain ⟨m1, m2, m3⟩ := hR.mks D hD
        exact ⟨m1, m2, fun i b hi hx => by
          obtain ⟨c, h1, h2⟩ := hfoot i b D hi hx
          exact m3 i c h1 h2⟩
    exact sem_get hc hR2 hQ

/-! ### A buffer's first elements become a row -/
theorem buf_row (h : Rep X e S a w) {k n ety esz cap : Nat} {xs : List (List Value)} (hH : get S.H k = some (.buf ety esz cap (.vs xs))) (hn : n ≤ xs.length) :
    Rep X (e.withRow S.nx (C.den e (.sl k 0 n)) esz) ((S.setH k .dead).new (.row ety esz n (.vs (xs.take n)))) a w := by
  obtain ⟨hown, hes, hcp, hra⟩ := h.hp k _ hH
  have hden : C.den e (.sl k 0 n) = .slice (some ⟨e.ad k, 0, none⟩) n cap := by
    simp only [C.den, Nat.zero_mul, hra, hcp, Nat.sub_zero]; rfl
  rw [hden]
  have hkill := h.kill k (h.hlt k _ hH).1
  obtain ⟨h1, h2, h3, h4, cur, h5, h6, h7, h8⟩ := hown
  have h1 : ∀ c ∈ xs, c.length = esz := h1
  have hl : (xs.take n).length = n := by rw [List.length_take]; omega
  have h2' : xs.length ≤ cap := h2
  have h7' : cur.toList.take (xs.length * esz) = xs.flatten := h7
  have hown2 : OwnE w ety esz (.slice (some ⟨e.ad k, 0, none⟩) n cap) n (xs.take n) := by
    refine ⟨hl, fun c hc => h1 c (List.mem_of_mem_take hc), .inr ⟨e.ad k, cap, rfl, fun c hc => h1 c (List.mem_of_mem_take hc), by rw [hl]; omega, h3, h4, cur, h5, h6, ?_, h8⟩⟩
    rw [hl, flat_take h1, ← h7', List.take_take, Nat.min_eq_left (Nat.mul_le_mul_right _ hn)]
  refine hkill.newRow (w' := w) (ety := ety) (esz := esz) (n := n) (xs := .vs (xs.take n)) (v := .slice (some ⟨e.ad k, 0, none⟩) n cap) (hown2.els_one) rfl rfl rfl (Nat.le_refl _) (fun _ _ => rfl) hown2 (fun x hx hk => ?_)
  obtain ⟨p, m, c, hv, hc, rfl⟩ := hx
  cases hv
  refine h.not_kept hH (x := e.ad k) rfl ?_
  rcases hk with hk | ⟨k', b', hk', hne, hf⟩ | hk
  · exact .inl hk
  · rcases get_cons hk' with ⟨e1, e2⟩ | ⟨hne', hk2⟩
    · subst e2; exact hf.elim
    · exact .inr (.inl ⟨k', b', hk2, Ne.symm hne', hf⟩)
  · exact .inr (.inr hk)
/-- A state that says less; the numbers are the same. -/
structure SubX (X : Cx) (S S' : St) : Prop where
  out : ∀ e a w, Rep X e S a w → ∃ e', Env.same S.nx e e' ∧ Rep X e' S' a w
theorem SubX.sub {S S' : St} (h : SubX X S S') : Sub X S S' := ⟨fun e a w hR => by obtain ⟨e', _, h2⟩ := h.out e a w hR; exact ⟨e', h2⟩⟩
theorem fin_subx {S S' : St} {v : SV} {R : Ending → World → Prop} (hs : SubX X S S') (hf : St.forceAll S' fun S' => finP X S' v R) (hv : v.lt S.nx = true := by rfl) : finP X S v R := fin_of fun e a w hR => by
  rw [forceAll_eq] at hf
  obtain ⟨e', h1, h2⟩ := hs.out e a w hR
  rw [← SV.den_same h1 hv]
  exact hf.out e' a w h2
/-- .. in a variable. -/
theorem sub_bufrowc {S : St} (k0 o k n ety esz cap : Nat) (xs : List (List Value)) {ty : Nat} {cs : List C} (h0 : get S.H k0 = some (.cells ty cs)) (ho : cs[o]? = some (.sl k 0 n)) (hH : get S.H k = some (.buf ety esz cap (.vs xs))) (hn : n ≤ xs.length) :
    SubX X S { S with H := (k0, .cells ty (cs.set o (.row S.nx))) :: (S.nx, .row ety esz n (.vs (xs.take n))) :: (k, .dead) :: S.H, nx := S.nx + 1 } := by
  refine ⟨fun e a w h => ?_⟩
  have hR := buf_row h hH hn
  have hs := Env.withRow_same e S.nx (C.den e (.sl k 0 n)) esz
  refine ⟨_, hs, ?_⟩
  have hne : k0 ≠ S.nx := Nat.ne_of_lt (h.hlt _ _ h0).1
  have hnk : k ≠ k0 := fun e1 => by subst e1; rw [hH] at h0; cases h0
  have h0' : get ((S.setH k .dead).new (.row ety esz n (.vs (xs.take n)))).H k0 = some (.cells ty cs) := by
    cases S
    show get ((_, _) :: (k, Blk.dead) :: _) k0 = _
    rw [get_other (Ne.symm hne), get_other hnk]
    exact h0
  have hlt0 := (h.hlt _ _ h0).2
  have hcs : ltAll (S.nx + 1) (cs.set o (.row S.nx)) = true := ltAll_of fun c hc => by
    rcases List.mem_or_eq_of_mem_set hc with hc | rfl
    · exact C.lt_mono (Nat.le_succ _) (ltAll_mem hlt0 c hc)
    · exact blt_iff.2 (Nat.lt_succ_self _)
  have hden : (cs.set o (.row S.nx)).map (C.den (e.withRow S.nx (C.den e (.sl k 0 n)) esz)) = cs.map (C.den e) := by
    rw [List.map_set, show C.den (e.withRow S.nx (C.den e (.sl k 0 n)) esz) (.row S.nx) = C.den e (.sl k 0 n) from Env.withRow_rv _ _ _ _, map_den_same hs hlt0]
    obtain ⟨hi, he⟩ := List.getElem?_eq_some_iff.1 ho
    refine List.ext_getElem? fun i => ?_
    rw [List.getElem?_set]
    split
    · rename_i hio
      subst hio
      simp [List.getElem?_eq_getElem hi, he, hi]
    · rfl
  have hset := hR.setSame (k := k0) (b0 := .cells ty (cs.set o (.row S.nx))) h0' (by cases S; exact hcs) (fun x hx => hx) (by
    show w.heap[(e.withRow S.nx (C.den e (.sl k 0 n)) esz).ad k0]? = _
    rw [hden]
    exact h.hp k0 _ h0)
  cases S
  exact hset
/-- .. that is handed back. -/
theorem fin_bufv {R : Ending → World → Prop} (k n ety esz cap : Nat) (xs : List (List Value)) (hH : get S.H k = some (.buf ety esz cap (.vs xs))) (hn : n ≤ xs.length)
    (hf : St.forceAll ((S.setH k .dead).new (.row ety esz n (.vs (xs.take n)))) fun S' => finP X S' (.c (.row S.nx)) R) : finP X S (.c (.sl k 0 n)) R := fin_of fun e a w hR => by
  rw [forceAll_eq] at hf
  have h2 := hf.out _ a w (buf_row hR hH hn)
  rw [show SV.den (e.withRow S.nx (C.den e (.sl k 0 n)) esz) (.c (.row S.nx)) = SV.den e (.c (.sl k 0 n)) from Env.withRow_rv _ _ _ _] at h2
  exact h2
end
end Go.Proofs.Yteldohidnepaoaa.Sy
