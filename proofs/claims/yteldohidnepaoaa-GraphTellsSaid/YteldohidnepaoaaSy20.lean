/-
  The symbolic executor, 20: slices within variables that are opened ahead; what is handed back becomes known memory.
-/
import Derived.Test.YteldohidnepaoaaSy19
namespace Go.Proofs.Yteldohidnepaoaa.Sy
open Go Go.RowKit
section
variable {X : Cx} {e : Env} {S : St} {a : Act} {w : World}
theorem set_den {e e' : Env} {m : Nat} (hs : Env.same m e e') {cs : List C} (hl : ltAll m cs = true) {o k : Nat} {u : Value} (ho : cs[o]? = some (.v u)) (hv : e'.rv k = u) : (cs.set o (.row k)).map (C.den e') = cs.map (C.den e) := by
  rw [List.map_set, show C.den e' (.row k) = u from hv, map_den_same hs hl]
  obtain ⟨hi, he⟩ := List.getElem?_eq_some_iff.1 ho
  refine List.ext_getElem? fun i => ?_
  rw [List.getElem?_set]
  split
  · rename_i hio
    subst hio
    simp [hi, he, C.den]
  · rfl
/-- A slice's value in a variable is opened. -/
theorem sub_open {S : St} (k o esz n : Nat) (xs : List (List Value)) {ty : Nat} {cs : List C} {u : Value} (hk : get S.H k = some (.cells ty cs)) (ho : cs[o]? = some (.v u)) (hr : ∀ e a w, Rep X e S a w → ReadsE S.F w esz u n xs) (h1 : ∀ c ∈ xs, ∀ x ∈ c, x.oneCell' = true) :
    Sub X S { S with H := (k, .cells ty (cs.set o (.row S.nx))) :: (S.nx, .ext esz n (.vs xs)) :: S.H, nx := S.nx + 1 } := by
  refine ⟨fun e a w h => ?_⟩
  have hR := h.newExt (esz := esz) (n := n) (xs := .vs xs) (v := u) h1 (hr e a w h)
  have hs := Env.withRow_same e S.nx u esz
  refine ⟨e.withRow S.nx u esz, ?_⟩
  have hlt0 := h.hlt _ _ hk
  have hne : k ≠ S.nx := Nat.ne_of_lt hlt0.1
  have hk' : get (S.new (.ext esz n (.vs xs))).H k = some (.cells ty cs) := by
    cases S
    show get ((_, _) :: _) k = _
    rw [get_other (Ne.symm hne)]
    exact hk
  have hcs : ltAll (S.nx + 1) (cs.set o (.row S.nx)) = true := ltAll_of fun c hc => by
    rcases List.mem_or_eq_of_mem_set hc with hc | rfl
    · exact C.lt_mono (Nat.le_succ _) (ltAll_mem hlt0.2 c hc)
    · exact blt_iff.2 (Nat.lt_succ_self _)
  have hset := hR.setSame (k := k) (b0 := .cells ty (cs.set o (.row S.nx))) hk' (by cases S; exact hcs) (fun x hx => hx) (by
    show w.heap[(e.withRow S.nx u esz).ad k]? = _
    rw [set_den hs hlt0.2 ho (Env.withRow_rv _ _ _ _)]
    exact h.hp k _ hk)
  cases S
  exact hset
/-- .. in a slot. -/
theorem sub_openS {S : St} (t esz n : Nat) (xs : List (List Value)) {u : Value} (ht : get S.fr t = some (.c (.v u))) (hr : ∀ e a w, Rep X e S a w → ReadsE S.F w esz u n xs) (h1 : ∀ c ∈ xs, ∀ x ∈ c, x.oneCell' = true) :
    Sub X S { S with fr := (t, .c (.row S.nx)) :: S.fr, H := (S.nx, .ext esz n (.vs xs)) :: S.H, nx := S.nx + 1 } := by
  refine ⟨fun e a w h => ?_⟩
  have hR := h.newExt (esz := esz) (n := n) (xs := .vs xs) (v := u) h1 (hr e a w h)
  refine ⟨e.withRow S.nx u esz, ?_⟩
  cases S with
  | mk fr H nx F E g =>
    refine { hR with fr := fun i v hv => ?_, frlt := fun i v hv => ?_ }
    · rcases get_cons hv with ⟨rfl, rfl⟩ | ⟨_, hv⟩
      · have h0 := h.fr t _ ht
        rw [h0]
        show some u = some ((e.withRow nx u esz).rv nx)
        rw [Env.withRow_rv]
      · exact hR.fr i v hv
    · rcases get_cons hv with ⟨rfl, rfl⟩ | ⟨_, hv⟩
      · exact blt_iff.2 (Nat.lt_succ_self _)
      · exact hR.frlt i v hv
/-- Cell t of a variable is another one of the same value: the way back is not needed. -/
theorem reads_w0 {esz n : Nat} {v : Value} {xs : List (List Value)} (hr : ReadsE (fun b => b < X.w0.heap.size ∧ ¬ X.own b) X.w0 esz v n xs) : ∀ e a w, Rep X e S a w → ReadsE S.F w esz v n xs := fun _ _ _ h => reads_later h hr

/-! ### What is handed back becomes known memory -/
def St.froz (S : St) (k : Nat) (F' : Nat → Prop) (E' : World → Prop) : St := match S with
  | ⟨fr, H, nx, _, _, g⟩ => ⟨fr, (k, .dead) :: H, nx, F', E', g⟩
theorem fin_freezev {R : Ending → World → Prop} (k ety esz n : Nat) (xs : List (List Value)) (hH : get S.H k = some (.row ety esz n (.vs xs)))
    (hc : ∀ (u : Value) (G : Nat → Prop), (∀ b, G b → ¬ S.F b) → u.oneCell' = true → St.forceAll (S.froz k (fun b => S.F b ∨ G b) (fun w => S.E w ∧ (XD.ok G w ⟨u, esz, n, xs⟩ ∧ ∀ b, G b → S.F b ∨ G b))) fun S' => finP X S' (.c (.v u)) R) : finP X S (.c (.row k)) R := fin_of fun e a w h => by
  have hh := h.hp k _ hH
  have hown : OwnE w ety esz (e.rv k) n xs := hh.1
  have hu1 := h.one k
  have hc := hc (e.rv k) (rfoot (e.rv k)) (fun b hb => h.ff k _ b hH hb) hu1
  rw [forceAll_eq] at hc
  have hkill := h.kill k (h.hlt k _ hH).1
  have hR := hkill.learn (G := rfoot (e.rv k)) (p := fun G w => XD.ok (rfoot (e.rv k)) w ⟨e.rv k, esz, n, xs⟩ ∧ ∀ b, rfoot (e.rv k) b → G b) (fun b hb => ⟨hown.lt hb, fun k' c hk' hf => ?_, fun hm => (h.mks b hm).2.2 k _ hH hb⟩)
    ⟨XD.ok.mono hown.reads (fun b hb => hb.2), fun b hb => hb⟩ (fun G G' w1 w2 hp hG hk' => ⟨⟨hp.1.1.keep (fun _ hb => hb) (fun b hb => hk' b (hp.2 b hb)), hp.1.2⟩, fun b hb => hG b (hp.2 b hb)⟩)
  · have hput : Rep X e (S.froz k (fun b => S.F b ∨ rfoot (e.rv k) b) (fun w => S.E w ∧ (XD.ok (rfoot (e.rv k)) w ⟨e.rv k, esz, n, xs⟩ ∧ ∀ b, rfoot (e.rv k) b → S.F b ∨ rfoot (e.rv k) b))) a w := by
      cases S; exact hR
    exact hc.out e a w hput
  · rcases get_cons hk' with ⟨e1, e2⟩ | ⟨hne, hk2⟩
    · subst e2; exact hf.elim
    · exact h.sep k k' _ c b hH hk2 hne hb hf
/-- A callee that hands back a row of its own hands back known memory. -/
theorem does_freeze {P : Program} {f : Nat} {avs : List SV} {n0 : Nat} {H0 H1 : List (Nat × Blk)} {pre : (Nat → Prop) → World → Prop} {ety esz n : Nat} {xs : List (List Value)}
    (hl : ∀ k b, get H1 k = some b → k < n0 ∧ b.lt n0)
    (h : Does P f { avs := avs, n0 := n0, H0 := H0, pre := pre, sv := fun _ : Unit => .c (.row n0), n1 := fun _ => n0 + 1, H1 := fun _ => (n0, .row ety esz n (.vs xs)) :: H1 }) :
    Does P f { avs := avs, n0 := n0, H0 := H0, pre := pre, sv := fun u : Value => .c (.v u), n1 := fun _ => n0, H1 := fun _ => H1, learn := true, q := fun u G w => XD.ok G w ⟨u, esz, n, xs⟩ } := by
  intro e0 w hO hpre
  refine (h e0 w hO hpre).mono fun E w' ⟨x, e1, G, hp, hE, hs, hb, hO1, hob, hfr, hlt, hn, hG, hq⟩ => ?_
  have hk : get ((n0, Blk.row ety esz n (.vs xs)) :: H1) n0 = some (.row ety esz n (.vs xs)) := get_same _ _ _
  have hget : ∀ k b, get H1 k = some b → get ((n0, Blk.row ety esz n (.vs xs)) :: H1) k = some b := fun k b hk' => by rw [get_other (Nat.ne_of_gt (hl k b hk').1)]; exact hk'
  have hown : OwnE w' ety esz (e1.rv n0) n xs := (hO1.hp { P := P, T := [], w0 := w, nt := 0 } n0 _ hk).1
  refine ⟨e1.rv n0, e1, rfoot (e1.rv n0), trivial, hE, hs, hb, ⟨fun X k b hk' => hO1.hp X k b (hget k b hk'), hl, fun k k' b b' y h1 h2 => hO1.sep k k' b b' y (hget k b h1) (hget k' b' h2), hO1.one⟩, fun k b hk' => hob k b (hget k b hk'),
    fun y ⟨k, b, hk', hy⟩ => hfr y ⟨k, b, hget k b hk', hy⟩, hO1.one n0, Nat.le_refl _, fun b hb' => ⟨hfr b ⟨n0, _, hk, hb'⟩, hown.lt hb', fun ⟨k, c, hk', hy⟩ => ?_⟩, XD.ok.mono hown.reads fun b hb => hb.2⟩
  exact hO1.sep n0 k _ c b hk (hget k c hk') (Nat.ne_of_gt (hl k c hk').1) hb' hy

/-! ### A loop at whose rounds' ends rows become known memory -/
structure endP (X : Cx) (S : St) (K : St → Prop) : Prop where
  out : ∀ e a w, Rep X e S a w → ∃ e' S', Rep X e' S' a w ∧ K S'
theorem end_here {K : St → Prop} (h : K S) : endP X S K := ⟨fun e _ _ hR => ⟨e, S, hR, h⟩⟩
def St.frozR (S : St) (k j ty sz m : Nat) (l : List (List Value)) (F' : Nat → Prop) (E' : World → Prop) : St := match S with
  | ⟨fr, H, nx, _, _, g⟩ => ⟨fr, (j, .row ty sz m (.vs l)) :: (k, .dead) :: H, nx, F', E', g⟩
/-- Row k becomes known memory; row j, whose elements name it, names a value. -/
theorem end_freeze {K : St → Prop} (k j : Nat) {ety esz n ty sz m : Nat} {xs : List (List Value)} {ys : Els} (ls : Value → List (List Value)) (hkj : k ≠ j) (hk : get S.H k = some (.row ety esz n (.vs xs))) (hj : get S.H j = some (.row ty sz m ys)) (hden : ∀ e : Env, ys.den e = ls (e.rv k))
    (hc : ∀ (u : Value) (G : Nat → Prop), (∀ b, G b → ¬ S.F b) → u.oneCell' = true → St.forceAll (S.frozR k j ty sz m (ls u) (fun b => S.F b ∨ G b) (fun w => S.E w ∧ (XD.ok G w ⟨u, esz, n, xs⟩ ∧ ∀ b, G b → S.F b ∨ G b))) fun S' => endP X S' K) : endP X S K := by
  refine ⟨fun e a w h => ?_⟩
  have hh := h.hp k _ hk
  have hown : OwnE w ety esz (e.rv k) n xs := hh.1
  have hj2 := h.hp j _ hj
  have hc := hc (e.rv k) (rfoot (e.rv k)) (fun b hb => h.ff k _ b hk hb) (h.one k)
  rw [forceAll_eq] at hc
  have hkill := h.kill k (h.hlt k _ hk).1
  have hR := hkill.learn (G := rfoot (e.rv k)) (p := fun G w => XD.ok (rfoot (e.rv k)) w ⟨e.rv k, esz, n, xs⟩ ∧ ∀ b, rfoot (e.rv k) b → G b) (fun b hb => ⟨hown.lt hb, fun k' c hk' hf => ?_, fun hm => (h.mks b hm).2.2 k _ hk hb⟩)
    ⟨XD.ok.mono hown.reads (fun b hb => hb.2), fun b hb => hb⟩ (fun G G' w1 w2 hp hG hk' => ⟨⟨hp.1.1.keep (fun _ hb => hb) (fun b hb => hk' b (hp.2 b hb)), hp.1.2⟩, fun b hb => hG b (hp.2 b hb)⟩)
  · have hd : OwnE w ty sz (e.rv j) m (ls (e.rv k)) := by rw [← hden e]; exact hj2.1
    cases S with
    | mk fr H nx F E g =>
      have hset := hR.setSame (k := j) (b := .row ty sz m ys) (b0 := .row ty sz m (.vs (ls (e.rv k)))) (by show get ((k, Blk.dead) :: H) j = _; rw [get_other hkj]; exact hj) hd.els_one (fun x hx => hx) ⟨hd, hj2.2⟩
      exact hc.out e a w hset
  · rcases get_cons hk' with ⟨e1, e2⟩ | ⟨hne, hk2⟩
    · subst e2; exact hf.elim
    · exact h.sep k k' _ c b hk hk2 hne hb hf
theorem loop_ends (hT : TabOk X.P X.T) {p : Code} {Q : Exit → St → Prop} {ι : Type} (fr : ι → List (Nat × SV)) (H : ι → List (Nat × Blk)) (F : ι → Nat → Prop) (E : ι → World → Prop) (ok : ι → Prop) (μ : ι → Nat) (i0 : ι) (h0 : ok i0)
    (hs : SubGo X (S.prune (liveAt X p)) (((S.prune (liveAt X p)).inv (writes p) (fr i0) (H i0)).knowing (F i0) (E i0)))
    (round : ∀ i, ok i → St.forceAll (((S.prune (liveAt X p)).inv (writes p) (fr i) (H i)).knowing (F i) (E i)) fun S1 => xcode X p S1 (then_ Q fun S' => endP X S' fun S'' => ∃ j, ok j ∧ μ j < μ i ∧ SubGo X S'' (((S.prune (liveAt X p)).inv (writes p) (fr j) (H j)).knowing (F j) (E j)))) : semP X (.loop p) S Q := by
  refine ⟨?_⟩
  intro e a w h Qr hQ
  obtain ⟨e0, hR0⟩ := sub_get (sub_auto hs) (h.prune (liveAt X p))
  refine wpIn_loop_ghost (fun n a w => ∃ i e, ok i ∧ μ i = n ∧ Rep X e (((S.prune (liveAt X p)).inv (writes p) (fr i) (H i)).knowing (F i) (E i)) a w) (μ i0) ⟨i0, e0, h0, rfl, hR0⟩ ?_
  rintro n a w ⟨i, e, hi, rfl, hR⟩
  have := round i hi
  rw [forceAll_eq] at this
  refine xcode_ok hT p hR this (compat_then hQ fun e' S' a' w' hR' hS' => ?_)
  obtain ⟨e1, S1, hR1, j, hj, hlt, h3⟩ := hS'.out e' a' w' hR'
  obtain ⟨e2, hR2⟩ := sub_get (sub_auto h3) hR1
  exact ⟨μ j, hlt, j, e2, hj, rfl, hR2⟩
end
end Go.Proofs.Yteldohidnepaoaa.Sy
