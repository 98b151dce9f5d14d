/-
  The symbolic executor, 17: callees that write a row in place; rows that become known memory; loops that learn.
-/
import Derived.Test.YteldohidnepaoaaSy16
import Derived.LoopNIn
namespace Go.Proofs.Yteldohidnepaoaa.Sy
open Go Go.RowKit
section
variable {X : Cx} {e : Env} {S : St} {a : Act} {w : World}

/-! ### A callee that writes a row in place -/
def RetMut (v0 : Value) (v : Value) (r : RD) (w : World) (E : Ending) (w' : World) : Prop := E = .returned v ∧ Grown v0 w w' ∧ OwnE w' r.ety r.esz v0 r.n r.xs
theorem Rep.mut (h : Rep X e S a w) {k ety esz n : Nat} {xs : Els} {r : RD} {w' : World} (hH : get S.H k = some (.row ety esz n xs)) (hg : Grown (e.rv k) w w') (hown : OwnE w' r.ety r.esz (e.rv k) r.n r.xs) (hes : r.esz = esz) :
    Rep X e (S.setH k (.row r.ety r.esz r.n (.vs r.xs))) a w' := by
  have hh := h.hp k _ hH
  refine h.step (k0 := k) (b0 := .row r.ety r.esz r.n (.vs r.xs)) (Env.same.refl _ _) rfl (Nat.le_refl _) (h.hlt k _ hH).1 hown.els_one hg.os hg.tape hg.output hg.size (fun x hx => hg.block x (h.kept_lt hx) (fun hf => h.not_kept hH hf hx)) h.one
    ⟨hown, by rw [hes]; exact hh.2.1, hh.2.2⟩ (fun x hx => h.not_kept hH hx)
theorem call_mut {d : Option Nat} {f : Nat} {args : List SV} {K : St → Prop} (k : Nat) (r : RD) (v : SV) (hcall : ∀ as w, (callFunc f as).run X.P w = .ok (.enter f as) w)
    (hc : ∀ e a w, Rep X e S a w → Calls X.P f (denAll e args) w (RetMut (e.rv k) (v.den e) r w)) (hk : K ((S.setH k (.row r.ety r.esz r.n (.vs r.xs))).put d v))
    (hH : ∃ ety n xs, get S.H k = some (.row ety r.esz n xs) := by exact ⟨_, _, _, rfl⟩) (hl : v.lt S.nx = true := by rfl) : callP X S d f args K := by
  obtain ⟨ety, n, xs, hH⟩ := hH
  refine ⟨fun hd _ => .inl ⟨hcall, fun e a w h KK hKK => callsIn_of ((hc e a w h).mono fun E w' ⟨hE, hg, hown⟩ => ⟨_, hE, ?_⟩)⟩⟩
  exact hKK _ _ _ _ ((h.mut hH hg hown rfl).put hd hl) hk

/-! ### A row becomes memory of which something is known -/
def St.frozen (S : St) (k t : Nat) (u : Value) (F' : Nat → Prop) (E' : World → Prop) : St := match S with
  | ⟨fr, H, nx, _, _, g⟩ => ⟨(t, .c (.v u)) :: fr, (k, .dead) :: H, nx, F', E', g⟩
/-- Slot t holds row k; from here on that is a value u, of which it is known how it reads, in the blocks G. -/
theorem freeze {c : Code} {Q : Exit → St → Prop} (t k ety esz n : Nat) (xs : List (List Value)) (ht : get S.fr t = some (.c (.row k))) (hH : get S.H k = some (.row ety esz n (.vs xs)))
    (hc : ∀ (u : Value) (G : Nat → Prop), (∀ b, G b → ¬ S.F b) → u.oneCell' = true → St.forceAll (S.frozen k t u (fun b => S.F b ∨ G b) (fun w => S.E w ∧ (ReadsE G w esz u n xs ∧ ∀ b, G b → S.F b ∨ G b))) fun S' => semP X c S' Q) : semP X c S Q := by
  refine ⟨?_⟩
  intro e a w h Qr hQ
  have hh := h.hp k _ hH
  have hown : OwnE w ety esz (e.rv k) n xs := hh.1
  have hu1 := h.one k
  have hc := hc (e.rv k) (rfoot (e.rv k)) (fun b hb => h.ff k _ b hH hb) hu1
  rw [forceAll_eq] at hc
  have hkill := h.kill k (h.hlt k _ hH).1
  have hR := hkill.learn (G := rfoot (e.rv k)) (p := fun G w => ReadsE (rfoot (e.rv k)) w esz (e.rv k) n xs ∧ ∀ b, rfoot (e.rv k) b → G b) (fun b hb => ⟨hown.lt hb, fun k' c hk' hf => ?_, fun hm => (h.mks b hm).2.2 k _ hH hb⟩)
    ⟨(hown.reads.1).keep (fun b hb => hb.2) (fun _ _ => rfl), fun b hb => hb⟩ (fun G G' w1 w2 hp hG hk' => ⟨hp.1.keep (fun _ hb => hb) (fun b hb => hk' b (hp.2 b hb)), fun b hb => hG b (hp.2 b hb)⟩)
  · have hput : Rep X e (S.frozen k t (e.rv k) (fun b => S.F b ∨ rfoot (e.rv k) b) (fun w => S.E w ∧ (ReadsE (rfoot (e.rv k)) w esz (e.rv k) n xs ∧ ∀ b, rfoot (e.rv k) b → S.F b ∨ rfoot (e.rv k) b))) a w := by
      cases S with
      | mk fr0 H0 nx0 F0 E0 g0 =>
        refine { hR with fr := fun i v hv => ?_, frlt := fun i v hv => ?_ }
        · rcases get_cons hv with ⟨rfl, rfl⟩ | ⟨_, hv⟩
          · have := h.fr t _ ht
            simpa [SV.den, C.den] using this
          · exact h.fr i v hv
        · rcases get_cons hv with ⟨rfl, rfl⟩ | ⟨_, hv⟩
          · exact hu1
          · exact h.frlt i v hv
    exact sem_get hc hput hQ
  · rcases get_cons hk' with ⟨e1, e2⟩ | ⟨hne, hk2⟩
    · subst e2; exact hf.elim
    · exact h.sep k k' _ c b hH hk2 hne hb hf

/-! ### A buffer's first elements become a row -/
theorem sub_bufrow {S : St} (t k n ety esz cap : Nat) (xs : List (List Value)) (ht : get S.fr t = some (.c (.sl k 0 n))) (hH : get S.H k = some (.buf ety esz cap (.vs xs))) (hn : n ≤ xs.length) :
    Sub X S { S with fr := (t, .c (.row S.nx)) :: S.fr, H := (S.nx, .row ety esz n (.vs (xs.take n))) :: (k, .dead) :: S.H, nx := S.nx + 1 } := by
  refine ⟨?_⟩
  intro e a w h
  obtain ⟨hown, hes, hcp, hra⟩ := h.hp k _ hH
  have hden : C.den e (.sl k 0 n) = .slice (some ⟨e.ad k, 0, none⟩) n cap := by
    simp only [C.den, Nat.zero_mul, hra, hcp, Nat.sub_zero]; rfl
  have hkill := h.kill k (h.hlt k _ hH).1
  have hown' := hown
  obtain ⟨h1, h2, h3, h4, cur, h5, h6, h7, h8⟩ := hown
  have h1 : ∀ c ∈ xs, c.length = esz := h1
  have hl : (xs.take n).length = n := by rw [List.length_take]; omega
  have h2' : xs.length ≤ cap := h2
  have h7' : cur.toList.take (xs.length * esz) = xs.flatten := h7
  have hown2 : OwnE w ety esz (.slice (some ⟨e.ad k, 0, none⟩) n cap) n (xs.take n) := by
    refine ⟨hl, fun c hc => h1 c (List.mem_of_mem_take hc), .inr ⟨e.ad k, cap, rfl, fun c hc => h1 c (List.mem_of_mem_take hc), by rw [hl]; omega, h3, h4, cur, h5, h6, ?_, h8⟩⟩
    have hf : (xs.take n).flatten = xs.flatten.take (n * esz) := by
      have h0 := List.take_append_drop n xs
      have e1 : xs.flatten = (xs.take n).flatten ++ (xs.drop n).flatten := by rw [← List.flatten_append, h0]
      have e2 : (xs.take n).flatten.length = n * esz := by rw [flat_len (fun c hc => h1 c (List.mem_of_mem_take hc)), hl]
      have e3 : List.take (n * esz) ((xs.take n).flatten ++ (xs.drop n).flatten) = (xs.take n).flatten := by
        rw [List.take_append_of_le_length (by omega)]
        exact List.take_of_length_le (by omega)
      rw [e1]
      exact e3.symm
    rw [hl, hf, ← h7', List.take_take, Nat.min_eq_left (Nat.mul_le_mul_right _ hn)]
  have hR := hkill.newRow (w' := w) (ety := ety) (esz := esz) (n := n) (xs := .vs (xs.take n)) (v := .slice (some ⟨e.ad k, 0, none⟩) n cap) (hown2.els_one) rfl rfl rfl (Nat.le_refl _) (fun _ _ => rfl) hown2 (fun x hx hk => by
    obtain ⟨p, m, c, hv, hc, rfl⟩ := hx
    cases hv
    refine h.not_kept hH (x := e.ad k) rfl ?_
    rcases hk with hk | ⟨k', b', hk', hne, hf⟩ | hk
    · exact .inl hk
    · rcases get_cons hk' with ⟨e1, e2⟩ | ⟨hne', hk2⟩
      · subst e2; exact hf.elim
      · exact .inr (.inl ⟨k', b', hk2, Ne.symm hne', hf⟩)
    · exact .inr (.inr hk))
  refine ⟨_, { hR with fr := fun i v hv => ?_, frlt := fun i v hv => ?_ }⟩
  · rcases get_cons hv with ⟨rfl, rfl⟩ | ⟨_, hv⟩
    · have h0 := h.fr t _ ht
      rw [h0]
      show some (C.den e (.sl k 0 n)) = some ((e.withRow S.nx _ esz).rv S.nx)
      rw [Env.withRow_rv, hden]
    · exact hR.fr i v hv
  · rcases get_cons hv with ⟨rfl, rfl⟩ | ⟨_, hv⟩
    · exact blt_iff.2 (Nat.lt_succ_self _)
    · exact hR.frlt i v hv

/-! ### A loop that learns -/
def St.knowing (S : St) (F' : Nat → Prop) (E' : World → Prop) : St := match S with | ⟨fr, H, nx, _, _, g⟩ => ⟨fr, H, nx, F', E', g⟩
theorem loop_learn (hT : TabOk X.P X.T) {p : Code} {Q : Exit → St → Prop} {ι : Type} (fr : ι → List (Nat × SV)) (H : ι → List (Nat × Blk)) (F : ι → Nat → Prop) (E : ι → World → Prop) (ok : ι → Prop) (μ : ι → Nat) (i0 : ι) (h0 : ok i0)
    (hs : SubGo X (S.prune (liveAt X p)) (((S.prune (liveAt X p)).inv (writes p) (fr i0) (H i0)).knowing (F i0) (E i0)))
    (round : ∀ i, ok i → St.forceAll (((S.prune (liveAt X p)).inv (writes p) (fr i) (H i)).knowing (F i) (E i)) fun S1 => xcode X p S1 (then_ Q fun S' => ∃ j, ok j ∧ μ j < μ i ∧ SubGo X S' (((S.prune (liveAt X p)).inv (writes p) (fr j) (H j)).knowing (F j) (E j)))) : semP X (.loop p) S Q := by
  refine ⟨?_⟩
  intro e a w h Qr hQ
  obtain ⟨e0, hR0⟩ := sub_get (sub_auto hs) (h.prune (liveAt X p))
  refine wpIn_loop_ghost (fun n a w => ∃ i e, ok i ∧ μ i = n ∧ Rep X e (((S.prune (liveAt X p)).inv (writes p) (fr i) (H i)).knowing (F i) (E i)) a w) (μ i0) ⟨i0, e0, h0, rfl, hR0⟩ ?_
  rintro n a w ⟨i, e, hi, rfl, hR⟩
  have := round i hi
  rw [forceAll_eq] at this
  refine xcode_ok hT p hR this (compat_then hQ fun e' S' a' w' hR' hS' => ?_)
  obtain ⟨j, hj, hlt, h3⟩ := hS'
  obtain ⟨e2, hR2⟩ := sub_get (sub_auto h3) hR'
  exact ⟨μ j, hlt, j, e2, hj, rfl, hR2⟩

/-! ### A loop of some rounds, walked round by round -/
structure semL (X : Cx) (c : Code) (m : Nat) (S : St) (Q : Exit → St → Prop) : Prop where
  out : ∀ e a w, Rep X e S a w → ∀ Qr, compat X Q Qr → Code.roundsIn X.fen 0 X.P c Qr m a w
theorem loop_rounds (m : Nat) {p : Code} {Q : Exit → St → Prop} (h : semL X p m S Q) : semP X (.loop p) S Q := ⟨fun e a w hR Qr hQ => wpIn_loop_rounds m (h.out e a w hR Qr hQ)⟩
theorem loop_round (hT : TabOk X.P X.T) {m : Nat} {p : Code} {Q : Exit → St → Prop} (h : St.forceAll (S.prune (liveAt X p)) fun S1 => xcode X p S1 (then_ Q fun S' => semL X p m S' Q)) : semL X p (m + 1) S Q := ⟨fun e a w hR Qr hQ => by
  rw [roundsIn_succ]
  rw [forceAll_eq] at h
  exact xcode_ok hT p (hR.prune _) h (compat_then hQ fun e' S' a' w' hR' hS' => hS'.out e' a' w' hR' Qr hQ)⟩

/-! ### To write a row in place, from within -/
/-- Entry 0: the row that it writes. -/
theorem calls_mut (lv : List (Nat × List Nat)) {P : Program} {T : Tab} {f : FuncId} {fn : Func} {c : Code} {w : World} {R : Ending → World → Prop} (hT : TabOk P T) (hf : P.funcs[f]? = some fn) (hb : fn.body = some c) (nt : Nat) (hnt : fn.ntmps = nt) {args : Array Value} (v : Value) (ety esz n : Nat) (xs : List (List Value)) (hown : OwnE w ety esz v n xs) (exts : List XD) (avs : List SV)
    (hargs : args = denAll ((env0.withRow 0 v esz).exts 1 exts) avs) (hl : allLt (1 + exts.length) avs = true) (hn : Nat.ble avs.length nt = true) (hd : AllOk (fun x => x < w.heap.size ∧ ¬ rfoot v x) w exts)
    (hx : St.forceAll ((((St.bare w (rfoot v)).new (.row ety esz n (.vs xs))).exts exts).withFr (number 0 avs)) fun S => xcode { P := P, T := T, w0 := w, nt := nt, own := rfoot v, n0 := 1 + exts.length, e0 := (env0.withRow 0 v esz).exts 1 exts, lv := lv } c S (xret { P := P, T := T, w0 := w, nt := nt, own := rfoot v, n0 := 1 + exts.length, e0 := (env0.withRow 0 v esz).exts 1 exts, lv := lv } fn R)) : Calls P f args w R := by
  rw [forceAll_eq] at hx
  have hn := Nat.le_of_ble_eq_true hn
  have hsz : args.size = avs.length := by rw [hargs]; simp [denAll]
  have h0 := rep_bare (lv := lv) (P := P) (T := T) (w := w) (nt := nt) (own := rfoot v) (args := args) (by omega)
  have h1 := h0.newRow (w' := w) (ety := ety) (esz := esz) (n := n) (xs := .vs xs) (v := v) hown.els_one rfl rfl rfl (Nat.le_refl _) (fun _ _ => rfl) hown (fun x hx => bare_kept hx)
  have h2 := Rep.exts exts h1 (fun d hd' => AllOk.mem hd d hd')
  have h3 := h2.setFr avs hargs (fun u hu => by rw [exts_nx, new_nx]; simpa [St.bare] using allLt_mem hl u hu) hn
  have hnx : ((((St.bare w (rfoot v)).new (.row ety esz n (.vs xs))).exts exts).withFr (number 0 avs)).nx = 1 + exts.length := by
    show (((St.bare w (rfoot v)).new (.row ety esz n (.vs xs))).exts exts).nx = _
    rw [exts_nx, new_nx]; simp [St.bare]
  have h4 : Rep { P := P, T := T, w0 := w, nt := nt, own := rfoot v, n0 := 1 + exts.length, e0 := (env0.withRow 0 v esz).exts 1 exts, lv := lv } ((env0.withRow 0 v esz).exts 1 exts) _ _ w :=
    { h3 with hp := fun k b hk => holds_gh (h3.hp k b hk) fun _ _ _ _ _ _ _ => rfl, es := Env.same.refl _ _, n0 := Nat.le_of_eq hnx.symm }
  exact calls_go hT hf hb hnt h4 hx
theorem exts_rv0 (e : Env) : ∀ (l : List XD) (n : Nat), 0 < n → (e.exts n l).rv 0 = e.rv 0
  | [], _, _ => rfl
  | d :: l, n, h => by rw [Env.exts, exts_rv0 _ l (n + 1) (by omega)]; simp [Env.withRow, Nat.ne_of_lt h]
theorem fin_mut {lv : List (Nat × List Nat)} {P : Program} {T : Tab} {w0 : World} {nt esz : Nat} {v0 v : Value} {sv : SV} {r : RD} {exts : List XD} (hk : get S.H 0 = some (.row r.ety r.esz r.n (.vs r.xs))) (hv : ∀ e, sv.den e = v) :
    finP { P := P, T := T, w0 := w0, nt := nt, own := rfoot v0, n0 := 1 + exts.length, e0 := (env0.withRow 0 v0 esz).exts 1 exts, lv := lv } S sv (RetMut v0 v r w0) := fin_of fun e a w hR => by
  have h1 := (hR.hp 0 _ hk).1
  have h2 := (hR.es 0 (by show 0 < 1 + exts.length; omega)).2.1
  rw [exts_rv0 _ _ 1 (by omega)] at h2
  have h3 : e.rv 0 = v0 := h2.trans (by simp [Env.withRow])
  rw [h3] at h1
  exact ⟨by rw [hv], hR.bel.grown, h1⟩

/-! ### The same, where what comes of it is not told whole -/
def RetMutX {α : Type} (v0 : Value) (p : α → Prop) (v : α → Value) (r : α → RD) (w : World) (E : Ending) (w' : World) : Prop := ∃ x, p x ∧ RetMut v0 (v x) (r x) w E w'
theorem call_mutx {α : Type} {d : Option Nat} {f : Nat} {args : List SV} {K : St → Prop} (k esz : Nat) (p : α → Prop) (r : α → RD) (v : α → SV) (hcall : ∀ as w, (callFunc f as).run X.P w = .ok (.enter f as) w)
    (hc : ∀ e a w, Rep X e S a w → Calls X.P f (denAll e args) w (RetMutX (e.rv k) p (fun x => (v x).den e) r w)) (hk : ∀ x, p x → K ((S.setH k (.row (r x).ety (r x).esz (r x).n (.vs (r x).xs))).put d (v x)))
    (hes : ∀ x, (r x).esz = esz := by intros; rfl) (hH : ∃ ety n xs, get S.H k = some (.row ety esz n xs) := by exact ⟨_, _, _, rfl⟩) (hl : ∀ x, (v x).lt S.nx = true := by intros; rfl) : callP X S d f args K := by
  obtain ⟨ety, n, xs, hH⟩ := hH
  refine ⟨fun hd _ => .inl ⟨hcall, fun e a w h KK hKK => callsIn_of ((hc e a w h).mono fun E w' ⟨x, hp, hE, hg, hown⟩ => ⟨_, hE, ?_⟩)⟩⟩
  exact hKK _ _ _ _ ((h.mut hH hg hown (hes x)).put hd (hl x)) (hk x hp)
theorem fin_mutx {lv : List (Nat × List Nat)} {α : Type} {P : Program} {T : Tab} {w0 : World} {nt esz : Nat} {v0 : Value} {p : α → Prop} {v : α → Value} {sv : SV} {r : α → RD} {exts : List XD} (x : α) (hp : p x) (hk : get S.H 0 = some (.row (r x).ety (r x).esz (r x).n (.vs (r x).xs))) (hv : ∀ e, sv.den e = v x) :
    finP { P := P, T := T, w0 := w0, nt := nt, own := rfoot v0, n0 := 1 + exts.length, e0 := (env0.withRow 0 v0 esz).exts 1 exts, lv := lv } S sv (RetMutX v0 p v r w0) := fin_of fun e a w hR => by
  have h1 := (hR.hp 0 _ hk).1
  have h2 := (hR.es 0 (by show 0 < 1 + exts.length; omega)).2.1
  rw [exts_rv0 _ _ 1 (by omega)] at h2
  have h3 : e.rv 0 = v0 := h2.trans (by simp [Env.withRow])
  rw [h3] at h1
  exact ⟨x, hp, by rw [hv], hR.bel.grown, h1⟩
end
end Go.Proofs.Yteldohidnepaoaa.Sy
