/-
  The symbolic executor, 7: the operations of a region, code, loops, a function.
-/
import Derived.Test.YtbajgjbgkpcapaaSx6
namespace Go.Proofs.Ytbajgjbgkpcapaa.Sx
open Go Go.RowKit
section
variable {X : Cx} {e : Env} {S : St} {a : Act} {w : World}

/-! ### A region in the text's order -/
def guardS (S : St) (ops : List Oper) (j : Nat) : Option SV := match ops[j]? with
  | some oj => (match oj.dst with
    | some d => get S.fr d
    | none => none)
  | none => none
def xskip (X : Cx) (o : Oper) (S : St) (K : St → Prop) : Prop := match dstOk X.nt o.dst with
  | true => K (S.put o.dst .un)
  | false => False
/-- One operation of a region, under its guard. -/
def xguard (X : Cx) (ops : List Oper) (o : Oper) (S : St) (K : St → Prop) : Prop := match o.guard with
  | none => xop X o S K
  | some (j, want) => (match guardS S ops j with
    | some (.c (.v (.bool t))) => brP t (match want with
        | true => xop X o S K
        | false => xskip X o S K) (match want with
        | true => xskip X o S K
        | false => xop X o S K)
    | some .un => xskip X o S K
    | _ => False)
/-- States are kept in a plain form, so that they are not worked out again and again. -/
def forceNat (n : Nat) (K : Nat → Prop) : Prop := match n with
  | 0 => K 0
  | n + 1 => K (n + 1)
def forceC (c : C) (K : C → Prop) : Prop := match c with
  | .v x => K (.v x)
  | .loc k o => forceNat k fun k => forceNat o fun o => K (.loc k o)
  | .row k => forceNat k fun k => K (.row k)
  | .rp k o => forceNat k fun k => K (.rp k o)
def forceL : List C → (List C → Prop) → Prop
  | [], K => K []
  | c :: r, K => forceC c fun c => forceL r fun r => K (c :: r)
def forceSV (v : SV) (K : SV → Prop) : Prop := match v with
  | .c x => forceC x fun x => K (.c x)
  | .agg cs => forceL cs fun cs => K (.agg cs)
  | v => K v
def forceBlk (b : Blk) (K : Blk → Prop) : Prop := match b with
  | .cells t cs => forceL cs fun cs => K (.cells t cs)
  | b => K b
def forceFr (fr : List (Nat × SV)) (K : List (Nat × SV) → Prop) : Prop := match fr with
  | [] => K []
  | (t, v) :: r => forceSV v fun v => K ((t, v) :: r)
def forceH (H : List (Nat × Blk)) (K : List (Nat × Blk) → Prop) : Prop := match H with
  | [] => K []
  | (k, b) :: r => forceNat k fun k => forceBlk b fun b => K ((k, b) :: r)
def St.force (S : St) (K : St → Prop) : Prop := match S with
  | ⟨fr, H, nx, F, E⟩ => forceFr fr fun fr => forceH H fun H => forceNat nx fun nx => K ⟨fr, H, nx, F, E⟩
theorem forceNat_eq (n : Nat) (K : Nat → Prop) : forceNat n K = K n := by cases n <;> rfl
theorem forceC_eq (c : C) (K : C → Prop) : forceC c K = K c := by cases c <;> simp only [forceC, forceNat_eq]
theorem forceL_eq : ∀ (l : List C) (K : List C → Prop), forceL l K = K l
  | [], K => rfl
  | c :: r, K => by simp only [forceL, forceC_eq, forceL_eq r]
theorem forceSV_eq (v : SV) (K : SV → Prop) : forceSV v K = K v := by cases v <;> simp only [forceSV, forceC_eq, forceL_eq]
theorem forceBlk_eq (b : Blk) (K : Blk → Prop) : forceBlk b K = K b := by cases b <;> simp only [forceBlk, forceL_eq]
theorem forceFr_eq (fr : List (Nat × SV)) (K : List (Nat × SV) → Prop) : forceFr fr K = K fr := by cases fr <;> simp only [forceFr, forceSV_eq]
theorem forceH_eq (H : List (Nat × Blk)) (K : List (Nat × Blk) → Prop) : forceH H K = K H := by cases H <;> simp only [forceH, forceNat_eq, forceBlk_eq]
theorem force_eq (S : St) (K : St → Prop) : St.force S K = K S := by cases S; simp only [St.force, forceFr_eq, forceH_eq, forceNat_eq]
def xopsF (X : Cx) (ops : List Oper) : List Oper → St → (St → Prop) → Prop
  | [], S, K => K S
  | o :: r, S, K => xguard X ops o S fun S' => St.force S' fun S' => xopsF X ops r S' K
def xops (X : Cx) (ops : List Oper) (l : List Oper) (S : St) (K : St → Prop) : Prop := St.force S fun S => xopsF X ops l S K
theorem yielded_of (h : RepV X e S a w) {ops : List Oper} {j : Nat} {v : SV} (hg : guardS S ops j = some v) : ∃ d, ((ops.toArray[j]?).bind (·.dst)) = some d ∧ a.tmps[d]? = some (v.den e) := by
  unfold guardS at hg
  split at hg
  · rename_i oj hj
    split at hg
    · rename_i d hd
      exact ⟨d, by simp [hj, hd], h.fr d v hg⟩
    · cases hg
  · cases hg
/-- What 'xguard' says, is. -/
theorem xguard_ok (hT : TabOk X.P X.T) (h : Rep X e S a w) {ops : List Oper} {o : Oper} {K : St → Prop} (hk : xguard X ops o S K) {KK : Act → World → Prop} (Q : Exit → Act → World → Prop) (hKK : ∀ e' S' a' w', Env.same S.nx e e' → Rep X e' S' a' w' → K S' → KK a' w') :
    if Region.wanted o (yielded ops.toArray a.tmps) = true then o.wp X.P a w KK Q else KK (a.put o.dst undef) w := by
  have skip : xskip X o S K → KK (a.put o.dst undef) w := fun hs => by
    unfold xskip at hs
    split at hs
    · rename_i hd
      exact hKK _ _ _ _ (Env.same.refl _ _) (h.put (v := .un) hd rfl) hs
    · exact hs.elim
  have go : xop X o S K → o.wp X.P a w KK Q := fun ho => xop_ok hT h ho KK Q hKK
  unfold xguard at hk
  split at hk
  · rename_i hg
    rw [if_pos (by simp [Region.wanted, hg])]
    exact go hk
  · rename_i j want hg
    split at hk
    · rename_i t hs
      obtain ⟨d, hd, hv⟩ := yielded_of h.v hs
      have hy : yielded ops.toArray a.tmps j = some t := by
        unfold yielded
        rw [hd, Option.bind_some, hv]
        rfl
      have hw : Region.wanted o (yielded ops.toArray a.tmps) = (t == want) := by
        simp only [Region.wanted, hg, hy]
        cases t <;> cases want <;> rfl
      rw [hw]
      rcases br_case hk with ⟨rfl, hk2⟩ | ⟨rfl, hk2⟩ <;> cases want <;> simp only at hk2
      · exact skip hk2
      · exact go hk2
      · exact go hk2
      · exact skip hk2
    · rename_i hs
      obtain ⟨d, hd, hv⟩ := yielded_of h.v hs
      have hy : yielded ops.toArray a.tmps j = none := by
        unfold yielded
        rw [hd, Option.bind_some, hv]
        rfl
      rw [if_neg (by simp [Region.wanted, hg, hy])]
      exact skip hk
    · exact hk.elim
theorem xopsF_ok (hT : TabOk X.P X.T) {ops : List Oper} {Q : Exit → Act → World → Prop} : ∀ {l : List Oper} {e : Env} {S : St} {a : Act} {w : World} {K : St → Prop}, Rep X e S a w → xopsF X ops l S K → (∀ e' S' a' w', Rep X e' S' a' w' → K S' → Q .normal a' w') → wpList X.P ops.toArray Q l a w
  | [], e, S, a, w, K, h, hk, hQ => hQ _ _ _ _ h hk
  | o :: r, e, S, a, w, K, h, hk, hQ => by
    refine wpList_step fun KK hKK => ?_
    have := xguard_ok hT h hk (KK := KK) Q fun e' S' a' w' _ hR hS' => hKK _ _ (xopsF_ok hT hR (by rw [force_eq] at hS'; exact hS') hQ)
    exact this
theorem xops_ok (hT : TabOk X.P X.T) {ops : List Oper} {Q : Exit → Act → World → Prop} {l : List Oper} {K : St → Prop} (h : Rep X e S a w) (hk : xops X ops l S K) (hQ : ∀ e' S' a' w', Rep X e' S' a' w' → K S' → Q .normal a' w') : wpList X.P ops.toArray Q l a w := by
  unfold xops at hk
  rw [force_eq] at hk
  exact xopsF_ok hT h hk hQ

/-! ### Code -/
def compat (X : Cx) (Q : Exit → St → Prop) (Qr : Exit → Act → World → Prop) : Prop := ∀ ex e S a w, Rep X e S a w → Q ex S → Qr ex a w
/-- Code c does, from state S on, what Q says. -/
structure semP (X : Cx) (c : Code) (S : St) (Q : Exit → St → Prop) : Prop where
  out : ∀ e a w, Rep X e S a w → ∀ Qr, compat X Q Qr → c.wp X.P Qr a w
def then_ (Q : Exit → St → Prop) (K : St → Prop) : Exit → St → Prop := fun ex S' => match ex with
  | .normal => K S'
  | ex => Q ex S'
def inBlk (id : Nat) (Q : Exit → St → Prop) : Exit → St → Prop := fun ex S' => match ex with
  | .exit i => (match Nat.beq i id with
    | true => Q .normal S'
    | false => Q (.exit i) S')
  | ex => Q ex S'
def xcode (X : Cx) : Code → St → (Exit → St → Prop) → Prop
  | .skip, S, Q => Q .normal S
  | .region id ops draw, S, Q => (match draw with
    | false => xops X ops.toList ops.toList S (Q .normal)
    | true => semP X (.region id ops true) S Q)
  | .seq x y, S, Q => (match x with
    | .cond c p q => semP X (.seq (.cond c p q) y) S Q
    | .block id p => semP X (.seq (.block id p) y) S Q
    | x => xcode X x S (then_ Q fun S' => xcode X y S' Q))
  | .cond c p q, S, Q => semP X (.cond c p q) S Q
  | .block id p, S, Q => semP X (.block id p) S Q
  | .loop p, S, Q => semP X (.loop p) S Q
  | .exit id, S, Q => Q (.exit id) S
  | .ret, S, Q => Q .ret S
  | _, _, _ => False
theorem compat_then {Q : Exit → St → Prop} {Qr : Exit → Act → World → Prop} (hQ : compat X Q Qr) {K : St → Prop} {Kr : Act → World → Prop} (hK : ∀ e S a w, Rep X e S a w → K S → Kr a w) : compat X (then_ Q K) (Exit.then Kr Qr) := by
  intro ex e S a w hR h
  cases ex with
  | normal => exact hK e S a w hR h
  | exit id => exact hQ _ _ _ _ _ hR h
  | goto l => exact hQ _ _ _ _ _ hR h
  | ret => exact hQ _ _ _ _ _ hR h
  | panic ch => exact hQ _ _ _ _ _ hR h
  | outgrown => exact hQ _ _ _ _ _ hR h
theorem compat_inBlk {id : Nat} {Q : Exit → St → Prop} {Qr : Exit → Act → World → Prop} (hQ : compat X Q Qr) : compat X (inBlk id Q) (Exit.inBlock id Qr) := by
  intro ex e S a w hR h
  cases ex with
  | exit i =>
    simp only [inBlk] at h
    simp only [Exit.inBlock]
    split at h
    · rename_i hi
      rw [if_pos (Nat.eq_of_beq_eq_true hi)]
      exact hQ _ _ _ _ _ hR h
    · rename_i hi
      rw [if_neg (fun e1 => by subst e1; simp at hi)]
      exact hQ _ _ _ _ _ hR h
  | normal => exact hQ _ _ _ _ _ hR h
  | goto l => exact hQ _ _ _ _ _ hR h
  | ret => exact hQ _ _ _ _ _ hR h
  | panic ch => exact hQ _ _ _ _ _ hR h
  | outgrown => exact hQ _ _ _ _ _ hR h
theorem sem_get {c : Code} {Q : Exit → St → Prop} (hs : semP X c S Q) (h : Rep X e S a w) {Qr : Exit → Act → World → Prop} (hQ : compat X Q Qr) : c.wp X.P Qr a w := by
  replace hs := hs.out
  exact hs e a w h Qr hQ
theorem xcode_ok (hT : TabOk X.P X.T) : ∀ (c : Code) {e : Env} {S : St} {a : Act} {w : World} {Q : Exit → St → Prop} {Qr : Exit → Act → World → Prop}, Rep X e S a w → xcode X c S Q → compat X Q Qr → c.wp X.P Qr a w := by
  intro c
  induction c with
  | skip => intro e S a w Q Qr h hk hQ; exact wp_skip (hQ _ _ _ _ _ h hk)
  | region id ops draw =>
    intro e S a w Q Qr h hk hQ
    simp only [xcode] at hk
    cases draw with
    | true => exact sem_get hk h hQ
    | false =>
      refine wp_region_list ?_
      have := xops_ok hT (ops := ops.toList) (Q := Qr) h hk fun e' S' a' w' hR hS => hQ _ _ _ _ _ hR hS
      simpa using this
  | seq x y ihx ihy =>
    intro e S a w Q Qr h hk hQ
    have plain : xcode X x S (then_ Q fun S' => xcode X y S' Q) → (Code.seq x y).wp X.P Qr a w := fun hx => by
      refine wp_seq (ihx h hx (compat_then hQ fun e' S' a' w' hR hS' => ihy hR hS' hQ))
    cases x <;> simp only [xcode] at hk <;> first | exact sem_get hk h hQ | exact plain hk | exact plain (by simp only [xcode]; exact hk)
  | cond c p q _ _ => intro e S a w Q Qr h hk hQ; exact sem_get hk h hQ
  | block id p _ => intro e S a w Q Qr h hk hQ; exact sem_get hk h hQ
  | loop p _ => intro e S a w Q Qr h hk hQ; exact sem_get hk h hQ
  | exit id => intro e S a w Q Qr h hk hQ; exact wp_exit (hQ _ _ _ _ _ h hk)
  | ret => intro e S a w Q Qr h hk hQ; exact wp_ret (hQ _ _ _ _ _ h hk)
  | rangeFunc f ps x y _ _ => intro e S a w Q Qr h hk hQ; exact hk.elim
  | scope p _ => intro e S a w Q Qr h hk hQ; exact hk.elim
  | label l => intro e S a w Q Qr h hk hQ; exact hk.elim
  | goto l => intro e S a w Q Qr h hk hQ; exact hk.elim
  | refuse why => intro e S a w Q Qr h hk hQ; exact hk.elim

/-! ### Weaker states -/
structure Sub (X : Cx) (S S' : St) : Prop where
  out : ∀ e a w, Rep X e S a w → ∃ e', Rep X e' S' a w
theorem sub_get {S S' : St} (hs : Sub X S S') (h : Rep X e S a w) : ∃ e', Rep X e' S' a w := by replace hs := hs.out; exact hs e a w h
theorem sub_intro {S S' : St} (hs : ∀ e a w, Rep X e S a w → ∃ e', Rep X e' S' a w) : Sub X S S' := by refine ⟨?_⟩; exact hs
theorem sub_trans {S S' S'' : St} (h : Sub X S S') (k : Sub X S' S'') : Sub X S S'' := sub_intro fun _ _ _ hR => by
  obtain ⟨e', h'⟩ := sub_get h hR
  exact sub_get k h'

/-! ### The steps that are the prover's -/
theorem seq_go (hT : TabOk X.P X.T) {x y : Code} {Q : Exit → St → Prop} (hx : semP X x S (then_ Q fun S' => xcode X y S' Q)) : semP X (.seq x y) S Q := by
  refine ⟨?_⟩
  intro e a w h Qr hQ
  exact wp_seq (sem_get hx h (compat_then hQ fun e' S' a' w' hR hS' => xcode_ok hT y hR hS' hQ))
/-- The ways through x meet again: behind it one of the states I i holds. -/
theorem seq_cut (hT : TabOk X.P X.T) {x y : Code} {Q : Exit → St → Prop} {ι : Type} (I : ι → St) (ok : ι → Prop) (hx : semP X x S (then_ Q fun S' => ∃ i, ok i ∧ Sub X S' (I i))) (hy : ∀ i, ok i → xcode X y (I i) Q) : semP X (.seq x y) S Q := by
  refine ⟨?_⟩
  intro e a w h Qr hQ
  refine wp_seq (sem_get hx h (compat_then hQ fun e' S' a' w' hR hS' => ?_))
  obtain ⟨i, hi, hs⟩ := hS'
  obtain ⟨e2, hR2⟩ := sub_get hs hR
  exact xcode_ok hT y hR2 (hy i hi) hQ
theorem cond_go (hT : TabOk X.P X.T) {c : Operand} {p q : Code} {Q : Exit → St → Prop} (t : Bool) (hc : S.ev c = some (.c (.v (.bool t)))) (hb : brP t (xcode X p S Q) (xcode X q S Q)) : semP X (.cond c p q) S Q := by
  refine ⟨?_⟩
  intro e a w h Qr hQ
  have hd := (h.ev_den hc).1
  simp only [SV.den, C.den] at hd
  refine wp_cond hd ?_
  rcases br_case hb with ⟨rfl, hk2⟩ | ⟨rfl, hk2⟩
  · exact xcode_ok hT p h hk2 hQ
  · exact xcode_ok hT q h hk2 hQ
theorem block_go (hT : TabOk X.P X.T) {id : Nat} {p : Code} {Q : Exit → St → Prop} (hp : xcode X p S (inBlk id Q)) : semP X (.block id p) S Q := by
  refine ⟨?_⟩
  intro e a w h Qr hQ
  exact wp_block (xcode_ok hT p h hp (compat_inBlk hQ))
theorem sem_sub {S S' : St} {c : Code} {Q : Exit → St → Prop} (hs : Sub X S S') (hc : semP X c S' Q) : semP X c S Q := by
  refine ⟨?_⟩
  intro e a w h Qr hQ
  obtain ⟨e', h'⟩ := sub_get hs h
  exact sem_get hc h' hQ
theorem loop_of (hT : TabOk X.P X.T) {p : Code} {Q : Exit → St → Prop} {ι : Type} (I : ι → St) (ok : ι → Prop) (μ : ι → Nat) (i0 : ι) (h0 : ok i0) (hs : Sub X S (I i0))
    (round : ∀ i, ok i → xcode X p (I i) (then_ Q fun S' => ∃ j, ok j ∧ μ j < μ i ∧ Sub X S' (I j))) : semP X (.loop p) S Q := by
  refine ⟨?_⟩
  intro e a w h Qr hQ
  obtain ⟨e0, hR0⟩ := sub_get hs h
  refine wp_loop_ghost (fun n a w => ∃ i e, ok i ∧ μ i = n ∧ Rep X e (I i) a w) (μ i0) ⟨i0, e0, h0, rfl, hR0⟩ ?_
  rintro n a w ⟨i, e, hi, rfl, hR⟩
  refine xcode_ok hT p hR (round i hi) (compat_then hQ fun e' S' a' w' hR' hS' => ?_)
  obtain ⟨j, hj, hlt, hs'⟩ := hS'
  obtain ⟨e2, hR2⟩ := sub_get hs' hR'
  exact ⟨μ j, hlt, j, e2, hj, rfl, hR2⟩

/-! ### Weaker states, by their parts -/
def C.ren (ρ : Nat → Nat) : C → C
  | .v x => .v x
  | .loc k o => .loc (ρ k) o
  | .row k => .row (ρ k)
  | .rp k o => .rp (ρ k) o
def V1.ren (ρ : Nat → Nat) : V1 → V1
  | .c x => .c (x.ren ρ)
  | .agg cs => .agg (cs.map (C.ren ρ))
def SV.ren (ρ : Nat → Nat) : SV → SV
  | .c x => .c (x.ren ρ)
  | .agg cs => .agg (cs.map (C.ren ρ))
  | .tup vs => .tup (vs.map (V1.ren ρ))
  | .un => .un
def Blk.ren (ρ : Nat → Nat) : Blk → Blk
  | .cells t cs => .cells t (cs.map (C.ren ρ))
  | .row ety esz n xs => .row ety esz n (xs.map (C.ren ρ))
  | .ext esz n xs => .ext esz n (xs.map (C.ren ρ))
  | .dead => .dead
def C.idlt (n : Nat) : C → Bool
  | .v _ => true
  | .loc k _ => Nat.blt k n
  | .row k => Nat.blt k n
  | .rp k _ => Nat.blt k n
def IdAll (n : Nat) (l : List C) : Prop := ∀ c ∈ l, c.idlt n = true
def idAllB (n : Nat) : List C → Bool
  | [] => true
  | c :: r => match c.idlt n with
    | true => idAllB n r
    | false => false
theorem idAll_of {n : Nat} : ∀ {l : List C}, idAllB n l = true → IdAll n l
  | [], _, c, hc => by cases hc
  | x :: r, h, c, hc => by
    unfold idAllB at h
    split at h
    · rename_i hx
      rcases List.mem_cons.1 hc with rfl | hc
      · exact hx
      · exact idAll_of h c hc
    · cases h
theorem idAll_v {n : Nat} (xs : List Value) : IdAll n (xs.map C.v) := fun c hc => by
  obtain ⟨x, _, rfl⟩ := List.mem_map.1 hc
  rfl
theorem map_ren_v (ρ : Nat → Nat) (xs : List Value) : (xs.map C.v).map (C.ren ρ) = xs.map C.v := by
  rw [List.map_map]
  rfl
def SV.idOk (n : Nat) : SV → Prop
  | .c x => x.idlt n = true
  | .agg cs => IdAll n cs
  | .tup _ => False
  | .un => True
def Blk.idOk (n : Nat) : Blk → Prop
  | .cells _ cs => IdAll n cs
  | .row _ _ _ xs => IdAll n xs
  | .ext _ _ xs => IdAll n xs
  | .dead => True
def Env.ren (e : Env) (ρ : Nat → Nat) : Env := ⟨fun k => e.ad (ρ k), fun k => e.rv (ρ k), fun k => e.ra (ρ k)⟩
theorem C.den_ren (e : Env) (ρ : Nat → Nat) (c : C) : c.den (e.ren ρ) = (c.ren ρ).den e := by cases c <;> rfl
theorem map_den_ren (e : Env) (ρ : Nat → Nat) (l : List C) : l.map (C.den (e.ren ρ)) = (l.map (C.ren ρ)).map (C.den e) := by
  rw [List.map_map]
  exact List.map_congr_left fun c _ => C.den_ren e ρ c
theorem V1.den_ren (e : Env) (ρ : Nat → Nat) (c : V1) : c.den (e.ren ρ) = (c.ren ρ).den e := by
  cases c with
  | c x => exact C.den_ren e ρ x
  | agg cs => simp only [V1.den, V1.ren, map_den_ren]
theorem SV.den_ren (e : Env) (ρ : Nat → Nat) (v : SV) : v.den (e.ren ρ) = (v.ren ρ).den e := by
  cases v with
  | c x => exact C.den_ren e ρ x
  | agg cs => simp only [SV.den, SV.ren, map_den_ren]
  | tup vs =>
    simp only [SV.den, SV.ren, List.map_map]
    congr 2
    exact List.map_congr_left fun c _ => V1.den_ren e ρ c
  | un => rfl
theorem C.lt_of_ren {ρ : Nat → Nat} {n m : Nat} {c : C} (h : (c.ren ρ).lt m = true) (hi : c.idlt n = true) : c.lt n = true := by
  cases c with
  | v x => exact h
  | loc k o => exact hi
  | row k => exact hi
  | rp k o => exact hi
theorem ltAll_of_ren {ρ : Nat → Nat} {n m : Nat} {l : List C} (h : ltAll m (l.map (C.ren ρ)) = true) (hi : IdAll n l) : ltAll n l = true :=
  ltAll_of fun c hc => C.lt_of_ren (ltAll_mem h _ (List.mem_map_of_mem hc)) (hi c hc)
def FrSub (ρ : Nat → Nat) (n : Nat) (fr : List (Nat × SV)) : List (Nat × SV) → Prop
  | [] => True
  | (t, v) :: r => (get fr t = some (v.ren ρ) ∧ v.idOk n) ∧ FrSub ρ n fr r
def HSub (ρ : Nat → Nat) (n : Nat) (H : List (Nat × Blk)) : List (Nat × Blk) → Prop
  | [] => True
  | (k, b) :: r => (get H (ρ k) = some (b.ren ρ) ∧ b.idOk n ∧ Nat.blt k n = true) ∧ HSub ρ n H r
/-- No two of these numbers become one. -/
def apartB (ρ : Nat → Nat) : List (Nat × Blk) → Bool
  | [] => true
  | (k, _) :: r => match r.all (fun x => !(Nat.beq (ρ x.1) (ρ k)) || Nat.beq x.1 k) with
    | true => apartB ρ r
    | false => false
theorem mem_of_get {α : Type} : ∀ {l : List (Nat × α)} {k : Nat} {v : α}, get l k = some v → (k, v) ∈ l
  | [], k, v, h => by cases h
  | (j, u) :: r, k, v, h => by
    rcases get_cons h with ⟨rfl, rfl⟩ | ⟨_, h⟩
    · simp
    · exact List.mem_cons_of_mem _ (mem_of_get h)
theorem FrSub.mem {ρ : Nat → Nat} {n : Nat} {fr : List (Nat × SV)} : ∀ {l : List (Nat × SV)}, FrSub ρ n fr l → ∀ {t : Nat} {v : SV}, (t, v) ∈ l → get fr t = some (v.ren ρ) ∧ v.idOk n
  | [], _, t, v, hm => by cases hm
  | (t', v') :: r, h, t, v, hm => by
    rcases List.mem_cons.1 hm with he | hm
    · cases he; exact h.1
    · exact FrSub.mem h.2 hm
theorem HSub.mem {ρ : Nat → Nat} {n : Nat} {H : List (Nat × Blk)} : ∀ {l : List (Nat × Blk)}, HSub ρ n H l → ∀ {t : Nat} {v : Blk}, (t, v) ∈ l → get H (ρ t) = some (v.ren ρ) ∧ v.idOk n ∧ Nat.blt t n = true
  | [], _, t, v, hm => by cases hm
  | (t', v') :: r, h, t, v, hm => by
    rcases List.mem_cons.1 hm with he | hm
    · cases he; exact h.1
    · exact HSub.mem h.2 hm
theorem apartB_mem {ρ : Nat → Nat} : ∀ {l : List (Nat × Blk)}, apartB ρ l = true → ∀ {k k' : Nat} {b b' : Blk}, (k, b) ∈ l → (k', b') ∈ l → ρ k = ρ k' → k = k'
  | [], _, k, k', b, b', hm, _, _ => by cases hm
  | (j, c) :: r, h, k, k', b, b', hm, hm', he => by
    unfold apartB at h
    split at h
    · rename_i ha
      have hall : ∀ x ∈ r, ρ x.1 = ρ j → x.1 = j := fun x hx hxe => by
        have := List.all_eq_true.1 ha x hx
        simpa [hxe] using this
      rcases List.mem_cons.1 hm with e1 | hm <;> rcases List.mem_cons.1 hm' with e2 | hm'
      · cases e1; cases e2; rfl
      · cases e1; exact (hall _ hm' he.symm).symm
      · cases e2; exact hall _ hm he
      · exact apartB_mem h hm hm' he
    · cases h
theorem Blk.holds_ren {F : Nat → Prop} {B : Nat} {e : Env} {ρ : Nat → Nat} {k : Nat} {w : World} {b : Blk} (h : (b.ren ρ).holds F B e (ρ k) w) : b.holds F B (e.ren ρ) k w := by
  cases b with
  | cells t cs => show w.heap[e.ad (ρ k)]? = some (.cells (cs.map (C.den (e.ren ρ))).toArray t (0, 0)); rw [map_den_ren]; exact h
  | row ety esz n xs => refine ⟨?_, h.2⟩; rw [map_den_ren]; exact h.1
  | ext esz n xs => refine ⟨?_, h.2⟩; rw [map_den_ren]; exact h.1
  | dead => trivial
theorem Blk.foot_ren {e : Env} {ρ : Nat → Nat} {k x : Nat} {b : Blk} (h : b.foot (e.ren ρ) k x) : (b.ren ρ).foot e (ρ k) x := by
  cases b <;> exact h
theorem SV.lt_of_ren {ρ : Nat → Nat} {n m : Nat} {v : SV} (h : (v.ren ρ).lt m = true) (hi : v.idOk n) : v.lt n = true := by
  cases v with
  | c x => exact C.lt_of_ren h hi
  | agg cs => exact ltAll_of_ren h hi
  | tup vs => exact hi.elim
  | un => rfl
theorem Blk.lt_of_ren {ρ : Nat → Nat} {n m : Nat} {v : Blk} (h : (v.ren ρ).lt m = true) (hi : v.idOk n) : v.lt n = true := by
  cases v with
  | cells t cs => exact ltAll_of_ren h hi
  | row ety esz k xs => exact ltAll_of_ren h hi
  | ext esz k xs => exact ltAll_of_ren h hi
  | dead => rfl
/-- S' says less than S, up to the numbers of blocks. -/
theorem sub_of (ρ : Nat → Nat) {S S' : St} (hfr : FrSub ρ S'.nx S.fr S'.fr) (hH : HSub ρ S'.nx S.H S'.H) (hap : apartB ρ S'.H = true) (hF : S'.F = S.F) (hE : ∀ w, S.E w → S'.E w) : Sub X S S' := by
  refine ⟨?_⟩
  intro e a w h
  refine ⟨e.ren ρ, h.df, h.sz, fun t v hv => ?_, fun t v hv => ?_, fun k b hk => ?_, fun k b hk => ?_, fun k k' b b' x hk hk' hne hx hx' => ?_, fun k b x hk hx => ?_, h.bel, fun x hx => ?_, fun x hx => ?_, fun w' hw => ?_, fun k => h.one _⟩
  · rw [SV.den_ren]
    exact h.fr t _ (hfr.mem (mem_of_get hv)).1
  · obtain ⟨h1, h2⟩ := hfr.mem (mem_of_get hv)
    exact SV.lt_of_ren (h.frlt t _ h1) h2
  · rw [hF]
    exact Blk.holds_ren (h.hp _ _ (hH.mem (mem_of_get hk)).1)
  · obtain ⟨h1, h2, h3⟩ := hH.mem (mem_of_get hk)
    exact ⟨blt_iff.1 h3, Blk.lt_of_ren (h.hlt _ _ h1).2 h2⟩
  · have m1 := mem_of_get hk
    have m2 := mem_of_get hk'
    exact h.sep _ _ _ _ x (hH.mem m1).1 (hH.mem m2).1 (fun e1 => hne (apartB_mem hap m1 m2 e1)) (Blk.foot_ren hx) (Blk.foot_ren hx')
  · rw [hF]
    exact h.ff _ _ x (hH.mem (mem_of_get hk)).1 (Blk.foot_ren hx)
  · rw [hF] at hx; exact h.fl x hx
  · rw [hF]; exact h.f0 x hx
  · exact hE w' (h.ev w' fun x hx => hw x (by rw [hF]; exact hx))
/-- A nil slice is a row of no elements. -/
theorem sub_row {S : St} (t ety esz : Nat) (ht : get S.fr t = some (.c (.v (.slice none 0 0)))) : Sub X S { S with fr := (t, .c (.row S.nx)) :: S.fr, H := (S.nx, .row ety esz 0 []) :: S.H, nx := S.nx + 1 } := by
  refine ⟨?_⟩
  intro e a w h
  have hR := h.newRow (w' := w) (ety := ety) (esz := esz) (n := 0) (xs := []) (v := .slice none 0 0) rfl rfl rfl rfl rfl (Nat.le_refl _) (fun _ _ _ => rfl) (World.ownsRow_nil w _ _ _) (fun x hx => by cases hx)
  refine ⟨_, { hR with fr := fun i v hv => ?_, frlt := fun i v hv => ?_ }⟩
  · rcases get_cons hv with ⟨rfl, rfl⟩ | ⟨_, hv⟩
    · have := hR.fr t _ ht
      simp only [SV.den, C.den, Env.withRow_rv] at this ⊢
      exact this
    · exact hR.fr i v hv
  · rcases get_cons hv with ⟨rfl, rfl⟩ | ⟨_, hv⟩
    · exact blt_iff.2 (Nat.lt_succ_self _)
    · exact hR.frlt i v hv
end

/-! ### A function -/
section
variable {X : Cx} {e : Env} {S : St} {a : Act} {w : World}
def xresult (X : Cx) (S : St) : ResultVar → Option V1
  | .tmp t => (match get S.fr t with
    | some (.c x) => some (.c x)
    | some (.agg cs) => some (.agg cs)
    | _ => none)
  | .cell p t => (match get S.fr p with
    | some (.c (.loc k o)) => (match get S.H k with
      | some (.cells _ cs) => (match get X.T t with
        | some ti => (match rowB ti.d with
          | true => (match Nat.ble (o + ti.size) cs.length with
            | true => some (.agg ((cs.drop o).take ti.size))
            | false => none)
          | false => (match cs[o]? with
            | some c => some (.c c)
            | none => none))
        | none => none)
      | _ => none)
    | _ => none)
def xresults (X : Cx) (S : St) : List ResultVar → Option (List V1)
  | [] => some []
  | r :: l => match xresult X S r with
    | some v => (match xresults X S l with
      | some vs => some (v :: vs)
      | none => none)
    | none => none
def oneOf : List V1 → SV
  | [v] => v.sv
  | vs => .tup vs
structure finP (X : Cx) (S : St) (v : SV) (R : Ending → World → Prop) : Prop where
  out : ∀ e a w, Rep X e S a w → R (.returned (v.den e)) w
def xret (X : Cx) (fn : Func) (R : Ending → World → Prop) (ex : Exit) (S : St) : Prop := match ex with
  | .normal => (match xresults X S fn.results.toList with
    | some vs => finP X S (oneOf vs) R
    | none => False)
  | .ret => (match xresults X S fn.results.toList with
    | some vs => finP X S (oneOf vs) R
    | none => False)
  | _ => False
/-- What the model's 'results' does with one result. -/
def resOne (tmps : Array Value) : ResultVar → Sem Value
  | .tmp t => pure (tmps.getD t undef)
  | .cell a t => do loadVar t (← asAddr (tmps.getD a undef))
theorem results_eq (fn : Func) (tmps : Array Value) : results fn tmps = (do let vs ← fn.results.mapM (resOne tmps); pure (if h : vs.size = 1 then vs[0] else .tuple vs)) := by
  unfold results
  congr 1
theorem xresult_ok (hT : TabOk X.P X.T) (h : Rep X e S a w) {r : ResultVar} {v : V1} (hv : xresult X S r = some v) :
    (resOne a.tmps r).run X.P w = .ok (v.den e) w := by
  unfold resOne
  cases r with
  | tmp t =>
    simp only [xresult] at hv
    split at hv
    · rename_i x hx
      cases hv
      have := h.fr t _ hx
      simp [this, SV.den, V1.den]
    · rename_i x hx
      cases hv
      have := h.fr t _ hx
      simp [this, SV.den, V1.den]
    · cases hv
  | cell p t =>
    simp only [xresult] at hv
    split at hv
    · rename_i k o' hx
      have hp := h.fr p _ hx
      split at hv
      · rename_i ty cs hH
        have hb : w.heap[e.ad k]? = some (.cells (cs.map (C.den e)).toArray ty (0, 0)) := h.hp k _ hH
        split at hv
        · rename_i ti hti
          obtain ⟨hu, j, hj, _, hjs, _⟩ := TabOk.get hT hti
          split at hv
          · rename_i hr
            split at hv
            · rename_i hle
              have hle : o' + ti.size ≤ cs.length := Nat.le_of_ble_eq_true hle
              cases hv
              have hrun := run_load_agg (p := ⟨e.ad k, o', none⟩) (cs := ((cs.drop o').take ti.size).map (C.den e)) (w := w) hu hr hj (by simp; omega) (fun i v hi => by
                rw [Addr.add_mid]
                refine cell_of_block hb ?_
                rw [List.getElem?_map] at hi
                cases hc : ((cs.drop o').take ti.size)[i]? with
                | none => rw [hc] at hi; cases hi
                | some c =>
                  rw [hc] at hi
                  simp only [Option.map_some, Option.some.injEq] at hi
                  subst hi
                  have := take_drop_get rfl i c hc
                  simp [this])
              simp only [Instr.loadAt, Instr.sureAddr, Sem.run_bind, Sem.run_pure, Result.andThen_ok] at hrun
              simp [hp, SV.den, C.den, asAddr, hrun, V1.den]
            · cases hv
          · rename_i hr
            split at hv
            · rename_i c hc
              cases hv
              have hrun := run_load_one (w := w) (v := c.den e) hu hr (cell_of_block (o := o') hb (by simp [hc]))
              simp only [Instr.loadAt, Instr.sureAddr, Sem.run_bind, Sem.run_pure, Result.andThen_ok] at hrun
              simp [hp, SV.den, C.den, asAddr, hrun, V1.den]
            · cases hv
        · cases hv
      · cases hv
    · cases hv
theorem xresults_ok (hT : TabOk X.P X.T) (h : Rep X e S a w) : ∀ {l : List ResultVar} {vs : List V1}, xresults X S l = some vs →
    (List.mapM (resOne a.tmps) l).run X.P w = .ok (vs.map (V1.den e)) w
  | [], vs, hv => by cases hv; rfl
  | r :: l, vs, hv => by
    simp only [xresults] at hv
    split at hv
    · rename_i v h1
      split at hv
      · rename_i vs' h2
        cases hv
        rw [List.mapM_cons]
        simp only [Sem.run_bind, xresult_ok hT h h1, Result.andThen_ok, xresults_ok hT h h2, Sem.run_pure, List.map_cons]
      · cases hv
    · cases hv
theorem xret_ok (hT : TabOk X.P X.T) {fn : Func} {R : Ending → World → Prop} : compat X (xret X fn R) (bodyPost X.P fn R) := by
  intro ex e S a w h hk
  have key : (match xresults X S fn.results.toList with
      | some vs => finP X S (oneOf vs) R
      | none => False) → a.defers = [] ∧ ∃ v, (results fn a.tmps).run X.P w = .ok v w ∧ R (.returned v) w := by
    intro hk
    split at hk
    · rename_i vs hvs
      replace hk := hk.out
      refine ⟨h.df, _, ?_, hk e a w h⟩
      have hm := xresults_ok hT h hvs
      have hm2 : (fn.results.mapM (resOne a.tmps)).run X.P w = .ok (vs.map (V1.den e)).toArray w := by
        rw [← Array.toArray_toList (xs := fn.results), List.mapM_toArray]
        simp only [map_eq_pure_bind, Sem.run_bind, hm, Result.andThen_ok, Sem.run_pure]
      rw [results_eq]
      simp only [Sem.run_bind, hm2, Result.andThen_ok, Sem.run_pure]
      congr 1
      match vs with
      | [] => rfl
      | [v] => simp [oneOf, V1.den_sv]
      | v :: u :: r => simp [oneOf, SV.den]
    · exact hk.elim
  cases ex with
  | normal => exact key hk
  | ret => exact key hk
  | exit id => exact hk.elim
  | goto l => exact hk.elim
  | panic ch => exact hk.elim
  | outgrown => exact hk.elim
def number : Nat → List SV → List (Nat × SV)
  | _, [] => []
  | i, v :: r => (i, v) :: number (i + 1) r
theorem get_number {i t : Nat} {v : SV} : ∀ {l : List SV} {j : Nat}, get (number j l) t = some v → j ≤ t ∧ l[t - j]? = some v
  | [], j, h => by cases h
  | u :: r, j, h => by
    rcases get_cons h with ⟨rfl, rfl⟩ | ⟨hne, h⟩
    · exact ⟨Nat.le_refl _, by simp⟩
    · obtain ⟨h1, h2⟩ := get_number (i := i) h
      refine ⟨by omega, ?_⟩
      rw [show t - j = (t - (j + 1)) + 1 by omega, List.getElem?_cons_succ]
      exact h2
def allLt : List SV → Bool
  | [] => true
  | v :: r => match v.lt 0 with
    | true => allLt r
    | false => false
theorem allLt_mem : ∀ {l : List SV}, allLt l = true → ∀ v ∈ l, v.lt 0 = true
  | [], _, v, hv => by cases hv
  | x :: r, h, v, hv => by
    unfold allLt at h
    split at h
    · rename_i hx
      rcases List.mem_cons.1 hv with rfl | hv
      · exact hx
      · exact allLt_mem h v hv
    · cases h
/-- The state at a function's beginning: what its arguments are. -/
def St.at0 (w : World) (avs : List SV) : St := { fr := number 0 avs, H := [], nx := 0, F := fun x => x < w.heap.size, E := fun _ => True }
def env0 : Env := ⟨fun _ => 0, fun _ => .slice none 0 0, fun _ => ⟨0, 0, none⟩⟩
theorem rep0 {P : Program} {T : Tab} {w : World} {nt : Nat} {avs : List SV} (hl : ∀ v ∈ avs, v.lt 0 = true) (hn : avs.length ≤ nt) :
    Rep ⟨P, T, w, nt⟩ env0 (St.at0 w avs) { tmps := denAll env0 avs ++ Array.replicate (nt - (denAll env0 avs).size) undef, defers := [] } w := by
  refine ⟨rfl, by simp [denAll]; omega, fun t v hv => ?_, fun t v hv => ?_, fun k b hk => (by cases hk), fun k b hk => (by cases hk), fun k k' b b' x hk => (by cases hk), fun k b x hk => (by cases hk), Below.refl _ _, fun x hx => hx, fun x hx => hx, fun _ _ => trivial, fun _ => rfl⟩
  · obtain ⟨_, h2⟩ := get_number (i := 0) hv
    rw [Nat.sub_zero] at h2
    have hlt : t < avs.length := (List.getElem?_eq_some_iff.1 h2).1
    rw [Array.getElem?_append_left (by simpa [denAll] using hlt)]
    simp [denAll, h2]
  · obtain ⟨_, h2⟩ := get_number (i := 0) hv
    exact hl v (List.mem_of_getElem? h2)
/-- A call of function f: its code, from the state at its beginning on. -/
theorem calls_of {P : Program} {T : Tab} {f : FuncId} {fn : Func} {c : Code} {w : World} {R : Ending → World → Prop} (hT : TabOk P T) (hf : P.funcs[f]? = some fn) (hb : fn.body = some c) (nt : Nat) (hnt : fn.ntmps = nt) {args : Array Value} (avs : List SV) (hargs : args = denAll env0 avs) (hl : allLt avs = true) (hn : Nat.ble avs.length nt = true)
    (hx : xcode ⟨P, T, w, nt⟩ c (St.at0 w avs) (xret ⟨P, T, w, nt⟩ fn R)) : Calls P f args w R := by
  subst hargs
  refine calls_of_wp hf hb ?_
  rw [hnt]
  exact xcode_ok hT c (rep0 (allLt_mem hl) (Nat.le_of_ble_eq_true hn)) hx (xret_ok hT)
/-- The same, where a weaker or richer state is wanted at the beginning. -/
theorem calls_of' {P : Program} {T : Tab} {f : FuncId} {fn : Func} {c : Code} {w : World} {R : Ending → World → Prop} (hT : TabOk P T) (hf : P.funcs[f]? = some fn) (hb : fn.body = some c) (nt : Nat) (hnt : fn.ntmps = nt) {args : Array Value} (avs : List SV) (hargs : args = denAll env0 avs) (hl : allLt avs = true) (hn : Nat.ble avs.length nt = true)
    (S : St) (hs : Sub ⟨P, T, w, nt⟩ (St.at0 w avs) S) (hx : xcode ⟨P, T, w, nt⟩ c S (xret ⟨P, T, w, nt⟩ fn R)) : Calls P f args w R := by
  subst hargs
  refine calls_of_wp hf hb ?_
  rw [hnt]
  obtain ⟨e', hR⟩ := sub_get hs (rep0 (allLt_mem hl) (Nat.le_of_ble_eq_true hn))
  exact xcode_ok hT c hR hx (xret_ok hT)
theorem fin_of {v : SV} {R : Ending → World → Prop} (h : ∀ e a w, Rep X e S a w → R (.returned (v.den e)) w) : finP X S v R := by refine ⟨?_⟩; exact h
theorem fin_val {v : SV} {u : Value} (h : ∀ e, v.den e = u) : finP X S v (Ret u X.w0) := fin_of fun e a w hR => ⟨by rw [h], hR.bel⟩
end
end Go.Proofs.Ytbajgjbgkpcapaa.Sx
