/-
  The symbolic executor, 10: the operations of a region, code, weaker states, loops.
-/
import Derived.Test.YteldohidnepaoaaSy9
import Derived.TacticsIn
import Derived.Sort.LoopGhostIn
namespace Go.Proofs.Yteldohidnepaoaa.Sy
open Go Go.RowKit
section
variable {X : Cx} {e : Env} {S : St} {a : Act} {w : World}

/-! ### A region in the text's order -/
def guardS (S : St) (ops : List Oper) (j : Nat) : Option SV := match ops[j]? with
  | some oj => (match oj.dst with
    | some d => get S.fr d
    | none => none)
  | none => none
def xskip (X : Cx) (o : Oper) (S : St) (K : St → Prop) : Prop := match dstOk X.nt o.dst with
  | true => K (S.put o.dst .un)
  | false => False
/-- One operation of a region, under its guard. -/
def xguard (X : Cx) (ops : List Oper) (o : Oper) (S : St) (K : St → Prop) : Prop := match o.guard with
  | none => xop X o S K
  | some (j, want) => (match guardS S ops j with
    | some (.c (.v (.bool t))) => brP t (match want with
        | true => xop X o S K
        | false => xskip X o S K) (match want with
        | true => xskip X o S K
        | false => xop X o S K)
    | some .un => xskip X o S K
    | _ => False)
/-- States are kept in a plain form, so that they are not worked out again and again. -/
def forceNat (n : Nat) (K : Nat → Prop) : Prop := match n with
  | 0 => K 0
  | 1 => K 1
  | n + 2 => K (n + 2)
def forceC (c : C) (K : C → Prop) : Prop := match c with
  | .v x => K (.v x)
  | .loc k o => forceNat k fun k => forceNat o fun o => K (.loc k o)
  | .row k => forceNat k fun k => K (.row k)
  | .ep k i o => forceNat k fun k => forceNat o fun o => K (.ep k i o)
  | .sl k o n => forceNat k fun k => K (.sl k o n)
def forceL : List C → (List C → Prop) → Prop
  | [], K => K []
  | c :: r, K => forceC c fun c => forceL r fun r => K (c :: r)
def forceSV (v : SV) (K : SV → Prop) : Prop := match v with
  | .c x => forceC x fun x => K (.c x)
  | .agg cs => forceL cs fun cs => K (.agg cs)
  | v => K v
def forceEls (x : Els) (K : Els → Prop) : Prop := match x with
  | .vs l => K (.vs l)
  | .cs l => K (.cs l)
def forceBlk (b : Blk) (K : Blk → Prop) : Prop := match b with
  | .cells t cs => forceL cs fun cs => K (.cells t cs)
  | .row t z n xs => forceEls xs fun xs => K (.row t z n xs)
  | .ext z n xs => forceEls xs fun xs => K (.ext z n xs)
  | .buf t z n xs => forceEls xs fun xs => K (.buf t z n xs)
  | .lrec j nt ps as bd st => forceNat j fun j => K (.lrec j nt ps as bd st)
  | .fn f cs => forceL cs fun cs => K (.fn f cs)
  | b => K b
def forceFr (fr : List (Nat × SV)) (K : List (Nat × SV) → Prop) : Prop := match fr with
  | [] => K []
  | (t, v) :: r => forceSV v fun v => K ((t, v) :: r)
def forceH (H : List (Nat × Blk)) (K : List (Nat × Blk) → Prop) : Prop := match H with
  | [] => K []
  | (k, b) :: r => forceNat k fun k => forceBlk b fun b => K ((k, b) :: r)
def St.force (S : St) (K : St → Prop) : Prop := match S with
  | ⟨fr, H, nx, F, E, g⟩ => forceFr fr fun fr => forceH H fun H => forceNat nx fun nx => K ⟨fr, H, nx, F, E, g⟩
theorem forceNat_eq (n : Nat) (K : Nat → Prop) : forceNat n K = K n := by
  match n with
  | 0 => rfl
  | 1 => rfl
  | n + 2 => rfl
theorem forceC_eq (c : C) (K : C → Prop) : forceC c K = K c := by cases c <;> simp only [forceC, forceNat_eq]
theorem forceL_eq : ∀ (l : List C) (K : List C → Prop), forceL l K = K l
  | [], K => rfl
  | c :: r, K => by simp only [forceL, forceC_eq, forceL_eq r]
theorem forceSV_eq (v : SV) (K : SV → Prop) : forceSV v K = K v := by cases v <;> simp only [forceSV, forceC_eq, forceL_eq]
theorem forceEls_eq (x : Els) (K : Els → Prop) : forceEls x K = K x := by cases x <;> rfl
theorem forceBlk_eq (b : Blk) (K : Blk → Prop) : forceBlk b K = K b := by cases b <;> simp only [forceBlk, forceL_eq, forceEls_eq, forceNat_eq]
theorem forceFr_eq (fr : List (Nat × SV)) (K : List (Nat × SV) → Prop) : forceFr fr K = K fr := by cases fr <;> simp only [forceFr, forceSV_eq]
theorem forceH_eq (H : List (Nat × Blk)) (K : List (Nat × Blk) → Prop) : forceH H K = K H := by cases H <;> simp only [forceH, forceNat_eq, forceBlk_eq]
theorem force_eq (S : St) (K : St → Prop) : St.force S K = K S := by cases S; simp only [St.force, forceFr_eq, forceH_eq, forceNat_eq]
/-- All of it. -/
def forceFrs : List (Nat × SV) → (List (Nat × SV) → Prop) → Prop
  | [], K => K []
  | (t, v) :: r, K => forceNat t fun t => forceSV v fun v => forceFrs r fun r => K ((t, v) :: r)
def forceHs : List (Nat × Blk) → (List (Nat × Blk) → Prop) → Prop
  | [], K => K []
  | (k, b) :: r, K => forceNat k fun k => forceBlk b fun b => forceHs r fun r => K ((k, b) :: r)
def forceGs : List (List (Nat × SV)) → (List (List (Nat × SV)) → Prop) → Prop
  | [], K => K []
  | f :: r, K => forceFrs f fun f => forceGs r fun r => K (f :: r)
def St.forceAll (S : St) (K : St → Prop) : Prop := match S with
  | ⟨fr, H, nx, F, E, g⟩ => forceFrs fr fun fr => forceHs H fun H => forceNat nx fun nx => forceGs g fun g => K ⟨fr, H, nx, F, E, g⟩
theorem forceFrs_eq : ∀ (l : List (Nat × SV)) (K : List (Nat × SV) → Prop), forceFrs l K = K l
  | [], K => rfl
  | (t, v) :: r, K => by simp only [forceFrs, forceNat_eq, forceSV_eq, forceFrs_eq r]
theorem forceHs_eq : ∀ (l : List (Nat × Blk)) (K : List (Nat × Blk) → Prop), forceHs l K = K l
  | [], K => rfl
  | (t, v) :: r, K => by simp only [forceHs, forceNat_eq, forceBlk_eq, forceHs_eq r]
theorem forceGs_eq : ∀ (l : List (List (Nat × SV))) (K : List (List (Nat × SV)) → Prop), forceGs l K = K l
  | [], K => rfl
  | f :: r, K => by simp only [forceGs, forceFrs_eq, forceGs_eq r]
theorem forceAll_eq (S : St) (K : St → Prop) : St.forceAll S K = K S := by cases S; simp only [St.forceAll, forceFrs_eq, forceHs_eq, forceNat_eq, forceGs_eq]
def xopsF (X : Cx) (ops : List Oper) : List Oper → St → (St → Prop) → Prop
  | [], S, K => K S
  | o :: r, S, K => xguard X ops o S fun S' => St.force S' fun S' => xopsF X ops r S' K
def xops (X : Cx) (id : Nat) (ops : List Oper) (l : List Oper) (S : St) (K : St → Prop) : Prop := St.forceAll (S.prune (get X.lv id)) fun S => xopsF X ops l S K
theorem yielded_of (h : RepV X e S a w) {ops : List Oper} {j : Nat} {v : SV} (hg : guardS S ops j = some v) : ∃ d, ((ops.toArray[j]?).bind (·.dst)) = some d ∧ a.tmps[d]? = some (v.den e) := by
  unfold guardS at hg
  split at hg
  · rename_i oj hj
    split at hg
    · rename_i d hd
      exact ⟨d, by simp [hj, hd], h.fr d v hg⟩
    · cases hg
  · cases hg
/-- What 'xguard' says, is. -/
theorem xguard_ok (hT : TabOk X.P X.T) (h : Rep X e S a w) {ops : List Oper} {o : Oper} {K : St → Prop} (hk : xguard X ops o S K) {KK : Act → World → Prop} (Q : Exit → Act → World → Prop) (hKK : ∀ e' S' a' w', Rep X e' S' a' w' → K S' → KK a' w') :
    if Region.wanted o (yielded ops.toArray a.tmps) = true then o.wpIn X.fen 0 X.P a w KK Q else KK (a.put o.dst undef) w := by
  have skip : xskip X o S K → KK (a.put o.dst undef) w := fun hs => by
    unfold xskip at hs
    split at hs
    · rename_i hd
      exact hKK _ _ _ _ (h.put (v := .un) hd rfl) hs
    · exact hs.elim
  have go : xop X o S K → o.wpIn X.fen 0 X.P a w KK Q := fun ho => xop_ok hT h ho KK Q hKK
  unfold xguard at hk
  split at hk
  · rename_i hg
    rw [if_pos (by simp [Region.wanted, hg])]
    exact go hk
  · rename_i j want hg
    split at hk
    · rename_i t hs
      obtain ⟨d, hd, hv⟩ := yielded_of h.v hs
      have hy : yielded ops.toArray a.tmps j = some t := by
        unfold yielded
        rw [hd, Option.bind_some, hv]
        rfl
      have hw : Region.wanted o (yielded ops.toArray a.tmps) = (t == want) := by
        simp only [Region.wanted, hg, hy]
        cases t <;> cases want <;> rfl
      rw [hw]
      rcases br_case hk with ⟨rfl, hk2⟩ | ⟨rfl, hk2⟩ <;> cases want <;> simp only at hk2
      · exact skip hk2
      · exact go hk2
      · exact go hk2
      · exact skip hk2
    · rename_i hs
      obtain ⟨d, hd, hv⟩ := yielded_of h.v hs
      have hy : yielded ops.toArray a.tmps j = none := by
        unfold yielded
        rw [hd, Option.bind_some, hv]
        rfl
      rw [if_neg (by simp [Region.wanted, hg, hy])]
      exact skip hk
    · exact hk.elim
theorem xopsF_ok (hT : TabOk X.P X.T) {ops : List Oper} {Q : Exit → Act → World → Prop} : ∀ {l : List Oper} {e : Env} {S : St} {a : Act} {w : World} {K : St → Prop}, Rep X e S a w → xopsF X ops l S K → (∀ e' S' a' w', Rep X e' S' a' w' → K S' → Q .normal a' w') → wpListIn X.fen 0 X.P ops.toArray Q l a w
  | [], e, S, a, w, K, h, hk, hQ => hQ _ _ _ _ h hk
  | o :: r, e, S, a, w, K, h, hk, hQ => by
    refine wpListIn_step fun KK hKK => ?_
    have := xguard_ok hT h hk (KK := KK) Q fun e' S' a' w' hR hS' => hKK _ _ (xopsF_ok hT hR (by rw [force_eq] at hS'; exact hS') hQ)
    split
    · rename_i hw; rw [if_pos hw] at this; exact this
    · rename_i hw; rw [if_neg hw] at this; exact ⟨fun f _ => fen_fn _ f, this⟩
theorem xops_ok (hT : TabOk X.P X.T) {ops : List Oper} {Q : Exit → Act → World → Prop} {l : List Oper} {K : St → Prop} (id : Nat) (h : Rep X e S a w) (hk : xops X id ops l S K) (hQ : ∀ e' S' a' w', Rep X e' S' a' w' → K S' → Q .normal a' w') : wpListIn X.fen 0 X.P ops.toArray Q l a w := by
  unfold xops at hk
  rw [forceAll_eq] at hk
  exact xopsF_ok hT (h.prune _) hk hQ

/-! ### Code -/
def compat (X : Cx) (Q : Exit → St → Prop) (Qr : Exit → Act → World → Prop) : Prop := ∀ ex e S a w, Rep X e S a w → Q ex S → Qr ex a w
/-- Code c does, from state S on, what Q says. -/
structure semP (X : Cx) (c : Code) (S : St) (Q : Exit → St → Prop) : Prop where
  out : ∀ e a w, Rep X e S a w → ∀ Qr, compat X Q Qr → c.wpIn X.fen 0 X.P Qr a w
/-- The same of x and then y, where the prover may let the ways through x meet again. -/
structure cutP (X : Cx) (x y : Code) (S : St) (Q : Exit → St → Prop) : Prop where
  out : ∀ e a w, Rep X e S a w → ∀ Qr, compat X Q Qr → (Code.seq x y).wpIn X.fen 0 X.P Qr a w
def hasGuard : List Oper → Bool
  | [] => false
  | o :: r => match o.guard with
    | some _ => true
    | none => hasGuard r
def then_ (Q : Exit → St → Prop) (K : St → Prop) : Exit → St → Prop := fun ex S' => match ex with
  | .normal => K S'
  | ex => Q ex S'
def inBlk (id : Nat) (Q : Exit → St → Prop) : Exit → St → Prop := fun ex S' => match ex with
  | .exit i => (match Nat.beq i id with
    | true => Q .normal S'
    | false => Q (.exit i) S')
  | ex => Q ex S'
def xcode (X : Cx) : Code → St → (Exit → St → Prop) → Prop
  | .skip, S, Q => Q .normal S
  | .region id ops draw, S, Q => (match draw with
    | false => xops X id ops.toList ops.toList S (Q .normal)
    | true => semP X (.region id ops true) S Q)
  | .seq x y, S, Q => (match x with
    | .cond c p q => semP X (.seq (.cond c p q) y) S Q
    | .block id p => semP X (.seq (.block id p) y) S Q
    | .rangeFunc g ps p q => semP X (.seq (.rangeFunc g ps p q) y) S Q
    | .region id ops false => (match hasGuard ops.toList with
      | true => cutP X (.region id ops false) y S Q
      | false => xops X id ops.toList ops.toList S fun S' => xcode X y S' Q)
    | .region id ops true => cutP X (.region id ops true) y S Q
    | x => xcode X x S (then_ Q fun S' => xcode X y S' Q))
  | .cond c p q, S, Q => semP X (.cond c p q) S Q
  | .block id p, S, Q => semP X (.block id p) S Q
  | .loop p, S, Q => semP X (.loop p) S Q
  | .rangeFunc g ps p q, S, Q => semP X (.rangeFunc g ps p q) S Q
  | .exit id, S, Q => Q (.exit id) S
  | .ret, S, Q => Q .ret S
  | _, _, _ => False
theorem compat_then {Q : Exit → St → Prop} {Qr : Exit → Act → World → Prop} (hQ : compat X Q Qr) {K : St → Prop} {Kr : Act → World → Prop} (hK : ∀ e S a w, Rep X e S a w → K S → Kr a w) : compat X (then_ Q K) (Exit.then Kr Qr) := by
  intro ex e S a w hR h
  cases ex with
  | normal => exact hK e S a w hR h
  | exit id => exact hQ _ _ _ _ _ hR h
  | goto l => exact hQ _ _ _ _ _ hR h
  | ret => exact hQ _ _ _ _ _ hR h
  | panic ch => exact hQ _ _ _ _ _ hR h
  | outgrown => exact hQ _ _ _ _ _ hR h
theorem compat_inBlk {id : Nat} {Q : Exit → St → Prop} {Qr : Exit → Act → World → Prop} (hQ : compat X Q Qr) : compat X (inBlk id Q) (Exit.inBlock id Qr) := by
  intro ex e S a w hR h
  cases ex with
  | exit i =>
    simp only [inBlk] at h
    simp only [Exit.inBlock]
    split at h
    · rename_i hi
      rw [if_pos (Nat.eq_of_beq_eq_true hi)]
      exact hQ _ _ _ _ _ hR h
    · rename_i hi
      rw [if_neg (fun e1 => by subst e1; simp at hi)]
      exact hQ _ _ _ _ _ hR h
  | normal => exact hQ _ _ _ _ _ hR h
  | goto l => exact hQ _ _ _ _ _ hR h
  | ret => exact hQ _ _ _ _ _ hR h
  | panic ch => exact hQ _ _ _ _ _ hR h
  | outgrown => exact hQ _ _ _ _ _ hR h
theorem sem_get {c : Code} {Q : Exit → St → Prop} (hs : semP X c S Q) (h : Rep X e S a w) {Qr : Exit → Act → World → Prop} (hQ : compat X Q Qr) : c.wpIn X.fen 0 X.P Qr a w := by
  replace hs := hs.out
  exact hs e a w h Qr hQ
theorem xcode_ok (hT : TabOk X.P X.T) : ∀ (c : Code) {e : Env} {S : St} {a : Act} {w : World} {Q : Exit → St → Prop} {Qr : Exit → Act → World → Prop}, Rep X e S a w → xcode X c S Q → compat X Q Qr → c.wpIn X.fen 0 X.P Qr a w := by
  intro c
  induction c with
  | skip => intro e S a w Q Qr h hk hQ; exact wpIn_skip (hQ _ _ _ _ _ h hk)
  | region id ops draw =>
    intro e S a w Q Qr h hk hQ
    simp only [xcode] at hk
    cases draw with
    | true => exact sem_get hk h hQ
    | false =>
      refine wpIn_region_list ?_
      have := xops_ok hT (ops := ops.toList) (Q := Qr) id h hk fun e' S' a' w' hR hS => hQ _ _ _ _ _ hR hS
      simpa using this
  | seq x y ihx ihy =>
    intro e S a w Q Qr h hk hQ
    have plain : xcode X x S (then_ Q fun S' => xcode X y S' Q) → (Code.seq x y).wpIn X.fen 0 X.P Qr a w := fun hx => by
      refine wpIn_seq (ihx h hx (compat_then hQ fun e' S' a' w' hR hS' => ihy hR hS' hQ))
    cases x with
    | region id ops draw =>
      cases draw with
      | true => (simp only [xcode] at hk; exact hk.out e a w h Qr hQ)
      | false =>
        simp only [xcode] at hk
        split at hk
        · exact hk.out e a w h Qr hQ
        · exact plain (by simp only [xcode]; exact hk)
    | _ => (simp only [xcode] at hk <;> first | exact sem_get hk h hQ | exact plain hk | exact plain (by simp only [xcode]; exact hk))
  | cond c p q _ _ => intro e S a w Q Qr h hk hQ; exact sem_get hk h hQ
  | block id p _ => intro e S a w Q Qr h hk hQ; exact sem_get hk h hQ
  | loop p _ => intro e S a w Q Qr h hk hQ; exact sem_get hk h hQ
  | exit id => intro e S a w Q Qr h hk hQ; exact wpIn_exit (hQ _ _ _ _ _ h hk)
  | ret => intro e S a w Q Qr h hk hQ; exact wpIn_ret (hQ _ _ _ _ _ h hk)
  | rangeFunc f ps x y _ _ => intro e S a w Q Qr h hk hQ; exact sem_get hk h hQ
  | scope p _ => intro e S a w Q Qr h hk hQ; exact hk.elim
  | label l => intro e S a w Q Qr h hk hQ; exact hk.elim
  | goto l => intro e S a w Q Qr h hk hQ; exact hk.elim
  | refuse why => intro e S a w Q Qr h hk hQ; exact hk.elim

/-! ### Weaker states -/
structure Sub (X : Cx) (S S' : St) : Prop where
  out : ∀ e a w, Rep X e S a w → ∃ e', Rep X e' S' a w
theorem sub_get {S S' : St} (hs : Sub X S S') (h : Rep X e S a w) : ∃ e', Rep X e' S' a w := by replace hs := hs.out; exact hs e a w h
theorem sub_intro {S S' : St} (hs : ∀ e a w, Rep X e S a w → ∃ e', Rep X e' S' a w) : Sub X S S' := by refine ⟨?_⟩; exact hs
theorem sub_refl (S : St) : Sub X S S := sub_intro fun e _ _ h => ⟨e, h⟩
theorem sub_trans {S S' S'' : St} (h : Sub X S S') (k : Sub X S' S'') : Sub X S S'' := sub_intro fun _ _ _ hR => by
  obtain ⟨e', h'⟩ := sub_get h hR
  exact sub_get k h'

/-! ### The steps that are the prover's -/
theorem seq_go (hT : TabOk X.P X.T) {x y : Code} {Q : Exit → St → Prop} (hx : semP X x S (then_ Q fun S' => xcode X y S' Q)) : semP X (.seq x y) S Q := by
  refine ⟨?_⟩
  intro e a w h Qr hQ
  exact wpIn_seq (sem_get hx h (compat_then hQ fun e' S' a' w' hR hS' => xcode_ok hT y hR hS' hQ))
theorem region_go (hT : TabOk X.P X.T) {id : Nat} {ops : Array Oper} {Q : Exit → St → Prop} (hx : xops X id ops.toList ops.toList S (Q .normal)) : semP X (.region id ops false) S Q := by
  refine ⟨?_⟩
  intro e a w h Qr hQ
  refine wpIn_region_list ?_
  have := xops_ok hT (ops := ops.toList) (Q := Qr) id h hx fun e' S' a' w' hR hS => hQ _ _ _ _ _ hR hS
  simpa using this
theorem cut_sem {x y : Code} {Q : Exit → St → Prop} (hx : semP X (.seq x y) S Q) : cutP X x y S Q := ⟨hx.out⟩
theorem cut_go (hT : TabOk X.P X.T) {id : Nat} {ops : Array Oper} {y : Code} {Q : Exit → St → Prop} (hx : xops X id ops.toList ops.toList S fun S' => xcode X y S' Q) : cutP X (.region id ops false) y S Q :=
  cut_sem (seq_go hT (region_go hT hx))
/-- The ways through x meet again: behind it one of the states I i holds. -/
theorem seq_cut (hT : TabOk X.P X.T) {x y : Code} {Q : Exit → St → Prop} {ι : Type} (I : ι → St) (ok : ι → Prop) (hx : semP X x S (then_ Q fun S' => ∃ i, ok i ∧ Sub X S' (I i))) (hy : ∀ i, ok i → St.forceAll (I i) fun S => xcode X y S Q) : semP X (.seq x y) S Q := by
  refine ⟨?_⟩
  intro e a w h Qr hQ
  refine wpIn_seq (sem_get hx h (compat_then hQ fun e' S' a' w' hR hS' => ?_))
  obtain ⟨i, hi, hs⟩ := hS'
  obtain ⟨e2, hR2⟩ := sub_get hs hR
  have := hy i hi
  rw [forceAll_eq] at this
  exact xcode_ok hT y hR2 this hQ
theorem cond_go (hT : TabOk X.P X.T) {c : Operand} {p q : Code} {Q : Exit → St → Prop} (t : Bool) (hc : S.ev c = some (.c (.v (.bool t)))) (hb : brP t (xcode X p S Q) (xcode X q S Q)) : semP X (.cond c p q) S Q := by
  refine ⟨?_⟩
  intro e a w h Qr hQ
  have hd := (h.ev_den hc).1
  simp only [SV.den, C.den] at hd
  refine wpIn_cond hd ?_
  rcases br_case hb with ⟨rfl, hk2⟩ | ⟨rfl, hk2⟩
  · exact xcode_ok hT p h hk2 hQ
  · exact xcode_ok hT q h hk2 hQ
theorem block_go (hT : TabOk X.P X.T) {id : Nat} {p : Code} {Q : Exit → St → Prop} (hp : xcode X p S (inBlk id Q)) : semP X (.block id p) S Q := by
  refine ⟨?_⟩
  intro e a w h Qr hQ
  exact wpIn_block (xcode_ok hT p h hp (compat_inBlk hQ))
theorem sem_sub {S S' : St} {c : Code} {Q : Exit → St → Prop} (hs : Sub X S S') (hc : semP X c S' Q) : semP X c S Q := by
  refine ⟨?_⟩
  intro e a w h Qr hQ
  obtain ⟨e', h'⟩ := sub_get hs h
  exact sem_get hc h' hQ
theorem loop_of (hT : TabOk X.P X.T) {p : Code} {Q : Exit → St → Prop} {ι : Type} (I : ι → St) (ok : ι → Prop) (μ : ι → Nat) (i0 : ι) (h0 : ok i0) (hs : Sub X S (I i0))
    (round : ∀ i, ok i → St.forceAll (I i) fun S => xcode X p S (then_ Q fun S' => ∃ j, ok j ∧ μ j < μ i ∧ Sub X S' (I j))) : semP X (.loop p) S Q := by
  refine ⟨?_⟩
  intro e a w h Qr hQ
  obtain ⟨e0, hR0⟩ := sub_get hs h
  refine wpIn_loop_ghost (fun n a w => ∃ i e, ok i ∧ μ i = n ∧ Rep X e (I i) a w) (μ i0) ⟨i0, e0, h0, rfl, hR0⟩ ?_
  rintro n a w ⟨i, e, hi, rfl, hR⟩
  have := round i hi
  rw [forceAll_eq] at this
  refine xcode_ok hT p hR this (compat_then hQ fun e' S' a' w' hR' hS' => ?_)
  obtain ⟨j, hj, hlt, hs'⟩ := hS'
  obtain ⟨e2, hR2⟩ := sub_get hs' hR'
  exact ⟨μ j, hlt, j, e2, hj, rfl, hR2⟩
end
end Go.Proofs.Yteldohidnepaoaa.Sy
