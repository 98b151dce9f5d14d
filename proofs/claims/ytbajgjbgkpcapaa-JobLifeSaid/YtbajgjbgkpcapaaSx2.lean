/-
  The symbolic executor, 2: operations that yield a value and leave the world as it is. Each 'x..' function says what a state must give, and what becomes of it; '.._ok' says that the model's operation does so, in every world that the state describes.
-/
import Derived.Test.YtbajgjbgkpcapaaSx1
namespace Go.Proofs.Ytbajgjbgkpcapaa.Sx
open Go Go.RowKit

/-! ### Where the run stands for the prover to decide -/
structure brP (b : Bool) (A B : Prop) : Prop where
  out : (b = true → A) ∧ (b = false → B)
structure arP (k : IntKind) (x : Int) (K : Int → Prop) : Prop where
  out : K (k.wrap x)
structure idxP (i : Int) (n : Nat) (K : Nat → Prop) : Prop where
  out : (0 ≤ i ∧ i < n) ∧ K i.toNat
structure cellP (xs : List C) (o : Nat) (K : C → Prop) : Prop where
  out : ∃ c, xs[o]? = some c ∧ K c
structure partP (xs : List C) (o n : Nat) (K : List C → Prop) : Prop where
  out : ∃ cs, (xs.drop o).take n = cs ∧ cs.length = n ∧ K cs
structure needP (p K : Prop) : Prop where
  out : p ∧ K
theorem brT {A B : Prop} (h : A) : brP true A B := by refine ⟨?_⟩; exact ⟨fun _ => h, fun e => (by cases e)⟩
theorem brF {A B : Prop} (h : B) : brP false A B := by refine ⟨?_⟩; exact ⟨fun e => (by cases e), fun _ => h⟩
theorem br_pos {b : Bool} {A B : Prop} (e : b = true) (h : A) : brP b A B := by subst e; exact brT h
theorem br_neg {b : Bool} {A B : Prop} (e : b = false) (h : B) : brP b A B := by subst e; exact brF h
theorem br_split {b : Bool} {A B : Prop} (h : b = true → A) (h' : b = false → B) : brP b A B := by refine ⟨?_⟩; exact ⟨h, h'⟩
theorem br_dec {p : Prop} [Decidable p] {A B : Prop} (h : p → A) (h' : ¬ p → B) : brP (decide p) A B := br_split (fun e => h (of_decide_eq_true e)) (fun e => h' (of_decide_eq_false e))
theorem br_eq {x y : Int} {A B : Prop} (h : x = y → A) (h' : x ≠ y → B) : brP (x == y) A B := br_split (fun e => h (by simpa using e)) (fun e => h' (by simpa using e))
theorem br_ne {x y : Int} {A B : Prop} (h : x ≠ y → A) (h' : x = y → B) : brP (x != y) A B := br_split (fun e => h (by simpa using e)) (fun e => h' (by simpa using e))
theorem br_not {b : Bool} {A B : Prop} (h : brP b B A) : brP (!b) A B := by
  replace h := h.out
  refine ⟨?_⟩
  exact ⟨fun e => h.2 (by cases b <;> first | rfl | cases e), fun e => h.1 (by cases b <;> first | rfl | cases e)⟩
theorem br_dT {p : Prop} [Decidable p] {A B : Prop} (hp : p) (h : A) : brP (decide p) A B := br_pos (decide_eq_true hp) h
theorem br_dF {p : Prop} [Decidable p] {A B : Prop} (hp : ¬ p) (h : B) : brP (decide p) A B := br_neg (decide_eq_false hp) h
theorem br_eT {x y : Int} {A B : Prop} (hp : x = y) (h : A) : brP (x == y) A B := br_pos (by simpa using hp) h
theorem br_eF {x y : Int} {A B : Prop} (hp : x ≠ y) (h : B) : brP (x == y) A B := br_neg (by simpa using hp) h
theorem br_nT {x y : Int} {A B : Prop} (hp : x ≠ y) (h : A) : brP (x != y) A B := br_pos (by simpa using hp) h
theorem br_nF {x y : Int} {A B : Prop} (hp : x = y) (h : B) : brP (x != y) A B := br_neg (by simpa using hp) h
theorem br_bneT {b : Bool} {A B : Prop} (h : brP b B A) : brP (true != b) A B := by
  rw [show (true != b) = !b by cases b <;> rfl]
  exact br_not h
theorem br_bneF {b : Bool} {A B : Prop} (h : brP b A B) : brP (false != b) A B := by
  rw [show (false != b) = b by cases b <;> rfl]
  exact h
theorem br_bneT' {b : Bool} {A B : Prop} (h : brP b B A) : brP (b != true) A B := by
  rw [show (b != true) = !b by cases b <;> rfl]
  exact br_not h
theorem br_bneF' {b : Bool} {A B : Prop} (h : brP b A B) : brP (b != false) A B := by
  rw [show (b != false) = b by cases b <;> rfl]
  exact h
theorem br_lself {l : List UInt8} {A B : Prop} (h : A) : brP (l == l) A B := br_pos (beq_self_eq_true l) h
theorem br_case {b : Bool} {A B : Prop} (h : brP b A B) : (b = true ∧ A) ∨ (b = false ∧ B) := by
  replace h := h.out
  cases b
  · exact .inr ⟨rfl, h.2 rfl⟩
  · exact .inl ⟨rfl, h.1 rfl⟩
theorem ar_wrap {k : IntKind} {x : Int} {K : Int → Prop} (h : K (k.wrap x)) : arP k x K := by refine ⟨?_⟩; exact h
theorem ar_get {k : IntKind} {x : Int} {K : Int → Prop} (h : arP k x K) : K (k.wrap x) := by replace h := h.out; exact h
theorem ar_in {x : Int} {K : Int → Prop} (hx : -9223372036854775808 ≤ x ∧ x ≤ 9223372036854775807) (h : K x) : arP .i64 x K := by
  refine ⟨?_⟩
  have : IntKind.i64.wrap x = x := by rw [IntKind.wrap_i64]; omega
  rw [this]; exact h
theorem ar_u8 {x : Int} {K : Int → Prop} (hx : 0 ≤ x ∧ x ≤ 255) (h : K x) : arP .u8 x K := by
  refine ⟨?_⟩
  have : IntKind.u8.wrap x = x := by rw [IntKind.wrap_u8]; omega
  rw [this]; exact h
theorem ar_u64 {x : Int} {K : Int → Prop} (hx : 0 ≤ x ∧ x ≤ 18446744073709551615) (h : K x) : arP .u64 x K := by
  refine ⟨?_⟩
  have : IntKind.u64.wrap x = x := by rw [IntKind.wrap_u64]; omega
  rw [this]; exact h
theorem idx_in {i : Int} {n : Nat} {K : Nat → Prop} (h0 : 0 ≤ i) (h1 : i < n) (h : K i.toNat) : idxP i n K := by refine ⟨?_⟩; exact ⟨⟨h0, h1⟩, h⟩
theorem idx_nat {i n : Nat} {K : Nat → Prop} (h1 : i < n) (h : K i) : idxP (i : Int) n K := by refine ⟨?_⟩; exact ⟨⟨by omega, by omega⟩, h⟩
theorem idx_eq {i : Int} {j n : Nat} {K : Nat → Prop} (hi : i = (j : Int)) (h1 : j < n) (h : K j) : idxP i n K := by subst hi; exact ⟨⟨⟨by omega, by omega⟩, h⟩⟩
theorem ar_eq {x y : Int} {K : Int → Prop} (h : x = y) (hx : -9223372036854775808 ≤ y ∧ y ≤ 9223372036854775807) (hk : K y) : arP .i64 x K := by
  subst h
  refine ⟨?_⟩
  have : IntKind.i64.wrap x = x := by rw [IntKind.wrap_i64]; omega
  rw [this]; exact hk
theorem idx_get {i : Int} {n : Nat} {K : Nat → Prop} (h : idxP i n K) : (0 ≤ i ∧ i < n) ∧ K i.toNat := by replace h := h.out; exact h
theorem cell_of {xs : List C} {o : Nat} {K : C → Prop} (c : C) (hc : xs[o]? = some c) (h : K c) : cellP xs o K := by refine ⟨?_⟩; exact ⟨c, hc, h⟩
theorem cell_get {xs : List C} {o : Nat} {K : C → Prop} (h : cellP xs o K) : ∃ c, xs[o]? = some c ∧ K c := by replace h := h.out; exact h
theorem part_of {xs : List C} {o n : Nat} {K : List C → Prop} (cs : List C) (hc : (xs.drop o).take n = cs) (hl : cs.length = n) (h : K cs) : partP xs o n K := by refine ⟨?_⟩; exact ⟨cs, hc, hl, h⟩
theorem part_get {xs : List C} {o n : Nat} {K : List C → Prop} (h : partP xs o n K) : ∃ cs, (xs.drop o).take n = cs ∧ cs.length = n ∧ K cs := by replace h := h.out; exact h
theorem need_of {p K : Prop} (hp : p) (h : K) : needP p K := by refine ⟨?_⟩; exact ⟨hp, h⟩
theorem need_get {p K : Prop} (h : needP p K) : p ∧ K := by replace h := h.out; exact h

/-! ### Operands -/
def St.ev (S : St) : Operand → Option SV
  | .tmp t => get S.fr t
  | .const v => (match v.oneCell' with
    | true => some (.c (.v v))
    | false => none)
  | .global g => some (.c (.v (.pointer (some ⟨g, 0, none⟩))))
  | .func f => some (.c (.v (.func (.func f) #[] #[])))
section
variable {X : Cx} {e : Env} {S : St} {a : Act} {w : World}
theorem RepV.ev_den (h : RepV X e S a w) {x : Operand} {v : SV} (hx : S.ev x = some v) : a.eval x = v.den e ∧ v.lt S.nx = true := by
  cases x with
  | tmp t =>
    have := h.fr t v hx
    exact ⟨by simp [Act.eval, this], h.frlt t v hx⟩
  | const u =>
    simp only [St.ev] at hx
    split at hx
    · rename_i ho
      cases hx
      exact ⟨rfl, ho⟩
    · cases hx
  | global g => cases hx; exact ⟨rfl, rfl⟩
  | func f => cases hx; exact ⟨rfl, rfl⟩
theorem Rep.ev_den (h : Rep X e S a w) {x : Operand} {v : SV} (hx : S.ev x = some v) : a.eval x = v.den e ∧ v.lt S.nx = true := h.v.ev_den hx

/-- The operation yields v, and leaves the world as it is, in every world that the state describes. -/
def Yv (X : Cx) (e : Env) (S : St) (a : Act) (o : Oper) (K : SV → Prop) : Prop :=
  ∃ v : SV, K v ∧ ∀ w, RepV X e S a w → v.lt S.nx = true ∧ (execOp a.eval o).run X.P w = .ok (.value (v.den e)) w

def evK (S : St) (x : Operand) (K : SV → Prop) : Prop := match S.ev x with | some v => K v | none => False
theorem evK_get {S : St} {x : Operand} {K : SV → Prop} (h : evK S x K) : ∃ v, S.ev x = some v ∧ K v := by
  unfold evK at h
  cases hv : S.ev x with
  | none => rw [hv] at h; exact h.elim
  | some v => rw [hv] at h; exact ⟨v, rfl, h⟩

theorem move_ok (e : Env) (a : Act) {o : Oper} {x : Operand} {K : SV → Prop} (ho : o.op = .move x ∨ o.op = .assign x) (hk : evK S x K) : Yv X e S a o K := by
  obtain ⟨v, hv, hK⟩ := evK_get hk
  refine ⟨v, hK, fun w h => ?_⟩
  obtain ⟨hd, hl⟩ := h.ev_den hv
  refine ⟨hl, ?_⟩
  rcases ho with ho | ho <;> simp [execOp, ho, hd]

def xvPick (S : St) (c x y : Operand) (K : SV → Prop) : Prop := match S.ev c with
  | some (.c (.v (.bool t))) => brP t (evK S x K) (evK S y K)
  | _ => False
theorem pick_ok (e : Env) (a : Act) {o : Oper} {c x y : Operand} {K : SV → Prop} (ho : o.op = .pick c x y) (hk : xvPick S c x y K) : Yv X e S a o K := by
  unfold xvPick at hk
  split at hk
  · rename_i t hc
    rcases br_case hk with ⟨e1, hk2⟩ | ⟨e1, hk2⟩
    all_goals
      obtain ⟨v, hv, hK⟩ := evK_get hk2
      refine ⟨v, hK, fun w h => ?_⟩
      have hcd := (h.ev_den hc).1
      simp only [SV.den, C.den, e1] at hcd
      obtain ⟨hd, hl⟩ := h.ev_den hv
      exact ⟨hl, by simp [execOp, ho, hd, hcd, asBool]⟩
  · exact hk.elim

/-! ### Types -/
def rowB : TypeDesc → Bool
  | .struct _ => true
  | .array _ _ => true
  | _ => false
theorem run_isAgg {P : Program} {t : TypeId} {d : TypeDesc} (hu : P.underlying t = some d) (w : World) : (isAgg t).run P w = .ok (rowB d) w := by
  cases d <;> simp [isAgg, run_underlying hu, rowB]
theorem run_sizeOf {P : Program} {t : TypeId} {j : TypeInfo} (hi : P.info? t = some j) (w : World) : (sizeOf t).run P w = .ok j.size w := by
  simp [sizeOf, typeInfo, hi]
def xfield (X : Cx) (t f : Nat) : Option (Nat × TI) :=
  match get X.T t with
  | some ti => (match ti.d with
    | .struct fs => (match fs.toList[f]? with
      | some fd => (match get X.T fd.type with
        | some fi => some (fd.offset, fi)
        | none => none)
      | none => none)
    | _ => none)
  | none => none
theorem xfield_get {t f off : Nat} {fi : TI} (h : xfield X t f = some (off, fi)) : ∃ (ti : TI) (fs : Array Field) (fd : Field), get X.T t = some ti ∧ ti.d = .struct fs ∧ fs[f]? = some fd ∧ fd.offset = off ∧ get X.T fd.type = some fi := by
  unfold xfield at h
  split at h
  · rename_i ti hti
    split at h
    · rename_i fs hfs
      split at h
      · rename_i fd hfd
        split at h
        · rename_i fi' hfi
          simp only [Option.some.injEq, Prod.mk.injEq] at h
          obtain ⟨rfl, rfl⟩ := h
          exact ⟨ti, fs, fd, hti, hfs, by simpa using hfd, rfl, hfi⟩
        · cases h
      · cases h
    · cases h
  · cases h

def xvFieldAddr (X : Cx) (S : St) (t : Nat) (x : Operand) (f : Nat) (K : SV → Prop) : Prop := match xfield X t f with
  | some (off, fi) => (match Nat.beq fi.size 0 with
    | true => False
    | false => (match S.ev x with
      | some (.c (.loc k o)) => K (.c (.loc k (o + off)))
      | some (.c (.rp k o)) => K (.c (.rp k (o + off)))
      | some (.c (.v (.pointer (some p)))) => K (.c (.v (.pointer (some (p.add off)))))
      | _ => False))
  | none => False
theorem run_fieldAddr (hT : TabOk X.P X.T) {t f off : Nat} {fi : TI} (hf : xfield X t f = some (off, fi)) (hz : Nat.beq fi.size 0 = false) (p : Addr) (w : World) :
    (Instr.fieldAt t (.pointer (some p)) f).run X.P w = .ok (.pointer (some (p.add off))) w := by
  obtain ⟨ti, fs, fd, hti, hd, hfd, rfl, hfi⟩ := xfield_get hf
  have hu := (TabOk.get hT hti).1
  rw [hd] at hu
  obtain ⟨_, j, hj, _, hjs, _⟩ := TabOk.get hT hfi
  have hne : j.size ≠ 0 := by
    rw [hjs]
    intro h0
    rw [h0] at hz
    exact absurd hz (by decide)
  simp [Instr.fieldAt, run_underlying hu, hfd, Instr.sureAddr, fieldPlace, run_sizeOf hj, hne]
theorem fieldAddr_ok (hT : TabOk X.P X.T) (e : Env) (a : Act) {o : Oper} {t f : Nat} {x : Operand} {K : SV → Prop} (ho : o.op = .fieldAddr t x f) (hk : xvFieldAddr X S t x f K) : Yv X e S a o K := by
  unfold xvFieldAddr at hk
  split at hk
  · rename_i off fi hf
    split at hk
    · exact hk.elim
    · rename_i hz
      split at hk
      · rename_i k o' hx
        refine ⟨_, hk, fun w h => ?_⟩
        obtain ⟨hd, hl⟩ := h.ev_den hx
        refine ⟨hl, ?_⟩
        have hr := run_fieldAddr hT hf hz ⟨e.ad k, o', none⟩ w
        rw [Addr.add_mid] at hr
        simp only [SV.den, C.den] at hd ⊢
        simp [execOp, ho, hd, hr]
      · rename_i k o' hx
        refine ⟨_, hk, fun w h => ?_⟩
        obtain ⟨hd, hl⟩ := h.ev_den hx
        refine ⟨hl, ?_⟩
        have hr := run_fieldAddr hT hf hz ((e.ra k).add o') w
        rw [addr_add] at hr
        simp only [SV.den, C.den] at hd ⊢
        simp [execOp, ho, hd, hr]
      · rename_i p hx
        refine ⟨_, hk, fun w h => ?_⟩
        obtain ⟨hd, hl⟩ := h.ev_den hx
        refine ⟨rfl, ?_⟩
        have hr := run_fieldAddr hT hf hz p w
        simp only [SV.den, C.den] at hd ⊢
        simp [execOp, ho, hd, hr]
      · exact hk.elim
  · exact hk.elim

/-! ### Loads -/
theorem take_drop_get {α : Type} {xs : List α} {o n : Nat} {cs : List α} (h : (xs.drop o).take n = cs) (j : Nat) (v : α) (hj : cs[j]? = some v) : xs[o + j]? = some v := by
  subst h
  rw [List.getElem?_take] at hj
  split at hj
  · rwa [List.getElem?_drop] at hj
  · cases hj
theorem cell_of_block {w : World} {b o : Nat} {cs : Array Value} {ty : TypeId} {v : Value} (hb : w.heap[b]? = some (.cells cs ty (0, 0))) (hv : cs[o]? = some v) : w.cell? ⟨b, o, none⟩ = some v := by
  rw [cell_of_row w b o cs ty (0, 0) hb]; exact hv
/-- Block k is a row, or a slice that is read, of so many elements of that size, with these cells. -/
def isRow (S : St) (k esz n : Nat) (xs : List C) : Prop := (∃ ety, get S.H k = some (.row ety esz n xs)) ∨ get S.H k = some (.ext esz n xs)
theorem row_lt (h : RepV X e S a w) {k esz n : Nat} {xs : List C} (hk : isRow S k esz n xs) : ltAll S.nx xs = true := by
  rcases hk with ⟨ety, hk⟩ | hk
  · exact (h.hlt k _ hk).2
  · exact (h.hlt k _ hk).2
theorem row_length (h : RepV X e S a w) {k esz n : Nat} {xs : List C} (hk : isRow S k esz n xs) : xs.length = n * esz := by
  rcases hk with ⟨ety, hk⟩ | hk
  · obtain ⟨F, hh⟩ := h.hp k _ hk
    simpa using hh.1.1
  · obtain ⟨F, hh⟩ := h.hp k _ hk
    simpa using hh.1.1
/-- What a slice's value is where it has an element. -/
theorem row_value (h : RepV X e S a w) {k esz m : Nat} {xs : List C} (hk : isRow S k esz m xs) (hm : 0 < m) : ∃ c, e.rv k = .slice (some (e.ra k)) m c := by
  rcases hk with ⟨ety, hk⟩ | hk
  · obtain ⟨F, h1, h3⟩ := h.hp k _ hk
    rcases h1.2 with ⟨_, hn⟩ | ⟨g, cap, cur, hv, _⟩
    · omega
    · exact ⟨cap, by rw [h3 _ _ _ hv]; exact hv⟩
  · obtain ⟨F, ⟨_, A, c, hv, _, _, hc2⟩, h3⟩ := h.hp k _ hk
    obtain ⟨p, rfl, _⟩ := hc2 hm
    exact ⟨c, by rw [h3 _ _ _ hv]; exact hv⟩
theorem row_len (h : RepV X e S a w) {k esz m : Nat} {xs : List C} (hk : isRow S k esz m xs) : ∃ A c, e.rv k = .slice A m c ∧ m ≤ c := by
  rcases hk with ⟨ety, hk⟩ | hk
  · obtain ⟨F, h1, h3⟩ := h.hp k _ hk
    rcases h1.2 with ⟨hv, hn⟩ | ⟨g, cap, cur, hv, _, _, hc, _⟩
    · exact ⟨none, 0, by rw [hv, hn], by omega⟩
    · exact ⟨_, cap, hv, hc⟩
  · obtain ⟨F, ⟨_, A, c, hv, hc, _⟩, h3⟩ := h.hp k _ hk
    exact ⟨A, c, hv, hc⟩
/-- The cells of a row, or of a slice that is read. -/
theorem row_cells (h : RepV X e S a w) {k esz n : Nat} {xs : List C} (hk : isRow S k esz n xs) : ∀ j c, xs[j]? = some c → w.cell? ((e.ra k).add j) = some (c.den e) := by
  intro j c hc
  have hj : j < n * esz := by
    rw [← row_length h hk]
    exact (List.getElem?_eq_some_iff.1 hc).1
  have hn : 0 < n := by
    rcases Nat.eq_zero_or_pos n with h0 | h0
    · rw [h0, Nat.zero_mul] at hj; omega
    · exact h0
  rcases hk with ⟨ety, hk⟩ | hk
  · obtain ⟨F, h1, h3⟩ := h.hp k _ hk
    rcases h1.2 with ⟨hv, hn'⟩ | ⟨g, cap, cur, hv, _, hg, _, _, _, ht⟩
    · omega
    · rw [h3 _ _ _ hv]
      exact h1.cells (g := g) (by rw [hv]; rfl) j _ (by rw [List.getElem?_map, hc]; rfl)
  · obtain ⟨F, ⟨hl, A, c', hv, _, _, hc2⟩, h3⟩ := h.hp k _ hk
    obtain ⟨p, rfl, _, hcell⟩ := hc2 hn
    rw [h3 _ _ _ hv]
    exact hcell j _ (by rw [List.getElem?_map, hc]; rfl)
theorem run_load_one {P : Program} {t : TypeId} {d : TypeDesc} (hu : P.underlying t = some d) (hr : rowB d = false) {p : Addr} {v : Value} {w : World} (hc : w.cell? p = some v) :
    (Instr.loadAt t (.pointer (some p))).run P w = .ok v w := by
  simp [Instr.loadAt, Instr.sureAddr, loadVar, run_isAgg hu, hr, load, Sem.run, hc]
theorem run_load_agg {P : Program} {t : TypeId} {d : TypeDesc} {j : TypeInfo} (hu : P.underlying t = some d) (hr : rowB d = true) (hi : P.info? t = some j) {p : Addr} {cs : List Value} {w : World} (hl : cs.length = j.size)
    (hc : ∀ i v, cs[i]? = some v → w.cell? (p.add i) = some v) : (Instr.loadAt t (.pointer (some p))).run P w = .ok (.agg cs.toArray) w := by
  have := run_loadCells_list (P := P) w p cs hc
  simp [Instr.loadAt, Instr.sureAddr, loadVar, run_isAgg hu, hr, run_sizeOf hi, ← hl, this]
def loadRow (ti : TI) (xs : List C) (o : Nat) (K : SV → Prop) : Prop := match rowB ti.d with
  | true => partP xs o ti.size fun cs => K (.agg cs)
  | false => cellP xs o fun c => K (.c c)
def loadCell (ti : TI) (cs : List C) (o : Nat) (K : SV → Prop) : Prop := match rowB ti.d with
  | true => (match Nat.ble (o + ti.size) cs.length with
    | true => K (.agg ((cs.drop o).take ti.size))
    | false => False)
  | false => (match cs[o]? with
    | some c => K (.c c)
    | none => False)
def xvLoad (X : Cx) (S : St) (t : Nat) (x : Operand) (K : SV → Prop) : Prop := match get X.T t with
  | some ti => (match S.ev x with
    | some (.c (.loc k o)) => (match get S.H k with
      | some (.cells _ cs) => loadCell ti cs o K
      | _ => False)
    | some (.c (.rp k o)) => (match get S.H k with
      | some (.row _ _ _ xs) => loadRow ti xs o K
      | some (.ext _ _ xs) => loadRow ti xs o K
      | _ => False)
    | _ => False)
  | none => False
theorem ltAll_drop_take {n o m : Nat} {xs : List C} (h : ltAll n xs = true) : ltAll n ((xs.drop o).take m) = true :=
  ltAll_of fun c hc => ltAll_mem h c (List.mem_of_mem_drop (List.mem_of_mem_take hc))
theorem ltAll_get {n o : Nat} {xs : List C} {c : C} (h : ltAll n xs = true) (hc : xs[o]? = some c) : c.lt n = true := ltAll_mem h c (List.mem_of_getElem? hc)
theorem load_row_ok (hT : TabOk X.P X.T) (e : Env) (a : Act) {o : Oper} {t : Nat} {x : Operand} {K : SV → Prop} (ho : o.op = .load t x) {ti : TI} (hti : get X.T t = some ti) {k o' : Nat} (hx : S.ev x = some (.c (.rp k o'))) {xs : List C} {esz n : Nat}
    (hrow : isRow S k esz n xs) (hk : loadRow ti xs o' K) : Yv X e S a o K := by
  obtain ⟨hu, j, hj, _, hjs, _⟩ := TabOk.get hT hti
  unfold loadRow at hk
  split at hk
  · rename_i hr
    obtain ⟨cs, hcs, hl, hK⟩ := part_get hk
    refine ⟨_, hK, fun w h => ?_⟩
    have hd := (h.ev_den hx).1
    have hcells := row_cells h hrow
    have hlt := row_lt h hrow
    simp only [SV.den, C.den] at hd
    refine ⟨by subst hcs; exact ltAll_drop_take hlt, ?_⟩
    have hrun := run_load_agg (p := (e.ra k).add o') (cs := cs.map (C.den e)) (w := w) hu hr hj (by rw [List.length_map, hl, hjs]) (fun i v hi => by
      rw [List.getElem?_map] at hi
      cases hc : cs[i]? with
      | none => rw [hc] at hi; cases hi
      | some c =>
        rw [hc] at hi
        simp only [Option.map_some, Option.some.injEq] at hi
        subst hi
        rw [addr_add]
        exact hcells _ _ (take_drop_get hcs i c hc))
    simp only [SV.den]
    simp [execOp, ho, hd, hrun]
  · rename_i hr
    obtain ⟨c, hc, hK⟩ := cell_get hk
    refine ⟨_, hK, fun w h => ?_⟩
    have hd := (h.ev_den hx).1
    have hcells := row_cells h hrow
    have hlt := row_lt h hrow
    simp only [SV.den, C.den] at hd
    refine ⟨ltAll_get hlt hc, ?_⟩
    have hrun := run_load_one (w := w) hu hr (hcells o' c hc)
    simp only [SV.den]
    simp [execOp, ho, hd, hrun]
theorem load_ok (hT : TabOk X.P X.T) (e : Env) (a : Act) {o : Oper} {t : Nat} {x : Operand} {K : SV → Prop} (ho : o.op = .load t x) (hk : xvLoad X S t x K) : Yv X e S a o K := by
  unfold xvLoad at hk
  split at hk
  · rename_i ti hti
    split at hk
    · rename_i k o' hx
      split at hk
      · rename_i ty cs hH
        obtain ⟨hu, j, hj, _, hjs, _⟩ := TabOk.get hT hti
        unfold loadCell at hk
        split at hk
        · rename_i hr
          split at hk
          · rename_i hle
            have hle : o' + ti.size ≤ cs.length := Nat.le_of_ble_eq_true hle
            refine ⟨_, hk, fun w h => ?_⟩
            have hd := (h.ev_den hx).1
            simp only [SV.den, C.den] at hd
            obtain ⟨F, hb⟩ := h.hp k _ hH
            have hlt : ltAll S.nx cs = true := (h.hlt k _ hH).2
            refine ⟨ltAll_drop_take hlt, ?_⟩
            have hrun := run_load_agg (p := ⟨e.ad k, o', none⟩) (cs := ((cs.drop o').take ti.size).map (C.den e)) (w := w) hu hr hj (by simp; omega) (fun i v hi => by
              rw [Addr.add_mid]
              refine cell_of_block hb ?_
              rw [List.getElem?_map] at hi
              cases hc : ((cs.drop o').take ti.size)[i]? with
              | none => rw [hc] at hi; cases hi
              | some c =>
                rw [hc] at hi
                simp only [Option.map_some, Option.some.injEq] at hi
                subst hi
                have := take_drop_get rfl i c hc
                simp [this])
            simp only [SV.den]
            simp [execOp, ho, hd, hrun]
          · exact hk.elim
        · rename_i hr
          split at hk
          · rename_i c hc
            refine ⟨_, hk, fun w h => ?_⟩
            have hd := (h.ev_den hx).1
            simp only [SV.den, C.den] at hd
            obtain ⟨F, hb⟩ := h.hp k _ hH
            have hlt : ltAll S.nx cs = true := (h.hlt k _ hH).2
            refine ⟨ltAll_get hlt hc, ?_⟩
            have hrun := run_load_one (w := w) (v := c.den e) hu hr (cell_of_block (o := o') hb (by simp [hc]))
            simp only [SV.den]
            simp [execOp, ho, hd, hrun]
          · exact hk.elim
      · exact hk.elim
    · rename_i k o' hx
      split at hk
      · rename_i ety esz n xs hH
        exact load_row_ok hT e a ho hti hx (.inl ⟨_, hH⟩) hk
      · rename_i esz n xs hH
        exact load_row_ok hT e a ho hti hx (.inr hH) hk
      · exact hk.elim
    · exact hk.elim
  · exact hk.elim
end
end Go.Proofs.Ytbajgjbgkpcapaa.Sx
