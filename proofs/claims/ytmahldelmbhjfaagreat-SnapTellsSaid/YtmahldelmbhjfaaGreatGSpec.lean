/- Graph: graphs as plain Lean, and how they lie in memory. -/
import Derived.Test.YtmahldelmbhjfaaGreatEnc
import Derived.Test.YtmahldelmbhjfaaGreatSyH
namespace Go.Proofs.YtmahldelmbhjfaaGreat
open Go Go.RowKit
open Sy (C SV V1 Blk St XD Els)

/-- A slice that came in, opened. -/
theorem open_x {X : Sy.Cx} {S : St} {v : Value} {K : St → SV → Prop} (esz n : Nat) (xs : List (List Value)) (h : XD.ok (fun b => b < X.w0.heap.size) X.w0 ⟨v, esz, n, xs⟩) (ho : ∀ b, ¬ X.own b) (hk : K (S.new (.ext esz n (.vs xs))) (.c (.row S.nx))) : Sy.openP X S v K :=
  Sy.open_in esz n xs (h.1.keep (fun b hb => ⟨hb, ho b⟩) (fun _ _ => rfl)) h.2 hk
theorem open_f {X : Sy.Cx} {S : St} {v : Value} {K : St → SV → Prop} (esz n : Nat) (xs : List (List Value)) (h : XD.ok (fun b => b < X.w0.heap.size ∧ ¬ X.own b) X.w0 ⟨v, esz, n, xs⟩) (hk : K (S.new (.ext esz n (.vs xs))) (.c (.row S.nx))) : Sy.openP X S v K :=
  Sy.open_in esz n xs h.1 h.2 hk
theorem open_c {X : Sy.Cx} {S : St} {c : Code} {Q : Exit → St → Prop} (k o esz n : Nat) (xs : List (List Value)) {ty : Nat} {cs : List C} {u : Value} (hk : Sy.get S.H k = some (.cells ty cs)) (ho : cs[o]? = some (.v u)) (h : XD.ok (fun b => b < X.w0.heap.size) X.w0 ⟨u, esz, n, xs⟩) (hown : ∀ b, ¬ X.own b)
    (hc : St.forceAll { S with H := (k, .cells ty (cs.set o (.row S.nx))) :: (S.nx, .ext esz n (.vs xs)) :: S.H, nx := S.nx + 1 } fun S' => Sy.semP X c S' Q) : Sy.semP X c S Q :=
  Sy.sem_subF (Sy.sub_open k o esz n xs hk ho (Sy.reads_w0 (h.1.keep (fun b hb => ⟨hb, hown b⟩) (fun _ _ => rfl))) h.2) hc
theorem open_cf {X : Sy.Cx} {S : St} {c : Code} {Q : Exit → St → Prop} (k o esz n : Nat) (xs : List (List Value)) {ty : Nat} {cs : List C} {u : Value} (hk : Sy.get S.H k = some (.cells ty cs)) (ho : cs[o]? = some (.v u)) (h : XD.ok (fun b => b < X.w0.heap.size ∧ ¬ X.own b) X.w0 ⟨u, esz, n, xs⟩)
    (hc : St.forceAll { S with H := (k, .cells ty (cs.set o (.row S.nx))) :: (S.nx, .ext esz n (.vs xs)) :: S.H, nx := S.nx + 1 } fun S' => Sy.semP X c S' Q) : Sy.semP X c S Q :=
  Sy.sem_subF (Sy.sub_open k o esz n xs hk ho (Sy.reads_w0 h.1) h.2) hc
structure Opr where
  tag : Int
  width : Int
  ins : List Int
  a : Int
  b : Int
deriving DecidableEq
/-- An operator in memory: with the slice that its inputs are. -/
structure OpV where
  op : Opr
  iv : Value
def encOV (o : OpV) : List Value := [.int .i64 o.op.tag, .int .i64 o.op.width, o.iv, .int .i64 o.op.a, .int .i64 o.op.b]
/-- An operator's inputs are read. -/
def OOk (F : Nat → Prop) (w : World) (o : OpV) : Prop := XD.ok F w ⟨o.iv, 1, o.op.ins.length, o.op.ins.map encI⟩
/-- A graph is read. -/
def GOk (F : Nat → Prop) (w : World) (v : Value) (gl : List OpV) : Prop := XD.ok F w ⟨v, 5, gl.length, gl.map encOV⟩ ∧ ∀ o ∈ gl, OOk F w o
theorem OOk.mono {F F' : Nat → Prop} {w : World} {o : OpV} (h : OOk F w o) (hF : ∀ b, F b → F' b) : OOk F' w o := XD.ok.mono h hF
theorem OOk.keep {F F' : Nat → Prop} {w w' : World} {o : OpV} (h : OOk F w o) (hF : ∀ b, F b → F' b) (hk : ∀ b, F b → w'.heap[b]? = w.heap[b]?) : OOk F' w' o := ⟨h.1.keep hF hk, h.2⟩
theorem GOk.mono {F F' : Nat → Prop} {w : World} {v : Value} {gl : List OpV} (h : GOk F w v gl) (hF : ∀ b, F b → F' b) : GOk F' w v gl := ⟨XD.ok.mono h.1 hF, fun o ho => (h.2 o ho).mono hF⟩
theorem GOk.at {F : Nat → Prop} {w : World} {v : Value} {gl : List OpV} (h : GOk F w v gl) {i : Nat} {o : OpV} (hi : gl[i]? = some o) : OOk F w o := h.2 o (List.mem_of_getElem? hi)
theorem opr_ext {x y : Opr} (h1 : x.tag = y.tag) (h2 : x.width = y.width) (h3 : x.ins = y.ins) (h4 : x.a = y.a) (h5 : x.b = y.b) : x = y := by cases x; cases y; simp_all
theorem opr_ne {x y : Opr} (h : x.tag ≠ y.tag ∨ x.width ≠ y.width ∨ x.ins ≠ y.ins ∨ x.a ≠ y.a ∨ x.b ≠ y.b) : x ≠ y := by
  rintro rfl
  rcases h with h | h | h | h | h <;> exact h rfl
/-- What came in reads later as it did. -/
theorem XD.later {X : Sy.Cx} {e : Sy.Env} {S : St} {a : Act} {w : World} (h : Sy.Rep X e S a w) {d : XD} (hr : XD.ok (fun b => b < X.w0.heap.size ∧ ¬ X.own b) X.w0 d) : XD.ok S.F w d := ⟨Sy.reads_later h hr.1, hr.2⟩
theorem GOk.later {X : Sy.Cx} {e : Sy.Env} {S : St} {a : Act} {w : World} {v : Value} {gl : List OpV} (h : Sy.Rep X e S a w) (hr : GOk (fun b => b < X.w0.heap.size ∧ ¬ X.own b) X.w0 v gl) : GOk S.F w v gl := ⟨XD.later h hr.1, fun o ho => XD.later h (hr.2 o ho)⟩
theorem GOk.one {F : Nat → Prop} {w : World} {v : Value} {gl : List OpV} (h : GOk F w v gl) : v.oneCell' = true := Sy.ReadsE.one h.1.1
def opsOf (gl : List OpV) : List Opr := gl.map (·.op)
theorem opsOf_get {gl : List OpV} {i : Nat} {o : OpV} (h : gl[i]? = some o) : (opsOf gl)[i]? = some o.op := by simp [opsOf, h]
theorem opsOf_len (gl : List OpV) : (opsOf gl).length = gl.length := by simp [opsOf]

def risesB (last : Int) (below : Int) : List Int → Bool
  | [] => true
  | n :: r => decide (last < n) && decide (n < below) && risesB n below r
def AloneP (o : Opr) (i : Int) : Prop := 1 ≤ o.width ∧ o.width ≤ 3 ∧ risesB (-1) i o.ins = true ∧
  ((o.tag = 6 ∧ 1 < (o.ins.length : Int) ∧ o.a = 0 ∧ o.b = 0) ∨ (o.tag = 1 ∧ (o.ins.length : Int) = 0 ∧ 0 ≤ o.a ∧ o.a < 4 ∧ o.b = 0) ∨ (o.tag = 2 ∧ (o.ins.length : Int) = 1) ∨ (o.tag = 3 ∧ (o.ins.length : Int) = 1 ∧ 0 < o.a ∧ 0 ≤ o.b ∧ o.b < o.a) ∨
    (o.tag = 5 ∧ (o.ins.length : Int) = 1 ∧ 1 ≤ o.a ∧ o.a ≤ 8 ∧ o.b = 0) ∨ ((o.tag = 4 ∨ o.tag = 7) ∧ (o.ins.length : Int) = 1 ∧ o.a = 0 ∧ o.b = 0))
instance (o : Opr) (i : Int) : Decidable (AloneP o i) := by unfold AloneP; infer_instance
def aloneB (o : Opr) (i : Int) : Bool := decide (AloneP o i)
/-- The one ahead of place n. -/
def lastI (l : List Int) : Nat → Int
  | 0 => -1
  | n + 1 => (l[n]?).getD 0
theorem lastI_succ (l : List Int) (n : Nat) (h : n < l.length) : lastI l (n + 1) = l[n] := by simp [lastI, List.getElem?_eq_getElem h]
theorem rises_drop (below : Int) (l : List Int) (n : Nat) (h : n < l.length) (last : Int) : risesB last below (l.drop n) = (decide (last < l[n]) && decide (l[n] < below) && risesB l[n] below (l.drop (n + 1))) := by
  rw [List.drop_eq_getElem_cons h]; rfl
end Go.Proofs.YtmahldelmbhjfaaGreat
