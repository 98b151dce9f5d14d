/-
  The symbolic executor, 3: the other operations that yield a value and leave the world as it is: arithmetic, parts of arrays and tuples, addresses of elements, literals.
-/
import Derived.Test.YtbajgjbgkpcapaaSx2
import Derived.Laws.StructEq
namespace Go.Proofs.Ytbajgjbgkpcapaa.Sx
open Go Go.RowKit
section
variable {X : Cx} {e : Env} {S : St} {a : Act} {w : World}

/-! ### Two operands -/
def kindB : IntKind → IntKind → Bool
  | .i8, .i8 | .i16, .i16 | .i32, .i32 | .i64, .i64 | .u8, .u8 | .u16, .u16 | .u32, .u32 | .u64, .u64 => true
  | _, _ => false
theorem kindB_eq {k k' : IntKind} (h : kindB k k' = true) : k = k' := by cases k <;> cases k' <;> first | rfl | cases h
structure divP (k : IntKind) (x y : Int) (K : Int → Prop) : Prop where
  out : y ≠ 0 ∧ K (k.wrap (x.tdiv y))
structure remP (x y : Int) (K : Int → Prop) : Prop where
  out : y ≠ 0 ∧ K (x.tmod y)
theorem div_of {k : IntKind} {x y : Int} {K : Int → Prop} (hy : y ≠ 0) (h : K (k.wrap (x.tdiv y))) : divP k x y K := by refine ⟨?_⟩; exact ⟨hy, h⟩
theorem rem_of {x y : Int} {K : Int → Prop} (hy : y ≠ 0) (h : K (x.tmod y)) : remP x y K := by refine ⟨?_⟩; exact ⟨hy, h⟩
theorem div_in {x y : Int} {K : Int → Prop} (hx : 0 ≤ x ∧ x ≤ 9223372036854775807) (hy : 1 ≤ y) (h : K (x / y)) : divP .i64 x y K := by
  refine div_of (by omega) ?_
  have h1 : x.tdiv y = x / y := Int.tdiv_eq_ediv_of_nonneg hx.1
  have h2 : 0 ≤ x / y := Int.ediv_nonneg hx.1 (by omega)
  have h3 : x / y ≤ x := Int.ediv_le_self _ hx.1
  have h4 : IntKind.i64.wrap (x / y) = x / y := by rw [IntKind.wrap_i64]; omega
  rw [h1, h4]; exact h
theorem rem_in {x y : Int} {K : Int → Prop} (hx : 0 ≤ x) (hy : 1 ≤ y) (h : K (x % y)) : remP x y K := by
  refine rem_of (by omega) ?_
  rw [Int.tmod_eq_emod_of_nonneg hx]; exact h
def binInt (op : BinOp) (k : IntKind) (x y : Int) (K : SV → Prop) : Prop := match op with
  | .add => arP k (x + y) fun r => K (.c (.v (.int k r)))
  | .sub => arP k (x - y) fun r => K (.c (.v (.int k r)))
  | .mul => arP k (x * y) fun r => K (.c (.v (.int k r)))
  | .quo => divP k x y fun r => K (.c (.v (.int k r)))
  | .rem => remP x y fun r => K (.c (.v (.int k r)))
  | .and => K (.c (.v (.int k (k.wrap ((BitVec.ofInt k.bits x &&& BitVec.ofInt k.bits y).toNat : Int)))))
  | .or => K (.c (.v (.int k (k.wrap ((BitVec.ofInt k.bits x ||| BitVec.ofInt k.bits y).toNat : Int)))))
  | .xor => K (.c (.v (.int k (k.wrap ((BitVec.ofInt k.bits x ^^^ BitVec.ofInt k.bits y).toNat : Int)))))
  | .eql => K (.c (.v (.bool (x == y))))
  | .neq => K (.c (.v (.bool (x != y))))
  | .lss => K (.c (.v (.bool (decide (x < y)))))
  | .leq => K (.c (.v (.bool (decide (x ≤ y)))))
  | .gtr => K (.c (.v (.bool (decide (y < x)))))
  | .geq => K (.c (.v (.bool (decide (y ≤ x)))))
  | _ => False
theorem binInt_ok {op : BinOp} {k : IntKind} {x y : Int} {K : SV → Prop} (h : binInt op k x y K) (P : Program) (t : TypeId) :
    ∃ u : Value, K (.c (.v u)) ∧ u.oneCell' = true ∧ ∀ w, (binOp op t (.int k x) (.int k y)).run P w = .ok u w := by
  cases op <;> simp only [binInt] at h
  case add => exact ⟨_, ar_get h, rfl, fun w => by simp [binOp, Op.intArith]⟩
  case sub => exact ⟨_, ar_get h, rfl, fun w => by simp [binOp, Op.intArith]⟩
  case mul => exact ⟨_, ar_get h, rfl, fun w => by simp [binOp, Op.intArith]⟩
  case quo => replace h := h.out; exact ⟨_, h.2, rfl, fun w => by simp [binOp, Op.intDiv, h.1]⟩
  case rem => replace h := h.out; exact ⟨_, h.2, rfl, fun w => by simp [binOp, Op.intDiv, h.1]⟩
  case and => exact ⟨_, h, rfl, fun w => by simp [binOp, Op.intBits]⟩
  case or => exact ⟨_, h, rfl, fun w => by simp [binOp, Op.intBits]⟩
  case xor => exact ⟨_, h, rfl, fun w => by simp [binOp, Op.intBits]⟩
  case eql => exact ⟨_, h, rfl, fun w => by simp [binOp, Op.intCmp]⟩
  case neq => exact ⟨_, h, rfl, fun w => by simp [binOp, Op.intCmp]⟩
  case lss => exact ⟨_, h, rfl, fun w => by simp [binOp, Op.intCmp]⟩
  case leq => exact ⟨_, h, rfl, fun w => by simp [binOp, Op.intCmp]⟩
  case gtr => exact ⟨_, h, rfl, fun w => by simp [binOp, Op.intCmp]⟩
  case geq => exact ⟨_, h, rfl, fun w => by simp [binOp, Op.intCmp]⟩
  all_goals exact h.elim
def boolTB : TypeDesc → Bool
  | .bool => true
  | _ => false
theorem boolTB_eq {d : TypeDesc} (h : boolTB d = true) : d = .bool := by cases d <;> first | rfl | cases h
def plainVals : List C → Option (List Value)
  | [] => some []
  | .v x :: r => (match plainVals r with | some l => some (x :: l) | none => none)
  | _ => none
theorem plainVals_eq : ∀ {cs : List C} {xs : List Value}, plainVals cs = some xs → cs = xs.map C.v
  | [], xs, h => by simp only [plainVals, Option.some.injEq] at h; subst h; rfl
  | .v x :: r, xs, h => by
    simp only [plainVals] at h
    split at h
    · rename_i l hl
      simp only [Option.some.injEq] at h
      subst h
      rw [plainVals_eq hl]; rfl
    · cases h
  | .loc _ _ :: _, xs, h => by simp [plainVals] at h
  | .row _ :: _, xs, h => by simp [plainVals] at h
  | .rp _ _ :: _, xs, h => by simp [plainVals] at h
theorem map_den_v' (e : Env) (xs : List Value) : (xs.map C.v).map (C.den e) = xs := by
  rw [List.map_map]
  exact (List.map_congr_left fun x _ => rfl).trans (List.map_id' xs)
/-- Two structs are compared: the prover tells whether they are the same. -/
structure eqAggP (P : Program) (t : Nat) (xs ys : List Value) (K : Bool → Prop) : Prop where
  out : P.eqGuardType P.depth t = false ∧ ∃ b, (∀ w, (Op.equalIn 10000 t (.agg xs.toArray) (.agg ys.toArray)).run P w = .ok b w) ∧ K b
theorem eqAgg_of {P : Program} {t : Nat} {xs ys : List Value} {K : Bool → Prop} (b : Bool) (h1 : P.eqGuardType P.depth t = false) (h2 : ∀ w, (Op.equalIn 10000 t (.agg xs.toArray) (.agg ys.toArray)).run P w = .ok b w) (hk : K b) : eqAggP P t xs ys K := by
  refine ⟨?_⟩; exact ⟨h1, b, h2, hk⟩
/-- So it is compared, for whatever types have flat cells. -/
theorem eqAgg_same {P : Program} {t : Nat} {xs ys xs' ys' : List Value} {K : Bool → Prop} (b : Bool) (h : ∀ K, K b → eqAggP P t xs ys K) (hx : xs = xs') (hy : ys = ys') (hk : K b) : eqAggP P t xs' ys' K := by subst hx; subst hy; exact h K hk
def xvBin (X : Cx) (S : St) (op : BinOp) (t : Nat) (x y : Operand) (K : SV → Prop) : Prop := match S.ev x with
  | some (.c (.v (.int k p))) => (match S.ev y with
    | some (.c (.v (.int k' q))) => (match kindB k k' with
      | true => binInt op k p q K
      | false => False)
    | _ => False)
  | some (.c (.v (.bool p))) => (match S.ev y with
    | some (.c (.v (.bool q))) => (match get X.T t with
      | some ti => (match boolTB ti.d with
        | true => (match op with
          | .eql => K (.c (.v (.bool (p == q))))
          | .neq => K (.c (.v (.bool (p != q))))
          | _ => False)
        | false => False)
      | none => False)
    | _ => False)
  | some (.c (.v (.string p))) => (match S.ev y with
    | some (.c (.v (.string q))) => (match op with
      | .eql => K (.c (.v (.bool (p.toList == q.toList))))
      | .neq => K (.c (.v (.bool (!(p.toList == q.toList)))))
      | _ => False)
    | _ => False)
  | some (.agg cs) => (match S.ev y with
    | some (.agg ds) => (match plainVals cs with
      | some xs => (match plainVals ds with
        | some ys => (match op with
          | .eql => eqAggP X.P t xs ys fun b => K (.c (.v (.bool b)))
          | .neq => eqAggP X.P t xs ys fun b => K (.c (.v (.bool (!b))))
          | _ => False)
        | none => False)
      | none => False)
    | _ => False)
  | _ => False
theorem run_eqGuard_int {P : Program} (op : BinOp) (t : TypeId) (x y : Operand) (k k' : IntKind) (p q : Int) (w : World) : (eqGuard op t x y (.int k p) (.int k' q)).run P w = .ok () w := by
  cases op <;> simp [eqGuard]
theorem run_eqGuard_bool {P : Program} (op : BinOp) (t : TypeId) (x y : Operand) (p q : Bool) (w : World) : (eqGuard op t x y (.bool p) (.bool q)).run P w = .ok () w := by
  cases op <;> simp [eqGuard]
theorem run_eqGuard_string {P : Program} (op : BinOp) (t : TypeId) (x y : Operand) (p q : ByteArray) (w : World) : (eqGuard op t x y (.string p) (.string q)).run P w = .ok () w := by
  cases op <;> simp [eqGuard]
theorem run_equalIn_bool {P : Program} {t : TypeId} (hu : P.underlying t = some .bool) (d : Nat) (p q : Bool) (w : World) : (Op.equalIn (d + 1) t (.bool p) (.bool q)).run P w = .ok (p == q) w := by
  simp only [Op.equalIn, Sem.run_bind, run_underlying hu, Result.andThen_ok, Sem.run_pure]
theorem run_eql_bool {P : Program} {t : TypeId} (hu : P.underlying t = some .bool) (p q : Bool) (w : World) : (binOp .eql t (.bool p) (.bool q)).run P w = .ok (.bool (p == q)) w := by
  have h : (Op.equal t (.bool p) (.bool q)).run P w = .ok (p == q) w := run_equalIn_bool hu 9999 p q w
  simp only [binOp, Sem.run_bind, h, Result.andThen_ok, Sem.run_pure]
theorem run_neq_bool {P : Program} {t : TypeId} (hu : P.underlying t = some .bool) (p q : Bool) (w : World) : (binOp .neq t (.bool p) (.bool q)).run P w = .ok (.bool (p != q)) w := by
  have h : (Op.equal t (.bool p) (.bool q)).run P w = .ok (p == q) w := run_equalIn_bool hu 9999 p q w
  simp only [binOp, Sem.run_bind, h, Result.andThen_ok, Sem.run_pure]
  rfl
theorem bin_ok (hT : TabOk X.P X.T) (e : Env) (a : Act) {o : Oper} {op : BinOp} {t t' : Nat} {x y : Operand} {K : SV → Prop} (ho : o.op = .binOp op t x y t') (hk : xvBin X S op t x y K) : Yv X e S a o K := by
  unfold xvBin at hk
  split at hk
  · rename_i k p hx
    split at hk
    · rename_i k' q hy
      split at hk
      · rename_i hkk
        have := kindB_eq hkk
        subst this
        obtain ⟨u, hK, hone, hrun⟩ := binInt_ok hk X.P t
        refine ⟨_, hK, fun w h => ?_⟩
        have hdx := (h.ev_den hx).1
        have hdy := (h.ev_den hy).1
        simp only [SV.den, C.den] at hdx hdy
        exact ⟨hone, by simp [execOp, ho, hdx, hdy, run_eqGuard_int, hrun, SV.den, C.den]⟩
      · exact hk.elim
    · exact hk.elim
  · rename_i p hx
    split at hk
    · rename_i q hy
      split at hk
      · rename_i ti hti
        split at hk
        · rename_i hb
          have hu := (TabOk.get hT hti).1
          rw [boolTB_eq hb] at hu
          cases op <;> simp only at hk <;> first | exact hk.elim | skip
          all_goals
            refine ⟨_, hk, fun w h => ⟨rfl, ?_⟩⟩
            have hdx := (h.ev_den hx).1
            have hdy := (h.ev_den hy).1
            simp only [SV.den, C.den] at hdx hdy
          · simp only [execOp, ho, hdx, hdy, Sem.run_bind, run_eqGuard_bool, Result.andThen_ok, run_eql_bool hu, Sem.run_pure, SV.den, C.den]
          · simp only [execOp, ho, hdx, hdy, Sem.run_bind, run_eqGuard_bool, Result.andThen_ok, run_neq_bool hu, Sem.run_pure, SV.den, C.den]
        · exact hk.elim
      · exact hk.elim
    · exact hk.elim
  · rename_i p hx
    split at hk
    · rename_i q hy
      cases op <;> simp only at hk <;> first | exact hk.elim | skip
      all_goals
        refine ⟨_, hk, fun w h => ⟨rfl, ?_⟩⟩
        have hdx := (h.ev_den hx).1
        have hdy := (h.ev_den hy).1
        simp only [SV.den, C.den] at hdx hdy
        simp [execOp, ho, hdx, hdy, run_eqGuard_string, binOp, Op.stringOp, SV.den, C.den]
    · exact hk.elim
  · rename_i cs hx
    split at hk
    · rename_i ds hy
      split at hk
      · rename_i xs hxs
        split at hk
        · rename_i ys hys
          cases op <;> simp only at hk <;> first | exact hk.elim | skip
          all_goals
            replace hk := hk.out
            obtain ⟨hg, b, hb, hK⟩ := hk
            refine ⟨_, hK, fun w h => ⟨rfl, ?_⟩⟩
            have hdx := (h.ev_den hx).1
            have hdy := (h.ev_den hy).1
            simp only [SV.den, plainVals_eq hxs, plainVals_eq hys, map_den_v'] at hdx hdy
            simp only [execOp, ho, hdx, hdy, Sem.run_bind, run_eqGuard_agg _ _ _ _ _ _ _ hg, run_eql_struct, run_neq_struct, hb, Result.andThen_ok, Sem.run_pure, SV.den, C.den]
        · exact hk.elim
      · exact hk.elim
    · exact hk.elim
  · exact hk.elim

def xvUn (S : St) (op : UnOp) (x : Operand) (K : SV → Prop) : Prop := match S.ev x with
  | some (.c (.v (.bool p))) => (match op with
    | .not => K (.c (.v (.bool (!p))))
    | _ => False)
  | some (.c (.v (.int k p))) => (match op with
    | .neg => arP k (0 - p) fun r => K (.c (.v (.int k r)))
    | _ => False)
  | _ => False
theorem un_ok (e : Env) (a : Act) {o : Oper} {op : UnOp} {t : Nat} {x : Operand} {K : SV → Prop} (ho : o.op = .unOp op t x) (hk : xvUn S op x K) : Yv X e S a o K := by
  unfold xvUn at hk
  split at hk
  · rename_i p hx
    cases op <;> simp only at hk <;> first | exact hk.elim | skip
    refine ⟨_, hk, fun w h => ⟨rfl, ?_⟩⟩
    have hd := (h.ev_den hx).1
    simp only [SV.den, C.den] at hd
    simp [execOp, ho, hd, Op.unary, SV.den, C.den]
  · rename_i k p hx
    cases op <;> simp only at hk <;> first | exact hk.elim | skip
    refine ⟨_, ar_get hk, fun w h => ⟨rfl, ?_⟩⟩
    have hd := (h.ev_den hx).1
    simp only [SV.den, C.den] at hd
    simp [execOp, ho, hd, Op.unary, Op.intArith, SV.den, C.den]
  · exact hk.elim

def xvConv (X : Cx) (S : St) (src dst : Nat) (x : Operand) (K : SV → Prop) : Prop := match S.ev x with
  | some (.c (.v (.int _ p))) => (match get X.T src with
    | some _ => (match get X.T dst with
      | some td => (match td.d with
        | .int k => arP k p fun r => K (.c (.v (.int k r)))
        | _ => False)
      | none => False)
    | none => False)
  | _ => False
theorem conv_ok (hT : TabOk X.P X.T) (e : Env) (a : Act) {o : Oper} {src dst : Nat} {x : Operand} {K : SV → Prop} (ho : o.op = .convert src dst x) (hk : xvConv X S src dst x K) : Yv X e S a o K := by
  unfold xvConv at hk
  split at hk
  · rename_i k0 p hx
    split at hk
    · rename_i ts hts
      split at hk
      · rename_i td htd
        split at hk
        · rename_i k hkd
          have hus := (TabOk.get hT hts).1
          have hud := (TabOk.get hT htd).1
          rw [hkd] at hud
          refine ⟨_, ar_get hk, fun w h => ⟨rfl, ?_⟩⟩
          have hd := (h.ev_den hx).1
          simp only [SV.den, C.den] at hd
          simp [execOp, ho, hd, convert, run_underlying hus, run_underlying hud, Conv.intToInt, SV.den, C.den]
        · exact hk.elim
      · exact hk.elim
    · exact hk.elim
  · exact hk.elim

def xvExtract (S : St) (x : Operand) (i : Nat) (K : SV → Prop) : Prop := match S.ev x with
  | some (.tup vs) => (match vs[i]? with
    | some v => K v.sv
    | none => False)
  | _ => False
theorem V1.lt_sv {n : Nat} (x : V1) : x.sv.lt n = x.lt n := by cases x <;> rfl
theorem extract_ok (e : Env) (a : Act) {o : Oper} {x : Operand} {i : Nat} {K : SV → Prop} (ho : o.op = .extract x i) (hk : xvExtract S x i K) : Yv X e S a o K := by
  unfold xvExtract at hk
  split at hk
  · rename_i vs hx
    split at hk
    · rename_i v hv
      refine ⟨_, hk, fun w h => ?_⟩
      obtain ⟨hd, hl⟩ := h.ev_den hx
      refine ⟨by rw [V1.lt_sv]; exact ltAll1_mem hl v (List.mem_of_getElem? hv), ?_⟩
      simp only [SV.den] at hd
      simp [execOp, ho, hd, Instr.extract, hv, V1.den_sv]
    · exact hk.elim
  · exact hk.elim

/-! ### Elements of arrays -/
def xvIndex (X : Cx) (S : St) (t : Nat) (x i : Operand) (K : SV → Prop) : Prop := match get X.T t with
  | some ti => (match ti.d with
    | .array len el => (match get X.T el with
      | some ei => (match S.ev x with
        | some (.agg cs) => (match S.ev i with
          | some (.c (.v (.int _ n))) => idxP n len fun j => (match rowB ei.d with
            | true => partP cs (j * ei.size) ei.size fun cs' => K (.agg cs')
            | false => cellP cs (j * ei.size) fun c => K (.c c))
          | _ => False)
        | _ => False)
      | none => False)
    | _ => False)
  | none => False
theorem index_ok (hT : TabOk X.P X.T) (e : Env) (a : Act) {o : Oper} {t : Nat} {x i : Operand} {K : SV → Prop} (ho : o.op = .index t x i) (hk : xvIndex X S t x i K) : Yv X e S a o K := by
  unfold xvIndex at hk
  split at hk
  · rename_i ti hti
    split at hk
    · rename_i len el hdd
      split at hk
      · rename_i ei hei
        split at hk
        · rename_i cs hx
          split at hk
          · rename_i ki n hi
            obtain ⟨hr, hk⟩ := idx_get hk
            have hu := (TabOk.get hT hti).1
            rw [hdd] at hu
            obtain ⟨hue, j, hj, _, hjs, _⟩ := TabOk.get hT hei
            split at hk
            · rename_i hrow
              obtain ⟨cs', hcs, hl, hK⟩ := part_get hk
              refine ⟨_, hK, fun w h => ?_⟩
              obtain ⟨hdx, hlx⟩ := h.ev_den hx
              have hdi := (h.ev_den hi).1
              simp only [SV.den, C.den] at hdx hdi
              refine ⟨by subst hcs; exact ltAll_drop_take hlx, ?_⟩
              have hext : ((cs.map (C.den e)).drop (n.toNat * ei.size)).take ei.size = cs'.map (C.den e) := by
                rw [← hcs, List.map_take, List.map_drop]
              simp [execOp, ho, hdx, hdi, Instr.index, asIntOf, run_underlying hu, hr, part, run_isAgg hue, hrow, run_sizeOf hj, hjs, hext, SV.den]
            · rename_i hrow
              obtain ⟨c, hc, hK⟩ := cell_get hk
              refine ⟨_, hK, fun w h => ?_⟩
              obtain ⟨hdx, hlx⟩ := h.ev_den hx
              have hdi := (h.ev_den hi).1
              simp only [SV.den, C.den] at hdx hdi
              refine ⟨ltAll_get hlx hc, ?_⟩
              simp [execOp, ho, hdx, hdi, Instr.index, asIntOf, run_underlying hu, hr, part, run_isAgg hue, hrow, run_sizeOf hj, hjs, hc, SV.den]
          · exact hk.elim
        · exact hk.elim
      · exact hk.elim
    · exact hk.elim
  · exact hk.elim

def xvField (X : Cx) (S : St) (t : Nat) (x : Operand) (f : Nat) (K : SV → Prop) : Prop := match xfield X t f with
  | some (off, fi) => (match S.ev x with
    | some (.agg cs) => loadCell fi cs off K
    | _ => False)
  | none => False
theorem field_ok (hT : TabOk X.P X.T) (e : Env) (a : Act) {o : Oper} {t f : Nat} {x : Operand} {K : SV → Prop} (ho : o.op = .field t x f) (hk : xvField X S t x f K) : Yv X e S a o K := by
  unfold xvField at hk
  split at hk
  · rename_i off fi hf
    obtain ⟨ti, fs, fd, hti, hdd, hfd, rfl, hfi⟩ := xfield_get hf
    have hu := (TabOk.get hT hti).1
    rw [hdd] at hu
    obtain ⟨hue, j, hj, _, hjs, _⟩ := TabOk.get hT hfi
    split at hk
    · rename_i cs hx
      unfold loadCell at hk
      split at hk
      · rename_i hrow
        split at hk
        · rename_i hle
          refine ⟨_, hk, fun w h => ?_⟩
          obtain ⟨hdx, hlx⟩ := h.ev_den hx
          simp only [SV.den] at hdx
          refine ⟨ltAll_drop_take hlx, ?_⟩
          simp [execOp, ho, hdx, Instr.field, asAgg, run_underlying hu, hfd, part, run_isAgg hue, hrow, run_sizeOf hj, hjs, SV.den]
        · exact hk.elim
      · rename_i hrow
        split at hk
        · rename_i c hc
          refine ⟨_, hk, fun w h => ?_⟩
          obtain ⟨hdx, hlx⟩ := h.ev_den hx
          simp only [SV.den] at hdx
          refine ⟨ltAll_get hlx hc, ?_⟩
          simp [execOp, ho, hdx, Instr.field, asAgg, run_underlying hu, hfd, part, run_isAgg hue, hrow, run_sizeOf hj, hjs, hc, SV.den]
        · exact hk.elim
    · exact hk.elim
  · exact hk.elim
def xvIndexAddr (X : Cx) (S : St) (t : Nat) (x i : Operand) (K : SV → Prop) : Prop := match get X.T t with
  | some ti => (match S.ev i with
    | some (.c (.v (.int _ n))) => (match ti.d with
      | .slice el => (match get X.T el with
        | some ei => (match S.ev x with
          | some (.c (.row k)) => (match get S.H k with
            | some (.row _ esz m _) => (match Nat.beq esz ei.size with
              | true => idxP n m fun j => K (.c (.rp k (j * ei.size)))
              | false => False)
            | some (.ext esz m _) => (match Nat.beq esz ei.size with
              | true => idxP n m fun j => K (.c (.rp k (j * ei.size)))
              | false => False)
            | _ => False)
          | _ => False)
        | none => False)
      | .array len el => (match get X.T el with
        | some ei => (match S.ev x with
          | some (.c (.loc k o)) => idxP n len fun j => K (.c (.loc k (o + j * ei.size)))
          | some (.c (.rp k o)) => idxP n len fun j => K (.c (.rp k (o + j * ei.size)))
          | _ => False)
        | none => False)
      | _ => False)
    | _ => False)
  | none => False
theorem run_indexAt_slice {P : Program} {t el : TypeId} {j : TypeInfo} (hu : P.underlying t = some (.slice el)) (hj : P.info? el = some j) {p : Addr} {m c : Nat} {k : IntKind} {n : Int} (hr : 0 ≤ n ∧ n < m) (w : World) :
    (Instr.indexAt t (.slice (some p) m c) (.int k n)).run P w = .ok (.pointer (some (p.add (n.toNat * j.size)))) w := by
  simp [Instr.indexAt, asIntOf, run_underlying hu, run_sizeOf hj, hr]
theorem run_indexAt_array {P : Program} {t el : TypeId} {j : TypeInfo} {len : Nat} (hu : P.underlying t = some (.array len el)) (hj : P.info? el = some j) {p : Addr} {k : IntKind} {n : Int} (hr : 0 ≤ n ∧ n < len) (w : World) :
    (Instr.indexAt t (.pointer (some p)) (.int k n)).run P w = .ok (.pointer (some (p.add (n.toNat * j.size)))) w := by
  simp [Instr.indexAt, asIntOf, run_underlying hu, run_sizeOf hj, hr, Instr.sureAddr]
theorem indexAddr_slice_ok (hT : TabOk X.P X.T) (e : Env) (a : Act) {o : Oper} {t el : Nat} {x i : Operand} {K : SV → Prop} (ho : o.op = .indexAddr t x i) {ti ei : TI} (hti : get X.T t = some ti) (hdd : ti.d = .slice el) (hei : get X.T el = some ei) {ki : IntKind} {n : Int} (hi : S.ev i = some (.c (.v (.int ki n))))
    {k esz m : Nat} {xs : List C} (hx : S.ev x = some (.c (.row k))) (hH : isRow S k esz m xs) (hk : idxP n m fun j => K (.c (.rp k (j * ei.size)))) : Yv X e S a o K := by
  obtain ⟨hr, hk⟩ := idx_get hk
  have hu := (TabOk.get hT hti).1
  rw [hdd] at hu
  obtain ⟨_, j, hj, _, hjs, _⟩ := TabOk.get hT hei
  refine ⟨_, hk, fun w h => ?_⟩
  obtain ⟨hdx, hlx⟩ := h.ev_den hx
  have hdi := (h.ev_den hi).1
  obtain ⟨c, hv⟩ := row_value h hH (by omega)
  simp only [SV.den, C.den] at hdx hdi
  rw [hv] at hdx
  refine ⟨hlx, ?_⟩
  have hrun := run_indexAt_slice (p := e.ra k) (m := m) (c := c) (k := ki) hu hj hr w
  simp only [SV.den, C.den, ← hjs]
  simp [execOp, ho, hdx, hdi, hrun]
theorem indexAddr_ok (hT : TabOk X.P X.T) (e : Env) (a : Act) {o : Oper} {t : Nat} {x i : Operand} {K : SV → Prop} (ho : o.op = .indexAddr t x i) (hk : xvIndexAddr X S t x i K) : Yv X e S a o K := by
  unfold xvIndexAddr at hk
  split at hk
  · rename_i ti hti
    split at hk
    · rename_i ki n hi
      split at hk
      · rename_i el hdd
        split at hk
        · rename_i ei hei
          split at hk
          · rename_i k hx
            split at hk
            · rename_i ety esz m xs hH
              split at hk
              · exact indexAddr_slice_ok hT e a ho hti hdd hei hi hx (.inl ⟨_, hH⟩) hk
              · exact hk.elim
            · rename_i esz m xs hH
              split at hk
              · exact indexAddr_slice_ok hT e a ho hti hdd hei hi hx (.inr hH) hk
              · exact hk.elim
            · exact hk.elim
          · exact hk.elim
        · exact hk.elim
      · rename_i len el hdd
        split at hk
        · rename_i ei hei
          have hu := (TabOk.get hT hti).1
          rw [hdd] at hu
          obtain ⟨_, j, hj, _, hjs, _⟩ := TabOk.get hT hei
          split at hk
          · rename_i k o' hx
            obtain ⟨hr, hk⟩ := idx_get hk
            refine ⟨_, hk, fun w h => ?_⟩
            have hdi := (h.ev_den hi).1
            simp only [SV.den, C.den] at hdi
            obtain ⟨hdx, hlx⟩ := h.ev_den hx
            refine ⟨hlx, ?_⟩
            have hrun := run_indexAt_array (p := ⟨e.ad k, o', none⟩) (k := ki) hu hj hr w
            rw [Addr.add_mid] at hrun
            simp only [SV.den, C.den] at hdx
            simp only [SV.den, C.den, ← hjs]
            simp [execOp, ho, hdx, hdi, hrun]
          · rename_i k o' hx
            obtain ⟨hr, hk⟩ := idx_get hk
            refine ⟨_, hk, fun w h => ?_⟩
            have hdi := (h.ev_den hi).1
            simp only [SV.den, C.den] at hdi
            obtain ⟨hdx, hlx⟩ := h.ev_den hx
            refine ⟨hlx, ?_⟩
            have hrun := run_indexAt_array (p := (e.ra k).add o') (k := ki) hu hj hr w
            rw [addr_add] at hrun
            simp only [SV.den, C.den] at hdx
            simp only [SV.den, C.den, ← hjs]
            simp [execOp, ho, hdx, hdi, hrun]
          · exact hk.elim
        · exact hk.elim
      · exact hk.elim
    · exact hk.elim
  · exact hk.elim

/-! ### Lengths, the least and the greatest of two -/
def minI (x y : Int) : Int := if y < x then y else x
def maxI (x y : Int) : Int := if y > x then y else x
def sliceTB : TypeDesc → Bool
  | .slice _ => true
  | _ => false
theorem sliceTB_eq {d : TypeDesc} (h : sliceTB d = true) : ∃ el, d = .slice el := by cases d <;> first | exact ⟨_, rfl⟩ | cases h
def xvBuiltin (X : Cx) (S : St) (b : Builtin) (args : List Operand) (ts : List Nat) (K : SV → Prop) : Prop := match b, args, ts with
  | .len, [x], [t] => (match get X.T t with
    | some ti => (match sliceTB ti.d with
      | true => (match S.ev x with
        | some (.c (.row k)) => (match get S.H k with
          | some (.row _ _ n _) => K (.c (.v (.int .i64 n)))
          | some (.ext _ n _) => K (.c (.v (.int .i64 n)))
          | _ => False)
        | some (.c (.v (.slice _ n _))) => K (.c (.v (.int .i64 n)))
        | _ => False)
      | false => (match ti.d with
        | .array n _ => (match S.ev x with
          | some _ => K (.c (.v (.int .i64 n)))
          | none => False)
        | .string => (match S.ev x with
          | some (.c (.v (.string s))) => K (.c (.v (.int .i64 s.size)))
          | _ => False)
        | _ => False))
    | none => False)
  | .min, [x, y], _ => (match S.ev x with
    | some (.c (.v (.int k p))) => (match S.ev y with
      | some (.c (.v (.int _ q))) => K (.c (.v (.int k (minI p q))))
      | _ => False)
    | _ => False)
  | .max, [x, y], _ => (match S.ev x with
    | some (.c (.v (.int k p))) => (match S.ev y with
      | some (.c (.v (.int _ q))) => K (.c (.v (.int k (maxI p q))))
      | _ => False)
    | _ => False)
  | _, _, _ => False
theorem run_len_slice {P : Program} {t el : TypeId} (hu : P.underlying t = some (.slice el)) (A : Option Addr) (n c ty : Nat) (w : World) : (Builtin.len_ #[t] ty #[.slice A n c]).run P w = .ok (.int .i64 n) w := by
  simp [Builtin.len_, run_underlying hu, goInt]
theorem builtin_ok (hT : TabOk X.P X.T) (e : Env) (a : Act) {o : Oper} {b : Builtin} {args : Array Operand} {ts : Array TypeId} {K : SV → Prop} (ho : o.op = .call { callee := .builtin b, args := args, argTypes := ts })
    (hk : xvBuiltin X S b args.toList ts.toList K) : Yv X e S a o K := by
  obtain ⟨args⟩ := args
  obtain ⟨ts⟩ := ts
  simp only at hk
  unfold xvBuiltin at hk
  split at hk
  · rename_i x t
    split at hk
    · rename_i ti hti
      have hu := (TabOk.get hT hti).1
      split at hk
      · rename_i hs
        obtain ⟨el, hel⟩ := sliceTB_eq hs
        rw [hel] at hu
        split at hk
        · rename_i k hx
          split at hk
          · rename_i ety esz n xs hH
            refine ⟨_, hk, fun w h => ⟨rfl, ?_⟩⟩
            have hdx := (h.ev_den hx).1
            simp only [SV.den, C.den] at hdx
            obtain ⟨A, c, hv, _⟩ := row_len h (.inl ⟨_, hH⟩)
            rw [hv] at hdx
            simp [execOp, ho, resolve, invoke, builtin, hdx, run_len_slice hu, SV.den, C.den]
          · rename_i esz n xs hH
            refine ⟨_, hk, fun w h => ⟨rfl, ?_⟩⟩
            have hdx := (h.ev_den hx).1
            simp only [SV.den, C.den] at hdx
            obtain ⟨A, c, hv, _⟩ := row_len h (.inr hH)
            rw [hv] at hdx
            simp [execOp, ho, resolve, invoke, builtin, hdx, run_len_slice hu, SV.den, C.den]
          · exact hk.elim
        · rename_i A n c hx
          refine ⟨_, hk, fun w h => ⟨rfl, ?_⟩⟩
          have hdx := (h.ev_den hx).1
          simp only [SV.den, C.den] at hdx
          simp [execOp, ho, resolve, invoke, builtin, hdx, run_len_slice hu, SV.den, C.den]
        · exact hk.elim
      · split at hk
        · rename_i n el hd
          rw [hd] at hu
          split at hk
          · exact ⟨_, hk, fun w h => ⟨rfl, by simp [execOp, ho, resolve, invoke, builtin, Builtin.len_, run_underlying hu, goInt, SV.den, C.den]⟩⟩
          · exact hk.elim
        · rename_i hd
          rw [hd] at hu
          split at hk
          · rename_i s hx
            refine ⟨_, hk, fun w h => ⟨rfl, ?_⟩⟩
            have hdx := (h.ev_den hx).1
            simp only [SV.den, C.den] at hdx
            simp [execOp, ho, resolve, invoke, builtin, hdx, Builtin.len_, run_underlying hu, goInt, SV.den, C.den]
          · exact hk.elim
        · exact hk.elim
    · exact hk.elim
  · rename_i x y _
    split at hk
    · rename_i k p hx
      split at hk
      · rename_i k' q hy
        refine ⟨_, hk, fun w h => ⟨rfl, ?_⟩⟩
        have hdx := (h.ev_den hx).1
        have hdy := (h.ev_den hy).1
        simp only [SV.den, C.den] at hdx hdy
        simp [execOp, ho, resolve, invoke, builtin, hdx, hdy, Builtin.min_, Builtin.min2, SV.den, C.den, minI]
      · exact hk.elim
    · exact hk.elim
  · rename_i x y _
    split at hk
    · rename_i k p hx
      split at hk
      · rename_i k' q hy
        refine ⟨_, hk, fun w h => ⟨rfl, ?_⟩⟩
        have hdx := (h.ev_den hx).1
        have hdy := (h.ev_den hy).1
        simp only [SV.den, C.den] at hdx hdy
        simp [execOp, ho, resolve, invoke, builtin, hdx, hdy, Builtin.max_, Builtin.max2, SV.den, C.den, maxI]
      · exact hk.elim
    · exact hk.elim
  · exact hk.elim

/-! ### Literals of structs and arrays -/
def splice : List C → Nat → List C → List C
  | cs, _, [] => cs
  | cs, o, v :: r => splice (cs.set o v) (o + 1) r
def SV.list : SV → List C
  | .c x => [x]
  | .agg cs => cs
  | .tup _ => []
  | .un => []
def placeS (T : Tab) (d : TypeDesc) (i : Nat) : Option (Nat × Nat) := match d with
  | .struct fs => (match fs.toList[i]? with
    | some fd => (match get T fd.type with
      | some fi => some (fd.offset, fi.size)
      | none => none)
    | none => none)
  | .array _ el => (match get T el with
    | some ei => some (i * ei.size, ei.size)
    | none => none)
  | _ => none
def fillS (S : St) (place : Nat → Option (Nat × Nat)) : List C → List (Nat × Operand) → Option (List C)
  | cs, [] => some cs
  | cs, (i, x) :: r => match S.ev x with
    | some v => (match v with
      | .tup _ => none
      | .un => none
      | v => (match place i with
        | some (off, size) => (match Nat.beq v.list.length size with
          | true => (match Nat.ble (off + v.list.length) cs.length with
            | true => fillS S place (splice cs off v.list) r
            | false => none)
          | false => none)
        | none => none))
    | none => none
end
end Go.Proofs.Ytbajgjbgkpcapaa.Sx
