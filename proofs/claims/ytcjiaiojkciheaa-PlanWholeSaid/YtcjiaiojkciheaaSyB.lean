/-
  The symbolic executor, 3: the other operations that yield a value and leave the world as it is: arithmetic, parts of arrays and tuples, addresses of elements, literals.
-/
import Derived.Test.YtcjiaiojkciheaaSyA
namespace Go.Proofs.Ytcjiaiojkciheaa.Sy
open Go Go.RowKit
section
variable {X : Cx} {e : Env} {S : St} {a : Act} {w : World}

/-! ### Two operands -/
def kindB : IntKind → IntKind → Bool
  | .i8, .i8 | .i16, .i16 | .i32, .i32 | .i64, .i64 | .u8, .u8 | .u16, .u16 | .u32, .u32 | .u64, .u64 => true
  | _, _ => false
theorem kindB_eq {k k' : IntKind} (h : kindB k k' = true) : k = k' := by cases k <;> cases k' <;> first | rfl | cases h
structure divP (k : IntKind) (x y : Int) (K : Int → Prop) : Prop where
  out : y ≠ 0 ∧ K (k.wrap (x.tdiv y))
structure remP (x y : Int) (K : Int → Prop) : Prop where
  out : y ≠ 0 ∧ K (x.tmod y)
theorem div_of {k : IntKind} {x y : Int} {K : Int → Prop} (hy : y ≠ 0) (h : K (k.wrap (x.tdiv y))) : divP k x y K := by refine ⟨?_⟩; exact ⟨hy, h⟩
theorem rem_of {x y : Int} {K : Int → Prop} (hy : y ≠ 0) (h : K (x.tmod y)) : remP x y K := by refine ⟨?_⟩; exact ⟨hy, h⟩
theorem div_in {x y : Int} {K : Int → Prop} (hx : 0 ≤ x ∧ x ≤ 9223372036854775807) (hy : 1 ≤ y) (h : K (x / y)) : divP .i64 x y K := by
  refine div_of (by omega) ?_
  have h1 : x.tdiv y = x / y := Int.tdiv_eq_ediv_of_nonneg hx.1
  have h2 : 0 ≤ x / y := Int.ediv_nonneg hx.1 (by omega)
  have h3 : x / y ≤ x := Int.ediv_le_self _ hx.1
  have h4 : IntKind.i64.wrap (x / y) = x / y := by rw [IntKind.wrap_i64]; omega
  rw [h1, h4]; exact h
theorem rem_in {x y : Int} {K : Int → Prop} (hx : 0 ≤ x) (hy : 1 ≤ y) (h : K (x % y)) : remP x y K := by
  refine rem_of (by omega) ?_
  rw [Int.tmod_eq_emod_of_nonneg hx]; exact h
def binInt (op : BinOp) (k : IntKind) (x y : Int) (K : SV → Prop) : Prop := match op with
  | .add => arP k (x + y) fun r => K (.c (.v (.int k r)))
  | .sub => arP k (x - y) fun r => K (.c (.v (.int k r)))
  | .mul => arP k (x * y) fun r => K (.c (.v (.int k r)))
  | .quo => divP k x y fun r => K (.c (.v (.int k r)))
  | .rem => remP x y fun r => K (.c (.v (.int k r)))
  | .and => K (.c (.v (.int k (k.wrap ((BitVec.ofInt k.bits x &&& BitVec.ofInt k.bits y).toNat : Int)))))
  | .or => K (.c (.v (.int k (k.wrap ((BitVec.ofInt k.bits x ||| BitVec.ofInt k.bits y).toNat : Int)))))
  | .xor => K (.c (.v (.int k (k.wrap ((BitVec.ofInt k.bits x ^^^ BitVec.ofInt k.bits y).toNat : Int)))))
  | .eql => K (.c (.v (.bool (x == y))))
  | .neq => K (.c (.v (.bool (x != y))))
  | .lss => K (.c (.v (.bool (decide (x < y)))))
  | .leq => K (.c (.v (.bool (decide (x ≤ y)))))
  | .gtr => K (.c (.v (.bool (decide (y < x)))))
  | .geq => K (.c (.v (.bool (decide (y ≤ x)))))
  | _ => False
theorem binInt_ok {op : BinOp} {k : IntKind} {x y : Int} {K : SV → Prop} (h : binInt op k x y K) (P : Program) (t : TypeId) :
    ∃ u : Value, K (.c (.v u)) ∧ u.oneCell' = true ∧ ∀ w, (binOp op t (.int k x) (.int k y)).run P w = .ok u w := by
  cases op <;> simp only [binInt] at h
  case add => exact ⟨_, ar_get h, rfl, fun w => by simp [binOp, Op.intArith]⟩
  case sub => exact ⟨_, ar_get h, rfl, fun w => by simp [binOp, Op.intArith]⟩
  case mul => exact ⟨_, ar_get h, rfl, fun w => by simp [binOp, Op.intArith]⟩
  case quo => replace h := h.out; exact ⟨_, h.2, rfl, fun w => by simp [binOp, Op.intDiv, h.1]⟩
  case rem => replace h := h.out; exact ⟨_, h.2, rfl, fun w => by simp [binOp, Op.intDiv, h.1]⟩
  case and => exact ⟨_, h, rfl, fun w => by simp [binOp, Op.intBits]⟩
  case or => exact ⟨_, h, rfl, fun w => by simp [binOp, Op.intBits]⟩
  case xor => exact ⟨_, h, rfl, fun w => by simp [binOp, Op.intBits]⟩
  case eql => exact ⟨_, h, rfl, fun w => by simp [binOp, Op.intCmp]⟩
  case neq => exact ⟨_, h, rfl, fun w => by simp [binOp, Op.intCmp]⟩
  case lss => exact ⟨_, h, rfl, fun w => by simp [binOp, Op.intCmp]⟩
  case leq => exact ⟨_, h, rfl, fun w => by simp [binOp, Op.intCmp]⟩
  case gtr => exact ⟨_, h, rfl, fun w => by simp [binOp, Op.intCmp]⟩
  case geq => exact ⟨_, h, rfl, fun w => by simp [binOp, Op.intCmp]⟩
  all_goals exact h.elim
def boolTB : TypeDesc → Bool
  | .bool => true
  | _ => false
theorem boolTB_eq {d : TypeDesc} (h : boolTB d = true) : d = .bool := by cases d <;> first | rfl | cases h
def plainVals : List C → Option (List Value)
  | [] => some []
  | .v x :: r => (match plainVals r with | some l => some (x :: l) | none => none)
  | _ => none
theorem plainVals_eq : ∀ {cs : List C} {xs : List Value}, plainVals cs = some xs → cs = xs.map C.v
  | [], xs, h => by simp only [plainVals, Option.some.injEq] at h; subst h; rfl
  | .v x :: r, xs, h => by
    simp only [plainVals] at h
    split at h
    · rename_i l hl
      simp only [Option.some.injEq] at h
      subst h
      rw [plainVals_eq hl]; rfl
    · cases h
  | .loc _ _ :: _, xs, h => by simp [plainVals] at h
  | .row _ :: _, xs, h => by simp [plainVals] at h
  | .ep _ _ _ :: _, xs, h => by simp [plainVals] at h
  | .sl _ _ _ :: _, xs, h => by simp [plainVals] at h
theorem map_den_v' (e : Env) (xs : List Value) : (xs.map C.v).map (C.den e) = xs := by
  rw [List.map_map]
  exact (List.map_congr_left fun x _ => rfl).trans (List.map_id' xs)
/-- Are two values of type t, each by its cells, the same? -/
def eqFs (T : Tab) (rec : Nat → List Value → List Value → Option Bool) : List Field → List Value → List Value → Option Bool
  | [], _, _ => some true
  | f :: r, xs, ys => (match get T f.type with
    | some fi => (match Nat.ble (f.offset + fi.size) xs.length with
      | true => (match Nat.ble (f.offset + fi.size) ys.length with
        | true => (match rec f.type ((xs.drop f.offset).take fi.size) ((ys.drop f.offset).take fi.size) with
          | some b => (match r with
            | [] => some b
            | r => (match eqFs T rec r xs ys with
              | some b' => some (b && b')
              | none => none))
          | none => none)
        | false => none)
      | false => none)
    | none => none)
def eqV (T : Tab) : Nat → Nat → List Value → List Value → Option Bool
  | 0, _, _, _ => none
  | d + 1, t, xs, ys => (match get T t with
    | some ti => (match ti.d with
      | .int _ => (match xs, ys with
        | [.int k a], [.int k' b] => (match kindB k k' with | true => some (a == b) | false => none)
        | _, _ => none)
      | .bool => (match xs, ys with
        | [.bool a], [.bool b] => some (a == b)
        | _, _ => none)
      | .string => (match xs, ys with
        | [.string a], [.string b] => some (a.toList == b.toList)
        | _, _ => none)
      | .struct fs => (match ti.eqok with
        | true => eqFs T (eqV T d) fs.toList xs ys
        | false => none)
      | _ => none)
    | none => none)
def valOf (d : TypeDesc) (xs : List Value) : Value := match rowB d with
  | true => .agg xs.toArray
  | false => xs.headD undef
theorem run_part {P : Program} {t : TypeId} {d : TypeDesc} {j : TypeInfo} (hu : P.underlying t = some d) (hi : P.info? t = some j) {xs : List Value} {o : Nat} (h1 : rowB d = false → j.size = 1) (hle : o + j.size ≤ xs.length) (w : World) :
    (part t xs.toArray o).run P w = .ok (valOf d ((xs.drop o).take j.size)) w := by
  cases hr : rowB d with
  | true => simp [part, run_isAgg hu, hr, run_sizeOf hi, valOf]
  | false =>
    have h1 := h1 hr
    rw [h1] at hle ⊢
    have ho : o < xs.length := by omega
    have : (xs.drop o).take 1 = [xs[o]] := by
      rw [List.drop_eq_getElem_cons ho]; rfl
    simp [part, run_isAgg hu, hr, valOf, this, ho]
theorem run_eqGuard_agg' {P : Program} (op : BinOp) (t : TypeId) (x y : Operand) (xs ys : Array Value) (hm : P.eqGuardType P.depth t = false) (w : World) : (eqGuard op t x y (.agg xs) (.agg ys)).run P w = .ok () w := run_eqGuard_agg w op t x y xs ys hm
theorem eqV_ok {P : Program} {T : Tab} (hT : TabOk P T) : ∀ (d m t : Nat) (xs ys : List Value) (b : Bool) (ti : TI), get T t = some ti → eqV T d t xs ys = some b → ∀ w, (Op.equalIn (d + m) t (valOf ti.d xs) (valOf ti.d ys)).run P w = .ok b w
  | 0, _, _, _, _, _, _, _, h, _ => by unfold eqV at h; cases h
  | d + 1, m, t, xs, ys, b, ti, hti, h, w => by
    obtain ⟨hu, j, hj, _, _, _, heq⟩ := TabOk.get hT hti
    unfold eqV at h
    rw [hti] at h
    simp only at h
    rw [show d + 1 + m = (d + m) + 1 by omega]
    split at h
    · rename_i k hd
      rw [hd] at hu
      split at h
      · rename_i k1 a k2 c
        split at h
        · rename_i hk
          have := kindB_eq hk
          subst this
          simp only [Option.some.injEq] at h
          subst h
          simp only [valOf, hd, rowB, List.headD_cons]
          exact run_equalIn_int _ _ _ _ _ _ _ hu
        · cases h
      · cases h
    · rename_i hd
      rw [hd] at hu
      split at h
      · simp only [Option.some.injEq] at h
        subst h
        simp only [valOf, hd, rowB, List.headD_cons]
        exact run_equalIn_bool' _ _ _ _ _ hu
      · cases h
    · rename_i hd
      rw [hd] at hu
      split at h
      · simp only [Option.some.injEq] at h
        subst h
        simp only [valOf, hd, rowB, List.headD_cons]
        exact run_equalIn_string _ _ _ _ _ hu
      · cases h
    · rename_i fs hd
      split at h
      · rename_i hok
        obtain ⟨_, hst, hnm⟩ := heq hok
        have hf : P.fieldsOf t = fs := by unfold Program.fieldsOf; rw [hu, hd]
        have hu2 : P.underlying t = some (.struct (P.fieldsOf t)) := by rw [hf, hu, hd]
        have hnm2 : ∀ f ∈ fs.toList, f.name ≠ "_" := by
          intro f hm hn
          rw [hf] at hnm
          have := List.all_eq_true.1 hnm f hm
          simp [hn] at this
        simp only [valOf, hd, rowB]
        rw [run_equalIn_agg w _ t _ _ hu2 hst, hf]
        clear hnm hf hu2 hst hok heq hu hd
        have key : ∀ (l : List Field) (b : Bool), (∀ f ∈ l, f.name ≠ "_") → eqFs T (eqV T d) l xs ys = some b → (Op.eqFields (d + m) xs.toArray ys.toArray l).run P w = .ok b w := by
          intro l
          induction l with
          | nil => intro b _ hg; simp only [eqFs, Option.some.injEq] at hg; subst hg; rfl
          | cons f r ih =>
            intro b hn hg
            unfold eqFs at hg
            split at hg
            · rename_i fi hfi
              obtain ⟨hfu, jf, hfj, hfz, hfs, _, _⟩ := TabOk.get hT hfi
              have h1 : rowB fi.d = false → jf.size = 1 := fun hr => by
                rw [hfs]; exact TabOk.one hT hfi hr
              split at hg
              · rename_i hl1
                split at hg
                · rename_i hl2
                  have hl1 := Nat.le_of_ble_eq_true hl1
                  have hl2 := Nat.le_of_ble_eq_true hl2
                  split at hg
                  · rename_i b0 hb0
                    have e0 := eqV_ok hT d m f.type _ _ b0 fi hfi hb0 w
                    have p1 := run_part hfu hfj h1 (xs := xs) (o := f.offset) (by rw [hfs]; exact hl1) w
                    have p2 := run_part hfu hfj h1 (xs := ys) (o := f.offset) (by rw [hfs]; exact hl2) w
                    rw [hfs] at p1 p2
                    have step : ∀ b', (Op.eqFields (d + m) xs.toArray ys.toArray r).run P w = .ok b' w → (Op.eqFields (d + m) xs.toArray ys.toArray (f :: r)).run P w = .ok (b0 && b') w := by
                      intro b' hb'
                      rw [Op.eqFields]
                      rw [if_pos (hn f (by simp))]
                      simp only [Sem.run_bind, p1, p2, e0, Result.andThen_ok]
                      cases b0 with
                      | true => simpa using hb'
                      | false => simp
                    split at hg
                    · simp only [Option.some.injEq] at hg
                      subst hg
                      have := step true rfl
                      simpa using this
                    · split at hg
                      · rename_i b' hb'
                        simp only [Option.some.injEq] at hg
                        subst hg
                        exact step b' (ih b' (fun f hf => hn f (by simp [hf])) hb')
                      · cases hg
                  · cases hg
                · cases hg
              · cases hg
            · cases hg
        exact key _ _ hnm2 h
      · cases h
    · cases h
/-- A shift's count. -/
structure shP (y : Int) (K : Nat → Prop) : Prop where
  out : 0 ≤ y ∧ K y.toNat
theorem sh_of {y : Int} {K : Nat → Prop} (hy : 0 ≤ y) (h : K y.toNat) : shP y K := by refine ⟨?_⟩; exact ⟨hy, h⟩
theorem sh_nat {y : Nat} {K : Nat → Prop} (h : K y) : shP (y : Int) K := by refine ⟨?_⟩; exact ⟨by omega, h⟩
def xshift (op : BinOp) (k : IntKind) (x y : Int) (K : SV → Prop) : Prop := match op with
  | .shl => shP y fun n => arP k (x * 2 ^ (min n k.bits)) fun r => K (.c (.v (.int k r)))
  | .shr => shP y fun n => K (.c (.v (.int k (x.fdiv (2 ^ (min n k.bits))))))
  | _ => False
theorem xshift_ok {op : BinOp} {k k' : IntKind} {x y : Int} {K : SV → Prop} (h : xshift op k x y K) (P : Program) (t : TypeId) :
    ∃ u : Value, K (.c (.v u)) ∧ u.oneCell' = true ∧ ∀ w, (binOp op t (.int k x) (.int k' y)).run P w = .ok u w := by
  cases op <;> simp only [xshift] at h <;> first | exact h.elim | skip
  case shl =>
    replace h := h.out
    refine ⟨_, ar_get h.2, rfl, fun w => ?_⟩
    have : ¬ y < 0 := by omega
    simp [binOp, Op.shift, this]
  case shr =>
    replace h := h.out
    refine ⟨_, h.2, rfl, fun w => ?_⟩
    have : ¬ y < 0 := by omega
    simp [binOp, Op.shift, this]
def isShift : BinOp → Bool
  | .shl => true
  | .shr => true
  | _ => false
def xvBin (X : Cx) (S : St) (op : BinOp) (t : Nat) (x y : Operand) (K : SV → Prop) : Prop := match S.ev x with
  | some (.c (.v (.int k p))) => (match S.ev y with
    | some (.c (.v (.int k' q))) => (match isShift op with
      | true => xshift op k p q K
      | false => (match kindB k k' with
        | true => binInt op k p q K
        | false => False))
    | _ => False)
  | some (.c (.v (.bool p))) => (match S.ev y with
    | some (.c (.v (.bool q))) => (match get X.T t with
      | some ti => (match boolTB ti.d with
        | true => (match op with
          | .eql => K (.c (.v (.bool (p == q))))
          | .neq => K (.c (.v (.bool (p != q))))
          | _ => False)
        | false => False)
      | none => False)
    | _ => False)
  | some (.c (.v (.string p))) => (match S.ev y with
    | some (.c (.v (.string q))) => (match op with
      | .eql => K (.c (.v (.bool (p.toList == q.toList))))
      | .neq => K (.c (.v (.bool (!(p.toList == q.toList)))))
      | _ => False)
    | _ => False)
  | some (.agg cs) => (match S.ev y with
    | some (.agg ds) => (match plainVals cs with
      | some xs => (match plainVals ds with
        | some ys => (match get X.T t with
          | some ti => (match ti.eqok with
            | true => (match rowB ti.d with
              | true => (match eqV X.T 20 t xs ys with
                | some b => (match op with
                  | .eql => K (.c (.v (.bool b)))
                  | .neq => K (.c (.v (.bool (!b))))
                  | _ => False)
                | none => False)
              | false => False)
            | false => False)
          | none => False)
        | none => False)
      | none => False)
    | _ => False)
  | _ => False
theorem run_eqGuard_int {P : Program} (op : BinOp) (t : TypeId) (x y : Operand) (k k' : IntKind) (p q : Int) (w : World) : (eqGuard op t x y (.int k p) (.int k' q)).run P w = .ok () w := by
  cases op <;> simp [eqGuard]
theorem run_eqGuard_bool {P : Program} (op : BinOp) (t : TypeId) (x y : Operand) (p q : Bool) (w : World) : (eqGuard op t x y (.bool p) (.bool q)).run P w = .ok () w := by
  cases op <;> simp [eqGuard]
theorem run_eqGuard_string {P : Program} (op : BinOp) (t : TypeId) (x y : Operand) (p q : ByteArray) (w : World) : (eqGuard op t x y (.string p) (.string q)).run P w = .ok () w := by
  cases op <;> simp [eqGuard]
theorem run_equalIn_bool {P : Program} {t : TypeId} (hu : P.underlying t = some .bool) (d : Nat) (p q : Bool) (w : World) : (Op.equalIn (d + 1) t (.bool p) (.bool q)).run P w = .ok (p == q) w := by
  simp only [Op.equalIn, Sem.run_bind, run_underlying hu, Result.andThen_ok, Sem.run_pure]
theorem run_eql_bool {P : Program} {t : TypeId} (hu : P.underlying t = some .bool) (p q : Bool) (w : World) : (binOp .eql t (.bool p) (.bool q)).run P w = .ok (.bool (p == q)) w := by
  have h : (Op.equal t (.bool p) (.bool q)).run P w = .ok (p == q) w := run_equalIn_bool hu 9999 p q w
  simp only [binOp, Sem.run_bind, h, Result.andThen_ok, Sem.run_pure]
theorem run_neq_bool {P : Program} {t : TypeId} (hu : P.underlying t = some .bool) (p q : Bool) (w : World) : (binOp .neq t (.bool p) (.bool q)).run P w = .ok (.bool (p != q)) w := by
  have h : (Op.equal t (.bool p) (.bool q)).run P w = .ok (p == q) w := run_equalIn_bool hu 9999 p q w
  simp only [binOp, Sem.run_bind, h, Result.andThen_ok, Sem.run_pure]
  rfl
theorem bin_ok (hT : TabOk X.P X.T) (e : Env) (a : Act) {o : Oper} {op : BinOp} {t t' : Nat} {x y : Operand} {K : SV → Prop} (ho : o.op = .binOp op t x y t') (hk : xvBin X S op t x y K) : Yv X e S a o K := by
  unfold xvBin at hk
  split at hk
  · rename_i k p hx
    split at hk
    · rename_i k' q hy
      have fin : (∃ u : Value, K (.c (.v u)) ∧ u.oneCell' = true ∧ ∀ w, (binOp op t (.int k p) (.int k' q)).run X.P w = .ok u w) → Yv X e S a o K := by
        rintro ⟨u, hK, hone, hrun⟩
        refine ⟨_, hK, fun w h => ?_⟩
        have hdx := (h.ev_den hx).1
        have hdy := (h.ev_den hy).1
        simp only [SV.den, C.den] at hdx hdy
        exact ⟨hone, by simp [execOp, ho, hdx, hdy, run_eqGuard_int, hrun, SV.den, C.den]⟩
      split at hk
      · exact fin (xshift_ok hk X.P t)
      · split at hk
        · rename_i hkk
          have := kindB_eq hkk
          subst this
          exact fin (binInt_ok hk X.P t)
        · exact hk.elim
    · exact hk.elim
  · rename_i p hx
    split at hk
    · rename_i q hy
      split at hk
      · rename_i ti hti
        split at hk
        · rename_i hb
          have hu := (TabOk.get hT hti).1
          rw [boolTB_eq hb] at hu
          cases op <;> simp only at hk <;> first | exact hk.elim | skip
          all_goals
            refine ⟨_, hk, fun w h => ⟨rfl, ?_⟩⟩
            have hdx := (h.ev_den hx).1
            have hdy := (h.ev_den hy).1
            simp only [SV.den, C.den] at hdx hdy
          · simp only [execOp, ho, hdx, hdy, Sem.run_bind, run_eqGuard_bool, Result.andThen_ok, run_eql_bool hu, Sem.run_pure, SV.den, C.den]
          · simp only [execOp, ho, hdx, hdy, Sem.run_bind, run_eqGuard_bool, Result.andThen_ok, run_neq_bool hu, Sem.run_pure, SV.den, C.den]
        · exact hk.elim
      · exact hk.elim
    · exact hk.elim
  · rename_i p hx
    split at hk
    · rename_i q hy
      cases op <;> simp only at hk <;> first | exact hk.elim | skip
      all_goals
        refine ⟨_, hk, fun w h => ⟨rfl, ?_⟩⟩
        have hdx := (h.ev_den hx).1
        have hdy := (h.ev_den hy).1
        simp only [SV.den, C.den] at hdx hdy
        simp [execOp, ho, hdx, hdy, run_eqGuard_string, binOp, Op.stringOp, SV.den, C.den]
    · exact hk.elim
  · rename_i cs hx
    split at hk
    · rename_i ds hy
      split at hk
      · rename_i xs hxs
        split at hk
        · rename_i ys hys
          split at hk
          · rename_i ti hti
            split at hk
            · rename_i hok
              split at hk
              · rename_i hrow
                split at hk
                · rename_i b hb
                  obtain ⟨_, j, hj, _, _, _, heq⟩ := TabOk.get hT hti
                  have hg := (heq hok).1
                  have hrun := eqV_ok hT 20 9980 t xs ys b ti hti hb
                  simp only [valOf, hrow] at hrun
                  cases op <;> simp only at hk <;> first | exact hk.elim | skip
                  all_goals
                    refine ⟨_, hk, fun w h => ⟨rfl, ?_⟩⟩
                    have hdx := (h.ev_den hx).1
                    have hdy := (h.ev_den hy).1
                    simp only [SV.den, plainVals_eq hxs, plainVals_eq hys, map_den_v'] at hdx hdy
                    simp only [execOp, ho, hdx, hdy, Sem.run_bind, run_eqGuard_agg' _ _ _ _ _ _ hg, run_eql_struct, run_neq_struct, hrun w, Result.andThen_ok, Sem.run_pure, SV.den, C.den]
                · exact hk.elim
              · exact hk.elim
            · exact hk.elim
          · exact hk.elim
        · exact hk.elim
      · exact hk.elim
    · exact hk.elim
  · exact hk.elim

def xvUn (S : St) (op : UnOp) (x : Operand) (K : SV → Prop) : Prop := match S.ev x with
  | some (.c (.v (.bool p))) => (match op with
    | .not => K (.c (.v (.bool (!p))))
    | _ => False)
  | some (.c (.v (.int k p))) => (match op with
    | .neg => arP k (0 - p) fun r => K (.c (.v (.int k r)))
    | _ => False)
  | _ => False
theorem un_ok (e : Env) (a : Act) {o : Oper} {op : UnOp} {t : Nat} {x : Operand} {K : SV → Prop} (ho : o.op = .unOp op t x) (hk : xvUn S op x K) : Yv X e S a o K := by
  unfold xvUn at hk
  split at hk
  · rename_i p hx
    cases op <;> simp only at hk <;> first | exact hk.elim | skip
    refine ⟨_, hk, fun w h => ⟨rfl, ?_⟩⟩
    have hd := (h.ev_den hx).1
    simp only [SV.den, C.den] at hd
    simp [execOp, ho, hd, Op.unary, SV.den, C.den]
  · rename_i k p hx
    cases op <;> simp only at hk <;> first | exact hk.elim | skip
    refine ⟨_, ar_get hk, fun w h => ⟨rfl, ?_⟩⟩
    have hd := (h.ev_den hx).1
    simp only [SV.den, C.den] at hd
    simp [execOp, ho, hd, Op.unary, Op.intArith, SV.den, C.den]
  · exact hk.elim

def xvConv (X : Cx) (S : St) (src dst : Nat) (x : Operand) (K : SV → Prop) : Prop := match S.ev x with
  | some (.c (.v (.int _ p))) => (match get X.T src with
    | some _ => (match get X.T dst with
      | some td => (match td.d with
        | .int k => arP k p fun r => K (.c (.v (.int k r)))
        | _ => False)
      | none => False)
    | none => False)
  | _ => False
theorem conv_ok (hT : TabOk X.P X.T) (e : Env) (a : Act) {o : Oper} {src dst : Nat} {x : Operand} {K : SV → Prop} (ho : o.op = .convert src dst x) (hk : xvConv X S src dst x K) : Yv X e S a o K := by
  unfold xvConv at hk
  split at hk
  · rename_i k0 p hx
    split at hk
    · rename_i ts hts
      split at hk
      · rename_i td htd
        split at hk
        · rename_i k hkd
          have hus := (TabOk.get hT hts).1
          have hud := (TabOk.get hT htd).1
          rw [hkd] at hud
          refine ⟨_, ar_get hk, fun w h => ⟨rfl, ?_⟩⟩
          have hd := (h.ev_den hx).1
          simp only [SV.den, C.den] at hd
          simp [execOp, ho, hd, convert, run_underlying hus, run_underlying hud, Conv.intToInt, SV.den, C.den]
        · exact hk.elim
      · exact hk.elim
    · exact hk.elim
  · exact hk.elim

def xvExtract (S : St) (x : Operand) (i : Nat) (K : SV → Prop) : Prop := match S.ev x with
  | some (.tup vs) => (match vs[i]? with
    | some v => K v.sv
    | none => False)
  | _ => False
theorem V1.lt_sv {n : Nat} (x : V1) : x.sv.lt n = x.lt n := by cases x <;> rfl
theorem extract_ok (e : Env) (a : Act) {o : Oper} {x : Operand} {i : Nat} {K : SV → Prop} (ho : o.op = .extract x i) (hk : xvExtract S x i K) : Yv X e S a o K := by
  unfold xvExtract at hk
  split at hk
  · rename_i vs hx
    split at hk
    · rename_i v hv
      refine ⟨_, hk, fun w h => ?_⟩
      obtain ⟨hd, hl⟩ := h.ev_den hx
      refine ⟨by rw [V1.lt_sv]; exact ltAll1_mem hl v (List.mem_of_getElem? hv), ?_⟩
      simp only [SV.den] at hd
      simp [execOp, ho, hd, Instr.extract, hv, V1.den_sv]
    · exact hk.elim
  · exact hk.elim

/-! ### Elements of arrays -/
structure cellP (xs : List C) (o : Nat) (K : C → Prop) : Prop where
  out : ∃ c, xs[o]? = some c ∧ K c
structure partP (xs : List C) (o n : Nat) (K : List C → Prop) : Prop where
  out : ∃ cs, (xs.drop o).take n = cs ∧ cs.length = n ∧ K cs
theorem cell_of {xs : List C} {o : Nat} {K : C → Prop} (c : C) (hc : xs[o]? = some c) (h : K c) : cellP xs o K := by refine ⟨?_⟩; exact ⟨c, hc, h⟩
theorem cell_get {xs : List C} {o : Nat} {K : C → Prop} (h : cellP xs o K) : ∃ c, xs[o]? = some c ∧ K c := by replace h := h.out; exact h
theorem part_of {xs : List C} {o n : Nat} {K : List C → Prop} (cs : List C) (hc : (xs.drop o).take n = cs) (hl : cs.length = n) (h : K cs) : partP xs o n K := by refine ⟨?_⟩; exact ⟨cs, hc, hl, h⟩
theorem part_get {xs : List C} {o n : Nat} {K : List C → Prop} (h : partP xs o n K) : ∃ cs, (xs.drop o).take n = cs ∧ cs.length = n ∧ K cs := by replace h := h.out; exact h
def xvIndex (X : Cx) (S : St) (t : Nat) (x i : Operand) (K : SV → Prop) : Prop := match get X.T t with
  | some ti => (match ti.d with
    | .array len el => (match get X.T el with
      | some ei => (match S.ev x with
        | some (.agg cs) => (match S.ev i with
          | some (.c (.v (.int _ n))) => idxP n len fun j => (match rowB ei.d with
            | true => partP cs (j * ei.size) ei.size fun cs' => K (.agg cs')
            | false => cellP cs (j * ei.size) fun c => K (.c c))
          | _ => False)
        | _ => False)
      | none => False)
    | _ => False)
  | none => False
theorem index_ok (hT : TabOk X.P X.T) (e : Env) (a : Act) {o : Oper} {t : Nat} {x i : Operand} {K : SV → Prop} (ho : o.op = .index t x i) (hk : xvIndex X S t x i K) : Yv X e S a o K := by
  unfold xvIndex at hk
  split at hk
  · rename_i ti hti
    split at hk
    · rename_i len el hdd
      split at hk
      · rename_i ei hei
        split at hk
        · rename_i cs hx
          split at hk
          · rename_i ki n hi
            obtain ⟨hr, hk⟩ := idx_get hk
            have hu := (TabOk.get hT hti).1
            rw [hdd] at hu
            obtain ⟨hue, j, hj, _, hjs, _, _⟩ := TabOk.get hT hei
            split at hk
            · rename_i hrow
              obtain ⟨cs', hcs, hl, hK⟩ := part_get hk
              refine ⟨_, hK, fun w h => ?_⟩
              obtain ⟨hdx, hlx⟩ := h.ev_den hx
              have hdi := (h.ev_den hi).1
              simp only [SV.den, C.den] at hdx hdi
              refine ⟨by subst hcs; exact ltAll_drop_take hlx, ?_⟩
              have hext : ((cs.map (C.den e)).drop (n.toNat * ei.size)).take ei.size = cs'.map (C.den e) := by
                rw [← hcs, List.map_take, List.map_drop]
              simp [execOp, ho, hdx, hdi, Instr.index, asIntOf, run_underlying hu, hr, part, run_isAgg hue, hrow, run_sizeOf hj, hjs, hext, SV.den]
            · rename_i hrow
              obtain ⟨c, hc, hK⟩ := cell_get hk
              refine ⟨_, hK, fun w h => ?_⟩
              obtain ⟨hdx, hlx⟩ := h.ev_den hx
              have hdi := (h.ev_den hi).1
              simp only [SV.den, C.den] at hdx hdi
              refine ⟨ltAll_get hlx hc, ?_⟩
              simp [execOp, ho, hdx, hdi, Instr.index, asIntOf, run_underlying hu, hr, part, run_isAgg hue, hrow, run_sizeOf hj, hjs, hc, SV.den]
          · exact hk.elim
        · exact hk.elim
      · exact hk.elim
    · exact hk.elim
  · exact hk.elim

def xvField (X : Cx) (S : St) (t : Nat) (x : Operand) (f : Nat) (K : SV → Prop) : Prop := match xfield X t f with
  | some (off, fi) => (match S.ev x with
    | some (.agg cs) => loadCell fi cs off K
    | _ => False)
  | none => False
theorem field_ok (hT : TabOk X.P X.T) (e : Env) (a : Act) {o : Oper} {t f : Nat} {x : Operand} {K : SV → Prop} (ho : o.op = .field t x f) (hk : xvField X S t x f K) : Yv X e S a o K := by
  unfold xvField at hk
  split at hk
  · rename_i off fi hf
    obtain ⟨ti, fs, fd, hti, hdd, hfd, rfl, hfi⟩ := xfield_get hf
    have hu := (TabOk.get hT hti).1
    rw [hdd] at hu
    obtain ⟨hue, j, hj, _, hjs, _, _⟩ := TabOk.get hT hfi
    split at hk
    · rename_i cs hx
      unfold loadCell at hk
      split at hk
      · rename_i hrow
        split at hk
        · rename_i hle
          refine ⟨_, hk, fun w h => ?_⟩
          obtain ⟨hdx, hlx⟩ := h.ev_den hx
          simp only [SV.den] at hdx
          refine ⟨ltAll_drop_take hlx, ?_⟩
          simp [execOp, ho, hdx, Instr.field, asAgg, run_underlying hu, hfd, part, run_isAgg hue, hrow, run_sizeOf hj, hjs, SV.den]
        · exact hk.elim
      · rename_i hrow
        split at hk
        · rename_i c hc
          refine ⟨_, hk, fun w h => ?_⟩
          obtain ⟨hdx, hlx⟩ := h.ev_den hx
          simp only [SV.den] at hdx
          refine ⟨ltAll_get hlx hc, ?_⟩
          simp [execOp, ho, hdx, Instr.field, asAgg, run_underlying hu, hfd, part, run_isAgg hue, hrow, run_sizeOf hj, hjs, hc, SV.den]
        · exact hk.elim
    · exact hk.elim
  · exact hk.elim
def xvIndexAddr (X : Cx) (S : St) (t : Nat) (x i : Operand) (K : SV → Prop) : Prop := match get X.T t with
  | some ti => (match S.ev i with
    | some (.c (.v (.int _ n))) => (match ti.d with
      | .slice el => (match get X.T el with
        | some ei => (match S.ev x with
          | some (.c (.row k)) => (match get S.H k with
            | some (.row _ esz m _) => (match Nat.beq esz ei.size with
              | true => idxP n m fun j => K (.c (.ep k j 0))
              | false => False)
            | some (.ext esz m _) => (match Nat.beq esz ei.size with
              | true => idxP n m fun j => K (.c (.ep k j 0))
              | false => False)
            | _ => False)
          | some (.c (.sl k lo m)) => (match get S.H k with
            | some (.buf _ esz _ _) => (match Nat.beq esz ei.size with
              | true => idxP n m fun j => K (.c (.ep k (lo + j) 0))
              | false => False)
            | _ => False)
          | _ => False)
        | none => False)
      | .array len el => (match get X.T el with
        | some ei => (match S.ev x with
          | some (.c (.loc k o)) => idxP n len fun j => K (.c (.loc k (o + j * ei.size)))
          | some (.c (.ep k i o)) => idxP n len fun j => K (.c (.ep k i (o + j * ei.size)))
          | _ => False)
        | none => False)
      | _ => False)
    | _ => False)
  | none => False
theorem run_indexAt_slice {P : Program} {t el : TypeId} {j : TypeInfo} (hu : P.underlying t = some (.slice el)) (hj : P.info? el = some j) {p : Addr} {m c : Nat} {k : IntKind} {n : Int} (hr : 0 ≤ n ∧ n < m) (w : World) :
    (Instr.indexAt t (.slice (some p) m c) (.int k n)).run P w = .ok (.pointer (some (p.add (n.toNat * j.size)))) w := by
  simp [Instr.indexAt, asIntOf, run_underlying hu, run_sizeOf hj, hr]
theorem run_indexAt_array {P : Program} {t el : TypeId} {j : TypeInfo} {len : Nat} (hu : P.underlying t = some (.array len el)) (hj : P.info? el = some j) {p : Addr} {k : IntKind} {n : Int} (hr : 0 ≤ n ∧ n < len) (w : World) :
    (Instr.indexAt t (.pointer (some p)) (.int k n)).run P w = .ok (.pointer (some (p.add (n.toNat * j.size)))) w := by
  simp [Instr.indexAt, asIntOf, run_underlying hu, run_sizeOf hj, hr, Instr.sureAddr]
theorem indexAddr_slice_ok (hT : TabOk X.P X.T) (e : Env) (a : Act) {o : Oper} {t el : Nat} {x i : Operand} {K : SV → Prop} (ho : o.op = .indexAddr t x i) {ti ei : TI} (hti : get X.T t = some ti) (hdd : ti.d = .slice el) (hei : get X.T el = some ei) {ki : IntKind} {n : Int} (hi : S.ev i = some (.c (.v (.int ki n))))
    {k m : Nat} (hx : S.ev x = some (.c (.row k))) (hH : (∃ ety xs, get S.H k = some (.row ety ei.size m xs)) ∨ ∃ xs, get S.H k = some (.ext ei.size m xs)) (hk : idxP n m fun j => K (.c (.ep k j 0))) : Yv X e S a o K := by
  obtain ⟨hr, hk⟩ := idx_get hk
  have hu := (TabOk.get hT hti).1
  rw [hdd] at hu
  obtain ⟨_, j, hj, _, hjs, _, _⟩ := TabOk.get hT hei
  refine ⟨_, hk, fun w h => ?_⟩
  obtain ⟨hdx, hlx⟩ := h.ev_den hx
  have hdi := (h.ev_den hi).1
  obtain ⟨c, hv⟩ := row_value h (m := m) (by rcases hH with ⟨ety, xs, hH⟩ | ⟨xs, hH⟩; · exact .inl ⟨_, _, _, hH⟩
                                             · exact .inr ⟨_, _, hH⟩) (by omega)
  have hes : e.es k = ei.size := by rcases hH with ⟨ety, xs, hH⟩ | ⟨xs, hH⟩ <;> obtain ⟨F, hh⟩ := h.hp k _ hH <;> exact hh.2.1
  simp only [SV.den, C.den] at hdx hdi
  rw [hv] at hdx
  refine ⟨hlx, ?_⟩
  have hrun := run_indexAt_slice (p := e.ra k) (m := m) (c := c) (k := ki) hu hj hr w
  simp only [SV.den, C.den, Nat.add_zero]
  simp [execOp, ho, hdx, hdi, hrun, hes, hjs]
theorem indexAddr_arr_ok (_ : TabOk X.P X.T) (e : Env) (a : Act) {o : Oper} {t len : Nat} {x i : Operand} {K : SV → Prop} (ho : o.op = .indexAddr t x i) {j : TypeInfo} {z : Nat} (hjs : j.size = z) {ki : IntKind} {n : Int} (hi : S.ev i = some (.c (.v (.int ki n))))
    (hrun : ∀ p w, 0 ≤ n ∧ n < len → (Instr.indexAt t (.pointer (some p)) (.int ki n)).run X.P w = .ok (.pointer (some (p.add (n.toNat * j.size)))) w)
    (hk : match S.ev x with
      | some (.c (.loc k o)) => idxP n len fun j => K (.c (.loc k (o + j * z)))
      | some (.c (.ep k i o)) => idxP n len fun j => K (.c (.ep k i (o + j * z)))
      | _ => False) : Yv X e S a o K := by
  split at hk
  · rename_i k o' hx
    obtain ⟨hr, hk⟩ := idx_get hk
    refine ⟨_, hk, fun w h => ?_⟩
    have hdi := (h.ev_den hi).1
    simp only [SV.den, C.den] at hdi
    obtain ⟨hdx, hlx⟩ := h.ev_den hx
    refine ⟨hlx, ?_⟩
    have hrun := hrun ⟨e.ad k, o', none⟩ w hr
    rw [Addr.add_mid] at hrun
    simp only [SV.den, C.den] at hdx
    simp only [SV.den, C.den, ← hjs]
    simp [execOp, ho, hdx, hdi, hrun]
  · rename_i k i' o' hx
    obtain ⟨hr, hk⟩ := idx_get hk
    refine ⟨_, hk, fun w h => ?_⟩
    have hdi := (h.ev_den hi).1
    simp only [SV.den, C.den] at hdi
    obtain ⟨hdx, hlx⟩ := h.ev_den hx
    refine ⟨hlx, ?_⟩
    have hrun := hrun ((e.ra k).add (i' * e.es k + o')) w hr
    rw [addr_add, Nat.add_assoc] at hrun
    simp only [SV.den, C.den] at hdx
    simp only [SV.den, C.den, ← hjs]
    simp [execOp, ho, hdx, hdi, hrun]
  · exact hk.elim
theorem indexAddr_ok (hT : TabOk X.P X.T) (e : Env) (a : Act) {o : Oper} {t : Nat} {x i : Operand} {K : SV → Prop} (ho : o.op = .indexAddr t x i) (hk : xvIndexAddr X S t x i K) : Yv X e S a o K := by
  unfold xvIndexAddr at hk
  split at hk
  · rename_i ti hti
    split at hk
    · rename_i ki n hi
      split at hk
      · rename_i el hdd
        split at hk
        · rename_i ei hei
          split at hk
          · rename_i k hx
            split at hk
            · rename_i ety esz m xs hH
              split at hk
              · rename_i he
                have he := Nat.eq_of_beq_eq_true he
                subst he
                exact indexAddr_slice_ok hT e a ho hti hdd hei hi hx (.inl ⟨_, _, hH⟩) hk
              · exact hk.elim
            · rename_i esz m xs hH
              split at hk
              · rename_i he
                have he := Nat.eq_of_beq_eq_true he
                subst he
                exact indexAddr_slice_ok hT e a ho hti hdd hei hi hx (.inr ⟨_, hH⟩) hk
              · exact hk.elim
            · exact hk.elim
          · rename_i k lo m hx
            split at hk
            · rename_i ety esz cap xs hH
              split at hk
              · rename_i he
                have he := Nat.eq_of_beq_eq_true he
                obtain ⟨hr, hk⟩ := idx_get hk
                have hu := (TabOk.get hT hti).1
                rw [hdd] at hu
                obtain ⟨_, j, hj, _, hjs, _, _⟩ := TabOk.get hT hei
                refine ⟨_, hk, fun w h => ?_⟩
                obtain ⟨hdx, hlx⟩ := h.ev_den hx
                have hdi := (h.ev_den hi).1
                obtain ⟨F, hh⟩ := h.hp k _ hH
                have hes : e.es k = j.size := by rw [hh.2.1, he, hjs]
                simp only [SV.den, C.den] at hdx hdi
                refine ⟨hlx, ?_⟩
                have hrun := run_indexAt_slice (p := (e.ra k).add (lo * e.es k)) (m := m) (c := e.cp k - lo) (k := ki) hu hj hr w
                rw [addr_add, ← hes, ← Nat.add_mul] at hrun
                simp only [SV.den, C.den, Nat.add_zero]
                simp [execOp, ho, hdx, hdi, hrun]
              · exact hk.elim
            · exact hk.elim
          · exact hk.elim
        · exact hk.elim
      · rename_i len el hdd
        split at hk
        · rename_i ei hei
          have hu := (TabOk.get hT hti).1
          rw [hdd] at hu
          obtain ⟨_, j, hj, _, hjs, _, _⟩ := TabOk.get hT hei
          exact indexAddr_arr_ok hT e a ho hjs hi (fun p w hr => run_indexAt_array hu hj hr w) hk
        · exact hk.elim
      · exact hk.elim
    · exact hk.elim
  · exact hk.elim

/-! ### Lengths, the least and the greatest of two -/
def minI (x y : Int) : Int := if y < x then y else x
def maxI (x y : Int) : Int := if y > x then y else x
def sliceTB : TypeDesc → Bool
  | .slice _ => true
  | _ => false
theorem sliceTB_eq {d : TypeDesc} (h : sliceTB d = true) : ∃ el, d = .slice el := by cases d <;> first | exact ⟨_, rfl⟩ | cases h
def xvBuiltin (X : Cx) (S : St) (b : Builtin) (args : List Operand) (ts : List Nat) (K : SV → Prop) : Prop := match b, args, ts with
  | .len, [x], [t] => (match get X.T t with
    | some ti => (match sliceTB ti.d with
      | true => (match S.ev x with
        | some (.c (.row k)) => (match get S.H k with
          | some (.row _ _ n _) => K (.c (.v (.int .i64 n)))
          | some (.ext _ n _) => K (.c (.v (.int .i64 n)))
          | _ => False)
        | some (.c (.sl _ _ n)) => K (.c (.v (.int .i64 n)))
        | some (.c (.v (.slice _ n _))) => K (.c (.v (.int .i64 n)))
        | _ => False)
      | false => (match ti.d with
        | .array n _ => (match S.ev x with
          | some _ => K (.c (.v (.int .i64 n)))
          | none => False)
        | .string => (match S.ev x with
          | some (.c (.v (.string s))) => K (.c (.v (.int .i64 s.size)))
          | _ => False)
        | .map _ _ => (match S.ev x with
          | some (.c (.row k)) => (match get S.H k with
            | some (.mp es _) => K (.c (.v (.int .i64 es.length)))
            | _ => False)
          | _ => False)
        | _ => False))
    | none => False)
  | .cap, [x], [t] => (match get X.T t with
    | some ti => (match sliceTB ti.d with
      | true => (match S.ev x with
        | some (.c (.sl k lo _)) => (match get S.H k with
          | some (.buf _ _ cap _) => K (.c (.v (.int .i64 (cap - lo : Nat))))
          | _ => False)
        | some (.c (.v (.slice _ _ n))) => K (.c (.v (.int .i64 n)))
        | _ => False)
      | false => False)
    | none => False)
  | .min, [x, y], _ => (match S.ev x with
    | some (.c (.v (.int k p))) => (match S.ev y with
      | some (.c (.v (.int _ q))) => K (.c (.v (.int k (minI p q))))
      | _ => False)
    | _ => False)
  | .max, [x, y], _ => (match S.ev x with
    | some (.c (.v (.int k p))) => (match S.ev y with
      | some (.c (.v (.int _ q))) => K (.c (.v (.int k (maxI p q))))
      | _ => False)
    | _ => False)
  | _, _, _ => False
theorem run_len_slice {P : Program} {t el : TypeId} (hu : P.underlying t = some (.slice el)) (A : Option Addr) (n c ty : Nat) (w : World) : (Builtin.len_ #[t] ty #[.slice A n c]).run P w = .ok (.int .i64 n) w := by
  simp [Builtin.len_, run_underlying hu, goInt]
theorem builtin_ok (hT : TabOk X.P X.T) (e : Env) (a : Act) {o : Oper} {b : Builtin} {args : Array Operand} {ts : Array TypeId} {K : SV → Prop} (ho : o.op = .call { callee := .builtin b, args := args, argTypes := ts })
    (hk : xvBuiltin X S b args.toList ts.toList K) : Yv X e S a o K := by
  obtain ⟨args⟩ := args
  obtain ⟨ts⟩ := ts
  simp only at hk
  unfold xvBuiltin at hk
  split at hk
  · rename_i x t
    split at hk
    · rename_i ti hti
      have hu := (TabOk.get hT hti).1
      split at hk
      · rename_i hs
        obtain ⟨el, hel⟩ := sliceTB_eq hs
        rw [hel] at hu
        split at hk
        · rename_i k hx
          split at hk
          · rename_i ety esz n xs hH
            refine ⟨_, hk, fun w h => ⟨rfl, ?_⟩⟩
            have hdx := (h.ev_den hx).1
            simp only [SV.den, C.den] at hdx
            obtain ⟨A, c, hv, _⟩ := row_len h (.inl ⟨_, _, _, hH⟩)
            rw [hv] at hdx
            simp [execOp, ho, resolve, invoke, builtin, hdx, run_len_slice hu, SV.den, C.den]
          · rename_i esz n xs hH
            refine ⟨_, hk, fun w h => ⟨rfl, ?_⟩⟩
            have hdx := (h.ev_den hx).1
            simp only [SV.den, C.den] at hdx
            obtain ⟨A, c, hv, _⟩ := row_len h (.inr ⟨_, _, hH⟩)
            rw [hv] at hdx
            simp [execOp, ho, resolve, invoke, builtin, hdx, run_len_slice hu, SV.den, C.den]
          · exact hk.elim
        · rename_i k lo n hx
          refine ⟨_, hk, fun w h => ⟨rfl, ?_⟩⟩
          have hdx := (h.ev_den hx).1
          simp only [SV.den, C.den] at hdx
          simp [execOp, ho, resolve, invoke, builtin, hdx, run_len_slice hu, SV.den, C.den]
        · rename_i A n c hx
          refine ⟨_, hk, fun w h => ⟨rfl, ?_⟩⟩
          have hdx := (h.ev_den hx).1
          simp only [SV.den, C.den] at hdx
          simp [execOp, ho, resolve, invoke, builtin, hdx, run_len_slice hu, SV.den, C.den]
        · exact hk.elim
      · split at hk
        · rename_i n el hd
          rw [hd] at hu
          split at hk
          · exact ⟨_, hk, fun w h => ⟨rfl, by simp [execOp, ho, resolve, invoke, builtin, Builtin.len_, run_underlying hu, goInt, SV.den, C.den]⟩⟩
          · exact hk.elim
        · rename_i hd
          rw [hd] at hu
          split at hk
          · rename_i s hx
            refine ⟨_, hk, fun w h => ⟨rfl, ?_⟩⟩
            have hdx := (h.ev_den hx).1
            simp only [SV.den, C.den] at hdx
            simp [execOp, ho, resolve, invoke, builtin, hdx, Builtin.len_, run_underlying hu, goInt, SV.den, C.den]
          · exact hk.elim
        · rename_i kt et hd
          rw [hd] at hu
          split at hk
          · rename_i k hx
            split at hk
            · rename_i es q hH
              refine ⟨_, hk, fun w h => ⟨rfl, ?_⟩⟩
              have hdx := (h.ev_den hx).1
              obtain ⟨_, hrv, en, cl, hb, hen, _⟩ := h.hp k _ hH
              simp only [SV.den, C.den, hrv] at hdx
              have hl : en.size = es.length := by rw [← hen]; simp
              have hg : (getObj (e.ad k)).run X.P w = .ok (.map en cl) w := by simp [getObj, Sem.run, hb]
              simp [execOp, ho, resolve, invoke, builtin, hdx, Builtin.len_, run_underlying hu, hg, goInt, SV.den, C.den, hl]
            · exact hk.elim
          · exact hk.elim
        · exact hk.elim
    · exact hk.elim
  · rename_i x t
    split at hk
    · rename_i ti hti
      have hu := (TabOk.get hT hti).1
      split at hk
      · rename_i hs
        obtain ⟨el, hel⟩ := sliceTB_eq hs
        rw [hel] at hu
        split at hk
        · rename_i k lo n hx
          split at hk
          · rename_i ety esz cap xs hH
            refine ⟨_, hk, fun w h => ⟨rfl, ?_⟩⟩
            have hdx := (h.ev_den hx).1
            obtain ⟨F, hh⟩ := h.hp k _ hH
            simp only [SV.den, C.den, hh.2.2.1] at hdx
            simp [execOp, ho, resolve, invoke, builtin, hdx, Builtin.cap_, run_underlying hu, goInt, SV.den, C.den]
          · exact hk.elim
        · rename_i A m n hx
          refine ⟨_, hk, fun w h => ⟨rfl, ?_⟩⟩
          have hdx := (h.ev_den hx).1
          simp only [SV.den, C.den] at hdx
          simp [execOp, ho, resolve, invoke, builtin, hdx, Builtin.cap_, run_underlying hu, goInt, SV.den, C.den]
        · exact hk.elim
      · exact hk.elim
    · exact hk.elim
  · rename_i x y _
    split at hk
    · rename_i k p hx
      split at hk
      · rename_i k' q hy
        refine ⟨_, hk, fun w h => ⟨rfl, ?_⟩⟩
        have hdx := (h.ev_den hx).1
        have hdy := (h.ev_den hy).1
        simp only [SV.den, C.den] at hdx hdy
        simp [execOp, ho, resolve, invoke, builtin, hdx, hdy, Builtin.min_, Builtin.min2, SV.den, C.den, minI]
      · exact hk.elim
    · exact hk.elim
  · rename_i x y _
    split at hk
    · rename_i k p hx
      split at hk
      · rename_i k' q hy
        refine ⟨_, hk, fun w h => ⟨rfl, ?_⟩⟩
        have hdx := (h.ev_den hx).1
        have hdy := (h.ev_den hy).1
        simp only [SV.den, C.den] at hdx hdy
        simp [execOp, ho, resolve, invoke, builtin, hdx, hdy, Builtin.max_, Builtin.max2, SV.den, C.den, maxI]
      · exact hk.elim
    · exact hk.elim
  · exact hk.elim

/-! ### Literals of structs and arrays -/
def splice {α : Type} : List α → Nat → List α → List α
  | cs, _, [] => cs
  | cs, o, v :: r => splice (cs.set o v) (o + 1) r
def SV.list : SV → List C
  | .c x => [x]
  | .agg cs => cs
  | .tup _ => []
  | .un => []
def placeS (T : Tab) (d : TypeDesc) (i : Nat) : Option (Nat × Nat) := match d with
  | .struct fs => (match fs.toList[i]? with
    | some fd => (match get T fd.type with
      | some fi => some (fd.offset, fi.size)
      | none => none)
    | none => none)
  | .array _ el => (match get T el with
    | some ei => some (i * ei.size, ei.size)
    | none => none)
  | _ => none
def fillS (S : St) (place : Nat → Option (Nat × Nat)) : List C → List (Nat × Operand) → Option (List C)
  | cs, [] => some cs
  | cs, (i, x) :: r => match S.ev x with
    | some v => (match v with
      | .tup _ => none
      | .un => none
      | v => (match place i with
        | some (off, size) => (match Nat.beq v.list.length size with
          | true => (match Nat.ble (off + v.list.length) cs.length with
            | true => fillS S place (splice cs off v.list) r
            | false => none)
          | false => none)
        | none => none))
    | none => none
end
end Go.Proofs.Ytcjiaiojkciheaa.Sy
/-
  The symbolic executor, 4: literals of structs and arrays; operations that change the world: new variables, stores, slices of the call's own, append.
-/
namespace Go.Proofs.Ytcjiaiojkciheaa.Sy
open Go Go.RowKit
section
variable {X : Cx} {e : Env} {S : St} {a : Act} {w : World}

/-! ### Literals -/
theorem length_splice {α : Type} : ∀ (vs cs : List α) (o : Nat), (splice cs o vs).length = cs.length
  | [], _, _ => rfl
  | v :: r, cs, o => by rw [splice, length_splice r]; simp
theorem mem_splice {α : Type} : ∀ (vs cs : List α) (o : Nat) (x : α), x ∈ splice cs o vs → x ∈ cs ∨ x ∈ vs
  | [], _, _, x, h => .inl h
  | v :: r, cs, o, x, h => by
    rw [splice] at h
    rcases mem_splice r _ _ x h with h | h
    · rcases List.mem_or_eq_of_mem_set h with h | rfl
      · exact .inl h
      · exact .inr (by simp)
    · exact .inr (by simp [h])
theorem lt_splice {n : Nat} (vs cs : List C) (o : Nat) (h : ltAll n cs = true) (hv : ltAll n vs = true) : ltAll n (splice cs o vs) = true := ltAll_of fun c hc => by
  rcases mem_splice _ _ _ c hc with hc | hc
  · exact ltAll_mem h c hc
  · exact ltAll_mem hv c hc
theorem map_splice {α β : Type} (f : α → β) : ∀ (vs cs : List α) (o : Nat), (splice cs o vs).map f = splice (cs.map f) o (vs.map f)
  | [], _, _ => rfl
  | v :: r, cs, o => by rw [splice, map_splice f r, List.map_cons, splice, List.map_set]
theorem splice_app_left {α : Type} (y : List α) : ∀ (vs x : List α) (o : Nat), o + vs.length ≤ x.length → splice (x ++ y) o vs = splice x o vs ++ y
  | [], _, _, _ => rfl
  | v :: r, x, o, h => by
    simp only [List.length_cons] at h
    rw [splice, splice, List.set_append_left _ _ (by omega), splice_app_left y r _ _ (by simp; omega)]
theorem splice_app_right {α : Type} (x : List α) : ∀ (vs y : List α) (o : Nat), splice (x ++ y) (x.length + o) vs = x ++ splice y o vs
  | [], _, _ => rfl
  | v :: r, y, o => by
    rw [splice, splice, List.set_append_right _ _ (by omega), Nat.add_sub_cancel_left, Nat.add_assoc, splice_app_right x r]
theorem take_splice {α : Type} : ∀ (vs x : List α) (o m : Nat), (splice x o vs).take m = splice (x.take m) o vs
  | [], _, _, _ => rfl
  | v :: r, x, o, m => by rw [splice, splice, take_splice r, List.take_set]
/-- Within the list of all cells, within one element. -/
theorem splice_flat {α : Type} {sz : Nat} : ∀ {xs : List (List α)}, (∀ c ∈ xs, c.length = sz) → ∀ {i o : Nat} {c vs : List α}, xs[i]? = some c → o + vs.length ≤ c.length → splice xs.flatten (i * sz + o) vs = (xs.set i (splice c o vs)).flatten
  | [], _, i, o, c, vs, hc, _ => by simp at hc
  | x :: r, h, i, o, c, vs, hc, hl => by
    cases i with
    | zero =>
      simp only [List.getElem?_cons_zero, Option.some.injEq] at hc
      subst hc
      rw [List.flatten_cons, Nat.zero_mul, Nat.zero_add, splice_app_left _ _ _ _ hl, List.set_cons_zero, List.flatten_cons]
    | succ i =>
      rw [List.getElem?_cons_succ] at hc
      rw [List.flatten_cons, show (i + 1) * sz + o = x.length + (i * sz + o) by rw [h x (by simp), Nat.add_mul]; omega, splice_app_right, splice_flat (fun c hc => h c (by simp [hc])) hc hl, List.set_cons_succ, List.flatten_cons]
/-- Several elements, one behind another. -/
theorem splice_flats {α : Type} {sz : Nat} {xs : List (List α)} (h : ∀ c ∈ xs, c.length = sz) : ∀ (ys : List (List α)) (i : Nat), (∀ c ∈ ys, c.length = sz) → i + ys.length ≤ xs.length → splice xs.flatten (i * sz) ys.flatten = (xs.take i ++ ys ++ xs.drop (i + ys.length)).flatten := by
  intro ys i hy hl
  have h1 : xs = xs.take i ++ ((xs.drop i).take ys.length ++ xs.drop (i + ys.length)) := by
    rw [← List.drop_drop, List.take_append_drop, List.take_append_drop]
  have hs1 : ∀ c ∈ xs.take i, c.length = sz := fun c hc => h c (List.mem_of_mem_take hc)
  have hs2 : ∀ c ∈ (xs.drop i).take ys.length, c.length = sz := fun c hc => h c (List.mem_of_mem_drop (List.mem_of_mem_take hc))
  have l1 : (xs.take i).flatten.length = i * sz := by rw [flat_len hs1, List.length_take, Nat.min_eq_left (by omega)]
  have l2 : ((xs.drop i).take ys.length).flatten.length = ys.flatten.length := by rw [flat_len hs2, flat_len hy, List.length_take, List.length_drop, Nat.min_eq_left (by omega)]
  have over : ∀ (vs x : List α), vs.length = x.length → splice x 0 vs = vs := by
    intro vs
    have : ∀ (vs p x : List α), vs.length = x.length → splice (p ++ x) p.length vs = p ++ vs := by
      intro vs
      induction vs with
      | nil => intro p x hx; rw [List.eq_nil_of_length_eq_zero hx.symm]; rfl
      | cons v r ih =>
        intro p x hx
        cases x with
        | nil => cases hx
        | cons y x =>
          rw [splice, List.set_append_right _ _ (Nat.le_refl _), Nat.sub_self, List.set_cons_zero]
          have := ih (p ++ [v]) x (by simpa using hx)
          simp only [List.append_assoc, List.singleton_append, List.length_append, List.length_singleton] at this
          exact this
    intro x hx
    exact this vs [] x hx
  conv => lhs; rw [h1]
  rw [List.flatten_append, List.flatten_append, ← Nat.add_zero (i * sz), ← l1, splice_app_right, splice_app_left _ _ _ _ (by rw [l2]; omega), over _ _ l2.symm, List.append_assoc, List.flatten_append, List.flatten_append]
theorem splice_fold : ∀ (vs cs : List Value) (o : Nat), splice cs o vs = vs.zipIdx.foldl (fun cs (x : Value × Nat) => cs.set (o + x.2) x.1) cs
  | [], _, _ => rfl
  | v :: r, cs, o => by
    rw [splice, splice_fold r]
    simp only [List.zipIdx_cons, List.foldl_cons, Nat.add_zero]
    have : ∀ (l : List Value) (k : Nat) (c : List Value), (l.zipIdx k).foldl (fun (cs : List Value) (x : Value × Nat) => cs.set (o + 1 + x.2) x.1) c = (l.zipIdx (k + 1)).foldl (fun cs (x : Value × Nat) => cs.set (o + x.2) x.1) c := by
      intro l
      induction l with
      | nil => intro k c; rfl
      | cons y l ih =>
        intro k c
        simp only [List.zipIdx_cons, List.foldl_cons]
        rw [ih, show o + 1 + k = o + (k + 1) by omega]
    exact this _ 0 _
theorem foldl_toList (vs : List Value) (o : Nat) : ∀ (k : Nat) (c : Array Value), ((vs.zipIdx k).foldl (fun cs (x : Value × Nat) => cs.setIfInBounds (o + x.2) x.1) c).toList = (vs.zipIdx k).foldl (fun cs (x : Value × Nat) => cs.set (o + x.2) x.1) c.toList := by
  induction vs with
  | nil => intro k c; rfl
  | cons v r ih =>
    intro k c
    simp only [List.zipIdx_cons, List.foldl_cons]
    rw [ih]
    simp
def SV.plain : SV → Bool
  | .c _ => true
  | .agg _ => true
  | .tup _ => false
  | .un => false
theorem cells_den {n : Nat} (ho : ∀ k, (e.rv k).oneCell' = true) {v : SV} (hp : v.plain = true) (hl : v.lt n = true) : (v.den e).cells = (v.list.map (C.den e)).toArray := by
  cases v with
  | c x =>
    have := C.one_of (n := n) ho (c := x) hl
    simp only [SV.den, SV.list, List.map_cons, List.map_nil]
    cases hx : x.den e <;> first | rfl | (rw [hx] at this; cases this)
  | agg cs => rfl
  | tup vs => cases hp
  | un => cases hp
theorem SV.list_lt {n : Nat} {v : SV} (hl : v.lt n = true) : ltAll n v.list = true := by
  cases v with
  | c x => exact ltAll_of fun c hc => by rcases List.mem_singleton.1 hc with rfl; exact hl
  | agg cs => exact hl
  | tup vs => rfl
  | un => rfl
theorem fillS_ok (h : RepV X e S a w) {place placeP : Nat → Option (Nat × Nat)} (hpl : ∀ i p, place i = some p → placeP i = some p) : ∀ (parts : List (Nat × Operand)) (cs cs' : List C), ltAll S.nx cs = true → fillS S place cs parts = some cs' →
    ltAll S.nx cs' = true ∧ Instr.fill placeP (cs.map (C.den e)).toArray (parts.map fun (i, x) => (i, a.eval x)) = some (cs'.map (C.den e)).toArray
  | [], cs, cs', hl, hf => by
    simp only [fillS, Option.some.injEq] at hf
    subst hf
    exact ⟨hl, rfl⟩
  | (i, x) :: r, cs, cs', hl, hf => by
    simp only [fillS] at hf
    split at hf
    · rename_i v hv
      have key : v.plain = true → (match place i with
          | some (off, size) => (match Nat.beq v.list.length size with
            | true => (match Nat.ble (off + v.list.length) cs.length with
              | true => fillS S place (splice cs off v.list) r
              | false => none)
            | false => none)
          | none => none) = some cs' → ltAll S.nx cs' = true ∧ Instr.fill placeP (cs.map (C.den e)).toArray (((i, x) :: r).map fun (i, x) => (i, a.eval x)) = some (cs'.map (C.den e)).toArray := by
        intro hp hf
        split at hf
        · rename_i off size hpi
          split at hf
          · rename_i hsz
            split at hf
            · rename_i hle
              obtain ⟨hd, hlv⟩ := h.ev_den hv
              have hsz : v.list.length = size := Nat.eq_of_beq_eq_true hsz
              have hle : off + v.list.length ≤ cs.length := Nat.le_of_ble_eq_true hle
              obtain ⟨h1, h2⟩ := fillS_ok h hpl r _ _ (lt_splice _ _ _ hl (SV.list_lt hlv)) hf
              refine ⟨h1, ?_⟩
              rw [← h2]
              have hc := cells_den h.one hp hlv
              simp only [List.map_cons, hd, Instr.fill, hpl i _ hpi, hc]
              rw [if_neg (by simp; omega)]
              congr 1
              apply Array.ext'
              have hft := foldl_toList (v.list.map (C.den e)) off 0 (cs.map (C.den e)).toArray
              rw [map_splice, splice_fold, ← Array.foldl_toList, Array.toList_zipIdx]
              exact hft
            · cases hf
          · cases hf
        · cases hf
      cases v with
      | c y => exact key rfl hf
      | agg y => exact key rfl hf
      | tup y => cases hf
      | un => cases hf
    · cases hf
/-- All of a struct's places. -/
def placesS (T : Tab) : List Field → Option (List (Nat × Nat))
  | [] => some []
  | f :: r => (match get T f.type with
    | some fi => (match placesS T r with
      | some l => some ((f.offset, fi.size) :: l)
      | none => none)
    | none => none)
theorem run_places (hT : TabOk X.P X.T) (w : World) : ∀ (fs : List Field) (l : List (Nat × Nat)), placesS X.T fs = some l → (List.mapM (fun f : Field => Functor.map (Prod.mk f.offset) (sizeOf f.type)) fs).run X.P w = .ok l w
  | [], l, h => by
    simp only [placesS, Option.some.injEq] at h
    subst h
    simp
  | f :: r, l, h => by
    simp only [placesS] at h
    split at h
    · rename_i fi hfi
      split at h
      · rename_i l' hl'
        simp only [Option.some.injEq] at h
        subst h
        obtain ⟨_, j, hj, _, hjs, _, _⟩ := TabOk.get hT hfi
        simp [run_sizeOf hj, hjs, run_places hT w r l' hl']
      · cases h
    · cases h
theorem run_zeroValue {P : Program} {t : TypeId} {j : TypeInfo} {z : Value} (hi : P.info? t = some j) (hz : j.zero = some z) (w : World) : (zeroValue t).run P w = .ok z w := by
  simp [zeroValue, typeInfo, hi, hz]
def zeroS (z : Value) : List C := z.cells.toList.map C.v
theorem zeroS_den (e : Env) (z : Value) : (zeroS z).map (C.den e) = z.cells.toList := by
  simp only [zeroS, List.map_map]
  exact List.map_id _
theorem zeroS_lt {n : Nat} {z : Value} (h : z.cells.toList.all Value.oneCell' = true) : ltAll n (zeroS z) = true :=
  ltAll_v fun x hx => List.all_eq_true.1 h x hx
def xvBuild (X : Cx) (S : St) (t : Nat) (parts : List (Nat × Operand)) (K : SV → Prop) : Prop := match get X.T t with
  | some ti => (match ti.zero.cells.toList.all Value.oneCell' with
    | true => (match ti.d with
      | .struct fs => (match placesS X.T fs.toList with
        | some l => (match fillS S (fun i => l[i]?) (zeroS ti.zero) parts with
          | some cs => K (.agg cs)
          | none => False)
        | none => False)
      | .array _ el => (match get X.T el with
        | some ei => (match fillS S (fun i => some (i * ei.size, ei.size)) (zeroS ti.zero) parts with
          | some cs => K (.agg cs)
          | none => False)
        | none => False)
      | _ => False)
    | false => False)
  | none => False
theorem build_ok (hT : TabOk X.P X.T) (e : Env) (a : Act) {o : Oper} {t : Nat} {parts : Array (Nat × Operand)} {K : SV → Prop} (ho : o.op = .build t parts) (hk : xvBuild X S t parts.toList K) : Yv X e S a o K := by
  obtain ⟨parts⟩ := parts
  unfold xvBuild at hk
  split at hk
  · rename_i ti hti
    obtain ⟨hu, j, hj, hjz, hjs, _, _⟩ := TabOk.get hT hti
    split at hk
    · rename_i hz
      split at hk
      · rename_i fs hd
        rw [hd] at hu
        split at hk
        · rename_i l hl
          split at hk
          · rename_i cs hcs
            refine ⟨_, hk, fun w h => ?_⟩
            obtain ⟨h1, h2⟩ := fillS_ok h (placeP := fun i => l[i]?) (fun i p hp => hp) _ _ _ (zeroS_lt hz) hcs
            refine ⟨h1, ?_⟩
            rw [zeroS_den] at h2
            have hp := run_places hT w fs.toList l hl
            have hp2 : (Array.mapM (fun f : Field => Functor.map (Prod.mk f.offset) (sizeOf f.type)) fs).run X.P w = .ok l.toArray w := by
              rw [← Array.toArray_toList (xs := fs), List.mapM_toArray]
              simp [hp]
            simp only [Array.toArray_toList] at h2
            simp [execOp, ho, Instr.build, run_zeroValue hj hjz, run_underlying hu, hp2, h2, SV.den]
          · exact hk.elim
        · exact hk.elim
      · rename_i n el hd
        rw [hd] at hu
        split at hk
        · rename_i ei hei
          obtain ⟨_, je, hje, _, hjes, _, _⟩ := TabOk.get hT hei
          split at hk
          · rename_i cs hcs
            refine ⟨_, hk, fun w h => ?_⟩
            obtain ⟨h1, h2⟩ := fillS_ok h (placeP := fun i => some (i * ei.size, ei.size)) (fun i p hp => hp) _ _ _ (zeroS_lt hz) hcs
            refine ⟨h1, ?_⟩
            rw [zeroS_den] at h2
            simp only [Array.toArray_toList] at h2
            simp [execOp, ho, Instr.build, run_zeroValue hj hjz, run_underlying hu, run_sizeOf hje, hjes, h2, SV.den]
          · exact hk.elim
        · exact hk.elim
      · exact hk.elim
    · exact hk.elim
  · exact hk.elim

/-! ### What an operation does -/
theorem semAt_of {ro : Option Nat} {ρ : Operand → Value} {o : Oper} {P : Program} {w w' : World} {n : Next} (h : (execOp ρ o).run P w = .ok n w') (hn : ∀ d, n ≠ .defer d) : (Oper.semAt ro ρ o).run P w = .ok n w' := by
  rw [Oper.semAt_eq ro ρ o fun c hc => ?_]
  · exact h
  · simp only [execOp, hc, Sem.run_bind] at h
    generalize (resolve ρ c o.type).run P w = r at h
    cases r with
    | ok d w1 =>
      simp only [Result.andThen_ok, Sem.run_pure] at h
      injection h with h
      exact hn d h.symm
    | halt x w1 => cases h
/-- The operation is carried out, and what is known behind it satisfies K. -/
def Wv (X : Cx) (a : Act) (w : World) (o : Oper) (K : St → Prop) : Prop :=
  ∀ (KK : Act → World → Prop) (Q : Exit → Act → World → Prop), (∀ e' S' a' w', Rep X e' S' a' w' → K S' → KK a' w') → o.wpIn X.fen 0 X.P a w KK Q
theorem wpo_value {o : Oper} {v : Value} {w' : World} {KK : Act → World → Prop} {Q : Exit → Act → World → Prop} (hrun : (execOp a.eval o).run X.P w = .ok (.value v) w') (h : KK (a.put o.dst v) w') : o.wpIn X.fen 0 X.P a w KK Q := by
  refine ⟨fun f _ => fen_fn _ f, ?_⟩
  rw [semAt_of hrun (fun d hd => by cases hd)]
  exact h
theorem wpo_skip {o : Oper} {w' : World} {KK : Act → World → Prop} {Q : Exit → Act → World → Prop} (hrun : (execOp a.eval o).run X.P w = .ok .skip w') (h : KK (a.put o.dst undef) w') : o.wpIn X.fen 0 X.P a w KK Q := by
  refine ⟨fun f _ => fen_fn _ f, ?_⟩
  rw [semAt_of hrun (fun d hd => by cases hd)]
  exact h
theorem Yv.wv (h : Rep X e S a w) {o : Oper} (hd : dstOk X.nt o.dst = true) {K : St → Prop} (hy : Yv X e S a o fun v => K (S.put o.dst v)) : Wv X a w o K := by
  intro KK Q hKK
  obtain ⟨v, hK, hyv⟩ := hy
  obtain ⟨hl, hrun⟩ := hyv w h.v
  exact wpo_value hrun (hKK _ _ _ _ (h.put hd hl) hK)

theorem run_newVar' (P : Program) (t : TypeId) (v : Value) (w : World) : (newVar t v).run P w = .ok ⟨w.heap.size, 0, none⟩ (w.alloc (.cells v.cells t)) := rfl
theorem run_newRow' (P : Program) (t : TypeId) (cs : Array Value) (w : World) : (newRow t cs).run P w = .ok ⟨w.heap.size, 0, none⟩ (w.alloc (.cells cs t)) := rfl
/-- A new variable. -/
theorem new_ok (h : Rep X e S a w) {o : Oper} (hd : dstOk X.nt o.dst = true) {ty : Nat} {cs : List C} (hl : ltAll S.nx cs = true) {K : St → Prop} (hk : K ((S.new (.cells ty cs)).put o.dst (.c (.loc S.nx 0))))
    (hrun : (execOp a.eval o).run X.P w = .ok (.value (.pointer (some ⟨w.heap.size, 0, none⟩))) (w.alloc (.cells (cs.map (C.den e)).toArray ty))) : Wv X a w o K := by
  intro KK Q hKK
  refine wpo_value hrun ?_
  have hr := h.alloc ty cs hl
  have hp := hr.put (d := o.dst) (v := .c (.loc S.nx 0)) hd (blt_iff.2 (Nat.lt_succ_self _))
  simp only [SV.den, C.den, if_pos] at hp
  exact hKK _ _ _ _ hp hk
def xBox (S : St) (d : Option Nat) (t : Nat) (x : Operand) (K : St → Prop) : Prop := match S.ev x with
  | some v => (match v.plain with
    | true => K ((S.new (.cells t v.list)).put d (.c (.loc S.nx 0)))
    | false => False)
  | none => False
theorem box_ok (h : Rep X e S a w) {o : Oper} (hd : dstOk X.nt o.dst = true) {t : Nat} {x : Operand} {K : St → Prop} (ho : o.op = .box t x) (hk : xBox S o.dst t x K) : Wv X a w o K := by
  unfold xBox at hk
  split at hk
  · rename_i v hx
    split at hk
    · rename_i hp
      obtain ⟨hdx, hl⟩ := h.ev_den hx
      refine new_ok h hd (SV.list_lt hl) hk ?_
      have hc := cells_den h.one hp hl
      simp [execOp, ho, hdx, Instr.box, run_newVar', hc]
    · exact hk.elim
  · exact hk.elim
def xAlloc (X : Cx) (S : St) (d : Option Nat) (t : Nat) (K : St → Prop) : Prop := match get X.T t with
  | some ti => (match ti.zero.cells.toList.all Value.oneCell' with
    | true => K ((S.new (.cells t (zeroS ti.zero))).put d (.c (.loc S.nx 0)))
    | false => False)
  | none => False
theorem alloc_ok (hT : TabOk X.P X.T) (h : Rep X e S a w) {o : Oper} (hd : dstOk X.nt o.dst = true) {t : Nat} {K : St → Prop} (ho : o.op = .alloc t) (hk : xAlloc X S o.dst t K) : Wv X a w o K := by
  unfold xAlloc at hk
  split at hk
  · rename_i ti hti
    split at hk
    · rename_i hz
      obtain ⟨hu, j, hj, hjz, hjs, _, _⟩ := TabOk.get hT hti
      refine new_ok h hd (zeroS_lt hz) hk ?_
      rw [zeroS_den]
      simp [execOp, ho, Instr.alloc, run_zeroValue hj hjz, run_newVar']
    · exact hk.elim
  · exact hk.elim

/-! ### Functions with what they captured -/
def evsC (S : St) : List Operand → Option (List C)
  | [] => some []
  | x :: r => match S.ev x with
    | some (.c c) => (match evsC S r with
      | some l => some (c :: l)
      | none => none)
    | _ => none
theorem evsC_den (h : RepV X e S a w) : ∀ {xs : List Operand} {l : List C}, evsC S xs = some l → xs.map a.eval = l.map (C.den e) ∧ ltAll S.nx l = true
  | [], l, hl => by cases hl; exact ⟨rfl, rfl⟩
  | x :: r, l, hl => by
    simp only [evsC] at hl
    split at hl
    · rename_i v hv
      split at hl
      · rename_i l' hl'
        cases hl
        obtain ⟨h1, h2⟩ := evsC_den h hl'
        obtain ⟨h3, h4⟩ := h.ev_den hv
        refine ⟨by simp only [List.map_cons, h3, h1, SV.den], ltAll_of fun c hc => ?_⟩
        rcases List.mem_cons.1 hc with rfl | hc
        · exact h4
        · exact ltAll_mem h2 c hc
      · cases hl
    · cases hl
def xMakeFunc (S : St) (d : Option Nat) (fn : Fn) (first captured : List Operand) (K : St → Prop) : Prop := match fn with
  | .func f => (match first with
    | [] => (match evsC S captured with
      | some [] => K (S.put d (.c (.v (.func (.func f) #[] #[]))))
      | some cs => K ((S.new (.fn f cs)).put d (.c (.row S.nx)))
      | none => False)
    | _ => False)
  | _ => False
theorem makeFunc_ok (h : Rep X e S a w) {o : Oper} (hd : dstOk X.nt o.dst = true) {fn : Fn} {first captured : Array Operand} {K : St → Prop} (ho : o.op = .makeFunc fn first captured) (hk : xMakeFunc S o.dst fn first.toList captured.toList K) : Wv X a w o K := by
  intro KK Q hKK
  obtain ⟨first⟩ := first
  obtain ⟨captured⟩ := captured
  unfold xMakeFunc at hk
  split at hk
  · rename_i f
    split at hk
    · rename_i hf
      simp only at hf
      subst hf
      have run : ∀ l, evsC S captured = some l → (execOp a.eval o).run X.P w = .ok (.value (.func (.func f) #[] (l.map (C.den e)).toArray)) w := fun l hl => by
        obtain ⟨h1, _⟩ := evsC_den h.v hl
        simp [execOp, ho, Instr.makeFunc, h1]
      split at hk
      · rename_i hl
        exact wpo_value (run _ hl) (hKK _ _ _ _ (h.put (v := .c (.v (.func (.func f) #[] #[]))) hd rfl) hk)
      · rename_i cs _ hl
        have hR := h.newFn (f := f) (cs := cs) (evsC_den h.v hl).2
        have hp := hR.put (d := o.dst) (v := .c (.row S.nx)) hd (blt_iff.2 (Nat.lt_succ_self _))
        simp only [SV.den, C.den, Env.withRow_rv] at hp
        exact wpo_value (run _ hl) (hKK _ _ _ _ hp hk)
      · exact hk.elim
    · exact hk.elim
  · exact hk.elim

/-! ### Stores -/
theorem heap_setCells (g : Nat) (ty : TypeId) : ∀ (vs : List Value) (o : Nat) (w : World) (cs : List Value), w.heap[g]? = some (.cells cs.toArray ty (0, 0)) →
    (w.setCells g o vs).heap[g]? = some (.cells (splice cs o vs).toArray ty (0, 0))
  | [], o, w, cs, h => h
  | v :: r, o, w, cs, h => by
    have h1 := heap_setCell_same w g o cs.toArray ty v h
    rw [World.setCells, splice]
    exact heap_setCells g ty r (o + 1) (w.setCell ⟨g, o, none⟩ v) (cs.set o v) (by rw [h1]; simp)
theorem size_setCells (g : Nat) : ∀ (vs : List Value) (o : Nat) (w : World), (w.setCells g o vs).heap.size = w.heap.size
  | [], _, _ => rfl
  | v :: r, o, w => by rw [World.setCells, size_setCells g r]; simp [World.setCell]
theorem streams_setCells (g : Nat) : ∀ (vs : List Value) (o : Nat) (w : World), (w.setCells g o vs).os = w.os ∧ (w.setCells g o vs).tape = w.tape ∧ (w.setCells g o vs).output = w.output
  | [], _, _ => ⟨rfl, rfl, rfl⟩
  | v :: r, o, w => by rw [World.setCells]; exact streams_setCells g r (o + 1) _
theorem heap_setCells_far (g : Nat) {i : Nat} (hi : i ≠ g) : ∀ (vs : List Value) (o : Nat) (w : World), (w.setCells g o vs).heap[i]? = w.heap[i]?
  | [], _, _ => rfl
  | v :: r, o, w => by rw [World.setCells, heap_setCells_far g hi r]; exact heap_setCell_other w _ _ _ hi
theorem run_storeAt {P : Program} {t : TypeId} {j : TypeInfo} (hi : P.info? t = some j) {b o : Nat} {v : Value} {vs : List Value} (hv : v.cells = vs.toArray) (hs : vs.length = j.size) (ty : TypeId) (cs : List Value) {w : World} (hb : w.heap[b]? = some (.cells cs.toArray ty (0, 0)))
    (hle : o + vs.length ≤ cs.length) (h1 : ∀ u ∈ vs, u.oneCell' = true) : (Instr.storeAt t (.pointer (some ⟨b, o, none⟩)) v).run P w = .ok () (w.setCells b o vs) := by
  have hst := run_storeCells_cells (P := P) b o vs 0 w (fun k hk => by
    rw [cell_of_row w b _ cs.toArray ty (0, 0) hb]
    simp
    omega) (fun k hk => frozen_of_row w b _ cs.toArray ty hb) h1
  simp only [Nat.add_zero] at hst
  simp [Instr.storeAt, Instr.sureAddr, storeVar, hv, run_sizeOf hi, hs, hst]
/-- Entry k becomes b0: its block's cells are other ones. -/
theorem Rep.write (h : Rep X e S a w) {k g : Nat} {b b0 : Blk} (hk : get S.H k = some b) (hg : b.foot e k g) (hl0 : b0.lt S.nx) {o : Nat} {vs : List Value} (hfoot : ∀ x, b0.foot e k x → b.foot e k x) (hnew : b0.holds S.F X e k (w.setCells g o vs)) : Rep X e (S.setH k b0) a (w.setCells g o vs) := by
  have hst := streams_setCells g vs o w
  exact h.step (k0 := k) (b0 := b0) (Env.same.refl _ _) rfl (Nat.le_refl _) (h.hlt k _ hk).1 hl0 hst.1 hst.2.1 hst.2.2 (by rw [size_setCells]; exact Nat.le_refl _)
    (fun x hx => heap_setCells_far _ (fun e1 => by subst e1; exact h.not_kept hk hg hx) _ _ _) h.one hnew (fun x hx => h.not_kept hk (hfoot x hx))
def nsSet (k : Nat) (x : Option Nat × List Value) (o : Nat) (cs : List C) (K : Option Nat × List Value → Prop) : Prop := match o with
  | 0 => (match cs with
    | [.v (.pointer none)] => K (none, x.2)
    | [.ep j m 0] => (match Nat.beq j k with
      | true => K (some m, x.2)
      | false => False)
    | _ => False)
  | o + 1 => (match plainVals cs with
    | some vals => (match Nat.ble (o + cs.length) x.2.length with
      | true => K (x.1, splice x.2 o vals)
      | false => False)
    | none => False)
theorem splice_tail {α : Type} (c : α) : ∀ (vs x : List α) (o : Nat), splice (c :: x) (o + 1) vs = c :: splice x o vs
  | [], _, _ => rfl
  | v :: r, x, o => by rw [splice, splice, List.set_cons_succ, splice_tail c r]
theorem nsSet_get (e : Env) {k o n : Nat} {x : Option Nat × List Value} {cs : List C} {K : Option Nat × List Value → Prop} (h : nsSet k x o cs K) (hx : ∀ u ∈ x.2, u.oneCell' = true) (hc : ltAll n cs = true) :
    ∃ y, K y ∧ (∀ u ∈ y.2, u.oneCell' = true) ∧ o + cs.length ≤ (nsEl k x).length ∧ (nsEl k y).map (C.den e) = splice ((nsEl k x).map (C.den e)) o (cs.map (C.den e)) := by
  unfold nsSet at h
  split at h
  · split at h
    · exact ⟨_, h, hx, by simp [nsEl], by simp [nsEl, splice, C.den]⟩
    · split at h
      · rename_i j m hj
        have := Nat.eq_of_beq_eq_true hj
        subst this
        exact ⟨_, h, hx, by simp [nsEl], by simp [nsEl, splice, C.den]⟩
      · exact h.elim
    · exact h.elim
  · rename_i o
    split at h
    · rename_i vals hv
      split at h
      · rename_i hle
        have hle := Nat.le_of_ble_eq_true hle
        have hcs := plainVals_eq hv
        refine ⟨_, h, fun u hu => ?_, by simp [nsEl]; omega, ?_⟩
        · rcases mem_splice _ _ _ u hu with hu | hu
          · exact hx u hu
          · rw [hcs] at hc
            exact ltAll_mem hc (.v u) (List.mem_map_of_mem hu)
        · rw [hcs, map_den_v']
          show _ :: ((splice x.2 o vals).map C.v).map (C.den e) = splice (_ :: (x.2.map C.v).map (C.den e)) (o + 1) vals
          rw [splice_tail, map_den_v', map_den_v']
      · exact h.elim
    · exact h.elim
def storeEl (xs : Els) (i o : Nat) (cs : List C) (K : Els → Prop) : Prop := match xs with
  | .vs l => (match plainVals cs with
    | some vals => elP l i fun c => (match Nat.ble (o + cs.length) c.length with
      | true => K (.vs (l.set i (splice c o vals)))
      | false => False)
    | none => elP l i fun c => (match Nat.ble (o + cs.length) c.length with
      | true => K (.cs ((l.map fun c => c.map C.v).set i (splice (c.map C.v) o cs)))
      | false => False))
  | .cs l => elcP l i fun c => (match Nat.ble (o + cs.length) c.length with
    | true => K (.cs (l.set i (splice c o cs)))
    | false => False)
  | .ns k l => elnP l i fun x => nsSet k x o cs fun y => K (.ns k (l.set i y))
theorem storeEl_get (e : Env) {xs : Els} {i o n : Nat} {cs : List C} {K : Els → Prop} (h : storeEl xs i o cs K) (hl : xs.lt n) (hc : ltAll n cs = true) :
    ∃ (ys : Els) (c : List Value), K ys ∧ ys.lt n ∧ (xs.den e)[i]? = some c ∧ o + cs.length ≤ c.length ∧ ys.den e = (xs.den e).set i (splice c o (cs.map (C.den e))) := by
  cases xs with
  | vs l =>
    simp only [storeEl] at h
    split at h
    · rename_i vals hv
      obtain ⟨c, hci, h⟩ := el_get h
      split at h
      · rename_i hle
        have hcs := plainVals_eq hv
        refine ⟨_, c, h, fun d hd u hu => ?_, hci, Nat.le_of_ble_eq_true hle, by rw [hcs, map_den_v']; rfl⟩
        rcases List.mem_or_eq_of_mem_set hd with hd | rfl
        · exact hl d hd u hu
        · rcases mem_splice _ _ _ u hu with hu | hu
          · exact hl c (List.mem_of_getElem? hci) u hu
          · rw [hcs] at hc
            exact ltAll_mem hc (.v u) (List.mem_map_of_mem hu)
      · exact h.elim
    · obtain ⟨c, hci, h⟩ := el_get h
      split at h
      · rename_i hle
        refine ⟨_, c, h, fun d hd => ?_, hci, Nat.le_of_ble_eq_true hle, ?_⟩
        · rcases List.mem_or_eq_of_mem_set hd with hd | rfl
          · obtain ⟨d', hd', rfl⟩ := List.mem_map.1 hd
            exact ltAll_v (hl d' hd')
          · exact lt_splice _ _ _ (ltAll_v (hl c (List.mem_of_getElem? hci))) hc
        · simp only [Els.den, List.map_set, List.map_map, map_splice]
          congr 1
          · exact (List.map_congr_left fun c _ => show (c.map C.v).map (C.den e) = c from map_den_v' e c).trans (List.map_id' l)
          · rw [← List.map_map, map_den_v']
      · exact h.elim
  | cs l =>
    obtain ⟨c, hci, h⟩ := elc_get h
    split at h
    · rename_i hle
      refine ⟨_, c.map (C.den e), h, fun d hd => ?_, ?_, by rw [List.length_map]; exact Nat.le_of_ble_eq_true hle, ?_⟩
      · rcases List.mem_or_eq_of_mem_set hd with hd | rfl
        · exact hl d hd
        · exact lt_splice _ _ _ (hl c (List.mem_of_getElem? hci)) hc
      · simp [Els.den, hci]
      · simp only [Els.den, List.map_set, map_splice]
    · exact h.elim
  | ns k l =>
    obtain ⟨x, hci, h⟩ := eln_get h
    obtain ⟨y, hy, h1, h2, h3⟩ := nsSet_get e h (hl.2 x (List.mem_of_getElem? hci)) hc
    refine ⟨_, (nsEl k x).map (C.den e), hy, ⟨hl.1, fun z hz => ?_⟩, ?_, by rw [List.length_map]; exact h2, ?_⟩
    · rcases List.mem_or_eq_of_mem_set hz with hz | rfl
      · exact hl.2 z hz
      · exact h1
    · simp [Els.den, hci]
    · simp only [Els.den, List.map_set, h3]
theorem set_szs {α : Type} {sz : Nat} {xs : List (List α)} (h : ∀ c ∈ xs, c.length = sz) {i : Nat} {c : List α} (hc : xs[i]? = some c) (o : Nat) (vs : List α) : ∀ d ∈ xs.set i (splice c o vs), d.length = sz := fun d hd => by
  rcases List.mem_or_eq_of_mem_set hd with hd | rfl
  · exact h d hd
  · rw [length_splice]; exact h c (List.mem_of_getElem? hc)
/-- A row's cells are other ones. -/
theorem OwnB.setEl {ety esz g cap i o : Nat} {xs : List (List Value)} {c vs : List Value} (h : OwnB w ety esz g cap xs) (hc : xs[i]? = some c) (hl : o + vs.length ≤ c.length) (hv1 : ∀ u ∈ vs, u.oneCell' = true) :
    OwnB (w.setCells g (i * esz + o) vs) ety esz g cap (xs.set i (splice c o vs)) ∧ (∃ cur : List Value, w.heap[g]? = some (.cells cur.toArray ety (0, 0)) ∧ i * esz + o + vs.length ≤ cur.length) := by
  obtain ⟨h1, h2, h3, h4, cur, h5, h6, h7, h8⟩ := h
  have h5' : w.heap[g]? = some (.cells cur.toList.toArray ety (0, 0)) := by simpa using h5
  have hi : i < xs.length := (List.getElem?_eq_some_iff.1 hc).1
  have hce := h1 c (List.mem_of_getElem? hc)
  refine ⟨⟨set_szs h1 hc o vs, by simpa using h2, h3, h4, _, heap_setCells g ety vs _ w _ h5', by simp [length_splice, h6], ?_, fun u hu => ?_⟩, _, h5', ?_⟩
  · rw [List.length_set, take_splice, h7]
    exact splice_flat h1 hc hl
  · rcases mem_splice _ _ _ u hu with hu | hu
    · exact h8 u hu
    · exact hv1 u hu
  · have : (i + 1) * esz ≤ cap * esz := Nat.mul_le_mul_right _ (by omega)
    rw [Nat.add_mul, Nat.one_mul] at this
    simp
    omega
def xStore (X : Cx) (S : St) (d : Option Nat) (t : Nat) (p x : Operand) (K : St → Prop) : Prop := match get X.T t with
  | some ti => (match S.ev x with
    | some v => (match v.plain with
      | true => (match Nat.beq v.list.length ti.size with
        | true => (match S.ev p with
          | some (.c (.loc k o)) => (match get S.H k with
            | some (.cells ty cs) => (match Nat.ble (o + v.list.length) cs.length with
              | true => K ((S.setH k (.cells ty (splice cs o v.list))).put d .un)
              | false => False)
            | _ => False)
          | some (.c (.ep k i o)) => (match get S.H k with
            | some (.row ety esz n xs) => storeEl xs i o v.list fun ys => K ((S.setH k (.row ety esz n ys)).put d .un)
            | some (.buf ety esz cap xs) => storeEl xs i o v.list fun ys => K ((S.setH k (.buf ety esz cap ys)).put d .un)
            | _ => False)
          | _ => False)
        | false => False)
      | false => False)
    | none => False)
  | none => False
theorem store_ok (hT : TabOk X.P X.T) (h : Rep X e S a w) {o : Oper} (hd : dstOk X.nt o.dst = true) {t : Nat} {p x : Operand} {K : St → Prop} (ho : o.op = .store t p x) (hk : xStore X S o.dst t p x K) : Wv X a w o K := by
  intro KK Q hKK
  unfold xStore at hk
  split at hk
  · rename_i ti hti
    obtain ⟨hu, j, hj, hjz, hjs, _, _⟩ := TabOk.get hT hti
    split at hk
    · rename_i v hx
      split at hk
      · rename_i hp
        split at hk
        · rename_i hsz
          have hsz : v.list.length = ti.size := Nat.eq_of_beq_eq_true hsz
          obtain ⟨hdx, hl⟩ := h.ev_den hx
          have hll := SV.list_lt hl
          have hc := cells_den h.one hp hl
          have h1 : ∀ u ∈ v.list.map (C.den e), u.oneCell' = true := fun u hu => by
            obtain ⟨c, hc, rfl⟩ := List.mem_map.1 hu
            exact C.one_of h.one (ltAll_mem hll c hc)
          split at hk
          · rename_i k o' hpp
            have hdp := (h.ev_den hpp).1
            simp only [SV.den, C.den] at hdp
            split at hk
            · rename_i ty cs hH
              split at hk
              · rename_i hle
                have hle : o' + v.list.length ≤ cs.length := Nat.le_of_ble_eq_true hle
                have hb : w.heap[e.ad k]? = some (.cells (cs.map (C.den e)).toArray ty (0, 0)) := h.hp k _ hH
                have hrun := run_storeAt (o := o') hj hc (by simpa [hjs] using hsz) ty _ hb (by simpa using hle) h1
                refine wpo_skip (show (execOp a.eval o).run X.P w = .ok .skip (w.setCells (e.ad k) o' (v.list.map (C.den e))) by simp [execOp, ho, hdx, hdp, hrun]) ?_
                have hr := h.write (o := o') (vs := v.list.map (C.den e)) hH (b0 := .cells ty (splice cs o' v.list)) (g := e.ad k) rfl (lt_splice _ _ _ (h.hlt k _ hH).2 hll) (fun _ hx => hx) (by
                  show (w.setCells (e.ad k) o' (v.list.map (C.den e))).heap[e.ad k]? = some (.cells ((splice cs o' v.list).map (C.den e)).toArray ty (0, 0))
                  rw [map_splice]
                  exact heap_setCells _ _ _ _ _ _ hb)
                exact hKK _ _ _ _ (hr.put hd rfl) hk
              · exact hk.elim
            · exact hk.elim
          · rename_i k i o' hpp
            have hdp := (h.ev_den hpp).1
            simp only [SV.den, C.den] at hdp
            have main : ∀ (g ety cap : Nat) (c : List Value) (ys xs : Els) (b b0 : Blk), get S.H k = some b → b.foot e k g → b0.lt S.nx → (∀ x, b0.foot e k x → b.foot e k x) → e.ra k = ⟨g, 0, none⟩ → OwnB w ety (e.es k) g cap (xs.den e) → (xs.den e)[i]? = some c → o' + v.list.length ≤ c.length → ys.den e = (xs.den e).set i (splice c o' (v.list.map (C.den e))) →
                (∀ w', OwnB w' ety (e.es k) g cap (ys.den e) → b0.holds S.F X e k w') → K ((S.setH k b0).put o.dst .un) → o.wpIn X.fen 0 X.P a w KK Q := by
              intro g ety cap c ys xs b b0 hH hfoot hlt0 hff hra hown hci hlc hys hnew hK
              obtain ⟨hown', cur, hcur, hle⟩ := hown.setEl (o := o') (vs := v.list.map (C.den e)) hci (by simpa using hlc) h1
              rw [hra, addr_mid] at hdp
              have hrun := run_storeAt (o := i * e.es k + o') hj hc (by simpa [hjs] using hsz) ety _ hcur hle h1
              refine wpo_skip (show (execOp a.eval o).run X.P w = .ok .skip (w.setCells g (i * e.es k + o') (v.list.map (C.den e))) by simp [execOp, ho, hdx, hdp, hrun]) ?_
              rw [← hys] at hown'
              exact hKK _ _ _ _ ((h.write hH hfoot hlt0 hff (hnew _ hown')).put hd rfl) hK
            split at hk
            · rename_i ety esz n xs hH
              obtain ⟨ys, c, hK, hylt, hci, hlc, hys⟩ := storeEl_get e hk (h.hlt k _ hH).2 hll
              obtain ⟨hown, hes, hra⟩ := h.hp k _ hH
              subst hes
              rcases hown.2.2 with ⟨A, hv, hn⟩ | ⟨g, cap, hv, hb⟩
              · have := (List.getElem?_eq_some_iff.1 hci).1
                rw [hown.1] at this
                omega
              · refine main g ety cap c ys xs _ (.row ety (e.es k) n ys) hH ⟨_, _, _, hv, hb.2.2.2.1, rfl⟩ hylt (fun x hx => hx) (hra _ _ _ hv) hb hci hlc hys (fun w' hw' => ⟨⟨?_, hw'.1, .inr ⟨g, cap, hv, hw'⟩⟩, rfl, hra⟩) hK
                rw [hys, List.length_set]; exact hown.1
            · rename_i ety esz cap xs hH
              obtain ⟨ys, c, hK, hylt, hci, hlc, hys⟩ := storeEl_get e hk (h.hlt k _ hH).2 hll
              obtain ⟨hown, hes, hcp, hra⟩ := h.hp k _ hH
              subst hes
              exact main (e.ad k) ety cap c ys xs _ (.buf ety (e.es k) cap ys) hH rfl hylt (fun x hx => hx) hra hown hci hlc hys (fun w' hw' => ⟨hw', rfl, hcp, hra⟩) hK
            · exact hk.elim
          · exact hk.elim
        · exact hk.elim
      · exact hk.elim
    · exact hk.elim
  · exact hk.elim
end
end Go.Proofs.Ytcjiaiojkciheaa.Sy
