/-
  The symbolic executor, 3: the other operations that yield a value and leave the world as it is: arithmetic, parts of arrays and tuples, addresses of elements, literals.
-/
import Derived.Test.YteldohidnepaoaaSy2
namespace Go.Proofs.Yteldohidnepaoaa.Sy
open Go Go.RowKit
section
variable {X : Cx} {e : Env} {S : St} {a : Act} {w : World}

/-! ### Two operands -/
def kindB : IntKind → IntKind → Bool
  | .i8, .i8 | .i16, .i16 | .i32, .i32 | .i64, .i64 | .u8, .u8 | .u16, .u16 | .u32, .u32 | .u64, .u64 => true
  | _, _ => false
theorem kindB_eq {k k' : IntKind} (h : kindB k k' = true) : k = k' := by cases k <;> cases k' <;> first | rfl | cases h
structure divP (k : IntKind) (x y : Int) (K : Int → Prop) : Prop where
  out : y ≠ 0 ∧ K (k.wrap (x.tdiv y))
structure remP (x y : Int) (K : Int → Prop) : Prop where
  out : y ≠ 0 ∧ K (x.tmod y)
theorem div_of {k : IntKind} {x y : Int} {K : Int → Prop} (hy : y ≠ 0) (h : K (k.wrap (x.tdiv y))) : divP k x y K := by refine ⟨?_⟩; exact ⟨hy, h⟩
theorem rem_of {x y : Int} {K : Int → Prop} (hy : y ≠ 0) (h : K (x.tmod y)) : remP x y K := by refine ⟨?_⟩; exact ⟨hy, h⟩
theorem div_in {x y : Int} {K : Int → Prop} (hx : 0 ≤ x ∧ x ≤ 9223372036854775807) (hy : 1 ≤ y) (h : K (x / y)) : divP .i64 x y K := by
  refine div_of (by omega) ?_
  have h1 : x.tdiv y = x / y := Int.tdiv_eq_ediv_of_nonneg hx.1
  have h2 : 0 ≤ x / y := Int.ediv_nonneg hx.1 (by omega)
  have h3 : x / y ≤ x := Int.ediv_le_self _ hx.1
  have h4 : IntKind.i64.wrap (x / y) = x / y := by rw [IntKind.wrap_i64]; omega
  rw [h1, h4]; exact h
theorem rem_in {x y : Int} {K : Int → Prop} (hx : 0 ≤ x) (hy : 1 ≤ y) (h : K (x % y)) : remP x y K := by
  refine rem_of (by omega) ?_
  rw [Int.tmod_eq_emod_of_nonneg hx]; exact h
def binInt (op : BinOp) (k : IntKind) (x y : Int) (K : SV → Prop) : Prop := match op with
  | .add => arP k (x + y) fun r => K (.c (.v (.int k r)))
  | .sub => arP k (x - y) fun r => K (.c (.v (.int k r)))
  | .mul => arP k (x * y) fun r => K (.c (.v (.int k r)))
  | .quo => divP k x y fun r => K (.c (.v (.int k r)))
  | .rem => remP x y fun r => K (.c (.v (.int k r)))
  | .and => K (.c (.v (.int k (k.wrap ((BitVec.ofInt k.bits x &&& BitVec.ofInt k.bits y).toNat : Int)))))
  | .or => K (.c (.v (.int k (k.wrap ((BitVec.ofInt k.bits x ||| BitVec.ofInt k.bits y).toNat : Int)))))
  | .xor => K (.c (.v (.int k (k.wrap ((BitVec.ofInt k.bits x ^^^ BitVec.ofInt k.bits y).toNat : Int)))))
  | .eql => K (.c (.v (.bool (x == y))))
  | .neq => K (.c (.v (.bool (x != y))))
  | .lss => K (.c (.v (.bool (decide (x < y)))))
  | .leq => K (.c (.v (.bool (decide (x ≤ y)))))
  | .gtr => K (.c (.v (.bool (decide (y < x)))))
  | .geq => K (.c (.v (.bool (decide (y ≤ x)))))
  | _ => False
theorem binInt_ok {op : BinOp} {k : IntKind} {x y : Int} {K : SV → Prop} (h : binInt op k x y K) (P : Program) (t : TypeId) :
    ∃ u : Value, K (.c (.v u)) ∧ u.oneCell' = true ∧ ∀ w, (binOp op t (.int k x) (.int k y)).run P w = .ok u w := by
  cases op <;> simp only [binInt] at h
  case add => exact ⟨_, ar_get h, rfl, fun w => by simp [binOp, Op.intArith]⟩
  case sub => exact ⟨_, ar_get h, rfl, fun w => by simp [binOp, Op.intArith]⟩
  case mul => exact ⟨_, ar_get h, rfl, fun w => by simp [binOp, Op.intArith]⟩
  case quo => replace h := h.out; exact ⟨_, h.2, rfl, fun w => by simp [binOp, Op.intDiv, h.1]⟩
  case rem => replace h := h.out; exact ⟨_, h.2, rfl, fun w => by simp [binOp, Op.intDiv, h.1]⟩
  case and => exact ⟨_, h, rfl, fun w => by simp [binOp, Op.intBits]⟩
  case or => exact ⟨_, h, rfl, fun w => by simp [binOp, Op.intBits]⟩
  case xor => exact ⟨_, h, rfl, fun w => by simp [binOp, Op.intBits]⟩
  case eql => exact ⟨_, h, rfl, fun w => by simp [binOp, Op.intCmp]⟩
  case neq => exact ⟨_, h, rfl, fun w => by simp [binOp, Op.intCmp]⟩
  case lss => exact ⟨_, h, rfl, fun w => by simp [binOp, Op.intCmp]⟩
  case leq => exact ⟨_, h, rfl, fun w => by simp [binOp, Op.intCmp]⟩
  case gtr => exact ⟨_, h, rfl, fun w => by simp [binOp, Op.intCmp]⟩
  case geq => exact ⟨_, h, rfl, fun w => by simp [binOp, Op.intCmp]⟩
  all_goals exact h.elim
def boolTB : TypeDesc → Bool
  | .bool => true
  | _ => false
theorem boolTB_eq {d : TypeDesc} (h : boolTB d = true) : d = .bool := by cases d <;> first | rfl | cases h
def plainVals : List C → Option (List Value)
  | [] => some []
  | .v x :: r => (match plainVals r with | some l => some (x :: l) | none => none)
  | _ => none
theorem plainVals_eq : ∀ {cs : List C} {xs : List Value}, plainVals cs = some xs → cs = xs.map C.v
  | [], xs, h => by simp only [plainVals, Option.some.injEq] at h; subst h; rfl
  | .v x :: r, xs, h => by
    simp only [plainVals] at h
    split at h
    · rename_i l hl
      simp only [Option.some.injEq] at h
      subst h
      rw [plainVals_eq hl]; rfl
    · cases h
  | .loc _ _ :: _, xs, h => by simp [plainVals] at h
  | .row _ :: _, xs, h => by simp [plainVals] at h
  | .ep _ _ _ :: _, xs, h => by simp [plainVals] at h
  | .sl _ _ _ :: _, xs, h => by simp [plainVals] at h
theorem map_den_v' (e : Env) (xs : List Value) : (xs.map C.v).map (C.den e) = xs := by
  rw [List.map_map]
  exact (List.map_congr_left fun x _ => rfl).trans (List.map_id' xs)
/-- Are two values of type t, each by its cells, the same? -/
def eqFs (T : Tab) (rec : Nat → List Value → List Value → Option Bool) : List Field → List Value → List Value → Option Bool
  | [], _, _ => some true
  | f :: r, xs, ys => (match get T f.type with
    | some fi => (match Nat.ble (f.offset + fi.size) xs.length with
      | true => (match Nat.ble (f.offset + fi.size) ys.length with
        | true => (match rec f.type ((xs.drop f.offset).take fi.size) ((ys.drop f.offset).take fi.size) with
          | some b => (match r with
            | [] => some b
            | r => (match eqFs T rec r xs ys with
              | some b' => some (b && b')
              | none => none))
          | none => none)
        | false => none)
      | false => none)
    | none => none)
def eqV (T : Tab) : Nat → Nat → List Value → List Value → Option Bool
  | 0, _, _, _ => none
  | d + 1, t, xs, ys => (match get T t with
    | some ti => (match ti.d with
      | .int _ => (match xs, ys with
        | [.int k a], [.int k' b] => (match kindB k k' with | true => some (a == b) | false => none)
        | _, _ => none)
      | .bool => (match xs, ys with
        | [.bool a], [.bool b] => some (a == b)
        | _, _ => none)
      | .string => (match xs, ys with
        | [.string a], [.string b] => some (a.toList == b.toList)
        | _, _ => none)
      | .struct fs => (match ti.eqok with
        | true => eqFs T (eqV T d) fs.toList xs ys
        | false => none)
      | _ => none)
    | none => none)
def valOf (d : TypeDesc) (xs : List Value) : Value := match rowB d with
  | true => .agg xs.toArray
  | false => xs.headD undef
theorem run_part {P : Program} {t : TypeId} {d : TypeDesc} {j : TypeInfo} (hu : P.underlying t = some d) (hi : P.info? t = some j) {xs : List Value} {o : Nat} (h1 : rowB d = false → j.size = 1) (hle : o + j.size ≤ xs.length) (w : World) :
    (part t xs.toArray o).run P w = .ok (valOf d ((xs.drop o).take j.size)) w := by
  cases hr : rowB d with
  | true => simp [part, run_isAgg hu, hr, run_sizeOf hi, valOf]
  | false =>
    have h1 := h1 hr
    rw [h1] at hle ⊢
    have ho : o < xs.length := by omega
    have : (xs.drop o).take 1 = [xs[o]] := by
      rw [List.drop_eq_getElem_cons ho]; rfl
    simp [part, run_isAgg hu, hr, valOf, this, ho]
theorem run_eqGuard_agg' {P : Program} (op : BinOp) (t : TypeId) (x y : Operand) (xs ys : Array Value) (hm : P.eqGuardType P.depth t = false) (w : World) : (eqGuard op t x y (.agg xs) (.agg ys)).run P w = .ok () w := run_eqGuard_agg w op t x y xs ys hm
theorem eqV_ok {P : Program} {T : Tab} (hT : TabOk P T) : ∀ (d m t : Nat) (xs ys : List Value) (b : Bool) (ti : TI), get T t = some ti → eqV T d t xs ys = some b → ∀ w, (Op.equalIn (d + m) t (valOf ti.d xs) (valOf ti.d ys)).run P w = .ok b w
  | 0, _, _, _, _, _, _, _, h, _ => by unfold eqV at h; cases h
  | d + 1, m, t, xs, ys, b, ti, hti, h, w => by
    obtain ⟨hu, j, hj, _, _, _, heq⟩ := TabOk.get hT hti
    unfold eqV at h
    rw [hti] at h
    simp only at h
    rw [show d + 1 + m = (d + m) + 1 by omega]
    split at h
    · rename_i k hd
      rw [hd] at hu
      split at h
      · rename_i k1 a k2 c
        split at h
        · rename_i hk
          have := kindB_eq hk
          subst this
          simp only [Option.some.injEq] at h
          subst h
          simp only [valOf, hd, rowB, List.headD_cons]
          exact run_equalIn_int _ _ _ _ _ _ _ hu
        · cases h
      · cases h
    · rename_i hd
      rw [hd] at hu
      split at h
      · simp only [Option.some.injEq] at h
        subst h
        simp only [valOf, hd, rowB, List.headD_cons]
        exact run_equalIn_bool' _ _ _ _ _ hu
      · cases h
    · rename_i hd
      rw [hd] at hu
      split at h
      · simp only [Option.some.injEq] at h
        subst h
        simp only [valOf, hd, rowB, List.headD_cons]
        exact run_equalIn_string _ _ _ _ _ hu
      · cases h
    · rename_i fs hd
      split at h
      · rename_i hok
        obtain ⟨_, hst, hnm⟩ := heq hok
        have hf : P.fieldsOf t = fs := by unfold Program.fieldsOf; rw [hu, hd]
        have hu2 : P.underlying t = some (.struct (P.fieldsOf t)) := by rw [hf, hu, hd]
        have hnm2 : ∀ f ∈ fs.toList, f.name ≠ "_" := by
          intro f hm hn
          rw [hf] at hnm
          have := List.all_eq_true.1 hnm f hm
          simp [hn] at this
        simp only [valOf, hd, rowB]
        rw [run_equalIn_agg w _ t _ _ hu2 hst, hf]
        clear hnm hf hu2 hst hok heq hu hd
        have key : ∀ (l : List Field) (b : Bool), (∀ f ∈ l, f.name ≠ "_") → eqFs T (eqV T d) l xs ys = some b → (Op.eqFields (d + m) xs.toArray ys.toArray l).run P w = .ok b w := by
          intro l
          induction l with
          | nil => intro b _ hg; simp only [eqFs, Option.some.injEq] at hg; subst hg; rfl
          | cons f r ih =>
            intro b hn hg
            unfold eqFs at hg
            split at hg
            · rename_i fi hfi
              obtain ⟨hfu, jf, hfj, hfz, hfs, _, _⟩ := TabOk.get hT hfi
              have h1 : rowB fi.d = false → jf.size = 1 := fun hr => by
                rw [hfs]; exact TabOk.one hT hfi hr
              split at hg
              · rename_i hl1
                split at hg
                · rename_i hl2
                  have hl1 := Nat.le_of_ble_eq_true hl1
                  have hl2 := Nat.le_of_ble_eq_true hl2
                  split at hg
                  · rename_i b0 hb0
                    have e0 := eqV_ok hT d m f.type _ _ b0 fi hfi hb0 w
                    have p1 := run_part hfu hfj h1 (xs := xs) (o := f.offset) (by rw [hfs]; exact hl1) w
                    have p2 := run_part hfu hfj h1 (xs := ys) (o := f.offset) (by rw [hfs]; exact hl2) w
                    rw [hfs] at p1 p2
                    have step : ∀ b', (Op.eqFields (d + m) xs.toArray ys.toArray r).run P w = .ok b' w → (Op.eqFields (d + m) xs.toArray ys.toArray (f :: r)).run P w = .ok (b0 && b') w := by
                      intro b' hb'
                      rw [Op.eqFields]
                      rw [if_pos (hn f (by simp))]
                      simp only [Sem.run_bind, p1, p2, e0, Result.andThen_ok]
                      cases b0 with
                      | true => simpa using hb'
                      | false => simp
                    split at hg
                    · simp only [Option.some.injEq] at hg
                      subst hg
                      have := step true rfl
                      simpa using this
                    · split at hg
                      · rename_i b' hb'
                        simp only [Option.some.injEq] at hg
                        subst hg
                        exact step b' (ih b' (fun f hf => hn f (by simp [hf])) hb')
                      · cases hg
                  · cases hg
                · cases hg
              · cases hg
            · cases hg
        exact key _ _ hnm2 h
      · cases h
    · cases h
/-- A shift's count. -/
structure shP (y : Int) (K : Nat → Prop) : Prop where
  out : 0 ≤ y ∧ K y.toNat
theorem sh_of {y : Int} {K : Nat → Prop} (hy : 0 ≤ y) (h : K y.toNat) : shP y K := by refine ⟨?_⟩; exact ⟨hy, h⟩
theorem sh_nat {y : Nat} {K : Nat → Prop} (h : K y) : shP (y : Int) K := by refine ⟨?_⟩; exact ⟨by omega, h⟩
def xshift (op : BinOp) (k : IntKind) (x y : Int) (K : SV → Prop) : Prop := match op with
  | .shl => shP y fun n => arP k (x * 2 ^ (min n k.bits)) fun r => K (.c (.v (.int k r)))
  | .shr => shP y fun n => K (.c (.v (.int k (x.fdiv (2 ^ (min n k.bits))))))
  | _ => False
theorem xshift_ok {op : BinOp} {k k' : IntKind} {x y : Int} {K : SV → Prop} (h : xshift op k x y K) (P : Program) (t : TypeId) :
    ∃ u : Value, K (.c (.v u)) ∧ u.oneCell' = true ∧ ∀ w, (binOp op t (.int k x) (.int k' y)).run P w = .ok u w := by
  cases op <;> simp only [xshift] at h <;> first | exact h.elim | skip
  case shl =>
    replace h := h.out
    refine ⟨_, ar_get h.2, rfl, fun w => ?_⟩
    have : ¬ y < 0 := by omega
    simp [binOp, Op.shift, this]
  case shr =>
    replace h := h.out
    refine ⟨_, h.2, rfl, fun w => ?_⟩
    have : ¬ y < 0 := by omega
    simp [binOp, Op.shift, this]
def isShift : BinOp → Bool
  | .shl => true
  | .shr => true
  | _ => false
def xvBin (X : Cx) (S : St) (op : BinOp) (t : Nat) (x y : Operand) (K : SV → Prop) : Prop := match S.ev x with
  | some (.c (.v (.int k p))) => (match S.ev y with
    | some (.c (.v (.int k' q))) => (match isShift op with
      | true => xshift op k p q K
      | false => (match kindB k k' with
        | true => binInt op k p q K
        | false => False))
    | _ => False)
  | some (.c (.v (.bool p))) => (match S.ev y with
    | some (.c (.v (.bool q))) => (match get X.T t with
      | some ti => (match boolTB ti.d with
        | true => (match op with
          | .eql => K (.c (.v (.bool (p == q))))
          | .neq => K (.c (.v (.bool (p != q))))
          | _ => False)
        | false => False)
      | none => False)
    | _ => False)
  | some (.c (.v (.string p))) => (match S.ev y with
    | some (.c (.v (.string q))) => (match op with
      | .eql => K (.c (.v (.bool (p.toList == q.toList))))
      | .neq => K (.c (.v (.bool (!(p.toList == q.toList)))))
      | _ => False)
    | _ => False)
  | some (.agg cs) => (match S.ev y with
    | some (.agg ds) => (match plainVals cs with
      | some xs => (match plainVals ds with
        | some ys => (match get X.T t with
          | some ti => (match ti.eqok with
            | true => (match rowB ti.d with
              | true => (match eqV X.T 20 t xs ys with
                | some b => (match op with
                  | .eql => K (.c (.v (.bool b)))
                  | .neq => K (.c (.v (.bool (!b))))
                  | _ => False)
                | none => False)
              | false => False)
            | false => False)
          | none => False)
        | none => False)
      | none => False)
    | _ => False)
  | _ => False
theorem run_eqGuard_int {P : Program} (op : BinOp) (t : TypeId) (x y : Operand) (k k' : IntKind) (p q : Int) (w : World) : (eqGuard op t x y (.int k p) (.int k' q)).run P w = .ok () w := by
  cases op <;> simp [eqGuard]
theorem run_eqGuard_bool {P : Program} (op : BinOp) (t : TypeId) (x y : Operand) (p q : Bool) (w : World) : (eqGuard op t x y (.bool p) (.bool q)).run P w = .ok () w := by
  cases op <;> simp [eqGuard]
theorem run_eqGuard_string {P : Program} (op : BinOp) (t : TypeId) (x y : Operand) (p q : ByteArray) (w : World) : (eqGuard op t x y (.string p) (.string q)).run P w = .ok () w := by
  cases op <;> simp [eqGuard]
theorem run_equalIn_bool {P : Program} {t : TypeId} (hu : P.underlying t = some .bool) (d : Nat) (p q : Bool) (w : World) : (Op.equalIn (d + 1) t (.bool p) (.bool q)).run P w = .ok (p == q) w := by
  simp only [Op.equalIn, Sem.run_bind, run_underlying hu, Result.andThen_ok, Sem.run_pure]
theorem run_eql_bool {P : Program} {t : TypeId} (hu : P.underlying t = some .bool) (p q : Bool) (w : World) : (binOp .eql t (.bool p) (.bool q)).run P w = .ok (.bool (p == q)) w := by
  have h : (Op.equal t (.bool p) (.bool q)).run P w = .ok (p == q) w := run_equalIn_bool hu 9999 p q w
  simp only [binOp, Sem.run_bind, h, Result.andThen_ok, Sem.run_pure]
theorem run_neq_bool {P : Program} {t : TypeId} (hu : P.underlying t = some .bool) (p q : Bool) (w : World) : (binOp .neq t (.bool p) (.bool q)).run P w = .ok (.bool (p != q)) w := by
  have h : (Op.equal t (.bool p) (.bool q)).run P w = .ok (p == q) w := run_equalIn_bool hu 9999 p q w
  simp only [binOp, Sem.run_bind, h, Result.andThen_ok, Sem.run_pure]
  rfl
theorem bin_ok (hT : TabOk X.P X.T) (e : Env) (a : Act) {o : Oper} {op : BinOp} {t t' : Nat} {x y : Operand} {K : SV → Prop} (ho : o.op = .binOp op t x y t') (hk : xvBin X S op t x y K) : Yv X e S a o K := by
  unfold xvBin at hk
  split at hk
  · rename_i k p hx
    split at hk
    · rename_i k' q hy
      have fin : (∃ u : Value, K (.c (.v u)) ∧ u.oneCell' = true ∧ ∀ w, (binOp op t (.int k p) (.int k' q)).run X.P w = .ok u w) → Yv X e S a o K := by
        rintro ⟨u, hK, hone, hrun⟩
        refine ⟨_, hK, fun w h => ?_⟩
        have hdx := (h.ev_den hx).1
        have hdy := (h.ev_den hy).1
        simp only [SV.den, C.den] at hdx hdy
        exact ⟨hone, by simp [execOp, ho, hdx, hdy, run_eqGuard_int, hrun, SV.den, C.den]⟩
      split at hk
      · exact fin (xshift_ok hk X.P t)
      · split at hk
        · rename_i hkk
          have := kindB_eq hkk
          subst this
          exact fin (binInt_ok hk X.P t)
        · exact hk.elim
    · exact hk.elim
  · rename_i p hx
    split at hk
    · rename_i q hy
      split at hk
      · rename_i ti hti
        split at hk
        · rename_i hb
          have hu := (TabOk.get hT hti).1
          rw [boolTB_eq hb] at hu
          cases op <;> simp only at hk <;> first | exact hk.elim | skip
          all_goals
            refine ⟨_, hk, fun w h => ⟨rfl, ?_⟩⟩
            have hdx := (h.ev_den hx).1
            have hdy := (h.ev_den hy).1
            simp only [SV.den, C.den] at hdx hdy
          · simp only [execOp, ho, hdx, hdy, Sem.run_bind, run_eqGuard_bool, Result.andThen_ok, run_eql_bool hu, Sem.run_pure, SV.den, C.den]
          · simp only [execOp, ho, hdx, hdy, Sem.run_bind, run_eqGuard_bool, Result.andThen_ok, run_neq_bool hu, Sem.run_pure, SV.den, C.den]
        · exact hk.elim
      · exact hk.elim
    · exact hk.elim
  · rename_i p hx
    split at hk
    · rename_i q hy
      cases op <;> simp only at hk <;> first | exact hk.elim | skip
      all_goals
        refine ⟨_, hk, fun w h => ⟨rfl, ?_⟩⟩
        have hdx := (h.ev_den hx).1
        have hdy := (h.ev_den hy).1
        simp only [SV.den, C.den] at hdx hdy
        simp [execOp, ho, hdx, hdy, run_eqGuard_string, binOp, Op.stringOp, SV.den, C.den]
    · exact hk.elim
  · rename_i cs hx
    split at hk
    · rename_i ds hy
      split at hk
      · rename_i xs hxs
        split at hk
        · rename_i ys hys
          split at hk
          · rename_i ti hti
            split at hk
            · rename_i hok
              split at hk
              · rename_i hrow
                split at hk
                · rename_i b hb
                  obtain ⟨_, j, hj, _, _, _, heq⟩ := TabOk.get hT hti
                  have hg := (heq hok).1
                  have hrun := eqV_ok hT 20 9980 t xs ys b ti hti hb
                  simp only [valOf, hrow] at hrun
                  cases op <;> simp only at hk <;> first | exact hk.elim | skip
                  all_goals
                    refine ⟨_, hk, fun w h => ⟨rfl, ?_⟩⟩
                    have hdx := (h.ev_den hx).1
                    have hdy := (h.ev_den hy).1
                    simp only [SV.den, plainVals_eq hxs, plainVals_eq hys, map_den_v'] at hdx hdy
                    simp only [execOp, ho, hdx, hdy, Sem.run_bind, run_eqGuard_agg' _ _ _ _ _ _ hg, run_eql_struct, run_neq_struct, hrun w, Result.andThen_ok, Sem.run_pure, SV.den, C.den]
                · exact hk.elim
              · exact hk.elim
            · exact hk.elim
          · exact hk.elim
        · exact hk.elim
      · exact hk.elim
    · exact hk.elim
  · exact hk.elim

def xvUn (S : St) (op : UnOp) (x : Operand) (K : SV → Prop) : Prop := match S.ev x with
  | some (.c (.v (.bool p))) => (match op with
    | .not => K (.c (.v (.bool (!p))))
    | _ => False)
  | some (.c (.v (.int k p))) => (match op with
    | .neg => arP k (0 - p) fun r => K (.c (.v (.int k r)))
    | _ => False)
  | _ => False
theorem un_ok (e : Env) (a : Act) {o : Oper} {op : UnOp} {t : Nat} {x : Operand} {K : SV → Prop} (ho : o.op = .unOp op t x) (hk : xvUn S op x K) : Yv X e S a o K := by
  unfold xvUn at hk
  split at hk
  · rename_i p hx
    cases op <;> simp only at hk <;> first | exact hk.elim | skip
    refine ⟨_, hk, fun w h => ⟨rfl, ?_⟩⟩
    have hd := (h.ev_den hx).1
    simp only [SV.den, C.den] at hd
    simp [execOp, ho, hd, Op.unary, SV.den, C.den]
  · rename_i k p hx
    cases op <;> simp only at hk <;> first | exact hk.elim | skip
    refine ⟨_, ar_get hk, fun w h => ⟨rfl, ?_⟩⟩
    have hd := (h.ev_den hx).1
    simp only [SV.den, C.den] at hd
    simp [execOp, ho, hd, Op.unary, Op.intArith, SV.den, C.den]
  · exact hk.elim

def xvConv (X : Cx) (S : St) (src dst : Nat) (x : Operand) (K : SV → Prop) : Prop := match S.ev x with
  | some (.c (.v (.int _ p))) => (match get X.T src with
    | some _ => (match get X.T dst with
      | some td => (match td.d with
        | .int k => arP k p fun r => K (.c (.v (.int k r)))
        | _ => False)
      | none => False)
    | none => False)
  | _ => False
theorem conv_ok (hT : TabOk X.P X.T) (e : Env) (a : Act) {o : Oper} {src dst : Nat} {x : Operand} {K : SV → Prop} (ho : o.op = .convert src dst x) (hk : xvConv X S src dst x K) : Yv X e S a o K := by
  unfold xvConv at hk
  split at hk
  · rename_i k0 p hx
    split at hk
    · rename_i ts hts
      split at hk
      · rename_i td htd
        split at hk
        · rename_i k hkd
          have hus := (TabOk.get hT hts).1
          have hud := (TabOk.get hT htd).1
          rw [hkd] at hud
          refine ⟨_, ar_get hk, fun w h => ⟨rfl, ?_⟩⟩
          have hd := (h.ev_den hx).1
          simp only [SV.den, C.den] at hd
          simp [execOp, ho, hd, convert, run_underlying hus, run_underlying hud, Conv.intToInt, SV.den, C.den]
        · exact hk.elim
      · exact hk.elim
    · exact hk.elim
  · exact hk.elim

def xvExtract (S : St) (x : Operand) (i : Nat) (K : SV → Prop) : Prop := match S.ev x with
  | some (.tup vs) => (match vs[i]? with
    | some v => K v.sv
    | none => False)
  | _ => False
theorem V1.lt_sv {n : Nat} (x : V1) : x.sv.lt n = x.lt n := by cases x <;> rfl
theorem extract_ok (e : Env) (a : Act) {o : Oper} {x : Operand} {i : Nat} {K : SV → Prop} (ho : o.op = .extract x i) (hk : xvExtract S x i K) : Yv X e S a o K := by
  unfold xvExtract at hk
  split at hk
  · rename_i vs hx
    split at hk
    · rename_i v hv
      refine ⟨_, hk, fun w h => ?_⟩
      obtain ⟨hd, hl⟩ := h.ev_den hx
      refine ⟨by rw [V1.lt_sv]; exact ltAll1_mem hl v (List.mem_of_getElem? hv), ?_⟩
      simp only [SV.den] at hd
      simp [execOp, ho, hd, Instr.extract, hv, V1.den_sv]
    · exact hk.elim
  · exact hk.elim

/-! ### Elements of arrays -/
structure cellP (xs : List C) (o : Nat) (K : C → Prop) : Prop where
  out : ∃ c, xs[o]? = some c ∧ K c
structure partP (xs : List C) (o n : Nat) (K : List C → Prop) : Prop where
  out : ∃ cs, (xs.drop o).take n = cs ∧ cs.length = n ∧ K cs
theorem cell_of {xs : List C} {o : Nat} {K : C → Prop} (c : C) (hc : xs[o]? = some c) (h : K c) : cellP xs o K := by refine ⟨?_⟩; exact ⟨c, hc, h⟩
theorem cell_get {xs : List C} {o : Nat} {K : C → Prop} (h : cellP xs o K) : ∃ c, xs[o]? = some c ∧ K c := by replace h := h.out; exact h
theorem part_of {xs : List C} {o n : Nat} {K : List C → Prop} (cs : List C) (hc : (xs.drop o).take n = cs) (hl : cs.length = n) (h : K cs) : partP xs o n K := by refine ⟨?_⟩; exact ⟨cs, hc, hl, h⟩
theorem part_get {xs : List C} {o n : Nat} {K : List C → Prop} (h : partP xs o n K) : ∃ cs, (xs.drop o).take n = cs ∧ cs.length = n ∧ K cs := by replace h := h.out; exact h
def xvIndex (X : Cx) (S : St) (t : Nat) (x i : Operand) (K : SV → Prop) : Prop := match get X.T t with
  | some ti => (match ti.d with
    | .array len el => (match get X.T el with
      | some ei => (match S.ev x with
        | some (.agg cs) => (match S.ev i with
          | some (.c (.v (.int _ n))) => idxP n len fun j => (match rowB ei.d with
            | true => partP cs (j * ei.size) ei.size fun cs' => K (.agg cs')
            | false => cellP cs (j * ei.size) fun c => K (.c c))
          | _ => False)
        | _ => False)
      | none => False)
    | _ => False)
  | none => False
theorem index_ok (hT : TabOk X.P X.T) (e : Env) (a : Act) {o : Oper} {t : Nat} {x i : Operand} {K : SV → Prop} (ho : o.op = .index t x i) (hk : xvIndex X S t x i K) : Yv X e S a o K := by
  unfold xvIndex at hk
  split at hk
  · rename_i ti hti
    split at hk
    · rename_i len el hdd
      split at hk
      · rename_i ei hei
        split at hk
        · rename_i cs hx
          split at hk
          · rename_i ki n hi
            obtain ⟨hr, hk⟩ := idx_get hk
            have hu := (TabOk.get hT hti).1
            rw [hdd] at hu
            obtain ⟨hue, j, hj, _, hjs, _, _⟩ := TabOk.get hT hei
            split at hk
            · rename_i hrow
              obtain ⟨cs', hcs, hl, hK⟩ := part_get hk
              refine ⟨_, hK, fun w h => ?_⟩
              obtain ⟨hdx, hlx⟩ := h.ev_den hx
              have hdi := (h.ev_den hi).1
              simp only [SV.den, C.den] at hdx hdi
              refine ⟨by subst hcs; exact ltAll_drop_take hlx, ?_⟩
              have hext : ((cs.map (C.den e)).drop (n.toNat * ei.size)).take ei.size = cs'.map (C.den e) := by
                rw [← hcs, List.map_take, List.map_drop]
              simp [execOp, ho, hdx, hdi, Instr.index, asIntOf, run_underlying hu, hr, part, run_isAgg hue, hrow, run_sizeOf hj, hjs, hext, SV.den]
            · rename_i hrow
              obtain ⟨c, hc, hK⟩ := cell_get hk
              refine ⟨_, hK, fun w h => ?_⟩
              obtain ⟨hdx, hlx⟩ := h.ev_den hx
              have hdi := (h.ev_den hi).1
              simp only [SV.den, C.den] at hdx hdi
              refine ⟨ltAll_get hlx hc, ?_⟩
              simp [execOp, ho, hdx, hdi, Instr.index, asIntOf, run_underlying hu, hr, part, run_isAgg hue, hrow, run_sizeOf hj, hjs, hc, SV.den]
          · exact hk.elim
        · exact hk.elim
      · exact hk.elim
    · exact hk.elim
  · exact hk.elim

def xvField (X : Cx) (S : St) (t : Nat) (x : Operand) (f : Nat) (K : SV → Prop) : Prop := match xfield X t f with
  | some (off, fi) => (match S.ev x with
    | some (.agg cs) => loadCell fi cs off K
    | _ => False)
  | none => False
theorem field_ok (hT : TabOk X.P X.T) (e : Env) (a : Act) {o : Oper} {t f : Nat} {x : Operand} {K : SV → Prop} (ho : o.op = .field t x f) (hk : xvField X S t x f K) : Yv X e S a o K := by
  unfold xvField at hk
  split at hk
  · rename_i off fi hf
    obtain ⟨ti, fs, fd, hti, hdd, hfd, rfl, hfi⟩ := xfield_get hf
    have hu := (TabOk.get hT hti).1
    rw [hdd] at hu
    obtain ⟨hue, j, hj, _, hjs, _, _⟩ := TabOk.get hT hfi
    split at hk
    · rename_i cs hx
      unfold loadCell at hk
      split at hk
      · rename_i hrow
        split at hk
        · rename_i hle
          refine ⟨_, hk, fun w h => ?_⟩
          obtain ⟨hdx, hlx⟩ := h.ev_den hx
          simp only [SV.den] at hdx
          refine ⟨ltAll_drop_take hlx, ?_⟩
          simp [execOp, ho, hdx, Instr.field, asAgg, run_underlying hu, hfd, part, run_isAgg hue, hrow, run_sizeOf hj, hjs, SV.den]
        · exact hk.elim
      · rename_i hrow
        split at hk
        · rename_i c hc
          refine ⟨_, hk, fun w h => ?_⟩
          obtain ⟨hdx, hlx⟩ := h.ev_den hx
          simp only [SV.den] at hdx
          refine ⟨ltAll_get hlx hc, ?_⟩
          simp [execOp, ho, hdx, Instr.field, asAgg, run_underlying hu, hfd, part, run_isAgg hue, hrow, run_sizeOf hj, hjs, hc, SV.den]
        · exact hk.elim
    · exact hk.elim
  · exact hk.elim
def xvIndexAddr (X : Cx) (S : St) (t : Nat) (x i : Operand) (K : SV → Prop) : Prop := match get X.T t with
  | some ti => (match S.ev i with
    | some (.c (.v (.int _ n))) => (match ti.d with
      | .slice el => (match get X.T el with
        | some ei => (match S.ev x with
          | some (.c (.row k)) => (match get S.H k with
            | some (.row _ esz m _) => (match Nat.beq esz ei.size with
              | true => idxP n m fun j => K (.c (.ep k j 0))
              | false => False)
            | some (.ext esz m _) => (match Nat.beq esz ei.size with
              | true => idxP n m fun j => K (.c (.ep k j 0))
              | false => False)
            | _ => False)
          | some (.c (.sl k lo m)) => (match get S.H k with
            | some (.buf _ esz _ _) => (match Nat.beq esz ei.size with
              | true => idxP n m fun j => K (.c (.ep k (lo + j) 0))
              | false => False)
            | _ => False)
          | _ => False)
        | none => False)
      | .array len el => (match get X.T el with
        | some ei => (match S.ev x with
          | some (.c (.loc k o)) => idxP n len fun j => K (.c (.loc k (o + j * ei.size)))
          | some (.c (.ep k i o)) => idxP n len fun j => K (.c (.ep k i (o + j * ei.size)))
          | _ => False)
        | none => False)
      | _ => False)
    | _ => False)
  | none => False
theorem run_indexAt_slice {P : Program} {t el : TypeId} {j : TypeInfo} (hu : P.underlying t = some (.slice el)) (hj : P.info? el = some j) {p : Addr} {m c : Nat} {k : IntKind} {n : Int} (hr : 0 ≤ n ∧ n < m) (w : World) :
    (Instr.indexAt t (.slice (some p) m c) (.int k n)).run P w = .ok (.pointer (some (p.add (n.toNat * j.size)))) w := by
  simp [Instr.indexAt, asIntOf, run_underlying hu, run_sizeOf hj, hr]
theorem run_indexAt_array {P : Program} {t el : TypeId} {j : TypeInfo} {len : Nat} (hu : P.underlying t = some (.array len el)) (hj : P.info? el = some j) {p : Addr} {k : IntKind} {n : Int} (hr : 0 ≤ n ∧ n < len) (w : World) :
    (Instr.indexAt t (.pointer (some p)) (.int k n)).run P w = .ok (.pointer (some (p.add (n.toNat * j.size)))) w := by
  simp [Instr.indexAt, asIntOf, run_underlying hu, run_sizeOf hj, hr, Instr.sureAddr]
theorem indexAddr_slice_ok (hT : TabOk X.P X.T) (e : Env) (a : Act) {o : Oper} {t el : Nat} {x i : Operand} {K : SV → Prop} (ho : o.op = .indexAddr t x i) {ti ei : TI} (hti : get X.T t = some ti) (hdd : ti.d = .slice el) (hei : get X.T el = some ei) {ki : IntKind} {n : Int} (hi : S.ev i = some (.c (.v (.int ki n))))
    {k m : Nat} (hx : S.ev x = some (.c (.row k))) (hH : (∃ ety xs, get S.H k = some (.row ety ei.size m xs)) ∨ ∃ xs, get S.H k = some (.ext ei.size m xs)) (hk : idxP n m fun j => K (.c (.ep k j 0))) : Yv X e S a o K := by
  obtain ⟨hr, hk⟩ := idx_get hk
  have hu := (TabOk.get hT hti).1
  rw [hdd] at hu
  obtain ⟨_, j, hj, _, hjs, _, _⟩ := TabOk.get hT hei
  refine ⟨_, hk, fun w h => ?_⟩
  obtain ⟨hdx, hlx⟩ := h.ev_den hx
  have hdi := (h.ev_den hi).1
  obtain ⟨c, hv⟩ := row_value h (m := m) (by rcases hH with ⟨ety, xs, hH⟩ | ⟨xs, hH⟩; · exact .inl ⟨_, _, _, hH⟩
                                             · exact .inr ⟨_, _, hH⟩) (by omega)
  have hes : e.es k = ei.size := by rcases hH with ⟨ety, xs, hH⟩ | ⟨xs, hH⟩ <;> obtain ⟨F, hh⟩ := h.hp k _ hH <;> exact hh.2.1
  simp only [SV.den, C.den] at hdx hdi
  rw [hv] at hdx
  refine ⟨hlx, ?_⟩
  have hrun := run_indexAt_slice (p := e.ra k) (m := m) (c := c) (k := ki) hu hj hr w
  simp only [SV.den, C.den, Nat.add_zero]
  simp [execOp, ho, hdx, hdi, hrun, hes, hjs]
theorem indexAddr_arr_ok (hT : TabOk X.P X.T) (e : Env) (a : Act) {o : Oper} {t len : Nat} {x i : Operand} {K : SV → Prop} (ho : o.op = .indexAddr t x i) {j : TypeInfo} {z : Nat} (hjs : j.size = z) {ki : IntKind} {n : Int} (hi : S.ev i = some (.c (.v (.int ki n))))
    (hrun : ∀ p w, 0 ≤ n ∧ n < len → (Instr.indexAt t (.pointer (some p)) (.int ki n)).run X.P w = .ok (.pointer (some (p.add (n.toNat * j.size)))) w)
    (hk : match S.ev x with
      | some (.c (.loc k o)) => idxP n len fun j => K (.c (.loc k (o + j * z)))
      | some (.c (.ep k i o)) => idxP n len fun j => K (.c (.ep k i (o + j * z)))
      | _ => False) : Yv X e S a o K := by
  split at hk
  · rename_i k o' hx
    obtain ⟨hr, hk⟩ := idx_get hk
    refine ⟨_, hk, fun w h => ?_⟩
    have hdi := (h.ev_den hi).1
    simp only [SV.den, C.den] at hdi
    obtain ⟨hdx, hlx⟩ := h.ev_den hx
    refine ⟨hlx, ?_⟩
    have hrun := hrun ⟨e.ad k, o', none⟩ w hr
    rw [Addr.add_mid] at hrun
    simp only [SV.den, C.den] at hdx
    simp only [SV.den, C.den, ← hjs]
    simp [execOp, ho, hdx, hdi, hrun]
  · rename_i k i' o' hx
    obtain ⟨hr, hk⟩ := idx_get hk
    refine ⟨_, hk, fun w h => ?_⟩
    have hdi := (h.ev_den hi).1
    simp only [SV.den, C.den] at hdi
    obtain ⟨hdx, hlx⟩ := h.ev_den hx
    refine ⟨hlx, ?_⟩
    have hrun := hrun ((e.ra k).add (i' * e.es k + o')) w hr
    rw [addr_add, Nat.add_assoc] at hrun
    simp only [SV.den, C.den] at hdx
    simp only [SV.den, C.den, ← hjs]
    simp [execOp, ho, hdx, hdi, hrun]
  · exact hk.elim
theorem indexAddr_ok (hT : TabOk X.P X.T) (e : Env) (a : Act) {o : Oper} {t : Nat} {x i : Operand} {K : SV → Prop} (ho : o.op = .indexAddr t x i) (hk : xvIndexAddr X S t x i K) : Yv X e S a o K := by
  unfold xvIndexAddr at hk
  split at hk
  · rename_i ti hti
    split at hk
    · rename_i ki n hi
      split at hk
      · rename_i el hdd
        split at hk
        · rename_i ei hei
          split at hk
          · rename_i k hx
            split at hk
            · rename_i ety esz m xs hH
              split at hk
              · rename_i he
                have he := Nat.eq_of_beq_eq_true he
                subst he
                exact indexAddr_slice_ok hT e a ho hti hdd hei hi hx (.inl ⟨_, _, hH⟩) hk
              · exact hk.elim
            · rename_i esz m xs hH
              split at hk
              · rename_i he
                have he := Nat.eq_of_beq_eq_true he
                subst he
                exact indexAddr_slice_ok hT e a ho hti hdd hei hi hx (.inr ⟨_, hH⟩) hk
              · exact hk.elim
            · exact hk.elim
          · rename_i k lo m hx
            split at hk
            · rename_i ety esz cap xs hH
              split at hk
              · rename_i he
                have he := Nat.eq_of_beq_eq_true he
                obtain ⟨hr, hk⟩ := idx_get hk
                have hu := (TabOk.get hT hti).1
                rw [hdd] at hu
                obtain ⟨_, j, hj, _, hjs, _, _⟩ := TabOk.get hT hei
                refine ⟨_, hk, fun w h => ?_⟩
                obtain ⟨hdx, hlx⟩ := h.ev_den hx
                have hdi := (h.ev_den hi).1
                obtain ⟨F, hh⟩ := h.hp k _ hH
                have hes : e.es k = j.size := by rw [hh.2.1, he, hjs]
                simp only [SV.den, C.den] at hdx hdi
                refine ⟨hlx, ?_⟩
                have hrun := run_indexAt_slice (p := (e.ra k).add (lo * e.es k)) (m := m) (c := e.cp k - lo) (k := ki) hu hj hr w
                rw [addr_add, ← hes, ← Nat.add_mul] at hrun
                simp only [SV.den, C.den, Nat.add_zero]
                simp [execOp, ho, hdx, hdi, hrun]
              · exact hk.elim
            · exact hk.elim
          · exact hk.elim
        · exact hk.elim
      · rename_i len el hdd
        split at hk
        · rename_i ei hei
          have hu := (TabOk.get hT hti).1
          rw [hdd] at hu
          obtain ⟨_, j, hj, _, hjs, _, _⟩ := TabOk.get hT hei
          exact indexAddr_arr_ok hT e a ho hjs hi (fun p w hr => run_indexAt_array hu hj hr w) hk
        · exact hk.elim
      · exact hk.elim
    · exact hk.elim
  · exact hk.elim

/-! ### Lengths, the least and the greatest of two -/
def minI (x y : Int) : Int := if y < x then y else x
def maxI (x y : Int) : Int := if y > x then y else x
def sliceTB : TypeDesc → Bool
  | .slice _ => true
  | _ => false
theorem sliceTB_eq {d : TypeDesc} (h : sliceTB d = true) : ∃ el, d = .slice el := by cases d <;> first | exact ⟨_, rfl⟩ | cases h
def xvBuiltin (X : Cx) (S : St) (b : Builtin) (args : List Operand) (ts : List Nat) (K : SV → Prop) : Prop := match b, args, ts with
  | .len, [x], [t] => (match get X.T t with
    | some ti => (match sliceTB ti.d with
      | true => (match S.ev x with
        | some (.c (.row k)) => (match get S.H k with
          | some (.row _ _ n _) => K (.c (.v (.int .i64 n)))
          | some (.ext _ n _) => K (.c (.v (.int .i64 n)))
          | _ => False)
        | some (.c (.sl _ _ n)) => K (.c (.v (.int .i64 n)))
        | some (.c (.v (.slice _ n _))) => K (.c (.v (.int .i64 n)))
        | _ => False)
      | false => (match ti.d with
        | .array n _ => (match S.ev x with
          | some _ => K (.c (.v (.int .i64 n)))
          | none => False)
        | .string => (match S.ev x with
          | some (.c (.v (.string s))) => K (.c (.v (.int .i64 s.size)))
          | _ => False)
        | _ => False))
    | none => False)
  | .cap, [x], [t] => (match get X.T t with
    | some ti => (match sliceTB ti.d with
      | true => (match S.ev x with
        | some (.c (.sl k lo _)) => (match get S.H k with
          | some (.buf _ _ cap _) => K (.c (.v (.int .i64 (cap - lo : Nat))))
          | _ => False)
        | some (.c (.v (.slice _ _ n))) => K (.c (.v (.int .i64 n)))
        | _ => False)
      | false => False)
    | none => False)
  | .min, [x, y], _ => (match S.ev x with
    | some (.c (.v (.int k p))) => (match S.ev y with
      | some (.c (.v (.int _ q))) => K (.c (.v (.int k (minI p q))))
      | _ => False)
    | _ => False)
  | .max, [x, y], _ => (match S.ev x with
    | some (.c (.v (.int k p))) => (match S.ev y with
      | some (.c (.v (.int _ q))) => K (.c (.v (.int k (maxI p q))))
      | _ => False)
    | _ => False)
  | _, _, _ => False
theorem run_len_slice {P : Program} {t el : TypeId} (hu : P.underlying t = some (.slice el)) (A : Option Addr) (n c ty : Nat) (w : World) : (Builtin.len_ #[t] ty #[.slice A n c]).run P w = .ok (.int .i64 n) w := by
  simp [Builtin.len_, run_underlying hu, goInt]
theorem builtin_ok (hT : TabOk X.P X.T) (e : Env) (a : Act) {o : Oper} {b : Builtin} {args : Array Operand} {ts : Array TypeId} {K : SV → Prop} (ho : o.op = .call { callee := .builtin b, args := args, argTypes := ts })
    (hk : xvBuiltin X S b args.toList ts.toList K) : Yv X e S a o K := by
  obtain ⟨args⟩ := args
  obtain ⟨ts⟩ := ts
  simp only at hk
  unfold xvBuiltin at hk
  split at hk
  · rename_i x t
    split at hk
    · rename_i ti hti
      have hu := (TabOk.get hT hti).1
      split at hk
      · rename_i hs
        obtain ⟨el, hel⟩ := sliceTB_eq hs
        rw [hel] at hu
        split at hk
        · rename_i k hx
          split at hk
          · rename_i ety esz n xs hH
            refine ⟨_, hk, fun w h => ⟨rfl, ?_⟩⟩
            have hdx := (h.ev_den hx).1
            simp only [SV.den, C.den] at hdx
            obtain ⟨A, c, hv, _⟩ := row_len h (.inl ⟨_, _, _, hH⟩)
            rw [hv] at hdx
            simp [execOp, ho, resolve, invoke, builtin, hdx, run_len_slice hu, SV.den, C.den]
          · rename_i esz n xs hH
            refine ⟨_, hk, fun w h => ⟨rfl, ?_⟩⟩
            have hdx := (h.ev_den hx).1
            simp only [SV.den, C.den] at hdx
            obtain ⟨A, c, hv, _⟩ := row_len h (.inr ⟨_, _, hH⟩)
            rw [hv] at hdx
            simp [execOp, ho, resolve, invoke, builtin, hdx, run_len_slice hu, SV.den, C.den]
          · exact hk.elim
        · rename_i k lo n hx
          refine ⟨_, hk, fun w h => ⟨rfl, ?_⟩⟩
          have hdx := (h.ev_den hx).1
          simp only [SV.den, C.den] at hdx
          simp [execOp, ho, resolve, invoke, builtin, hdx, run_len_slice hu, SV.den, C.den]
        · rename_i A n c hx
          refine ⟨_, hk, fun w h => ⟨rfl, ?_⟩⟩
          have hdx := (h.ev_den hx).1
          simp only [SV.den, C.den] at hdx
          simp [execOp, ho, resolve, invoke, builtin, hdx, run_len_slice hu, SV.den, C.den]
        · exact hk.elim
      · split at hk
        · rename_i n el hd
          rw [hd] at hu
          split at hk
          · exact ⟨_, hk, fun w h => ⟨rfl, by simp [execOp, ho, resolve, invoke, builtin, Builtin.len_, run_underlying hu, goInt, SV.den, C.den]⟩⟩
          · exact hk.elim
        · rename_i hd
          rw [hd] at hu
          split at hk
          · rename_i s hx
            refine ⟨_, hk, fun w h => ⟨rfl, ?_⟩⟩
            have hdx := (h.ev_den hx).1
            simp only [SV.den, C.den] at hdx
            simp [execOp, ho, resolve, invoke, builtin, hdx, Builtin.len_, run_underlying hu, goInt, SV.den, C.den]
          · exact hk.elim
        · exact hk.elim
    · exact hk.elim
  · rename_i x t
    split at hk
    · rename_i ti hti
      have hu := (TabOk.get hT hti).1
      split at hk
      · rename_i hs
        obtain ⟨el, hel⟩ := sliceTB_eq hs
        rw [hel] at hu
        split at hk
        · rename_i k lo n hx
          split at hk
          · rename_i ety esz cap xs hH
            refine ⟨_, hk, fun w h => ⟨rfl, ?_⟩⟩
            have hdx := (h.ev_den hx).1
            obtain ⟨F, hh⟩ := h.hp k _ hH
            simp only [SV.den, C.den, hh.2.2.1] at hdx
            simp [execOp, ho, resolve, invoke, builtin, hdx, Builtin.cap_, run_underlying hu, goInt, SV.den, C.den]
          · exact hk.elim
        · rename_i A m n hx
          refine ⟨_, hk, fun w h => ⟨rfl, ?_⟩⟩
          have hdx := (h.ev_den hx).1
          simp only [SV.den, C.den] at hdx
          simp [execOp, ho, resolve, invoke, builtin, hdx, Builtin.cap_, run_underlying hu, goInt, SV.den, C.den]
        · exact hk.elim
      · exact hk.elim
    · exact hk.elim
  · rename_i x y _
    split at hk
    · rename_i k p hx
      split at hk
      · rename_i k' q hy
        refine ⟨_, hk, fun w h => ⟨rfl, ?_⟩⟩
        have hdx := (h.ev_den hx).1
        have hdy := (h.ev_den hy).1
        simp only [SV.den, C.den] at hdx hdy
        simp [execOp, ho, resolve, invoke, builtin, hdx, hdy, Builtin.min_, Builtin.min2, SV.den, C.den, minI]
      · exact hk.elim
    · exact hk.elim
  · rename_i x y _
    split at hk
    · rename_i k p hx
      split at hk
      · rename_i k' q hy
        refine ⟨_, hk, fun w h => ⟨rfl, ?_⟩⟩
        have hdx := (h.ev_den hx).1
        have hdy := (h.ev_den hy).1
        simp only [SV.den, C.den] at hdx hdy
        simp [execOp, ho, resolve, invoke, builtin, hdx, hdy, Builtin.max_, Builtin.max2, SV.den, C.den, maxI]
      · exact hk.elim
    · exact hk.elim
  · exact hk.elim

/-! ### Literals of structs and arrays -/
def splice {α : Type} : List α → Nat → List α → List α
  | cs, _, [] => cs
  | cs, o, v :: r => splice (cs.set o v) (o + 1) r
def SV.list : SV → List C
  | .c x => [x]
  | .agg cs => cs
  | .tup _ => []
  | .un => []
def placeS (T : Tab) (d : TypeDesc) (i : Nat) : Option (Nat × Nat) := match d with
  | .struct fs => (match fs.toList[i]? with
    | some fd => (match get T fd.type with
      | some fi => some (fd.offset, fi.size)
      | none => none)
    | none => none)
  | .array _ el => (match get T el with
    | some ei => some (i * ei.size, ei.size)
    | none => none)
  | _ => none
def fillS (S : St) (place : Nat → Option (Nat × Nat)) : List C → List (Nat × Operand) → Option (List C)
  | cs, [] => some cs
  | cs, (i, x) :: r => match S.ev x with
    | some v => (match v with
      | .tup _ => none
      | .un => none
      | v => (match place i with
        | some (off, size) => (match Nat.beq v.list.length size with
          | true => (match Nat.ble (off + v.list.length) cs.length with
            | true => fillS S place (splice cs off v.list) r
            | false => none)
          | false => none)
        | none => none))
    | none => none
end
end Go.Proofs.Yteldohidnepaoaa.Sy
