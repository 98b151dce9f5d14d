/-
  The symbolic executor, 5: comparisons with nil; slices: literals, make, append, copy, clear, parts of slices.
-/
import Derived.Test.YteldohidnepaoaaSy4
import Derived.Lib.SliceRun
import Derived.Laws.MakeOwn
namespace Go.Proofs.Yteldohidnepaoaa.Sy
open Go Go.RowKit
section
variable {X : Cx} {e : Env} {S : St} {a : Act} {w : World}

/-! ### Comparisons with nil -/
/-- A slice of n elements, whether it is nil: that is not known; but if so it has none. -/
structure nilP (n : Nat) (K : Bool → Prop) : Prop where
  out : ∀ b : Bool, (b = true → n = 0) → K b
theorem nil_of {n : Nat} {K : Bool → Prop} (h1 : n = 0 → K true) (h2 : K false) : nilP n K := by
  refine ⟨?_⟩
  intro b hb
  cases b with
  | true => exact h1 (hb rfl)
  | false => exact h2
theorem nil_pos {n : Nat} {K : Bool → Prop} (hn : 0 < n) (h2 : K false) : nilP n K := nil_of (fun h => by omega) h2
def isNil : Value → Bool
  | .slice none _ _ => true
  | .pointer none => true
  | .nilFunc => true
  | _ => false
def nilEq (op : BinOp) (K : SV → Prop) (b : Bool) : Prop := match op with
  | .eql => K (.c (.v (.bool b)))
  | .neq => K (.c (.v (.bool (!b))))
  | _ => False
def xvNil (X : Cx) (S : St) (op : BinOp) (t : Nat) (x : Operand) (z : Value) (K : SV → Prop) : Prop := match get X.T t with
  | some ti => (match ti.d with
    | .slice _ => (match z with
      | .slice none _ _ => (match S.ev x with
        | some (.c (.row k)) => (match get S.H k with
          | some (.row _ _ n _) => nilP n (nilEq op K)
          | some (.ext _ n _) => nilP n (nilEq op K)
          | _ => False)
        | some (.c (.sl _ _ _)) => nilEq op K false
        | some (.c (.v (.slice A _ _))) => nilEq op K A.isNone
        | _ => False)
      | _ => False)
    | .pointer _ => (match z with
      | .pointer none => (match S.ev x with
        | some (.c (.loc _ _)) => nilEq op K false
        | some (.c (.ep _ _ _)) => nilEq op K false
        | some (.c (.v (.pointer p))) => nilEq op K p.isNone
        | _ => False)
      | _ => False)
    | .func _ _ _ => (match z with
      | .nilFunc => (match S.ev x with
        | some (.c (.row k)) => (match get S.H k with
          | some (.fn _ _) => nilEq op K false
          | some (.lrec _ _ _ _ _ _) => nilEq op K false
          | _ => False)
        | some (.c (.v (.func _ _ _))) => nilEq op K false
        | some (.c (.v .nilFunc)) => nilEq op K true
        | _ => False)
      | _ => False)
    | _ => False)
  | none => False
/-- How '==' and '!=' with nil run. -/
def NilRun (P : Program) (t : Nat) (v z : Value) (b : Bool) : Prop := ∀ w, (binOp .eql t v z).run P w = .ok (.bool b) w ∧ (binOp .neq t v z).run P w = .ok (.bool (!b)) w
theorem nilRun_slice {P : Program} {t el : Nat} (hu : P.underlying t = some (.slice el)) (A : Option Addr) (n c n' c' : Nat) : NilRun P t (.slice A n c) (.slice none n' c') A.isNone := fun w =>
  ⟨Lib.run_eql_slice_nil w t el A n c n' c' hu, run_neq_slice_nil_any w t el A n c n' c' hu⟩
theorem nilRun_of {P : Program} {t : Nat} {v z : Value} {b : Bool} (h : ∀ d w, (Op.equalIn (d + 1) t v z).run P w = .ok b w) (h1 : ∀ w, (binOp .eql t v z).run P w = (do pure (.bool (← Op.equal t v z)) : Sem Value).run P w) (h2 : ∀ w, (binOp .neq t v z).run P w = (do pure (.bool (!(← Op.equal t v z))) : Sem Value).run P w) : NilRun P t v z b := fun w => by
  have h : (Op.equal t v z).run P w = .ok b w := h 9999 w
  rw [h1, h2]
  simp only [Sem.run_bind, h, Result.andThen_ok, Sem.run_pure]
  exact ⟨trivial, trivial⟩
theorem nilRun_pointer {P : Program} {t el : Nat} (hu : P.underlying t = some (.pointer el)) (p : Option Addr) : NilRun P t (.pointer p) (.pointer none) p.isNone :=
  nilRun_of (fun d w => by cases p <;> simp only [Op.equalIn, Sem.run_bind, run_underlying hu, Result.andThen_ok, Sem.run_pure, Option.isNone]) (fun _ => rfl) (fun _ => rfl)
theorem nilRun_func {P : Program} {t : Nat} {q r : Array TypeId} {v : Bool} (hu : P.underlying t = some (.func q r v)) (f : Fn) (as bs : Array Value) : NilRun P t (.func f as bs) .nilFunc false :=
  nilRun_of (fun d w => by simp only [Op.equalIn, Sem.run_bind, run_underlying hu, Result.andThen_ok, Sem.run_pure]) (fun _ => rfl) (fun _ => rfl)
theorem nilRun_nilFunc {P : Program} {t : Nat} {q r : Array TypeId} {v : Bool} (hu : P.underlying t = some (.func q r v)) : NilRun P t .nilFunc .nilFunc true :=
  nilRun_of (fun d w => by simp only [Op.equalIn, Sem.run_bind, run_underlying hu, Result.andThen_ok, Sem.run_pure]) (fun _ => rfl) (fun _ => rfl)
theorem run_eqGuard_nil {P : Program} (op : BinOp) (t : TypeId) (x y : Operand) (v z : Value) (hz : isNil z = true) (w : World) : (eqGuard op t x y v z).run P w = .ok () w := by
  cases op <;> cases z <;> first | (cases hz; done) | (cases v <;> simp [eqGuard])
theorem nilEq_ok (e : Env) (a : Act) {o : Oper} {op : BinOp} {t t' : Nat} {x : Operand} {z : Value} (ho : o.op = .binOp op t x (.const z) t') (hz : isNil z = true) {b : Bool} {K : SV → Prop} (hk : nilEq op K b)
    (hrun : ∀ w, RepV X e S a w → NilRun X.P t (a.eval x) z b) : Yv X e S a o K := by
  cases op <;> simp only [nilEq] at hk <;> first | exact hk.elim | skip
  all_goals
    refine ⟨_, hk, fun w h => ⟨rfl, ?_⟩⟩
    have h3 := hrun w h w
    have hz' : a.eval (.const z) = z := rfl
    simp only [execOp, ho, hz', Sem.run_bind, run_eqGuard_nil _ _ _ _ _ _ hz, Result.andThen_ok, SV.den, C.den, Sem.run_pure, h3.1, h3.2]
theorem nilRow_ok (e : Env) (a : Act) {o : Oper} {op : BinOp} {t t' el : Nat} (hu : X.P.underlying t = some (.slice el)) {x : Operand} {n' c' : Nat} (ho : o.op = .binOp op t x (.const (.slice none n' c')) t') {k m : Nat} (hx : S.ev x = some (.c (.row k))) {K : SV → Prop} (hk : nilP m (nilEq op K))
    (hv : ∀ w, RepV X e S a w → ∃ A c, e.rv k = .slice A m c ∧ (A = none → m = 0)) : Yv X e S a o K := by
  replace hk := hk.out
  have hdx : ∀ w, RepV X e S a w → a.eval x = e.rv k := fun w h => by simpa only [SV.den, C.den] using (h.ev_den hx).1
  by_cases hn : m = 0 ∧ ∃ n c, e.rv k = .slice none n c
  · obtain ⟨h0, n, c, hn⟩ := hn
    refine nilEq_ok e a ho rfl (hk true fun _ => h0) fun w h => ?_
    rw [hdx w h, hn]
    exact nilRun_slice hu none n c n' c'
  · refine nilEq_ok e a ho rfl (hk false fun h => by cases h) fun w h => ?_
    obtain ⟨A, c, h1, h2⟩ := hv w h
    rw [hdx w h, h1]
    cases A with
    | none => exact absurd ⟨h2 rfl, _, _, h1⟩ hn
    | some p => exact nilRun_slice hu (some p) m c n' c'
theorem nil_ok (hT : TabOk X.P X.T) (e : Env) (a : Act) {o : Oper} {op : BinOp} {t t' : Nat} {x : Operand} {z : Value} {K : SV → Prop} (ho : o.op = .binOp op t x (.const z) t') (hk : xvNil X S op t x z K) : Yv X e S a o K := by
  unfold xvNil at hk
  split at hk
  · rename_i ti hti
    have hu0 := (TabOk.get hT hti).1
    split at hk
    · rename_i el hd
      have hu := hu0
      rw [hd] at hu
      split at hk
      · rename_i n' c'
        split at hk
        · rename_i k hx
          split at hk
          · rename_i ety esz n xs hH
            refine nilRow_ok e a hu ho hx hk fun w h => ?_
            obtain ⟨F, hh, _⟩ := h.hp k _ hH
            rcases hh.2.2 with ⟨A, hv, hn⟩ | ⟨g, cap, hv, _⟩
            · exact ⟨A, 0, by rw [hv, hn], fun _ => hn⟩
            · exact ⟨_, _, hv, fun h => by cases h⟩
          · rename_i esz n xs hH
            refine nilRow_ok e a hu ho hx hk fun w h => ?_
            obtain ⟨F, hh, _⟩ := h.hp k _ hH
            obtain ⟨_, _, A, c, hv, _, _, hc2⟩ := hh
            refine ⟨A, c, hv, fun h0 => ?_⟩
            rcases Nat.eq_zero_or_pos n with hn | hn
            · exact hn
            · obtain ⟨p, hp, _⟩ := hc2 hn
              rw [h0] at hp; cases hp
          · exact hk.elim
        · rename_i k lo n hx
          refine nilEq_ok e a ho rfl hk fun w h => ?_
          have hdx := (h.ev_den hx).1
          simp only [SV.den, C.den] at hdx
          rw [hdx]
          exact nilRun_slice hu _ _ _ n' c'
        · rename_i A n c hx
          refine nilEq_ok e a ho rfl hk fun w h => ?_
          have hdx := (h.ev_den hx).1
          simp only [SV.den, C.den] at hdx
          rw [hdx]
          exact nilRun_slice hu _ _ _ n' c'
        · exact hk.elim
      · exact hk.elim
    · rename_i el hd
      have hu := hu0
      rw [hd] at hu
      split at hk
      · split at hk
        · rename_i hx
          refine nilEq_ok e a ho rfl hk fun w h => ?_
          have hdx := (h.ev_den hx).1
          simp only [SV.den, C.den] at hdx
          rw [hdx]
          exact nilRun_pointer hu _
        · rename_i hx
          refine nilEq_ok e a ho rfl hk fun w h => ?_
          have hdx := (h.ev_den hx).1
          simp only [SV.den, C.den] at hdx
          rw [hdx]
          exact nilRun_pointer hu _
        · rename_i hx
          refine nilEq_ok e a ho rfl hk fun w h => ?_
          have hdx := (h.ev_den hx).1
          simp only [SV.den, C.den] at hdx
          rw [hdx]
          exact nilRun_pointer hu _
        · exact hk.elim
      · exact hk.elim
    · rename_i p q r hd
      have hu := hu0
      rw [hd] at hu
      split at hk
      · split at hk
        · rename_i k hx
          split at hk
          · rename_i hH
            refine nilEq_ok e a ho rfl hk fun w h => ?_
            have hdx := (h.ev_den hx).1
            obtain ⟨F, hh⟩ := h.hp k _ hH
            have hh : e.rv k = _ := hh
            simp only [SV.den, C.den] at hdx
            rw [hdx, hh]
            exact nilRun_func hu _ _ _
          · rename_i hH
            refine nilEq_ok e a ho rfl hk fun w h => ?_
            have hdx := (h.ev_den hx).1
            obtain ⟨F, hh⟩ := h.hp k _ hH
            have hh := hh.1
            simp only [SV.den, C.den] at hdx
            rw [hdx, hh]
            exact nilRun_func hu _ _ _
          · exact hk.elim
        · rename_i hx
          refine nilEq_ok e a ho rfl hk fun w h => ?_
          have hdx := (h.ev_den hx).1
          simp only [SV.den, C.den] at hdx
          rw [hdx]
          exact nilRun_func hu _ _ _
        · rename_i hx
          refine nilEq_ok e a ho rfl hk fun w h => ?_
          have hdx := (h.ev_den hx).1
          simp only [SV.den, C.den] at hdx
          rw [hdx]
          exact nilRun_nilFunc hu
        · exact hk.elim
      · exact hk.elim
    · exact hk.elim
  · exact hk.elim
end
end Go.Proofs.Yteldohidnepaoaa.Sy
