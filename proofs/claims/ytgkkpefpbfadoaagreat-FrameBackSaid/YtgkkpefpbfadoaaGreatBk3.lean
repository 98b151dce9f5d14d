/-
  The symbolic executor, 5: comparisons with nil; slices: literals, make, append, copy, clear, parts of slices.
-/
import Derived.Test.YtgkkpefpbfadoaaGreatBk2
import Derived.Lib.SliceRun
import Derived.Laws.MakeOwn
namespace Go.Proofs.YtgkkpefpbfadoaaGreat.Sy
open Go Go.RowKit
section
variable {X : Cx} {e : Env} {S : St} {a : Act} {w : World}
structure nilP (n : Nat) (K : Bool → Prop) : Prop where
 out : ∀ b : Bool, (b = true → n = 0) → K b
theorem nil_of {n : Nat} {K : Bool → Prop} (h1 : n = 0 → K true) (h2 : K false) : nilP n K := by
 refine ⟨?_⟩
 intro b hb
 cases b with
 | true => exact h1 (hb rfl)
 | false => exact h2
def isNil : Value → Bool
 | .slice none _ _ => true
 | .pointer none => true
 | .nilFunc => true
 | _ => false
def nilEq (op : BinOp) (K : SV → Prop) (b : Bool) : Prop := match op with
 | .eql => K (.c (.v (.bool b)))
 | .neq => K (.c (.v (.bool (!b))))
 | _ => False
def xvNil (X : Cx) (S : St) (op : BinOp) (t : Nat) (x : Operand) (z : Value) (K : SV → Prop) : Prop := match get X.T t with
 |some ti => (match ti.d with
  |.slice _ => (match z with
   |.slice none _ _ => (match S.ev x with
    |some (.c (.row k)) => (match get S.H k with
     | some (.row _ _ n _) => nilP n (nilEq op K)
     | some (.ext _ n _) => nilP n (nilEq op K)
     | _ => False)
    | some (.c (.sl _ _ _)) => nilEq op K false
    | some (.c (.v (.slice A _ _))) => nilEq op K A.isNone
    | _ => False)
   | _ => False)
  |.pointer _ => (match z with
   |.pointer none => (match S.ev x with
    | some (.c (.loc _ _)) => nilEq op K false
    | some (.c (.ep _ _ _)) => nilEq op K false
    | some (.c (.v (.pointer p))) => nilEq op K p.isNone
    | _ => False)
   | _ => False)
  |.func _ _ _ => (match z with
   |.nilFunc => (match S.ev x with
    |some (.c (.row k)) => (match get S.H k with
     | some (.fn _ _) => nilEq op K false
     | some (.lrec _ _ _ _ _ _) => nilEq op K false
     | _ => False)
    | some (.c (.v (.func _ _ _))) => nilEq op K false
    | some (.c (.v .nilFunc)) => nilEq op K true
    | _ => False)
   | _ => False)
  | _ => False)
 | none => False
def NilRun (P : Program) (t : Nat) (v z : Value) (b : Bool) : Prop := ∀ w, (binOp .eql t v z).run P w = .ok (.bool b) w ∧ (binOp .neq t v z).run P w = .ok (.bool (!b)) w
theorem nilRun_slice {P : Program} {t el : Nat} (hu : P.underlying t = some (.slice el)) (A : Option Addr) (n c n' c' : Nat) : NilRun P t (.slice A n c) (.slice none n' c') A.isNone := fun w =>
 ⟨Lib.run_eql_slice_nil w t el A n c n' c' hu, run_neq_slice_nil_any w t el A n c n' c' hu⟩
theorem nilRun_of {P : Program} {t : Nat} {v z : Value} {b : Bool} (h : ∀ d w, (Op.equalIn (d + 1) t v z).run P w = .ok b w) (h1 : ∀ w, (binOp .eql t v z).run P w = (do pure (.bool (← Op.equal t v z)) : Sem Value).run P w) (h2 : ∀ w, (binOp .neq t v z).run P w = (do pure (.bool (!(← Op.equal t v z))) : Sem Value).run P w) : NilRun P t v z b := fun w => by
 have h : (Op.equal t v z).run P w = .ok b w := h 9999 w
 rw [h1, h2]
 simp only [Sem.run_bind, h, Result.andThen_ok, Sem.run_pure]
 exact ⟨trivial, trivial⟩
theorem nilRun_pointer {P : Program} {t el : Nat} (hu : P.underlying t = some (.pointer el)) (p : Option Addr) : NilRun P t (.pointer p) (.pointer none) p.isNone :=
 nilRun_of (fun d w => by cases p <;> simp only [Op.equalIn, Sem.run_bind, run_underlying hu, Result.andThen_ok, Sem.run_pure, Option.isNone]) (fun _ => rfl) (fun _ => rfl)
theorem nilRun_func {P : Program} {t : Nat} {q r : Array TypeId} {v : Bool} (hu : P.underlying t = some (.func q r v)) (f : Fn) (as bs : Array Value) : NilRun P t (.func f as bs) .nilFunc false :=
 nilRun_of (fun d w => by simp only [Op.equalIn, Sem.run_bind, run_underlying hu, Result.andThen_ok, Sem.run_pure]) (fun _ => rfl) (fun _ => rfl)
theorem nilRun_nilFunc {P : Program} {t : Nat} {q r : Array TypeId} {v : Bool} (hu : P.underlying t = some (.func q r v)) : NilRun P t .nilFunc .nilFunc true :=
 nilRun_of (fun d w => by simp only [Op.equalIn, Sem.run_bind, run_underlying hu, Result.andThen_ok, Sem.run_pure]) (fun _ => rfl) (fun _ => rfl)
theorem run_eqGuard_nil {P : Program} (op : BinOp) (t : TypeId) (x y : Operand) (v z : Value) (hz : isNil z = true) (w : World) : (eqGuard op t x y v z).run P w = .ok () w := by
 cases op <;> cases z <;> first | (cases hz; done) | (cases v <;> simp [eqGuard])
theorem nilEq_ok (e : Env) (a : Act) {o : Oper} {op : BinOp} {t t' : Nat} {x : Operand} {z : Value} (ho : o.op = .binOp op t x (.const z) t') (hz : isNil z = true) {b : Bool} {K : SV → Prop} (hk : nilEq op K b)
  (hrun : ∀ w, RepV X e S a w → NilRun X.P t (a.eval x) z b) : Yv X e S a o K := by
 cases op <;> simp only [nilEq] at hk <;> first | exact hk.elim | skip
 all_goals
  refine ⟨_, hk, fun w h => ⟨rfl, ?_⟩⟩
  have h3 := hrun w h w
  have hz' : a.eval (.const z) = z := rfl
  simp only [execOp, ho, hz', Sem.run_bind, run_eqGuard_nil _ _ _ _ _ _ hz, Result.andThen_ok, SV.den, C.den, Sem.run_pure, h3.1, h3.2]
theorem nilRow_ok (e : Env) (a : Act) {o : Oper} {op : BinOp} {t t' el : Nat} (hu : X.P.underlying t = some (.slice el)) {x : Operand} {n' c' : Nat} (ho : o.op = .binOp op t x (.const (.slice none n' c')) t') {k m : Nat} (hx : S.ev x = some (.c (.row k))) {K : SV → Prop} (hk : nilP m (nilEq op K))
  (hv : ∀ w, RepV X e S a w → ∃ A c, e.rv k = .slice A m c ∧ (A = none → m = 0)) : Yv X e S a o K := by
 replace hk := hk.out
 have hdx : ∀ w, RepV X e S a w → a.eval x = e.rv k := fun w h => by simpa only [SV.den, C.den] using (h.ev_den hx).1
 by_cases hn : m = 0 ∧ ∃ n c, e.rv k = .slice none n c
 ·obtain ⟨h0, n, c, hn⟩ := hn
  refine nilEq_ok e a ho rfl (hk true fun _ => h0) fun w h => ?_
  rw [hdx w h, hn]
  exact nilRun_slice hu none n c n' c'
 ·refine nilEq_ok e a ho rfl (hk false fun h => by cases h) fun w h => ?_
  obtain ⟨A, c, h1, h2⟩ := hv w h
  rw [hdx w h, h1]
  cases A with
  | none => exact absurd ⟨h2 rfl, _, _, h1⟩ hn
  | some p => exact nilRun_slice hu (some p) m c n' c'
theorem nil_ok (hT : TabOk X.P X.T) (e : Env) (a : Act) {o : Oper} {op : BinOp} {t t' : Nat} {x : Operand} {z : Value} {K : SV → Prop} (ho : o.op = .binOp op t x (.const z) t') (hk : xvNil X S op t x z K) : Yv X e S a o K := by
 unfold xvNil at hk
 split at hk
 ·rename_i ti hti
  have hu0 := (TabOk.get hT hti).1
  split at hk
  ·rename_i el hd
   have hu := hu0
   rw [hd] at hu
   split at hk
   ·rename_i n' c'
    split at hk
    ·rename_i k hx
     split at hk
     ·rename_i ety esz n xs hH
      refine nilRow_ok e a hu ho hx hk fun w h => ?_
      obtain ⟨F, hh, _⟩ := h.hp k _ hH
      rcases hh.2.2 with ⟨A, hv, hn⟩ | ⟨g, cap, hv, _⟩
      ·exact ⟨A, 0, by rw [hv, hn], fun _ => hn⟩
      ·exact ⟨_, _, hv, fun h => by cases h⟩
     ·rename_i esz n xs hH
      refine nilRow_ok e a hu ho hx hk fun w h => ?_
      obtain ⟨F, hh, _⟩ := h.hp k _ hH
      obtain ⟨_, _, A, c, hv, _, _, hc2⟩ := hh
      refine ⟨A, c, hv, fun h0 => ?_⟩
      rcases Nat.eq_zero_or_pos n with hn | hn
      ·exact hn
      ·obtain ⟨p, hp, _⟩ := hc2 hn
       rw [h0] at hp; cases hp
     ·exact hk.elim
    ·rename_i k lo n hx
     refine nilEq_ok e a ho rfl hk fun w h => ?_
     have hdx := (h.ev_den hx).1
     simp only [SV.den, C.den] at hdx
     rw [hdx]
     exact nilRun_slice hu _ _ _ n' c'
    ·rename_i A n c hx
     refine nilEq_ok e a ho rfl hk fun w h => ?_
     have hdx := (h.ev_den hx).1
     simp only [SV.den, C.den] at hdx
     rw [hdx]
     exact nilRun_slice hu _ _ _ n' c'
    ·exact hk.elim
   ·exact hk.elim
  ·rename_i el hd
   have hu := hu0
   rw [hd] at hu
   split at hk
   ·split at hk
    ·rename_i hx
     refine nilEq_ok e a ho rfl hk fun w h => ?_
     have hdx := (h.ev_den hx).1
     simp only [SV.den, C.den] at hdx
     rw [hdx]
     exact nilRun_pointer hu _
    ·rename_i hx
     refine nilEq_ok e a ho rfl hk fun w h => ?_
     have hdx := (h.ev_den hx).1
     simp only [SV.den, C.den] at hdx
     rw [hdx]
     exact nilRun_pointer hu _
    ·rename_i hx
     refine nilEq_ok e a ho rfl hk fun w h => ?_
     have hdx := (h.ev_den hx).1
     simp only [SV.den, C.den] at hdx
     rw [hdx]
     exact nilRun_pointer hu _
    ·exact hk.elim
   ·exact hk.elim
  ·rename_i p q r hd
   have hu := hu0
   rw [hd] at hu
   split at hk
   ·split at hk
    ·rename_i k hx
     split at hk
     ·rename_i hH
      refine nilEq_ok e a ho rfl hk fun w h => ?_
      have hdx := (h.ev_den hx).1
      obtain ⟨F, hh⟩ := h.hp k _ hH
      have hh : e.rv k = _ := hh
      simp only [SV.den, C.den] at hdx
      rw [hdx, hh]
      exact nilRun_func hu _ _ _
     ·rename_i hH
      refine nilEq_ok e a ho rfl hk fun w h => ?_
      have hdx := (h.ev_den hx).1
      obtain ⟨F, hh⟩ := h.hp k _ hH
      have hh := hh.1
      simp only [SV.den, C.den] at hdx
      rw [hdx, hh]
      exact nilRun_func hu _ _ _
     ·exact hk.elim
    ·rename_i hx
     refine nilEq_ok e a ho rfl hk fun w h => ?_
     have hdx := (h.ev_den hx).1
     simp only [SV.den, C.den] at hdx
     rw [hdx]
     exact nilRun_func hu _ _ _
    ·rename_i hx
     refine nilEq_ok e a ho rfl hk fun w h => ?_
     have hdx := (h.ev_den hx).1
     simp only [SV.den, C.den] at hdx
     rw [hdx]
     exact nilRun_nilFunc hu
    ·exact hk.elim
   ·exact hk.elim
  ·exact hk.elim
 ·exact hk.elim
end
end Go.Proofs.YtgkkpefpbfadoaaGreat.Sy
namespace Go.Proofs.YtgkkpefpbfadoaaGreat.Sy
open Go Go.RowKit
section
variable {X : Cx} {e : Env} {S : St} {a : Act} {w : World}
def Els.len : Els → Nat
 | .vs l => l.length
 | .cs l => l.length
 | .ns _ l => l.length
theorem Els.den_len (e : Env) (x : Els) : (x.den e).length = x.len := by cases x <;> simp [Els.den, Els.len]
def Els.toC : Els → List (List C)
 | .vs l => l.map fun c => c.map C.v
 | .cs l => l
 | .ns k l => l.map (nsEl k)
theorem Els.den_toC (e : Env) (x : Els) : x.toC.map (fun c => c.map (C.den e)) = x.den e := by
 cases x with
 |vs l =>
  simp only [Els.toC, Els.den, List.map_map]
  exact (List.map_congr_left fun c _ => show (c.map C.v).map (C.den e) = c from map_den_v' e c).trans (List.map_id' l)
 | cs l => rfl
 | ns k l => simp only [Els.toC, Els.den, List.map_map]; rfl
theorem Els.toC_lt {n : Nat} {x : Els} (h : x.lt n) : ∀ c ∈ x.toC, ltAll n c = true := by
 cases x with
 |vs l =>
  intro c hc
  obtain ⟨d, hd, rfl⟩ := List.mem_map.1 hc
  exact ltAll_v (h d hd)
 | cs l => exact h
 |ns k l =>
  intro c hc
  obtain ⟨x, hx, rfl⟩ := List.mem_map.1 hc
  exact nsEl_lt h.1 (h.2 x hx)
def Els.app (x y : Els) : Els := match x, y with
 | .vs a, .vs b => .vs (a ++ b)
 | .vs [], .ns k b => .ns k b
 | x, y => .cs (x.toC ++ y.toC)
theorem Els.den_app (e : Env) (x y : Els) : (x.app y).den e = x.den e ++ y.den e := by
 have : (Els.cs (x.toC ++ y.toC)).den e = x.den e ++ y.den e := by
  show (x.toC ++ y.toC).map (fun c => c.map (C.den e)) = _
  rw [List.map_append, Els.den_toC, Els.den_toC]
 cases x <;> cases y <;> first | rfl | exact this | (rename_i a k b; cases a <;> first | rfl | exact this)
theorem Els.app_lt {n : Nat} {x y : Els} (hx : x.lt n) (hy : y.lt n) : (x.app y).lt n := by
 have : (Els.cs (x.toC ++ y.toC)).lt n := fun c hc => by
  rcases List.mem_append.1 hc with hc | hc
  ·exact Els.toC_lt hx c hc
  ·exact Els.toC_lt hy c hc
 cases x <;> cases y <;> first | exact this | (rename_i a k b; cases a <;> first | exact hy | exact this) | skip
 intro c hc
 rcases List.mem_append.1 hc with hc | hc
 ·exact hx c hc
 ·exact hy c hc
def Els.sub (x : Els) (lo n : Nat) : Els := match x with
 | .vs l => .vs ((l.drop lo).take n)
 | .cs l => .cs ((l.drop lo).take n)
 | .ns k l => .ns k ((l.drop lo).take n)
theorem Els.den_sub (e : Env) (x : Els) (lo n : Nat) : (x.sub lo n).den e = ((x.den e).drop lo).take n := by
 cases x <;> simp [Els.sub, Els.den]
theorem Els.sub_lt {m : Nat} {x : Els} (h : x.lt m) (lo n : Nat) : (x.sub lo n).lt m := by
 cases x <;> first | exact fun c hc => h c (List.mem_of_mem_drop (List.mem_of_mem_take hc)) | exact ⟨h.1, fun c hc => h.2 c (List.mem_of_mem_drop (List.mem_of_mem_take hc))⟩
def Els.drop (x : Els) (lo : Nat) : Els := match x with
 | .vs l => .vs (l.drop lo)
 | .cs l => .cs (l.drop lo)
 | .ns k l => .ns k (l.drop lo)
theorem Els.den_drop (e : Env) (x : Els) (lo : Nat) : (x.drop lo).den e = (x.den e).drop lo := by
 cases x <;> simp [Els.drop, Els.den]
theorem Els.drop_lt {m : Nat} {x : Els} (h : x.lt m) (lo : Nat) : (x.drop lo).lt m := by
 cases x <;> first | exact fun c hc => h c (List.mem_of_mem_drop hc) | exact ⟨h.1, fun c hc => h.2 c (List.mem_of_mem_drop hc)⟩
def Els.take (x : Els) (n : Nat) : Els := match x with
 | .vs l => .vs (l.take n)
 | .cs l => .cs (l.take n)
 | .ns k l => .ns k (l.take n)
theorem Els.den_take (e : Env) (x : Els) (n : Nat) : (x.take n).den e = (x.den e).take n := by
 cases x <;> simp [Els.take, Els.den]
theorem Els.take_lt {m : Nat} {x : Els} (h : x.lt m) (n : Nat) : (x.take n).lt m := by
 cases x <;> first | exact fun c hc => h c (List.mem_of_mem_take hc) | exact ⟨h.1, fun c hc => h.2 c (List.mem_of_mem_take hc)⟩
theorem szs_app {α : Type} {sz : Nat} {x y : List (List α)} (hx : ∀ c ∈ x, c.length = sz) (hy : ∀ c ∈ y, c.length = sz) : ∀ c ∈ x ++ y, c.length = sz := fun c hc => by
 rcases List.mem_append.1 hc with hc | hc
 ·exact hx c hc
 ·exact hy c hc
theorem szs_take {α : Type} {sz : Nat} {x : List (List α)} (hx : ∀ c ∈ x, c.length = sz) (n : Nat) : ∀ c ∈ x.take n, c.length = sz := fun c hc => hx c (List.mem_of_mem_take hc)
theorem szs_drop {α : Type} {sz : Nat} {x : List (List α)} (hx : ∀ c ∈ x, c.length = sz) (n : Nat) : ∀ c ∈ x.drop n, c.length = sz := fun c hc => hx c (List.mem_of_mem_drop hc)
theorem OwnB.one {ety esz g cap : Nat} {xs : List (List Value)} (h : OwnB w ety esz g cap xs) : ∀ u ∈ xs.flatten, u.oneCell' = true := by
 obtain ⟨_, _, _, _, cur, _, _, h7, h8⟩ := h
 intro u hu
 rw [← h7] at hu
 exact h8 u (List.mem_of_mem_take hu)
theorem zero_one {z : Value} (hz : z.cells.toList.all Value.oneCell' = true) (hp : 0 < z.cells.size) (m : Nat) : ∀ u ∈ (Builtin.zeroCells z.cells m).toList, u.oneCell' = true := by
 intro u hu
 simp only [Builtin.zeroCells, Array.toList_map, List.mem_map] at hu
 obtain ⟨i, _, rfl⟩ := hu
 have hi : i % z.cells.size < z.cells.size := Nat.mod_lt _ hp
 rw [getElem!_pos z.cells _ hi]
 exact List.all_eq_true.1 hz _ (by simp)
theorem own_grown {el esz need cap : Nat} {zs : List (List Value)} {z : Value} (w : World) (hzs : z.cells.size = esz) (hz1 : z.cells.toList.all Value.oneCell' = true) (hpos : 0 < esz) (hn : zs.length = need) (hsz : ∀ c ∈ zs, c.length = esz) (h1 : ∀ u ∈ zs.flatten, u.oneCell' = true) (hc : need ≤ cap) (hcm : cap ≤ maxLen) (h0 : 0 < need) :
  OwnB (w.drew.alloc (.cells (zs.flatten.toArray ++ Builtin.zeroCells z.cells (cap - need)) el)) el esz w.heap.size cap zs := by
 have hl : zs.flatten.length = need * esz := by rw [flat_len hsz, hn]
 refine ⟨hsz, by omega, hcm, by omega, _, heap_alloc_new w.drew _, ?_, ?_, fun u hu => ?_⟩
 ·simp only [Array.size_append, List.size_toArray, size_zeroCells, hzs, hl, ← Nat.add_mul]
  congr 1; omega
 ·rw [hn, Array.toList_append, List.take_append_of_le_length (by simp [hl]), ← hl]
  exact List.take_length
 ·rw [Array.toList_append] at hu
  rcases List.mem_append.1 hu with hu | hu
  ·exact h1 u (by simpa using hu)
  ·exact zero_one hz1 (by omega) _ u hu
theorem run_append_E {P : Program} {t el : TypeId} {j : TypeInfo} {z : Value} (ty : TypeId) (hu : P.underlying t = some (.slice el)) (hj : P.info? el = some j) (hz : j.zero = some z) {esz : Nat} (hjs : j.size = esz) (hzs : z.cells.size = esz) (hz1 : z.cells.toList.all Value.oneCell' = true) (hpos : 0 < esz)
  {v : Value} {n : Nat} {xs : List (List Value)} (hown : OwnE w el esz v n xs) {A : Option Addr} {m c : Nat} {ys : List (List Value)} (hyl : ys.length = m) (hysz : ∀ c ∈ ys, c.length = esz) (hcell : 0 < m → ∃ p, A = some p ∧ ∀ i u, ys.flatten[i]? = some u → w.cell? (p.add i) = some u) (hy1 : ∀ u ∈ ys.flatten, u.oneCell' = true)
  (hnm : n + m ≤ 140737488355328) (hb : (n + m) * j.bytes ≤ 140737488355328) :
  ∃ v' w', (Builtin.append_ #[t, t] ty #[v, .slice A m c]).run P w = .ok v' w' ∧ OwnE w' el esz v' (n + m) (xs ++ ys) ∧ w'.os = w.os ∧ w'.tape = w.tape ∧ w'.output = w.output ∧ w.heap.size ≤ w'.heap.size ∧ (∀ x, x < w.heap.size → ¬ rfoot v x → w'.heap[x]? = w.heap[x]?) ∧ ∀ x, rfoot v' x → rfoot v x ∨ w.heap.size ≤ x := by
 subst hjs
 obtain ⟨hxl, hxsz, hv⟩ := hown
 have hyfl : ys.flatten.length = m * j.size := by rw [flat_len hysz, hyl]
 have hall : ∀ c ∈ xs ++ ys, c.length = j.size := szs_app hxsz hysz
 have hlen : (xs ++ ys).length = n + m := by rw [List.length_append, hxl, hyl]
 rcases Nat.eq_zero_or_pos m with hm | hm
 ·
  subst hm
  have hy : ys = [] := List.eq_nil_of_length_eq_zero hyl
  subst hy
  rw [List.append_nil, Nat.add_zero]
  refine ⟨v, w, ?_, ⟨hxl, hxsz, hv⟩, rfl, rfl, rfl, Nat.le_refl _, fun _ _ _ => rfl, fun x hx => .inl hx⟩
  have hf : ∀ (A : Option Addr), (Builtin.firstCells j.size 0 (.slice A 0 c)).run P w = .ok #[] w := fun A => by cases A <;> simp [Builtin.firstCells, loadCells, loadCellsFrom]
  rcases hv with ⟨B, rfl, hn⟩ | ⟨g, cap, rfl, hB⟩
  ·cases B <;> simp [Builtin.append_, run_underlying hu, run_sizeOf hj, Builtin.lenOf, hf, storeCells]
  ·have : n ≤ cap := by rw [← hxl]; exact hB.2.1
   simp [Builtin.append_, run_underlying hu, run_sizeOf hj, Builtin.lenOf, hf, this, storeCells]
 ·obtain ⟨p, rfl, hcl⟩ := hcell hm
  clear hcell
  have grown : ∀ cap, n + m ≤ cap → cap ≤ maxLen → (∃ v' w', .ok (.slice (some ⟨w.heap.size, 0, none⟩) (n + m) cap) (w.drew.alloc (.cells (xs.flatten.toArray ++ ys.flatten.toArray ++ Builtin.zeroCells z.cells (cap - (n + m))) el)) = Result.ok v' w' ∧ OwnE w' el j.size v' (n + m) (xs ++ ys) ∧ w'.os = w.os ∧ w'.tape = w.tape ∧ w'.output = w.output ∧ w.heap.size ≤ w'.heap.size ∧ (∀ x, x < w.heap.size → ¬ rfoot v x → w'.heap[x]? = w.heap[x]?) ∧ ∀ x, rfoot v' x → rfoot v x ∨ w.heap.size ≤ x) := by
   intro cap hc hcm
   have hx1 : ∀ u ∈ xs.flatten, u.oneCell' = true := by
    rcases hv with ⟨B, _, hn⟩ | ⟨g, cap, _, hB⟩
    ·have : xs = [] := List.eq_nil_of_length_eq_zero (by omega)
     subst this
     intro u hu; cases hu
    ·exact hB.one
   have hO := own_grown (el := el) (esz := j.size) (need := n + m) (cap := cap) (zs := xs ++ ys) (z := z) w hzs hz1 hpos hlen hall (fun u hu => by
    rw [List.flatten_append] at hu
    rcases List.mem_append.1 hu with hu | hu
    ·exact hx1 u hu
    ·exact hy1 u hu) hc hcm (by omega)
   rw [List.flatten_append, ← List.append_toArray] at hO
   refine ⟨_, _, rfl, ⟨hlen, hall, .inr ⟨_, _, rfl, hO⟩⟩, rfl, rfl, rfl, by simp, fun x hx _ => heap_alloc_old w.drew _ hx, ?_⟩
   rintro x ⟨q, k, c', hq, _, rfl⟩
   injection hq with hq
   injection hq with hq
   subst hq
   exact .inr (Nat.le_refl _)
  have hge := grownCap_ge w (n + m)
  rcases hv with ⟨B, rfl, hn⟩ | ⟨g, cap, rfl, hB⟩
  ·subst hn
   have hx : xs = [] := List.eq_nil_of_length_eq_zero hxl
   subst hx
   have hgr := grown (grownCap w (0 + m) 0 el) (hge 0 el) (grownCap_le_maxLen w _ _ _ (by simp only [maxLen]; omega))
   cases B with
   |none =>
    have hr := run_append_nil (P := P) w t ty el j z hu hj hz p m c ys.flatten hyfl hcl hm (by omega) (by have hb := hb; simp only [Nat.zero_add] at hb; omega)
    simp only [Nat.zero_add, List.flatten_nil, Array.empty_append, List.nil_append] at hgr ⊢
    rw [hr]
    exact hgr
   |some q =>
    have hr := run_append_grow (P := P) w t ty el j z hu hj hz q 0 0 [] (by simp) (fun i u hu => by simp at hu) p m c ys.flatten hyfl hcl (by omega) (by omega) (growslice_fits (by omega) hb)
    rw [hr]
    exact hgr
  ·have hnc : n ≤ cap := by rw [← hxl]; exact hB.2.1
   by_cases hroom : n + m ≤ cap
   ·obtain ⟨h1, h2, h3, h4, cur, h5, h6, h7, h8⟩ := hB
    have hfit : n * j.size + ys.flatten.length ≤ cur.size := by rw [hyfl, h6, ← Nat.add_mul]; exact Nat.mul_le_mul_right _ hroom
    have hr := run_append_room (P := P) w t ty el j hu hj g n cap cur h5 p m c ys.flatten hyfl hcl hy1 hroom hfit
    rw [hr]
    have hfl : (cur.toList.take (n * j.size)).length = n * j.size := by rw [List.length_take, Nat.min_eq_left]; have := Nat.mul_le_mul_right j.size hnc; simp only [Array.length_toList]; omega
    refine ⟨_, _, rfl, ⟨hlen, hall, .inr ⟨g, cap, rfl, hall, by omega, h3, h4, _, setRow_heap w g cur _ el _ h5, ?_, ?_, fun u hu => ?_⟩⟩, rfl, rfl, rfl, by simp [World.setRow], fun x hx hnf => setRow_other w g x _ (fun e1 => hnf ⟨_, _, _, rfl, h4, e1.symm⟩), fun x hx => ?_⟩
    ·simp only [List.size_toArray, List.length_append, List.length_drop, Array.length_toList, hfl, hyfl]
     have : n * j.size + m * j.size ≤ cap * j.size := by rw [← Nat.add_mul]; exact Nat.mul_le_mul_right _ hroom
     omega
    ·rw [hlen, List.flatten_append, ← h7, hxl]
     have e1 : (cur.toList.take (n * j.size) ++ ys.flatten).length = (n + m) * j.size := by rw [List.length_append, hfl, hyfl, ← Nat.add_mul]
     rw [← e1]
     exact List.take_left
    ·have hu : u ∈ cur.toList.take (n * j.size) ++ ys.flatten ++ cur.toList.drop (n * j.size + ys.flatten.length) := by simpa using hu
     rcases List.mem_append.1 hu with hu | hu
     ·rcases List.mem_append.1 hu with hu | hu
      ·exact h8 u (List.mem_of_mem_take hu)
      ·exact hy1 u hu
     ·exact h8 u (List.mem_of_mem_drop hu)
    ·obtain ⟨q, k, c', hq, hc', rfl⟩ := hx
     injection hq with hq _ hq3
     injection hq with hq
     subst hq
     exact .inl ⟨_, _, _, rfl, h4, rfl⟩
   ·have hcl2 : ∀ i u, xs.flatten[i]? = some u → w.cell? ((⟨g, 0, none⟩ : Addr).add i) = some u := fun i u hu => by rw [addr_mid]; exact hB.cells i u hu
    have hr := run_append_grow (P := P) w t ty el j z hu hj hz ⟨g, 0, none⟩ n cap xs.flatten (by rw [flat_len hxsz, hxl]) hcl2 p m c ys.flatten hyfl hcl (by omega) (by omega) (growslice_fits (by omega) hb)
    rw [hr]
    exact grown (grownCap w (n + m) cap el) (hge cap el) (grownCap_le_maxLen w _ _ _ (by simp only [maxLen]; omega))
def SrcOk (X : Cx) (S : St) (esz : Nat) (x : Operand) (m : Nat) (ys : Els) : Prop := ∀ e a w, Rep X e S a w →
 ∃ A c, a.eval x = .slice A m c ∧ ys.lt S.nx ∧ (ys.den e).length = m ∧ (∀ c ∈ ys.den e, c.length = esz) ∧ (0 < m → ∃ p, A = some p ∧ ∀ i u, (ys.den e).flatten[i]? = some u → w.cell? (p.add i) = some u)
def srcK (S : St) (esz : Nat) (x : Operand) (K : Nat → Els → Prop) : Prop := match S.ev x with
 |some (.c (.row k)) => (match get S.H k with
  |some (.row _ sz m ys) => (match Nat.beq sz esz with
   | true => K m ys
   | false => False)
  |some (.ext sz m ys) => (match Nat.beq sz esz with
   | true => K m ys
   | false => False)
  | _ => False)
 |some (.c (.sl k lo m)) => (match get S.H k with
  |some (.buf _ sz _ ys) => (match Nat.beq sz esz with
   | true => needP (lo + m ≤ ys.len) (K m (ys.sub lo m))
   | false => False)
  | _ => False)
 | some (.c (.v (.slice none 0 0))) => K 0 (.vs [])
 | _ => False
theorem srcK_get {esz : Nat} {x : Operand} {K : Nat → Els → Prop} (hk : srcK S esz x K) : ∃ m ys, K m ys ∧ SrcOk X S esz x m ys := by
 unfold srcK at hk
 split at hk
 ·rename_i k hx
  have fin : ∀ (m : Nat) (ys : Els), ((∃ ety, get S.H k = some (.row ety esz m ys)) ∨ get S.H k = some (.ext esz m ys)) → SrcOk X S esz x m ys := by
   intro m ys hH e a w h
   have hH2 : (∃ ety esz xs, get S.H k = some (.row ety esz m xs)) ∨ ∃ esz xs, get S.H k = some (.ext esz m xs) := hH.imp (fun ⟨t, h⟩ => ⟨t, _, _, h⟩) (fun h => ⟨_, _, h⟩)
   have hlen := row_len h.v hH2
   have hrow : isRow S k ys := hH.elim (fun ⟨t, h⟩ => .inl ⟨t, _, _, h⟩) (fun h => .inr (.inl ⟨_, _, h⟩))
   have hsz := row_szs h.v hrow
   have hes : e.es k = esz := by rcases hH with ⟨_, hH⟩ | hH <;> exact (h.hp k _ hH).2.1
   have hml : (ys.den e).length = m := by rcases hH with ⟨_, hH⟩ | hH <;> exact (h.hp k _ hH).1.1
   obtain ⟨A, c, hv, _⟩ := hlen
   refine ⟨A, c, by rw [(h.ev_den hx).1]; exact hv, row_lt h.v hrow, hml, by rw [← hes]; exact hsz, fun hm => ?_⟩
   obtain ⟨c', hv'⟩ := row_value h.v hH2 hm
   rw [hv] at hv'
   injection hv' with h1
   exact ⟨_, h1, row_flat h.v hrow⟩
  split at hk
  ·rename_i ety sz m ys hH
   split at hk
   ·rename_i h2
    have h2 := Nat.eq_of_beq_eq_true h2
    subst h2
    exact ⟨m, ys, hk, fin m ys (.inl ⟨_, hH⟩)⟩
   ·exact hk.elim
  ·rename_i sz m ys hH
   split at hk
   ·rename_i h2
    have h2 := Nat.eq_of_beq_eq_true h2
    subst h2
    exact ⟨m, ys, hk, fin m ys (.inr hH)⟩
   ·exact hk.elim
  ·exact hk.elim
 ·rename_i k lo m hx
  split at hk
  ·rename_i ety sz cap ys hH
   split at hk
   ·rename_i h2
    have h2 := Nat.eq_of_beq_eq_true h2
    subst h2
    obtain ⟨hle, hk⟩ := need_get hk
    refine ⟨m, _, hk, fun e a w h => ?_⟩
    obtain ⟨hb, hes, hcp, hra⟩ := h.hp k _ hH
    have hsz := hb.1
    refine ⟨_, _, (h.ev_den hx).1, Els.sub_lt (h.hlt k _ hH).2 _ _, ?_, ?_, fun _ => ⟨_, rfl, fun i u hu => ?_⟩⟩
    ·rw [Els.den_sub, List.length_take, List.length_drop, Els.den_len]; omega
    ·rw [Els.den_sub]; exact szs_take (szs_drop hsz _) _
    ·rw [Els.den_sub, flat_take (szs_drop hsz _), flat_drop hsz] at hu
     rw [addr_add, hra, addr_mid, hes]
     refine hb.cells _ _ ?_
     exact take_drop_get rfl i u hu
   ·exact hk.elim
  ·exact hk.elim
 ·rename_i hx
  exact ⟨0, _, hk, fun e a w h => ⟨none, 0, (h.ev_den hx).1, (fun c hc => by cases hc), rfl, (fun c hc => by cases hc), fun hm => absurd hm (Nat.lt_irrefl 0)⟩⟩
 ·exact hk.elim
theorem Els.nil_app (y : Els) : (Els.vs []).app y = y := by cases y <;> rfl
theorem get_of_take {α : Type} {l : List α} {n i : Nat} {u : α} (h : (l.take n)[i]? = some u) : l[i]? = some u := by
 rw [List.getElem?_take] at h
 split at h
 ·exact h
 ·cases h
def St.killed (S : St) : Option Nat → St
 | some k => S.setH k .dead
 | none => S
theorem killed_nx (S : St) (k : Option Nat) : (S.killed k).nx = S.nx := by cases k <;> cases S <;> rfl
def zeroE (ti : TI) : List Value := ti.zero.cells.toList
def okZero (ti : TI) : Bool := match Nat.beq ti.zero.cells.size ti.size with
 |true => (match Nat.blt 0 ti.size with
  | true => ti.zero.cells.toList.all Value.oneCell'
  | false => false)
 | false => false
theorem okZero_get {ti : TI} (h : okZero ti = true) : ti.zero.cells.size = ti.size ∧ 0 < ti.size ∧ ti.zero.cells.toList.all Value.oneCell' = true := by
 unfold okZero at h
 split at h
 ·rename_i h1
  split at h
  ·rename_i h2
   exact ⟨Nat.eq_of_beq_eq_true h1, blt_iff.1 h2, h⟩
  ·cases h
 ·cases h
def xAppend (X : Cx) (S : St) (d : Option Nat) (t : Nat) (s x : Operand) (K : St → Prop) : Prop := match get X.T t with
 |some ti => (match ti.d with
  |.slice el => (match get X.T el with
   |some ei => (match okZero ei with
    |true => (match S.ev s with
     |some (.c (.row k)) => (match get S.H k with
      |some (.row ety sz n xs) => (match Nat.beq ety el with
       |true => (match Nat.beq sz ei.size with
        | true => srcK S ei.size x fun m ys => needP ((n + m) * ei.bytes ≤ 140737488355328 ∧ n + m ≤ 140737488355328) (K (((S.setH k .dead).new (.row el ei.size (n + m) (xs.app ys))).put d (.c (.row S.nx))))
        | false => False)
       | false => False)
      | _ => False)
     | some (.c (.v (.slice none 0 0))) => srcK S ei.size x fun m ys => needP (m * ei.bytes ≤ 140737488355328 ∧ m ≤ 140737488355328) (K ((S.new (.row el ei.size m ys)).put d (.c (.row S.nx))))
     |some (.c (.sl k 0 n)) => (match get S.H k with
      |some (.buf ety sz cap xs) => (match Nat.beq ety el with
       |true => (match Nat.beq sz ei.size with
        | true => srcK S ei.size x fun m ys => needP (n ≤ xs.len) (brP (decide (n + m ≤ cap))
          (K ((S.setH k (.buf el ei.size cap ((xs.take n).app (ys.app (xs.drop (n + m)))))).put d (.c (.sl k 0 (n + m)))))
          (needP ((n + m) * ei.bytes ≤ 140737488355328 ∧ n + m ≤ 140737488355328) (∀ cap', n + m ≤ cap' → cap' ≤ maxLen → K ((S.new (.buf el ei.size cap' ((xs.take n).app ys))).put d (.c (.sl S.nx 0 (n + m)))))))
        | false => False)
       | false => False)
      | _ => False)
     |some (.c (.sl k (lo + 1) n)) => (match get S.H k with
      |some (.buf ety sz cap xs) => (match Nat.beq ety el with
       |true => (match Nat.beq sz ei.size with
        | true => srcK S ei.size x fun m ys => needP (lo + 1 + n ≤ xs.len) (brP (decide (n + m ≤ cap - (lo + 1)))
          (K ((S.setH k (.buf el ei.size cap ((xs.take (lo + 1 + n)).app (ys.app (xs.drop (lo + 1 + n + m)))))).put d (.c (.sl k (lo + 1) (n + m)))))
          (needP ((n + m) * ei.bytes ≤ 140737488355328 ∧ n + m ≤ 140737488355328) (∀ cap', n + m ≤ cap' → cap' ≤ maxLen → K ((S.new (.buf el ei.size cap' (((xs.drop (lo + 1)).take n).app ys))).put d (.c (.sl S.nx 0 (n + m)))))))
        | false => False)
       | false => False)
      | _ => False)
     | _ => False)
    | false => False)
   | none => False)
  | _ => False)
 | none => False
theorem flat_all {xs : Els} {n : Nat} (ho : ∀ k, (e.rv k).oneCell' = true) (h : xs.lt n) : ∀ u ∈ (xs.den e).flatten, u.oneCell' = true := fun u hu => by
 obtain ⟨c, hc, hu⟩ := List.mem_flatten.1 hu
 exact Els.one_of ho h c hc u hu
theorem run_append_op {P : Program} {o : Oper} {s x : Operand} {t t' : Nat} {v u r : Value} {w w' : World} (ho : o.op = .call { callee := .builtin .append, args := #[s, x], argTypes := #[t, t'] }) (hs : a.eval s = v) (hx : a.eval x = u)
  (hr : (Builtin.append_ #[t, t'] o.type #[v, u]).run P w = .ok r w') : (execOp a.eval o).run P w = .ok (.value r) w' := by
 simp [execOp, ho, resolve, invoke, builtin, hs, hx, hr]
theorem append_row_ok (hT : TabOk X.P X.T) (h : Rep X e S a w) {o : Oper} (hd : dstOk X.nt o.dst = true) {t el : Nat} {s x : Operand} (ho : o.op = .call { callee := .builtin .append, args := #[s, x], argTypes := #[t, t] }) {ti ei : TI} (hti : get X.T t = some ti) (hdd : ti.d = .slice el) (hei : get X.T el = some ei) (hz : okZero ei = true)
  {k : Option Nat} {v : Value} {n m : Nat} {xs ys : Els} (hv : a.eval s = v) (hown : OwnE w el ei.size v n (xs.den e)) (hlx : xs.lt S.nx) (hk : ∀ j, k = some j → get S.H j = some (.row el ei.size n xs) ∧ v = e.rv j) (hkn : k = none → ∀ x, ¬ rfoot v x) (hsrc : SrcOk X S ei.size x m ys)
  (hb : (n + m) * ei.bytes ≤ 140737488355328) (hnm : n + m ≤ 140737488355328) : ∃ v' w', (execOp a.eval o).run X.P w = .ok (.value v') w' ∧ Rep X (e.withRow S.nx v' ei.size) (((S.killed k).new (.row el ei.size (n + m) (xs.app ys))).put o.dst (.c (.row S.nx))) (a.put o.dst v') w' := by
 have hu := (TabOk.get hT hti).1
 rw [hdd] at hu
 obtain ⟨_, j, hj, hjz, hjs, hjb, _⟩ := TabOk.get hT hei
 obtain ⟨z1, z2, z3⟩ := okZero_get hz
 obtain ⟨A, c, hx, hly, hyl, hysz, hcell⟩ := hsrc e a w h
 obtain ⟨v', w', hrun, hown', h1, h2, h3, h4, h5, h6⟩ := run_append_E o.type hu hj hjz hjs z1 z3 z2 hown hyl hysz hcell (flat_all h.one hly) hnm (by rw [hjb]; exact hb)
 refine ⟨v', w', run_append_op ho hv hx hrun, ?_⟩
 rw [← Els.den_app] at hown'
 have hlt := Els.app_lt hlx hly
 have hR : Rep X (e.withRow S.nx v' ei.size) ((S.killed k).new (.row el ei.size (n + m) (xs.app ys))) a w' := by
  cases k with
  |none =>
   have hn := hkn rfl
   exact h.newRow hlt h1 h2 h3 h4 (fun y hy => h5 y (h.kept_lt hy) (hn y)) hown' (fun y hy => by
    rcases h6 y hy with hy | hy
    ·exact absurd hy (hn y)
    ·exact h.not_kept_new hy)
  |some kk =>
   obtain ⟨hH, hvk⟩ := hk kk rfl
   have hkill := h.kill kk (h.hlt kk _ hH).1
   have hfoot : ∀ y, rfoot v y → (Blk.row el ei.size n xs).foot e kk y := fun y hy => by rw [hvk] at hy; exact hy
   have hkept : ∀ y, Kept e (S.setH kk .dead) S.nx y → Kept e S kk y := by
    rintro y (hy | ⟨k', b', hk', hne, hy⟩ | hy)
    ·exact .inl hy
    ·rcases get_cons hk' with ⟨e1, e2⟩ | ⟨hne', hk2⟩
     ·subst e2; exact hy.elim
     ·exact .inr (.inl ⟨k', b', hk2, Ne.symm hne', hy⟩)
    ·exact .inr (.inr hy)
   have := hkill.newRow (xs := xs.app ys) (v := v') (esz := ei.size) (ety := el) (n := n + m) hlt h1 h2 h3 h4 (fun y hy => h5 y (hkill.kept_lt hy) (fun hf => h.not_kept hH (hfoot y hf) (hkept y hy))) hown' (fun y hy => by
    rcases h6 y hy with hy | hy
    ·exact fun hk => h.not_kept hH (hfoot y hy) (hkept y hk)
    ·exact hkill.not_kept_new hy)
   exact this
 have hp := hR.put (d := o.dst) (v := .c (.row S.nx)) hd (blt_iff.2 (by show S.nx < (S.killed k).nx + 1; rw [killed_nx]; omega))
 simp only [SV.den, C.den, Env.withRow_rv] at hp
 exact hp
theorem OwnB.splices {ety esz g cap i : Nat} {xs ys : List (List Value)} (h : OwnB w ety esz g cap xs) (hi : i ≤ xs.length) (hle : i + ys.length ≤ cap) (hysz : ∀ c ∈ ys, c.length = esz) (hv1 : ∀ u ∈ ys.flatten, u.oneCell' = true) :
  OwnB (w.setCells g (i * esz) ys.flatten) ety esz g cap (xs.take i ++ (ys ++ xs.drop (i + ys.length))) ∧ ∃ cur : List Value, w.heap[g]? = some (.cells cur.toArray ety (0, 0)) ∧ i * esz + ys.flatten.length ≤ cur.length := by
 obtain ⟨h1, h2, h3, h4, cur, h5, h6, h7, h8⟩ := h
 have h5' : w.heap[g]? = some (.cells cur.toList.toArray ety (0, 0)) := by simpa using h5
 have hyfl : ys.flatten.length = ys.length * esz := flat_len hysz
 have hsz := szs_app (szs_take h1 i) (szs_app hysz (szs_drop h1 (i + ys.length)))
 have hcl : cur.toList.length = cap * esz := by simpa using h6
 have hb : i * esz + ys.length * esz ≤ cap * esz := by rw [← Nat.add_mul]; exact Nat.mul_le_mul_right _ hle
 refine ⟨⟨hsz, by simp; omega, h3, h4, _, heap_setCells g ety ys.flatten _ w _ h5', by simpa [length_splice] using h6, ?_, fun u hu => ?_⟩, _, h5', by rw [hyfl, hcl]; exact hb⟩
 ·
  have hlen : (xs.take i ++ (ys ++ xs.drop (i + ys.length))).length = max xs.length (i + ys.length) := by simp; omega
  have hpre : cur.toList.take (i * esz) = (xs.take i).flatten := by
   rw [flat_take h1, ← h7, List.take_take, Nat.min_eq_left]
   exact Nat.mul_le_mul_right _ hi
  have hsp : splice cur.toList (i * esz) ys.flatten = cur.toList.take (i * esz) ++ ys.flatten ++ cur.toList.drop (i * esz + ys.flatten.length) := by
   have over : ∀ (vs p x : List Value), vs.length ≤ x.length → splice (p ++ x) p.length vs = p ++ (vs ++ x.drop vs.length) := by
    intro vs
    induction vs with
    | nil => intro p x _; rfl
    |cons v r ih =>
     intro p x hx
     cases x with
     | nil => simp at hx
     |cons y x =>
      rw [splice, List.set_append_right _ _ (Nat.le_refl _), Nat.sub_self, List.set_cons_zero]
      have := ih (p ++ [v]) x (by simpa using hx)
      simp only [List.append_assoc, List.singleton_append, List.length_append, List.length_singleton] at this
      rw [this]; simp
   have h0 : cur.toList = cur.toList.take (i * esz) ++ cur.toList.drop (i * esz) := (List.take_append_drop _ _).symm
   have l0 : (cur.toList.take (i * esz)).length = i * esz := by rw [List.length_take, hcl]; omega
   conv => lhs; rw [h0]
   have := over ys.flatten (cur.toList.take (i * esz)) (cur.toList.drop (i * esz)) (by rw [List.length_drop, hcl, hyfl]; omega)
   rw [l0] at this
   rw [this, List.drop_drop, List.append_assoc]
  rw [hsp, hlen, hpre, List.flatten_append, List.flatten_append, flat_drop h1, ← h7, hyfl, ← Nat.add_mul, ← List.append_assoc]
  have l1 : ((xs.take i).flatten ++ ys.flatten).length = (i + ys.length) * esz := by rw [List.length_append, flat_len (szs_take h1 i), hyfl, List.length_take, Nat.min_eq_left hi, Nat.add_mul]
  rw [List.take_append, l1, List.take_of_length_le (by rw [l1]; exact Nat.mul_le_mul_right _ (Nat.le_max_right _ _)), ← Nat.sub_mul, List.drop_take]
  congr 2
  rw [← Nat.sub_mul]
  congr 1
  omega
 ·rcases mem_splice _ _ _ u hu with hu | hu
  ·exact h8 u hu
  ·exact hv1 u hu
theorem append_ok (hT : TabOk X.P X.T) (h : Rep X e S a w) {o : Oper} (hd : dstOk X.nt o.dst = true) {t : Nat} {s x : Operand} {K : St → Prop} (ho : o.op = .call { callee := .builtin .append, args := #[s, x], argTypes := #[t, t] }) (hk : xAppend X S o.dst t s x K) : Wv X a w o K := by
 intro KK Q hKK
 unfold xAppend at hk
 split at hk
 ·rename_i ti hti
  split at hk
  ·rename_i el hdd
   split at hk
   ·rename_i ei hei
    split at hk
    ·rename_i hz
     split at hk
     ·rename_i k hs
      split at hk
      ·rename_i ety sz n xs hH
       split at hk
       ·rename_i h1
        split at hk
        ·rename_i h2
         have h1 := Nat.eq_of_beq_eq_true h1
         have h2 := Nat.eq_of_beq_eq_true h2
         subst h1; subst h2
         obtain ⟨m, ys, hk, hsrc⟩ := srcK_get (X := X) hk
         obtain ⟨⟨hb, hnm⟩, hk⟩ := need_get hk
         obtain ⟨v', w', hrun, hR⟩ := append_row_ok hT h hd ho hti hdd hei hz (k := some k) (v := e.rv k) (by simpa [SV.den, C.den] using (h.ev_den hs).1) (h.hp k _ hH).1 (h.hlt k _ hH).2 (fun j hj => by injection hj with hj; subst hj; exact ⟨hH, rfl⟩) (fun hn => by cases hn) hsrc hb hnm
         exact wpo_value hrun (hKK _ _ _ _ hR hk)
        ·exact hk.elim
       ·exact hk.elim
      ·exact hk.elim
     ·rename_i hs
      obtain ⟨m, ys, hk, hsrc⟩ := srcK_get (X := X) hk
      obtain ⟨⟨hb, hnm⟩, hk⟩ := need_get hk
      obtain ⟨v', w', hrun, hR⟩ := append_row_ok hT h hd ho hti hdd hei hz (k := none) (v := .slice none 0 0) (n := 0) (xs := .vs []) (by simpa [SV.den, C.den] using (h.ev_den hs).1) ⟨rfl, fun c hc => (by cases hc), .inl ⟨none, rfl, rfl⟩⟩ (fun c hc => by cases hc) (fun j hj => by cases hj) (fun _ y hy => by
       obtain ⟨p, n, c, hv, hc, _⟩ := hy
       injection hv with hv; cases hv) hsrc (by rw [Nat.zero_add]; exact hb) (by omega)
      refine wpo_value hrun (hKK _ _ _ _ hR ?_)
      rw [Els.nil_app, Nat.zero_add]
      exact hk
     ·rename_i k n hs
      split at hk
      ·rename_i ety sz cap xs hH
       split at hk
       ·rename_i h1
        split at hk
        ·rename_i h2
         have h1 := Nat.eq_of_beq_eq_true h1
         have h2 := Nat.eq_of_beq_eq_true h2
         subst h1; subst h2
         obtain ⟨m, ys, hk, hsrc⟩ := srcK_get (X := X) hk
         obtain ⟨hnx, hk⟩ := need_get hk
         have hu := (TabOk.get hT hti).1
         rw [hdd] at hu
         obtain ⟨_, j, hj, hjz, hjs, hjb, _⟩ := TabOk.get hT hei
         obtain ⟨z1, z2, z3⟩ := okZero_get hz
         obtain ⟨A, c, hx, hly, hyl, hysz, hcell⟩ := hsrc e a w h
         obtain ⟨hown, hes, hcp, hra⟩ := h.hp k _ hH
         have hy1 := flat_all (e := e) h.one hly
         have hsd : a.eval s = .slice (some ⟨e.ad k, 0, none⟩) n cap := by
          have := (h.ev_den hs).1
          simp only [SV.den, C.den, Nat.zero_mul, hra, hcp, Nat.sub_zero] at this
          rw [this]; rfl
         have hown' := hown
         obtain ⟨b1, b2, b3, b4, cur, b5, b6, b7, b8⟩ := hown'
         have hyfl : (ys.den e).flatten.length = m * ei.size := by rw [flat_len hysz, hyl]
         rcases br_case hk with ⟨hroom, hk⟩ | ⟨hroom, hk⟩
         ·have hroom := of_decide_eq_true hroom
          have hsp := hown.splices (i := n) (ys := ys.den e) (by rw [Els.den_len]; exact hnx) (by rw [hyl]; exact hroom) hysz hy1
          rw [hyl] at hsp
          have hR := h.write (k := k) (g := e.ad k) (b0 := .buf ety ei.size cap ((xs.take n).app (ys.app (xs.drop (n + m))))) (o := n * ei.size) (vs := (ys.den e).flatten) hH rfl (Els.app_lt (Els.take_lt (h.hlt k _ hH).2 _) (Els.app_lt hly (Els.drop_lt (h.hlt k _ hH).2 _))) (fun _ hx => hx) ⟨by
           rw [Els.den_app, Els.den_app, Els.den_take, Els.den_drop]; exact hsp.1, hes, hcp, hra⟩
          have hrun : (Builtin.append_ #[t, t] o.type #[.slice (some ⟨e.ad k, 0, none⟩) n cap, .slice A m c]).run X.P w = .ok (.slice (some ⟨e.ad k, 0, none⟩) (n + m) cap) (w.setCells (e.ad k) (n * ei.size) (ys.den e).flatten) := by
           have hf : (Builtin.firstCells j.size m (.slice A m c)).run X.P w = .ok (ys.den e).flatten.toArray w := by
            rcases Nat.eq_zero_or_pos m with hm | hm
            ·subst hm
             have : ys.den e = [] := List.eq_nil_of_length_eq_zero hyl
             rw [this]
             cases A <;> simp [Builtin.firstCells, loadCells, loadCellsFrom]
            ·obtain ⟨p, rfl, hc⟩ := hcell hm
             exact run_firstCells_some (P := X.P) w j.size m p m c _ (by rw [hjs]; exact hyfl) hc
           obtain ⟨cur', hcur', hle'⟩ := hsp.2
           have hst := run_storeCells_cells (P := X.P) (e.ad k) (n * ei.size) (ys.den e).flatten 0 w (fun i hi => by
            rw [cell_of_row w _ _ cur'.toArray ety (0, 0) hcur']
            simp; omega) (fun i hi => frozen_of_row w _ _ cur'.toArray ety hcur') hy1
           simp only [Nat.add_zero] at hst
           rw [hjs] at hf
           simp [Builtin.append_, run_underlying hu, run_sizeOf hj, Builtin.lenOf, hroom, hf, Addr.add_mid, hjs, hst]
          have hp := hR.put (d := o.dst) (v := .c (.sl k 0 (n + m))) hd (blt_iff.2 (h.hlt k _ hH).1)
          simp only [SV.den, C.den, Nat.zero_mul, hra, hcp, Nat.sub_zero] at hp
          exact wpo_value (run_append_op ho hsd hx hrun) (hKK _ _ _ _ hp hk)
         ·have hroom := of_decide_eq_false hroom
          obtain ⟨⟨hb, hnm⟩, hk⟩ := need_get hk
          have hxs : (xs.den e).length = xs.len := Els.den_len e xs
          have hpre : ((xs.den e).take n).flatten.length = n * ei.size := by rw [flat_len (szs_take b1 n), List.length_take, Nat.min_eq_left (by omega)]
          have hcl : ∀ i u, ((xs.den e).take n).flatten[i]? = some u → w.cell? ((⟨e.ad k, 0, none⟩ : Addr).add i) = some u := fun i u hu => by
           rw [addr_mid]
           rw [flat_take b1] at hu
           exact hown.cells i u (get_of_take hu)
          have hm : 0 < m := by omega
          obtain ⟨p, rfl, hc⟩ := hcell hm
          have hr := run_append_grow (P := X.P) w t o.type ety j ei.zero hu hj hjz ⟨e.ad k, 0, none⟩ n cap ((xs.den e).take n).flatten (by rw [hjs]; exact hpre) hcl p m c (ys.den e).flatten (by rw [hjs]; exact hyfl) hc (by omega) (by omega) (growslice_fits (by omega) (by rw [hjb]; exact hb))
          have hge := grownCap_ge w (n + m) cap ety
          have hgm := grownCap_le_maxLen w (n + m) cap ety (by simp only [maxLen]; omega)
          have hall := szs_app (szs_take b1 n) hysz
          have hO := own_grown (el := ety) (esz := ei.size) (need := n + m) (cap := grownCap w (n + m) cap ety) (zs := (xs.den e).take n ++ ys.den e) (z := ei.zero) w z1 z3 z2 (by rw [List.length_append, List.length_take, Nat.min_eq_left (by omega), hyl]) hall (fun u hu => by
           rw [List.flatten_append] at hu
           rcases List.mem_append.1 hu with hu | hu
           ·rw [flat_take b1] at hu; exact hown.one u (List.mem_of_mem_take hu)
           ·exact hy1 u hu) hge hgm (by omega)
          rw [List.flatten_append, ← List.append_toArray] at hO
          have hR := h.newBuf (ety := ety) (esz := ei.size) (cap := grownCap w (n + m) cap ety) (g := w.heap.size) (xs := (xs.take n).app ys) (Els.app_lt (Els.take_lt (h.hlt k _ hH).2 _) hly) (w' := w.drew.alloc (.cells (((xs.den e).take n).flatten.toArray ++ (ys.den e).flatten.toArray ++ Builtin.zeroCells ei.zero.cells (grownCap w (n + m) cap ety - (n + m))) ety)) rfl rfl rfl (by simp) (fun x hx => heap_alloc_old w.drew _ (h.kept_lt hx)) (by rw [Els.den_app, Els.den_take]; exact hO) (h.not_kept_new (Nat.le_refl _))
          have hp := hR.put (d := o.dst) (v := .c (.sl S.nx 0 (n + m))) hd (blt_iff.2 (Nat.lt_succ_self _))
          obtain ⟨q1, q2, q3, q4⟩ := Env.withBuf_at e S.nx w.heap.size ei.size (grownCap w (n + m) cap ety)
          simp only [SV.den, C.den, Nat.zero_mul, q2, q4, Nat.sub_zero] at hp
          exact wpo_value (run_append_op ho hsd hx hr) (hKK _ _ _ _ hp (hk _ hge hgm))
        ·exact hk.elim
       ·exact hk.elim
      ·exact hk.elim
     ·rename_i k lo n hs
      split at hk
      ·rename_i ety sz cap xs hH
       split at hk
       ·rename_i h1
        split at hk
        ·rename_i h2
         have h1 := Nat.eq_of_beq_eq_true h1
         have h2 := Nat.eq_of_beq_eq_true h2
         subst h1; subst h2
         obtain ⟨m, ys, hk, hsrc⟩ := srcK_get (X := X) hk
         obtain ⟨hnx, hk⟩ := need_get hk
         have hu := (TabOk.get hT hti).1
         rw [hdd] at hu
         obtain ⟨_, j, hj, hjz, hjs, hjb, _⟩ := TabOk.get hT hei
         obtain ⟨z1, z2, z3⟩ := okZero_get hz
         obtain ⟨A, c, hx, hly, hyl, hysz, hcell⟩ := hsrc e a w h
         obtain ⟨hown, hes, hcp, hra⟩ := h.hp k _ hH
         have hy1 := flat_all (e := e) h.one hly
         have hsd : a.eval s = .slice (some ⟨e.ad k, (lo + 1) * ei.size, none⟩) n (cap - (lo + 1)) := by
          have := (h.ev_den hs).1
          simp only [SV.den, C.den, hra, hcp, hes, addr_mid] at this
          exact this
         have hown' := hown
         obtain ⟨b1, b2, b3, b4, cur, b5, b6, b7, b8⟩ := hown'
         have hyfl : (ys.den e).flatten.length = m * ei.size := by rw [flat_len hysz, hyl]
         rcases br_case hk with ⟨hroom, hk⟩ | ⟨hroom, hk⟩
         ·have hroom := of_decide_eq_true hroom
          have hsp := hown.splices (i := lo + 1 + n) (ys := ys.den e) (by rw [Els.den_len]; exact hnx) (by rw [hyl]; rw [Els.den_len] at b2; omega) hysz hy1
          rw [hyl] at hsp
          have hR := h.write (k := k) (g := e.ad k) (b0 := .buf ety ei.size cap ((xs.take (lo + 1 + n)).app (ys.app (xs.drop (lo + 1 + n + m))))) (o := (lo + 1 + n) * ei.size) (vs := (ys.den e).flatten) hH rfl (Els.app_lt (Els.take_lt (h.hlt k _ hH).2 _) (Els.app_lt hly (Els.drop_lt (h.hlt k _ hH).2 _))) (fun _ hx => hx) ⟨by
           rw [Els.den_app, Els.den_app, Els.den_take, Els.den_drop]; exact hsp.1, hes, hcp, hra⟩
          have hrun : (Builtin.append_ #[t, t] o.type #[.slice (some ⟨e.ad k, (lo + 1) * ei.size, none⟩) n (cap - (lo + 1)), .slice A m c]).run X.P w = .ok (.slice (some ⟨e.ad k, (lo + 1) * ei.size, none⟩) (n + m) (cap - (lo + 1))) (w.setCells (e.ad k) ((lo + 1 + n) * ei.size) (ys.den e).flatten) := by
           have hf : (Builtin.firstCells j.size m (.slice A m c)).run X.P w = .ok (ys.den e).flatten.toArray w := by
            rcases Nat.eq_zero_or_pos m with hm | hm
            ·subst hm
             have : ys.den e = [] := List.eq_nil_of_length_eq_zero hyl
             rw [this]
             cases A <;> simp [Builtin.firstCells, loadCells, loadCellsFrom]
            ·obtain ⟨p, rfl, hc⟩ := hcell hm
             exact run_firstCells_some (P := X.P) w j.size m p m c _ (by rw [hjs]; exact hyfl) hc
           obtain ⟨cur', hcur', hle'⟩ := hsp.2
           have hst := run_storeCells_cells (P := X.P) (e.ad k) ((lo + 1 + n) * ei.size) (ys.den e).flatten 0 w (fun i hi => by
            rw [cell_of_row w _ _ cur'.toArray ety (0, 0) hcur']
            simp; omega) (fun i hi => frozen_of_row w _ _ cur'.toArray ety hcur') hy1
           simp only [Nat.add_zero] at hst
           rw [hjs] at hf
           have e1 : (lo + 1 + n) * ei.size = (lo + 1) * ei.size + n * ei.size := Nat.add_mul _ _ _
           rw [e1] at hst ⊢
           generalize (lo + 1) * ei.size = Z at hst ⊢
           simp [Builtin.append_, run_underlying hu, run_sizeOf hj, Builtin.lenOf, hroom, hf, Addr.add_mid, hjs, hst]
          have hp := hR.put (d := o.dst) (v := .c (.sl k (lo + 1) (n + m))) hd (blt_iff.2 (h.hlt k _ hH).1)
          simp only [SV.den, C.den, hra, hcp, hes, addr_mid] at hp
          exact wpo_value (run_append_op ho hsd hx hrun) (hKK _ _ _ _ hp hk)
         ·have hroom := of_decide_eq_false hroom
          obtain ⟨⟨hb, hnm⟩, hk⟩ := need_get hk
          have hxs : (xs.den e).length = xs.len := Els.den_len e xs
          have b1' := szs_drop b1 (lo + 1)
          have hdl : ((xs.den e).drop (lo + 1)).length = xs.len - (lo + 1) := by rw [List.length_drop, hxs]
          rw [hxs] at b2
          have hpre : (((xs.den e).drop (lo + 1)).take n).flatten.length = n * ei.size := by rw [flat_len (szs_take b1' n), List.length_take, Nat.min_eq_left (by omega)]
          have hcl : ∀ i u, (((xs.den e).drop (lo + 1)).take n).flatten[i]? = some u → w.cell? ((⟨e.ad k, (lo + 1) * ei.size, none⟩ : Addr).add i) = some u := fun i u hu => by
           rw [Addr.add_mid]
           rw [flat_take b1', flat_drop b1] at hu
           have hu := get_of_take hu
           rw [List.getElem?_drop] at hu
           exact hown.cells _ u hu
          have hm : 0 < m := by omega
          obtain ⟨p, rfl, hc⟩ := hcell hm
          have hr := run_append_grow (P := X.P) w t o.type ety j ei.zero hu hj hjz ⟨e.ad k, (lo + 1) * ei.size, none⟩ n (cap - (lo + 1)) (((xs.den e).drop (lo + 1)).take n).flatten (by rw [hjs]; exact hpre) hcl p m c (ys.den e).flatten (by rw [hjs]; exact hyfl) hc (by omega) (by omega) (growslice_fits (by omega) (by rw [hjb]; exact hb))
          have hge := grownCap_ge w (n + m) (cap - (lo + 1)) ety
          have hgm := grownCap_le_maxLen w (n + m) (cap - (lo + 1)) ety (by simp only [maxLen]; omega)
          have hall := szs_app (szs_take b1' n) hysz
          have hO := own_grown (el := ety) (esz := ei.size) (need := n + m) (cap := grownCap w (n + m) (cap - (lo + 1)) ety) (zs := ((xs.den e).drop (lo + 1)).take n ++ ys.den e) (z := ei.zero) w z1 z3 z2 (by rw [List.length_append, List.length_take, Nat.min_eq_left (by omega), hyl]) hall (fun u hu => by
           rw [List.flatten_append] at hu
           rcases List.mem_append.1 hu with hu | hu
           ·rw [flat_take b1', flat_drop b1] at hu; exact hown.one u (List.mem_of_mem_drop (List.mem_of_mem_take hu))
           ·exact hy1 u hu) hge hgm (by omega)
          rw [List.flatten_append, ← List.append_toArray] at hO
          have hR := h.newBuf (ety := ety) (esz := ei.size) (cap := grownCap w (n + m) (cap - (lo + 1)) ety) (g := w.heap.size) (xs := ((xs.drop (lo + 1)).take n).app ys) (Els.app_lt (Els.take_lt (Els.drop_lt (h.hlt k _ hH).2 _) _) hly) (w' := w.drew.alloc (.cells ((((xs.den e).drop (lo + 1)).take n).flatten.toArray ++ (ys.den e).flatten.toArray ++ Builtin.zeroCells ei.zero.cells (grownCap w (n + m) (cap - (lo + 1)) ety - (n + m))) ety)) rfl rfl rfl (by simp) (fun x hx => heap_alloc_old w.drew _ (h.kept_lt hx)) (by rw [Els.den_app, Els.den_take, Els.den_drop]; exact hO) (h.not_kept_new (Nat.le_refl _))
          have hp := hR.put (d := o.dst) (v := .c (.sl S.nx 0 (n + m))) hd (blt_iff.2 (Nat.lt_succ_self _))
          obtain ⟨q1, q2, q3, q4⟩ := Env.withBuf_at e S.nx w.heap.size ei.size (grownCap w (n + m) (cap - (lo + 1)) ety)
          simp only [SV.den, C.den, Nat.zero_mul, q2, q4, Nat.sub_zero] at hp
          exact wpo_value (run_append_op ho hsd hx hr) (hKK _ _ _ _ hp (hk _ hge hgm))
        ·exact hk.elim
       ·exact hk.elim
      ·exact hk.elim
     ·exact hk.elim
    ·exact hk.elim
   ·exact hk.elim
  ·exact hk.elim
 ·exact hk.elim
end
end Go.Proofs.YtgkkpefpbfadoaaGreat.Sy
namespace Go.Proofs.YtgkkpefpbfadoaaGreat.Sy
open Go Go.RowKit
section
variable {X : Cx} {e : Env} {S : St} {a : Act} {w : World}
def chunk {α : Type} (sz : Nat) : Nat → List α → List (List α)
 | 0, _ => []
 | n + 1, l => l.take sz :: chunk sz n (l.drop sz)
theorem chunk_len {α : Type} (sz : Nat) : ∀ (n : Nat) (l : List α), (chunk sz n l).length = n
 | 0, _ => rfl
 | n + 1, l => by rw [chunk, List.length_cons, chunk_len]
theorem chunk_szs {α : Type} {sz : Nat} : ∀ {n : Nat} {l : List α}, l.length = n * sz → ∀ c ∈ chunk sz n l, c.length = sz
 | 0, _, _, c, hc => by cases hc
 |n + 1, l, h, c, hc => by
  rw [Nat.add_mul] at h
  rw [chunk] at hc
  rcases List.mem_cons.1 hc with rfl | hc
  ·rw [List.length_take]; omega
  ·exact chunk_szs (by rw [List.length_drop]; omega) c hc
theorem chunk_flat {α : Type} {sz : Nat} : ∀ {n : Nat} {l : List α}, l.length = n * sz → (chunk sz n l).flatten = l
 | 0, l, h => by rw [Nat.zero_mul] at h; rw [List.eq_nil_of_length_eq_zero h]; rfl
 |n + 1, l, h => by
  rw [Nat.add_mul] at h
  rw [chunk, List.flatten_cons, chunk_flat (by rw [List.length_drop]; omega), List.take_append_drop]
theorem chunk_map {α β : Type} (f : α → β) (sz : Nat) : ∀ (n : Nat) (l : List α), (chunk sz n l).map (fun c => c.map f) = chunk sz n (l.map f)
 | 0, _ => rfl
 | n + 1, l => by rw [chunk, chunk, List.map_cons, chunk_map f, List.map_take, List.map_drop]
theorem mem_chunk {α : Type} (sz : Nat) : ∀ (n : Nat) (l : List α) (c : List α), c ∈ chunk sz n l → ∀ x ∈ c, x ∈ l
 | 0, _, c, h, x, hx => by cases h
 |n + 1, l, c, h, x, hx => by
  rw [chunk] at h
  rcases List.mem_cons.1 h with rfl | h
  ·exact List.mem_of_mem_take hx
  ·exact List.mem_of_mem_drop (mem_chunk sz n _ c h x hx)
def plainEls : List (List C) → Option (List (List Value))
 | [] => some []
 |c :: r => (match plainVals c with
  |some v => (match plainEls r with
   | some l => some (v :: l)
   | none => none)
  | none => none)
theorem plainEls_eq : ∀ {l : List (List C)} {v : List (List Value)}, plainEls l = some v → l = v.map fun c => c.map C.v
 | [], v, h => by cases h; rfl
 |c :: r, v, h => by
  simp only [plainEls] at h
  split at h
  ·rename_i x hx
   split at h
   ·rename_i l hl
    cases h
    rw [plainEls_eq hl, plainVals_eq hx]; rfl
   ·cases h
  ·cases h
def toEls (l : List (List C)) : Els := match plainEls l with
 | some v => .vs v
 | none => .cs l
theorem toEls_den (e : Env) (l : List (List C)) : (toEls l).den e = l.map fun c => c.map (C.den e) := by
 unfold toEls
 split
 ·rename_i v hv
  rw [plainEls_eq hv, List.map_map]
  exact ((List.map_congr_left fun c _ => show (c.map C.v).map (C.den e) = c from map_den_v' e c).trans (List.map_id' v)).symm
 ·rfl
theorem toEls_lt {n : Nat} {l : List (List C)} (h : ∀ c ∈ l, ltAll n c = true) : (toEls l).lt n := by
 unfold toEls
 split
 ·rename_i v hv
  intro c hc u hu
  rw [plainEls_eq hv] at h
  exact ltAll_mem (h _ (List.mem_map_of_mem hc)) (.v u) (List.mem_map_of_mem hu)
 ·exact h
theorem run_buildSlice' {P : Program} (w : World) (t el : TypeId) (len : Nat) (parts : Array (Nat × Value)) (cells : Array Value) (ie : TypeInfo) (z : Value)
  (hu : P.underlying t = some (.slice el)) (hie : P.info? el = some ie) (hz : ie.zero = some z) (hsmall : len * ie.size ≤ 16777216)
  (h : Instr.fill (fun i => some (i * ie.size, ie.size)) ((Array.range (len * ie.size)).map (z.cells[· % z.cells.size]!)) parts.toList = some cells) :
  (Instr.buildSlice t len parts).run P w = .ok (.slice (some ⟨w.heap.size, 0, none⟩) len len) (w.alloc (.cells cells el)) := by
 have hs : ¬ len * ie.size > 2 ^ 24 := by omega
 by_cases h0 : len * ie.size = 0
 ·have e0 : ∀ f : Nat → Value, (Array.range (len * ie.size)).map f = #[] := fun f => by rw [h0]; apply Array.ext'; simp
  rw [e0] at h
  simp only [Instr.buildSlice, Sem.run_bind, run_underlying hu, run_sizeOf hie, Result.andThen_ok, if_neg hs, if_pos h0, Sem.run_pure, e0, h, run_newRow']
 ·exact run_buildSlice w t el len parts cells ie z hu hie hz hs h0 h
def zeroRow (z : Value) (n : Nat) : List C := (List.range n).map fun i => C.v (z.cells[i % z.cells.size]!)
def xBuildSlice (X : Cx) (S : St) (d : Option Nat) (t len : Nat) (parts : List (Nat × Operand)) (K : St → Prop) : Prop := match get X.T t with
 |some ti => (match ti.d with
  |.slice el => (match get X.T el with
   |some ei => (match Nat.ble (len * ei.size) 16777216 with
    |true => (match Nat.ble len 16777216 with
     |true => (match ltAll 0 (zeroRow ei.zero (len * ei.size)) with
      |true => (match fillS S (fun i => some (i * ei.size, ei.size)) (zeroRow ei.zero (len * ei.size)) parts with
       |some cs => (match Nat.beq cs.length (len * ei.size) with
        | true => K ((S.new (.row el ei.size len (toEls (chunk ei.size len cs)))).put d (.c (.row S.nx)))
        | false => False)
       | none => False)
      | false => False)
     | false => False)
    | false => False)
   | none => False)
  | _ => False)
 | none => False
theorem rfoot_slice {g n c x : Nat} (h : rfoot (.slice (some ⟨g, 0, none⟩) n c) x) : x = g := by
 obtain ⟨p, n', c', hv, _, rfl⟩ := h
 injection hv with hv
 injection hv with hv
 rw [← hv]
theorem buildSlice_ok (hT : TabOk X.P X.T) (h : Rep X e S a w) {o : Oper} (hd : dstOk X.nt o.dst = true) {t len : Nat} {parts : Array (Nat × Operand)} {K : St → Prop} (ho : o.op = .buildSlice t len parts) (hk : xBuildSlice X S o.dst t len parts.toList K) : Wv X a w o K := by
 intro KK Q hKK
 obtain ⟨parts⟩ := parts
 unfold xBuildSlice at hk
 split at hk
 ·rename_i ti hti
  split at hk
  ·rename_i el hdd
   split at hk
   ·rename_i ei hei
    split at hk
    ·rename_i hsm
     split at hk
     ·rename_i hlen
      split at hk
      ·rename_i hz0
       split at hk
       ·rename_i cs hcs
        split at hk
        ·rename_i hcl
         have hcl : cs.length = len * ei.size := Nat.eq_of_beq_eq_true hcl
         have hsm : len * ei.size ≤ 16777216 := Nat.le_of_ble_eq_true hsm
         have hlen : len ≤ 16777216 := Nat.le_of_ble_eq_true hlen
         have hu := (TabOk.get hT hti).1
         rw [hdd] at hu
         obtain ⟨_, j, hj, hjz, hjs, _, _⟩ := TabOk.get hT hei
         obtain ⟨h1, h2⟩ := fillS_ok h.v (placeP := fun i => some (i * ei.size, ei.size)) (fun i p hp => hp) _ _ _ (ltAll_mono (Nat.zero_le _) hz0) hcs
         have hzr : ((zeroRow ei.zero (len * ei.size)).map (C.den e)).toArray = (Array.range (len * j.size)).map (ei.zero.cells[· % ei.zero.cells.size]!) := by
          rw [hjs]
          apply Array.ext'
          simp [zeroRow, Function.comp_def, C.den]
         rw [hzr, ← hjs] at h2
         have hrun := run_buildSlice' (P := X.P) w t el len (parts.map fun (i, x) => (i, a.eval x)).toArray _ j ei.zero hu hj hjz (by rw [hjs]; omega) (by simpa using h2)
         have hrun2 : (execOp a.eval o).run X.P w = .ok (.value (.slice (some ⟨w.heap.size, 0, none⟩) len len)) (w.alloc (.cells (cs.map (C.den e)).toArray el)) := by
          simp only [execOp, ho, List.map_toArray]
          simp only [Sem.run_bind, hrun, Result.andThen_ok, Sem.run_pure]
         have hden : (toEls (chunk ei.size len cs)).den e = chunk ei.size len (cs.map (C.den e)) := by rw [toEls_den, chunk_map]
         have hcl' : (cs.map (C.den e)).length = len * ei.size := by rw [List.length_map]; exact hcl
         have hone : ∀ u ∈ cs.map (C.den e), u.oneCell' = true := fun u hu => by
          obtain ⟨c, hc, rfl⟩ := List.mem_map.1 hu
          exact C.one_of h.one (ltAll_mem h1 c hc)
         have hr := h.newRow (w' := w.alloc (.cells (cs.map (C.den e)).toArray el)) (ety := el) (esz := ei.size) (n := len) (xs := toEls (chunk ei.size len cs)) (v := .slice (some ⟨w.heap.size, 0, none⟩) len len)
          (toEls_lt fun c hc => ltAll_of fun x hx => ltAll_mem h1 x (mem_chunk _ _ _ c hc x hx)) rfl rfl rfl (by simp) (fun x hx => heap_alloc_old w _ (h.kept_lt hx))
          (by
           rw [hden]
           refine ⟨chunk_len _ _ _, chunk_szs hcl', ?_⟩
           rcases Nat.eq_zero_or_pos len with h0 | h0
           ·subst h0; exact .inl ⟨_, rfl, rfl⟩
           ·refine .inr ⟨_, _, rfl, chunk_szs hcl', by rw [chunk_len]; exact Nat.le_refl _, by simp only [maxLen]; omega, h0, _, heap_alloc_new w _, by simpa using hcl, ?_, by simpa using hone⟩
            rw [chunk_len, chunk_flat hcl']
            exact List.take_of_length_le (by simpa using Nat.le_of_eq hcl))
          (fun x hx => by rw [rfoot_slice hx]; exact h.not_kept_new (Nat.le_refl _))
         have hp := hr.put (d := o.dst) (v := .c (.row S.nx)) hd (blt_iff.2 (Nat.lt_succ_self _))
         simp only [SV.den, C.den, Env.withRow_rv] at hp
         exact wpo_value hrun2 (hKK _ _ _ _ hp hk)
        ·exact hk.elim
       ·exact hk.elim
      ·exact hk.elim
     ·exact hk.elim
    ·exact hk.elim
   ·exact hk.elim
  ·exact hk.elim
 ·exact hk.elim
theorem zeros_flat {z : Array Value} {sz : Nat} (hz : z.size = sz) : ∀ n, (List.range (n * sz)).map (fun i => z[i % sz]!) = (List.replicate n z.toList).flatten
 | 0 => by simp
 |n + 1 => by
  rw [Nat.add_mul, Nat.one_mul, List.range_add, List.map_append, zeros_flat hz n, List.replicate_succ', List.flatten_append, List.map_map]
  congr 1
  simp only [List.flatten_singleton]
  apply List.ext_getElem
  ·simp [hz]
  ·intro i h1 h2
   simp only [List.length_map, List.length_range] at h1
   simp [Nat.add_comm (n * sz) i, Nat.add_mul_mod_self_right, Nat.mod_eq_of_lt h1, getElem!_pos z i (by omega)]
theorem replicate_szs {α : Type} {c : List α} {sz n : Nat} (h : c.length = sz) : ∀ d ∈ List.replicate n c, d.length = sz := fun d hd => by rw [List.eq_of_mem_replicate hd]; exact h
structure mkP (l c : Int) (b : Nat) (K : Nat → Prop) : Prop where
 out : (0 ≤ l ∧ l ≤ c ∧ (b : Int) * c ≤ 281474976710656 ∧ c ≤ 140737488355328) ∧ K l.toNat
def xMakeSlice (X : Cx) (S : St) (d : Option Nat) (t : Nat) (l c : Operand) (K : St → Prop) : Prop := match get X.T t with
 |some ti => (match ti.d with
  |.slice el => (match get X.T el with
   |some ei => (match okZero ei with
    |true => (match S.ev l with
     |some (.c (.v (.int _ l))) => (match S.ev c with
      | some (.c (.v (.int _ c))) => mkP l c ei.bytes fun n => K ((S.new (.row el ei.size n (.vs (List.replicate n (zeroE ei))))).put d (.c (.row S.nx)))
      | _ => False)
     | _ => False)
    | false => False)
   | none => False)
  | _ => False)
 | none => False
theorem makeSlice_ok (hT : TabOk X.P X.T) (h : Rep X e S a w) {o : Oper} (hd : dstOk X.nt o.dst = true) {t : Nat} {l c : Operand} {K : St → Prop} (ho : o.op = .makeSlice t l c) (hk : xMakeSlice X S o.dst t l c K) : Wv X a w o K := by
 intro KK Q hKK
 unfold xMakeSlice at hk
 split at hk
 ·rename_i ti hti
  split at hk
  ·rename_i el hdd
   split at hk
   ·rename_i ei hei
    split at hk
    ·rename_i hz
     split at hk
     ·rename_i kl l' hl
      split at hk
      ·rename_i kc c' hc
       replace hk := hk.out
       obtain ⟨⟨h0, h1, h2, h3⟩, hk⟩ := hk
       have hu := (TabOk.get hT hti).1
       rw [hdd] at hu
       obtain ⟨_, j, hj, hjz, hjs, hjb, _⟩ := TabOk.get hT hei
       obtain ⟨z1, z2, z3⟩ := okZero_get hz
       have hld := (h.ev_den hl).1
       have hcd := (h.ev_den hc).1
       simp only [SV.den, C.den] at hld hcd
       have hr := run_make (P := X.P) w t el j ei.zero hu hj hjz kl kc l' c' h0 h1 (by rw [hjb]; exact h2) (by omega)
       have hrun : (execOp a.eval o).run X.P w = .ok (.value (.slice (some ⟨w.heap.size, 0, none⟩) l'.toNat c'.toNat)) (w.alloc (.cells (madeCells ei.zero.cells (c'.toNat * j.size)) el)) := by
        simp [execOp, ho, hld, hcd, hr]
       have hzl : (zeroE ei).length = ei.size := by simp [zeroE, z1]
       have hzf := zeros_flat (z := ei.zero.cells) z1
       have hcur : (madeCells ei.zero.cells (c'.toNat * j.size)).toList = (List.replicate c'.toNat (zeroE ei)).flatten := by
        rw [hjs, zeroE, ← hzf]; simp [madeCells, z1]
       have hR := h.newRow (w' := w.alloc (.cells (madeCells ei.zero.cells (c'.toNat * j.size)) el)) (ety := el) (esz := ei.size) (n := l'.toNat) (xs := .vs (List.replicate l'.toNat (zeroE ei))) (v := .slice (some ⟨w.heap.size, 0, none⟩) l'.toNat c'.toNat)
        (fun d hd u hu => by rw [List.eq_of_mem_replicate hd] at hu; exact List.all_eq_true.1 z3 u hu) rfl rfl rfl (by simp) (fun x hx => heap_alloc_old w _ (h.kept_lt hx)) (by
         refine ⟨by simp [Els.den], replicate_szs hzl, ?_⟩
         rcases Nat.eq_zero_or_pos c'.toNat with hc0 | hc0
         ·exact .inl ⟨_, by rw [hc0, show l'.toNat = 0 by omega], by omega⟩
         ·refine .inr ⟨_, _, rfl, replicate_szs hzl, by simp [Els.den]; omega, by simp only [maxLen]; omega, hc0, _, heap_alloc_new w _, by rw [← Array.length_toList, hcur, flat_len (replicate_szs hzl), List.length_replicate], ?_, fun u hu => ?_⟩
          ·rw [hcur, ← flat_take (replicate_szs hzl)]
           simp [Els.den, Nat.min_eq_left (show l'.toNat ≤ c'.toNat by omega)]
          ·rw [hcur] at hu
           obtain ⟨d, hd, hu⟩ := List.mem_flatten.1 hu
           rw [List.eq_of_mem_replicate hd] at hu
           exact List.all_eq_true.1 z3 u hu)
        (fun x hx => by rw [rfoot_slice hx]; exact h.not_kept_new (Nat.le_refl _))
       have hp := hR.put (d := o.dst) (v := .c (.row S.nx)) hd (blt_iff.2 (Nat.lt_succ_self _))
       simp only [SV.den, C.den, Env.withRow_rv] at hp
       exact wpo_value hrun (hKK _ _ _ _ hp hk)
      ·exact hk.elim
     ·exact hk.elim
    ·exact hk.elim
   ·exact hk.elim
  ·exact hk.elim
 ·exact hk.elim
def intTB : TypeDesc → Bool
 | .int _ => true
 | _ => false
theorem intTB_eq {d : TypeDesc} (h : intTB d = true) : ∃ k, d = .int k := by cases d <;> first | exact ⟨_, rfl⟩ | cases h
structure cntP (m : Int) (K : Nat → Prop) : Prop where
 out : 0 < m ∧ K m.toNat
theorem cnt_eq {m : Int} {K : Nat → Prop} (j : Nat) (hm : m = (j : Int)) (h : 0 < j) (hk : K j) : cntP m K := by subst hm; exact ⟨⟨by omega, hk⟩⟩
def xAppendZ (X : Cx) (S : St) (d : Option Nat) (t t' : Nat) (s x : Operand) (K : St → Prop) : Prop := match get X.T t with
 |some ti => (match ti.d with
  |.slice el => (match get X.T el with
   |some ei => (match get X.T t' with
    |some ni => (match intTB ni.d with
     |true => (match okZero ei with
      |true => (match S.ev x with
       |some (.c (.v (.int _ m))) => (match S.ev s with
        |some (.c (.sl k 0 n)) => (match get S.H k with
         |some (.buf ety sz cap xs) => (match Nat.beq ety el with
          |true => (match Nat.beq sz ei.size with
           | true => cntP m fun m => needP (n ≤ xs.len ∧ cap < n + m ∧ (n + m) * ei.bytes ≤ 140737488355328 ∧ n + m ≤ 140737488355328) (∀ cap', n + m ≤ cap' → cap' ≤ maxLen → K ((S.new (.buf el ei.size cap' ((xs.take n).app (.vs (List.replicate m (zeroE ei)))))).put d (.c (.sl S.nx 0 (n + m)))))
           | false => False)
          | false => False)
         | _ => False)
        | some (.c (.v (.slice none 0 0))) => cntP m fun m => needP (m * ei.bytes ≤ 140737488355328 ∧ m ≤ 140737488355328) (∀ cap', m ≤ cap' → cap' ≤ maxLen → K ((S.new (.buf el ei.size cap' (.vs (List.replicate m (zeroE ei))))).put d (.c (.sl S.nx 0 m))))
        | _ => False)
       | _ => False)
      | false => False)
     | false => False)
    | none => False)
   | none => False)
  | _ => False)
 | none => False
theorem zeroCells_flat {z : Value} {sz : Nat} (hz : z.cells.size = sz) (n : Nat) : (Builtin.zeroCells z.cells n).toList = (List.replicate n z.cells.toList).flatten := by
 rw [← zeros_flat hz]; simp [Builtin.zeroCells, hz]
theorem appendZ_ok (hT : TabOk X.P X.T) (h : Rep X e S a w) {o : Oper} (hd : dstOk X.nt o.dst = true) {t t' : Nat} {s x : Operand} {K : St → Prop} (ho : o.op = .call { callee := .builtin .append, args := #[s, x], argTypes := #[t, t'] }) (hk : xAppendZ X S o.dst t t' s x K) : Wv X a w o K := by
 intro KK Q hKK
 unfold xAppendZ at hk
 split at hk
 ·rename_i ti hti
  split at hk
  ·rename_i el hdd
   split at hk
   ·rename_i ei hei
    split at hk
    ·rename_i ni hni
     split at hk
     ·rename_i hnd
      split at hk
      ·rename_i hz
       split at hk
       ·rename_i kq m hx
        obtain ⟨kn, hkn⟩ := intTB_eq hnd
        have hu := (TabOk.get hT hti).1
        rw [hdd] at hu
        have hun := (TabOk.get hT hni).1
        rw [hkn] at hun
        obtain ⟨_, j, hj, hjz, hjs, hjb, _⟩ := TabOk.get hT hei
        obtain ⟨z1, z2, z3⟩ := okZero_get hz
        have hxd := (h.ev_den hx).1
        simp only [SV.den, C.den] at hxd
        have hzl : (zeroE ei).length = ei.size := by simp [zeroE, z1]
        have hzo : ∀ m, ∀ u ∈ (List.replicate m (zeroE ei)).flatten, u.oneCell' = true := fun m u hu => by
         obtain ⟨d, hd, hu⟩ := List.mem_flatten.1 hu
         rw [List.eq_of_mem_replicate hd] at hu
         exact List.all_eq_true.1 z3 u hu
        have fin : ∀ (A : Option Addr) (n cap m : Nat) (xs : Els), 0 < m → a.eval s = .slice A n cap → a.eval x = .int kq (m : Int) → xs.lt S.nx → (xs.den e).length = n → (∀ c ∈ xs.den e, c.length = ei.size) → (Builtin.firstCells j.size n (.slice A n cap)).run X.P w.drew = .ok (xs.den e).flatten.toArray w.drew → (∀ u ∈ (xs.den e).flatten, u.oneCell' = true) → cap < n + m → (n + m) * ei.bytes ≤ 140737488355328 → n + m ≤ 140737488355328 →
          (∀ cap', n + m ≤ cap' → cap' ≤ maxLen → K ((S.new (.buf el ei.size cap' (xs.app (.vs (List.replicate m (zeroE ei)))))).put o.dst (.c (.sl S.nx 0 (n + m))))) → o.wpIn X.fen 0 X.P a w KK Q := by
         intro A n cap m xs hm hsd hxd hlx hxl hxsz hf hx1 hcap hb hnm hK
         have hmb : m * ei.bytes ≤ 140737488355328 := Nat.le_trans (Nat.mul_le_mul_right _ (Nat.le_add_left _ _)) hb
         have hr := Lib.run_append_grow_zeros (P := X.P) w t t' o.type el j ei.zero kq kn hu hun hj hjz A n cap _ hf m hm (by rw [hjs]; exact z2) hcap (by omega) (by rw [hjb]; omega) (growslice_fits hcap (by rw [hjb]; exact hb))
         have hge := grownCap_ge w (n + m) cap el
         have hgm := grownCap_le_maxLen w (n + m) cap el (by simp only [maxLen]; omega)
         have hO := own_grown (el := el) (esz := ei.size) (need := n + m) (cap := grownCap w (n + m) cap el) (zs := xs.den e ++ List.replicate m (zeroE ei)) (z := ei.zero) w z1 z3 z2 (by rw [List.length_append, hxl, List.length_replicate]) (szs_app hxsz (replicate_szs hzl)) (fun u hu => by
          rw [List.flatten_append] at hu
          rcases List.mem_append.1 hu with hu | hu
          ·exact hx1 u hu
          ·exact hzo m u hu) hge hgm (by omega)
         have harr : (List.replicate m (zeroE ei)).flatten.toArray = Builtin.zeroCells ei.zero.cells m := by
          rw [zeroE, ← zeroCells_flat (z := ei.zero) z1]
         rw [List.flatten_append, ← List.append_toArray, harr] at hO
         have hR := h.newBuf (ety := el) (esz := ei.size) (cap := grownCap w (n + m) cap el) (g := w.heap.size) (xs := xs.app (.vs (List.replicate m (zeroE ei)))) (Els.app_lt hlx (fun d hd u hu => by rw [List.eq_of_mem_replicate hd] at hu; exact List.all_eq_true.1 z3 u hu)) (w' := w.drew.alloc (.cells ((xs.den e).flatten.toArray ++ Builtin.zeroCells ei.zero.cells m ++ Builtin.zeroCells ei.zero.cells (grownCap w (n + m) cap el - (n + m))) el)) rfl rfl rfl (by simp) (fun x hx => heap_alloc_old w.drew _ (h.kept_lt hx)) (by rw [Els.den_app]; exact hO) (h.not_kept_new (Nat.le_refl _))
         have hp := hR.put (d := o.dst) (v := .c (.sl S.nx 0 (n + m))) hd (blt_iff.2 (Nat.lt_succ_self _))
         obtain ⟨q1, q2, q3, q4⟩ := Env.withBuf_at e S.nx w.heap.size ei.size (grownCap w (n + m) cap el)
         simp only [SV.den, C.den, Nat.zero_mul, q2, q4, Nat.sub_zero] at hp
         exact wpo_value (run_append_op ho hsd hxd hr) (hKK _ _ _ _ hp (hK _ hge hgm))
        split at hk
        ·rename_i k n hs
         split at hk
         ·rename_i ety sz cap xs hH
          split at hk
          ·rename_i h1
           split at hk
           ·rename_i h2
            have h1 := Nat.eq_of_beq_eq_true h1
            have h2 := Nat.eq_of_beq_eq_true h2
            subst h1; subst h2
            replace hk := hk.out
            obtain ⟨hm, hk⟩ := hk
            obtain ⟨⟨g1, g2, g3, g4⟩, hk⟩ := need_get hk
            obtain ⟨hown, hes, hcp, hra⟩ := h.hp k _ hH
            have hxs : (xs.den e).length = xs.len := Els.den_len e xs
            have hpl : ((xs.den e).take n).length = n := by rw [List.length_take, Nat.min_eq_left (by omega)]
            refine fin (some ⟨e.ad k, 0, none⟩) n cap m.toNat (xs.take n) (by omega) (by
             have := (h.ev_den hs).1
             simp only [SV.den, C.den, Nat.zero_mul, hra, hcp, Nat.sub_zero] at this
             rw [this]; rfl) (by rw [hxd, Int.toNat_of_nonneg (by omega)]) (Els.take_lt (h.hlt k _ hH).2 _) (by rw [Els.den_take]; exact hpl) (by rw [Els.den_take]; exact szs_take hown.1 _) ?_ (fun u hu => ?_) g2 g3 g4 hk
            ·rw [Els.den_take]
             refine run_firstCells_some (P := X.P) w.drew j.size n _ n cap _ (by rw [flat_len (szs_take hown.1 n), hpl, hjs]) fun i u hu => ?_
             rw [addr_mid]
             rw [flat_take hown.1] at hu
             exact hown.cells i u (get_of_take hu)
            ·rw [Els.den_take, flat_take hown.1] at hu
             exact hown.one u (List.mem_of_mem_take hu)
           ·exact hk.elim
          ·exact hk.elim
         ·exact hk.elim
        ·rename_i hs
         replace hk := hk.out
         obtain ⟨hm, hk⟩ := hk
         obtain ⟨⟨g3, g4⟩, hk⟩ := need_get hk
         refine fin none 0 0 m.toNat (.vs []) (by omega) (by simpa [SV.den, C.den] using (h.ev_den hs).1) (by rw [hxd, Int.toNat_of_nonneg (by omega)]) (fun c hc => by cases hc) rfl (fun c hc => by cases hc) (by simp [Builtin.firstCells, Els.den]) (fun u hu => by cases hu) (by omega) (by rw [Nat.zero_add]; exact g3) (by omega) ?_
         rw [Els.nil_app, Nat.zero_add]
         exact hk
        ·exact hk.elim
       ·exact hk.elim
      ·exact hk.elim
     ·exact hk.elim
    ·exact hk.elim
   ·exact hk.elim
  ·exact hk.elim
 ·exact hk.elim
end
end Go.Proofs.YtgkkpefpbfadoaaGreat.Sy
