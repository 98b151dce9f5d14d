/-
  The symbolic executor, 14: a region whose order is drawn: what yields its value in every world in which certain blocks are as they are is taken first; of the rest, whichever comes up.
-/
import Derived.Test.YteldohidnepaoaaSy13
namespace Go.Proofs.Yteldohidnepaoaa.Sy
open Go Go.RowKit

/-! ### Taking an operation first, in a round's frame too -/
def noDefer (ops : List Oper) : Bool := ops.all fun o => match o.op with | .defer _ => false | _ => true
section
variable {F : Fence} {n : Nat} {P : Program} {ops : Array Oper} {Q : Exit → Act → World → Prop} {md : Region.Mode} {Z : World → Prop}
theorem opIn_yields {i : Nat} {o : Oper} {v : Value} {a : Act} (hfn : ∀ f, F.fn f) (hi : ops[i]? = some o) (hy : YieldsIf P ops Z o v a) {K : Act → World → Prop} {w : World} (hZ : Z w) (h : K (a.put o.dst v) w) : wpOpIn F n P ops Q i K a w := by
  unfold Go.wpOpIn
  simp only [hi]
  rcases hy with ⟨hw, hv⟩ | ⟨hw, rfl⟩
  · simp only [hw, if_true]
    refine ⟨fun f _ => hfn f, ?_⟩
    rw [semAt_of (hv w hZ) (fun d hd => by cases hd)]
    exact h
  · simp only [hw, Bool.false_eq_true, if_false]
    exact ⟨fun f _ => hfn f, h⟩
/-- One operation 'oj', apart from 'oi', whose value is there already, or is not. -/
theorem opIn_put {j : Nat} {oi oj : Oper} {v : Value} (hfn : ∀ f, F.fn f) (hj : ops[j]? = some oj) (hap : oi.apart ops oj = true) (hsi : ∀ cs b, oi.op ≠ .select cs b) (hsj : ∀ cs b, oj.op ≠ .select cs b) (hdj : ∀ c, oj.op ≠ .defer c)
    (hQ : ∀ c a w, Q (.panic c) (a.put oi.dst v) w → Q (.panic c) a w) {K : Act → World → Prop} {a : Act} {w : World} (hy : YieldsIf P ops Z oi v a) (h : wpOpIn F n P ops Q j K (a.put oi.dst v) w) :
    wpOpIn F n P ops Q j (fun a' w' => YieldsIf P ops Z oi v a' ∧ K (a'.put oi.dst v) w') a w := by
  obtain ⟨h1, h2, h3⟩ := Oper.apart_spec hap
  have stays : ∀ (a : Act), YieldsIf P ops Z oi v a → ∀ u, YieldsIf P ops Z oi v (a.put oj.dst u) := fun a hy u => hy.of_same (execOp_put oi hsi a oj.dst u h3) (wanted_put oi a oj.dst u h3)
  have both : ∀ (a : Act) (u : Value) (w : World), YieldsIf P ops Z oi v a → K ((a.put oi.dst v).put oj.dst u) w → YieldsIf P ops Z oi v (a.put oj.dst u) ∧ K ((a.put oj.dst u).put oi.dst v) w := fun a u w hy hk => ⟨stays a hy u, by rw [← Act.put_comm a v u h2]; exact hk⟩
  unfold wpOpIn at *
  simp only [hj] at *
  rw [wanted_put oj a oi.dst v h1] at h
  split
  · rename_i hw
    simp only [hw, if_true] at h
    refine ⟨fun f _ => hfn f, ?_⟩
    have h := h.2
    rw [Oper.semAt_eq F.round _ oj hdj, execOp_put oj hsj a oi.dst v h1] at h
    rw [Oper.semAt_eq F.round _ oj hdj]
    generalize (execOp a.eval oj).run P w = r at *
    cases r with
    | ok x w' =>
      cases x <;> simp only [Oper.uponIn] at h ⊢
      case value u => exact both a u _ hy h
      case skip => exact both a _ _ hy h
      case defer d =>
        have := both { a with defers := d :: a.defers } undef w' (hy.of_same rfl rfl)
        rw [← Act.put_defers] at this
        exact this h
      case enter f args => exact ⟨h.1, h.2.mono fun e w'' he => by cases e with
        | returned u => exact both a u _ hy he
        | panicked c => exact hQ _ _ _ he
        | outgrown => exact he⟩
      case row row args => exact ⟨h.1, h.2.mono fun u w'' he => both a u _ hy he⟩
      case round l f tmps as bd => exact ⟨h.1, h.2.mono fun e w'' he => by cases e with
        | returned u => exact both a u _ hy he
        | panicked c => exact hQ _ _ _ he
        | outgrown => exact he⟩
    | halt x w' =>
      cases x <;> simp only [Oper.uponIn] at h ⊢
      case panic u => exact hQ _ _ _ h
  · rename_i hw
    simp only [hw] at h
    exact ⟨fun f _ => hfn f, both a _ _ hy h.2⟩
/-- Whatever order is picked from here on, and Z holds behind every operation. -/
def anyZ (F : Fence) (n : Nat) (P : Program) (md : Region.Mode) (ops : Array Oper) (Q : Exit → Act → World → Prop) (Z : World → Prop) : Nat → Array Bool → Act → World → Prop
  | 0, listed, a, w => Region.ready md ops listed = [] ∧ Q .normal a w
  | fuel + 1, listed, a, w => (Region.ready md ops listed = [] → Q .normal a w) ∧ ∀ i ∈ Region.ready md ops listed, wpOpIn F n P ops Q i (fun a' w' => Z w' ∧ anyZ F n P md ops Q Z fuel (listed.setIfInBounds i true) a' w') a w
theorem anyZ_any : ∀ (fuel : Nat) (listed : Array Bool) (a : Act) (w : World), anyZ F n P md ops Q Z fuel listed a w → wpAnyIn F n P md ops Q fuel listed a w
  | 0, _, _, _, h => h
  | fuel + 1, _, _, _, h => ⟨h.1, fun i hi => wpOpIn_mono (fun a' w' h' => anyZ_any fuel _ a' w' h'.2) (h.2 i hi)⟩
theorem anyZ_first {i : Nat} {oi : Oper} {v : Value} (hfn : ∀ f, F.fn f) (hi : ops[i]? = some oi) (hsel : ∀ (j : Nat) (o : Oper) cs b, ops[j]? = some o → o.op ≠ .select cs b) (hdef : ∀ (j : Nat) (o : Oper) c, ops[j]? = some o → o.op ≠ .defer c)
    (hQ : ∀ c a w, Q (.panic c) (a.put oi.dst v) w → Q (.panic c) a w) : ∀ (fuel : Nat) (listed : Array Bool) (a : Act) (w : World),
      (∀ j oj, ops[j]? = some oj → j ≠ i → listed.getD j true = false → (∀ e ∈ oj.after, Region.binds md e = true → e.on ≠ i) → oi.apart ops oj = true) → i ∈ Region.ready md ops listed → YieldsIf P ops Z oi v a → Z w →
      anyZ F n P md ops Q Z fuel (listed.setIfInBounds i true) (a.put oi.dst v) w → anyZ F n P md ops Q Z (fuel + 1) listed a w
  | 0, listed, a, w, _, hr, hy, hZ, H => by
    refine ⟨fun h => (by rw [h] at hr; cases hr), fun j hj => ?_⟩
    by_cases hji : j = i
    · subst hji; exact opIn_yields hfn hi hy hZ ⟨hZ, H⟩
    · have := ready_mono hj hji
      rw [H.1] at this
      cases this
  | fuel + 1, listed, a, w, hfree, hr, hy, hZ, H => by
    refine ⟨fun h => (by rw [h] at hr; cases hr), fun j hj => ?_⟩
    by_cases hji : j = i
    · subst hji; exact opIn_yields hfn hi hy hZ ⟨hZ, H⟩
    · obtain ⟨hjun, oj, hoj, hall⟩ := mem_ready.1 hj
      have hnot : ∀ e ∈ oj.after, Region.binds md e = true → e.on ≠ i := fun e he hb heq => by
        have g1 := hall e he hb
        have g0 := (mem_ready.1 hr).1
        rw [heq] at g1
        rcases Nat.lt_or_ge i listed.size with h' | h'
        · simp [h'] at g0 g1; rw [g0] at g1; cases g1
        · simp [Array.getElem?_eq_none h'] at g1
      have g2 := opIn_put hfn hoj (hfree j oj hoj hji hjun hnot) (fun cs b => hsel i oi cs b hi) (fun cs b => hsel j oj cs b hoj) (fun c => hdef j oj c hoj) hQ hy (H.2 j (ready_mono hj hji))
      refine wpOpIn_mono (fun a' w' g3 => ⟨g3.2.1, anyZ_first hfn hi hsel hdef hQ fuel (listed.setIfInBounds j true) a' w' (fun k ok hk hki hun hno => ?_) (ready_mono hr (Ne.symm hji)) g3.1 g3.2.1 ?_⟩) g2
      · refine hfree k ok hk hki ?_ hno
        by_cases hjk : j = k
        · subst hjk; exact hjun
        · rw [getD_set_ne true hjk] at hun; exact hun
      · rw [Array.setIfInBounds_comm _ _ hji]
        exact g3.2.2
end

section
variable {X : Cx} {e : Env} {S : St} {a : Act} {w : World}
def onlyN (KK : Act → World → Prop) : Exit → Act → World → Prop
  | .normal, a, w => KK a w
  | _, _, _ => False
def dropIds (bad : List Nat) : List (Nat × Blk) → List (Nat × Blk)
  | [] => []
  | (k, b) :: r => match bad.any (Nat.beq k) with
    | true => dropIds bad r
    | false => (match b with
      | .dead => dropIds (k :: bad) r
      | b => (k, b) :: dropIds (k :: bad) r)
theorem get_dropIds : ∀ {H : List (Nat × Blk)} {bad : List Nat} {k : Nat} {b : Blk}, get (dropIds bad H) k = some b → get H k = some b ∧ bad.any (Nat.beq k) = false
  | [], bad, k, b, h => by cases h
  | (j, c) :: r, bad, k, b, h => by
    have later : ∀ {bad'}, (bad' = bad ∧ bad.any (Nat.beq j) = true ∨ bad' = j :: bad) → get (dropIds bad' r) k = some b → get ((j, c) :: r) k = some b ∧ bad.any (Nat.beq k) = false := by
      intro bad' hb h
      obtain ⟨h1, h2⟩ := get_dropIds h
      rcases hb with ⟨rfl, hj⟩ | rfl
      · have hne : j ≠ k := fun e1 => by subst e1; rw [hj] at h2; cases h2
        exact ⟨by rw [get_other hne]; exact h1, h2⟩
      · simp only [List.any_cons, Bool.or_eq_false_iff] at h2
        have hne : j ≠ k := fun e1 => by subst e1; simp at h2
        exact ⟨by rw [get_other hne]; exact h1, h2.2⟩
    unfold dropIds at h
    split at h
    · rename_i hj; exact later (.inl ⟨rfl, hj⟩) h
    · rename_i hj
      split at h
      · exact later (.inr rfl) h
      · rcases get_cons h with ⟨rfl, rfl⟩ | ⟨hne, h⟩
        · exact ⟨get_same _ _ _, hj⟩
        · exact later (.inr rfl) h
def KeepL (H : List (Nat × Blk)) : List (Nat × Blk) → Prop
  | [] => True
  | (k, b) :: r => get H k = some b ∧ KeepL H r
theorem KeepL.get {H : List (Nat × Blk)} : ∀ {l : List (Nat × Blk)}, KeepL H l → ∀ {k : Nat} {b : Blk}, Sy.get l k = some b → Sy.get H k = some b
  | [], _, k, b, hg => by cases hg
  | (j, c) :: r, h, k, b, hg => by
    rcases get_cons hg with ⟨rfl, rfl⟩ | ⟨_, hg⟩
    · exact h.1
    · exact KeepL.get h.2 hg
def KeepW (X : Cx) (e0 : Env) (keep : List (Nat × Blk)) (w : World) : Prop := ∀ k b, get keep k = some b → ∃ F, b.holds F X e0 k w
/-- The context of a region that draws: the numbers that were there keep their meaning. -/
def Cx.at (X : Cx) (n0 : Nat) (e0 : Env) : Cx := { X with n0 := n0, e0 := e0 }
/-- From here on, whatever order is drawn: the operations that are not listed. -/
structure drwP (X : Cx) (ops : List Oper) (n0 : Nat) (e0 : Env) (keep : List (Nat × Blk)) (fuel : Nat) (listed : Array Bool) (S : St) (K : St → Prop) : Prop where
  out : (∀ k b, get keep k = some b → get S.H k = some b ∧ k < n0 ∧ b.lt n0) → ∀ e a w, Rep (X.at n0 e0) e S a w → ∀ KK : Act → World → Prop, (∀ e' S' a' w', Rep (X.at n0 e0) e' S' a' w' → K S' → KK a' w') →
    anyZ X.fen 0 X.P .any ops.toArray (onlyN KK) (KeepW X e0 keep) fuel listed a w
theorem keepW_of {n0 : Nat} {e0 : Env} {keep : List (Nat × Blk)} (hk : ∀ k b, get keep k = some b → get S.H k = some b ∧ k < n0 ∧ b.lt n0) (h : Rep (X.at n0 e0) e S a w) : KeepW X e0 keep w := fun k b hb => by
  obtain ⟨h1, h2, h3⟩ := hk k b hb
  exact ⟨S.F, holds_gh (X := X.at n0 e0) (Blk.holds_keep (h.hp k b h1) (Env.same.symm h.es) h2 h3 (fun _ h => h) (fun _ _ => rfl) (fun _ _ => rfl)) fun _ _ _ _ _ _ _ => rfl⟩
def xvNilCheck (S : St) (x : Operand) (K : SV → Prop) : Prop := evK S x fun v => (match v with
  | .c (.loc k o) => K (.c (.loc k o))
  | .c (.ep k i o) => K (.c (.ep k i o))
  | _ => False)
theorem nilCheckv_ok (e : Env) (a : Act) {o : Oper} {x : Operand} {K : SV → Prop} (ho : o.op = .nilCheck x) (hk : xvNilCheck S x K) : Yv X e S a o K := by
  obtain ⟨v, hv, hk⟩ := evK_get hk
  split at hk
  · refine ⟨_, hk, fun w h => ?_⟩
    obtain ⟨hdv, hl⟩ := h.ev_den hv
    refine ⟨hl, ?_⟩
    simp only [SV.den, C.den] at hdv ⊢
    simp [execOp, ho, hdv]
  · refine ⟨_, hk, fun w h => ?_⟩
    obtain ⟨hdv, hl⟩ := h.ev_den hv
    refine ⟨hl, ?_⟩
    simp only [SV.den, C.den] at hdv ⊢
    simp [execOp, ho, hdv]
  · exact hk.elim
def xval (X : Cx) (o : Oper) (S : St) (K : SV → Prop) : Prop := match o.op with
  | .move x => evK S x K
  | .assign x => evK S x K
  | .pick c x y => xvPick S c x y K
  | .build t ps => xvBuild X S t ps.toList K
  | .load t x => xvLoad X S t x K
  | .binOp op t x y _ => (match nilConst y with
    | some z => xvNil X S op t x z K
    | none => xvBin X S op t x y K)
  | .unOp op _ x => xvUn S op x K
  | .convert s d x => xvConv X S s d x K
  | .fieldAddr t x f => xvFieldAddr X S t x f K
  | .indexAddr t x i => xvIndexAddr X S t x i K
  | .index t x i => xvIndex X S t x i K
  | .field t x f => xvField X S t x f K
  | .extract x i => xvExtract S x i K
  | .nilCheck x => xvNilCheck S x K
  | .lookup t x i ok => xvLookup X S t x i ok K
  | .call c => (match c.callee with
    | .builtin b => xvBuiltin X S b c.args.toList c.argTypes.toList K
    | _ => False)
  | _ => False
theorem xval_ok (hT : TabOk X.P X.T) (e : Env) (a : Act) {o : Oper} {K : SV → Prop} (hk : xval X o S K) : Yv X e S a o K := by
  unfold xval at hk
  split at hk
  · rename_i x ho; exact move_ok e a (.inl ho) hk
  · rename_i x ho; exact move_ok e a (.inr ho) hk
  · rename_i c x y ho; exact pick_ok e a ho hk
  · rename_i t ps ho; exact build_ok hT e a ho hk
  · rename_i t x ho; exact load_ok hT e a ho hk
  · rename_i op t x y t' ho
    split at hk
    · rename_i z hz
      have := nilConst_eq hz
      subst this
      exact nil_ok hT e a ho hk
    · exact bin_ok hT e a ho hk
  · rename_i op t x ho; exact un_ok e a ho hk
  · rename_i s d x ho; exact conv_ok hT e a ho hk
  · rename_i t x f ho; exact fieldAddr_ok hT e a ho hk
  · rename_i t x i ho; exact indexAddr_ok hT e a ho hk
  · rename_i t x i ho; exact index_ok hT e a ho hk
  · rename_i t x f ho; exact field_ok hT e a ho hk
  · rename_i x i ho; exact extract_ok e a ho hk
  · rename_i x ho; exact nilCheckv_ok e a ho hk
  · rename_i t x i ok ho; exact lookup_ok hT e a ho hk
  · rename_i c ho
    obtain ⟨callee, args, ts⟩ := c
    split at hk
    · rename_i b hc
      simp only at hc
      subst hc
      exact builtin_ok hT e a ho hk
    · exact hk.elim
  · exact hk.elim
def xvg (X : Cx) (ops : List Oper) (o : Oper) (S : St) (K : SV → Prop) : Prop := match dstOk X.nt o.dst with
  | false => False
  | true => (match o.guard with
    | none => xval X o S K
    | some (j, want) => (match guardS S ops j with
      | some (.c (.v (.bool t))) => brP t (match want with
          | true => xval X o S K
          | false => K .un) (match want with
          | true => K .un
          | false => xval X o S K)
      | some .un => K .un
      | _ => False))
theorem noDefer_get {ops : List Oper} (h : noDefer ops = true) (j : Nat) (o : Oper) (c : Call) (ho : ops.toArray[j]? = some o) : o.op ≠ .defer c := by
  intro heq
  have hm : o ∈ ops := List.mem_of_getElem? (by simpa using ho)
  have := List.all_eq_true.1 h o hm
  simp [heq] at this
/-- An operation is taken first. -/
theorem drw_take (hT : TabOk X.P X.T) {ops : List Oper} {n0 : Nat} {e0 : Env} {keep : List (Nat × Blk)} {fuel : Nat} {listed : Array Bool} {K : St → Prop} (i : Nat) {o : Oper} (hi : ops[i]? = some o) (hsel : (Region.noSelect ops.toArray && noDefer ops) = true) (hf : Region.free .any ops.toArray listed i = true) (hr : (Region.ready .any ops.toArray listed).contains i = true)
    (hx : xvg X ops o (S.onlyH keep) fun v => St.force (S.put o.dst v) fun S' => drwP X ops n0 e0 keep fuel (listed.setIfInBounds i true) S' K) : drwP X ops n0 e0 keep (fuel + 1) listed S K := by
  refine ⟨?_⟩
  intro hkeep e a w h KK hKK
  rw [Bool.and_eq_true] at hsel
  have hW := keepW_of hkeep h
  have hV : ∀ w', KeepW X e0 keep w' → RepV X e (S.onlyH keep) a w' := fun w' hw' => ⟨h.fr, h.frlt, fun k b hk => by
    obtain ⟨h1, h2, h3⟩ := hkeep k b hk
    obtain ⟨F, hF⟩ := hw' k b hk
    exact ⟨F, Blk.holds_keep hF h.es h2 h3 (fun _ h => h) (fun _ _ => rfl) (fun _ _ => rfl)⟩, fun k b hk => h.hlt k b (hkeep k b hk).1, h.one⟩
  have go : ∀ v : SV, v.lt S.nx = true → dstOk X.nt o.dst = true → YieldsIf X.P ops.toArray (KeepW X e0 keep) o (v.den e) a → (St.force (S.put o.dst v) fun S' => drwP X ops n0 e0 keep fuel (listed.setIfInBounds i true) S' K) → anyZ X.fen 0 X.P .any ops.toArray (onlyN KK) (KeepW X e0 keep) (fuel + 1) listed a w := by
    intro v hl hd hy hd2
    have hi' : ops.toArray[i]? = some o := by simpa using hi
    refine anyZ_first (fun f => fen_fn _ f) hi' (Region.noSelect_spec hsel.1) (noDefer_get hsel.2) (fun _ _ _ hp => hp) fuel listed a w (Region.free_spec hi' hf) (by simpa using hr) hy hW ?_
    rw [force_eq] at hd2
    replace hd2 := hd2.out
    have hH : (S.put o.dst v).H = S.H := by cases o.dst <;> rfl
    exact hd2 (by rw [hH]; exact hkeep) e _ w (h.put hd hl) KK hKK
  unfold xvg at hx
  split at hx
  · exact hx.elim
  · rename_i hd
    have run : xval X o (S.onlyH keep) (fun v => St.force (S.put o.dst v) fun S' => drwP X ops n0 e0 keep fuel (listed.setIfInBounds i true) S' K) → Region.wanted o (yielded ops.toArray a.tmps) = true → anyZ X.fen 0 X.P .any ops.toArray (onlyN KK) (KeepW X e0 keep) (fuel + 1) listed a w := by
      intro hv hw
      obtain ⟨v, hK, hyv⟩ := xval_ok hT e a hv
      exact go v (hyv w (hV w hW)).1 hd (.inl ⟨hw, fun w' hw' => (hyv w' (hV w' hw')).2⟩) hK
    have skip : (St.force (S.put o.dst .un) fun S' => drwP X ops n0 e0 keep fuel (listed.setIfInBounds i true) S' K) → Region.wanted o (yielded ops.toArray a.tmps) = false → anyZ X.fen 0 X.P .any ops.toArray (onlyN KK) (KeepW X e0 keep) (fuel + 1) listed a w := fun hK hw => go .un rfl hd (.inr ⟨hw, rfl⟩) hK
    split at hx
    · rename_i hg
      exact run hx (by simp [Region.wanted, hg])
    · rename_i j want hg
      split at hx
      · rename_i t hgs
        obtain ⟨d, hd', hv⟩ := yielded_of (hV w hW) hgs
        have hy : yielded ops.toArray a.tmps j = some t := by
          unfold yielded
          rw [hd', Option.bind_some, hv]
          rfl
        have hw : Region.wanted o (yielded ops.toArray a.tmps) = (t == want) := by
          simp only [Region.wanted, hg, hy]
          cases t <;> cases want <;> rfl
        rcases br_case hx with ⟨rfl, hx2⟩ | ⟨rfl, hx2⟩ <;> cases want <;> simp only at hx2
        · exact skip hx2 hw
        · exact run hx2 hw
        · exact run hx2 hw
        · exact skip hx2 hw
      · rename_i hgs
        obtain ⟨d, hd', hv⟩ := yielded_of (hV w hW) hgs
        have hy : yielded ops.toArray a.tmps j = none := by
          unfold yielded
          rw [hd', Option.bind_some, hv]
          rfl
        exact skip hx (by simp [Region.wanted, hg, hy])
      · exact hx.elim
/-- Whichever of those that may come up comes up. -/
def AllR (ops : List Oper) (p : Nat → Oper → Prop) : List Nat → Prop
  | [] => True
  | i :: r => (match ops[i]? with
    | some o => p i o
    | none => False) ∧ AllR ops p r
theorem allR_nil {ops : List Oper} {p : Nat → Oper → Prop} : AllR ops p [] := trivial
theorem allR_cons {ops : List Oper} {p : Nat → Oper → Prop} {i : Nat} {r : List Nat} (o : Oper) (ho : ops[i]? = some o) (h : p i o) (hr : AllR ops p r) : AllR ops p (i :: r) := by
  unfold AllR
  rw [ho]
  exact ⟨h, hr⟩
theorem AllR.mem {ops : List Oper} {p : Nat → Oper → Prop} : ∀ {rs : List Nat}, AllR ops p rs → ∀ i ∈ rs, ∃ o, ops[i]? = some o ∧ p i o
  | [], _, i, hi => by cases hi
  | j :: r, h, i, hi => by
    rcases List.mem_cons.1 hi with rfl | hi
    · have := h.1
      split at this
      · rename_i o ho; exact ⟨o, ho, this⟩
      · exact this.elim
    · exact AllR.mem h.2 i hi
theorem drw_ready (hT : TabOk X.P X.T) {ops : List Oper} {n0 : Nat} {e0 : Env} {keep : List (Nat × Blk)} {fuel : Nat} {listed : Array Bool} {K : St → Prop} (rs : List Nat) (hr : Region.ready .any ops.toArray listed = rs) (hne : rs.isEmpty = false)
    (hx : AllR ops (fun i o => xguard (X.at n0 e0) ops o S fun S' => St.force S' fun S' => KeepL S'.H keep ∧ drwP X ops n0 e0 keep fuel (listed.setIfInBounds i true) S' K) rs) : drwP X ops n0 e0 keep (fuel + 1) listed S K := by
  refine ⟨?_⟩
  intro hkeep e a w h KK hKK
  refine ⟨(fun h0 => by rw [hr] at h0; rw [h0] at hne; cases hne), fun i hi => ?_⟩
  obtain ⟨o, ho, hxo⟩ := hx.mem i (hr ▸ hi)
  have hg := xguard_ok (X := X.at n0 e0) hT h hxo (KK := fun a' w' => KeepW X e0 keep w' ∧ anyZ X.fen 0 X.P .any ops.toArray (onlyN KK) (KeepW X e0 keep) fuel (listed.setIfInBounds i true) a' w') (onlyN KK) fun e' S' a' w' hR hS' => by
    rw [force_eq] at hS'
    obtain ⟨h2, h3⟩ := hS'
    have hk' : ∀ k b, get keep k = some b → get S'.H k = some b ∧ k < n0 ∧ b.lt n0 := fun k b hb => ⟨h2.get hb, (hkeep k b hb).2⟩
    replace h3 := h3.out
    exact ⟨keepW_of hk' hR, h3 hk' e' a' w' hR KK hKK⟩
  unfold wpOpIn
  rw [show ops.toArray[i]? = some o by simpa using ho]
  simp only
  split
  · rename_i hw; rw [if_pos hw] at hg; exact hg
  · rename_i hw; rw [if_neg hw] at hg; exact ⟨fun f _ => fen_fn _ f, hg⟩
/-- All have come up. -/
theorem drw_done {ops : List Oper} {n0 : Nat} {e0 : Env} {keep : List (Nat × Blk)} {fuel : Nat} {listed : Array Bool} {K : St → Prop} (hr : Region.ready .any ops.toArray listed = []) (hk : K S) : drwP X ops n0 e0 keep fuel listed S K := by
  refine ⟨?_⟩
  intro _ e a w h KK hKK
  have := hKK e S a w h hk
  cases fuel with
  | zero => exact ⟨hr, this⟩
  | succ f => exact ⟨fun _ => this, by rw [hr]; simp⟩
theorem Rep.into (h : Rep X e S a w) : Rep (X.at S.nx e) e S a w :=
  { h with hp := fun k b hk => holds_gh (X := X) (h.hp k b hk) fun _ _ _ _ _ _ _ => rfl, es := Env.same.refl _ _, n0 := Nat.le_refl _ }
theorem Rep.outof {n0 : Nat} {e0 : Env} (h : Rep (X.at n0 e0) e S a w) (h1 : X.n0 ≤ n0) (h2 : Env.same X.n0 X.e0 e0) : Rep X e S a w :=
  { h with hp := fun k b hk => holds_gh (X := X.at n0 e0) (h.hp k b hk) fun _ _ _ _ _ _ _ => rfl, es := h2.trans (h.es.mono h1), n0 := Nat.le_trans h1 h.n0 }
/-- The beginning. 'bad': the numbers of the blocks that the region may write. -/
theorem draw_go {id : Nat} {ops : Array Oper} {Q : Exit → St → Prop} (bad : List Nat) (hm : X.P.follows .mixedOrders = true)
    (hx : ∀ e0, St.forceAll (S.prune (get X.lv id)) fun S => drwP X ops.toList S.nx e0 (dropIds bad S.H) ops.toList.length (Array.replicate ops.toList.length false) S (Q .normal)) : semP X (.region id ops true) S Q := by
  refine ⟨?_⟩
  intro e a w h0 Qr hQ
  have hx := fun e0 => by
    have := hx e0
    rw [forceAll_eq] at this
    exact this
  have h := h0.prune (get X.lv id)
  have hd := (h.drawn (w.drawn + 1)).into
  refine wpIn_mono (Q := onlyN fun a w => Qr .normal a w) (wpIn_region_any hm ?_) (fun ex a w hq => ?_)
  · have := hx e
    replace this := this.out
    have h2 := this (fun k b hb => ⟨(get_dropIds hb).1, h.hlt k b (get_dropIds hb).1⟩) e a _ hd (fun a w => Qr .normal a w) fun e' S' a' w' hR hS' => hQ _ _ _ _ _ (hR.outof h.n0 h.es) hS'
    exact anyZ_any _ _ _ _ (by simpa using h2)
  · cases ex with
    | normal => exact hq
    | exit id => exact hq.elim
    | goto l => exact hq.elim
    | ret => exact hq.elim
    | panic ch => exact hq.elim
    | outgrown => exact hq.elim
/-- What an append needs, where an element has so many bytes. -/
theorem need_app {n m b : Nat} {K : Prop} (b' : Nat) (hb : b = b') (h : (n + m) * b' ≤ 140737488355328 ∧ n + m ≤ 140737488355328) (hk : K) : needP ((n + m) * b ≤ 140737488355328 ∧ n + m ≤ 140737488355328) K := by subst hb; exact need_of h hk
theorem need_app0 {m b : Nat} {K : Prop} (b' : Nat) (hb : b = b') (h : m * b' ≤ 140737488355328 ∧ m ≤ 140737488355328) (hk : K) : needP (m * b ≤ 140737488355328 ∧ m ≤ 140737488355328) K := by subst hb; exact need_of h hk
/-- What could be read at the beginning can be read still. -/
theorem reads_later {esz n : Nat} {v : Value} {xs : List (List Value)} (h : Rep X e S a w) (hr : ReadsE (fun b => b < X.w0.heap.size ∧ ¬ X.own b) X.w0 esz v n xs) : ReadsE S.F w esz v n xs :=
  hr.keep (fun b hb => h.f0 b hb.1 hb.2) (fun b hb => h.bel.block b hb.1 hb.2)
theorem open_in {x : Value} {K : St → SV → Prop} (esz n : Nat) (xs : List (List Value)) (hr : ReadsE (fun b => b < X.w0.heap.size ∧ ¬ X.own b) X.w0 esz x n xs) (h1 : ∀ c ∈ xs, ∀ u ∈ c, u.oneCell' = true) (h : K (S.new (.ext esz n (.vs xs))) (.c (.row S.nx))) : openP X S x K :=
  open_ext esz n xs (fun _ _ _ hR => reads_later hR hr) h1 h
/-- What a state reads, as a callee wants it. -/
theorem row_reads (h : Rep X e S a w) {k esz n : Nat} {xs : List (List Value)} (hk : (∃ ety, get S.H k = some (.row ety esz n (.vs xs))) ∨ get S.H k = some (.ext esz n (.vs xs))) : XD.ok (fun b => b < w.heap.size) w ⟨e.rv k, esz, n, xs⟩ := by
  rcases hk with ⟨ety, hk⟩ | hk
  · have hh := (h.hp k _ hk).1
    refine ⟨⟨hh.1, hh.2.1, ?_⟩, hh.els_one⟩
    rcases hh.2.2 with ⟨A, hv, hn⟩ | ⟨g, cap, hv, hb⟩
    · have hn : n = 0 := hn
      subst hn
      exact ⟨A, 0, hv, Nat.le_refl _, by simp [maxLen], fun h0 => absurd h0 (Nat.lt_irrefl 0)⟩
    · have hb1 := hb.2.1
      rw [hh.1] at hb1
      exact ⟨_, cap, hv, hb1, hb.2.2.1, fun _ => ⟨_, rfl, hb.lt, fun j u hu => by rw [addr_mid]; exact hb.cells j u hu⟩⟩
  · have hh := (h.hp k _ hk).1
    exact ⟨hh.keep h.fl (fun _ _ => rfl), (h.hlt k _ hk).2⟩
end
end Go.Proofs.Yteldohidnepaoaa.Sy
