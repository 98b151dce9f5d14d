/-
  The symbolic executor, 8: a region whose order is drawn: what yields its value in every world in which certain blocks are as they are is taken first; of the rest, whichever comes up.
-/
import Derived.Test.YtbajgjbgkpcapaaSx7
import Derived.OrdersHeld
namespace Go.Proofs.Ytbajgjbgkpcapaa.Sx
open Go Go.RowKit
section
variable {X : Cx} {e : Env} {S : St} {a : Act} {w : World}

def onlyN (KK : Act → World → Prop) : Exit → Act → World → Prop
  | .normal, a, w => KK a w
  | _, _, _ => False
def dropIds (bad : List Nat) : List (Nat × Blk) → List (Nat × Blk)
  | [] => []
  | (k, b) :: r => match bad.any (Nat.beq k) with
    | true => dropIds bad r
    | false => (k, b) :: dropIds (k :: bad) r
theorem get_dropIds : ∀ {H : List (Nat × Blk)} {bad : List Nat} {k : Nat} {b : Blk}, get (dropIds bad H) k = some b → get H k = some b ∧ bad.any (Nat.beq k) = false
  | [], bad, k, b, h => by cases h
  | (j, c) :: r, bad, k, b, h => by
    unfold dropIds at h
    split at h
    · rename_i hj
      obtain ⟨h1, h2⟩ := get_dropIds h
      have hne : j ≠ k := fun e1 => by subst e1; rw [hj] at h2; cases h2
      exact ⟨by rw [get_other hne]; exact h1, h2⟩
    · rename_i hj
      rcases get_cons h with ⟨rfl, rfl⟩ | ⟨hne, h⟩
      · exact ⟨get_same _ _ _, hj⟩
      · obtain ⟨h1, h2⟩ := get_dropIds h
        simp only [List.any_cons, Bool.or_eq_false_iff] at h2
        exact ⟨by rw [get_other hne]; exact h1, h2.2⟩
def KeepL (H : List (Nat × Blk)) : List (Nat × Blk) → Prop
  | [] => True
  | (k, b) :: r => get H k = some b ∧ KeepL H r
theorem KeepL.get {H : List (Nat × Blk)} : ∀ {l : List (Nat × Blk)}, KeepL H l → ∀ {k : Nat} {b : Blk}, get l k = some b → Sx.get H k = some b
  | [], _, k, b, hg => by cases hg
  | (j, c) :: r, h, k, b, hg => by
    rcases get_cons hg with ⟨rfl, rfl⟩ | ⟨_, hg⟩
    · exact h.1
    · exact KeepL.get h.2 hg
def KeepW (X : Cx) (e0 : Env) (keep : List (Nat × Blk)) (w : World) : Prop := ∀ k b, get keep k = some b → ∃ F, b.holds F X.w0.heap.size e0 k w
/-- From here on, whatever order is drawn: the operations that are not listed. -/
structure drwP (X : Cx) (ops : List Oper) (e0 : Env) (n0 : Nat) (keep : List (Nat × Blk)) (fuel : Nat) (listed : Array Bool) (S : St) (K : St → Prop) : Prop where
  out :   n0 ≤ S.nx → (∀ k b, get keep k = some b → get S.H k = some b ∧ k < n0 ∧ b.lt n0 = true) → ∀ e a w, Env.same n0 e0 e → Rep X e S a w → ∀ KK : Act → World → Prop, (∀ e' S' a' w', Rep X e' S' a' w' → K S' → KK a' w') →
    wpAnyH X.P .any ops.toArray (onlyN KK) (KeepW X e0 keep) fuel listed a w
theorem Env.same.mono {n m : Nat} {e e' : Env} (h : Env.same m e e') (hn : n ≤ m) : Env.same n e e' := fun k hk => h k (Nat.lt_of_lt_of_le hk hn)
theorem Env.same.trans {n : Nat} {e e' e'' : Env} (h : Env.same n e e') (k : Env.same n e' e'') : Env.same n e e'' := fun j hj => ⟨(k j hj).1.trans (h j hj).1, (k j hj).2.1.trans (h j hj).2.1, (k j hj).2.2.trans (h j hj).2.2⟩
theorem Env.same.symm {n : Nat} {e e' : Env} (h : Env.same n e e') : Env.same n e' e := fun j hj => ⟨(h j hj).1.symm, (h j hj).2.1.symm, (h j hj).2.2.symm⟩
theorem keepW_of {e0 : Env} {n0 : Nat} {keep : List (Nat × Blk)} (hk : ∀ k b, get keep k = some b → get S.H k = some b ∧ k < n0 ∧ b.lt n0 = true) (hs : Env.same n0 e0 e) (h : Rep X e S a w) : KeepW X e0 keep w := fun k b hb => by
  obtain ⟨h1, h2, h3⟩ := hk k b hb
  exact ⟨S.F, Blk.holds_keep (h.hp k b h1) hs.symm h2 h3 (fun _ h => h) (fun _ _ => rfl) (fun _ _ => rfl)⟩

def xval (X : Cx) (o : Oper) (S : St) (K : SV → Prop) : Prop := match o.op with
  | .move x => evK S x K
  | .assign x => evK S x K
  | .pick c x y => xvPick S c x y K
  | .build t ps => xvBuild X S t ps.toList K
  | .load t x => xvLoad X S t x K
  | .binOp op t x y _ => xvBin X S op t x y K
  | .unOp op _ x => xvUn S op x K
  | .convert s d x => xvConv X S s d x K
  | .fieldAddr t x f => xvFieldAddr X S t x f K
  | .indexAddr t x i => xvIndexAddr X S t x i K
  | .index t x i => xvIndex X S t x i K
  | .field t x f => xvField X S t x f K
  | .extract x i => xvExtract S x i K
  | .call c => (match c.callee with
    | .builtin b => xvBuiltin X S b c.args.toList c.argTypes.toList K
    | _ => False)
  | _ => False
theorem xval_ok (hT : TabOk X.P X.T) (e : Env) (a : Act) {o : Oper} {K : SV → Prop} (hk : xval X o S K) : Yv X e S a o K := by
  unfold xval at hk
  split at hk
  · rename_i x ho; exact move_ok e a (.inl ho) hk
  · rename_i x ho; exact move_ok e a (.inr ho) hk
  · rename_i c x y ho; exact pick_ok e a ho hk
  · rename_i t ps ho; exact build_ok hT e a ho hk
  · rename_i t x ho; exact load_ok hT e a ho hk
  · rename_i op t x y t' ho; exact bin_ok hT e a ho hk
  · rename_i op t x ho; exact un_ok e a ho hk
  · rename_i s d x ho; exact conv_ok hT e a ho hk
  · rename_i t x f ho; exact fieldAddr_ok hT e a ho hk
  · rename_i t x i ho; exact indexAddr_ok hT e a ho hk
  · rename_i t x i ho; exact index_ok hT e a ho hk
  · rename_i t x f ho; exact field_ok hT e a ho hk
  · rename_i x i ho; exact extract_ok e a ho hk
  · rename_i c ho
    obtain ⟨callee, args, ts⟩ := c
    split at hk
    · rename_i b hc
      simp only at hc
      subst hc
      exact builtin_ok hT e a ho hk
    · exact hk.elim
  · exact hk.elim
def xvg (X : Cx) (ops : List Oper) (o : Oper) (S : St) (K : SV → Prop) : Prop := match dstOk X.nt o.dst with
  | false => False
  | true => (match o.guard with
    | none => xval X o S K
    | some (j, want) => (match guardS S ops j with
      | some (.c (.v (.bool t))) => brP t (match want with
          | true => xval X o S K
          | false => K .un) (match want with
          | true => K .un
          | false => xval X o S K)
      | some .un => K .un
      | _ => False))
/-- An operation is taken first. -/
theorem drw_take (hT : TabOk X.P X.T) {ops : List Oper} {e0 : Env} {n0 : Nat} {keep : List (Nat × Blk)} {fuel : Nat} {listed : Array Bool} {K : St → Prop} (i : Nat) {o : Oper} (hi : ops[i]? = some o) (hsel : Region.noSelect ops.toArray = true) (hf : Region.free .any ops.toArray listed i = true) (hr : (Region.ready .any ops.toArray listed).contains i = true)
    (hx : xvg X ops o (S.onlyH keep) fun v => St.force (S.put o.dst v) fun S' => drwP X ops e0 n0 keep fuel (listed.setIfInBounds i true) S' K) : drwP X ops e0 n0 keep (fuel + 1) listed S K := by
  refine ⟨?_⟩
  intro hn hkeep e a w hs h KK hKK
  have hW := keepW_of hkeep hs h
  have hV : ∀ w', KeepW X e0 keep w' → RepV X e (S.onlyH keep) a w' := fun w' hw' => ⟨h.fr, h.frlt, fun k b hk => by
    obtain ⟨h1, h2, h3⟩ := hkeep k b hk
    obtain ⟨F, hF⟩ := hw' k b hk
    exact ⟨F, Blk.holds_keep hF hs h2 h3 (fun _ h => h) (fun _ _ => rfl) (fun _ _ => rfl)⟩, fun k b hk => h.hlt k b (hkeep k b hk).1, h.one⟩
  have go : ∀ v : SV, v.lt S.nx = true → dstOk X.nt o.dst = true → YieldsIf X.P ops.toArray (KeepW X e0 keep) o (v.den e) a → (St.force (S.put o.dst v) fun S' => drwP X ops e0 n0 keep fuel (listed.setIfInBounds i true) S' K) → wpAnyH X.P .any ops.toArray (onlyN KK) (KeepW X e0 keep) (fuel + 1) listed a w := by
    intro v hl hd hy hd2
    refine wpAnyH_take (by simpa using hi) hsel hf hr (fun _ _ _ hp => hp) hy hW ?_
    rw [force_eq] at hd2
    replace hd2 := hd2.out
    have hnx : (S.put o.dst v).nx = S.nx := by cases o.dst <;> rfl
    have hH : (S.put o.dst v).H = S.H := by cases o.dst <;> rfl
    exact hd2 (by rw [hnx]; exact hn) (by rw [hH]; exact hkeep) e _ w hs (h.put hd hl) KK hKK
  unfold xvg at hx
  split at hx
  · exact hx.elim
  · rename_i hd
    have run : xval X o (S.onlyH keep) (fun v => St.force (S.put o.dst v) fun S' => drwP X ops e0 n0 keep fuel (listed.setIfInBounds i true) S' K) → Region.wanted o (yielded ops.toArray a.tmps) = true → wpAnyH X.P .any ops.toArray (onlyN KK) (KeepW X e0 keep) (fuel + 1) listed a w := by
      intro hv hw
      obtain ⟨v, hK, hyv⟩ := xval_ok hT e a hv
      exact go v (hyv w (hV w hW)).1 hd (.inl ⟨hw, fun w' hw' => (hyv w' (hV w' hw')).2⟩) hK
    have skip : (St.force (S.put o.dst .un) fun S' => drwP X ops e0 n0 keep fuel (listed.setIfInBounds i true) S' K) → Region.wanted o (yielded ops.toArray a.tmps) = false → wpAnyH X.P .any ops.toArray (onlyN KK) (KeepW X e0 keep) (fuel + 1) listed a w := fun hK hw => go .un rfl hd (.inr ⟨hw, rfl⟩) hK
    split at hx
    · rename_i hg
      exact run hx (by simp [Region.wanted, hg])
    · rename_i j want hg
      split at hx
      · rename_i t hgs
        obtain ⟨d, hd', hv⟩ := yielded_of (hV w hW) hgs
        have hy : yielded ops.toArray a.tmps j = some t := by
          unfold yielded
          rw [hd', Option.bind_some, hv]
          rfl
        have hw : Region.wanted o (yielded ops.toArray a.tmps) = (t == want) := by
          simp only [Region.wanted, hg, hy]
          cases t <;> cases want <;> rfl
        rcases br_case hx with ⟨rfl, hx2⟩ | ⟨rfl, hx2⟩ <;> cases want <;> simp only at hx2
        · exact skip hx2 hw
        · exact run hx2 hw
        · exact run hx2 hw
        · exact skip hx2 hw
      · rename_i hgs
        obtain ⟨d, hd', hv⟩ := yielded_of (hV w hW) hgs
        have hy : yielded ops.toArray a.tmps j = none := by
          unfold yielded
          rw [hd', Option.bind_some, hv]
          rfl
        exact skip hx (by simp [Region.wanted, hg, hy])
      · exact hx.elim
/-- Whichever of those that may come up comes up. -/
def AllR (ops : List Oper) (p : Nat → Oper → Prop) : List Nat → Prop
  | [] => True
  | i :: r => (match ops[i]? with
    | some o => p i o
    | none => False) ∧ AllR ops p r
theorem allR_nil {ops : List Oper} {p : Nat → Oper → Prop} : AllR ops p [] := trivial
theorem allR_cons {ops : List Oper} {p : Nat → Oper → Prop} {i : Nat} {r : List Nat} (o : Oper) (ho : ops[i]? = some o) (h : p i o) (hr : AllR ops p r) : AllR ops p (i :: r) := by
  unfold AllR
  rw [ho]
  exact ⟨h, hr⟩
theorem AllR.mem {ops : List Oper} {p : Nat → Oper → Prop} : ∀ {rs : List Nat}, AllR ops p rs → ∀ i ∈ rs, ∃ o, ops[i]? = some o ∧ p i o
  | [], _, i, hi => by cases hi
  | j :: r, h, i, hi => by
    rcases List.mem_cons.1 hi with rfl | hi
    · have := h.1
      split at this
      · rename_i o ho; exact ⟨o, ho, this⟩
      · exact this.elim
    · exact AllR.mem h.2 i hi
theorem drw_ready (hT : TabOk X.P X.T) {ops : List Oper} {e0 : Env} {n0 : Nat} {keep : List (Nat × Blk)} {fuel : Nat} {listed : Array Bool} {K : St → Prop} (rs : List Nat) (hr : Region.ready .any ops.toArray listed = rs) (hne : rs.isEmpty = false)
    (hx : AllR ops (fun i o => xguard X ops o S fun S' => St.force S' fun S' => (Nat.ble n0 S'.nx = true ∧ KeepL S'.H keep) ∧ drwP X ops e0 n0 keep fuel (listed.setIfInBounds i true) S' K) rs) : drwP X ops e0 n0 keep (fuel + 1) listed S K := by
  refine ⟨?_⟩
  intro hn hkeep e a w hs h KK hKK
  refine wpAnyH_all hr (fun e1 => by subst e1; cases hne) fun i hi => ?_
  obtain ⟨o, ho, hxo⟩ := hx.mem i hi
  have hg := xguard_ok hT h hxo (KK := fun a' w' => KeepW X e0 keep w' ∧ wpAnyH X.P .any ops.toArray (onlyN KK) (KeepW X e0 keep) fuel (listed.setIfInBounds i true) a' w') (onlyN KK) fun e' S' a' w' hs' hR hS' => by
    rw [force_eq] at hS'
    obtain ⟨⟨h1, h2⟩, h3⟩ := hS'
    have hk' : ∀ k b, get keep k = some b → get S'.H k = some b ∧ k < n0 ∧ b.lt n0 = true := fun k b hb => ⟨h2.get hb, (hkeep k b hb).2⟩
    have hs2 : Env.same n0 e0 e' := hs.trans (hs'.mono hn)
    replace h3 := h3.out
    exact ⟨keepW_of hk' hs2 hR, h3 (Nat.le_of_ble_eq_true h1) hk' e' a' w' hs2 hR KK hKK⟩
  unfold wpOp
  rw [show ops.toArray[i]? = some o by simpa using ho]
  simp only
  split
  · rename_i hw; rw [if_pos hw] at hg; exact .inl hg
  · rename_i hw; rw [if_neg hw] at hg; exact hg
/-- All have come up. -/
theorem drw_done {ops : List Oper} {e0 : Env} {n0 : Nat} {keep : List (Nat × Blk)} {fuel : Nat} {listed : Array Bool} {K : St → Prop} (hr : Region.ready .any ops.toArray listed = []) (hk : K S) : drwP X ops e0 n0 keep fuel listed S K := by
  refine ⟨?_⟩
  intro _ _ e a w hs h KK hKK
  exact wpAnyH_done hr (hKK e S a w h hk) fuel
/-- The beginning. 'bad': the numbers of the blocks that the region may write. -/
theorem draw_go {id : Nat} {ops : Array Oper} {Q : Exit → St → Prop} (bad : List Nat) (hm : X.P.follows .mixedOrders = true)
    (hx : ∀ e0, drwP X ops.toList e0 S.nx (dropIds bad S.H) ops.toList.length (Array.replicate ops.toList.length false) S (Q .normal)) : semP X (.region id ops true) S Q := by
  refine ⟨?_⟩
  intro e a w h Qr hQ
  have hd := h.drawn (w.drawn + 1)
  refine Code.wp_mono (Q := onlyN fun a w => Qr .normal a w) (fun ex a w hq => ?_) (wp_region_held (S := KeepW X e (dropIds bad S.H)) hm ?_)
  · cases ex with
    | normal => exact hq
    | exit id => exact hq.elim
    | goto l => exact hq.elim
    | ret => exact hq.elim
    | panic ch => exact hq.elim
    | outgrown => exact hq.elim
  · have := hx e
    replace this := this.out
    have h2 := this (Nat.le_refl _) (fun k b hb => ⟨(get_dropIds hb).1, h.hlt k b (get_dropIds hb).1⟩) e a _ (Env.same.refl _ _) hd (fun a w => Qr .normal a w) fun e' S' a' w' hR hS' => hQ _ _ _ _ _ hR hS'
    simpa using h2
/-- What an append needs, where an element has so many bytes. -/
theorem need_app {n m b : Nat} {K : Prop} (b' : Nat) (hb : b = b') (h : (n + m) * b' ≤ 140737488355328 ∧ n + m ≤ 140737488355328) (hk : K) : needP ((n + m) * b ≤ 140737488355328 ∧ n + m ≤ 140737488355328) K := by subst hb; exact need_of h hk
theorem row_ren {ρ : Nat → Nat} {H : List (Nat × Blk)} {k ety esz n n' : Nat} {xs : List C} (vs : List Value) (h : get H k = some (.row ety esz n xs)) (hn : n = n') (hx : xs = vs.map C.v) : get H k = some ((Blk.row ety esz n' (vs.map C.v)).ren ρ) := by
  subst hn; subst hx
  rw [h]
  simp only [Blk.ren, map_ren_v]
/-- What a row's owner hands back. -/
theorem fin_row {α : Type} {S : St} {p : α → Prop} {k ety esz n : Nat} {cs : List C} {ns : α → Nat} {xs : α → List Value} {w : World} {nt : Nat} {P : Program} {T : Tab} (x : α) (hp : p x) (hk : get S.H k = some (.row ety esz n cs)) (hn : n = ns x) (hx : cs = (xs x).map C.v) (h1 : ∀ u ∈ xs x, u.oneCell' = true) : finP ⟨P, T, w, nt⟩ S (.c (.row k)) (RetRow p ety esz ns xs (fun _ r => r) w) := fin_of fun e a w' hR => by
  subst hn; subst hx
  have := (hR.hp k _ hk).1
  rw [map_den_v] at this
  exact ⟨x, _, hp, rfl, hR.bel, this, h1⟩
/-- What could be read at the beginning can be read still. -/
theorem reads_later {esz n : Nat} {v : Value} {xs : List Value} (h : Rep X e S a w) (hr : Reads (fun b => b < X.w0.heap.size) X.w0 esz v n xs) : Reads S.F w esz v n xs :=
  Reads.keep hr h.f0 (fun b hb => h.bel.block b hb)
theorem open_in {x : Value} {K : St → SV → Prop} (esz n : Nat) (xs : List Value) (hr : Reads (fun b => b < X.w0.heap.size) X.w0 esz x n xs) (h1 : ∀ u ∈ xs, u.oneCell' = true) (h : K (S.new (.ext esz n (xs.map C.v))) (.c (.row S.nx))) : openP X S x K :=
  open_ext esz n xs (fun _ _ _ hR => reads_later hR hr) h1 h
/-- A slice that came in is opened at the beginning. -/
theorem sub_ext (t esz n : Nat) (v : Value) (xs : List Value) (ht : get S.fr t = some (.c (.v v))) (hr : Reads (fun b => b < X.w0.heap.size) X.w0 esz v n xs) (h1 : ∀ u ∈ xs, u.oneCell' = true) :
    Sub X S { S with fr := (t, .c (.row S.nx)) :: S.fr, H := (S.nx, .ext esz n (xs.map C.v)) :: S.H, nx := S.nx + 1 } := by
  refine ⟨?_⟩
  intro e a w h
  have hR := h.newExt (esz := esz) (n := n) (xs := xs.map C.v) (v := v) (ltAll_v h1) (by rw [map_den_v]; exact reads_later h hr)
  refine ⟨_, { hR with fr := fun i u hu => ?_, frlt := fun i u hu => ?_ }⟩
  · rcases get_cons hu with ⟨rfl, rfl⟩ | ⟨_, hu⟩
    · have := h.fr _ _ ht
      simp only [SV.den, C.den, Env.withRow_rv] at this ⊢
      exact this
    · exact hR.fr i u hu
  · rcases get_cons hu with ⟨rfl, rfl⟩ | ⟨_, hu⟩
    · exact blt_iff.2 (Nat.lt_succ_self _)
    · exact hR.frlt i u hu
/-- What a state reads, as a callee wants it. -/
theorem ext_reads {k esz n : Nat} {xs : List Value} (h : Rep X e S a w) (hk : get S.H k = some (.ext esz n (xs.map C.v))) : Reads (fun b => b < w.heap.size) w esz (e.rv k) n xs := by
  have := (h.hp k _ hk).1
  rw [map_den_v] at this
  exact Reads.keep this h.fl (fun _ _ => rfl)
end
end Go.Proofs.Ytbajgjbgkpcapaa.Sx
