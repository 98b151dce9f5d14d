/- Graph: what bytes are a graph: plain laws of Decode. -/
import Derived.Test.YtgkkpefpbfadoaaGreatAk30
import Derived.Test.YtgkkpefpbfadoaaGreatAk11
namespace Go.Proofs.YtgkkpefpbfadoaaGreat
open Go Go.RowKit
def numB (l : List Int) : Int := l.foldl (fun n c => IntKind.i64.wrap (n * 256 + c)) 0
def opAt (l : List Int) : Opr := ⟨(l[0]?).getD 0, (l[1]?).getD 0, (l.drop 19).take ((l[18]?).getD 0).toNat, numB ((l.drop 2).take 8), numB ((l.drop 10).take 8)⟩
def inLen (l : List Int) : Nat := ((l[18]?).getD 0).toNat
def parse : Nat → List Int → Option (List Opr × List Int)
 | 0, l => some ([], l)
 |n + 1, l => if l.length < 19 then none else if l.length < 19 + inLen l then none else match parse n (l.drop (19 + inLen l)) with
  | none => none
  | some (os, r) => some (opAt l :: os, r)
def decV (bs : List Int) : List Opr × Int := match bs with
 | [] => ([], 7)
 |c :: r => if 8 < c then ([], 160) else match parse c.toNat r with
  | none => ([], 7)
  | some (os, _) => if (checkV os).2 = 0 ∧ gBs os = bs then (os, 0) else ([], 160)
theorem decV_cons (c : Int) (r : List Int) : decV (c :: r) = if 8 < c then (([], 160) : List Opr × Int) else match parse c.toNat r with
  | none => ([], 7)
  | some (os, _) => if (checkV os).2 = 0 ∧ gBs os = c :: r then (os, 0) else ([], 160) := rfl
theorem wrap_step (n c : Int) : IntKind.i64.wrap (IntKind.i64.wrap n * 256 + c) = IntKind.i64.wrap (n * 256 + c) := by
 simp only [IntKind.wrap_i64]; omega
theorem numB_snoc (l : List Int) (c : Int) : numB (l ++ [c]) = IntKind.i64.wrap (numB l * 256 + c) := by unfold numB; rw [List.foldl_append]; rfl
theorem numB_beN (x : Int) (hx : 0 ≤ x) : ∀ (m k : Nat), m + k = 8 → x < 2 ^ 64 → numB ((beN x 8).take m) = IntKind.i64.wrap (x.fdiv (2 ^ (8 * k)))
 |0, k, h, hl => by
  have : k = 8 := by omega
  subst this
  show (0 : Int) = _
  rw [Int.fdiv_eq_ediv_of_nonneg _ (by decide), IntKind.wrap_i64]
  have : x / (2 ^ (8 * 8)) = 0 := Int.ediv_eq_zero_of_lt hx hl
  rw [this]; decide
 |m + 1, k, h, hl => by
  have ih := numB_beN x hx m (k + 1) (by omega) hl
  have hlen := beN_len x 8
  have hget := beN_get x 8 m (by omega)
  have hlt : m < (beN x 8).length := by omega
  have hg : (beN x 8)[m] = b8 (x.fdiv (2 ^ (8 * (8 - 1 - m)))) := by
   rw [List.getElem?_eq_getElem hlt] at hget
   exact Option.some.inj hget
  rw [List.take_succ_eq_append_getElem hlt, numB_snoc, ih, hg, wrap_step, b8_eq, show 8 - 1 - m = k by omega]
  congr 1
  have hp : (0 : Int) ≤ 2 ^ (8 * k) := Int.le_of_lt (Int.pow_pos (by decide))
  have hp' : (0 : Int) ≤ 2 ^ (8 * (k + 1)) := Int.le_of_lt (Int.pow_pos (by decide))
  rw [Int.fdiv_eq_ediv_of_nonneg _ hp, Int.fdiv_eq_ediv_of_nonneg _ hp', show 8 * (k + 1) = 8 * k + 8 by omega, Int.pow_add, ← Int.ediv_ediv_of_nonneg hp]
  show x / 2 ^ (8 * k) / 256 * 256 + x / 2 ^ (8 * k) % 256 = _
  omega
theorem num_u64 {x : Int} (hx : -9223372036854775808 ≤ x ∧ x ≤ 9223372036854775807) : numB (beN (u64w x) 8) = x := by
 have h0 := u64w_nonneg x
 have hu : u64w x < 2 ^ 64 := by unfold u64w; rw [IntKind.wrap_u64]; omega
 have := numB_beN (u64w x) h0 8 0 rfl hu
 rw [List.take_of_length_le (by rw [beN_len]; omega)] at this
 rw [this, show (2 : Int) ^ (8 * 0) = 1 from rfl, Int.fdiv_eq_ediv_of_nonneg _ (by decide), Int.ediv_one]
 unfold u64w
 rw [IntKind.wrap_u64, IntKind.wrap_i64]
 omega
def small (o : Opr) : Prop := 0 ≤ o.tag ∧ o.tag < 256 ∧ 0 ≤ o.width ∧ o.width < 256 ∧ o.ins.length < 256 ∧ (∀ k ∈ o.ins, 0 ≤ k ∧ k < 256) ∧ (-9223372036854775808 ≤ o.a ∧ o.a ≤ 9223372036854775807) ∧ (-9223372036854775808 ≤ o.b ∧ o.b ≤ 9223372036854775807)
theorem b8_id {x : Int} (h : 0 ≤ x ∧ x < 256) : b8 x = x := by rw [b8_eq]; omega
theorem map_b8 {l : List Int} (h : ∀ k ∈ l, 0 ≤ k ∧ k < 256) : l.map b8 = l := by
 conv => rhs; rw [← List.map_id l]
 exact List.map_congr_left fun k hk => b8_id (h k hk)
theorem opBs_split (o : Opr) (r : List Int) (h : small o) : ∃ p q : List Int, p.length = 8 ∧ q.length = 8 ∧ p = beN (u64w o.a) 8 ∧ q = beN (u64w o.b) 8 ∧ opBs o ++ r = o.tag :: o.width :: (p ++ (q ++ ((o.ins.length : Int) :: (o.ins ++ r)))) := by
 obtain ⟨h1, h2, h3, h4, h5, h6, h7, h8⟩ := h
 refine ⟨_, _, beN_len _ 8, beN_len _ 8, rfl, rfl, ?_⟩
 unfold opBs
 rw [b8_id ⟨h1, h2⟩, b8_id ⟨h3, h4⟩, b8_id (x := (o.ins.length : Int)) (by omega), map_b8 h6]
 simp
theorem at18 {a b : Int} {p q r : List Int} {c : Int} (hp : p.length = 8) (hq : q.length = 8) : (a :: b :: (p ++ (q ++ (c :: r))))[18]? = some c := by
 rw [List.getElem?_cons_succ, List.getElem?_cons_succ, List.getElem?_append_right (by omega), List.getElem?_append_right (by omega), hp, hq]
 rfl
theorem drop19 {a b : Int} {p q r : List Int} {c : Int} (hp : p.length = 8) (hq : q.length = 8) (k : Nat) : (a :: b :: (p ++ (q ++ (c :: r)))).drop (19 + k) = r.drop k := by
 rw [show 19 + k = (8 + (8 + (1 + k))) + 1 + 1 by omega, List.drop_succ_cons, List.drop_succ_cons, List.drop_append, List.drop_of_length_le (by omega), hp, show 8 + (8 + (1 + k)) - 8 = 8 + (1 + k) by omega, List.nil_append, List.drop_append, List.drop_of_length_le (by omega), hq, show 8 + (1 + k) - 8 = k + 1 by omega, List.nil_append, List.drop_succ_cons]
theorem opAt_of {o : Opr} (r : List Int) (h : small o) : opAt (opBs o ++ r) = o ∧ inLen (opBs o ++ r) = o.ins.length := by
 obtain ⟨p, q, hp, hq, ep, eq, e⟩ := opBs_split o r h
 rw [e]
 have h18 := at18 (a := o.tag) (b := o.width) (p := p) (q := q) (r := o.ins ++ r) (c := (o.ins.length : Int)) hp hq
 have hin : inLen (o.tag :: o.width :: (p ++ (q ++ ((o.ins.length : Int) :: (o.ins ++ r))))) = o.ins.length := by unfold inLen; rw [h18]; simp
 refine ⟨?_, hin⟩
 have h19 := drop19 (a := o.tag) (b := o.width) (p := p) (q := q) (r := o.ins ++ r) (c := (o.ins.length : Int)) hp hq 0
 unfold opAt
 rw [h18, h19]
 have d2 : ((o.tag :: o.width :: (p ++ (q ++ ((o.ins.length : Int) :: (o.ins ++ r))))).drop 2).take 8 = p := by
  rw [List.drop_succ_cons, List.drop_succ_cons, List.drop_zero, List.take_append, List.take_of_length_le (by omega), hp]
  simp
 have d10 : ((o.tag :: o.width :: (p ++ (q ++ ((o.ins.length : Int) :: (o.ins ++ r))))).drop 10).take 8 = q := by
  rw [List.drop_succ_cons, List.drop_succ_cons, List.drop_append, List.drop_of_length_le (by omega), hp, List.nil_append, List.drop_zero, List.take_append, List.take_of_length_le (by omega), hq]
  simp
 rw [d2, d10, ep, eq, num_u64 h.2.2.2.2.2.2.1, num_u64 h.2.2.2.2.2.2.2]
 simp
theorem small_len {o : Opr} {r : List Int} : (opBs o ++ r).length = 19 + o.ins.length + r.length := by rw [List.length_append, opBs_len]
def bodyB (g : List Opr) : List Int := (g.map opBs).flatten
theorem bodyB_cons (o : Opr) (g : List Opr) : bodyB (o :: g) = opBs o ++ bodyB g := by simp [bodyB]
theorem parse_all : ∀ (g : List Opr) (r : List Int), (∀ o ∈ g, small o) → parse g.length (bodyB g ++ r) = some (g, r)
 | [], r, _ => rfl
 |o :: g, r, h => by
  have ho := h o (by simp)
  obtain ⟨h1, h2⟩ := opAt_of (bodyB g ++ r) ho
  rw [bodyB_cons, List.append_assoc, List.length_cons, parse, if_neg (by rw [small_len]; omega), if_neg (by rw [small_len, h2]; omega), h2, List.drop_append, List.drop_of_length_le (by rw [opBs_len]; omega), opBs_len,
   Nat.sub_self, List.nil_append, List.drop_zero, parse_all g r fun o ho => h o (by simp [ho])]
  dsimp only
  rw [h1]
theorem gBs_cons (g : List Opr) (h : g.length < 256) : gBs g = (g.length : Int) :: bodyB g := by
 unfold gBs gN bodyB
 rw [b8_id (by omega), List.take_length]
theorem good_small {g : List Opr} (h : (checkV g).2 = 0) (hr : ∀ o ∈ g, (-9223372036854775808 ≤ o.a ∧ o.a ≤ 9223372036854775807) ∧ (-9223372036854775808 ≤ o.b ∧ o.b ≤ 9223372036854775807)) : ∀ o ∈ g, small o := fun o ho => by
 obtain ⟨i, hi, rfl⟩ := List.mem_iff_getElem.1 ho
 have h8 := (check_ok h).2.1
 have ha := check_good h i _ hi (List.getElem?_eq_getElem hi)
 have hl := rises_len ha.2.2.1
 have hk := alone_ins ha
 obtain ⟨h1, h2, _, h3⟩ := ha
 refine ⟨?_, ?_, by omega, by omega, by omega, fun k hk' => ?_, (hr _ ho).1, (hr _ ho).2⟩
 ·rcases h3 with h | h | h | h | h | ⟨h | h, _⟩ <;> omega
 ·rcases h3 with h | h | h | h | h | ⟨h | h, _⟩ <;> omega
 ·have := hk k hk'; omega
theorem dec_enc {g : List Opr} (h : (checkV g).2 = 0) (hs : ∀ o ∈ g, small o) : decV (gBs g) = (g, 0) := by
 have h8 := (check_ok h).2.1
 have hp := parse_all g [] hs
 rw [List.append_nil] at hp
 have hc := gBs_cons g (by omega)
 rw [hc, decV, if_neg (by omega), Int.toNat_natCast, hp]
 dsimp only
 rw [if_pos ⟨h, hc⟩]
theorem b8_mem (x : Int) : 0 ≤ b8 x ∧ b8 x < 256 := by rw [b8_eq]; omega
theorem beN_mem (x : Int) : ∀ n, ∀ b ∈ beN x n, 0 ≤ b ∧ b < 256
 | 0, b, hb => by cases hb
 |n + 1, b, hb => by
  rw [beN] at hb
  rcases List.mem_cons.1 hb with rfl | hb
  ·exact b8_mem _
  ·exact beN_mem x n b hb
theorem opBs_mem (o : Opr) : ∀ b ∈ opBs o, 0 ≤ b ∧ b < 256 := fun b hb => by
 unfold opBs at hb
 simp only [List.mem_append, List.mem_cons, List.mem_nil_iff, or_false, List.mem_map] at hb
 rcases hb with (rfl | rfl) | hb | hb | rfl | ⟨k, _, rfl⟩
 ·exact b8_mem _
 ·exact b8_mem _
 ·exact beN_mem _ _ b hb
 ·exact beN_mem _ _ b hb
 ·exact b8_mem _
 ·exact b8_mem _
theorem gBs_mem (g : List Opr) : ∀ b ∈ gBs g, 0 ≤ b ∧ b < 256 := fun b hb => by
 unfold gBs gN at hb
 rcases List.mem_cons.1 hb with rfl | hb
 ·exact b8_mem _
 ·obtain ⟨l, hl, hb⟩ := List.mem_flatten.1 hb
  obtain ⟨o, _, rfl⟩ := List.mem_map.1 hl
  exact opBs_mem o b hb
theorem bytesOf_inj : ∀ {xs ys : List Int}, (∀ b ∈ xs, 0 ≤ b ∧ b < 256) → (∀ b ∈ ys, 0 ≤ b ∧ b < 256) → Lib.bytesOf xs = Lib.bytesOf ys → xs = ys
 | [], [], _, _, _ => rfl
 | [], _ :: _, _, _, h => by cases h
 | _ :: _, [], _, _, h => by cases h
 |x :: xs, y :: ys, hx, hy, h => by
  unfold Lib.bytesOf at h
  rw [List.map_cons, List.map_cons] at h
  injection h with h1 h2
  have h3 := congrArg UInt8.toNat h1
  rw [UInt8.toNat_ofNat', UInt8.toNat_ofNat'] at h3
  have b1 := hx x (by simp)
  have b2 := hy y (by simp)
  have e : x = y := by omega
  rw [e, bytesOf_inj (fun b hb => hx b (by simp [hb])) (fun b hb => hy b (by simp [hb])) h2]
theorem bytesEq_dec {xs ys : List Int} (hx : ∀ b ∈ xs, 0 ≤ b ∧ b < 256) (hy : ∀ b ∈ ys, 0 ≤ b ∧ b < 256) : (Lib.bytesOf xs == Lib.bytesOf ys) = decide (xs = ys) := by
 by_cases h : xs = ys
 ·rw [decide_eq_true h, h]; simp
 ·rw [decide_eq_false h]
  exact beq_eq_false_iff_ne.2 fun e => h (bytesOf_inj hx hy e)
end Go.Proofs.YtgkkpefpbfadoaaGreat
namespace Go.Proofs.YtgkkpefpbfadoaaGreat
open Go Go.RowKit
open Sy (C SV V1 Blk St XD Els RD)
structure One where
 v : Value
 h : v.oneCell' = true
structure Two where
 a : Value
 b : Value
 ha : a.oneCell' = true
 hb : b.oneCell' = true
theorem mem_r1 {P : Program} {f : FuncId} {args : Array Value} {w : World} {r : RD} {v : Unit → List Value → Value} (n : Nat) (hn : n ≤ w.heap.size) (h : Calls P f args w (Sy.RetRows Sy.noRow (fun _ : Unit => True) (fun _ => [r]) v w)) :
  Calls P f args w (Sy.RetMem (fun (x : One) G w' => XD.ok (fun b => G b ∧ n ≤ b) w' ⟨x.v, r.esz, r.n, r.xs⟩) (fun x => v () [x.v]) w) :=
 h.mono fun E w' ⟨_, vs, _, hE, hg, ho, hf⟩ => by
  match vs, ho, hf, hE with
  |[u], ho, hf, hE =>
   refine ⟨⟨u, Sy.OwnE.one ho.1⟩, hE, hg.below, XD.ok.mono (Sy.OwnE.reads ho.1) fun b hb => ?_⟩
   have := (hf u List.mem_cons_self b hb.2).resolve_left (Sy.noRow_foot b)
   exact ⟨⟨this, hb.1⟩, Nat.le_trans hn this⟩
theorem mem_r2 {P : Program} {f : FuncId} {args : Array Value} {w : World} {r r' : RD} {v : Unit → List Value → Value} (n : Nat) (hn : n ≤ w.heap.size) (h : Calls P f args w (Sy.RetRows Sy.noRow (fun _ : Unit => True) (fun _ => [r, r']) v w)) :
  Calls P f args w (Sy.RetMem (fun (x : Two) G w' => XD.ok (fun b => G b ∧ n ≤ b) w' ⟨x.a, r.esz, r.n, r.xs⟩ ∧ XD.ok (fun b => G b ∧ n ≤ b) w' ⟨x.b, r'.esz, r'.n, r'.xs⟩) (fun x => v () [x.a, x.b]) w) :=
 h.mono fun E w' ⟨_, vs, _, hE, hg, ho, hf⟩ => by
  match vs, ho, hf, hE with
  |[u, t], ho, hf, hE =>
   refine ⟨⟨u, t, Sy.OwnE.one ho.1, Sy.OwnE.one ho.2.2.1⟩, hE, hg.below, XD.ok.mono (Sy.OwnE.reads ho.1) fun b hb => ?_, XD.ok.mono (Sy.OwnE.reads ho.2.2.1) fun b hb => ?_⟩
   ·have := (hf u List.mem_cons_self b hb.2).resolve_left (Sy.noRow_foot b)
    exact ⟨⟨this, hb.1⟩, Nat.le_trans hn this⟩
   ·have := (hf t (List.mem_cons_of_mem _ List.mem_cons_self) b hb.2).resolve_left (Sy.noRow_foot b)
    exact ⟨⟨this, hb.1⟩, Nat.le_trans hn this⟩
theorem fin_mem {lv : List (Nat × List Nat)} {P : Program} {T : Sy.Tab} {w0 : World} {nt : Nat} {α : Type} {p : α → (Nat → Prop) → World → Prop} {v : α → Value} {S : St} {sv : SV} (x : α) (hv : ∀ e, sv.den e = v x)
  (hp : ∀ w, w0.heap.size ≤ w.heap.size → S.E w → (∀ b, S.F b → b < w.heap.size) → p x (fun b => w0.heap.size ≤ b ∧ b < w.heap.size) w) : Sy.finP { P := P, T := T, w0 := w0, nt := nt, lv := lv } S sv (Sy.RetMem p v w0) :=
 Sy.fin_of fun e a w h => ⟨x, by rw [hv], h.bel.below, hp w h.bel.size (h.ev w fun _ _ => rfl) fun b hb => h.fl b hb⟩
theorem XD.ok.keep {F F' : Nat → Prop} {w w' : World} {d : XD} (h : XD.ok F w d) (hF : ∀ b, F b → F' b) (hk : ∀ b, F b → w'.heap[b]? = w.heap[b]?) : XD.ok F' w' d := ⟨h.1.keep hF hk, h.2⟩
theorem fin_freezeg {X : Sy.Cx} {S : St} {R : Ending → World → Prop} {v : SV} (v' : Value → SV) (k ety esz n : Nat) (xs : List (List Value)) (hH : Sy.get S.H k = some (.row ety esz n (.vs xs))) (hden : ∀ e : Sy.Env, v.den e = (v' (e.rv k)).den e)
  (hc : ∀ (u : Value) (G : Nat → Prop), (∀ b, G b → ¬ S.F b) → u.oneCell' = true → Sy.finP X (S.froz k (fun b => S.F b ∨ G b) (fun w => S.E w ∧ (XD.ok G w ⟨u, esz, n, xs⟩ ∧ ∀ b, G b → S.F b ∨ G b))) (v' u) R) : Sy.finP X S v R := Sy.fin_of fun e a w h => by
 have hh := h.hp k _ hH
 have hown : Sy.OwnE w ety esz (e.rv k) n xs := hh.1
 have hc := hc (e.rv k) (Sy.rfoot (e.rv k)) (fun b hb => h.ff k _ b hH hb) (h.one k)
 have hkill := h.kill k (h.hlt k _ hH).1
 have hR := hkill.learn (G := Sy.rfoot (e.rv k)) (p := fun G w => XD.ok (Sy.rfoot (e.rv k)) w ⟨e.rv k, esz, n, xs⟩ ∧ ∀ b, Sy.rfoot (e.rv k) b → G b) (fun b hb => ⟨hown.lt hb, fun k' c hk' hf => ?_, fun hm => (h.mks b hm).2.2 k _ hH hb⟩)
  ⟨XD.ok.mono hown.reads (fun b hb => hb.2), fun b hb => hb⟩ (fun G G' w1 w2 hp hG hk' => ⟨⟨hp.1.1.keep (fun _ hb => hb) (fun b hb => hk' b (hp.2 b hb)), hp.1.2⟩, fun b hb => hG b (hp.2 b hb)⟩)
 ·have hput : Sy.Rep X e (S.froz k (fun b => S.F b ∨ Sy.rfoot (e.rv k) b) (fun w => S.E w ∧ (XD.ok (Sy.rfoot (e.rv k)) w ⟨e.rv k, esz, n, xs⟩ ∧ ∀ b, Sy.rfoot (e.rv k) b → S.F b ∨ Sy.rfoot (e.rv k) b))) a w := by
   cases S; exact hR
  rw [hden e]
  exact hc.out e a w hput
 ·rcases Sy.get_cons hk' with ⟨e1, e2⟩ | ⟨hne, hk2⟩
  ·subst e2; exact hf.elim
  ·exact h.sep k k' _ c b hH hk2 hne hb hf
theorem snoc_ind {α : Type} {P : List α → Prop} (h0 : P []) (h : ∀ l x, P l → P (l ++ [x])) (l : List α) : P l := by
 rw [← List.reverse_reverse l]
 generalize l.reverse = r
 induction r with
 | nil => exact h0
 |cons x r ih =>
  rw [List.reverse_cons]
  exact h _ x ih
end Go.Proofs.YtgkkpefpbfadoaaGreat
