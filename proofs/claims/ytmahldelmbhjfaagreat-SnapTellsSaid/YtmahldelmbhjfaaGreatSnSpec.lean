/- Snap: snapshots as plain Lean, and how they lie in memory. -/
import Derived.Test.YtmahldelmbhjfaaGreatEnc
import Derived.Test.YtmahldelmbhjfaaGreatSyH
namespace Go.Proofs.YtmahldelmbhjfaaGreat.Sn
open Go Go.RowKit
open Sy (C SV V1 Blk St XD Els)

/-- A row of a table. -/
structure Kc where
  src : Int
  key : Int
  cnt : Int
  sum : Int
deriving DecidableEq
/-- A name. -/
structure Tx where
  sink : Int
  att : Int
  ser : Int
deriving DecidableEq
def encK (x : Kc) : List Value := [.int .i64 x.src, .int .i64 x.key, .int .i64 x.cnt, .int .i64 x.sum]
def encT (n : Tx) : List Value := [.int .i64 n.sink, .int .i64 n.att, .int .i64 n.ser]
instance : DecidableEq (Fin 8 → Int) := fun a b => decidable_of_iff (∀ i, a i = b i) ⟨funext, fun h i => by rw [h]⟩
/-- A snapshot. -/
structure Sn where
  op : Int
  idx : Int
  wid : Int
  fin : Bool
  rows : List Kc
  offs : Fin 8 → Int
  txs : List Tx
deriving DecidableEq
/-- A snapshot in memory: with the slices that its rows and its names are. -/
structure SnV where
  sn : Sn
  rv : Value
  tv : Value
/-- A snapshot's cells, its slices being u and t. -/
def cellsS {α : Type} (f : Value → α) (s : Sn) (u t : α) : List α := [f (.int .i64 s.op), f (.int .i64 s.idx), f (.int .i64 s.wid), f (.bool s.fin), u, f (.int .i64 (s.offs 0)), f (.int .i64 (s.offs 1)), f (.int .i64 (s.offs 2)), f (.int .i64 (s.offs 3)), f (.int .i64 (s.offs 4)), f (.int .i64 (s.offs 5)), f (.int .i64 (s.offs 6)), f (.int .i64 (s.offs 7)), t]
def encS (s : SnV) : List Value := [.int .i64 s.sn.op, .int .i64 s.sn.idx, .int .i64 s.sn.wid, .bool s.sn.fin, s.rv, .int .i64 (s.sn.offs 0), .int .i64 (s.sn.offs 1), .int .i64 (s.sn.offs 2), .int .i64 (s.sn.offs 3), .int .i64 (s.sn.offs 4), .int .i64 (s.sn.offs 5), .int .i64 (s.sn.offs 6), .int .i64 (s.sn.offs 7), s.tv]
/-- A snapshot's slices are read. -/
structure SOk (F : Nat → Prop) (w : World) (s : SnV) : Prop where
  rows : XD.ok F w ⟨s.rv, 4, s.sn.rows.length, s.sn.rows.map encK⟩
  txs : XD.ok F w ⟨s.tv, 3, s.sn.txs.length, s.sn.txs.map encT⟩
theorem SOk.mono {F F' : Nat → Prop} {w : World} {s : SnV} (h : SOk F w s) (hF : ∀ b, F b → F' b) : SOk F' w s := ⟨XD.ok.mono h.rows hF, XD.ok.mono h.txs hF⟩

/-! ### Keys, names -/
def recP (s k : Int) : Prop := 0 ≤ s ∧ s < 8 ∧ 0 ≤ k ∧ k < 32
instance (s k : Int) : Decidable (recP s k) := by unfold recP; infer_instance
def cmpI (x y : Int) : Int := if x < y then -1 else if y < x then 1 else 0
def orL : List Int → Int
  | [] => 0
  | x :: l => if x ≠ 0 then x else orL l
/-- How two keys stand to one another. -/
def cmpK (s k s' k' : Int) : Int := if s < s' ∨ (s = s' ∧ k < k') then -1 else if s = s' ∧ k = k' then 0 else 1
theorem cmpK_or (s k s' k' : Int) : orL [cmpI s s', cmpI k k'] = cmpK s k s' k' := by
  unfold cmpK
  simp only [orL, cmpI]
  repeat' split
  all_goals omega
def lessT (a b : Tx) : Prop := a.sink < b.sink ∨ (a.sink = b.sink ∧ (a.att < b.att ∨ (a.att = b.att ∧ a.ser < b.ser)))
instance (a b : Tx) : Decidable (lessT a b) := by unfold lessT; infer_instance
def cmpT (a b : Tx) : Int := orL [cmpI a.sink b.sink, cmpI a.att b.att, cmpI a.ser b.ser]
theorem cmpT_lt (a b : Tx) : cmpT a b < 0 ↔ lessT a b := by
  unfold cmpT lessT
  simp only [orL, cmpI]
  repeat' split
  all_goals omega
def okN (n : Tx) : Prop := 0 ≤ n.sink ∧ n.sink < 16 ∧ 1 ≤ n.att ∧ n.att ≤ 1048576 ∧ 1 ≤ n.ser ∧ n.ser ≤ 1048576
instance (n : Tx) : Decidable (okN n) := by unfold okN; infer_instance

/-! ### Shares -/
def shareP (i w : Int) : Prop := 1 ≤ w ∧ w ≤ 3 ∧ 0 ≤ i ∧ i < w
instance (i w : Int) : Decidable (shareP i w) := by unfold shareP; infer_instance
def ownW (g w : Int) : Int := g * w / 8
/-- Somebody's groups, below m. -/
def ownN (i w : Int) (m : Nat) : List Int := ((List.range m).map fun x : Nat => (x : Int)).filter fun g => decide (ownW g w = i)
def ownL (i w : Int) : List Int := ownN i w 8
theorem ownN_succ (i w : Int) (m : Nat) : ownN i w (m + 1) = ownN i w m ++ (if ownW m w = i then [(m : Int)] else []) := by
  unfold ownN
  rw [List.range_succ, List.map_append, List.filter_append]
  congr 1
  by_cases h : ownW m w = i
  · rw [if_pos h]; simp [h]
  · rw [if_neg h]; simp [h]
theorem ownN_len (i w : Int) (m : Nat) : (ownN i w m).length ≤ m := by
  unfold ownN
  refine Nat.le_trans (List.length_filter_le _ _) ?_
  rw [List.length_map, List.length_range]; exact Nat.le_refl _
theorem share_cases {i w : Int} (h : shareP i w) : (i = 0 ∧ w = 1) ∨ (i = 0 ∧ w = 2) ∨ (i = 1 ∧ w = 2) ∨ (i = 0 ∧ w = 3) ∨ (i = 1 ∧ w = 3) ∨ (i = 2 ∧ w = 3) := by
  unfold shareP at h; omega
/-- Is a key of a share? -/
def mineP (s k i w : Int) : Prop := recP s k ∧ shareP i w ∧ ownW (k % 8) w = i
instance (s k i w : Int) : Decidable (mineP s k i w) := by unfold mineP; infer_instance

/-- A group as a place. -/
def gI (x : Int) : Fin 8 := ⟨x.toNat % 8, Nat.mod_lt _ (by decide)⟩
theorem gI_val {x : Int} (h : 0 ≤ x ∧ x < 8) : ((gI x).val : Int) = x := by
  show ((x.toNat % 8 : Nat) : Int) = x
  omega
/-- Offsets with n at place g. -/
def upd (o : Fin 8 → Int) (g : Fin 8) (n : Int) : Fin 8 → Int := fun j => if j.val = g.val then n else o j
theorem upd_same (o : Fin 8 → Int) (g : Fin 8) (n : Int) : upd o g n g = n := if_pos rfl
theorem upd_other {o : Fin 8 → Int} {g j : Fin 8} (n : Int) (h : j ≠ g) : upd o g n j = o j := if_neg fun e => h (Fin.ext e)
theorem ownL_mem {i w x : Int} : x ∈ ownL i w ↔ (0 ≤ x ∧ x < 8) ∧ ownW x w = i := by
  unfold ownL ownN
  rw [List.mem_filter, List.mem_map, decide_eq_true_iff]
  constructor
  · rintro ⟨⟨y, hy, rfl⟩, h⟩
    have := List.mem_range.1 hy
    exact ⟨by omega, h⟩
  · rintro ⟨h1, h2⟩
    exact ⟨⟨x.toNat, List.mem_range.2 (by omega), by omega⟩, h2⟩
theorem ownL_nodup (i w : Int) : (ownL i w).Nodup := by
  unfold ownL ownN
  refine List.Pairwise.filter _ ?_
  rw [List.pairwise_map]
  exact (List.nodup_range (n := 8)).imp fun h e => h (by omega)
/-- Those of the first j groups of l are n, the others are as o says. -/
def overP (l : List Int) (j : Nat) (n o r : Fin 8 → Int) : Prop := ∀ g : Fin 8, ((g.val : Int) ∈ l.take j → r g = n g) ∧ ((g.val : Int) ∉ l.take j → r g = o g)
theorem over_zero (l : List Int) (n o : Fin 8 → Int) : overP l 0 n o o := fun _ => ⟨fun h => (by rw [List.take_zero] at h; cases h), fun _ => rfl⟩
theorem over_step {l : List Int} {j : Nat} {n o r : Fin 8 → Int} {x : Int} (h : overP l j n o r) (hx : l[j]? = some x) (h0 : 0 ≤ x ∧ x < 8) : overP l (j + 1) n o (upd r (gI x) (n (gI x))) := fun g => by
  have ht : l.take (j + 1) = l.take j ++ [x] := by
    obtain ⟨hj, he⟩ := List.getElem?_eq_some_iff.1 hx
    rw [List.take_succ_eq_append_getElem hj, he]
  have hv := gI_val h0
  rw [ht]
  by_cases e : g = gI x
  · subst e
    rw [upd_same]
    exact ⟨fun _ => rfl, fun hn => absurd (List.mem_append_right _ (List.mem_singleton.2 hv)) hn⟩
  · rw [upd_other _ e]
    have hm : (g.val : Int) ∈ l.take j ++ [x] ↔ (g.val : Int) ∈ l.take j := by
      rw [List.mem_append, List.mem_singleton]
      refine ⟨fun h => h.resolve_right fun h2 => e (Fin.ext (by omega)), .inl⟩
    rw [hm]
    exact h g
theorem over_at {l : List Int} {j : Nat} {n o r : Fin 8 → Int} {x : Int} (h : overP l j n o r) (hx : l[j]? = some x) (h0 : 0 ≤ x ∧ x < 8) (hn : l.Nodup) : r (gI x) = o (gI x) := (h (gI x)).2 (fun hm => by
  rw [gI_val h0] at hm
  obtain ⟨k, hk⟩ := List.mem_iff_getElem?.1 hm
  have hkj : k < j := by
    have := (List.getElem?_eq_some_iff.1 hk).1
    rw [List.length_take] at this; omega
  rw [List.getElem?_take_of_lt hkj] at hk
  have := (List.getElem?_inj (List.getElem?_eq_some_iff.1 hk).1 hn).1 (hk.trans hx.symm)
  omega)
/-- Are all offsets zero? -/
def zeroB (r : Fin 8 → Int) : Bool := (r 0 == 0 && (r 1 == 0 && (r 2 == 0 && (r 3 == 0 && (r 4 == 0 && (r 5 == 0 && (r 6 == 0 && r 7 == 0)))))))
theorem fin8 {P : Fin 8 → Prop} (h0 : P 0) (h1 : P 1) (h2 : P 2) (h3 : P 3) (h4 : P 4) (h5 : P 5) (h6 : P 6) (h7 : P 7) : ∀ g, P g
  | 0 => h0 | 1 => h1 | 2 => h2 | 3 => h3 | 4 => h4 | 5 => h5 | 6 => h6 | 7 => h7
theorem fin8x {motive : (g : Fin 8) → (x : Int) → x = (g.val : Int) → Prop} (h0 : motive 0 0 rfl) (h1 : motive 1 1 rfl) (h2 : motive 2 2 rfl) (h3 : motive 3 3 rfl) (h4 : motive 4 4 rfl) (h5 : motive 5 5 rfl) (h6 : motive 6 6 rfl) (h7 : motive 7 7 rfl) : ∀ g x h, motive g x h := fun g x h => by
  subst h
  revert g
  exact fin8 h0 h1 h2 h3 h4 h5 h6 h7
theorem zeroB_iff {r : Fin 8 → Int} : zeroB r = true ↔ ∀ g, r g = 0 := by
  unfold zeroB
  simp only [Bool.and_eq_true, beq_iff_eq]
  exact ⟨fun ⟨h0, h1, h2, h3, h4, h5, h6, h7⟩ => fin8 h0 h1 h2 h3 h4 h5 h6 h7, fun h => ⟨h 0, h 1, h 2, h 3, h 4, h 5, h 6, h 7⟩⟩

/-! ### Which may be -/
/-- Are these good each, and each one behind the one ahead of it? -/
def chain {α : Type} (ok : α → Bool) (lt : α → α → Bool) : Option α → List α → Bool
  | _, [] => true
  | none, x :: l => ok x && chain ok lt (some x) l
  | some y, x :: l => ok x && lt y x && chain ok lt (some x) l
/-- The one ahead of place n. -/
def prev {α : Type} (l : List α) : Nat → Option α
  | 0 => none
  | n + 1 => l[n]?
theorem chain_zero {α : Type} {ok : α → Bool} {lt : α → α → Bool} {l : List α} {x : α} (h : l[0]? = some x) : chain ok lt none l = (ok x && chain ok lt (prev l 1) (l.drop 1)) := by
  cases l with
  | nil => cases h
  | cons y l =>
    cases h
    rfl
theorem chain_succ {α : Type} {ok : α → Bool} {lt : α → α → Bool} {l : List α} {n : Nat} {y x : α} (hy : l[n]? = some y) (h : l[n + 1]? = some x) : chain ok lt (prev l (n + 1)) (l.drop (n + 1)) = (ok x && lt y x && chain ok lt (prev l (n + 2)) (l.drop (n + 2))) := by
  obtain ⟨hn, he⟩ := List.getElem?_eq_some_iff.1 h
  rw [List.drop_eq_getElem_cons hn, he]
  show chain ok lt l[n]? _ = (_ && chain ok lt l[n + 1]? _)
  rw [hy, h]
  rfl
def okK (x : Kc) : Bool := decide (recP x.src x.key ∧ 1 ≤ x.cnt)
def ltK (y x : Kc) : Bool := decide (cmpK y.src y.key x.src x.key < 0)
def tblB (l : List Kc) : Bool := chain okK ltK none l
def okT (n : Tx) : Bool := decide (okN n)
def ltT (y x : Tx) : Bool := decide (lessT y x)
def namesB (l : List Tx) : Bool := chain okT ltT none l && decide (l.length ≤ 24)
def offP (i w : Int) (o : Fin 8 → Int) (g : Fin 8) : Prop := 0 ≤ o g ∧ o g ≤ 40 ∧ (o g ≠ 0 → ownW (g.val : Int) w = i)
instance (i w : Int) (o : Fin 8 → Int) (g : Fin 8) : Decidable (offP i w o g) := by unfold offP; infer_instance
/-- A snapshot that may be. -/
def rightP (s : Sn) : Prop := (0 ≤ s.op ∧ s.op < 8) ∧ shareP s.idx s.wid ∧ tblB s.rows = true ∧ namesB s.txs = true ∧ (∀ x ∈ s.rows, ownW (x.key % 8) s.wid = s.idx) ∧ ∀ g, offP s.idx s.wid s.offs g
instance (s : Sn) : Decidable (rightP s) := by unfold rightP; infer_instance
end Go.Proofs.YtmahldelmbhjfaaGreat.Sn
