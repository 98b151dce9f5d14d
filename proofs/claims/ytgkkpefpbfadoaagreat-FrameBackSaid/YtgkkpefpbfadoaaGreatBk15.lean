/- Graph: wrong, the document's wrong. -/
import Derived.Test.YtgkkpefpbfadoaaGreatBk14
namespace Go.Proofs.YtgkkpefpbfadoaaGreat
open Go Go.RowKit
open Sy (C SV V1 Blk St XD Els)
set_option maxRecDepth 10000
theorem srcs_le {g : List Opr} {i : Nat} {o : Opr} (hg : goodTo g (i + 1)) (ho : g[i]? = some o) (h1 : o.tag ≠ 1) : (srcs g i).length ≤ insSum g o.ins := by
 rw [← srcs_union hg ho h1]
 exact setI_len _
theorem insSum_le (g : List Opr) (l : List Int) : insSum g l ≤ 4 * l.length := by
 unfold insSum
 exact srcRows_len g l
theorem opsOf_take (gl : List OpV) (n : Nat) : opsOf (gl.take n) = (opsOf gl).take n := by unfold opsOf; rw [List.map_take]
attribute [local irreducible] insSum sinkB dupB srcs
set_option maxHeartbeats 2000000 in
theorem wrong_any (v : Value) (gl : List OpV) (i : Nat) (o : OpV) (wide : Int) (w : World) (hr : GOk (fun b => b < w.heap.size) w v gl) (hlen : gl.length ≤ 1000) (hgi : gl[i]? = some o) (hg : goodTo (opsOf gl) i) :
  Calls Tryz.prog 195 #[.agg #[v], .int .i64 i, .int .i64 wide] w (Sy.Ret (.int .i64 (wrongE (opsOf gl) i o.op wide)) w) := by
 have hi := (List.getElem?_eq_some_iff.1 hgi).1
 have hoo := hr.at hgi
 have hgo := opsOf_get hgi
 refine Sy.calls_of Sy.lv195 Sy.tab_ok Tryz.func195 rfl _ Tryz.ntmps195 [⟨v, 5, gl.length, gl.map encOV⟩] [.agg [.row 0], .c (.v (.int .i64 i)), .c (.v (.int .i64 wide))] rfl rfl rfl ⟨hr.1, trivial⟩ ?_
 ((repeat' first|refine Yo ?_|refine Y2 ?_ ?_|refine Y1 fun hh=>?_|exact Y0.mk);(all_goals (try conv => whnf)))
 refine Sy.el_map o hgi ?_
 ((repeat' first|refine Yd ?_|refine Y2 ?_ ?_|refine Y1 fun hh=>?_|exact Y0.mk);(all_goals (try conv => whnf)))
 by_cases ha : AloneP o.op i
 ·have hab : aloneB o.op i = true := decide_eq_true ha
  have hg1 : goodTo (opsOf gl) (i + 1) := fun j p hj hp => by
   rcases Nat.lt_succ_iff_lt_or_eq.1 hj with hj | rfl
   ·exact hg j p hj hp
   ·rw [hgo] at hp; cases hp; exact ha
  have hins := alone_ins ha
  have hil : o.op.ins.length ≤ i := rises_len ha.2.2.1
  ((repeat' first|refine Yo ?_|refine Y2 ?_ ?_|refine Y1 fun hh=>?_|exact Y0.mk);(all_goals (try conv => whnf)))
  refine Sy.call_val (.c (.v (.bool true))) Tryz.call212 rfl (fun e a w' h => by have := alone_any o i w' (Sy.later_in h hoo); rw [hab] at this; exact this) ?_
  ((repeat' first|refine Yo ?_|refine Y2 ?_ ?_|refine Y1 fun hh=>?_|exact Y0.mk);(all_goals (try conv => whnf)))
  refine open_x _ _ _ (hoo) (fun _ h => h) ?_
  ((repeat' first|refine Yo ?_|refine Y2 ?_ ?_|refine Y1 fun hh=>?_|exact Y0.mk);(all_goals (try conv => whnf)))
  refine Sy.call_own (sink_does gl o.op.ins (fun k hk => ⟨(hins k hk).1, by have := (hins k hk).2; omega⟩) (by omega)) Tryz.call213 ?_
  ((conv => whnf);(refine And.intro ?_ (And.intro ?_ (And.intro ?_ (And.intro ?_ ?_))));(all_goals ((repeat' (first|((conv => whnf);done)|((try conv => whnf);first|exact trivial|(refine And.intro ?_ ?_)|rfl|exact fun _ _ _ h=>h|exact fun _ _ _ _=>trivial)));(all_goals (try conv => whnf))));rotate_right)
  intro _ _ _
  generalize hsk : sinkB (opsOf gl) o.op.ins = sk
  cases sk
  ·have h0 : sinkB (opsOf gl) o.op.ins ≠ true := by rw [hsk]; decide
   have w1 : ∀ (_ : ¬ (o.op.tag = 1 ∧ dupB ((opsOf gl).take i) o.op.a = true)) (_ : ¬ (o.op.tag = 6 ∧ insSum (opsOf gl) o.op.ins ≠ (srcs (opsOf gl) i).length)), wrongE (opsOf gl) i o.op wide = if 16 < wide then 163 else 0 := fun h1 h2 => by rw [wrongE, if_pos ha, if_neg h0, if_neg h1, if_neg h2]
   ((repeat' first|refine Yo ?_|refine Y2 ?_ ?_|refine Y1 fun hh=>?_|exact Y0.mk);(all_goals (try conv => whnf)))
   ·have ht : o.op.tag = 1 := by assumption
    refine Sy.sli_nat (lo := 0) ⟨by omega, by omega⟩ ?_
    ((repeat' first|refine Yo ?_|refine Y2 ?_ ?_|refine Y1 fun hh=>?_|exact Y0.mk);(all_goals (try conv => whnf)))
    refine Sy.call_own (dup_does o (gl.take i) (fun x hx => Sy.ReadsE.one (hr.2 x (List.mem_of_mem_take hx)).1) (by rw [List.length_take]; omega)) Tryz.call214 ?_
    ((conv => whnf);(refine And.intro ?_ (And.intro ?_ (And.intro ?_ (And.intro ?_ ?_))));(all_goals ((repeat' (first|((conv => whnf);done)|((try conv => whnf);first|exact trivial|(refine And.intro ?_ ?_)|rfl|exact fun _ _ _ h=>h|exact fun _ _ _ _=>trivial)));(all_goals (try conv => whnf))));rotate_right)
    ·intro _ _ _
     have hdt := opsOf_take gl i
     generalize hdk : dupB (opsOf (gl.take i)) o.op.a = dk
     have hdk2 := hdk
     rw [hdt] at hdk2
     cases dk
     ·((repeat' first|refine Yo ?_|refine Y2 ?_ ?_|refine Y1 fun hh=>?_|exact Y0.mk);(all_goals (try conv => whnf)))
      ·exact Sy.fin_val (fun e => by rw [w1 (by rw [hdk2]; simp) (by omega), if_pos (by omega)]; rfl)
      ·exact Sy.fin_val (fun e => by rw [w1 (by rw [hdk2]; simp) (by omega), if_neg (by omega)]; rfl)
     ·((repeat' first|refine Yo ?_|refine Y2 ?_ ?_|refine Y1 fun hh=>?_|exact Y0.mk);(all_goals (try conv => whnf)))
      exact Sy.fin_val (fun e => by rw [wrongE, if_pos ha, if_neg h0, if_pos ⟨ht, hdk2⟩]; rfl)
    all_goals simp
    all_goals omega
   ·have ht : o.op.tag = 6 := by assumption
    have hle := srcs_le hg1 hgo (by omega)
    have hsm := insSum_le (opsOf gl) o.op.ins
    refine open_x _ _ _ (hoo) (fun _ h => h) ?_
    ((repeat' first|refine Yo ?_|refine Y2 ?_ ?_|refine Y1 fun hh=>?_|exact Y0.mk);(all_goals (try conv => whnf)))
    refine Sy.loop_inv Sy.tab_ok (fun n : Nat => [(49, .c (.v (.int .i64 n))), (10, .c (.v (.int .i64 (insSum (opsOf gl) (o.op.ins.take n)))))]) (fun n => []) (fun n => n ≤ o.op.ins.length) (fun n => o.op.ins.length - n) 0 (Nat.zero_le _) ?_ (fun n hn => ?_)
    ·rw [show insSum (opsOf gl) (o.op.ins.take 0) = 0 by unfold insSum; rfl]
     ((repeat' (first|((conv => whnf);done)|((try conv => whnf);first|exact trivial|(refine And.intro ?_ ?_)|rfl|exact fun _ _ _ h=>h|exact fun _ _ _ _=>trivial)));(all_goals (try conv => whnf)))
    ·have hlr := insSum_le (opsOf gl) (o.op.ins.take n)
     rw [List.length_take] at hlr
     ((repeat' first|refine Yd ?_|refine Y2 ?_ ?_|refine Y1 fun hh=>?_|exact Y0.mk);(all_goals (try conv => whnf)))
     ·have hlt : n < o.op.ins.length := by omega
      have hgn := List.getElem?_eq_getElem hlt
      have hk := hins _ (List.getElem_mem hlt)
      have hsr := insSum_succ (opsOf gl) o.op.ins n hlt
      generalize o.op.ins[n] = k at *
      refine Sy.el_map k hgn ?_
      ((repeat' first|refine Yo ?_|refine Y2 ?_ ?_|refine Y1 fun hh=>?_|exact Y0.mk);(all_goals (try conv => whnf)))
      obtain ⟨m, rfl⟩ : ∃ m : Nat, k = (m : Int) := ⟨k.toNat, by omega⟩
      have hsl := srcs_len (opsOf gl) m
      rw [Int.toNat_natCast] at hsr
      refine Sy.call_r1 ⟨3, 1, (srcs (opsOf gl) m).length, (srcs (opsOf gl) m).map encI⟩ (fun j => .c (.row j)) Tryz.call215 (fun e a w' h => sources_any (e.rv 0) gl m w' ⟨Sy.row_reads h (.inr rfl), fun o ho => Sy.later_in h (hr.2 o ho)⟩ hlen (by omega) (hg.mono (by omega))) ?_
      ((repeat' first|refine Yo ?_|refine Y2 ?_ ?_|refine Y1 fun hh=>?_|exact Y0.mk);(all_goals (try conv => whnf)))
      refine ⟨n + 1, by omega, by omega, ?_⟩
      rw [hsr, Int.natCast_add]
      ((repeat' (first|((conv => whnf);done)|((try conv => whnf);first|exact trivial|(refine And.intro ?_ ?_)|rfl|exact fun _ _ _ h=>h|exact fun _ _ _ _=>trivial)));(all_goals (try conv => whnf)))
     ·have e : n = o.op.ins.length := by omega
      subst e
      rw [List.take_length] at *
      refine Sy.call_r1 ⟨3, 1, (srcs (opsOf gl) i).length, (srcs (opsOf gl) i).map encI⟩ (fun j => .c (.row j)) Tryz.call215 (fun e a w' h => sources_any (e.rv 0) gl i w' ⟨Sy.row_reads h (.inr rfl), fun o ho => Sy.later_in h (hr.2 o ho)⟩ hlen hi hg1) ?_
      ((repeat' first|refine Yo ?_|refine Y2 ?_ ?_|refine Y1 fun hh=>?_|exact Y0.mk);(all_goals (try conv => whnf)))
      ·exact Sy.fin_val (fun e => by rw [w1 (by omega) (by omega), if_pos (by omega)]; rfl)
      ·exact Sy.fin_val (fun e => by rw [w1 (by omega) (by omega), if_neg (by omega)]; rfl)
      ·exact Sy.fin_val (fun e => by rw [wrongE, if_pos ha, if_neg h0, if_neg (by omega), if_pos ⟨ht, by omega⟩]; rfl)
   ·exact Sy.fin_val (fun e => by rw [w1 (by omega) (by omega), if_pos (by omega)]; rfl)
   ·exact Sy.fin_val (fun e => by rw [w1 (by omega) (by omega), if_neg (by omega)]; rfl)
  ·((repeat' first|refine Yo ?_|refine Y2 ?_ ?_|refine Y1 fun hh=>?_|exact Y0.mk);(all_goals (try conv => whnf)))
   exact Sy.fin_val (fun e => by rw [wrongE, if_pos ha, if_pos hsk]; rfl)
 ·have hab : aloneB o.op i = false := decide_eq_false ha
  ((repeat' first|refine Yo ?_|refine Y2 ?_ ?_|refine Y1 fun hh=>?_|exact Y0.mk);(all_goals (try conv => whnf)))
  refine Sy.call_val (.c (.v (.bool false))) Tryz.call212 rfl (fun e a w' h => by have := alone_any o i w' (Sy.later_in h hoo); rw [hab] at this; exact this) ?_
  ((repeat' first|refine Yo ?_|refine Y2 ?_ ?_|refine Y1 fun hh=>?_|exact Y0.mk);(all_goals (try conv => whnf)))
  exact Sy.fin_val (fun e => by rw [wrongE, if_neg ha]; rfl)
def wideN (g : List Opr) (n : Nat) : Int := ((g.take n).map (·.width)).foldr (· + ·) 0
theorem foldr_add (l : List Int) (x : Int) : (l ++ [x]).foldr (· + ·) 0 = l.foldr (· + ·) 0 + x := by
 induction l with
 | nil => simp
 | cons y r ih => rw [List.cons_append, List.foldr_cons, List.foldr_cons, ih]; omega
theorem wideN_succ {g : List Opr} {n : Nat} {o : Opr} (h : g[n]? = some o) : wideN g (n + 1) = wideN g n + o.width := by
 obtain ⟨hn, he⟩ := List.getElem?_eq_some_iff.1 h
 unfold wideN
 rw [List.take_succ_eq_append_getElem hn, List.map_append, he]
 exact foldr_add _ _
theorem wideN_le {g : List Opr} : ∀ (n : Nat), goodTo g n → 0 ≤ wideN g n ∧ wideN g n ≤ 3 * n
 | 0, _ => by simp [wideN]
 |n + 1, h => by
  have ih := wideN_le n (h.mono (by omega))
  cases hg : g[n]? with
  |none =>
   have hl : g.length ≤ n := List.getElem?_eq_none_iff.1 hg
   have e : wideN g (n + 1) = wideN g n := by unfold wideN; rw [List.take_of_length_le (by omega), List.take_of_length_le hl]
   rw [e]; omega
  |some o =>
   have := h n o (by omega) hg
   rw [wideN_succ hg]
   obtain ⟨h1, h2, _⟩ := this
   omega
end Go.Proofs.YtgkkpefpbfadoaaGreat
namespace Go.Proofs.YtgkkpefpbfadoaaGreat
open Go Go.RowKit
open Sy (C SV V1 Blk St XD Els)
set_option maxRecDepth 10000
def wrongAt (g : List Opr) (i : Nat) : Int := match g[i]? with
 | some o => wrongE g i o (wideN g (i + 1))
 | none => 0
def readB (g : List Opr) (i : Nat) : Bool := g.any fun o => decide ((i : Int) ∈ o.ins)
def unreadB (g : List Opr) (i : Nat) : Bool := decide (tagAt g i ≠ 7) && !readB g i
def firstW (g : List Opr) : Option Nat := (List.range g.length).find? fun i => decide (wrongAt g i ≠ 0)
def firstU (g : List Opr) : Option Nat := (List.range g.length).find? (unreadB g)
def checkV (g : List Opr) : Int × Int :=
 if g.length < 1 ∨ 8 < g.length then (0, 160) else match firstW g with
  | some i => (i, wrongAt g i)
  |none => match firstU g with
   | some i => (i, 162)
   | none => (0, 0)
theorem wrongE_alone {g : List Opr} {i : Nat} {o : Opr} {w : Int} (h : wrongE g i o w = 0) : AloneP o i := by
 unfold wrongE at h
 split at h
 ·assumption
 ·cases h
theorem wrongE_wide {g : List Opr} {i : Nat} {o : Opr} {w w' : Int} (h : AloneP o i → w = w') : wrongE g i o w = wrongE g i o w' := by
 by_cases ha : AloneP o i
 ·rw [h ha]
 ·rw [wrongE, wrongE, if_neg ha, if_neg ha]
theorem good_succ {g : List Opr} {i : Nat} {o : Opr} (hg : goodTo g i) (ho : g[i]? = some o) (h : wrongAt g i = 0) : goodTo g (i + 1) := fun j p hj hp => by
 rcases Nat.lt_succ_iff_lt_or_eq.1 hj with hj | rfl
 ·exact hg j p hj hp
 ·rw [ho] at hp; cases hp
  unfold wrongAt at h
  rw [ho] at h
  exact wrongE_alone h
theorem find_hit {L n : Nat} {p : Nat → Bool} (hn : n < L) (hp : p n = true) (h : ∀ j, j < n → p j = false) : (List.range L).find? p = some n := by
 rw [List.find?_range_eq_some]
 exact ⟨hp, List.mem_range.2 hn, fun j hj => by rw [h j hj]; rfl⟩
theorem find_no {L : Nat} {p : Nat → Bool} (h : ∀ j, j < L → p j = false) : (List.range L).find? p = none := List.find?_eq_none.2 fun j hj => by rw [h j (List.mem_range.1 hj)]; decide
theorem checkV_w {g : List Opr} {n : Nat} (h8 : ¬ (g.length < 1 ∨ 8 < g.length)) (hn : n < g.length) (hw : wrongAt g n ≠ 0) (h : ∀ j, j < n → wrongAt g j = 0) : checkV g = ((n : Int), wrongAt g n) := by
 have : firstW g = some n := find_hit hn (decide_eq_true hw) fun j hj => decide_eq_false (by rw [h j hj]; simp)
 rw [checkV, if_neg h8, this]
theorem firstW_none {g : List Opr} (h : ∀ j, j < g.length → wrongAt g j = 0) : firstW g = none := find_no fun j hj => decide_eq_false (by rw [h j hj]; simp)
theorem checkV_u {g : List Opr} {n : Nat} (h8 : ¬ (g.length < 1 ∨ 8 < g.length)) (hw : ∀ j, j < g.length → wrongAt g j = 0) (hn : n < g.length) (hu : unreadB g n = true) (h : ∀ j, j < n → unreadB g j = false) : checkV g = ((n : Int), 162) := by
 have : firstU g = some n := find_hit hn hu h
 rw [checkV, if_neg h8, firstW_none hw, this]
theorem checkV_ok {g : List Opr} (h8 : ¬ (g.length < 1 ∨ 8 < g.length)) (hw : ∀ j, j < g.length → wrongAt g j = 0) (h : ∀ j, j < g.length → unreadB g j = false) : checkV g = (0, 0) := by
 have : firstU g = none := find_no h
 rw [checkV, if_neg h8, firstW_none hw, this]
theorem unread_sink {g : List Opr} {i : Nat} (h : tagAt g i = 7) : unreadB g i = false := by unfold unreadB; rw [decide_eq_false (by rw [h]; simp)]; rfl
theorem unread_not {g : List Opr} {i : Nat} (h : tagAt g i ≠ 7) : unreadB g i = !readB g i := by unfold unreadB; rw [decide_eq_true h]; rfl
attribute [local irreducible] wrongE wideN unreadB readB
def rightB (g : List Opr) : Bool := decide ((checkV g).2 = 0)
attribute [local irreducible] checkV
end Go.Proofs.YtgkkpefpbfadoaaGreat
