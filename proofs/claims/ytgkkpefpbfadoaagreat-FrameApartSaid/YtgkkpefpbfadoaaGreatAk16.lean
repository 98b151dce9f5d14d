/- Graph: Check, the document's Check, Right. -/
import Derived.Test.YtgkkpefpbfadoaaGreatAk15
namespace Go.Proofs.YtgkkpefpbfadoaaGreat
open Go Go.RowKit
open Sy (C SV V1 Blk St XD Els)
set_option maxRecDepth 10000
def wrongAt (g : List Opr) (i : Nat) : Int := match g[i]? with
 | some o => wrongE g i o (wideN g (i + 1))
 | none => 0
def readB (g : List Opr) (i : Nat) : Bool := g.any fun o => decide ((i : Int) ∈ o.ins)
def unreadB (g : List Opr) (i : Nat) : Bool := decide (tagAt g i ≠ 7) && !readB g i
def firstW (g : List Opr) : Option Nat := (List.range g.length).find? fun i => decide (wrongAt g i ≠ 0)
def firstU (g : List Opr) : Option Nat := (List.range g.length).find? (unreadB g)
def checkV (g : List Opr) : Int × Int :=
 if g.length < 1 ∨ 8 < g.length then (0, 160) else match firstW g with
  | some i => (i, wrongAt g i)
  |none => match firstU g with
   | some i => (i, 162)
   | none => (0, 0)
theorem wrongE_alone {g : List Opr} {i : Nat} {o : Opr} {w : Int} (h : wrongE g i o w = 0) : AloneP o i := by
 unfold wrongE at h
 split at h
 ·assumption
 ·cases h
theorem wrongE_wide {g : List Opr} {i : Nat} {o : Opr} {w w' : Int} (h : AloneP o i → w = w') : wrongE g i o w = wrongE g i o w' := by
 by_cases ha : AloneP o i
 ·rw [h ha]
 ·rw [wrongE, wrongE, if_neg ha, if_neg ha]
theorem good_succ {g : List Opr} {i : Nat} {o : Opr} (hg : goodTo g i) (ho : g[i]? = some o) (h : wrongAt g i = 0) : goodTo g (i + 1) := fun j p hj hp => by
 rcases Nat.lt_succ_iff_lt_or_eq.1 hj with hj | rfl
 ·exact hg j p hj hp
 ·rw [ho] at hp; cases hp
  unfold wrongAt at h
  rw [ho] at h
  exact wrongE_alone h
theorem find_hit {L n : Nat} {p : Nat → Bool} (hn : n < L) (hp : p n = true) (h : ∀ j, j < n → p j = false) : (List.range L).find? p = some n := by
 rw [List.find?_range_eq_some]
 exact ⟨hp, List.mem_range.2 hn, fun j hj => by rw [h j hj]; rfl⟩
theorem find_no {L : Nat} {p : Nat → Bool} (h : ∀ j, j < L → p j = false) : (List.range L).find? p = none := List.find?_eq_none.2 fun j hj => by rw [h j (List.mem_range.1 hj)]; decide
theorem checkV_w {g : List Opr} {n : Nat} (h8 : ¬ (g.length < 1 ∨ 8 < g.length)) (hn : n < g.length) (hw : wrongAt g n ≠ 0) (h : ∀ j, j < n → wrongAt g j = 0) : checkV g = ((n : Int), wrongAt g n) := by
 have : firstW g = some n := find_hit hn (decide_eq_true hw) fun j hj => decide_eq_false (by rw [h j hj]; simp)
 rw [checkV, if_neg h8, this]
theorem firstW_none {g : List Opr} (h : ∀ j, j < g.length → wrongAt g j = 0) : firstW g = none := find_no fun j hj => decide_eq_false (by rw [h j hj]; simp)
theorem checkV_u {g : List Opr} {n : Nat} (h8 : ¬ (g.length < 1 ∨ 8 < g.length)) (hw : ∀ j, j < g.length → wrongAt g j = 0) (hn : n < g.length) (hu : unreadB g n = true) (h : ∀ j, j < n → unreadB g j = false) : checkV g = ((n : Int), 162) := by
 have : firstU g = some n := find_hit hn hu h
 rw [checkV, if_neg h8, firstW_none hw, this]
theorem checkV_ok {g : List Opr} (h8 : ¬ (g.length < 1 ∨ 8 < g.length)) (hw : ∀ j, j < g.length → wrongAt g j = 0) (h : ∀ j, j < g.length → unreadB g j = false) : checkV g = (0, 0) := by
 have : firstU g = none := find_no h
 rw [checkV, if_neg h8, firstW_none hw, this]
theorem unread_sink {g : List Opr} {i : Nat} (h : tagAt g i = 7) : unreadB g i = false := by unfold unreadB; rw [decide_eq_false (by rw [h]; simp)]; rfl
theorem unread_not {g : List Opr} {i : Nat} (h : tagAt g i ≠ 7) : unreadB g i = !readB g i := by unfold unreadB; rw [decide_eq_true h]; rfl
attribute [local irreducible] wrongE wideN unreadB readB
def rightB (g : List Opr) : Bool := decide ((checkV g).2 = 0)
attribute [local irreducible] checkV
end Go.Proofs.YtgkkpefpbfadoaaGreat
namespace Go.Proofs.YtgkkpefpbfadoaaGreat
open Go Go.RowKit
open Sy (C SV V1 Blk St XD Els)
set_option maxRecDepth 10000
def setE (ks : List Int) : List (Value × Value) := (ks.map fun k => (k, Value.bool true)).map fun z => (Value.int .i64 z.1, z.2)
theorem set_add {P : Program} {kt : Nat} {K : Option (Nat × Value) → Prop} (ks : List Int) (x : Int) (hu : P.underlying kt = some (.int .i64)) (hn : ks.Nodup) (hk : ∀ r, (x ∈ ks ∧ ∃ i, r = some (i, .bool true) ∧ ks[i]? = some x) ∨ (x ∉ ks ∧ r = none) → K r) : Sy.findP P kt (.int .i64 x) (setE ks) K := by
 by_cases hx : x ∈ ks
 ·obtain ⟨i, hi, he⟩ := List.mem_iff_getElem.1 hx
  have hg : ks[i]? = some x := by rw [List.getElem?_eq_getElem hi, he]
  refine Sy.map_hit (ks.map fun k => (k, Value.bool true)) x i (.bool true) hu (by simp [hg]) (fun j z hj hz => ?_) (hk _ (.inl ⟨hx, i, rfl, hg⟩))
  rw [List.getElem?_map] at hz
  obtain ⟨y, hy, rfl⟩ := Option.map_eq_some_iff.1 hz
  intro e
  have e : y = x := e
  subst e
  obtain ⟨hj', hy⟩ := List.getElem?_eq_some_iff.1 hy
  have := (List.getElem_inj hn).1 (hy.trans he.symm)
  omega
 ·refine Sy.map_miss (ks.map fun k => (k, Value.bool true)) x hu (fun z hz => ?_) (hk _ (.inr ⟨hx, rfl⟩))
  obtain ⟨y, hy, rfl⟩ := List.mem_map.1 hz
  intro e
  have e : y = x := e
  subst e; exact hx hy
theorem set_same (ks : List Int) {i : Nat} {x : Int} (h : ks[i]? = some x) : (setE ks).set i (.int .i64 x, .bool true) = setE ks := by
 obtain ⟨hi, he⟩ := List.getElem?_eq_some_iff.1 h
 unfold setE
 refine List.ext_getElem? fun j => ?_
 rw [List.getElem?_set]
 split
 ·rename_i e; subst e
  simp [hi, he]
 ·rfl
theorem set_new (ks : List Int) (x : Int) : setE ks ++ [(.int .i64 x, .bool true)] = setE (ks ++ [x]) := by simp [setE]
def rdBy (g : List Opr) (n : Nat) (x : Int) : Prop := ∃ o ∈ g.take n, x ∈ o.ins
theorem rdBy_succ {g : List Opr} {n : Nat} {o : Opr} (h : g[n]? = some o) (x : Int) : rdBy g (n + 1) x ↔ rdBy g n x ∨ x ∈ o.ins := by
 obtain ⟨hn, he⟩ := List.getElem?_eq_some_iff.1 h
 unfold rdBy
 rw [List.take_succ_eq_append_getElem hn, he]
 constructor
 ·rintro ⟨p, hp, hx⟩
  rcases List.mem_append.1 hp with hp | hp
  ·exact .inl ⟨p, hp, hx⟩
  ·rw [List.mem_singleton.1 hp] at hx; exact .inr hx
 ·rintro (⟨p, hp, hx⟩ | hx)
  ·exact ⟨p, List.mem_append_left _ hp, hx⟩
  ·exact ⟨o, by simp, hx⟩
theorem rdBy_all {g : List Opr} {i : Nat} : rdBy g g.length (i : Int) ↔ readB g i = true := by
 unfold rdBy readB
 rw [List.take_length, List.any_eq_true]
 simp
attribute [local irreducible] wrongE wideN unreadB readB setE rdBy
set_option maxHeartbeats 2000000 in
theorem check_any (v : Value) (gl : List OpV) (w : World) (hr : GOk (fun b => b < w.heap.size) w v gl) :
  Calls Tryz.prog 157 #[.agg #[v]] w (Sy.Ret (.tuple #[.int .i64 (checkV (opsOf gl)).1, .int .i64 (checkV (opsOf gl)).2]) w) := by
 have hl := ok_len hr.1
 have hol := opsOf_len gl
 refine Sy.calls_of Sy.lv157 Sy.tab_ok Tryz.func157 rfl _ Tryz.ntmps157 [⟨v, 5, gl.length, gl.map encOV⟩] [.agg [.row 0]] rfl rfl rfl ⟨hr.1, trivial⟩ ?_
 by_cases h8 : (opsOf gl).length < 1 ∨ 8 < (opsOf gl).length
 ·((repeat' first|refine Y ?_|refine Y2 ?_ ?_|refine Y1 fun hh=>?_|exact Y0.mk);(all_goals (try conv => whnf)))
  all_goals exact Sy.fin_val (fun e => by rw [checkV, if_pos h8]; rfl)
 ·((repeat' first|refine Y ?_|refine Y2 ?_ ?_|refine Y1 fun hh=>?_|exact Y0.mk);(all_goals (try conv => whnf)))
  refine Sy.loop_inv Sy.tab_ok (fun n : Nat => [(28, .c (.v (.int .i64 n))), (4, .c (.v (.int .i64 (wideN (opsOf gl) n))))]) (fun _ => []) (fun n => n ≤ gl.length ∧ goodTo (opsOf gl) n ∧ ∀ j, j < n → wrongAt (opsOf gl) j = 0) (fun n => gl.length - n) 0 ⟨Nat.zero_le _, (fun j o h _ => absurd h (Nat.not_lt_zero _)), fun j h => absurd h (Nat.not_lt_zero _)⟩ ?_ (fun n hn => ?_)
  ·rw [show wideN (opsOf gl) 0 = 0 by unfold wideN; simp]
   ((repeat' (first|((conv => whnf);done)|((try conv => whnf);first|exact trivial|(refine And.intro ?_ ?_)|rfl|exact fun _ _ _ h=>h|exact fun _ _ _ _=>trivial)));(all_goals (try conv => whnf)))
  ·obtain ⟨hn, hg, hz⟩ := hn
   have hwn := wideN_le n hg
   ((repeat' first|refine Yc ?_|refine Y2 ?_ ?_|refine Y1 fun hh=>?_|exact Y0.mk);(all_goals (try conv => whnf)))
   ·have hlt : n < gl.length := by omega
    have hgn := List.getElem?_eq_getElem hlt
    generalize gl[n] = o at *
    have hw : wrongAt (opsOf gl) n = wrongE (opsOf gl) n o.op (wideN (opsOf gl) (n + 1)) := by unfold wrongAt; rw [opsOf_get hgn]
    have hsc := good_succ hg (opsOf_get hgn)
    have hws := wideN_succ (opsOf_get hgn)
    refine Sy.el_map o hgn ?_
    ((repeat' first|refine Yo ?_|refine Y2 ?_ ?_|refine Y1 fun hh=>?_|exact Y0.mk);(all_goals (try conv => whnf)))
    refine Sy.ar_wrap ?_
    have hwx : wrongE (opsOf gl) n o.op (IntKind.i64.wrap (wideN (opsOf gl) n + o.op.width)) = wrongAt (opsOf gl) n := by
     rw [hw]
     exact wrongE_wide fun ha => by
      obtain ⟨h1, h2, _⟩ := ha
      rw [hws]
      rw [IntKind.wrap_i64]; omega
    generalize hW : IntKind.i64.wrap (wideN (opsOf gl) n + o.op.width) = W at *
    ((repeat' first|refine Yo ?_|refine Y2 ?_ ?_|refine Y1 fun hh=>?_|exact Y0.mk);(all_goals (try conv => whnf)))
    refine Sy.call_val (.c (.v (.int .i64 (wrongAt (opsOf gl) n)))) Tryz.call195 rfl (fun e a w' h => by have := wrong_any (e.rv 0) gl n o W w' ⟨Sy.row_reads h (.inr rfl), fun o ho => Sy.later_in h (hr.2 o ho)⟩ (by omega) hgn hg; rw [hwx] at this; exact this) ?_
    ((repeat' first|refine Yo ?_|refine Y2 ?_ ?_|refine Y1 fun hh=>?_|exact Y0.mk);(all_goals (try conv => whnf)))
    ·have h0 : wrongAt (opsOf gl) n = 0 := by assumption
     have hg1 := hsc h0
     have hwe : W = wideN (opsOf gl) (n + 1) := by
      have ha := hg1 n o.op (by omega) (opsOf_get hgn)
      obtain ⟨h1, h2, _⟩ := ha
      rw [← hW, hws]; rw [IntKind.wrap_i64]; omega
     refine ⟨n + 1, ⟨by omega, hg1, fun j hj => ?_⟩, by omega, ?_⟩
     ·rcases Nat.lt_succ_iff_lt_or_eq.1 hj with hj | rfl
      ·exact hz j hj
      ·exact h0
     ·rw [← hwe]
      ((repeat' (first|((conv => whnf);done)|((try conv => whnf);first|exact trivial|(refine And.intro ?_ ?_)|rfl|exact fun _ _ _ h=>h|exact fun _ _ _ _=>trivial)));(all_goals (try conv => whnf)))
    ·exact Sy.fin_val (fun e => by rw [checkV_w h8 (by omega) (by assumption) hz]; rfl)
   ·have e : n = gl.length := by omega
    subst e
    rw [← hol] at hz
    have z0 : setE [] = [] := by unfold setE; rfl
    have r0 : ∀ x, x ∈ ([] : List Int) ↔ rdBy (opsOf gl) 0 x := fun x => by unfold rdBy; simp
    refine Sy.loop_inv Sy.tab_ok (fun y : Nat × List Int => [(50, .c (.v (.int .i64 y.1)))]) (fun y => [(2, .mp (setE y.2))]) (fun y => y.1 ≤ gl.length ∧ y.2.Nodup ∧ ∀ x, x ∈ y.2 ↔ rdBy (opsOf gl) y.1 x) (fun y => gl.length - y.1) (0, []) ⟨Nat.zero_le _, List.nodup_nil, r0⟩ ?_ (fun y hy => ?_)
    ·dsimp only
     rw [z0]
     ((repeat' (first|((conv => whnf);done)|((try conv => whnf);first|exact trivial|(refine And.intro ?_ ?_)|rfl|exact fun _ _ _ h=>h|exact fun _ _ _ _=>trivial)));(all_goals (try conv => whnf)))
    ·obtain ⟨n, ks⟩ := y
     obtain ⟨hn, hnd, hmem⟩ := hy
     dsimp only at hn hnd hmem ⊢
     ((repeat' first|refine Yo ?_|refine Y2 ?_ ?_|refine Y1 fun hh=>?_|exact Y0.mk);(all_goals (try conv => whnf)))
     ·have hlt : n < gl.length := by omega
      have hgn := List.getElem?_eq_getElem hlt
      generalize gl[n] = o at *
      have hoo := hr.at hgn
      have hlo := ok_len hoo
      have hrs := rdBy_succ (opsOf_get hgn)
      refine Sy.el_map o hgn ?_
      ((repeat' first|refine Yo ?_|refine Y2 ?_ ?_|refine Y1 fun hh=>?_|exact Y0.mk);(all_goals (try conv => whnf)))
      refine open_x _ _ _ (hoo) (fun _ h => h) ?_
      ((repeat' first|refine Yo ?_|refine Y2 ?_ ?_|refine Y1 fun hh=>?_|exact Y0.mk);(all_goals (try conv => whnf)))
      refine Sy.loop_inv Sy.tab_ok (fun y : Nat × List Int => [(57, .c (.v (.int .i64 y.1)))]) (fun y => [(2, .mp (setE y.2))]) (fun y => y.1 ≤ o.op.ins.length ∧ y.2.Nodup ∧ ∀ x, x ∈ y.2 ↔ rdBy (opsOf gl) n x ∨ x ∈ o.op.ins.take y.1) (fun y => o.op.ins.length - y.1) (0, ks) ⟨Nat.zero_le _, hnd, fun x => by simp [hmem]⟩ ?_ (fun y hy => ?_)
      ·((repeat' (first|((conv => whnf);done)|((try conv => whnf);first|exact trivial|(refine And.intro ?_ ?_)|rfl|exact fun _ _ _ h=>h|exact fun _ _ _ _=>trivial)));(all_goals (try conv => whnf)))
      ·obtain ⟨m, ls⟩ := y
       obtain ⟨hm, hld, hlm⟩ := hy
       dsimp only at hm hld hlm ⊢
       ((repeat' first|refine Yo ?_|refine Y2 ?_ ?_|refine Y1 fun hh=>?_|exact Y0.mk);(all_goals (try conv => whnf)))
       ·have hlt2 : m < o.op.ins.length := by omega
        have hgm := List.getElem?_eq_getElem hlt2
        have htk := List.take_succ_eq_append_getElem hlt2
        generalize o.op.ins[m] = k at *
        refine Sy.el_map k hgm ?_
        ((repeat' first|refine Yo ?_|refine Y2 ?_ ?_|refine Y1 fun hh=>?_|exact Y0.mk);(all_goals (try conv => whnf)))
        refine set_add ls k Tryz.underlying3 hld (fun r hr => ?_)
        rcases hr with ⟨hx, i, rfl, hi⟩ | ⟨hx, rfl⟩
        ·((repeat' first|refine Yo ?_|refine Y2 ?_ ?_|refine Y1 fun hh=>?_|exact Y0.mk);(all_goals (try conv => whnf)))
         refine ⟨(m + 1, ls), ⟨by dsimp only; omega, hld, fun x => ?_⟩, by dsimp only; omega, ?_⟩
         ·rw [hlm, htk, List.mem_append, List.mem_singleton]
          have := (hlm k).1 hx
          constructor
          ·rintro (h | h)
           ·exact .inl h
           ·exact .inr (.inl h)
          ·rintro (h | h | rfl)
           ·exact .inl h
           ·exact .inr h
           ·exact this
         ·((repeat' (first|((conv => whnf);done)|((try conv => whnf);first|exact trivial|(refine And.intro ?_ ?_)|rfl|exact fun _ _ _ h=>h|exact fun _ _ _ _=>trivial)));(all_goals (try conv => whnf)))
          all_goals exact set_same ls hi
        ·((repeat' first|refine Yo ?_|refine Y2 ?_ ?_|refine Y1 fun hh=>?_|exact Y0.mk);(all_goals (try conv => whnf)))
         refine ⟨(m + 1, ls ++ [k]), ⟨by dsimp only; omega, List.nodup_append.2 ⟨hld, by simp, fun a ha b hb => by simp at hb; rintro rfl; exact hx (hb ▸ ha)⟩, fun x => ?_⟩, by dsimp only; omega, ?_⟩
         ·rw [List.mem_append, hlm, htk, List.mem_append, or_assoc]
         ·((repeat' (first|((conv => whnf);done)|((try conv => whnf);first|exact trivial|(refine And.intro ?_ ?_)|rfl|exact fun _ _ _ h=>h|exact fun _ _ _ _=>trivial)));(all_goals (try conv => whnf)))
          all_goals exact set_new ls k
       ·have e : m = o.op.ins.length := by omega
        subst e
        refine ⟨(n + 1, ls), ⟨by dsimp only; omega, hld, fun x => ?_⟩, by dsimp only; omega, ?_⟩
        ·rw [hlm, hrs, List.take_length]
        ·((repeat' (first|((conv => whnf);done)|((try conv => whnf);first|exact trivial|(refine And.intro ?_ ?_)|rfl|exact fun _ _ _ h=>h|exact fun _ _ _ _=>trivial)));(all_goals (try conv => whnf)))
     ·have e : n = gl.length := by omega
      subst e
      have hrd : ∀ i : Nat, (i : Int) ∈ ks ↔ readB (opsOf gl) i = true := fun i => by rw [hmem, ← hol, rdBy_all]
      refine Sy.loop_inv Sy.tab_ok (fun n : Nat => [(68, .c (.v (.int .i64 n)))]) (fun _ => []) (fun n => n ≤ gl.length ∧ ∀ j, j < n → unreadB (opsOf gl) j = false) (fun n => gl.length - n) 0 ⟨Nat.zero_le _, fun j h => absurd h (Nat.not_lt_zero _)⟩ ?_ (fun n hn => ?_)
      ·((repeat' (first|((conv => whnf);done)|((try conv => whnf);first|exact trivial|(refine And.intro ?_ ?_)|rfl|exact fun _ _ _ h=>h|exact fun _ _ _ _=>trivial)));(all_goals (try conv => whnf)))
      ·obtain ⟨hn, hu⟩ := hn
       ((repeat' first|refine Yd ?_|refine Y2 ?_ ?_|refine Y1 fun hh=>?_|exact Y0.mk);(all_goals (try conv => whnf)))
       ·have hlt : n < gl.length := by omega
        have hgn := List.getElem?_eq_getElem hlt
        generalize gl[n] = o at *
        have htg := tagAt_get hgn
        have hu1 : unreadB (opsOf gl) n = false → ∀ j, j < n + 1 → unreadB (opsOf gl) j = false := fun h j hj => by
         rcases Nat.lt_succ_iff_lt_or_eq.1 hj with hj | rfl
         ·exact hu j hj
         ·exact h
        refine Sy.el_map o hgn ?_
        by_cases ht : o.op.tag = 7
        ·((repeat' first|refine Yo ?_|refine Y2 ?_ ?_|refine Y1 fun hh=>?_|exact Y0.mk);(all_goals (try conv => whnf)))
         refine ⟨n + 1, ⟨by omega, hu1 (unread_sink (by rw [htg]; exact ht))⟩, by omega, ?_⟩
         ((repeat' (first|((conv => whnf);done)|((try conv => whnf);first|exact trivial|(refine And.intro ?_ ?_)|rfl|exact fun _ _ _ h=>h|exact fun _ _ _ _=>trivial)));(all_goals (try conv => whnf)))
        ·have hun := unread_not (g := opsOf gl) (i := n) (by rw [htg]; exact ht)
         ((repeat' first|refine Yo ?_|refine Y2 ?_ ?_|refine Y1 fun hh=>?_|exact Y0.mk);(all_goals (try conv => whnf)))
         refine set_add ks n Tryz.underlying3 hnd (fun r hr => ?_)
         rcases hr with ⟨hx, i, rfl, hi⟩ | ⟨hx, rfl⟩
         ·have h0 := (hrd n).1 hx
          ((repeat' first|refine Yo ?_|refine Y2 ?_ ?_|refine Y1 fun hh=>?_|exact Y0.mk);(all_goals (try conv => whnf)))
          refine ⟨n + 1, ⟨by omega, hu1 (by rw [hun, h0]; rfl)⟩, by omega, ?_⟩
          ((repeat' (first|((conv => whnf);done)|((try conv => whnf);first|exact trivial|(refine And.intro ?_ ?_)|rfl|exact fun _ _ _ h=>h|exact fun _ _ _ _=>trivial)));(all_goals (try conv => whnf)))
         ·have h0 : readB (opsOf gl) n = false := by
           cases h : readB (opsOf gl) n with
           | true => exact absurd ((hrd n).2 h) hx
           | false => rfl
          ((repeat' first|refine Yo ?_|refine Y2 ?_ ?_|refine Y1 fun hh=>?_|exact Y0.mk);(all_goals (try conv => whnf)))
          exact Sy.fin_val (fun e => by rw [checkV_u h8 hz (by omega) (by rw [hun, h0]; rfl) hu]; rfl)
       ·have e : n = gl.length := by omega
        subst e
        exact Sy.fin_val (fun e => by rw [checkV_ok h8 hz (fun j hj => hu j (by omega))]; rfl)
theorem check_ok {g : List Opr} (h : (checkV g).2 = 0) : 1 ≤ g.length ∧ g.length ≤ 8 ∧ ∀ i, i < g.length → wrongAt g i = 0 := by
 by_cases h8 : g.length < 1 ∨ 8 < g.length
 ·rw [checkV, if_pos h8] at h; cases h
 ·refine ⟨by omega, by omega, ?_⟩
  rw [checkV, if_neg h8] at h
  cases hf : firstW g with
  |none =>
   intro i hi
   have := List.find?_eq_none.1 hf i (List.mem_range.2 hi)
   simpa using this
  |some i =>
   rw [hf] at h
   have := List.find?_some hf
   exact absurd h (of_decide_eq_true this)
theorem check_good {g : List Opr} (h : (checkV g).2 = 0) : goodTo g g.length := fun j o hj ho => by
 have := (check_ok h).2.2 j hj
 unfold wrongAt at this
 rw [ho] at this
 exact wrongE_alone this
end Go.Proofs.YtgkkpefpbfadoaaGreat
namespace Go.Proofs.YtgkkpefpbfadoaaGreat
open Go Go.RowKit
open Sy (C SV V1 Blk St XD Els)
set_option maxRecDepth 10000
attribute [local irreducible] checkV
def subtasks (g : List Opr) : Int := if (checkV g).2 = 0 then wideN g g.length else 0
theorem subtasks_any (v : Value) (gl : List OpV) (w : World) (hr : GOk (fun b => b < w.heap.size) w v gl) :
  Calls Tryz.prog 178 #[.agg #[v]] w (Sy.Ret (.int .i64 (subtasks (opsOf gl))) w) := by
 have hol := opsOf_len gl
 have hl := ok_len hr.1
 refine Sy.calls_of Sy.lv178 Sy.tab_ok Tryz.func178 rfl _ Tryz.ntmps178 [⟨v, 5, gl.length, gl.map encOV⟩] [.agg [.row 0]] rfl rfl rfl ⟨hr.1, trivial⟩ ?_
 ((repeat' first|refine Y ?_|refine Y2 ?_ ?_|refine Y1 fun hh=>?_|exact Y0.mk);(all_goals (try conv => whnf)))
 refine Sy.call_val (.tup [.c (.v (.int .i64 (checkV (opsOf gl)).1)), .c (.v (.int .i64 (checkV (opsOf gl)).2))]) Tryz.call157 rfl (fun e a w' h => check_any (e.rv 0) gl w' ⟨Sy.row_reads h (.inr rfl), fun o ho => Sy.later_in h (hr.2 o ho)⟩) ?_
 by_cases h0 : (checkV (opsOf gl)).2 = 0
 ·have hg := check_good h0
  rw [h0]
  ((repeat' first|refine Y ?_|refine Y2 ?_ ?_|refine Y1 fun hh=>?_|exact Y0.mk);(all_goals (try conv => whnf)))
  refine Sy.loop_inv Sy.tab_ok (fun n : Nat => [(18, .c (.v (.int .i64 n))), (5, .c (.v (.int .i64 (wideN (opsOf gl) n))))]) (fun n => []) (fun n => n ≤ gl.length) (fun n => gl.length - n) 0 (Nat.zero_le _) ?_ (fun n hn => ?_)
  ·rw [show wideN (opsOf gl) 0 = 0 by unfold wideN; simp]
   ((repeat' (first|((conv => whnf);done)|((try conv => whnf);first|exact trivial|(refine And.intro ?_ ?_)|rfl|exact fun _ _ _ h=>h|exact fun _ _ _ _=>trivial)));(all_goals (try conv => whnf)))
  ·have hwn := wideN_le n (hg.mono (by omega))
   have h8 := (check_ok h0).2.1
   ((repeat' first|refine Yd ?_|refine Y2 ?_ ?_|refine Y1 fun hh=>?_|exact Y0.mk);(all_goals (try conv => whnf)))
   ·have hlt : n < gl.length := by omega
    have hgn := List.getElem?_eq_getElem hlt
    generalize gl[n] = o at *
    have hs := wideN_succ (opsOf_get hgn)
    have hw2 := wideN_le (n + 1) (hg.mono (by omega))
    refine Sy.el_map o hgn ?_
    ((repeat' first|refine Yo ?_|refine Y2 ?_ ?_|refine Y1 fun hh=>?_|exact Y0.mk);(all_goals (try conv => whnf)))
    refine ⟨n + 1, by omega, by omega, ?_⟩
    rw [hs]
    ((repeat' (first|((conv => whnf);done)|((try conv => whnf);first|exact trivial|(refine And.intro ?_ ?_)|rfl|exact fun _ _ _ h=>h|exact fun _ _ _ _=>trivial)));(all_goals (try conv => whnf)))
   ·have e : n = gl.length := by omega
    subst e
    exact Sy.fin_val (fun e => by rw [subtasks, if_pos h0, hol]; rfl)
 ·((repeat' first|refine Y ?_|refine Y2 ?_ ?_|refine Y1 fun hh=>?_|exact Y0.mk);(all_goals (try conv => whnf)))
  exact Sy.fin_val (fun e => by rw [subtasks, if_neg h0]; rfl)
end Go.Proofs.YtgkkpefpbfadoaaGreat
