/- Graph: Check, the document's Check, Right. -/
import Derived.Test.YtmahldelmbhjfaaGreatGH
namespace Go.Proofs.YtmahldelmbhjfaaGreat
open Go Go.RowKit
open Sy (C SV V1 Blk St XD Els)
set_option maxRecDepth 10000

def wrongAt (g : List Opr) (i : Nat) : Int := match g[i]? with
  | some o => wrongE g i o (wideN g (i + 1))
  | none => 0
def readB (g : List Opr) (i : Nat) : Bool := g.any fun o => decide ((i : Int) ∈ o.ins)
def unreadB (g : List Opr) (i : Nat) : Bool := decide (tagAt g i ≠ 7) && !readB g i
def firstW (g : List Opr) : Option Nat := (List.range g.length).find? fun i => decide (wrongAt g i ≠ 0)
def firstU (g : List Opr) : Option Nat := (List.range g.length).find? (unreadB g)
/-- The number of the operator with the first fault, and why. -/
def checkV (g : List Opr) : Int × Int :=
  if g.length < 1 ∨ 8 < g.length then (0, 160) else match firstW g with
    | some i => (i, wrongAt g i)
    | none => match firstU g with
      | some i => (i, 162)
      | none => (0, 0)
theorem wrongE_alone {g : List Opr} {i : Nat} {o : Opr} {w : Int} (h : wrongE g i o w = 0) : AloneP o i := by
  unfold wrongE at h
  split at h
  · assumption
  · cases h
theorem wrongE_wide {g : List Opr} {i : Nat} {o : Opr} {w w' : Int} (h : AloneP o i → w = w') : wrongE g i o w = wrongE g i o w' := by
  by_cases ha : AloneP o i
  · rw [h ha]
  · rw [wrongE, wrongE, if_neg ha, if_neg ha]
theorem good_succ {g : List Opr} {i : Nat} {o : Opr} (hg : goodTo g i) (ho : g[i]? = some o) (h : wrongAt g i = 0) : goodTo g (i + 1) := fun j p hj hp => by
  rcases Nat.lt_succ_iff_lt_or_eq.1 hj with hj | rfl
  · exact hg j p hj hp
  · rw [ho] at hp; cases hp
    unfold wrongAt at h
    rw [ho] at h
    exact wrongE_alone h
theorem find_hit {L n : Nat} {p : Nat → Bool} (hn : n < L) (hp : p n = true) (h : ∀ j, j < n → p j = false) : (List.range L).find? p = some n := by
  rw [List.find?_range_eq_some]
  exact ⟨hp, List.mem_range.2 hn, fun j hj => by rw [h j hj]; rfl⟩
theorem find_no {L : Nat} {p : Nat → Bool} (h : ∀ j, j < L → p j = false) : (List.range L).find? p = none := List.find?_eq_none.2 fun j hj => by rw [h j (List.mem_range.1 hj)]; decide
theorem checkV_w {g : List Opr} {n : Nat} (h8 : ¬ (g.length < 1 ∨ 8 < g.length)) (hn : n < g.length) (hw : wrongAt g n ≠ 0) (h : ∀ j, j < n → wrongAt g j = 0) : checkV g = ((n : Int), wrongAt g n) := by
  have : firstW g = some n := find_hit hn (decide_eq_true hw) fun j hj => decide_eq_false (by rw [h j hj]; simp)
  rw [checkV, if_neg h8, this]
theorem firstW_none {g : List Opr} (h : ∀ j, j < g.length → wrongAt g j = 0) : firstW g = none := find_no fun j hj => decide_eq_false (by rw [h j hj]; simp)
theorem checkV_u {g : List Opr} {n : Nat} (h8 : ¬ (g.length < 1 ∨ 8 < g.length)) (hw : ∀ j, j < g.length → wrongAt g j = 0) (hn : n < g.length) (hu : unreadB g n = true) (h : ∀ j, j < n → unreadB g j = false) : checkV g = ((n : Int), 162) := by
  have : firstU g = some n := find_hit hn hu h
  rw [checkV, if_neg h8, firstW_none hw, this]
theorem checkV_ok {g : List Opr} (h8 : ¬ (g.length < 1 ∨ 8 < g.length)) (hw : ∀ j, j < g.length → wrongAt g j = 0) (h : ∀ j, j < g.length → unreadB g j = false) : checkV g = (0, 0) := by
  have : firstU g = none := find_no h
  rw [checkV, if_neg h8, firstW_none hw, this]
theorem rdrs_nil {g : List Opr} {i : Nat} : (rdrs g i).length = 0 ↔ readB g i = false := by
  unfold rdrs rdN readB
  rw [List.length_map, List.length_eq_zero_iff, List.filter_eq_nil_iff, List.any_eq_false]
  constructor
  · intro h o ho
    obtain ⟨k, hk, rfl⟩ := List.mem_iff_getElem.1 ho
    have := h k (List.mem_range.2 hk)
    simpa [readsAt, List.getElem?_eq_getElem hk] using this
  · intro h k hk
    have hk := List.mem_range.1 hk
    have := h g[k] (List.getElem_mem hk)
    simpa [readsAt, List.getElem?_eq_getElem hk] using this
theorem unread_sink {g : List Opr} {i : Nat} (h : tagAt g i = 7) : unreadB g i = false := by unfold unreadB; rw [decide_eq_false (by rw [h]; simp)]; rfl
theorem unread_not {g : List Opr} {i : Nat} (h : tagAt g i ≠ 7) : unreadB g i = !readB g i := by unfold unreadB; rw [decide_eq_true h]; rfl
attribute [local irreducible] wrongE wideN unreadB readB rdrs
set_option maxHeartbeats 1000000 in
theorem rcheck_any (v : Value) (gl : List OpV) (w : World) (hr : GOk (fun b => b < w.heap.size) w v gl) :
    Calls Tryz.prog 66 #[.agg #[v]] w (Sy.Ret (.tuple #[.int .i64 (checkV (opsOf gl)).1, .int .i64 (checkV (opsOf gl)).2]) w) := by
  have hl := ok_len hr.1
  have hol := opsOf_len gl
  refine Sy.calls_of Sy.lv66 Sy.tab_ok Tryz.func66 rfl _ Tryz.ntmps66 [⟨v, 5, gl.length, gl.map encOV⟩] [.agg [.row 0]] rfl rfl rfl ⟨hr.1, trivial⟩ ?_
  by_cases h8 : (opsOf gl).length < 1 ∨ 8 < (opsOf gl).length
  · ((repeat' ((conv => whnf);(first|refine zA ?_|(refine zI ?_ ?_<;> intro hh<;> first|(exfalso;omega)|skip)|(refine zl ?_ ?_<;> intro hh)|refine zq ?_|refine zv ?_|refine zu ?_|exact Sy.fin_val fun e=>rfl)));(all_goals (try conv => whnf)))
    all_goals exact Sy.fin_val (fun e => by rw [checkV, if_pos h8]; rfl)
  · ((repeat' ((conv => whnf);(first|refine zA ?_|(refine zI ?_ ?_<;> intro hh<;> first|(exfalso;omega)|skip)|(refine zl ?_ ?_<;> intro hh)|refine zq ?_|refine zv ?_|refine zu ?_|exact Sy.fin_val fun e=>rfl)));(all_goals (try conv => whnf)))
    refine Sy.loop_inv Sy.tab_ok (fun n : Nat => [(21, .c (.v (.int .i64 n)))]) (fun _ => []) (fun n => n ≤ gl.length ∧ goodTo (opsOf gl) n ∧ ∀ j, j < n → wrongAt (opsOf gl) j = 0) (fun n => gl.length - n) 0 ⟨Nat.zero_le _, (fun j o h _ => absurd h (Nat.not_lt_zero _)), fun j h => absurd h (Nat.not_lt_zero _)⟩ ?_ (fun n hn => ?_)
    · ((repeat' (first|((conv => whnf);done)|((try conv => whnf);first|exact trivial|(refine And.intro ?_ ?_)|rfl|exact fun _ _ _ h=>h|exact fun _ _ _ _=>trivial)));(all_goals (try conv => whnf)))
    · obtain ⟨hn, hg, hz⟩ := hn
      ((repeat' ((conv => whnf);(first|refine zA ?_|(refine zI ?_ ?_<;> intro hh<;> first|(exfalso;omega)|skip)|(refine zl ?_ ?_<;> intro hh)|refine zq ?_|refine zv ?_|refine zu ?_|exact Sy.fin_val fun e=>rfl)));(all_goals (try conv => whnf)))
      · have hlt : n < gl.length := by omega
        have hgn := List.getElem?_eq_getElem hlt
        generalize gl[n] = o at *
        have hw : wrongAt (opsOf gl) n = wrongE (opsOf gl) n o.op (wideN (opsOf gl) (n + 1)) := by unfold wrongAt; rw [opsOf_get hgn]
        have hsc := good_succ hg (opsOf_get hgn)
        refine Sy.call_val (.c (.v (.int .i64 (wrongAt (opsOf gl) n)))) Tryz.call90 rfl (fun e a w' h => by have := rwrong_any (e.rv 0) gl n o w' ⟨Sy.row_reads h (.inr rfl), fun o ho => Sy.later_in h (hr.2 o ho)⟩ (by omega) hgn hg; rw [← hw] at this; exact this) ?_
        ((repeat' ((conv => whnf);(first|refine zA ?_|(refine zI ?_ ?_<;> intro hh<;> first|(exfalso;omega)|skip)|(refine zl ?_ ?_<;> intro hh)|refine zq ?_|refine zv ?_|refine zu ?_|exact Sy.fin_val fun e=>rfl)));(all_goals (try conv => whnf)))
        · have h0 : wrongAt (opsOf gl) n = 0 := by assumption
          refine ⟨n + 1, ⟨by omega, hsc h0, fun j hj => ?_⟩, by omega, ?_⟩
          · rcases Nat.lt_succ_iff_lt_or_eq.1 hj with hj | rfl
            · exact hz j hj
            · exact h0
          · ((repeat' (first|((conv => whnf);done)|((try conv => whnf);first|exact trivial|(refine And.intro ?_ ?_)|rfl|exact fun _ _ _ h=>h|exact fun _ _ _ _=>trivial)));(all_goals (try conv => whnf)))
        · exact Sy.fin_val (fun e => by rw [checkV_w h8 (by omega) (by assumption) hz]; rfl)
      · have e : n = gl.length := by omega
        subst e
        rw [← hol] at hz
        refine Sy.loop_inv Sy.tab_ok (fun n : Nat => [(35, .c (.v (.int .i64 n)))]) (fun _ => []) (fun n => n ≤ gl.length ∧ ∀ j, j < n → unreadB (opsOf gl) j = false) (fun n => gl.length - n) 0 ⟨Nat.zero_le _, fun j h => absurd h (Nat.not_lt_zero _)⟩ ?_ (fun n hn => ?_)
        · ((repeat' (first|((conv => whnf);done)|((try conv => whnf);first|exact trivial|(refine And.intro ?_ ?_)|rfl|exact fun _ _ _ h=>h|exact fun _ _ _ _=>trivial)));(all_goals (try conv => whnf)))
        · obtain ⟨hn, hu⟩ := hn
          ((repeat' ((conv => whnf);(first|refine zA ?_|(refine zI ?_ ?_<;> intro hh<;> first|(exfalso;omega)|skip)|(refine zl ?_ ?_<;> intro hh)|refine zu ?_|exact Sy.fin_val fun e=>rfl)));(all_goals (try conv => whnf)))
          · have hlt : n < gl.length := by omega
            have hgn := List.getElem?_eq_getElem hlt
            generalize gl[n] = o at *
            have htg := tagAt_get hgn
            have hu1 : unreadB (opsOf gl) n = false → ∀ j, j < n + 1 → unreadB (opsOf gl) j = false := fun h j hj => by
              rcases Nat.lt_succ_iff_lt_or_eq.1 hj with hj | rfl
              · exact hu j hj
              · exact h
            refine Sy.el_map o hgn ?_
            have hrn := rdrs_nil (g := opsOf gl) (i := n)
            by_cases ht : o.op.tag = 7
            · ((repeat' ((conv => whnf);(first|refine zA ?_|(refine zI ?_ ?_<;> intro hh<;> first|(exfalso;omega)|skip)|(refine zl ?_ ?_<;> intro hh)|refine zq ?_|refine zv ?_|refine zu ?_|exact Sy.fin_val fun e=>rfl)));(all_goals (try conv => whnf)))
              refine ⟨n + 1, ⟨by omega, hu1 (unread_sink (by rw [htg]; exact ht))⟩, by omega, ?_⟩
              ((repeat' (first|((conv => whnf);done)|((try conv => whnf);first|exact trivial|(refine And.intro ?_ ?_)|rfl|exact fun _ _ _ h=>h|exact fun _ _ _ _=>trivial)));(all_goals (try conv => whnf)))
            · have hun := unread_not (g := opsOf gl) (i := n) (by rw [htg]; exact ht)
              ((repeat' ((conv => whnf);(first|refine zA ?_|(refine zI ?_ ?_<;> intro hh<;> first|(exfalso;omega)|skip)|(refine zl ?_ ?_<;> intro hh)|refine zq ?_|refine zv ?_|refine zu ?_|exact Sy.fin_val fun e=>rfl)));(all_goals (try conv => whnf)))
              refine Sy.call_r1 ⟨3, 1, (rdrs (opsOf gl) n).length, (rdrs (opsOf gl) n).map encI⟩ (fun j => .c (.row j)) Tryz.call91 (fun e a w' h => rreaders_any (e.rv 0) gl n w' ⟨Sy.row_reads h (.inr rfl), fun o ho => Sy.later_in h (hr.2 o ho)⟩ (by omega)) ?_
              ((repeat' ((conv => whnf);(first|refine zA ?_|(refine zI ?_ ?_<;> intro hh<;> first|(exfalso;omega)|skip)|(refine zl ?_ ?_<;> intro hh)|refine zq ?_|refine zv ?_|refine zu ?_|exact Sy.fin_val fun e=>rfl)));(all_goals (try conv => whnf)))
              · have h0 : readB (opsOf gl) n = false := hrn.1 (by omega)
                exact Sy.fin_val (fun e => by rw [checkV_u h8 hz (by omega) (by rw [hun, h0]; rfl) hu]; rfl)
              · have h0 : readB (opsOf gl) n = true := by
                  cases h : readB (opsOf gl) n with
                  | true => rfl
                  | false => have := hrn.2 h; omega
                refine ⟨n + 1, ⟨by omega, hu1 (by rw [hun, h0]; rfl)⟩, by omega, ?_⟩
                ((repeat' (first|((conv => whnf);done)|((try conv => whnf);first|exact trivial|(refine And.intro ?_ ?_)|rfl|exact fun _ _ _ h=>h|exact fun _ _ _ _=>trivial)));(all_goals (try conv => whnf)))
          · have e : n = gl.length := by omega
            subst e
            exact Sy.fin_val (fun e => by rw [checkV_ok h8 hz (fun j hj => hu j (by omega))]; rfl)
def rightB (g : List Opr) : Bool := decide ((checkV g).2 = 0)
attribute [local irreducible] checkV
theorem right_any (v : Value) (gl : List OpV) (w : World) (hr : GOk (fun b => b < w.heap.size) w v gl) :
    Calls Tryz.prog 33 #[.agg #[v]] w (Sy.Ret (.bool (rightB (opsOf gl))) w) := by
  refine Sy.calls_of Sy.lv33 Sy.tab_ok Tryz.func33 rfl _ Tryz.ntmps33 [⟨v, 5, gl.length, gl.map encOV⟩] [.agg [.row 0]] rfl rfl rfl ⟨hr.1, trivial⟩ ?_
  ((repeat' ((conv => whnf);(first|refine zA ?_|(refine zI ?_ ?_<;> intro hh<;> first|(exfalso;omega)|skip)|(refine zl ?_ ?_<;> intro hh)|refine zq ?_|refine zv ?_|refine zu ?_|exact Sy.fin_val fun e=>rfl)));(all_goals (try conv => whnf)))
  refine Sy.call_val (.tup [.c (.v (.int .i64 (checkV (opsOf gl)).1)), .c (.v (.int .i64 (checkV (opsOf gl)).2))]) Tryz.call66 rfl (fun e a w' h => rcheck_any (e.rv 0) gl w' ⟨Sy.row_reads h (.inr rfl), fun o ho => Sy.later_in h (hr.2 o ho)⟩) ?_
  conv => whnf
  exact Sy.fin_val (fun e => congrArg Value.bool (by unfold rightB; rw [Bool.eq_iff_iff]; simp))
end Go.Proofs.YtmahldelmbhjfaaGreat
