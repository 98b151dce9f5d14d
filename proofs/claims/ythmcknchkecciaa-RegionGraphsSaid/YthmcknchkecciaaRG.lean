/- Region: Anew. -/
import Derived.Test.YthmcknchkecciaaRF
namespace Go.Proofs.Ythmcknchkecciaa
open Go Go.RowKit
open Sy (C SV V1 Blk St XD Els)
set_option maxRecDepth 10000

def opsC (g : List Opr) (l : List Int) : List Int := (l.map fun t => ofL g (opV g t).1).flatten
theorem opsC_succ {g : List Opr} {l : List Int} {m : Nat} {t : Int} (h : l[m]? = some t) : opsC g (l.take (m + 1)) = opsC g (l.take m) ++ ofL g (opV g t).1 := by
  obtain ⟨hn, he⟩ := List.getElem?_eq_some_iff.1 h
  unfold opsC
  rw [List.take_succ_eq_append_getElem hn, he, List.map_append, List.flatten_append]
  simp
theorem ofL_len (g : List Opr) (op : Nat) : (ofL g op).length ≤ g.length := by
  unfold ofL
  exact Nat.le_trans (List.length_filter_le _ _) (Nat.le_of_eq (natsTo_len _))
theorem opsC_len (g : List Opr) (l : List Int) : (opsC g l).length ≤ g.length * l.length := by
  induction l with
  | nil => simp [opsC]
  | cons t r ih =>
    have := ofL_len g (opV g t).1
    have e : opsC g (t :: r) = ofL g (opV g t).1 ++ opsC g r := by simp [opsC]
    rw [e, List.length_append, List.length_cons, Nat.mul_add]
    omega
def thereB (g : List Opr) (l : List Int) : Bool := l.all fun t => decide (0 ≤ t ∧ t < subtasks g)
def anewE (g : List Opr) (l : List Int) : Int := if (checkV g).2 = 0 then (if thereB g l = true then 0 else 2) else (checkV g).2
def anewV (g : List Opr) (l : List Int) : List Int := if anewE g l = 0 then tasksL g (opsC g l) else []
theorem opV_lt {g : List Opr} {t : Int} (h : askE g t (subtasks g) = 0) : (opV g t).1 < g.length ∧ (subsL g)[t.toNat]? = some (opV g t) := by
  obtain ⟨hc, h1, h2⟩ := askE_ok h
  have hg := check_good hc
  have hws := wide_subs (g := g) g.length (Nat.le_refl _) hg
  have hst : subtasks g = wideN g g.length := by unfold subtasks; rw [if_pos hc]
  rw [hst, hws] at h2
  have hlt : t.toNat < (subsL g).length := by show _ < (subN g g.length 0).length; omega
  have hs : (subsL g)[t.toNat]? = some (opV g t) := by
    unfold opV
    rw [if_pos h, List.getElem?_eq_getElem hlt]
    rfl
  exact ⟨(subsL_mem hg (List.mem_of_getElem? hs)).1, hs⟩
attribute [local irreducible] checkV regOf subN pick taskN subC ofL tasksL subtasks askE opV opsC thereB
set_option maxHeartbeats 2000000 in
theorem anew_any (v u : Value) (gl : List OpV) (l : List Int) (w : World) (hr : GOk (fun b => b < w.heap.size) w v gl) (hu : XD.ok (fun b => b < w.heap.size) w ⟨u, 1, l.length, l.map encI⟩) (hlen : l.length ≤ 1000) :
    Calls Try.prog 18 #[.agg #[v], u] w (Sy.RetRows Sy.noRow (fun _ : Unit => True) (fun _ => [⟨3, 1, (anewV (opsOf gl) l).length, (anewV (opsOf gl) l).map encI⟩]) (fun _ vs => .tuple #[vs.headD undef, .int .i64 (anewE (opsOf gl) l)]) w) := by
  have hol := opsOf_len gl
  refine Sy.calls_of Sy.lv18 Sy.tab_ok Try.func18 rfl _ Try.ntmps18 [⟨v, 5, gl.length, gl.map encOV⟩, ⟨u, 1, l.length, l.map encI⟩] [.agg [.row 0], .c (.row 1)] rfl rfl rfl ⟨hr.1, hu, trivial⟩ ?_
  ((repeat' ((conv => whnf);(first|refine zA ?_|(refine zI ?_ ?_<;> intro hh<;> first|(exfalso;omega)|skip)|(refine zl ?_ ?_<;> intro hh)|refine zq ?_|refine zv ?_|exact Sy.fin_val fun e=>rfl)));(all_goals (try conv => whnf)))
  refine Sy.call_val (.tup [.c (.v (.int .i64 (checkV (opsOf gl)).1)), .c (.v (.int .i64 (checkV (opsOf gl)).2))]) Try.call35 rfl (fun e a w' h => check_any (e.rv 0) gl w' ⟨Sy.row_reads h (.inr rfl), fun o ho => Sy.later_in h (hr.2 o ho)⟩) ?_
  by_cases h0 : (checkV (opsOf gl)).2 = 0
  · have h8 := check_ok h0
    have hg := check_good h0
    rw [hol] at h8 hg
    ((repeat' ((conv => whnf);(first|refine zA ?_|(refine zI ?_ ?_<;> intro hh<;> first|(exfalso;omega)|skip)|(refine zl ?_ ?_<;> intro hh)|refine zq ?_|refine zv ?_|exact Sy.fin_val fun e=>rfl)));(all_goals (try conv => whnf)))
    refine Sy.sem_subF (Sy.sub_row 8 3 1 rfl) ?_
    conv => whnf
    refine Sy.loop_inv Sy.tab_ok (fun m : Nat => [(24, .c (.v (.int .i64 m))), (8, .c (.row 3))]) (fun m => [(3, .row 3 1 (opsC (opsOf gl) (l.take m)).length (.vs ((opsC (opsOf gl) (l.take m)).map encI)))]) (fun m => m ≤ l.length ∧ ∀ i, i < m → ∀ t, l[i]? = some t → 0 ≤ t ∧ t < subtasks (opsOf gl)) (fun m => l.length - m) 0 ⟨Nat.zero_le _, fun i hi => absurd hi (Nat.not_lt_zero _)⟩ ?_ (fun m hm => ?_)
    · rw [show opsC (opsOf gl) (l.take 0) = [] by unfold opsC; rfl]
      ((repeat' (first|((conv => whnf);done)|((try conv => whnf);first|exact trivial|(refine And.intro ?_ ?_)|rfl|exact fun _ _ _ h=>h|exact fun _ _ _ _=>trivial)));(all_goals (try conv => whnf)))
    · obtain ⟨hm, hall⟩ := hm
      have hcl := opsC_len (opsOf gl) (l.take m)
      rw [hol, List.length_take, Nat.min_eq_left hm] at hcl
      have hcb : gl.length * m ≤ 8 * 1000 := Nat.mul_le_mul h8.2.1 (by omega)
      ((repeat' ((conv => whnf);(first|refine zA ?_|(refine zI ?_ ?_<;> intro hh<;> first|(exfalso;omega)|skip)|(refine zl ?_ ?_<;> intro hh)|refine zq ?_|refine zv ?_|exact Sy.fin_val fun e=>rfl)));(all_goals (try conv => whnf)))
      · have hlt : m < l.length := by omega
        have hg1 := List.getElem?_eq_getElem hlt
        generalize l[m] = t at *
        have hs := opsC_succ (g := opsOf gl) hg1
        refine Sy.el_map t hg1 ?_
        ((repeat' ((conv => whnf);(first|refine zA ?_|(refine zI ?_ ?_<;> intro hh<;> first|(exfalso;omega)|skip)|(refine zl ?_ ?_<;> intro hh)|refine zq ?_|refine zv ?_|exact Sy.fin_val fun e=>rfl)));(all_goals (try conv => whnf)))
        refine Sy.call_val (.tup [.c (.v (.int .i64 (opV (opsOf gl) t).1)), .c (.v (.int .i64 (opV (opsOf gl) t).2)), .c (.v (.int .i64 (askE (opsOf gl) t (subtasks (opsOf gl)))))]) Try.call22 rfl (fun e a w' h => op_any (e.rv 0) gl t w' ⟨Sy.row_reads h (.inr rfl), fun o ho => Sy.later_in h (hr.2 o ho)⟩) ?_
        by_cases ha : askE (opsOf gl) t (subtasks (opsOf gl)) = 0
        · have hlo := (opV_lt ha).1
          have hle := ofL_len (opsOf gl) (opV (opsOf gl) t).1
          rw [hol] at hlo hle
          ((repeat' ((conv => whnf);(first|refine zA ?_|(refine zI ?_ ?_<;> intro hh<;> first|(exfalso;omega)|skip)|(refine zl ?_ ?_<;> intro hh)|refine zq ?_|refine zv ?_|exact Sy.fin_val fun e=>rfl)));(all_goals (try conv => whnf)))
          refine Sy.call_r1 ⟨3, 1, (ofL (opsOf gl) (opV (opsOf gl) t).1).length, (ofL (opsOf gl) (opV (opsOf gl) t).1).map encI⟩ (fun j => .c (.row j)) Try.call38 (fun e a w' h => of_any (e.rv 0) gl (opV (opsOf gl) t).1 w' ⟨Sy.row_reads h (.inr rfl), fun o ho => Sy.later_in h (hr.2 o ho)⟩ (by omega) hg hlo) ?_
          ((repeat' ((conv => whnf);(first|refine zA ?_|(refine zI ?_ ?_<;> intro hh<;> first|(exfalso;omega)|skip)|(refine zl ?_ ?_<;> intro hh)|refine zq ?_|refine zv ?_|exact Sy.fin_val fun e=>rfl)));(all_goals (try conv => whnf)))
          refine Sy.need_app 8 rfl (by omega) ?_
          ((repeat' ((conv => whnf);(first|refine zA ?_|(refine zI ?_ ?_<;> intro hh<;> first|(exfalso;omega)|skip)|(refine zl ?_ ?_<;> intro hh)|refine zq ?_|refine zv ?_|exact Sy.fin_val fun e=>rfl)));(all_goals (try conv => whnf)))
          refine ⟨m + 1, ⟨by omega, fun i hi t' ht' => ?_⟩, by omega, ?_⟩
          · by_cases e : i = m
            · subst e
              rw [hg1] at ht'
              cases ht'
              exact (askE_ok ha).2
            · exact hall i (by omega) t' ht'
          · rw [hs]
            simp only [List.length_append, List.map_append]
            ((repeat' (first|((conv => whnf);done)|((try conv => whnf);first|exact trivial|(refine And.intro ?_ ?_)|rfl|exact fun _ _ _ h=>h|exact fun _ _ _ _=>trivial)));(all_goals (try conv => whnf)))
        · have hno : ¬ (0 ≤ t ∧ t < subtasks (opsOf gl)) := fun hh => ha (by unfold askE; rw [if_pos h0, if_neg (by omega)])
          have ha2 : askE (opsOf gl) t (subtasks (opsOf gl)) = 2 := by unfold askE; rw [if_pos h0, if_pos (by omega)]
          have hth : thereB (opsOf gl) l = false := by
            unfold thereB
            rw [List.all_eq_false]
            exact ⟨t, List.mem_of_getElem? hg1, by simpa using fun a => by omega⟩
          have hv : anewE (opsOf gl) l = 2 := by unfold anewE; rw [if_pos h0, if_neg (by rw [hth]; simp)]
          have hv2 : anewV (opsOf gl) l = [] := by unfold anewV; rw [hv, if_neg (by decide)]
          rw [hv, hv2]
          ((repeat' ((conv => whnf);(first|refine zA ?_|(refine zI ?_ ?_<;> intro hh<;> first|(exfalso;omega)|skip)|(refine zl ?_ ?_<;> intro hh)|refine zq ?_|refine zv ?_|exact Sy.fin_val fun e=>rfl)));(all_goals (try conv => whnf)))
          exact Sy.fin_r1 (.v (.slice none 0 0)) ⟨rfl, rfl⟩ (fun e => by rw [ha2]; rfl)
      · have e : m = l.length := by omega
        subst e
        rw [List.take_length] at hcl ⊢
        have hth : thereB (opsOf gl) l = true := by
          unfold thereB
          rw [List.all_eq_true]
          intro t ht
          obtain ⟨i, hi⟩ := List.getElem?_of_mem ht
          exact decide_eq_true (hall i (List.getElem?_eq_some_iff.1 hi).1 t hi)
        have hv : anewE (opsOf gl) l = 0 := by unfold anewE; rw [if_pos h0, if_pos hth]
        have hv2 : anewV (opsOf gl) l = tasksL (opsOf gl) (opsC (opsOf gl) l) := by unfold anewV; rw [if_pos hv]
        rw [hv, hv2]
        refine Sy.call_r1 ⟨3, 1, (tasksL (opsOf gl) (opsC (opsOf gl) l)).length, (tasksL (opsOf gl) (opsC (opsOf gl) l)).map encI⟩ (fun j => .c (.row j)) Try.call41 (fun e a w' h => tasks_any (e.rv 0) _ gl (opsC (opsOf gl) l) w' ⟨Sy.row_reads h (.inr rfl), fun o ho => Sy.later_in h (hr.2 o ho)⟩ (Sy.row_reads h (.inl ⟨_, rfl⟩)) (by omega) hg) ?_
        ((repeat' ((conv => whnf);(first|refine zA ?_|(refine zI ?_ ?_<;> intro hh<;> first|(exfalso;omega)|skip)|(refine zl ?_ ?_<;> intro hh)|refine zq ?_|refine zv ?_|exact Sy.fin_val fun e=>rfl)));(all_goals (try conv => whnf)))
        exact Sy.fin_r1 (.row 4) rfl
  · have hv : anewE (opsOf gl) l = (checkV (opsOf gl)).2 := if_neg h0
    have hv2 : anewV (opsOf gl) l = [] := by unfold anewV; rw [hv, if_neg h0]
    rw [hv, hv2]
    ((repeat' ((conv => whnf);(first|refine zA ?_|(refine zI ?_ ?_<;> intro hh<;> first|(exfalso;omega)|skip)|(refine zl ?_ ?_<;> intro hh)|refine zq ?_|refine zv ?_|exact Sy.fin_val fun e=>rfl)));(all_goals (try conv => whnf)))
    exact Sy.fin_r1 (.v (.slice none 0 0)) ⟨rfl, rfl⟩
end Go.Proofs.Ythmcknchkecciaa
