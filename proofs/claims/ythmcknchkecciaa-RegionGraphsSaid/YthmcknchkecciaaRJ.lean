/- Region: the document's Of, Tasks, Op. -/
import Derived.Test.YthmcknchkecciaaRI
namespace Go.Proofs.Ythmcknchkecciaa
open Go Go.RowKit
open Sy (C SV V1 Blk St XD Els)
set_option maxRecDepth 10000

def rseq (E : List (Nat × Nat)) (S : List Int) : Nat → List Int
  | 0 => S
  | m + 1 => roundE E (rseq E S m)
theorem rseq_front (E : List (Nat × Nat)) (S : List Int) : ∀ m, rseq E (roundE E S) m = rseq E S (m + 1)
  | 0 => rfl
  | m + 1 => by
    show roundE E (rseq E (roundE E S) m) = roundE E (rseq E S (m + 1))
    rw [rseq_front E S m]
theorem rounds_rseq (E : List (Nat × Nat)) : ∀ (n : Nat) (S : List Int), rounds E n S = rseq E S n
  | 0, _ => rfl
  | n + 1, S => by rw [rounds, rounds_rseq E n, rseq_front]
theorem roundE_snoc (E : List (Nat × Nat)) (S : List Int) (e : Nat × Nat) : roundE (E ++ [e]) S = addE (roundE E S) e := by unfold roundE; rw [List.foldl_append]; rfl
/-- Numbers of operators, rising. -/
def OkS (N : Nat) (S : List Int) : Prop := strict S ∧ ∀ x ∈ S, 0 ≤ x ∧ x < (N : Int)
theorem OkS.len {N : Nat} {S : List Int} (h : OkS N S) : S.length ≤ N := by
  have := (strict_sub_len h.1 (natsTo_strict N) fun x hx => natsTo_mem.2 (h.2 x hx)).1
  rwa [natsTo_len] at this
theorem OkS.add {N : Nat} {S : List Int} (h : OkS N S) {e : Nat × Nat} (h1 : e.1 < N) (h2 : e.2 < N) : OkS N (addE S e) := ⟨addE_strict h.1 e, fun x hx => by
  rcases addE_mem hx with hx | ⟨_, rfl | rfl⟩
  · exact h.2 x hx
  · omega
  · omega⟩
theorem OkS.ins {N : Nat} {S : List Int} (h : OkS N S) {x : Int} (h0 : 0 ≤ x) (h1 : x < N) : OkS N (insL S x) := ⟨insL_strict h.1 x, fun y hy => by
  rcases (insL_mem S x y).1 hy with rfl | hy
  · exact ⟨h0, h1⟩
  · exact h.2 y hy⟩
attribute [local irreducible] checkV regOf subN pick taskN subC tasksL subtasks askE opV opsC thereB tasksV roundE edgeN insL rseq
set_option maxHeartbeats 4000000 in
theorem rof_any (v : Value) (gl : List OpV) (op : Nat) (w : World) (hr : GOk (fun b => b < w.heap.size) w v gl) (hlen : gl.length ≤ 100) (hg : goodTo (opsOf gl) gl.length) (ho : op < gl.length) :
    Calls Try.prog 30 #[.agg #[v], .int .i64 op] w (Sy.RetRows Sy.noRow (fun _ : Unit => True) (fun _ => [⟨3, 1, (ofL (opsOf gl) op).length, (ofL (opsOf gl) op).map encI⟩]) (fun _ vs => vs.headD undef) w) := by
  have hol := opsOf_len gl
  have hg' : goodTo (opsOf gl) (opsOf gl).length := by rw [hol]; exact hg
  refine Sy.calls_of Sy.lv30 Sy.tab_ok Try.func30 rfl _ Try.ntmps30 [⟨v, 5, gl.length, gl.map encOV⟩] [.agg [.row 0], .c (.v (.int .i64 op))] rfl rfl rfl ⟨hr.1, trivial⟩ ?_
  ((repeat' ((conv => whnf);(first|refine zA ?_|(refine zI ?_ ?_<;> intro hh<;> first|(exfalso;omega)|skip)|(refine zl ?_ ?_<;> intro hh)|refine zq ?_|refine zv ?_|exact Sy.fin_val fun e=>rfl)));(all_goals (try conv => whnf)))
  refine Sy.loop_inv Sy.tab_ok (fun m : Nat => [(15, .c (.v (.int .i64 m))), (5, .c (.row 2))]) (fun m => [(2, .row 3 1 (rseq (edgesL (opsOf gl)) [(op : Int)] m).length (.vs ((rseq (edgesL (opsOf gl)) [(op : Int)] m).map encI)))]) (fun m => m ≤ gl.length ∧ OkS gl.length (rseq (edgesL (opsOf gl)) [(op : Int)] m)) (fun m => gl.length - m) 0 ⟨Nat.zero_le _, by unfold rseq; exact ⟨List.pairwise_singleton _ _, fun x hx => by rw [List.mem_singleton.1 hx]; omega⟩⟩ ?_ (fun m hm => ?_)
  · rw [show rseq (edgesL (opsOf gl)) [(op : Int)] 0 = [(op : Int)] by unfold rseq; rfl]
    ((repeat' (first|((conv => whnf);done)|((try conv => whnf);first|exact trivial|(refine And.intro ?_ ?_)|rfl|exact fun _ _ _ h=>h|exact fun _ _ _ _=>trivial)));(all_goals (try conv => whnf)))
  · obtain ⟨hm, hok⟩ := hm
    obtain ⟨S, hS⟩ : ∃ S, S = rseq (edgesL (opsOf gl)) [(op : Int)] m := ⟨_, rfl⟩
    have hnext : rseq (edgesL (opsOf gl)) [(op : Int)] (m + 1) = roundE (edgeN (opsOf gl) gl.length 0) S := by rw [hS, rseq]; unfold edgesL; rw [hol]
    rw [← hS] at hok ⊢
    ((repeat' ((conv => whnf);(first|refine zA ?_|(refine zI ?_ ?_<;> intro hh<;> first|(exfalso;omega)|skip)|(refine zl ?_ ?_<;> intro hh)|refine zq ?_|refine zv ?_|exact Sy.fin_val fun e=>rfl)));(all_goals (try conv => whnf)))
    · refine Sy.loop_inv Sy.tab_ok (fun i : Nat => [(20, .c (.v (.int .i64 i))), (5, .c (.row 2))]) (fun i => [(2, .row 3 1 (roundE (edgeN (opsOf gl) i 0) S).length (.vs ((roundE (edgeN (opsOf gl) i 0) S).map encI)))]) (fun i => i ≤ gl.length ∧ OkS gl.length (roundE (edgeN (opsOf gl) i 0) S)) (fun i => gl.length - i) 0 ⟨Nat.zero_le _, by rw [show roundE (edgeN (opsOf gl) 0 0) S = S by unfold edgeN roundE; rfl]; exact hok⟩ ?_ (fun i hi => ?_)
      · rw [show roundE (edgeN (opsOf gl) 0 0) S = S by unfold edgeN roundE; rfl]
        ((repeat' (first|((conv => whnf);done)|((try conv => whnf);first|exact trivial|(refine And.intro ?_ ?_)|rfl|exact fun _ _ _ h=>h|exact fun _ _ _ _=>trivial)));(all_goals (try conv => whnf)))
      · obtain ⟨hi, hoki⟩ := hi
        ((repeat' ((conv => whnf);(first|refine zA ?_|(refine zI ?_ ?_<;> intro hh<;> first|(exfalso;omega)|skip)|(refine zl ?_ ?_<;> intro hh)|refine zq ?_|refine zv ?_|exact Sy.fin_val fun e=>rfl)));(all_goals (try conv => whnf)))
        · have hlt : i < gl.length := by omega
          have hgi := List.getElem?_eq_getElem hlt
          generalize gl[i] = o at *
          have hgo := opsOf_get hgi
          have hoo := hr.at hgi
          have ha := hg i o.op hlt hgo
          have hil := rises_len ha.2.2.1
          refine Sy.el_map o hgi ?_
          ((repeat' ((conv => whnf);(first|refine zA ?_|(refine zI ?_ ?_<;> intro hh<;> first|(exfalso;omega)|skip)|(refine zl ?_ ?_<;> intro hh)|refine zq ?_|refine zv ?_|exact Sy.fin_val fun e=>rfl)));(all_goals (try conv => whnf)))
          refine open_x _ _ _ (hoo) (fun _ h => h) ?_
          ((repeat' ((conv => whnf);(first|refine zA ?_|(refine zI ?_ ?_<;> intro hh<;> first|(exfalso;omega)|skip)|(refine zl ?_ ?_<;> intro hh)|refine zq ?_|refine zv ?_|exact Sy.fin_val fun e=>rfl)));(all_goals (try conv => whnf)))
          refine Sy.loop_inv Sy.tab_ok (fun k : Nat => [(28, .c (.v (.int .i64 k))), (5, .c (.row 2))]) (fun k => [(2, .row 3 1 (roundE (edgeN (opsOf gl) i k) S).length (.vs ((roundE (edgeN (opsOf gl) i k) S).map encI)))]) (fun k => k ≤ o.op.ins.length ∧ OkS gl.length (roundE (edgeN (opsOf gl) i k) S)) (fun k => o.op.ins.length - k) 0 ⟨Nat.zero_le _, hoki⟩ ?_ (fun k hk => ?_)
          · ((repeat' (first|((conv => whnf);done)|((try conv => whnf);first|exact trivial|(refine And.intro ?_ ?_)|rfl|exact fun _ _ _ h=>h|exact fun _ _ _ _=>trivial)));(all_goals (try conv => whnf)))
          · obtain ⟨hk, hokk⟩ := hk
            ((repeat' ((conv => whnf);(first|refine zA ?_|(refine zI ?_ ?_<;> intro hh<;> first|(exfalso;omega)|skip)|(refine zl ?_ ?_<;> intro hh)|refine zq ?_|refine zv ?_|exact Sy.fin_val fun e=>rfl)));(all_goals (try conv => whnf)))
            · have hlk : k < o.op.ins.length := by omega
              have hgk := List.getElem?_eq_getElem hlk
              have hkb := alone_ins ha _ (List.getElem_mem hlk)
              generalize o.op.ins[k] = x at *
              have hstep : roundE (edgeN (opsOf gl) i (k + 1)) S = addE (roundE (edgeN (opsOf gl) i k) S) (i, x.toNat) := by rw [edgeN_k hgo hgk, roundE_snoc]
              have hok2 := OkS.add hokk (e := (i, x.toNat)) hlt (by show x.toNat < _; omega)
              have hxx : ((x.toNat : Nat) : Int) = x := by omega
              obtain ⟨T, hT⟩ : ∃ T, T = roundE (edgeN (opsOf gl) i k) S := ⟨_, rfl⟩
              rw [← hT] at hokk hok2 hstep ⊢
              have hTl := hokk.len
              refine Sy.el_map x hgk ?_
              ((repeat' ((conv => whnf);(first|refine zA ?_|(refine zI ?_ ?_<;> intro hh<;> first|(exfalso;omega)|skip)|(refine zl ?_ ?_<;> intro hh)|exact Sy.fin_val fun e=>rfl)));(all_goals (try conv => whnf)))
              refine Sy.cut_meet Sy.tab_ok (ι := Unit) (fun _ => [(39, .c (.v (.bool (decide ((i : Int) ∈ T ∨ x ∈ T)))))]) (fun _ => []) (fun _ => True) ?_ (fun _ _ => ?_)
              · refine Sy.region_go Sy.tab_ok ?_
                ((repeat' ((conv => whnf);(first|refine zA ?_|(refine zI ?_ ?_<;> intro hh<;> first|(exfalso;omega)|skip)|(refine zl ?_ ?_<;> intro hh)|refine zq ?_|refine zv ?_|exact Sy.fin_val fun e=>rfl)));(all_goals (try conv => whnf)))
                refine Sy.call_val (.c (.v (.bool (decide ((i : Int) ∈ T))))) Try.call49 rfl (fun e a w' h => has_any (e.rv 2) T i w' (Sy.row_reads h (.inl ⟨_, rfl⟩))) ?_
                by_cases h1 : (i : Int) ∈ T
                · rw [decide_eq_true h1, decide_eq_true (show (i : Int) ∈ T ∨ x ∈ T from .inl h1)]
                  ((repeat' ((conv => whnf);(first|refine zA ?_|(refine zI ?_ ?_<;> intro hh<;> first|(exfalso;omega)|skip)|(refine zl ?_ ?_<;> intro hh)|refine zq ?_|refine zv ?_|exact Sy.fin_val fun e=>rfl)));(all_goals (try conv => whnf)))
                  refine ⟨(), trivial, ?_⟩
                  ((repeat' (first|((conv => whnf);done)|((try conv => whnf);first|exact trivial|(refine And.intro ?_ ?_)|rfl|exact fun _ _ _ h=>h|exact fun _ _ _ _=>trivial)));(all_goals (try conv => whnf)))
                · rw [decide_eq_false h1, show decide ((i : Int) ∈ T ∨ x ∈ T) = decide (x ∈ T) by simp [h1]]
                  ((repeat' ((conv => whnf);(first|refine zA ?_|(refine zI ?_ ?_<;> intro hh<;> first|(exfalso;omega)|skip)|(refine zl ?_ ?_<;> intro hh)|refine zq ?_|refine zv ?_|exact Sy.fin_val fun e=>rfl)));(all_goals (try conv => whnf)))
                  refine Sy.call_val (.c (.v (.bool (decide (x ∈ T))))) Try.call49 rfl (fun e a w' h => has_any (e.rv 2) T x w' (Sy.row_reads h (.inl ⟨_, rfl⟩))) ?_
                  ((repeat' ((conv => whnf);(first|refine zA ?_|(refine zI ?_ ?_<;> intro hh<;> first|(exfalso;omega)|skip)|(refine zl ?_ ?_<;> intro hh)|refine zq ?_|refine zv ?_|exact Sy.fin_val fun e=>rfl)));(all_goals (try conv => whnf)))
                  refine ⟨(), trivial, ?_⟩
                  ((repeat' (first|((conv => whnf);done)|((try conv => whnf);first|exact trivial|(refine And.intro ?_ ?_)|rfl|exact fun _ _ _ h=>h|exact fun _ _ _ _=>trivial)));(all_goals (try conv => whnf)))
              · by_cases hc : (i : Int) ∈ T ∨ x ∈ T
                · have hadd : addE T (i, x.toNat) = insL (insL T i) x := by unfold addE; rw [hxx, if_pos hc]
                  have hoi := OkS.ins hokk (x := (i : Int)) (by omega) (by omega)
                  rw [decide_eq_true hc]
                  ((repeat' ((conv => whnf);(first|refine zA ?_|(refine zI ?_ ?_<;> intro hh<;> first|(exfalso;omega)|skip)|(refine zl ?_ ?_<;> intro hh)|refine zq ?_|refine zv ?_|exact Sy.fin_val fun e=>rfl)));(all_goals (try conv => whnf)))
                  refine Sy.call_r1 ⟨3, 1, (insL T i).length, (insL T i).map encI⟩ (fun j => .c (.row j)) Try.call42 (fun e a w' h => with_any (e.rv 2) T i w' (Sy.row_reads h (.inl ⟨_, rfl⟩)) hokk.1 (by omega)) ?_
                  have hil2 := hoi.len
                  ((repeat' ((conv => whnf);(first|refine zA ?_|(refine zI ?_ ?_<;> intro hh<;> first|(exfalso;omega)|skip)|(refine zl ?_ ?_<;> intro hh)|refine zq ?_|refine zv ?_|exact Sy.fin_val fun e=>rfl)));(all_goals (try conv => whnf)))
                  refine Sy.call_r1 ⟨3, 1, (insL (insL T i) x).length, (insL (insL T i) x).map encI⟩ (fun j => .c (.row j)) Try.call42 (fun e a w' h => with_any (e.rv 5) (insL T i) x w' (Sy.row_reads h (.inl ⟨_, rfl⟩)) hoi.1 (by omega)) ?_
                  ((repeat' ((conv => whnf);(first|refine zA ?_|(refine zI ?_ ?_<;> intro hh<;> first|(exfalso;omega)|skip)|(refine zl ?_ ?_<;> intro hh)|refine zq ?_|refine zv ?_|exact Sy.fin_val fun e=>rfl)));(all_goals (try conv => whnf)))
                  refine ⟨k + 1, ⟨by omega, by rw [hstep]; exact hok2⟩, by omega, ?_⟩
                  rw [hstep, hadd]
                  ((repeat' (first|((conv => whnf);done)|((try conv => whnf);first|exact trivial|(refine And.intro ?_ ?_)|rfl|exact fun _ _ _ h=>h|exact fun _ _ _ _=>trivial)));(all_goals (try conv => whnf)))
                · have hadd : addE T (i, x.toNat) = T := by unfold addE; rw [hxx, if_neg hc]
                  rw [decide_eq_false hc]
                  ((repeat' ((conv => whnf);(first|refine zA ?_|(refine zI ?_ ?_<;> intro hh<;> first|(exfalso;omega)|skip)|(refine zl ?_ ?_<;> intro hh)|refine zq ?_|refine zv ?_|exact Sy.fin_val fun e=>rfl)));(all_goals (try conv => whnf)))
                  refine ⟨k + 1, ⟨by omega, by rw [hstep]; exact hok2⟩, by omega, ?_⟩
                  rw [hstep, hadd]
                  ((repeat' (first|((conv => whnf);done)|((try conv => whnf);first|exact trivial|(refine And.intro ?_ ?_)|rfl|exact fun _ _ _ h=>h|exact fun _ _ _ _=>trivial)));(all_goals (try conv => whnf)))
            · have e : k = o.op.ins.length := by omega
              refine ⟨i + 1, ⟨by omega, by rw [edgeN_i hgo, ← e]; exact hokk⟩, by omega, ?_⟩
              rw [edgeN_i hgo, ← e]
              ((repeat' (first|((conv => whnf);done)|((try conv => whnf);first|exact trivial|(refine And.intro ?_ ?_)|rfl|exact fun _ _ _ h=>h|exact fun _ _ _ _=>trivial)));(all_goals (try conv => whnf)))
        · have e : i = gl.length := by omega
          subst e
          refine ⟨m + 1, ⟨by omega, by rw [hnext]; exact hoki⟩, by omega, ?_⟩
          rw [hnext]
          ((repeat' (first|((conv => whnf);done)|((try conv => whnf);first|exact trivial|(refine And.intro ?_ ?_)|rfl|exact fun _ _ _ h=>h|exact fun _ _ _ _=>trivial)));(all_goals (try conv => whnf)))
    · have e : m = gl.length := by omega
      have e2 : S = ofL (opsOf gl) op := by
        have := rounds_of hg' (op := op) (by omega)
        rw [rounds_rseq, hol] at this
        rw [hS, e, this]
      rw [e2]
      exact Sy.fin_r1 (.row 2) rfl
end Go.Proofs.Ythmcknchkecciaa
