/- Graph: the document's Has, Sources, meets, Readers. -/
import Derived.Test.YtmahldelmbhjfaaGreatGE
namespace Go.Proofs.YtmahldelmbhjfaaGreat
open Go Go.RowKit
open Sy (C SV V1 Blk St XD Els)
set_option maxRecDepth 10000

theorem has_any (v : Value) (l : List Int) (x : Int) (w : World) (hr : XD.ok (fun b => b < w.heap.size) w ⟨v, 1, l.length, l.map encI⟩) :
    Calls Tryz.prog 106 #[v, .int .i64 x] w (Sy.Ret (.bool (decide (x ∈ l))) w) := by
  have hl := ok_len hr
  refine Sy.calls_of Sy.lv106 Sy.tab_ok Tryz.func106 rfl _ Tryz.ntmps106 [⟨v, 1, l.length, l.map encI⟩] [.c (.row 0), .c (.v (.int .i64 x))] rfl rfl rfl ⟨hr, trivial⟩ ?_
  ((repeat' ((conv => whnf);(first|refine zA ?_|(refine zI ?_ ?_<;> intro hh<;> first|(exfalso;omega)|skip)|(refine zl ?_ ?_<;> intro hh)|refine zq ?_|refine zv ?_|refine zu ?_|exact Sy.fin_val fun e=>rfl)));(all_goals (try conv => whnf)))
  refine Sy.loop_inv Sy.tab_ok (fun n : Nat => [(9, .c (.v (.int .i64 n)))]) (fun _ => []) (fun n => n ≤ l.length ∧ (x ∈ l ↔ x ∈ l.drop n)) (fun n => l.length - n) 0 ⟨Nat.zero_le _, Iff.rfl⟩ ?_ (fun n hle => ?_)
  · ((repeat' (first|((conv => whnf);done)|((try conv => whnf);first|exact trivial|(refine And.intro ?_ ?_)|rfl|exact fun _ _ _ h=>h|exact fun _ _ _ _=>trivial)));(all_goals (try conv => whnf)))
  · obtain ⟨hle, hne⟩ := hle
    ((repeat' ((conv => whnf);(first|refine zA ?_|(refine zI ?_ ?_<;> intro hh<;> first|(exfalso;omega)|skip)|(refine zl ?_ ?_<;> intro hh)|refine zq ?_|refine zv ?_|refine zu ?_|exact Sy.fin_val fun e=>rfl)));(all_goals (try conv => whnf)))
    · have hlt : n < l.length := by omega
      have hg := List.getElem?_eq_getElem hlt
      rw [List.drop_eq_getElem_cons hlt, List.mem_cons] at hne
      generalize l[n] = y at *
      refine Sy.el_map y hg ?_
      ((repeat' ((conv => whnf);(first|refine zA ?_|(refine zI ?_ ?_<;> intro hh<;> first|(exfalso;omega)|skip)|(refine zl ?_ ?_<;> intro hh)|refine zq ?_|refine zv ?_|refine zu ?_|exact Sy.fin_val fun e=>rfl)));(all_goals (try conv => whnf)))
      · exact Sy.fin_val (fun e => congrArg Value.bool (decide_eq_true (hne.2 (.inl (by omega)))).symm)
      · refine ⟨n + 1, ⟨by omega, by rw [hne]; exact ⟨fun h => h.resolve_left (by omega), .inr⟩⟩, by omega, ?_⟩
        ((repeat' (first|((conv => whnf);done)|((try conv => whnf);first|exact trivial|(refine And.intro ?_ ?_)|rfl|exact fun _ _ _ h=>h|exact fun _ _ _ _=>trivial)));(all_goals (try conv => whnf)))
    · have e : n = l.length := by omega
      subst e
      exact Sy.fin_val (fun e => congrArg Value.bool (decide_eq_false (by rw [hne, List.drop_length]; simp)).symm)
theorem srcRows_succ (g : List Opr) (l : List Int) (n : Nat) (h : n < l.length) : (srcRows g (l.take (n + 1))).flatten = (srcRows g (l.take n)).flatten ++ srcs g l[n].toNat := by
  rw [List.take_succ_eq_append_getElem h, srcRows, List.map_append, List.flatten_append]
  simp [srcRows]
theorem setI_strict (zs : List Int) : strict (setI zs) := (compact_sort zs).1
theorem setI_nil : setI [] = [] := by unfold setI; simp [sortL, Lib.compact, Lib.compactUpTo]
attribute [local irreducible] setI
set_option maxHeartbeats 1000000 in
theorem rsources_any : ∀ (i : Nat) (v : Value) (gl : List OpV) (w : World), GOk (fun b => b < w.heap.size) w v gl → gl.length ≤ 1000 → i < gl.length → goodTo (opsOf gl) (i + 1) →
    Calls Tryz.prog 112 #[.agg #[v], .int .i64 i] w (Sy.RetRows Sy.noRow (fun _ : Unit => True) (fun _ => [⟨3, 1, (srcs (opsOf gl) i).length, (srcs (opsOf gl) i).map encI⟩]) (fun _ vs => vs.headD undef) w) := by
  intro i
  induction i using Nat.strongRecOn with
  | _ i ih =>
    intro v gl w hr hlen hi hg
    have hgi := List.getElem?_eq_getElem hi
    generalize gl[i] = o at *
    have hgo := opsOf_get hgi
    have ha := hg i o.op (by omega) hgo
    have hins := alone_ins ha
    have hoo := hr.at hgi
    have hil : o.op.ins.length ≤ i := rises_len ha.2.2.1
    refine Sy.calls_of Sy.lv112 Sy.tab_ok Tryz.func112 rfl _ Tryz.ntmps112 [⟨v, 5, gl.length, gl.map encOV⟩] [.agg [.row 0], .c (.v (.int .i64 i))] rfl rfl rfl ⟨hr.1, trivial⟩ ?_
    ((repeat' ((conv => whnf);(first|refine zA ?_|(refine zI ?_ ?_<;> intro hh<;> first|(exfalso;omega)|skip)|(refine zl ?_ ?_<;> intro hh)|refine zq ?_|refine zv ?_|exact Sy.fin_val fun e=>rfl)));(all_goals (try conv => whnf)))
    refine Sy.el_map o hgi ?_
    by_cases ht : o.op.tag = 1
    · have hs := srcs_src hg hgo ht
      ((repeat' ((conv => whnf);(first|refine zA ?_|(refine zI ?_ ?_<;> intro hh<;> first|(exfalso;omega)|skip)|(refine zl ?_ ?_<;> intro hh)|refine zq ?_|refine zv ?_|exact Sy.fin_val fun e=>rfl)));(all_goals (try conv => whnf)))
      refine Sy.fin_r1 (.row 3) ?_
      rw [hs]; rfl
    · have hs : setI (srcRows (opsOf gl) o.op.ins).flatten = srcs (opsOf gl) i := by unfold setI; exact srcs_union hg hgo ht
      ((repeat' ((conv => whnf);(first|refine zA ?_|(refine zI ?_ ?_<;> intro hh<;> first|(exfalso;omega)|skip)|(refine zl ?_ ?_<;> intro hh)|refine zq ?_|refine zv ?_|exact Sy.fin_val fun e=>rfl)));(all_goals (try conv => whnf)))
      refine open_x _ _ _ (hoo) (fun _ h => h) ?_
      ((repeat' ((conv => whnf);(first|refine zA ?_|(refine zI ?_ ?_<;> intro hh<;> first|(exfalso;omega)|skip)|(refine zl ?_ ?_<;> intro hh)|refine zq ?_|refine zv ?_|exact Sy.fin_val fun e=>rfl)));(all_goals (try conv => whnf)))
      refine Sy.sem_subF (Sy.sub_row 6 3 1 rfl) ?_
      conv => whnf
      refine Sy.loop_inv Sy.tab_ok (fun n : Nat => [(25, .c (.v (.int .i64 n))), (6, .c (.row 4))]) (fun n => [(4, .row 3 1 (setI (srcRows (opsOf gl) (o.op.ins.take n)).flatten).length (.vs ((setI (srcRows (opsOf gl) (o.op.ins.take n)).flatten).map encI)))]) (fun n => n ≤ o.op.ins.length) (fun n => o.op.ins.length - n) 0 (Nat.zero_le _) ?_ (fun n hn => ?_)
      · rw [show setI (srcRows (opsOf gl) (o.op.ins.take 0)).flatten = [] by rw [List.take_zero]; exact setI_nil]
        ((repeat' (first|((conv => whnf);done)|((try conv => whnf);first|exact trivial|(refine And.intro ?_ ?_)|rfl|exact fun _ _ _ h=>h|exact fun _ _ _ _=>trivial)));(all_goals (try conv => whnf)))
      · ((repeat' ((conv => whnf);(first|refine zA ?_|(refine zI ?_ ?_<;> intro hh<;> first|(exfalso;omega)|skip)|(refine zl ?_ ?_<;> intro hh)|exact Sy.fin_val fun e=>rfl)));(all_goals (try conv => whnf)))
        · have hlt : n < o.op.ins.length := by omega
          have hgn := List.getElem?_eq_getElem hlt
          have hk := hins _ (List.getElem_mem hlt)
          have hsr := srcRows_succ (opsOf gl) o.op.ins n hlt
          have hlr := srcRows_len (opsOf gl) (o.op.ins.take n)
          rw [List.length_take] at hlr
          generalize o.op.ins[n] = k at *
          refine Sy.el_map k hgn ?_
          ((repeat' ((conv => whnf);(first|refine zA ?_|(refine zI ?_ ?_<;> intro hh<;> first|(exfalso;omega)|skip)|(refine zl ?_ ?_<;> intro hh)|refine zq ?_|refine zv ?_|exact Sy.fin_val fun e=>rfl)));(all_goals (try conv => whnf)))
          obtain ⟨m, rfl⟩ : ∃ m : Nat, k = (m : Int) := ⟨k.toNat, by omega⟩
          have hsl := srcs_len (opsOf gl) m
          rw [Int.toNat_natCast] at hsr
          refine Sy.call_r1 ⟨3, 1, (srcs (opsOf gl) m).length, (srcs (opsOf gl) m).map encI⟩ (fun j => .c (.row j)) Tryz.call112 (fun e a w' h => ih m (by omega) (e.rv 0) gl w' ⟨Sy.row_reads h (.inr rfl), fun o ho => Sy.later_in h (hr.2 o ho)⟩ hlen (by omega) (hg.mono (by omega))) ?_
          ((repeat' ((conv => whnf);(first|refine zA ?_|(refine zI ?_ ?_<;> intro hh<;> first|(exfalso;omega)|skip)|(refine zl ?_ ?_<;> intro hh)|refine zq ?_|refine zv ?_|exact Sy.fin_val fun e=>rfl)));(all_goals (try conv => whnf)))
          generalize hA : (srcRows (opsOf gl) (o.op.ins.take n)).flatten = A at *
          refine Sy.loop_inv Sy.tab_ok (fun p : Nat => [(33, .c (.v (.int .i64 p))), (6, .c (.row 4))]) (fun p => [(4, .row 3 1 (setI (A ++ (srcs (opsOf gl) m).take p)).length (.vs ((setI (A ++ (srcs (opsOf gl) m).take p)).map encI)))]) (fun p => p ≤ (srcs (opsOf gl) m).length) (fun p => (srcs (opsOf gl) m).length - p) 0 (Nat.zero_le _) ?_ (fun p hp => ?_)
          · rw [List.take_zero, List.append_nil]
            ((repeat' (first|((conv => whnf);done)|((try conv => whnf);first|exact trivial|(refine And.intro ?_ ?_)|rfl|exact fun _ _ _ h=>h|exact fun _ _ _ _=>trivial)));(all_goals (try conv => whnf)))
          · ((repeat' ((conv => whnf);(first|refine zA ?_|(refine zI ?_ ?_<;> intro hh<;> first|(exfalso;omega)|skip)|(refine zl ?_ ?_<;> intro hh)|exact Sy.fin_val fun e=>rfl)));(all_goals (try conv => whnf)))
            · have hlt2 : p < (srcs (opsOf gl) m).length := by omega
              have hgp := List.getElem?_eq_getElem hlt2
              have htk := List.take_succ_eq_append_getElem hlt2
              have hlA := setI_len (A ++ (srcs (opsOf gl) m).take p)
              rw [List.length_append, List.length_take] at hlA
              have hstr := setI_strict (A ++ (srcs (opsOf gl) m).take p)
              generalize (srcs (opsOf gl) m)[p] = s at *
              refine Sy.el_map s hgp ?_
              ((repeat' ((conv => whnf);(first|refine zA ?_|(refine zI ?_ ?_<;> intro hh<;> first|(exfalso;omega)|skip)|(refine zl ?_ ?_<;> intro hh)|refine zq ?_|refine zv ?_|exact Sy.fin_val fun e=>rfl)));(all_goals (try conv => whnf)))
              have his := insL_set (A ++ (srcs (opsOf gl) m).take p) s
              rw [List.append_assoc, ← htk] at his
              generalize setI (A ++ (srcs (opsOf gl) m).take p) = Z at *
              refine Sy.call_r1 ⟨3, 1, (insL Z s).length, (insL Z s).map encI⟩ (fun j => .c (.row j)) Tryz.call117 (fun e a w' h => with_any (e.rv 4) Z s w' (Sy.row_reads h (.inl ⟨_, rfl⟩)) hstr (by omega)) ?_
              ((repeat' ((conv => whnf);(first|refine zA ?_|(refine zI ?_ ?_<;> intro hh<;> first|(exfalso;omega)|skip)|(refine zl ?_ ?_<;> intro hh)|refine zq ?_|refine zv ?_|exact Sy.fin_val fun e=>rfl)));(all_goals (try conv => whnf)))
              refine ⟨p + 1, by omega, by omega, ?_⟩
              rw [← his]
              ((repeat' (first|((conv => whnf);done)|((try conv => whnf);first|exact trivial|(refine And.intro ?_ ?_)|rfl|exact fun _ _ _ h=>h|exact fun _ _ _ _=>trivial)));(all_goals (try conv => whnf)))
            · have e : p = (srcs (opsOf gl) m).length := by omega
              subst e
              rw [List.take_length, ← hsr]
              refine ⟨n + 1, by omega, by omega, ?_⟩
              ((repeat' (first|((conv => whnf);done)|((try conv => whnf);first|exact trivial|(refine And.intro ?_ ?_)|rfl|exact fun _ _ _ h=>h|exact fun _ _ _ _=>trivial)));(all_goals (try conv => whnf)))
        · have e : n = o.op.ins.length := by omega
          subst e
          rw [List.take_length, hs]
          exact Sy.fin_r1 (.row 4) rfl
/-- Who reads operator i, of those below n. -/
def readsAt (g : List Opr) (i : Int) (k : Nat) : Bool := match g[k]? with
  | some o => decide (i ∈ o.ins)
  | none => false
def rdN (g : List Opr) (i : Int) (n : Nat) : List Int := List.map (fun k : Nat => (k : Int)) ((List.range n).filter (readsAt g i))
def rdrs (g : List Opr) (i : Int) : List Int := rdN g i g.length
theorem rdN_succ (g : List Opr) (i : Int) (n : Nat) {o : Opr} (h : g[n]? = some o) : rdN g i (n + 1) = rdN g i n ++ (if i ∈ o.ins then [(n : Int)] else []) := by
  unfold rdN
  rw [List.range_succ, List.filter_append, List.map_append]
  congr 1
  by_cases hi : i ∈ o.ins <;> simp [readsAt, h, hi]
theorem rdN_len (g : List Opr) (i : Int) (n : Nat) : (rdN g i n).length ≤ n := by
  unfold rdN
  rw [List.length_map]
  exact Nat.le_trans (List.length_filter_le _ _) (by rw [List.length_range]; omega)
attribute [local irreducible] rdN
set_option maxHeartbeats 1000000 in
theorem rreaders_any (v : Value) (gl : List OpV) (i : Int) (w : World) (hr : GOk (fun b => b < w.heap.size) w v gl) (hlen : gl.length ≤ 1000) :
    Calls Tryz.prog 91 #[.agg #[v], .int .i64 i] w (Sy.RetRows Sy.noRow (fun _ : Unit => True) (fun _ => [⟨3, 1, (rdrs (opsOf gl) i).length, (rdrs (opsOf gl) i).map encI⟩]) (fun _ vs => vs.headD undef) w) := by
  refine Sy.calls_of Sy.lv91 Sy.tab_ok Tryz.func91 rfl _ Tryz.ntmps91 [⟨v, 5, gl.length, gl.map encOV⟩] [.agg [.row 0], .c (.v (.int .i64 i))] rfl rfl rfl ⟨hr.1, trivial⟩ ?_
  ((repeat' ((conv => whnf);(first|refine zA ?_|(refine zI ?_ ?_<;> intro hh<;> first|(exfalso;omega)|skip)|(refine zl ?_ ?_<;> intro hh)|refine zq ?_|refine zv ?_|exact Sy.fin_val fun e=>rfl)));(all_goals (try conv => whnf)))
  refine Sy.sem_subF (Sy.sub_row 5 3 1 rfl) ?_
  conv => whnf
  refine Sy.loop_inv Sy.tab_ok (fun n : Nat => [(11, .c (.v (.int .i64 n))), (5, .c (.row 2))]) (fun n => [(2, .row 3 1 (rdN (opsOf gl) i n).length (.vs ((rdN (opsOf gl) i n).map encI)))]) (fun n => n ≤ gl.length) (fun n => gl.length - n) 0 (Nat.zero_le _) ?_ (fun n hn => ?_)
  · rw [show rdN (opsOf gl) i 0 = [] by unfold rdN; rfl]
    ((repeat' (first|((conv => whnf);done)|((try conv => whnf);first|exact trivial|(refine And.intro ?_ ?_)|rfl|exact fun _ _ _ h=>h|exact fun _ _ _ _=>trivial)));(all_goals (try conv => whnf)))
  · have hl := rdN_len (opsOf gl) i n
    ((repeat' ((conv => whnf);(first|refine zA ?_|(refine zI ?_ ?_<;> intro hh<;> first|(exfalso;omega)|skip)|(refine zl ?_ ?_<;> intro hh)|exact Sy.fin_val fun e=>rfl)));(all_goals (try conv => whnf)))
    · have hlt : n < gl.length := by omega
      have hg := List.getElem?_eq_getElem hlt
      generalize gl[n] = o at *
      have hs := rdN_succ (opsOf gl) i n (opsOf_get hg)
      refine Sy.el_map o hg ?_
      ((repeat' ((conv => whnf);(first|refine zA ?_|(refine zI ?_ ?_<;> intro hh<;> first|(exfalso;omega)|skip)|(refine zl ?_ ?_<;> intro hh)|refine zq ?_|refine zv ?_|exact Sy.fin_val fun e=>rfl)));(all_goals (try conv => whnf)))
      refine zu ?_
      ((repeat' ((conv => whnf);(first|refine zA ?_|(refine zI ?_ ?_<;> intro hh<;> first|(exfalso;omega)|skip)|(refine zl ?_ ?_<;> intro hh)|refine zq ?_|refine zv ?_|exact Sy.fin_val fun e=>rfl)));(all_goals (try conv => whnf)))
      refine Sy.call_val (.c (.v (.bool (decide (i ∈ o.op.ins))))) Tryz.call106 rfl (fun e a w' h => has_any o.iv o.op.ins i w' (Sy.later_in h (hr.at hg))) ?_
      ((repeat' ((conv => whnf);(first|refine zA ?_|(refine zI ?_ ?_<;> intro hh<;> first|(exfalso;omega)|skip)|(refine zl ?_ ?_<;> intro hh)|refine zq ?_|refine zv ?_|exact Sy.fin_val fun e=>rfl)));(all_goals (try conv => whnf)))
      · rw [if_pos (by assumption)] at hs
        refine Sy.need_app 8 rfl ⟨by omega, by omega⟩ ?_
        ((repeat' ((conv => whnf);(first|refine zA ?_|(refine zI ?_ ?_<;> intro hh<;> first|(exfalso;omega)|skip)|(refine zl ?_ ?_<;> intro hh)|refine zq ?_|refine zv ?_|exact Sy.fin_val fun e=>rfl)));(all_goals (try conv => whnf)))
        refine ⟨n + 1, by omega, by omega, ?_⟩
        rw [hs]
        ((repeat' (first|((conv => whnf);done)|((try conv => whnf);first|exact trivial|(refine And.intro ?_ ?_)|rfl|exact fun _ _ _ h=>h|exact fun _ _ _ _=>trivial)));(all_goals (try conv => whnf)))
        all_goals simp [encI]
      · rw [if_neg (by assumption), List.append_nil] at hs
        refine ⟨n + 1, by omega, by omega, ?_⟩
        rw [hs]
        ((repeat' (first|((conv => whnf);done)|((try conv => whnf);first|exact trivial|(refine And.intro ?_ ?_)|rfl|exact fun _ _ _ h=>h|exact fun _ _ _ _=>trivial)));(all_goals (try conv => whnf)))
    · have e : n = gl.length := by omega
      subst e
      rw [show rdN (opsOf gl) i gl.length = rdrs (opsOf gl) i by unfold rdrs; rw [opsOf_len]]
      exact Sy.fin_r1 (.row 2) rfl
/-- How many sources the inputs have, each by itself. -/
def insSum (g : List Opr) (l : List Int) : Nat := (srcRows g l).flatten.length
theorem insSum_succ (g : List Opr) (l : List Int) (n : Nat) (h : n < l.length) : insSum g (l.take (n + 1)) = insSum g (l.take n) + (srcs g l[n].toNat).length := by
  unfold insSum
  rw [srcRows_succ _ _ _ h, List.length_append]
attribute [local irreducible] insSum
set_option maxHeartbeats 1000000 in
theorem meets_any (v : Value) (gl : List OpV) (i : Nat) (o : OpV) (w : World) (hr : GOk (fun b => b < w.heap.size) w v gl) (hlen : gl.length ≤ 1000) (hgi : gl[i]? = some o) (hg : goodTo (opsOf gl) (i + 1)) :
    Calls Tryz.prog 105 #[.agg #[v], .int .i64 i] w (Sy.Ret (.bool (decide ((srcs (opsOf gl) i).length < insSum (opsOf gl) o.op.ins))) w) := by
  have hi := (List.getElem?_eq_some_iff.1 hgi).1
  have ha := hg i o.op (by omega) (opsOf_get hgi)
  have hins := alone_ins ha
  have hoo := hr.at hgi
  have hil : o.op.ins.length ≤ i := rises_len ha.2.2.1
  refine Sy.calls_of Sy.lv105 Sy.tab_ok Tryz.func105 rfl _ Tryz.ntmps105 [⟨v, 5, gl.length, gl.map encOV⟩] [.agg [.row 0], .c (.v (.int .i64 i))] rfl rfl rfl ⟨hr.1, trivial⟩ ?_
  ((repeat' ((conv => whnf);(first|refine zA ?_|(refine zI ?_ ?_<;> intro hh<;> first|(exfalso;omega)|skip)|(refine zl ?_ ?_<;> intro hh)|refine zq ?_|refine zv ?_|exact Sy.fin_val fun e=>rfl)));(all_goals (try conv => whnf)))
  refine Sy.el_map o hgi ?_
  ((repeat' ((conv => whnf);(first|refine zA ?_|(refine zI ?_ ?_<;> intro hh<;> first|(exfalso;omega)|skip)|(refine zl ?_ ?_<;> intro hh)|refine zq ?_|refine zv ?_|exact Sy.fin_val fun e=>rfl)));(all_goals (try conv => whnf)))
  refine open_x _ _ _ (hoo) (fun _ h => h) ?_
  ((repeat' ((conv => whnf);(first|refine zA ?_|(refine zI ?_ ?_<;> intro hh<;> first|(exfalso;omega)|skip)|(refine zl ?_ ?_<;> intro hh)|refine zq ?_|refine zv ?_|exact Sy.fin_val fun e=>rfl)));(all_goals (try conv => whnf)))
  refine Sy.loop_inv Sy.tab_ok (fun n : Nat => [(15, .c (.v (.int .i64 n))), (5, .c (.v (.int .i64 (insSum (opsOf gl) (o.op.ins.take n)))))]) (fun n => []) (fun n => n ≤ o.op.ins.length) (fun n => o.op.ins.length - n) 0 (Nat.zero_le _) ?_ (fun n hn => ?_)
  · rw [show insSum (opsOf gl) (o.op.ins.take 0) = 0 by unfold insSum; rfl]
    ((repeat' (first|((conv => whnf);done)|((try conv => whnf);first|exact trivial|(refine And.intro ?_ ?_)|rfl|exact fun _ _ _ h=>h|exact fun _ _ _ _=>trivial)));(all_goals (try conv => whnf)))
  · have hlr := srcRows_len (opsOf gl) (o.op.ins.take n)
    rw [List.length_take, show (srcRows (opsOf gl) (o.op.ins.take n)).flatten.length = insSum (opsOf gl) (o.op.ins.take n) by unfold insSum; rfl] at hlr
    ((repeat' ((conv => whnf);(first|refine zA ?_|(refine zI ?_ ?_<;> intro hh<;> first|(exfalso;omega)|skip)|(refine zl ?_ ?_<;> intro hh)|exact Sy.fin_val fun e=>rfl)));(all_goals (try conv => whnf)))
    · have hlt : n < o.op.ins.length := by omega
      have hgn := List.getElem?_eq_getElem hlt
      have hk := hins _ (List.getElem_mem hlt)
      have hsr := insSum_succ (opsOf gl) o.op.ins n hlt
      generalize o.op.ins[n] = k at *
      refine Sy.el_map k hgn ?_
      ((repeat' ((conv => whnf);(first|refine zA ?_|(refine zI ?_ ?_<;> intro hh<;> first|(exfalso;omega)|skip)|(refine zl ?_ ?_<;> intro hh)|refine zq ?_|refine zv ?_|exact Sy.fin_val fun e=>rfl)));(all_goals (try conv => whnf)))
      obtain ⟨m, rfl⟩ : ∃ m : Nat, k = (m : Int) := ⟨k.toNat, by omega⟩
      have hsl := srcs_len (opsOf gl) m
      rw [Int.toNat_natCast] at hsr
      refine Sy.call_r1 ⟨3, 1, (srcs (opsOf gl) m).length, (srcs (opsOf gl) m).map encI⟩ (fun j => .c (.row j)) Tryz.call112 (fun e a w' h => rsources_any m (e.rv 0) gl w' ⟨Sy.row_reads h (.inr rfl), fun o ho => Sy.later_in h (hr.2 o ho)⟩ hlen (by omega) (hg.mono (by omega))) ?_
      ((repeat' ((conv => whnf);(first|refine zA ?_|(refine zI ?_ ?_<;> intro hh<;> first|(exfalso;omega)|skip)|(refine zl ?_ ?_<;> intro hh)|refine zq ?_|refine zv ?_|exact Sy.fin_val fun e=>rfl)));(all_goals (try conv => whnf)))
      refine ⟨n + 1, by omega, by omega, ?_⟩
      rw [hsr, Int.natCast_add]
      ((repeat' (first|((conv => whnf);done)|((try conv => whnf);first|exact trivial|(refine And.intro ?_ ?_)|rfl|exact fun _ _ _ h=>h|exact fun _ _ _ _=>trivial)));(all_goals (try conv => whnf)))
    · have e : n = o.op.ins.length := by omega
      subst e
      rw [List.take_length] at *
      refine Sy.call_r1 ⟨3, 1, (srcs (opsOf gl) i).length, (srcs (opsOf gl) i).map encI⟩ (fun j => .c (.row j)) Tryz.call112 (fun e a w' h => rsources_any i (e.rv 0) gl w' ⟨Sy.row_reads h (.inr rfl), fun o ho => Sy.later_in h (hr.2 o ho)⟩ hlen hi hg) ?_
      ((repeat' ((conv => whnf);(first|refine zA ?_|(refine zI ?_ ?_<;> intro hh<;> first|(exfalso;omega)|skip)|(refine zl ?_ ?_<;> intro hh)|refine zq ?_|refine zv ?_|exact Sy.fin_val fun e=>rfl)));(all_goals (try conv => whnf)))
      exact Sy.fin_val (fun e => congrArg Value.bool (decide_eq_decide.2 Int.ofNat_lt))
end Go.Proofs.YtmahldelmbhjfaaGreat
