/- Snap: the document's Part. -/
import Derived.Test.YtmahldelmbhjfaaSnR
import Derived.Test.YtmahldelmbhjfaaSnE
namespace Go.Proofs.Ytmahldelmbhjfaa
open Go Go.RowKit
open Sy (C SV V1 Blk St XD Els)
set_option maxRecDepth 10000

attribute [local irreducible] ownW tblB namesB rightP
set_option maxHeartbeats 1000000 in
theorem rmine_any (s k v i n : Int) (w : World) (hrc : recP s k) (hsh : shareP i n) : Calls Try.prog 85 #[.agg #[.int .i64 s, .int .i64 k, .int .i64 v], .int .i64 i, .int .i64 n] w (Sy.Ret (.bool (decide (ownW (k % 8) n = i))) w) := by
  have hrc' := hrc
  have hsh' := hsh
  unfold recP at hrc'
  unfold shareP at hsh'
  have hm := mod8 hrc'.2.2.1
  refine Sy.calls_of Sy.lv85 Sy.tab_ok Try.func85 rfl _ Try.ntmps85 [] [.agg [.v (.int .i64 s), .v (.int .i64 k), .v (.int .i64 v)], .c (.v (.int .i64 i)), .c (.v (.int .i64 n))] rfl rfl rfl trivial ?_
  ((repeat' ((conv => whnf);(first|refine zA ?_|(refine zI ?_ ?_<;> intro hh<;> first|(exfalso;omega)|skip)|(refine zl ?_ ?_<;> intro hh)|refine zq ?_|refine zv ?_|refine zu ?_|exact Sy.fin_val fun e=>rfl)));(all_goals (try conv => whnf)))
  refine Sy.call_val (.c (.v (.bool true))) Try.call75 rfl (fun e a w' h => by have := rrec_any s k v w'; rw [decide_eq_true hrc] at this; exact this) ?_
  ((repeat' ((conv => whnf);(first|refine zA ?_|(refine zI ?_ ?_<;> intro hh<;> first|(exfalso;omega)|skip)|(refine zl ?_ ?_<;> intro hh)|refine zq ?_|refine zv ?_|refine zu ?_|exact Sy.fin_val fun e=>rfl)));(all_goals (try conv => whnf)))
  refine Sy.call_val (.c (.v (.bool true))) Try.call45 rfl (fun e a w' h => by have := rshare_any i n w'; rw [decide_eq_true hsh] at this; exact this) ?_
  ((repeat' ((conv => whnf);(first|refine zA ?_|(refine zI ?_ ?_<;> intro hh<;> first|(exfalso;omega)|skip)|(refine zl ?_ ?_<;> intro hh)|refine zq ?_|refine zv ?_|refine zu ?_|exact Sy.fin_val fun e=>rfl)));(all_goals (try conv => whnf)))
  refine Sy.call_val (.c (.v (.int .i64 (k % 8)))) Try.call39 rfl (fun e a w' h => rgroup_any k w' (by omega)) ?_
  ((repeat' ((conv => whnf);(first|refine zA ?_|(refine zI ?_ ?_<;> intro hh<;> first|(exfalso;omega)|skip)|(refine zl ?_ ?_<;> intro hh)|refine zq ?_|refine zv ?_|refine zu ?_|exact Sy.fin_val fun e=>rfl)));(all_goals (try conv => whnf)))
  refine Sy.call_val (.c (.v (.int .i64 (ownW (k % 8) n)))) Try.call80 rfl (fun e a w' h => rowner_any (k % 8) n w' hm (by omega)) ?_
  by_cases h : ownW (k % 8) n = i
  · rw [decide_eq_true h]
    ((repeat' ((conv => whnf);(first|refine zA ?_|(refine zI ?_ ?_<;> intro hh<;> first|(exfalso;omega)|skip)|(refine zl ?_ ?_<;> intro hh)|refine zq ?_|refine zv ?_|refine zu ?_|exact Sy.fin_val fun e=>rfl)));(all_goals (try conv => whnf)))
    exact Sy.fin_val (fun e => congrArg Value.bool (beq_iff_eq.2 h))
  · rw [decide_eq_false h]
    ((repeat' ((conv => whnf);(first|refine zA ?_|(refine zI ?_ ?_<;> intro hh<;> first|(exfalso;omega)|skip)|(refine zl ?_ ?_<;> intro hh)|refine zq ?_|refine zv ?_|refine zu ?_|exact Sy.fin_val fun e=>rfl)));(all_goals (try conv => whnf)))
    exact Sy.fin_val (fun e => congrArg Value.bool (beq_eq_false_iff_ne.2 h))
set_option maxHeartbeats 4000000 in
theorem rtpart_any (v : Value) (l : List Kc) (i n : Int) (w : World) (hr : XD.ok (fun b => b < w.heap.size) w ⟨v, 4, l.length, l.map encK⟩) (hl : tblB l = true) (hsh : shareP i n) :
    Calls Try.prog 46 #[.agg #[v], .int .i64 i, .int .i64 n] w (Sy.RetRows Sy.noRow (fun _ : Unit => True) (fun _ => [⟨73, 4, (partR l i n).length, (partR l i n).map encK⟩]) (fun _ vs => .tuple #[.agg #[vs.headD undef], .int .i64 0]) w) := by
  have hln := rows_len (tbl_rows hl)
  refine Sy.calls_of Sy.lv46 Sy.tab_ok Try.func46 rfl _ Try.ntmps46 [⟨v, 4, l.length, l.map encK⟩] [.agg [.row 0], .c (.v (.int .i64 i)), .c (.v (.int .i64 n))] rfl rfl rfl ⟨hr, trivial⟩ ?_
  ((repeat' ((conv => whnf);(first|refine zA ?_|(refine zI ?_ ?_<;> intro hh<;> first|(exfalso;omega)|skip)|(refine zl ?_ ?_<;> intro hh)|refine zq ?_|refine zv ?_|refine zu ?_|exact Sy.fin_val fun e=>rfl)));(all_goals (try conv => whnf)))
  refine Sy.call_val (.c (.v (.bool true))) Try.call36 rfl (fun e a w' h => by have := rtbl_any (e.rv 0) l w' (Sy.row_reads h (.inr rfl)); rw [hl] at this; exact this) ?_
  ((repeat' ((conv => whnf);(first|refine zA ?_|(refine zI ?_ ?_<;> intro hh<;> first|(exfalso;omega)|skip)|(refine zl ?_ ?_<;> intro hh)|refine zq ?_|refine zv ?_|refine zu ?_|exact Sy.fin_val fun e=>rfl)));(all_goals (try conv => whnf)))
  refine Sy.call_val (.c (.v (.bool true))) Try.call45 rfl (fun e a w' h => by have := rshare_any i n w'; rw [decide_eq_true hsh] at this; exact this) ?_
  ((repeat' ((conv => whnf);(first|refine zA ?_|(refine zI ?_ ?_<;> intro hh<;> first|(exfalso;omega)|skip)|(refine zl ?_ ?_<;> intro hh)|refine zq ?_|refine zv ?_|refine zu ?_|exact Sy.fin_val fun e=>rfl)));(all_goals (try conv => whnf)))
  refine Sy.sem_subF (Sy.sub_rowc 3 0 73 4 rfl rfl) ?_
  conv => whnf
  refine Sy.loop_inv Sy.tab_ok (fun k : Nat => [(25, .c (.v (.int .i64 k)))]) (fun k => [(3, .cells 28 [.row 4]), (4, .row 73 4 (partR (l.take k) i n).length (.vs ((partR (l.take k) i n).map encK)))]) (fun k => k ≤ l.length) (fun k => l.length - k) 0 (Nat.zero_le _) ?_ (fun k hk => ?_)
  · rw [show partR (l.take 0) i n = [] from rfl]
    ((repeat' (first|((conv => whnf);done)|((try conv => whnf);first|exact trivial|(refine And.intro ?_ ?_)|rfl|exact fun _ _ _ h=>h|exact fun _ _ _ _=>trivial)));(all_goals (try conv => whnf)))
  · have hpl := partR_len (l.take k) i n
    rw [List.length_take] at hpl
    by_cases hlt : k < l.length
    · have hg := List.getElem?_eq_getElem hlt
      have hxm := List.getElem_mem hlt
      have hs := partR_succ i n hg
      generalize l[k] = x at *
      have hrc := tbl_rec hl hxm
      ((repeat' ((conv => whnf);(first|refine zA ?_|(refine zI ?_ ?_<;> intro hh<;> first|(exfalso;omega)|skip)|(refine zl ?_ ?_<;> intro hh)|refine zq ?_|refine zv ?_|refine zu ?_|exact Sy.fin_val fun e=>rfl)));(all_goals (try conv => whnf)))
      refine Sy.el_map x hg ?_
      ((repeat' ((conv => whnf);(first|refine zA ?_|(refine zI ?_ ?_<;> intro hh<;> first|(exfalso;omega)|skip)|(refine zl ?_ ?_<;> intro hh)|refine zq ?_|refine zv ?_|refine zu ?_|exact Sy.fin_val fun e=>rfl)));(all_goals (try conv => whnf)))
      refine Sy.call_val (.agg [.v (.int .i64 x.src), .v (.int .i64 x.key), .v (.int .i64 0)]) Try.call76 rfl (fun e a w' h => rkey_any x w') ?_
      ((repeat' ((conv => whnf);(first|refine zA ?_|(refine zI ?_ ?_<;> intro hh<;> first|(exfalso;omega)|skip)|(refine zl ?_ ?_<;> intro hh)|refine zq ?_|refine zv ?_|refine zu ?_|exact Sy.fin_val fun e=>rfl)));(all_goals (try conv => whnf)))
      refine Sy.call_val (.c (.v (.bool (decide (ownW (x.key % 8) n = i))))) Try.call85 rfl (fun e a w' h => rmine_any x.src x.key 0 i n w' hrc hsh) ?_
      by_cases ho : ownW (x.key % 8) n = i
      · rw [if_pos ho] at hs
        rw [decide_eq_true ho]
        ((repeat' ((conv => whnf);(first|refine zA ?_|(refine zI ?_ ?_<;> intro hh<;> first|(exfalso;omega)|skip)|(refine zl ?_ ?_<;> intro hh)|refine zq ?_|refine zv ?_|refine zu ?_|exact Sy.fin_val fun e=>rfl)));(all_goals (try conv => whnf)))
        refine Sy.need_app 32 rfl ⟨by omega, by omega⟩ ?_
        ((repeat' ((conv => whnf);(first|refine zA ?_|(refine zI ?_ ?_<;> intro hh<;> first|(exfalso;omega)|skip)|(refine zl ?_ ?_<;> intro hh)|refine zq ?_|refine zv ?_|refine zu ?_|exact Sy.fin_val fun e=>rfl)));(all_goals (try conv => whnf)))
        refine ⟨k + 1, by omega, by omega, ?_⟩
        rw [hs]
        ((repeat' (first|((conv => whnf);done)|((try conv => whnf);first|exact trivial|(refine And.intro ?_ ?_)|rfl|exact fun _ _ _ h=>h|exact fun _ _ _ _=>trivial)));(all_goals (try conv => whnf)))
        all_goals simp [encK]
      · rw [if_neg ho, List.append_nil] at hs
        rw [decide_eq_false ho]
        ((repeat' ((conv => whnf);(first|refine zA ?_|(refine zI ?_ ?_<;> intro hh<;> first|(exfalso;omega)|skip)|(refine zl ?_ ?_<;> intro hh)|refine zq ?_|refine zv ?_|refine zu ?_|exact Sy.fin_val fun e=>rfl)));(all_goals (try conv => whnf)))
        refine ⟨k + 1, by omega, by omega, ?_⟩
        rw [hs]
        ((repeat' (first|((conv => whnf);done)|((try conv => whnf);first|exact trivial|(refine And.intro ?_ ?_)|rfl|exact fun _ _ _ h=>h|exact fun _ _ _ _=>trivial)));(all_goals (try conv => whnf)))
    · have e : k = l.length := by omega
      subst e
      rw [List.take_length]
      ((repeat' ((conv => whnf);(first|refine zA ?_|(refine zI ?_ ?_<;> intro hh<;> first|(exfalso;omega)|skip)|(refine zl ?_ ?_<;> intro hh)|refine zq ?_|refine zv ?_|refine zu ?_|exact Sy.fin_val fun e=>rfl)));(all_goals (try conv => whnf)))
      exact Sy.fin_r1 (.row 4) rfl (fun e => rfl)
end Go.Proofs.Ytmahldelmbhjfaa
