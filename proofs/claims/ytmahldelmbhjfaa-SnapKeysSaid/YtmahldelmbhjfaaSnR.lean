/- Snap: the part of a whole. -/
import Derived.Test.YtmahldelmbhjfaaSnL
namespace Go.Proofs.Ytmahldelmbhjfaa
open Go Go.RowKit
open Sy (C SV V1 Blk St XD Els)
set_option maxRecDepth 10000

/-- The rows of a share. -/
def partR (l : List Kc) (i n : Int) : List Kc := l.filter fun x => decide (ownW (x.key % 8) n = i)
def partS (s : Sn) (i n : Int) : Sn := ⟨s.op, i, n, s.fin, partR s.rows i n, fun g => if ownW (g.val : Int) n = i then s.offs g else 0, []⟩
def partE (s : Sn) (i n : Int) : Int := if rightP s then (if s.wid = 1 then (if shareP i n then 0 else 2) else 281) else 280
def partV (s : Sn) (i n : Int) : Sn := if partE s i n = 0 then partS s i n else sn0
/-- A snapshot that comes back with one slice: it has no names. -/
def retP (s : Sn) (vs : List Value) : Value := .agg #[.int .i64 s.op, .int .i64 s.idx, .int .i64 s.wid, .bool s.fin, vs.headD undef, .int .i64 (s.offs 0), .int .i64 (s.offs 1), .int .i64 (s.offs 2), .int .i64 (s.offs 3), .int .i64 (s.offs 4), .int .i64 (s.offs 5), .int .i64 (s.offs 6), .int .i64 (s.offs 7), .slice none 0 0]
theorem partR_succ {l : List Kc} {k : Nat} {x : Kc} (i n : Int) (h : l[k]? = some x) : partR (l.take (k + 1)) i n = partR (l.take k) i n ++ (if ownW (x.key % 8) n = i then [x] else []) := by
  obtain ⟨hk, he⟩ := List.getElem?_eq_some_iff.1 h
  unfold partR
  rw [List.take_succ_eq_append_getElem hk, he, List.filter_append]
  congr 1
  by_cases h2 : ownW (x.key % 8) n = i
  · rw [if_pos h2]; simp [h2]
  · rw [if_neg h2]; simp [h2]
theorem partR_len (l : List Kc) (i n : Int) : (partR l i n).length ≤ l.length := List.length_filter_le _ _
attribute [local irreducible] ownW tblB namesB rightP
set_option maxHeartbeats 4000000 in
theorem tpart_any (v : Value) (l : List Kc) (i n : Int) (w : World) (hr : XD.ok (fun b => b < w.heap.size) w ⟨v, 4, l.length, l.map encK⟩) (hl : tblB l = true) (hsh : shareP i n) :
    Calls Try.prog 84 #[.agg #[v], .int .i64 i, .int .i64 n] w (Sy.RetRows Sy.noRow (fun _ : Unit => True) (fun _ => [⟨73, 4, (partR l i n).length, (partR l i n).map encK⟩]) (fun _ vs => .tuple #[.agg #[vs.headD undef], .int .i64 0]) w) := by
  have hln := rows_len (tbl_rows hl)
  refine Sy.calls_of Sy.lv84 Sy.tab_ok Try.func84 rfl _ Try.ntmps84 [⟨v, 4, l.length, l.map encK⟩] [.agg [.row 0], .c (.v (.int .i64 i)), .c (.v (.int .i64 n))] rfl rfl rfl ⟨hr, trivial⟩ ?_
  ((repeat' ((conv => whnf);(first|refine zA ?_|(refine zI ?_ ?_<;> intro hh<;> first|(exfalso;omega)|skip)|(refine zl ?_ ?_<;> intro hh)|refine zq ?_|refine zv ?_|refine zu ?_|exact Sy.fin_val fun e=>rfl)));(all_goals (try conv => whnf)))
  refine Sy.call_val (.c (.v (.int .i64 0))) Try.call72 rfl (fun e a w' h => by have := tbl_any (e.rv 0) l w' (Sy.row_reads h (.inr rfl)); rw [if_pos hl] at this; exact this) ?_
  ((repeat' ((conv => whnf);(first|refine zA ?_|(refine zI ?_ ?_<;> intro hh<;> first|(exfalso;omega)|skip)|(refine zl ?_ ?_<;> intro hh)|refine zq ?_|refine zv ?_|refine zu ?_|exact Sy.fin_val fun e=>rfl)));(all_goals (try conv => whnf)))
  refine Sy.call_r1 ⟨3, 1, (ownF i n).length, (ownF i n).map encI⟩ (fun j => .tup [.c (.row j), .c (.v (.int .i64 (ownE i n)))]) Try.call43 (fun e a w' h => owned_any i n w') ?_
  rw [show ownE i n = 0 from if_pos hsh]
  ((repeat' ((conv => whnf);(first|refine zA ?_|(refine zI ?_ ?_<;> intro hh<;> first|(exfalso;omega)|skip)|(refine zl ?_ ?_<;> intro hh)|refine zq ?_|refine zv ?_|refine zu ?_|exact Sy.fin_val fun e=>rfl)));(all_goals (try conv => whnf)))
  refine Sy.call_in Sy.lv108 Sy.tab_ok Try.func108 rfl _ Try.ntmps108 Try.call108 rfl (fun _ => ?_)
  ((repeat' ((conv => whnf);(first|refine zA ?_|(refine zI ?_ ?_<;> intro hh<;> first|(exfalso;omega)|skip)|(refine zl ?_ ?_<;> intro hh)|refine zq ?_|refine zv ?_|refine zu ?_|exact Sy.fin_val fun e=>rfl)));(all_goals (try conv => whnf)))
  refine Sy.call_in Sy.lv107 Sy.tab_ok Try.func107 rfl _ Try.ntmps107 Try.call107 rfl (fun _ => ?_)
  ((repeat' ((conv => whnf);(first|refine zA ?_|(refine zI ?_ ?_<;> intro hh<;> first|(exfalso;omega)|skip)|(refine zl ?_ ?_<;> intro hh)|refine zq ?_|refine zv ?_|refine zu ?_|exact Sy.fin_val fun e=>rfl)));(all_goals (try conv => whnf)))
  refine Sy.sem_subF (Sy.sub_rowc 8 0 73 4 rfl rfl) ?_
  conv => whnf
  refine Sy.sem_range Sy.lv120 Sy.tab_ok _ rfl rfl Try.func120 rfl Try.ntmps120 Try.call120 rfl (fun _ _ => ?_)
  ((repeat' ((conv => whnf);(first|refine zA ?_|(refine zI ?_ ?_<;> intro hh<;> first|(exfalso;omega)|skip)|(refine zl ?_ ?_<;> intro hh)|refine zq ?_|refine zv ?_|refine zu ?_|exact Sy.fin_val fun e=>rfl)));(all_goals (try conv => whnf)))
  refine Sy.loop_inv Sy.tab_ok (fun k : Nat => [(10, .c (.v (.int .i64 k)))]) (fun k => [(8, .cells 26 [.row 9]), (9, .row 73 4 (partR (l.take k) i n).length (.vs ((partR (l.take k) i n).map encK)))]) (fun k => k ≤ l.length) (fun k => l.length - k) 0 (Nat.zero_le _) ?_ (fun k hk => ?_)
  · rw [show partR (l.take 0) i n = [] from rfl]
    ((repeat' (first|((conv => whnf);done)|((try conv => whnf);first|exact trivial|(refine And.intro ?_ ?_)|rfl|exact fun _ _ _ h=>h|exact fun _ _ _ _=>trivial)));(all_goals (try conv => whnf)))
  · have hpl := partR_len (l.take k) i n
    rw [List.length_take] at hpl
    by_cases hlt : k < l.length
    · have hg := List.getElem?_eq_getElem hlt
      have hxm := List.getElem_mem hlt
      have hs := partR_succ i n hg
      generalize l[k] = x at *
      have hrc := tbl_rec hl hxm
      ((repeat' ((conv => whnf);(first|refine zA ?_|(refine zI ?_ ?_<;> intro hh<;> first|(exfalso;omega)|skip)|(refine zl ?_ ?_<;> intro hh)|refine zq ?_|refine zv ?_|refine zu ?_|exact Sy.fin_val fun e=>rfl)));(all_goals (try conv => whnf)))
      refine Sy.el_map x hg ?_
      ((repeat' ((conv => whnf);(first|refine zA ?_|(refine zI ?_ ?_<;> intro hh<;> first|(exfalso;omega)|skip)|(refine zl ?_ ?_<;> intro hh)|refine zq ?_|refine zv ?_|refine zu ?_|exact Sy.fin_val fun e=>rfl)));(all_goals (try conv => whnf)))
      by_cases ho : ownW (x.key % 8) n = i
      · rw [if_pos ho] at hs
        have hb : decide (mineP x.src x.key i n) = true := decide_eq_true ⟨hrc, hsh, ho⟩
        refine Sy.draw_go [8,9,10] (by kernel_rfl) ?_
        intro e0
        conv => whnf
        refine zt 0 rfl ?_
        conv => whnf
        refine zt 2 rfl ?_
        conv => whnf
        refine zt 3 rfl ?_
        conv => whnf
        refine zd1 [1] (zx rfl ?_ zy)
        conv => whnf
        refine Sy.call_val (.agg [.v (.int .i64 x.src), .v (.int .i64 x.key), .v (.int .i64 0)]) Try.call57 rfl (fun e a w' h => key_any x w') ?_
        conv => whnf
        refine ⟨(by repeat' ((conv => whnf);first|exact trivial|(refine And.intro ?_ ?_)|rfl)), ?_⟩
        refine zd1 [4] (zx rfl ?_ zy)
        conv => whnf
        refine Sy.call_val (.c (.v (.bool true))) Try.call26 rfl (fun e a w' h => by have := mine_any x.src x.key 0 i n w'; rw [hb] at this; exact this) ?_
        conv => whnf
        refine ⟨(by repeat' ((conv => whnf);first|exact trivial|(refine And.intro ?_ ?_)|rfl)), ?_⟩
        refine zt 5 rfl ?_
        conv => whnf
        refine zt 6 rfl ?_
        (conv => whnf);(repeat' ((first|refine zA ?_|(refine zI ?_ ?_<;> intro hh<;> first|(exfalso;omega)|skip)|(refine zl ?_ ?_<;> intro hh)|refine zq ?_|refine zv ?_|refine zu ?_|exact Sy.fin_val fun e=>rfl);(try conv => whnf)))
        refine zt 7 rfl ?_
        (conv => whnf);(repeat' ((first|refine zA ?_|(refine zI ?_ ?_<;> intro hh<;> first|(exfalso;omega)|skip)|(refine zl ?_ ?_<;> intro hh)|refine zq ?_|refine zv ?_|refine zu ?_|exact Sy.fin_val fun e=>rfl);(try conv => whnf)))
        refine zd1 [8] (zx rfl ?_ zy)
        conv => whnf
        (try (refine zA ?_;conv => whnf))
        refine Sy.yield_in Sy.tab_ok rfl rfl rfl rfl rfl (fun _ => ?_)
        ((repeat' ((conv => whnf);(first|refine zA ?_|(refine zI ?_ ?_<;> intro hh<;> first|(exfalso;omega)|skip)|(refine zl ?_ ?_<;> intro hh)|refine zq ?_|refine zv ?_|refine zu ?_|exact Sy.fin_val fun e=>rfl)));(all_goals (try conv => whnf)))
        refine Sy.need_app 32 rfl ⟨by omega, by omega⟩ ?_
        conv => whnf
        refine ⟨(by repeat' ((conv => whnf);first|exact trivial|(refine And.intro ?_ ?_)|rfl)), ?_⟩
        refine zt 9 rfl ?_
        (conv => whnf);(repeat' ((first|refine zA ?_|(refine zI ?_ ?_<;> intro hh<;> first|(exfalso;omega)|skip)|(refine zl ?_ ?_<;> intro hh)|refine zq ?_|refine zv ?_|refine zu ?_|exact Sy.fin_val fun e=>rfl);(try conv => whnf)))
        refine zt 10 rfl ?_
        (conv => whnf);(repeat' ((first|refine zA ?_|(refine zI ?_ ?_<;> intro hh<;> first|(exfalso;omega)|skip)|(refine zl ?_ ?_<;> intro hh)|refine zq ?_|refine zv ?_|refine zu ?_|exact Sy.fin_val fun e=>rfl);(try conv => whnf)))
        refine zw ?_
        skip
        all_goals (((repeat' ((conv => whnf);(first|refine zA ?_|(refine zI ?_ ?_<;> intro hh<;> first|(exfalso;omega)|skip)|(refine zl ?_ ?_<;> intro hh)|refine zq ?_|refine zv ?_|refine zu ?_|exact Sy.fin_val fun e=>rfl)));(all_goals (try conv => whnf))))
        all_goals (refine ⟨k + 1, by omega, by omega, ?_⟩)
        all_goals (rw [hs])
        all_goals (((repeat' (first|((conv => whnf);done)|((try conv => whnf);first|exact trivial|(refine And.intro ?_ ?_)|rfl|exact fun _ _ _ h=>h|exact fun _ _ _ _=>trivial)));(all_goals (try conv => whnf))))
        all_goals simp [encK]
      · rw [if_neg ho, List.append_nil] at hs
        have hb : decide (mineP x.src x.key i n) = false := decide_eq_false fun h => ho h.2.2
        refine Sy.draw_go [] (by kernel_rfl) ?_
        intro e0
        conv => whnf
        refine zt 0 rfl ?_
        conv => whnf
        refine zt 2 rfl ?_
        conv => whnf
        refine zt 3 rfl ?_
        conv => whnf
        refine zd1 [1] (zx rfl ?_ zy)
        conv => whnf
        refine Sy.call_val (.agg [.v (.int .i64 x.src), .v (.int .i64 x.key), .v (.int .i64 0)]) Try.call57 rfl (fun e a w' h => key_any x w') ?_
        conv => whnf
        refine ⟨(by repeat' ((conv => whnf);first|exact trivial|(refine And.intro ?_ ?_)|rfl)), ?_⟩
        refine zd1 [4] (zx rfl ?_ zy)
        conv => whnf
        refine Sy.call_val (.c (.v (.bool false))) Try.call26 rfl (fun e a w' h => by have := mine_any x.src x.key 0 i n w'; rw [hb] at this; exact this) ?_
        conv => whnf
        refine ⟨(by repeat' ((conv => whnf);first|exact trivial|(refine And.intro ?_ ?_)|rfl)), ?_⟩
        refine zt 5 rfl ?_
        conv => whnf
        refine zt 6 rfl ?_
        (conv => whnf);(repeat' ((first|refine zA ?_|(refine zI ?_ ?_<;> intro hh<;> first|(exfalso;omega)|skip)|(refine zl ?_ ?_<;> intro hh)|refine zq ?_|refine zv ?_|refine zu ?_|exact Sy.fin_val fun e=>rfl);(try conv => whnf)))
        refine zt 7 rfl ?_
        (conv => whnf);(repeat' ((first|refine zA ?_|(refine zI ?_ ?_<;> intro hh<;> first|(exfalso;omega)|skip)|(refine zl ?_ ?_<;> intro hh)|refine zq ?_|refine zv ?_|refine zu ?_|exact Sy.fin_val fun e=>rfl);(try conv => whnf)))
        refine zd1 [8] (zx rfl ?_ zy)
        conv => whnf
        (try (refine zA ?_;conv => whnf))
        refine ⟨(by repeat' ((conv => whnf);first|exact trivial|(refine And.intro ?_ ?_)|rfl)), ?_⟩
        refine zt 9 rfl ?_
        (conv => whnf);(repeat' ((first|refine zA ?_|(refine zI ?_ ?_<;> intro hh<;> first|(exfalso;omega)|skip)|(refine zl ?_ ?_<;> intro hh)|refine zq ?_|refine zv ?_|refine zu ?_|exact Sy.fin_val fun e=>rfl);(try conv => whnf)))
        refine zt 10 rfl ?_
        (conv => whnf);(repeat' ((first|refine zA ?_|(refine zI ?_ ?_<;> intro hh<;> first|(exfalso;omega)|skip)|(refine zl ?_ ?_<;> intro hh)|refine zq ?_|refine zv ?_|refine zu ?_|exact Sy.fin_val fun e=>rfl);(try conv => whnf)))
        refine zw ?_
        skip
        all_goals (((repeat' ((conv => whnf);(first|refine zA ?_|(refine zI ?_ ?_<;> intro hh<;> first|(exfalso;omega)|skip)|(refine zl ?_ ?_<;> intro hh)|refine zq ?_|refine zv ?_|refine zu ?_|exact Sy.fin_val fun e=>rfl)));(all_goals (try conv => whnf))))
        all_goals (refine ⟨k + 1, by omega, by omega, ?_⟩)
        all_goals (rw [hs])
        all_goals (((repeat' (first|((conv => whnf);done)|((try conv => whnf);first|exact trivial|(refine And.intro ?_ ?_)|rfl|exact fun _ _ _ h=>h|exact fun _ _ _ _=>trivial)));(all_goals (try conv => whnf))))
    · have e : k = l.length := by omega
      subst e
      rw [List.take_length]
      ((repeat' ((conv => whnf);(first|refine zA ?_|(refine zI ?_ ?_<;> intro hh<;> first|(exfalso;omega)|skip)|(refine zl ?_ ?_<;> intro hh)|refine zq ?_|refine zv ?_|refine zu ?_|exact Sy.fin_val fun e=>rfl)));(all_goals (try conv => whnf)))
      exact Sy.fin_r1 (.row 9) rfl (fun e => rfl)
end Go.Proofs.Ytmahldelmbhjfaa
