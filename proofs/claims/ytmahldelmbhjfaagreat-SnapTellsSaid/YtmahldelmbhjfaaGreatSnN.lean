/- Snap: a table's bytes. -/
import Derived.Test.YtmahldelmbhjfaaGreatSnM
import Derived.Test.YtmahldelmbhjfaaGreatSnJ
namespace Go.Proofs.YtmahldelmbhjfaaGreat.Sn
open Go Go.RowKit
open Sy (C SV V1 Blk St XD Els)
set_option maxRecDepth 10000

def u64w (x : Int) : Int := IntKind.u64.wrap x
/-- A row's bytes. -/
def kBs (x : Kc) : List Int := [b8 x.src, b8 x.key] ++ beN (u64w x.cnt) 8 ++ beN (u64w x.sum) 8
/-- A table's bytes, as far as its first n rows. -/
def tN (l : List Kc) (n : Nat) : List Int := beN l.length 2 ++ ((l.take n).map kBs).flatten
def tBs (l : List Kc) : List Int := tN l l.length
theorem kBs_len (x : Kc) : (kBs x).length = 18 := by
  unfold kBs
  simp only [List.length_append, beN_len, List.length_cons, List.length_nil]
theorem tN_succ {l : List Kc} {n : Nat} {x : Kc} (h : l[n]? = some x) : tN l (n + 1) = tN l n ++ kBs x := by
  obtain ⟨hn, he⟩ := List.getElem?_eq_some_iff.1 h
  unfold tN
  rw [List.take_succ_eq_append_getElem hn, he, List.map_append, List.flatten_append]
  simp
theorem tN_len (l : List Kc) : ∀ n, n ≤ l.length → (tN l n).length = 2 + 18 * n
  | 0, _ => by simp [tN, beN_len]
  | n + 1, h => by
    rw [tN_succ (List.getElem?_eq_getElem (show n < l.length by omega)), List.length_append, tN_len l n (by omega), kBs_len]; omega
set_option maxHeartbeats 4000000 in
theorem tenc_any (v : Value) (l : List Kc) (w : World) (hr : XD.ok (fun b => b < w.heap.size) w ⟨v, 4, l.length, l.map encK⟩) (hl : tblB l = true) :
    Calls Tryz.prog 42 #[.agg #[v]] w (Sy.RetRows Sy.noRow (fun _ : Unit => True) (fun _ => [⟨5, 1, (tBs l).length, (tBs l).map encB⟩]) (fun _ vs => .tuple #[vs.headD undef, .int .i64 0]) w) := by
  have hln := rows_len (tbl_rows hl)
  refine Sy.calls_of Sy.lv42 Sy.tab_ok Tryz.func42 rfl _ Tryz.ntmps42 [⟨v, 4, l.length, l.map encK⟩] [.agg [.row 0]] rfl rfl rfl ⟨hr, trivial⟩ ?_
  ((repeat' ((conv => whnf);(first|refine zA ?_|(refine zI ?_ ?_<;> intro hh<;> first|(exfalso;omega)|skip)|(refine zl ?_ ?_<;> intro hh)|refine zq ?_|refine zv ?_|refine zu ?_|exact Sy.fin_val fun e=>rfl)));(all_goals (try conv => whnf)))
  refine Sy.call_val (.c (.v (.int .i64 0))) Tryz.call23 rfl (fun e a w' h => by have := tbl_any (e.rv 0) l w' (Sy.row_reads h (.inr rfl)); rw [if_pos hl] at this; exact this) ?_
  ((repeat' ((conv => whnf);(first|refine zA ?_|(refine zI ?_ ?_<;> intro hh<;> first|(exfalso;omega)|skip)|(refine zl ?_ ?_<;> intro hh)|refine zq ?_|refine zv ?_|refine zu ?_|exact Sy.fin_val fun e=>rfl)));(all_goals (try conv => whnf)))
  refine Sy.ar_wrap ?_
  rw [show IntKind.u16.wrap (l.length : Int) = (l.length : Int) by rw [IntKind.wrap_u16]; omega]
  ((repeat' ((conv => whnf);(first|refine zA ?_|(refine zI ?_ ?_<;> intro hh<;> first|(exfalso;omega)|skip)|(refine zl ?_ ?_<;> intro hh)|refine zq ?_|refine zv ?_|refine zu ?_|exact Sy.fin_val fun e=>rfl)));(all_goals (try conv => whnf)))
  refine Sy.call_r1 ⟨5, 1, (tN l 0).length, (tN l 0).map encB⟩ (fun j => .c (.row j)) Tryz.call73 (fun e a w' h => by
    have := put16_any (.slice none 0 0) [] l.length w' nil_ok (by decide) ⟨by omega, by omega⟩
    rw [show tN l 0 = [] ++ beN l.length 2 by simp [tN]]
    exact this) ?_
  ((repeat' ((conv => whnf);(first|refine zA ?_|(refine zI ?_ ?_<;> intro hh<;> first|(exfalso;omega)|skip)|(refine zl ?_ ?_<;> intro hh)|refine zq ?_|refine zv ?_|refine zu ?_|exact Sy.fin_val fun e=>rfl)));(all_goals (try conv => whnf)))
  refine Sy.loop_inv Sy.tab_ok (fun n : Nat => [(21, .c (.v (.int .i64 n))), (5, .c (.row 2))]) (fun n => [(2, .row 5 1 (tN l n).length (.vs ((tN l n).map encB)))]) (fun n => n ≤ l.length) (fun n => l.length - n) 0 (Nat.zero_le _) ?_ (fun n hn => ?_)
  · ((repeat' (first|((conv => whnf);done)|((try conv => whnf);first|exact trivial|(refine And.intro ?_ ?_)|rfl|exact fun _ _ _ h=>h|exact fun _ _ _ _=>trivial)));(all_goals (try conv => whnf)))
  · have hgl := tN_len l n hn
    by_cases hlt : n < l.length
    · have hg := List.getElem?_eq_getElem hlt
      generalize l[n] = x at *
      have hs := tN_succ hg
      have hb1 := beN_len (u64w x.cnt) 8
      have hb2 := beN_len (u64w x.sum) 8
      generalize tN l n = G at *
      ((repeat' ((conv => whnf);(first|refine zA ?_|(refine zI ?_ ?_<;> intro hh<;> first|(exfalso;omega)|skip)|(refine zl ?_ ?_<;> intro hh)|refine zq ?_|refine zv ?_|refine zu ?_|exact Sy.fin_val fun e=>rfl)));(all_goals (try conv => whnf)))
      refine Sy.el_map x hg ?_
      ((repeat' ((conv => whnf);(first|refine zA ?_|(refine zI ?_ ?_<;> intro hh<;> first|(exfalso;omega)|skip)|(refine zl ?_ ?_<;> intro hh)|refine zq ?_|refine zv ?_|refine zu ?_|exact Sy.fin_val fun e=>rfl)));(all_goals (try conv => whnf)))
      refine Sy.ar_wrap ?_
      ((repeat' ((conv => whnf);(first|refine zA ?_|(refine zI ?_ ?_<;> intro hh<;> first|(exfalso;omega)|skip)|(refine zl ?_ ?_<;> intro hh)|refine zq ?_|refine zv ?_|refine zu ?_|exact Sy.fin_val fun e=>rfl)));(all_goals (try conv => whnf)))
      refine Sy.ar_wrap ?_
      ((repeat' ((conv => whnf);(first|refine zA ?_|(refine zI ?_ ?_<;> intro hh<;> first|(exfalso;omega)|skip)|(refine zl ?_ ?_<;> intro hh)|refine zq ?_|refine zv ?_|refine zu ?_|exact Sy.fin_val fun e=>rfl)));(all_goals (try conv => whnf)))
      refine Sy.need_app 1 rfl ⟨by omega, by omega⟩ ?_
      have eB : List.map encB G ++ [[.int .u8 (IntKind.u8.wrap x.src)], [.int .u8 (IntKind.u8.wrap x.key)]] = List.map encB (G ++ [b8 x.src, b8 x.key]) := by simp [encB, b8]
      have lB : G.length + 2 = (G ++ [b8 x.src, b8 x.key]).length := by simp
      ((repeat' ((conv => whnf);(first|refine zA ?_|(refine zI ?_ ?_<;> intro hh<;> first|(exfalso;omega)|skip)|(refine zl ?_ ?_<;> intro hh)|refine zq ?_|refine zv ?_|refine zu ?_|exact Sy.fin_val fun e=>rfl)));(all_goals (try conv => whnf)))
      rw [eB, lB]
      have sB : G ++ kBs x = (G ++ [b8 x.src, b8 x.key]) ++ beN (u64w x.cnt) 8 ++ beN (u64w x.sum) 8 := by unfold kBs; simp
      rw [sB] at hs
      have lb : (G ++ [b8 x.src, b8 x.key]).length ≤ 9000 := by rw [← lB]; omega
      generalize G ++ [b8 x.src, b8 x.key] = B at *
      have lb2 : (B ++ beN (u64w x.cnt) 8).length ≤ 9008 := by rw [List.length_append]; omega
      refine Sy.draw_go [] (by kernel_rfl) ?_
      intro e0
      conv => whnf
      refine zt 0 rfl ?_
      conv => whnf
      refine zt 1 rfl ?_
      conv => whnf
      refine zt 2 rfl ?_
      conv => whnf
      refine zt 3 rfl ?_
      conv => whnf
      refine zt 4 rfl ?_
      (conv => whnf);(repeat' ((first|refine zA ?_|(refine zI ?_ ?_<;> intro hh<;> first|(exfalso;omega)|skip)|(refine zl ?_ ?_<;> intro hh)|refine zq ?_|refine zv ?_|refine zu ?_|exact Sy.fin_val fun e=>rfl);(try conv => whnf)))
      refine Sy.ar_wrap ?_
      conv => whnf
      refine zt 6 rfl ?_
      conv => whnf
      refine zt 7 rfl ?_
      conv => whnf
      refine zt 8 rfl ?_
      conv => whnf
      refine zt 9 rfl ?_
      (conv => whnf);(repeat' ((first|refine zA ?_|(refine zI ?_ ?_<;> intro hh<;> first|(exfalso;omega)|skip)|(refine zl ?_ ?_<;> intro hh)|refine zq ?_|refine zv ?_|refine zu ?_|exact Sy.fin_val fun e=>rfl);(try conv => whnf)))
      refine Sy.ar_wrap ?_
      conv => whnf
      refine zd1 [5] (zx rfl ?_ zy)
      conv => whnf
      refine Sy.call_r1 ⟨5, 1, (B ++ beN (u64w x.cnt) 8).length, (B ++ beN (u64w x.cnt) 8).map encB⟩ (fun j => .c (.row j)) Tryz.call74 (fun e a w' h => put64_any (e.rv 5) B (u64w x.cnt) w' (Sy.row_reads h (.inl ⟨_, rfl⟩)) (by omega)) ?_
      conv => whnf
      refine ⟨(by repeat' ((conv => whnf);first|exact trivial|(refine And.intro ?_ ?_)|rfl)), ?_⟩
      refine zd1 [10] (zx rfl ?_ zy)
      conv => whnf
      refine Sy.call_r1 ⟨5, 1, (B ++ beN (u64w x.cnt) 8 ++ beN (u64w x.sum) 8).length, (B ++ beN (u64w x.cnt) 8 ++ beN (u64w x.sum) 8).map encB⟩ (fun j => .c (.row j)) Tryz.call74 (fun e a w' h => put64_any (e.rv 6) (B ++ beN (u64w x.cnt) 8) (u64w x.sum) w' (Sy.row_reads h (.inl ⟨_, rfl⟩)) (by omega)) ?_
      conv => whnf
      refine ⟨(by repeat' ((conv => whnf);first|exact trivial|(refine And.intro ?_ ?_)|rfl)), ?_⟩
      refine zt 11 rfl ?_
      conv => whnf
      refine zw ?_
      skip
      all_goals (((repeat' ((conv => whnf);(first|refine zA ?_|(refine zI ?_ ?_<;> intro hh<;> first|(exfalso;omega)|skip)|(refine zl ?_ ?_<;> intro hh)|refine zq ?_|refine zv ?_|refine zu ?_|exact Sy.fin_val fun e=>rfl)));(all_goals (try conv => whnf))))
      all_goals (refine ⟨n + 1, by omega, by omega, ?_⟩)
      all_goals (rw [hs])
      all_goals (((repeat' (first|((conv => whnf);done)|((try conv => whnf);first|exact trivial|(refine And.intro ?_ ?_)|rfl|exact fun _ _ _ h=>h|exact fun _ _ _ _=>trivial)));(all_goals (try conv => whnf))))
    · have e : n = l.length := by omega
      subst e
      rw [show tN l l.length = tBs l from rfl]
      ((repeat' ((conv => whnf);(first|refine zA ?_|(refine zI ?_ ?_<;> intro hh<;> first|(exfalso;omega)|skip)|(refine zl ?_ ?_<;> intro hh)|refine zq ?_|refine zv ?_|refine zu ?_|exact Sy.fin_val fun e=>rfl)));(all_goals (try conv => whnf)))
      exact Sy.fin_r1 (.row 2) rfl (fun e => rfl)
end Go.Proofs.YtmahldelmbhjfaaGreat.Sn
