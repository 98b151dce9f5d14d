/- Snap: are snapshots the same; the law Whole. -/
import Derived.Test.YtmahldelmbhjfaaSwD
import Derived.Test.YtmahldelmbhjfaaSnP
namespace Go.Proofs.Ytmahldelmbhjfaa
open Go Go.RowKit
open Sy (C SV V1 Blk St XD Els)
set_option maxRecDepth 10000

/-- Snapshots in memory that are L. -/
structure SlL (L : List Sn) where
  v : Value
  ls : List SnV
  h : v.oneCell' = true
  e : snsOf ls = L
  o : ∀ c ∈ ls.map encS, ∀ u ∈ c, u.oneCell' = true
theorem shorts_mem (v : Value) (ls : List SnV) (w : World) (hr : SsOk (fun b => b < w.heap.size) w v ls) :
    Calls Try.prog 18 #[v] w (Sy.RetMem (fun (x : SlL (shortsL (snsOf ls))) G w' => SsOk G w' x.v x.ls) (fun x => x.v) w) :=
  (shorts_any 0 v ls w (Nat.zero_le _) hr).mono fun _ _ ⟨x, hE, hb, h1, h2⟩ => ⟨⟨x.v, x.ls, x.h, h1, h2.1.2⟩, hE, hb, h2.mono fun _ hb => hb.1⟩
theorem resc_mem (v : Value) (ls : List SnV) (m : Int) (w : World) (hr : SsOk (fun b => b < w.heap.size) w v ls) :
    Calls Try.prog 22 #[v, .int .i64 m] w (Sy.RetMem (fun (x : SlL (rescV (snsOf ls) m)) G w' => SsOk G w' x.v x.ls) (fun x => .tuple #[x.v, .int .i64 (rescE (snsOf ls) m)]) w) :=
  (resc_any 0 v ls m w (Nat.zero_le _) hr).mono fun _ _ ⟨x, hE, hb, h1, h2⟩ => ⟨⟨x.v, x.ls, x.h, h1, h2.1.2⟩, hE, hb, h2.mono fun _ hb => hb.1⟩
theorem rresc_mem (v : Value) (ls : List SnV) (m : Int) (w : World) (hr : SsOk (fun b => b < w.heap.size) w v ls) :
    Calls Try.prog 23 #[v, .int .i64 m] w (Sy.RetMem (fun (x : SlL (rescV (snsOf ls) m)) G w' => SsOk G w' x.v x.ls) (fun x => .tuple #[x.v, .int .i64 (rescE (snsOf ls) m)]) w) :=
  (rresc_any 0 v ls m w (Nat.zero_le _) hr).mono fun _ _ ⟨x, hE, hb, h1, h2⟩ => ⟨⟨x.v, x.ls, x.h, h1, h2.1.2⟩, hE, hb, h2.mono fun _ hb => hb.1⟩
theorem slE_lt {n : Nat} {u : Value} (x : Int) (hu : u.oneCell' = true) : SV.lt n (.tup [.c (.v u), .c (.v (.int .i64 x))]) = true := by
  simp only [SV.lt, Sy.ltAll1, V1.lt, C.lt, hu]
  rfl
set_option maxHeartbeats 1000000 in
theorem all_any (u v : Value) (la lb : List SnV) (w : World) (ha : SsOk (fun b => b < w.heap.size) w u la) (hb : SsOk (fun b => b < w.heap.size) w v lb) (he : snsOf la = snsOf lb) :
    Calls Try.prog 21 #[u, v] w (Sy.Ret (.bool true) w) := by
  have hl := ok_len ha.1
  have hlen : la.length = lb.length := by rw [← sns_len la, he, sns_len]
  refine Sy.calls_of Sy.lv21 Sy.tab_ok Try.func21 rfl _ Try.ntmps21 [⟨u, 14, la.length, la.map encS⟩, ⟨v, 14, lb.length, lb.map encS⟩] [.c (.row 0), .c (.row 1)] rfl rfl rfl ⟨ha.1, hb.1, trivial⟩ ?_
  ((repeat' ((conv => whnf);(first|refine zA ?_|(refine zI ?_ ?_<;> intro hh<;> first|(exfalso;omega)|skip)|(refine zl ?_ ?_<;> intro hh)|refine zq ?_|refine zv ?_|refine zu ?_|exact Sy.fin_val fun e=>rfl)));(all_goals (try conv => whnf)))
  refine Sy.loop_inv Sy.tab_ok (fun n : Nat => [(13, .c (.v (.int .i64 n)))]) (fun _ => []) (fun n => n ≤ la.length) (fun n => la.length - n) 0 (Nat.zero_le _) ?_ (fun n hn => ?_)
  · ((repeat' (first|((conv => whnf);done)|((try conv => whnf);first|exact trivial|(refine And.intro ?_ ?_)|rfl|exact fun _ _ _ h=>h|exact fun _ _ _ _=>trivial)));(all_goals (try conv => whnf)))
  · by_cases hlt : n < la.length
    · have hg := List.getElem?_eq_getElem hlt
      have hg2 := List.getElem?_eq_getElem (show n < lb.length by omega)
      have hx := ha.2 _ (List.getElem_mem hlt)
      have hy := hb.2 _ (List.getElem_mem (show n < lb.length by omega))
      generalize la[n] = x at *
      generalize lb[n] = y at *
      have hxy : x.sn = y.sn := by
        have h1 := sns_get hg
        have h2 := sns_get hg2
        rw [he, h2] at h1
        exact (Option.some.inj h1).symm
      ((repeat' ((conv => whnf);(first|refine zA ?_|(refine zI ?_ ?_<;> intro hh<;> first|(exfalso;omega)|skip)|(refine zl ?_ ?_<;> intro hh)|refine zq ?_|refine zv ?_|refine zu ?_|exact Sy.fin_val fun e=>rfl)));(all_goals (try conv => whnf)))
      refine Sy.draw_go [] (by kernel_rfl) ?_
      intro e0
      conv => whnf
      refine zt 0 rfl ?_
      conv => whnf
      refine zt 1 rfl ?_
      conv => whnf
      refine zt 2 rfl ?_
      (conv => whnf);(repeat' ((first|refine zA ?_|(refine zI ?_ ?_<;> intro hh<;> first|(exfalso;omega)|skip)|(refine zl ?_ ?_<;> intro hh)|refine zq ?_|refine zv ?_|refine zu ?_|exact Sy.fin_val fun e=>rfl);(try conv => whnf)))
      refine zt 3 rfl ?_
      conv => whnf
      refine Sy.el_map x hg ?_
      conv => whnf
      conv => whnf
      refine zt 4 rfl ?_
      conv => whnf
      refine zt 5 rfl ?_
      conv => whnf
      refine zt 6 rfl ?_
      (conv => whnf);(repeat' ((first|refine zA ?_|(refine zI ?_ ?_<;> intro hh<;> first|(exfalso;omega)|skip)|(refine zl ?_ ?_<;> intro hh)|refine zq ?_|refine zv ?_|refine zu ?_|exact Sy.fin_val fun e=>rfl);(try conv => whnf)))
      refine zt 7 rfl ?_
      conv => whnf
      refine Sy.el_map y hg2 ?_
      conv => whnf
      conv => whnf
      refine zd1 [8] (zx rfl ?_ zy)
      conv => whnf
      refine Sy.call_val (.c (.v (.bool true))) Try.call13 rfl (fun e a w' h => by
        have := rsame_any x y w' ⟨Sy.later_in h hx.rows, Sy.later_in h hx.txs⟩ ⟨Sy.later_in h hy.rows, Sy.later_in h hy.txs⟩
        rw [decide_eq_true hxy] at this; exact this) ?_
      conv => whnf
      refine ⟨(by repeat' ((conv => whnf);first|exact trivial|(refine And.intro ?_ ?_)|rfl)), ?_⟩
      refine zt 9 rfl ?_
      (conv => whnf);(repeat' ((first|refine zA ?_|(refine zI ?_ ?_<;> intro hh<;> first|(exfalso;omega)|skip)|(refine zl ?_ ?_<;> intro hh)|refine zq ?_|refine zv ?_|refine zu ?_|exact Sy.fin_val fun e=>rfl);(try conv => whnf)))
      refine zw ?_
      skip
      ((repeat' ((conv => whnf);(first|refine zA ?_|(refine zI ?_ ?_<;> intro hh<;> first|(exfalso;omega)|skip)|(refine zl ?_ ?_<;> intro hh)|refine zq ?_|refine zv ?_|refine zu ?_|exact Sy.fin_val fun e=>rfl)));(all_goals (try conv => whnf)))
      refine ⟨n + 1, by omega, by omega, ?_⟩
      ((repeat' (first|((conv => whnf);done)|((try conv => whnf);first|exact trivial|(refine And.intro ?_ ?_)|rfl|exact fun _ _ _ h=>h|exact fun _ _ _ _=>trivial)));(all_goals (try conv => whnf)))
    · ((repeat' ((conv => whnf);(first|refine zA ?_|(refine zI ?_ ?_<;> intro hh<;> first|(exfalso;omega)|skip)|(refine zl ?_ ?_<;> intro hh)|refine zq ?_|refine zv ?_|refine zu ?_|exact Sy.fin_val fun e=>rfl)));(all_goals (try conv => whnf)))
      done
end Go.Proofs.Ytmahldelmbhjfaa
