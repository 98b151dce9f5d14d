/- Slots: does one stand there twice? -/
import Derived.Test.YtjhjmeajdebcbaaSortI
import Derived.Test.YtjhjmeajdebcbaaCompactI
namespace Go.Proofs.Ytjhjmeajdebcbaa
open Go Go.RowKit
open Sy (C SV V1 Blk St XD Els)
set_option maxRecDepth 10000

theorem compact_full2 {l : List Int} (h : (Lib.compact l).length = l.length) : Lib.compact l = l := by
  refine Lib.compact_all _ fun j hj => ?_
  unfold Lib.compact Lib.compactUpTo at h
  rw [List.length_map] at h
  have h2 : ((List.range l.length).filter (Lib.keeps l.toArray)).length = (List.range l.length).length := by rw [h, List.length_range]
  exact List.length_filter_eq_length_iff.1 h2 j (List.mem_range.2 hj)
theorem twice_iff (ts : List Int) : (Lib.compact (sortL ts)).length = ts.length ↔ ts.Nodup := by
  obtain ⟨h1, h2⟩ := compact_sort ts
  have hn : (Lib.compact (sortL ts)).Nodup := List.Pairwise.imp (fun {a b} h => by omega) h1
  constructor
  · intro h
    have hf := compact_full2 (l := sortL ts) (by rw [h, sortL_len])
    rw [hf] at hn
    exact (List.mergeSort_perm ts _).nodup_iff.1 hn
  · exact fun h => ((List.perm_ext_iff_of_nodup hn h).2 h2).length_eq
theorem twice_any (u : Value) (ts : List Int) (w : World) (hu : XD.ok (fun b => b < w.heap.size) w ⟨u, 1, ts.length, ts.map encI⟩) (hb : ts.length ≤ 1000000) :
    Calls Try.prog 40 #[u] w (Sy.Ret (.bool (decide (¬ ts.Nodup))) w) := by
  have hl := ok_len hu
  refine Sy.calls_of Sy.lv40 Sy.tab_ok Try.func40 rfl _ Try.ntmps40 [⟨u, 1, ts.length, ts.map encI⟩] [.c (.row 0)] rfl rfl rfl ⟨hu, trivial⟩ ?_
  ((repeat' ((conv => whnf);(first|refine zA ?_|(refine zI ?_ ?_<;> intro hh<;> first|(exfalso;omega)|skip)|(refine zl ?_ ?_<;> intro hh)|refine zq ?_|refine zv ?_|refine zu ?_|exact Sy.fin_val fun e=>rfl)));(all_goals (try conv => whnf)))
  refine Sy.call_in Sy.lv70 Sy.tab_ok Try.func70 rfl _ Try.ntmps70 Try.call70 rfl (fun _ => ?_)
  ((repeat' ((conv => whnf);(first|refine zA ?_|(refine zI ?_ ?_<;> intro hh<;> first|(exfalso;omega)|skip)|(refine zl ?_ ?_<;> intro hh)|refine zq ?_|refine zv ?_|refine zu ?_|exact Sy.fin_val fun e=>rfl)));(all_goals (try conv => whnf)))
  refine Sy.call_in Sy.lv69 Sy.tab_ok Try.func69 rfl _ Try.ntmps69 Try.call69 rfl (fun _ => ?_)
  ((repeat' ((conv => whnf);(first|refine zA ?_|(refine zI ?_ ?_<;> intro hh<;> first|(exfalso;omega)|skip)|(refine zl ?_ ?_<;> intro hh)|refine zq ?_|refine zv ?_|refine zu ?_|exact Sy.fin_val fun e=>rfl)));(all_goals (try conv => whnf)))
  refine Sy.call_in Sy.lv82 Sy.tab_ok Try.func82 rfl _ Try.ntmps82 Try.call82 rfl (fun _ => ?_)
  ((repeat' ((conv => whnf);(first|refine zA ?_|(refine zI ?_ ?_<;> intro hh<;> first|(exfalso;omega)|skip)|(refine zl ?_ ?_<;> intro hh)|refine zq ?_|refine zv ?_|refine zu ?_|exact Sy.fin_val fun e=>rfl)));(all_goals (try conv => whnf)))
  refine Sy.call_in Sy.lv90 Sy.tab_ok Try.func90 rfl _ Try.ntmps90 Try.call90 rfl (fun _ => ?_)
  ((repeat' ((conv => whnf);(first|refine zA ?_|(refine zI ?_ ?_<;> intro hh<;> first|(exfalso;omega)|skip)|(refine zl ?_ ?_<;> intro hh)|refine zq ?_|refine zv ?_|refine zu ?_|exact Sy.fin_val fun e=>rfl)));(all_goals (try conv => whnf)))
  refine Sy.sem_subF (Sy.sub_rowc 3 0 3 1 rfl rfl) ?_
  conv => whnf
  refine Sy.sem_range Sy.lv84 Sy.tab_ok _ rfl rfl Try.func84 rfl Try.ntmps84 Try.call84 rfl (fun _ _ => ?_)
  ((repeat' ((conv => whnf);(first|refine zA ?_|(refine zI ?_ ?_<;> intro hh<;> first|(exfalso;omega)|skip)|(refine zl ?_ ?_<;> intro hh)|refine zq ?_|refine zv ?_|refine zu ?_|exact Sy.fin_val fun e=>rfl)));(all_goals (try conv => whnf)))
  refine Sy.loop_inv Sy.tab_ok (fun n : Nat => [(7, .c (.v (.int .i64 n)))]) (fun n => [(3, .cells 32 [.row 4]), (4, .row 3 1 n (.vs ((ts.take n).map encI)))]) (fun n => n ≤ ts.length) (fun n => ts.length - n) 0 (Nat.zero_le _) ?_ (fun n hn => ?_)
  · rw [List.take_zero]
    ((repeat' (first|((conv => whnf);done)|((try conv => whnf);first|exact trivial|(refine And.intro ?_ ?_)|rfl|exact fun _ _ _ h=>h|exact fun _ _ _ _=>trivial)));(all_goals (try conv => whnf)))
  · ((repeat' ((conv => whnf);(first|refine zA ?_|(refine zI ?_ ?_<;> intro hh<;> first|(exfalso;omega)|skip)|(refine zl ?_ ?_<;> intro hh)|refine zq ?_|refine zv ?_|refine zu ?_|exact Sy.fin_val fun e=>rfl)));(all_goals (try conv => whnf)))
    · have hlt : n < ts.length := by omega
      have hgn := List.getElem?_eq_getElem hlt
      have hsn : ts.take (n + 1) = ts.take n ++ [ts[n]] := List.take_succ_eq_append_getElem hlt
      generalize ts[n] = t at *
      refine Sy.el_map t hgn ?_
      ((repeat' ((conv => whnf);(first|refine zA ?_|(refine zI ?_ ?_<;> intro hh<;> first|(exfalso;omega)|skip)|(refine zl ?_ ?_<;> intro hh)|refine zq ?_|refine zv ?_|refine zu ?_|exact Sy.fin_val fun e=>rfl)));(all_goals (try conv => whnf)))
      refine Sy.yield_in Sy.tab_ok rfl rfl rfl rfl rfl (fun _ => ?_)
      ((repeat' ((conv => whnf);(first|refine zA ?_|(refine zI ?_ ?_<;> intro hh<;> first|(exfalso;omega)|skip)|(refine zl ?_ ?_<;> intro hh)|refine zq ?_|refine zv ?_|refine zu ?_|exact Sy.fin_val fun e=>rfl)));(all_goals (try conv => whnf)))
      refine Sy.need_app 8 rfl ⟨by omega, by omega⟩ ?_
      ((repeat' ((conv => whnf);(first|refine zA ?_|(refine zI ?_ ?_<;> intro hh<;> first|(exfalso;omega)|skip)|(refine zl ?_ ?_<;> intro hh)|refine zq ?_|refine zv ?_|refine zu ?_|exact Sy.fin_val fun e=>rfl)));(all_goals (try conv => whnf)))
      refine ⟨n + 1, by omega, by omega, ?_⟩
      rw [hsn, List.map_append]
      ((repeat' (first|((conv => whnf);done)|((try conv => whnf);first|exact trivial|(refine And.intro ?_ ?_)|rfl|exact fun _ _ _ h=>h|exact fun _ _ _ _=>trivial)));(all_goals (try conv => whnf)))
    · have e : n = ts.length := by omega
      rw [e, List.take_length]
      refine Sy.call_mut 4 ⟨3, 1, (sortL ts).length, (sortL ts).map encI⟩ (.tup []) Try.call83 (fun e a w' h => by
        have := sort_mut (e.rv 4) ts w' (h.hp 4 _ rfl).1 (by omega)
        rw [← sortL_len] at this
        exact this) ?_
      ((repeat' ((conv => whnf);(first|refine zA ?_|(refine zI ?_ ?_<;> intro hh<;> first|(exfalso;omega)|skip)|(refine zl ?_ ?_<;> intro hh)|refine zq ?_|refine zv ?_|refine zu ?_|exact Sy.fin_val fun e=>rfl)));(all_goals (try conv => whnf)))
      refine Sy.call_k1 4 ⟨3, 1, (Lib.compact (sortL ts)).length, (Lib.compact (sortL ts)).map encI⟩ (fun j => .c (.row j)) Try.call71 (fun e x w' h => compact_rows (e.rv 4) (sortL ts) w' (h.hp 4 _ rfl).1 (by rw [sortL_len]; omega)) ?_ (hj := ⟨_, _, _, _, rfl⟩)
      have htw := twice_iff ts
      generalize Lib.compact (sortL ts) = Z at *
      ((repeat' ((conv => whnf);(first|refine zA ?_|(refine zI ?_ ?_<;> intro hh<;> first|(exfalso;omega)|skip)|(refine zl ?_ ?_<;> intro hh)|refine zq ?_|refine zv ?_|refine zu ?_|exact Sy.fin_val fun e=>rfl)));(all_goals (try conv => whnf)))
      exact Sy.fin_val (fun e => congrArg Value.bool (by rw [Bool.eq_iff_iff, decide_eq_true_iff, bne_iff_ne, ne_eq, ← htw]; omega))
end Go.Proofs.Ytjhjmeajdebcbaa
