/- Slots: the law Lays. -/
import Derived.Test.YtjhjmeajdebcbaaSBg
import Derived.Test.YtjhjmeajdebcbaaSQ
namespace Go.Proofs.Ytjhjmeajdebcbaa
open Go Go.RowKit
open Sy (C SV V1 Blk St XD Els)
set_option maxRecDepth 10000

theorem row_reads0 {X : Sy.Cx} {e : Sy.Env} {S : St} {a : Act} {w : World} (h : Sy.Rep X e S a w) {k ety esz n : Nat} {xs : List (List Value)} (hk : Sy.get S.H k = some (.row ety esz (0 + n) (.vs ([] ++ xs)))) : XD.ok (fun b => b < w.heap.size) w ⟨e.rv k, esz, n, xs⟩ := by
  rw [Nat.zero_add, List.nil_append] at hk
  exact Sy.row_reads h (.inl ⟨_, hk⟩)
attribute [local irreducible] layV layE takeV takeE overB FlOk layL delL
set_option maxHeartbeats 4000000 in
theorem llays_any (u v y : Value) (ws ps : List (Int × Int)) (ts : List Int) (w : World) (hu : XD.ok (fun b => b < w.heap.size) w ⟨u, 2, ws.length, ws.map enc2⟩) (hv : XD.ok (fun b => b < w.heap.size) w ⟨v, 2, ps.length, ps.map enc2⟩) (hy : XD.ok (fun b => b < w.heap.size) w ⟨y, 1, ts.length, ts.map encI⟩) :
    Calls Try.prog 4 #[.agg #[u, v], y] w (Sy.Ret (.bool true) w) := by
  have hl1 := ok_len hy
  refine Sy.calls_of Sy.lv4 Sy.tab_ok Try.func4 rfl _ Try.ntmps4 [⟨u, 2, ws.length, ws.map enc2⟩, ⟨v, 2, ps.length, ps.map enc2⟩, ⟨y, 1, ts.length, ts.map encI⟩] [.agg [.row 0, .row 1], .c (.row 2)] rfl rfl rfl ⟨hu, hv, hy, trivial⟩ ?_
  ((repeat' ((conv => whnf);(first|refine zA ?_|(refine zI ?_ ?_<;> intro hh<;> first|(exfalso;omega)|skip)|(refine zl ?_ ?_<;> intro hh)|refine zq ?_|refine zv ?_|refine zu ?_|exact Sy.fin_val fun e=>rfl)));(all_goals (try conv => whnf)))
  refine Sy.call_val (.c (.v (.bool true))) Try.call9 rfl (fun e a w' h => wakes_any w') ?_
  ((repeat' ((conv => whnf);(first|refine zA ?_|(refine zI ?_ ?_<;> intro hh<;> first|(exfalso;omega)|skip)|(refine zl ?_ ?_<;> intro hh)|refine zq ?_|refine zv ?_|refine zu ?_|exact Sy.fin_val fun e=>rfl)));(all_goals (try conv => whnf)))
  refine Sy.call_val (.c (.v (.bool (overB ws ps)))) Try.call13 rfl (fun e a w' h => over_any (e.rv 0) (e.rv 1) ws ps w' (Sy.row_reads h (.inr rfl)) (Sy.row_reads h (.inr rfl))) ?_
  cases h50 : overB ws ps
  · obtain ⟨hw50, hp100⟩ := over_not h50
    by_cases ht : ts.length ≤ 100
    · ((repeat' ((conv => whnf);(first|refine zA ?_|(refine zI ?_ ?_<;> intro hh<;> first|(exfalso;omega)|skip)|(refine zl ?_ ?_<;> intro hh)|refine zq ?_|refine zv ?_|refine zu ?_|exact Sy.fin_val fun e=>rfl)));(all_goals (try conv => whnf)))
      refine Sy.call_r2f ⟨31, 2, ws.length, ws.map enc2⟩ ⟨67, 2, ps.length, ps.map enc2⟩ (fun j => .agg [.row j, .row (j + 1)]) Try.call14 (fun e a w' h => copied_any (e.rv 0) (e.rv 1) ws ps w' (Sy.row_reads h (.inr rfl)) (Sy.row_reads h (.inr rfl)) (by omega) (by omega)) ?_
      ((repeat' ((conv => whnf);(first|refine zA ?_|(refine zI ?_ ?_<;> intro hh<;> first|(exfalso;omega)|skip)|(refine zl ?_ ?_<;> intro hh)|refine zq ?_|refine zv ?_|refine zu ?_|exact Sy.fin_val fun e=>rfl)));(all_goals (try conv => whnf)))
      refine Sy.meet1 7 [.row 31 2 (layV ws ps ts).1.length (.vs ((layV ws ps ts).1.map enc2)), .row 67 2 (layV ws ps ts).2.length (.vs ((layV ws ps ts).2.map enc2)), .cells 26 [.row 7, .row 8]] [(6, .c (.loc 9 0)), (7, .c (.v (.int .i64 (layE ws ps ts))))] [] Sy.tab_ok rfl ?_ ?_
      · refine Sy.draw_go [] (by kernel_rfl) ?_
        intro e0
        conv => whnf
        refine zt 0 rfl ?_
        conv => whnf
        refine zt 2 rfl ?_
        conv => whnf
        focus
          refine zd1 [1, 8] (zx rfl ?_ (zx rfl ?_ zy))
          focus
            conv => whnf
            refine ⟨(by repeat' ((conv => whnf);first|exact trivial|(refine And.intro ?_ ?_)|rfl)), ?_⟩
            focus
              refine zd1 [3, 8] (zx rfl ?_ (zx rfl ?_ zy))
              focus
                conv => whnf
                refine Sy.need_of (by show (0 + ts.length) * 8 ≤ _ ∧ _; omega) ?_
                conv => whnf
                refine ⟨(by repeat' ((conv => whnf);first|exact trivial|(refine And.intro ?_ ?_)|rfl)), ?_⟩
                focus
                  refine zd1 [4, 8] (zx rfl ?_ (zx rfl ?_ zy))
                  focus
                    conv => whnf
                    refine Sy.call_r2f ⟨31, 2, (layV ws ps ts).1.length, (layV ws ps ts).1.map enc2⟩ ⟨67, 2, (layV ws ps ts).2.length, (layV ws ps ts).2.map enc2⟩ (fun j => .tup [.agg [.row j, .row (j + 1)], .c (.v (.int .i64 (layE ws ps ts)))]) Try.call11 (fun e a w' h => by (refine lay_any _ _ _ ws ps ts w' ?_ ?_ ?_ (by omega) (by omega)); exact Sy.row_reads h (.inl ⟨_, rfl⟩); exact Sy.row_reads h (.inl ⟨_, rfl⟩); exact row_reads0 h rfl) ?_
                    conv => whnf
                    refine ⟨(by repeat' ((conv => whnf);first|exact trivial|(refine And.intro ?_ ?_)|rfl)), ?_⟩
                    refine zt 5 rfl ?_
                    conv => whnf
                    refine zt 6 rfl ?_
                    conv => whnf
                    refine zt 7 rfl ?_
                    conv => whnf
                    refine zd1 [8] (zx rfl ?_ zy)
                    conv => whnf
                    refine ⟨(by repeat' ((conv => whnf);first|exact trivial|(refine And.intro ?_ ?_)|rfl)), ?_⟩
                    refine zd1 [9] (zx rfl ?_ zy)
                    conv => whnf
                    refine ⟨(by repeat' ((conv => whnf);first|exact trivial|(refine And.intro ?_ ?_)|rfl)), ?_⟩
                    refine zt 10 rfl ?_
                    conv => whnf
                    refine zw ?_
                    ((repeat' (first|((conv => whnf);done)|((try conv => whnf);first|exact trivial|(refine And.intro ?_ ?_)|rfl|exact fun _ _ _ h=>h|exact fun _ _ _ _=>trivial)));(all_goals (try conv => whnf)))
                  rotate_right
                  focus
                    conv => whnf
                    refine ⟨(by repeat' ((conv => whnf);first|exact trivial|(refine And.intro ?_ ?_)|rfl)), ?_⟩
                    refine zd1 [4] (zx rfl ?_ zy)
                    conv => whnf
                    refine Sy.call_r2f ⟨31, 2, (layV ws ps ts).1.length, (layV ws ps ts).1.map enc2⟩ ⟨67, 2, (layV ws ps ts).2.length, (layV ws ps ts).2.map enc2⟩ (fun j => .tup [.agg [.row j, .row (j + 1)], .c (.v (.int .i64 (layE ws ps ts)))]) Try.call11 (fun e a w' h => by (refine lay_any _ _ _ ws ps ts w' ?_ ?_ ?_ (by omega) (by omega)); exact Sy.row_reads h (.inl ⟨_, rfl⟩); exact Sy.row_reads h (.inl ⟨_, rfl⟩); exact row_reads0 h rfl) ?_
                    conv => whnf
                    refine ⟨(by repeat' ((conv => whnf);first|exact trivial|(refine And.intro ?_ ?_)|rfl)), ?_⟩
                    refine zt 5 rfl ?_
                    conv => whnf
                    refine zt 6 rfl ?_
                    conv => whnf
                    refine zt 7 rfl ?_
                    conv => whnf
                    refine zd1 [9] (zx rfl ?_ zy)
                    conv => whnf
                    refine ⟨(by repeat' ((conv => whnf);first|exact trivial|(refine And.intro ?_ ?_)|rfl)), ?_⟩
                    refine zt 10 rfl ?_
                    conv => whnf
                    refine zw ?_
                    ((repeat' (first|((conv => whnf);done)|((try conv => whnf);first|exact trivial|(refine And.intro ?_ ?_)|rfl|exact fun _ _ _ h=>h|exact fun _ _ _ _=>trivial)));(all_goals (try conv => whnf)))
              rotate_right
              focus
                conv => whnf
                refine ⟨(by repeat' ((conv => whnf);first|exact trivial|(refine And.intro ?_ ?_)|rfl)), ?_⟩
                refine zd1 [3] (zx rfl ?_ zy)
                conv => whnf
                refine Sy.need_of (by show (0 + ts.length) * 8 ≤ _ ∧ _; omega) ?_
                conv => whnf
                refine ⟨(by repeat' ((conv => whnf);first|exact trivial|(refine And.intro ?_ ?_)|rfl)), ?_⟩
                refine zd1 [4] (zx rfl ?_ zy)
                conv => whnf
                refine Sy.call_r2f ⟨31, 2, (layV ws ps ts).1.length, (layV ws ps ts).1.map enc2⟩ ⟨67, 2, (layV ws ps ts).2.length, (layV ws ps ts).2.map enc2⟩ (fun j => .tup [.agg [.row j, .row (j + 1)], .c (.v (.int .i64 (layE ws ps ts)))]) Try.call11 (fun e a w' h => by (refine lay_any _ _ _ ws ps ts w' ?_ ?_ ?_ (by omega) (by omega)); exact Sy.row_reads h (.inl ⟨_, rfl⟩); exact Sy.row_reads h (.inl ⟨_, rfl⟩); exact row_reads0 h rfl) ?_
                conv => whnf
                refine ⟨(by repeat' ((conv => whnf);first|exact trivial|(refine And.intro ?_ ?_)|rfl)), ?_⟩
                refine zt 5 rfl ?_
                conv => whnf
                refine zt 6 rfl ?_
                conv => whnf
                refine zt 7 rfl ?_
                conv => whnf
                refine zd1 [9] (zx rfl ?_ zy)
                conv => whnf
                refine ⟨(by repeat' ((conv => whnf);first|exact trivial|(refine And.intro ?_ ?_)|rfl)), ?_⟩
                refine zt 10 rfl ?_
                conv => whnf
                refine zw ?_
                ((repeat' (first|((conv => whnf);done)|((try conv => whnf);first|exact trivial|(refine And.intro ?_ ?_)|rfl|exact fun _ _ _ h=>h|exact fun _ _ _ _=>trivial)));(all_goals (try conv => whnf)))
          rotate_right
          focus
            conv => whnf
            refine ⟨(by repeat' ((conv => whnf);first|exact trivial|(refine And.intro ?_ ?_)|rfl)), ?_⟩
            refine zd1 [1] (zx rfl ?_ zy)
            conv => whnf
            refine ⟨(by repeat' ((conv => whnf);first|exact trivial|(refine And.intro ?_ ?_)|rfl)), ?_⟩
            refine zd1 [3] (zx rfl ?_ zy)
            conv => whnf
            refine Sy.need_of (by show (0 + ts.length) * 8 ≤ _ ∧ _; omega) ?_
            conv => whnf
            refine ⟨(by repeat' ((conv => whnf);first|exact trivial|(refine And.intro ?_ ?_)|rfl)), ?_⟩
            refine zd1 [4] (zx rfl ?_ zy)
            conv => whnf
            refine Sy.call_r2f ⟨31, 2, (layV ws ps ts).1.length, (layV ws ps ts).1.map enc2⟩ ⟨67, 2, (layV ws ps ts).2.length, (layV ws ps ts).2.map enc2⟩ (fun j => .tup [.agg [.row j, .row (j + 1)], .c (.v (.int .i64 (layE ws ps ts)))]) Try.call11 (fun e a w' h => by (refine lay_any _ _ _ ws ps ts w' ?_ ?_ ?_ (by omega) (by omega)); exact Sy.row_reads h (.inl ⟨_, rfl⟩); exact Sy.row_reads h (.inl ⟨_, rfl⟩); exact row_reads0 h rfl) ?_
            conv => whnf
            refine ⟨(by repeat' ((conv => whnf);first|exact trivial|(refine And.intro ?_ ?_)|rfl)), ?_⟩
            refine zt 5 rfl ?_
            conv => whnf
            refine zt 6 rfl ?_
            conv => whnf
            refine zt 7 rfl ?_
            conv => whnf
            refine zd1 [9] (zx rfl ?_ zy)
            conv => whnf
            refine ⟨(by repeat' ((conv => whnf);first|exact trivial|(refine And.intro ?_ ?_)|rfl)), ?_⟩
            refine zt 10 rfl ?_
            conv => whnf
            refine zw ?_
            ((repeat' (first|((conv => whnf);done)|((try conv => whnf);first|exact trivial|(refine And.intro ?_ ?_)|rfl|exact fun _ _ _ h=>h|exact fun _ _ _ _=>trivial)));(all_goals (try conv => whnf)))
      · conv => whnf
        by_cases hl0 : layE ws ps ts = 0
        · have hlV : layV ws ps ts = (ws, layL ws ps ts) := by unfold layV; rw [if_pos hl0]
          rw [hl0, hlV]
          dsimp only
          by_cases hz : ts = []
          · have hlz : layL ws ps ts = ps := by rw [hz]; unfold layL; rfl
            rw [hlz]
            ((repeat' ((conv => whnf);(first|refine zA ?_|(refine zI ?_ ?_<;> intro hh<;> first|(exfalso;omega)|skip)|(refine zl ?_ ?_<;> intro hh)|refine zq ?_|refine zv ?_|refine zu ?_|exact Sy.fin_val fun e=>rfl)));(all_goals (try conv => whnf)))
            refine Sy.call_own (rlay0_does ws ps ts hz hl0) Try.call15 ?_
            ((conv => whnf);(refine And.intro ?_ (And.intro ?_ (And.intro ?_ (And.intro ?_ ?_))));(all_goals ((repeat' (first|((conv => whnf);done)|((try conv => whnf);first|exact trivial|(refine And.intro ?_ ?_)|rfl|exact fun _ _ _ h=>h|exact fun _ _ _ _=>trivial)));(all_goals (try conv => whnf))));rotate_right)
            intro _ _ _
            ((repeat' ((conv => whnf);(first|refine zA ?_|(refine zI ?_ ?_<;> intro hh<;> first|(exfalso;omega)|skip)|(refine zl ?_ ?_<;> intro hh)|refine zq ?_|refine zv ?_|refine zu ?_|exact Sy.fin_val fun e=>rfl)));(all_goals (try conv => whnf)))
            refine Sy.meet1 11 [.row 31 2 (takeV ws ps ts).1.length (.vs ((takeV ws ps ts).1.map enc2)), .row 67 2 (takeV ws ps ts).2.length (.vs ((takeV ws ps ts).2.map enc2)), .cells 26 [.row 11, .row 12]] [(10, .c (.loc 13 0)), (11, .c (.v (.int .i64 (takeE ws ps ts))))] [] Sy.tab_ok rfl ?_ ?_
            · refine Sy.draw_go [] (by kernel_rfl) ?_
              intro e0
              conv => whnf
              refine zt 0 rfl ?_
              conv => whnf
              refine zt 2 rfl ?_
              conv => whnf
              focus
                refine zd1 [1, 8] (zx rfl ?_ (zx rfl ?_ zy))
                focus
                  conv => whnf
                  refine ⟨(by repeat' ((conv => whnf);first|exact trivial|(refine And.intro ?_ ?_)|rfl)), ?_⟩
                  focus
                    refine zd1 [3, 8] (zx rfl ?_ (zx rfl ?_ zy))
                    focus
                      conv => whnf
                      refine Sy.need_of (by show (0 + ts.length) * 8 ≤ _ ∧ _; omega) ?_
                      conv => whnf
                      refine ⟨(by repeat' ((conv => whnf);first|exact trivial|(refine And.intro ?_ ?_)|rfl)), ?_⟩
                      focus
                        refine zd1 [4, 8] (zx rfl ?_ (zx rfl ?_ zy))
                        focus
                          conv => whnf
                          refine Sy.call_r2f ⟨31, 2, (takeV ws ps ts).1.length, (takeV ws ps ts).1.map enc2⟩ ⟨67, 2, (takeV ws ps ts).2.length, (takeV ws ps ts).2.map enc2⟩ (fun j => .tup [.agg [.row j, .row (j + 1)], .c (.v (.int .i64 (takeE ws ps ts)))]) Try.call16 (fun e a w' h => by (refine take_any _ _ _ ws ps ts w' ?_ ?_ ?_ (by omega) (by omega)); exact Sy.row_reads h (.inl ⟨_, rfl⟩); exact Sy.row_reads h (.inl ⟨_, rfl⟩); exact row_reads0 h rfl) ?_
                          conv => whnf
                          refine ⟨(by repeat' ((conv => whnf);first|exact trivial|(refine And.intro ?_ ?_)|rfl)), ?_⟩
                          refine zt 5 rfl ?_
                          conv => whnf
                          refine zt 6 rfl ?_
                          conv => whnf
                          refine zt 7 rfl ?_
                          conv => whnf
                          refine zd1 [8] (zx rfl ?_ zy)
                          conv => whnf
                          refine ⟨(by repeat' ((conv => whnf);first|exact trivial|(refine And.intro ?_ ?_)|rfl)), ?_⟩
                          refine zd1 [9] (zx rfl ?_ zy)
                          conv => whnf
                          refine ⟨(by repeat' ((conv => whnf);first|exact trivial|(refine And.intro ?_ ?_)|rfl)), ?_⟩
                          refine zt 10 rfl ?_
                          conv => whnf
                          refine zw ?_
                          ((repeat' (first|((conv => whnf);done)|((try conv => whnf);first|exact trivial|(refine And.intro ?_ ?_)|rfl|exact fun _ _ _ h=>h|exact fun _ _ _ _=>trivial)));(all_goals (try conv => whnf)))
                        rotate_right
                        focus
                          conv => whnf
                          refine ⟨(by repeat' ((conv => whnf);first|exact trivial|(refine And.intro ?_ ?_)|rfl)), ?_⟩
                          refine zd1 [4] (zx rfl ?_ zy)
                          conv => whnf
                          refine Sy.call_r2f ⟨31, 2, (takeV ws ps ts).1.length, (takeV ws ps ts).1.map enc2⟩ ⟨67, 2, (takeV ws ps ts).2.length, (takeV ws ps ts).2.map enc2⟩ (fun j => .tup [.agg [.row j, .row (j + 1)], .c (.v (.int .i64 (takeE ws ps ts)))]) Try.call16 (fun e a w' h => by (refine take_any _ _ _ ws ps ts w' ?_ ?_ ?_ (by omega) (by omega)); exact Sy.row_reads h (.inl ⟨_, rfl⟩); exact Sy.row_reads h (.inl ⟨_, rfl⟩); exact row_reads0 h rfl) ?_
                          conv => whnf
                          refine ⟨(by repeat' ((conv => whnf);first|exact trivial|(refine And.intro ?_ ?_)|rfl)), ?_⟩
                          refine zt 5 rfl ?_
                          conv => whnf
                          refine zt 6 rfl ?_
                          conv => whnf
                          refine zt 7 rfl ?_
                          conv => whnf
                          refine zd1 [9] (zx rfl ?_ zy)
                          conv => whnf
                          refine ⟨(by repeat' ((conv => whnf);first|exact trivial|(refine And.intro ?_ ?_)|rfl)), ?_⟩
                          refine zt 10 rfl ?_
                          conv => whnf
                          refine zw ?_
                          ((repeat' (first|((conv => whnf);done)|((try conv => whnf);first|exact trivial|(refine And.intro ?_ ?_)|rfl|exact fun _ _ _ h=>h|exact fun _ _ _ _=>trivial)));(all_goals (try conv => whnf)))
                    rotate_right
                    focus
                      conv => whnf
                      refine ⟨(by repeat' ((conv => whnf);first|exact trivial|(refine And.intro ?_ ?_)|rfl)), ?_⟩
                      refine zd1 [3] (zx rfl ?_ zy)
                      conv => whnf
                      refine Sy.need_of (by show (0 + ts.length) * 8 ≤ _ ∧ _; omega) ?_
                      conv => whnf
                      refine ⟨(by repeat' ((conv => whnf);first|exact trivial|(refine And.intro ?_ ?_)|rfl)), ?_⟩
                      refine zd1 [4] (zx rfl ?_ zy)
                      conv => whnf
                      refine Sy.call_r2f ⟨31, 2, (takeV ws ps ts).1.length, (takeV ws ps ts).1.map enc2⟩ ⟨67, 2, (takeV ws ps ts).2.length, (takeV ws ps ts).2.map enc2⟩ (fun j => .tup [.agg [.row j, .row (j + 1)], .c (.v (.int .i64 (takeE ws ps ts)))]) Try.call16 (fun e a w' h => by (refine take_any _ _ _ ws ps ts w' ?_ ?_ ?_ (by omega) (by omega)); exact Sy.row_reads h (.inl ⟨_, rfl⟩); exact Sy.row_reads h (.inl ⟨_, rfl⟩); exact row_reads0 h rfl) ?_
                      conv => whnf
                      refine ⟨(by repeat' ((conv => whnf);first|exact trivial|(refine And.intro ?_ ?_)|rfl)), ?_⟩
                      refine zt 5 rfl ?_
                      conv => whnf
                      refine zt 6 rfl ?_
                      conv => whnf
                      refine zt 7 rfl ?_
                      conv => whnf
                      refine zd1 [9] (zx rfl ?_ zy)
                      conv => whnf
                      refine ⟨(by repeat' ((conv => whnf);first|exact trivial|(refine And.intro ?_ ?_)|rfl)), ?_⟩
                      refine zt 10 rfl ?_
                      conv => whnf
                      refine zw ?_
                      ((repeat' (first|((conv => whnf);done)|((try conv => whnf);first|exact trivial|(refine And.intro ?_ ?_)|rfl|exact fun _ _ _ h=>h|exact fun _ _ _ _=>trivial)));(all_goals (try conv => whnf)))
                rotate_right
                focus
                  conv => whnf
                  refine ⟨(by repeat' ((conv => whnf);first|exact trivial|(refine And.intro ?_ ?_)|rfl)), ?_⟩
                  refine zd1 [1] (zx rfl ?_ zy)
                  conv => whnf
                  refine ⟨(by repeat' ((conv => whnf);first|exact trivial|(refine And.intro ?_ ?_)|rfl)), ?_⟩
                  refine zd1 [3] (zx rfl ?_ zy)
                  conv => whnf
                  refine Sy.need_of (by show (0 + ts.length) * 8 ≤ _ ∧ _; omega) ?_
                  conv => whnf
                  refine ⟨(by repeat' ((conv => whnf);first|exact trivial|(refine And.intro ?_ ?_)|rfl)), ?_⟩
                  refine zd1 [4] (zx rfl ?_ zy)
                  conv => whnf
                  refine Sy.call_r2f ⟨31, 2, (takeV ws ps ts).1.length, (takeV ws ps ts).1.map enc2⟩ ⟨67, 2, (takeV ws ps ts).2.length, (takeV ws ps ts).2.map enc2⟩ (fun j => .tup [.agg [.row j, .row (j + 1)], .c (.v (.int .i64 (takeE ws ps ts)))]) Try.call16 (fun e a w' h => by (refine take_any _ _ _ ws ps ts w' ?_ ?_ ?_ (by omega) (by omega)); exact Sy.row_reads h (.inl ⟨_, rfl⟩); exact Sy.row_reads h (.inl ⟨_, rfl⟩); exact row_reads0 h rfl) ?_
                  conv => whnf
                  refine ⟨(by repeat' ((conv => whnf);first|exact trivial|(refine And.intro ?_ ?_)|rfl)), ?_⟩
                  refine zt 5 rfl ?_
                  conv => whnf
                  refine zt 6 rfl ?_
                  conv => whnf
                  refine zt 7 rfl ?_
                  conv => whnf
                  refine zd1 [9] (zx rfl ?_ zy)
                  conv => whnf
                  refine ⟨(by repeat' ((conv => whnf);first|exact trivial|(refine And.intro ?_ ?_)|rfl)), ?_⟩
                  refine zt 10 rfl ?_
                  conv => whnf
                  refine zw ?_
                  ((repeat' (first|((conv => whnf);done)|((try conv => whnf);first|exact trivial|(refine And.intro ?_ ?_)|rfl|exact fun _ _ _ h=>h|exact fun _ _ _ _=>trivial)));(all_goals (try conv => whnf)))
            · conv => whnf
              ((repeat' ((conv => whnf);(first|refine zA ?_|(refine zI ?_ ?_<;> intro hh<;> first|(exfalso;omega)|skip)|(refine zl ?_ ?_<;> intro hh)|refine zq ?_|refine zv ?_|refine zu ?_|exact Sy.fin_val fun e=>rfl)));(all_goals (try conv => whnf)))
              by_cases ht0 : takeE ws ps ts = 0
              · have htV : takeV ws ps ts = (ws, (delL (takenB ts) ps)) := by unfold takeV; rw [if_pos ht0]
                rw [ht0, htV]
                dsimp only
                refine Sy.call_own (rtake_does ws ps ts (by omega) ht0) Try.call17 ?_
                ((conv => whnf);(refine And.intro ?_ (And.intro ?_ (And.intro ?_ (And.intro ?_ ?_))));(all_goals ((repeat' (first|((conv => whnf);done)|((try conv => whnf);first|exact trivial|(refine And.intro ?_ ?_)|rfl|exact fun _ _ _ h=>h|exact fun _ _ _ _=>trivial)));(all_goals (try conv => whnf))));rotate_right)
                intro _ _ _
                ((repeat' ((conv => whnf);(first|refine zA ?_|(refine zI ?_ ?_<;> intro hh<;> first|(exfalso;omega)|skip)|(refine zl ?_ ?_<;> intro hh)|refine zq ?_|refine zv ?_|refine zu ?_|exact Sy.fin_val fun e=>rfl)));(all_goals (try conv => whnf)))
                refine Sy.call_val (.c (.v (.bool true))) Try.call18 rfl (fun e a w' h => by have := rsame_any (e.rv 7) (e.rv 8) (e.rv 0) (e.rv 1) ws ps ws ps w' (Sy.row_reads h (.inl ⟨_, rfl⟩)) (Sy.row_reads h (.inl ⟨_, rfl⟩)) (Sy.row_reads h (.inr rfl)) (Sy.row_reads h (.inr rfl)); rw [decide_eq_true ⟨rfl, rfl⟩] at this; exact this) ?_
                ((repeat' ((conv => whnf);(first|refine zA ?_|(refine zI ?_ ?_<;> intro hh<;> first|(exfalso;omega)|skip)|(refine zl ?_ ?_<;> intro hh)|refine zq ?_|refine zv ?_|refine zu ?_|exact Sy.fin_val fun e=>rfl)));(all_goals (try conv => whnf)))
                refine Sy.call_val (.c (.v (.bool true))) Try.call18 rfl (fun e a w' h => by have := rsame_any (e.rv 11) (e.rv 12) (e.rv 0) (e.rv 14) ws (delL (takenB ts) ps) ws (delL (takenB ts) ps) w' (Sy.row_reads h (.inl ⟨_, rfl⟩)) (Sy.row_reads h (.inl ⟨_, rfl⟩)) (Sy.row_reads h (.inr rfl)) (Sy.row_reads h (.inl ⟨_, rfl⟩)); rw [decide_eq_true ⟨rfl, rfl⟩] at this; exact this) ?_
                ((repeat' ((conv => whnf);(first|refine zA ?_|(refine zI ?_ ?_<;> intro hh<;> first|(exfalso;omega)|skip)|(refine zl ?_ ?_<;> intro hh)|refine zq ?_|refine zv ?_|refine zu ?_|exact Sy.fin_val fun e=>rfl)));(all_goals (try conv => whnf)))
                refine Sy.call_val (.c (.v (.bool true))) Try.call18 rfl (fun e a w' h => by have := rsame_any (e.rv 4) (e.rv 5) (e.rv 0) (e.rv 1) ws ps ws ps w' (Sy.row_reads h (.inl ⟨_, rfl⟩)) (Sy.row_reads h (.inl ⟨_, rfl⟩)) (Sy.row_reads h (.inr rfl)) (Sy.row_reads h (.inr rfl)); rw [decide_eq_true ⟨rfl, rfl⟩] at this; exact this) ?_
                ((repeat' ((conv => whnf);(first|refine zA ?_|(refine zI ?_ ?_<;> intro hh<;> first|(exfalso;omega)|skip)|(refine zl ?_ ?_<;> intro hh)|refine zq ?_|refine zv ?_|refine zu ?_|exact Sy.fin_val fun e=>rfl)));(all_goals (try conv => whnf)))
                all_goals done
              · have htV : takeV ws ps ts = ([], []) := by unfold takeV; rw [if_neg ht0]
                have htt : (takeE ws ps ts == takeE ws ps ts) = true := by rw [beq_self_eq_true]
                rw [htV]
                dsimp only
                refine Sy.call_val (.tup [.agg [.v (.slice none 0 0), .v (.slice none 0 0)], .c (.v (.int .i64 (takeE ws ps ts)))]) Try.call17 rfl (fun e a w' h => rtake_bad (e.rv 0) (e.rv 1) (e.rv 2) ws ps ts w' (Sy.row_reads h (.inr rfl)) (Sy.row_reads h (.inr rfl)) (Sy.row_reads h (.inr rfl)) (by omega) (by omega) ht0) ?_
                ((repeat' ((conv => whnf);(first|refine zA ?_|(refine zI ?_ ?_<;> intro hh<;> first|(exfalso;omega)|skip)|(refine zl ?_ ?_<;> intro hh)|refine zq ?_|refine zv ?_|refine zu ?_|exact Sy.fin_val fun e=>rfl)));(all_goals (try conv => whnf)))
                refine Sy.call_val (.c (.v (.bool true))) Try.call18 rfl (fun e a w' h => by have := rsame_any (e.rv 7) (e.rv 8) (e.rv 0) (e.rv 1) ws ps ws ps w' (Sy.row_reads h (.inl ⟨_, rfl⟩)) (Sy.row_reads h (.inl ⟨_, rfl⟩)) (Sy.row_reads h (.inr rfl)) (Sy.row_reads h (.inr rfl)); rw [decide_eq_true ⟨rfl, rfl⟩] at this; exact this) ?_
                ((repeat' ((conv => whnf);(first|refine zA ?_|(refine zI ?_ ?_<;> intro hh<;> first|(exfalso;omega)|skip)|(refine zl ?_ ?_<;> intro hh)|refine zq ?_|refine zv ?_|refine zu ?_|exact Sy.fin_val fun e=>rfl)));(all_goals (try conv => whnf)))
                refine Sy.call_val (.c (.v (.bool true))) Try.call18 rfl (fun e a w' h => by have := rsame_any (e.rv 11) (e.rv 12) (.slice none 0 0) (.slice none 0 0) ([] : List (Int × Int)) ([] : List (Int × Int)) ([] : List (Int × Int)) ([] : List (Int × Int)) w' (Sy.row_reads h (.inl ⟨_, rfl⟩)) (Sy.row_reads h (.inl ⟨_, rfl⟩)) nil_ok nil_ok; rw [decide_eq_true ⟨rfl, rfl⟩] at this; exact this) ?_
                ((repeat' ((conv => whnf);(first|refine zA ?_|(refine zI ?_ ?_<;> intro hh<;> first|(exfalso;omega)|skip)|(refine zl ?_ ?_<;> intro hh)|refine zq ?_|refine zv ?_|refine zu ?_|exact Sy.fin_val fun e=>rfl)));(all_goals (try conv => whnf)))
                refine Sy.call_val (.c (.v (.bool true))) Try.call18 rfl (fun e a w' h => by have := rsame_any (e.rv 4) (e.rv 5) (e.rv 0) (e.rv 1) ws ps ws ps w' (Sy.row_reads h (.inl ⟨_, rfl⟩)) (Sy.row_reads h (.inl ⟨_, rfl⟩)) (Sy.row_reads h (.inr rfl)) (Sy.row_reads h (.inr rfl)); rw [decide_eq_true ⟨rfl, rfl⟩] at this; exact this) ?_
                ((repeat' ((conv => whnf);(first|refine zA ?_|(refine zI ?_ ?_<;> intro hh<;> first|(exfalso;omega)|skip)|(refine zl ?_ ?_<;> intro hh)|refine zq ?_|refine zv ?_|refine zu ?_|exact Sy.fin_val fun e=>rfl)));(all_goals (try conv => whnf)))
                all_goals done
          · ((repeat' ((conv => whnf);(first|refine zA ?_|(refine zI ?_ ?_<;> intro hh<;> first|(exfalso;omega)|skip)|(refine zl ?_ ?_<;> intro hh)|refine zq ?_|refine zv ?_|refine zu ?_|exact Sy.fin_val fun e=>rfl)));(all_goals (try conv => whnf)))
            refine Sy.call_own (rlay_does ws ps ts (by omega) hz hl0) Try.call15 ?_
            ((conv => whnf);(refine And.intro ?_ (And.intro ?_ (And.intro ?_ (And.intro ?_ ?_))));(all_goals ((repeat' (first|((conv => whnf);done)|((try conv => whnf);first|exact trivial|(refine And.intro ?_ ?_)|rfl|exact fun _ _ _ h=>h|exact fun _ _ _ _=>trivial)));(all_goals (try conv => whnf))));rotate_right)
            intro _ _ _
            ((repeat' ((conv => whnf);(first|refine zA ?_|(refine zI ?_ ?_<;> intro hh<;> first|(exfalso;omega)|skip)|(refine zl ?_ ?_<;> intro hh)|refine zq ?_|refine zv ?_|refine zu ?_|exact Sy.fin_val fun e=>rfl)));(all_goals (try conv => whnf)))
            refine Sy.meet1 12 [.row 31 2 (takeV ws ps ts).1.length (.vs ((takeV ws ps ts).1.map enc2)), .row 67 2 (takeV ws ps ts).2.length (.vs ((takeV ws ps ts).2.map enc2)), .cells 26 [.row 12, .row 13]] [(10, .c (.loc 14 0)), (11, .c (.v (.int .i64 (takeE ws ps ts))))] [] Sy.tab_ok rfl ?_ ?_
            · refine Sy.draw_go [] (by kernel_rfl) ?_
              intro e0
              conv => whnf
              refine zt 0 rfl ?_
              conv => whnf
              refine zt 2 rfl ?_
              conv => whnf
              focus
                refine zd1 [1, 8] (zx rfl ?_ (zx rfl ?_ zy))
                focus
                  conv => whnf
                  refine ⟨(by repeat' ((conv => whnf);first|exact trivial|(refine And.intro ?_ ?_)|rfl)), ?_⟩
                  focus
                    refine zd1 [3, 8] (zx rfl ?_ (zx rfl ?_ zy))
                    focus
                      conv => whnf
                      refine Sy.need_of (by show (0 + ts.length) * 8 ≤ _ ∧ _; omega) ?_
                      conv => whnf
                      refine ⟨(by repeat' ((conv => whnf);first|exact trivial|(refine And.intro ?_ ?_)|rfl)), ?_⟩
                      focus
                        refine zd1 [4, 8] (zx rfl ?_ (zx rfl ?_ zy))
                        focus
                          conv => whnf
                          refine Sy.call_r2f ⟨31, 2, (takeV ws ps ts).1.length, (takeV ws ps ts).1.map enc2⟩ ⟨67, 2, (takeV ws ps ts).2.length, (takeV ws ps ts).2.map enc2⟩ (fun j => .tup [.agg [.row j, .row (j + 1)], .c (.v (.int .i64 (takeE ws ps ts)))]) Try.call16 (fun e a w' h => by (refine take_any _ _ _ ws ps ts w' ?_ ?_ ?_ (by omega) (by omega)); exact Sy.row_reads h (.inl ⟨_, rfl⟩); exact Sy.row_reads h (.inl ⟨_, rfl⟩); exact row_reads0 h rfl) ?_
                          conv => whnf
                          refine ⟨(by repeat' ((conv => whnf);first|exact trivial|(refine And.intro ?_ ?_)|rfl)), ?_⟩
                          refine zt 5 rfl ?_
                          conv => whnf
                          refine zt 6 rfl ?_
                          conv => whnf
                          refine zt 7 rfl ?_
                          conv => whnf
                          refine zd1 [8] (zx rfl ?_ zy)
                          conv => whnf
                          refine ⟨(by repeat' ((conv => whnf);first|exact trivial|(refine And.intro ?_ ?_)|rfl)), ?_⟩
                          refine zd1 [9] (zx rfl ?_ zy)
                          conv => whnf
                          refine ⟨(by repeat' ((conv => whnf);first|exact trivial|(refine And.intro ?_ ?_)|rfl)), ?_⟩
                          refine zt 10 rfl ?_
                          conv => whnf
                          refine zw ?_
                          ((repeat' (first|((conv => whnf);done)|((try conv => whnf);first|exact trivial|(refine And.intro ?_ ?_)|rfl|exact fun _ _ _ h=>h|exact fun _ _ _ _=>trivial)));(all_goals (try conv => whnf)))
                        rotate_right
                        focus
                          conv => whnf
                          refine ⟨(by repeat' ((conv => whnf);first|exact trivial|(refine And.intro ?_ ?_)|rfl)), ?_⟩
                          refine zd1 [4] (zx rfl ?_ zy)
                          conv => whnf
                          refine Sy.call_r2f ⟨31, 2, (takeV ws ps ts).1.length, (takeV ws ps ts).1.map enc2⟩ ⟨67, 2, (takeV ws ps ts).2.length, (takeV ws ps ts).2.map enc2⟩ (fun j => .tup [.agg [.row j, .row (j + 1)], .c (.v (.int .i64 (takeE ws ps ts)))]) Try.call16 (fun e a w' h => by (refine take_any _ _ _ ws ps ts w' ?_ ?_ ?_ (by omega) (by omega)); exact Sy.row_reads h (.inl ⟨_, rfl⟩); exact Sy.row_reads h (.inl ⟨_, rfl⟩); exact row_reads0 h rfl) ?_
                          conv => whnf
                          refine ⟨(by repeat' ((conv => whnf);first|exact trivial|(refine And.intro ?_ ?_)|rfl)), ?_⟩
                          refine zt 5 rfl ?_
                          conv => whnf
                          refine zt 6 rfl ?_
                          conv => whnf
                          refine zt 7 rfl ?_
                          conv => whnf
                          refine zd1 [9] (zx rfl ?_ zy)
                          conv => whnf
                          refine ⟨(by repeat' ((conv => whnf);first|exact trivial|(refine And.intro ?_ ?_)|rfl)), ?_⟩
                          refine zt 10 rfl ?_
                          conv => whnf
                          refine zw ?_
                          ((repeat' (first|((conv => whnf);done)|((try conv => whnf);first|exact trivial|(refine And.intro ?_ ?_)|rfl|exact fun _ _ _ h=>h|exact fun _ _ _ _=>trivial)));(all_goals (try conv => whnf)))
                    rotate_right
                    focus
                      conv => whnf
                      refine ⟨(by repeat' ((conv => whnf);first|exact trivial|(refine And.intro ?_ ?_)|rfl)), ?_⟩
                      refine zd1 [3] (zx rfl ?_ zy)
                      conv => whnf
                      refine Sy.need_of (by show (0 + ts.length) * 8 ≤ _ ∧ _; omega) ?_
                      conv => whnf
                      refine ⟨(by repeat' ((conv => whnf);first|exact trivial|(refine And.intro ?_ ?_)|rfl)), ?_⟩
                      refine zd1 [4] (zx rfl ?_ zy)
                      conv => whnf
                      refine Sy.call_r2f ⟨31, 2, (takeV ws ps ts).1.length, (takeV ws ps ts).1.map enc2⟩ ⟨67, 2, (takeV ws ps ts).2.length, (takeV ws ps ts).2.map enc2⟩ (fun j => .tup [.agg [.row j, .row (j + 1)], .c (.v (.int .i64 (takeE ws ps ts)))]) Try.call16 (fun e a w' h => by (refine take_any _ _ _ ws ps ts w' ?_ ?_ ?_ (by omega) (by omega)); exact Sy.row_reads h (.inl ⟨_, rfl⟩); exact Sy.row_reads h (.inl ⟨_, rfl⟩); exact row_reads0 h rfl) ?_
                      conv => whnf
                      refine ⟨(by repeat' ((conv => whnf);first|exact trivial|(refine And.intro ?_ ?_)|rfl)), ?_⟩
                      refine zt 5 rfl ?_
                      conv => whnf
                      refine zt 6 rfl ?_
                      conv => whnf
                      refine zt 7 rfl ?_
                      conv => whnf
                      refine zd1 [9] (zx rfl ?_ zy)
                      conv => whnf
                      refine ⟨(by repeat' ((conv => whnf);first|exact trivial|(refine And.intro ?_ ?_)|rfl)), ?_⟩
                      refine zt 10 rfl ?_
                      conv => whnf
                      refine zw ?_
                      ((repeat' (first|((conv => whnf);done)|((try conv => whnf);first|exact trivial|(refine And.intro ?_ ?_)|rfl|exact fun _ _ _ h=>h|exact fun _ _ _ _=>trivial)));(all_goals (try conv => whnf)))
                rotate_right
                focus
                  conv => whnf
                  refine ⟨(by repeat' ((conv => whnf);first|exact trivial|(refine And.intro ?_ ?_)|rfl)), ?_⟩
                  refine zd1 [1] (zx rfl ?_ zy)
                  conv => whnf
                  refine ⟨(by repeat' ((conv => whnf);first|exact trivial|(refine And.intro ?_ ?_)|rfl)), ?_⟩
                  refine zd1 [3] (zx rfl ?_ zy)
                  conv => whnf
                  refine Sy.need_of (by show (0 + ts.length) * 8 ≤ _ ∧ _; omega) ?_
                  conv => whnf
                  refine ⟨(by repeat' ((conv => whnf);first|exact trivial|(refine And.intro ?_ ?_)|rfl)), ?_⟩
                  refine zd1 [4] (zx rfl ?_ zy)
                  conv => whnf
                  refine Sy.call_r2f ⟨31, 2, (takeV ws ps ts).1.length, (takeV ws ps ts).1.map enc2⟩ ⟨67, 2, (takeV ws ps ts).2.length, (takeV ws ps ts).2.map enc2⟩ (fun j => .tup [.agg [.row j, .row (j + 1)], .c (.v (.int .i64 (takeE ws ps ts)))]) Try.call16 (fun e a w' h => by (refine take_any _ _ _ ws ps ts w' ?_ ?_ ?_ (by omega) (by omega)); exact Sy.row_reads h (.inl ⟨_, rfl⟩); exact Sy.row_reads h (.inl ⟨_, rfl⟩); exact row_reads0 h rfl) ?_
                  conv => whnf
                  refine ⟨(by repeat' ((conv => whnf);first|exact trivial|(refine And.intro ?_ ?_)|rfl)), ?_⟩
                  refine zt 5 rfl ?_
                  conv => whnf
                  refine zt 6 rfl ?_
                  conv => whnf
                  refine zt 7 rfl ?_
                  conv => whnf
                  refine zd1 [9] (zx rfl ?_ zy)
                  conv => whnf
                  refine ⟨(by repeat' ((conv => whnf);first|exact trivial|(refine And.intro ?_ ?_)|rfl)), ?_⟩
                  refine zt 10 rfl ?_
                  conv => whnf
                  refine zw ?_
                  ((repeat' (first|((conv => whnf);done)|((try conv => whnf);first|exact trivial|(refine And.intro ?_ ?_)|rfl|exact fun _ _ _ h=>h|exact fun _ _ _ _=>trivial)));(all_goals (try conv => whnf)))
            · conv => whnf
              ((repeat' ((conv => whnf);(first|refine zA ?_|(refine zI ?_ ?_<;> intro hh<;> first|(exfalso;omega)|skip)|(refine zl ?_ ?_<;> intro hh)|refine zq ?_|refine zv ?_|refine zu ?_|exact Sy.fin_val fun e=>rfl)));(all_goals (try conv => whnf)))
              by_cases ht0 : takeE ws ps ts = 0
              · have htV : takeV ws ps ts = (ws, (delL (takenB ts) ps)) := by unfold takeV; rw [if_pos ht0]
                rw [ht0, htV]
                dsimp only
                refine Sy.call_own (rtake_does ws ps ts (by omega) ht0) Try.call17 ?_
                ((conv => whnf);(refine And.intro ?_ (And.intro ?_ (And.intro ?_ (And.intro ?_ ?_))));(all_goals ((repeat' (first|((conv => whnf);done)|((try conv => whnf);first|exact trivial|(refine And.intro ?_ ?_)|rfl|exact fun _ _ _ h=>h|exact fun _ _ _ _=>trivial)));(all_goals (try conv => whnf))));rotate_right)
                intro _ _ _
                ((repeat' ((conv => whnf);(first|refine zA ?_|(refine zI ?_ ?_<;> intro hh<;> first|(exfalso;omega)|skip)|(refine zl ?_ ?_<;> intro hh)|refine zq ?_|refine zv ?_|refine zu ?_|exact Sy.fin_val fun e=>rfl)));(all_goals (try conv => whnf)))
                refine Sy.call_val (.c (.v (.bool true))) Try.call18 rfl (fun e a w' h => by have := rsame_any (e.rv 7) (e.rv 8) (e.rv 0) (e.rv 10) ws (layL ws ps ts) ws (layL ws ps ts) w' (Sy.row_reads h (.inl ⟨_, rfl⟩)) (Sy.row_reads h (.inl ⟨_, rfl⟩)) (Sy.row_reads h (.inr rfl)) (Sy.row_reads h (.inl ⟨_, rfl⟩)); rw [decide_eq_true ⟨rfl, rfl⟩] at this; exact this) ?_
                ((repeat' ((conv => whnf);(first|refine zA ?_|(refine zI ?_ ?_<;> intro hh<;> first|(exfalso;omega)|skip)|(refine zl ?_ ?_<;> intro hh)|refine zq ?_|refine zv ?_|refine zu ?_|exact Sy.fin_val fun e=>rfl)));(all_goals (try conv => whnf)))
                refine Sy.call_val (.c (.v (.bool true))) Try.call18 rfl (fun e a w' h => by have := rsame_any (e.rv 12) (e.rv 13) (e.rv 0) (e.rv 15) ws (delL (takenB ts) ps) ws (delL (takenB ts) ps) w' (Sy.row_reads h (.inl ⟨_, rfl⟩)) (Sy.row_reads h (.inl ⟨_, rfl⟩)) (Sy.row_reads h (.inr rfl)) (Sy.row_reads h (.inl ⟨_, rfl⟩)); rw [decide_eq_true ⟨rfl, rfl⟩] at this; exact this) ?_
                ((repeat' ((conv => whnf);(first|refine zA ?_|(refine zI ?_ ?_<;> intro hh<;> first|(exfalso;omega)|skip)|(refine zl ?_ ?_<;> intro hh)|refine zq ?_|refine zv ?_|refine zu ?_|exact Sy.fin_val fun e=>rfl)));(all_goals (try conv => whnf)))
                refine Sy.call_val (.c (.v (.bool true))) Try.call18 rfl (fun e a w' h => by have := rsame_any (e.rv 4) (e.rv 5) (e.rv 0) (e.rv 1) ws ps ws ps w' (Sy.row_reads h (.inl ⟨_, rfl⟩)) (Sy.row_reads h (.inl ⟨_, rfl⟩)) (Sy.row_reads h (.inr rfl)) (Sy.row_reads h (.inr rfl)); rw [decide_eq_true ⟨rfl, rfl⟩] at this; exact this) ?_
                ((repeat' ((conv => whnf);(first|refine zA ?_|(refine zI ?_ ?_<;> intro hh<;> first|(exfalso;omega)|skip)|(refine zl ?_ ?_<;> intro hh)|refine zq ?_|refine zv ?_|refine zu ?_|exact Sy.fin_val fun e=>rfl)));(all_goals (try conv => whnf)))
                all_goals done
              · have htV : takeV ws ps ts = ([], []) := by unfold takeV; rw [if_neg ht0]
                have htt : (takeE ws ps ts == takeE ws ps ts) = true := by rw [beq_self_eq_true]
                rw [htV]
                dsimp only
                refine Sy.call_val (.tup [.agg [.v (.slice none 0 0), .v (.slice none 0 0)], .c (.v (.int .i64 (takeE ws ps ts)))]) Try.call17 rfl (fun e a w' h => rtake_bad (e.rv 0) (e.rv 1) (e.rv 2) ws ps ts w' (Sy.row_reads h (.inr rfl)) (Sy.row_reads h (.inr rfl)) (Sy.row_reads h (.inr rfl)) (by omega) (by omega) ht0) ?_
                ((repeat' ((conv => whnf);(first|refine zA ?_|(refine zI ?_ ?_<;> intro hh<;> first|(exfalso;omega)|skip)|(refine zl ?_ ?_<;> intro hh)|refine zq ?_|refine zv ?_|refine zu ?_|exact Sy.fin_val fun e=>rfl)));(all_goals (try conv => whnf)))
                refine Sy.call_val (.c (.v (.bool true))) Try.call18 rfl (fun e a w' h => by have := rsame_any (e.rv 7) (e.rv 8) (e.rv 0) (e.rv 10) ws (layL ws ps ts) ws (layL ws ps ts) w' (Sy.row_reads h (.inl ⟨_, rfl⟩)) (Sy.row_reads h (.inl ⟨_, rfl⟩)) (Sy.row_reads h (.inr rfl)) (Sy.row_reads h (.inl ⟨_, rfl⟩)); rw [decide_eq_true ⟨rfl, rfl⟩] at this; exact this) ?_
                ((repeat' ((conv => whnf);(first|refine zA ?_|(refine zI ?_ ?_<;> intro hh<;> first|(exfalso;omega)|skip)|(refine zl ?_ ?_<;> intro hh)|refine zq ?_|refine zv ?_|refine zu ?_|exact Sy.fin_val fun e=>rfl)));(all_goals (try conv => whnf)))
                refine Sy.call_val (.c (.v (.bool true))) Try.call18 rfl (fun e a w' h => by have := rsame_any (e.rv 12) (e.rv 13) (.slice none 0 0) (.slice none 0 0) ([] : List (Int × Int)) ([] : List (Int × Int)) ([] : List (Int × Int)) ([] : List (Int × Int)) w' (Sy.row_reads h (.inl ⟨_, rfl⟩)) (Sy.row_reads h (.inl ⟨_, rfl⟩)) nil_ok nil_ok; rw [decide_eq_true ⟨rfl, rfl⟩] at this; exact this) ?_
                ((repeat' ((conv => whnf);(first|refine zA ?_|(refine zI ?_ ?_<;> intro hh<;> first|(exfalso;omega)|skip)|(refine zl ?_ ?_<;> intro hh)|refine zq ?_|refine zv ?_|refine zu ?_|exact Sy.fin_val fun e=>rfl)));(all_goals (try conv => whnf)))
                refine Sy.call_val (.c (.v (.bool true))) Try.call18 rfl (fun e a w' h => by have := rsame_any (e.rv 4) (e.rv 5) (e.rv 0) (e.rv 1) ws ps ws ps w' (Sy.row_reads h (.inl ⟨_, rfl⟩)) (Sy.row_reads h (.inl ⟨_, rfl⟩)) (Sy.row_reads h (.inr rfl)) (Sy.row_reads h (.inr rfl)); rw [decide_eq_true ⟨rfl, rfl⟩] at this; exact this) ?_
                ((repeat' ((conv => whnf);(first|refine zA ?_|(refine zI ?_ ?_<;> intro hh<;> first|(exfalso;omega)|skip)|(refine zl ?_ ?_<;> intro hh)|refine zq ?_|refine zv ?_|refine zu ?_|exact Sy.fin_val fun e=>rfl)));(all_goals (try conv => whnf)))
                all_goals done
        · have hlV : layV ws ps ts = ([], []) := by unfold layV; rw [if_neg hl0]
          have hll : (layE ws ps ts == layE ws ps ts) = true := by rw [beq_self_eq_true]
          rw [hlV]
          dsimp only
          ((repeat' ((conv => whnf);(first|refine zA ?_|(refine zI ?_ ?_<;> intro hh<;> first|(exfalso;omega)|skip)|(refine zl ?_ ?_<;> intro hh)|refine zq ?_|refine zv ?_|refine zu ?_|exact Sy.fin_val fun e=>rfl)));(all_goals (try conv => whnf)))
          refine Sy.call_val (.tup [.agg [.v (.slice none 0 0), .v (.slice none 0 0)], .c (.v (.int .i64 (layE ws ps ts)))]) Try.call15 rfl (fun e a w' h => rlay_bad (e.rv 0) (e.rv 1) (e.rv 2) ws ps ts w' (Sy.row_reads h (.inr rfl)) (Sy.row_reads h (.inr rfl)) (Sy.row_reads h (.inr rfl)) (by omega) (by omega) hl0) ?_
          ((repeat' ((conv => whnf);(first|refine zA ?_|(refine zI ?_ ?_<;> intro hh<;> first|(exfalso;omega)|skip)|(refine zl ?_ ?_<;> intro hh)|refine zq ?_|refine zv ?_|refine zu ?_|exact Sy.fin_val fun e=>rfl)));(all_goals (try conv => whnf)))
          refine Sy.meet1 11 [.row 31 2 (takeV ws ps ts).1.length (.vs ((takeV ws ps ts).1.map enc2)), .row 67 2 (takeV ws ps ts).2.length (.vs ((takeV ws ps ts).2.map enc2)), .cells 26 [.row 11, .row 12]] [(10, .c (.loc 13 0)), (11, .c (.v (.int .i64 (takeE ws ps ts))))] [] Sy.tab_ok rfl ?_ ?_
          · refine Sy.draw_go [] (by kernel_rfl) ?_
            intro e0
            conv => whnf
            refine zt 0 rfl ?_
            conv => whnf
            refine zt 2 rfl ?_
            conv => whnf
            focus
              refine zd1 [1, 8] (zx rfl ?_ (zx rfl ?_ zy))
              focus
                conv => whnf
                refine ⟨(by repeat' ((conv => whnf);first|exact trivial|(refine And.intro ?_ ?_)|rfl)), ?_⟩
                focus
                  refine zd1 [3, 8] (zx rfl ?_ (zx rfl ?_ zy))
                  focus
                    conv => whnf
                    refine Sy.need_of (by show (0 + ts.length) * 8 ≤ _ ∧ _; omega) ?_
                    conv => whnf
                    refine ⟨(by repeat' ((conv => whnf);first|exact trivial|(refine And.intro ?_ ?_)|rfl)), ?_⟩
                    focus
                      refine zd1 [4, 8] (zx rfl ?_ (zx rfl ?_ zy))
                      focus
                        conv => whnf
                        refine Sy.call_r2f ⟨31, 2, (takeV ws ps ts).1.length, (takeV ws ps ts).1.map enc2⟩ ⟨67, 2, (takeV ws ps ts).2.length, (takeV ws ps ts).2.map enc2⟩ (fun j => .tup [.agg [.row j, .row (j + 1)], .c (.v (.int .i64 (takeE ws ps ts)))]) Try.call16 (fun e a w' h => by (refine take_any _ _ _ ws ps ts w' ?_ ?_ ?_ (by omega) (by omega)); exact Sy.row_reads h (.inl ⟨_, rfl⟩); exact Sy.row_reads h (.inl ⟨_, rfl⟩); exact row_reads0 h rfl) ?_
                        conv => whnf
                        refine ⟨(by repeat' ((conv => whnf);first|exact trivial|(refine And.intro ?_ ?_)|rfl)), ?_⟩
                        refine zt 5 rfl ?_
                        conv => whnf
                        refine zt 6 rfl ?_
                        conv => whnf
                        refine zt 7 rfl ?_
                        conv => whnf
                        refine zd1 [8] (zx rfl ?_ zy)
                        conv => whnf
                        refine ⟨(by repeat' ((conv => whnf);first|exact trivial|(refine And.intro ?_ ?_)|rfl)), ?_⟩
                        refine zd1 [9] (zx rfl ?_ zy)
                        conv => whnf
                        refine ⟨(by repeat' ((conv => whnf);first|exact trivial|(refine And.intro ?_ ?_)|rfl)), ?_⟩
                        refine zt 10 rfl ?_
                        conv => whnf
                        refine zw ?_
                        ((repeat' (first|((conv => whnf);done)|((try conv => whnf);first|exact trivial|(refine And.intro ?_ ?_)|rfl|exact fun _ _ _ h=>h|exact fun _ _ _ _=>trivial)));(all_goals (try conv => whnf)))
                      rotate_right
                      focus
                        conv => whnf
                        refine ⟨(by repeat' ((conv => whnf);first|exact trivial|(refine And.intro ?_ ?_)|rfl)), ?_⟩
                        refine zd1 [4] (zx rfl ?_ zy)
                        conv => whnf
                        refine Sy.call_r2f ⟨31, 2, (takeV ws ps ts).1.length, (takeV ws ps ts).1.map enc2⟩ ⟨67, 2, (takeV ws ps ts).2.length, (takeV ws ps ts).2.map enc2⟩ (fun j => .tup [.agg [.row j, .row (j + 1)], .c (.v (.int .i64 (takeE ws ps ts)))]) Try.call16 (fun e a w' h => by (refine take_any _ _ _ ws ps ts w' ?_ ?_ ?_ (by omega) (by omega)); exact Sy.row_reads h (.inl ⟨_, rfl⟩); exact Sy.row_reads h (.inl ⟨_, rfl⟩); exact row_reads0 h rfl) ?_
                        conv => whnf
                        refine ⟨(by repeat' ((conv => whnf);first|exact trivial|(refine And.intro ?_ ?_)|rfl)), ?_⟩
                        refine zt 5 rfl ?_
                        conv => whnf
                        refine zt 6 rfl ?_
                        conv => whnf
                        refine zt 7 rfl ?_
                        conv => whnf
                        refine zd1 [9] (zx rfl ?_ zy)
                        conv => whnf
                        refine ⟨(by repeat' ((conv => whnf);first|exact trivial|(refine And.intro ?_ ?_)|rfl)), ?_⟩
                        refine zt 10 rfl ?_
                        conv => whnf
                        refine zw ?_
                        ((repeat' (first|((conv => whnf);done)|((try conv => whnf);first|exact trivial|(refine And.intro ?_ ?_)|rfl|exact fun _ _ _ h=>h|exact fun _ _ _ _=>trivial)));(all_goals (try conv => whnf)))
                  rotate_right
                  focus
                    conv => whnf
                    refine ⟨(by repeat' ((conv => whnf);first|exact trivial|(refine And.intro ?_ ?_)|rfl)), ?_⟩
                    refine zd1 [3] (zx rfl ?_ zy)
                    conv => whnf
                    refine Sy.need_of (by show (0 + ts.length) * 8 ≤ _ ∧ _; omega) ?_
                    conv => whnf
                    refine ⟨(by repeat' ((conv => whnf);first|exact trivial|(refine And.intro ?_ ?_)|rfl)), ?_⟩
                    refine zd1 [4] (zx rfl ?_ zy)
                    conv => whnf
                    refine Sy.call_r2f ⟨31, 2, (takeV ws ps ts).1.length, (takeV ws ps ts).1.map enc2⟩ ⟨67, 2, (takeV ws ps ts).2.length, (takeV ws ps ts).2.map enc2⟩ (fun j => .tup [.agg [.row j, .row (j + 1)], .c (.v (.int .i64 (takeE ws ps ts)))]) Try.call16 (fun e a w' h => by (refine take_any _ _ _ ws ps ts w' ?_ ?_ ?_ (by omega) (by omega)); exact Sy.row_reads h (.inl ⟨_, rfl⟩); exact Sy.row_reads h (.inl ⟨_, rfl⟩); exact row_reads0 h rfl) ?_
                    conv => whnf
                    refine ⟨(by repeat' ((conv => whnf);first|exact trivial|(refine And.intro ?_ ?_)|rfl)), ?_⟩
                    refine zt 5 rfl ?_
                    conv => whnf
                    refine zt 6 rfl ?_
                    conv => whnf
                    refine zt 7 rfl ?_
                    conv => whnf
                    refine zd1 [9] (zx rfl ?_ zy)
                    conv => whnf
                    refine ⟨(by repeat' ((conv => whnf);first|exact trivial|(refine And.intro ?_ ?_)|rfl)), ?_⟩
                    refine zt 10 rfl ?_
                    conv => whnf
                    refine zw ?_
                    ((repeat' (first|((conv => whnf);done)|((try conv => whnf);first|exact trivial|(refine And.intro ?_ ?_)|rfl|exact fun _ _ _ h=>h|exact fun _ _ _ _=>trivial)));(all_goals (try conv => whnf)))
              rotate_right
              focus
                conv => whnf
                refine ⟨(by repeat' ((conv => whnf);first|exact trivial|(refine And.intro ?_ ?_)|rfl)), ?_⟩
                refine zd1 [1] (zx rfl ?_ zy)
                conv => whnf
                refine ⟨(by repeat' ((conv => whnf);first|exact trivial|(refine And.intro ?_ ?_)|rfl)), ?_⟩
                refine zd1 [3] (zx rfl ?_ zy)
                conv => whnf
                refine Sy.need_of (by show (0 + ts.length) * 8 ≤ _ ∧ _; omega) ?_
                conv => whnf
                refine ⟨(by repeat' ((conv => whnf);first|exact trivial|(refine And.intro ?_ ?_)|rfl)), ?_⟩
                refine zd1 [4] (zx rfl ?_ zy)
                conv => whnf
                refine Sy.call_r2f ⟨31, 2, (takeV ws ps ts).1.length, (takeV ws ps ts).1.map enc2⟩ ⟨67, 2, (takeV ws ps ts).2.length, (takeV ws ps ts).2.map enc2⟩ (fun j => .tup [.agg [.row j, .row (j + 1)], .c (.v (.int .i64 (takeE ws ps ts)))]) Try.call16 (fun e a w' h => by (refine take_any _ _ _ ws ps ts w' ?_ ?_ ?_ (by omega) (by omega)); exact Sy.row_reads h (.inl ⟨_, rfl⟩); exact Sy.row_reads h (.inl ⟨_, rfl⟩); exact row_reads0 h rfl) ?_
                conv => whnf
                refine ⟨(by repeat' ((conv => whnf);first|exact trivial|(refine And.intro ?_ ?_)|rfl)), ?_⟩
                refine zt 5 rfl ?_
                conv => whnf
                refine zt 6 rfl ?_
                conv => whnf
                refine zt 7 rfl ?_
                conv => whnf
                refine zd1 [9] (zx rfl ?_ zy)
                conv => whnf
                refine ⟨(by repeat' ((conv => whnf);first|exact trivial|(refine And.intro ?_ ?_)|rfl)), ?_⟩
                refine zt 10 rfl ?_
                conv => whnf
                refine zw ?_
                ((repeat' (first|((conv => whnf);done)|((try conv => whnf);first|exact trivial|(refine And.intro ?_ ?_)|rfl|exact fun _ _ _ h=>h|exact fun _ _ _ _=>trivial)));(all_goals (try conv => whnf)))
          · conv => whnf
            ((repeat' ((conv => whnf);(first|refine zA ?_|(refine zI ?_ ?_<;> intro hh<;> first|(exfalso;omega)|skip)|(refine zl ?_ ?_<;> intro hh)|refine zq ?_|refine zv ?_|refine zu ?_|exact Sy.fin_val fun e=>rfl)));(all_goals (try conv => whnf)))
            by_cases ht0 : takeE ws ps ts = 0
            · have htV : takeV ws ps ts = (ws, (delL (takenB ts) ps)) := by unfold takeV; rw [if_pos ht0]
              rw [ht0, htV]
              dsimp only
              refine Sy.call_own (rtake_does ws ps ts (by omega) ht0) Try.call17 ?_
              ((conv => whnf);(refine And.intro ?_ (And.intro ?_ (And.intro ?_ (And.intro ?_ ?_))));(all_goals ((repeat' (first|((conv => whnf);done)|((try conv => whnf);first|exact trivial|(refine And.intro ?_ ?_)|rfl|exact fun _ _ _ h=>h|exact fun _ _ _ _=>trivial)));(all_goals (try conv => whnf))));rotate_right)
              intro _ _ _
              ((repeat' ((conv => whnf);(first|refine zA ?_|(refine zI ?_ ?_<;> intro hh<;> first|(exfalso;omega)|skip)|(refine zl ?_ ?_<;> intro hh)|refine zq ?_|refine zv ?_|refine zu ?_|exact Sy.fin_val fun e=>rfl)));(all_goals (try conv => whnf)))
              refine Sy.call_val (.c (.v (.bool true))) Try.call18 rfl (fun e a w' h => by have := rsame_any (e.rv 7) (e.rv 8) (.slice none 0 0) (.slice none 0 0) ([] : List (Int × Int)) ([] : List (Int × Int)) ([] : List (Int × Int)) ([] : List (Int × Int)) w' (Sy.row_reads h (.inl ⟨_, rfl⟩)) (Sy.row_reads h (.inl ⟨_, rfl⟩)) nil_ok nil_ok; rw [decide_eq_true ⟨rfl, rfl⟩] at this; exact this) ?_
              ((repeat' ((conv => whnf);(first|refine zA ?_|(refine zI ?_ ?_<;> intro hh<;> first|(exfalso;omega)|skip)|(refine zl ?_ ?_<;> intro hh)|refine zq ?_|refine zv ?_|refine zu ?_|exact Sy.fin_val fun e=>rfl)));(all_goals (try conv => whnf)))
              refine Sy.call_val (.c (.v (.bool true))) Try.call18 rfl (fun e a w' h => by have := rsame_any (e.rv 11) (e.rv 12) (e.rv 0) (e.rv 14) ws (delL (takenB ts) ps) ws (delL (takenB ts) ps) w' (Sy.row_reads h (.inl ⟨_, rfl⟩)) (Sy.row_reads h (.inl ⟨_, rfl⟩)) (Sy.row_reads h (.inr rfl)) (Sy.row_reads h (.inl ⟨_, rfl⟩)); rw [decide_eq_true ⟨rfl, rfl⟩] at this; exact this) ?_
              ((repeat' ((conv => whnf);(first|refine zA ?_|(refine zI ?_ ?_<;> intro hh<;> first|(exfalso;omega)|skip)|(refine zl ?_ ?_<;> intro hh)|refine zq ?_|refine zv ?_|refine zu ?_|exact Sy.fin_val fun e=>rfl)));(all_goals (try conv => whnf)))
              refine Sy.call_val (.c (.v (.bool true))) Try.call18 rfl (fun e a w' h => by have := rsame_any (e.rv 4) (e.rv 5) (e.rv 0) (e.rv 1) ws ps ws ps w' (Sy.row_reads h (.inl ⟨_, rfl⟩)) (Sy.row_reads h (.inl ⟨_, rfl⟩)) (Sy.row_reads h (.inr rfl)) (Sy.row_reads h (.inr rfl)); rw [decide_eq_true ⟨rfl, rfl⟩] at this; exact this) ?_
              ((repeat' ((conv => whnf);(first|refine zA ?_|(refine zI ?_ ?_<;> intro hh<;> first|(exfalso;omega)|skip)|(refine zl ?_ ?_<;> intro hh)|refine zq ?_|refine zv ?_|refine zu ?_|exact Sy.fin_val fun e=>rfl)));(all_goals (try conv => whnf)))
              all_goals done
            · have htV : takeV ws ps ts = ([], []) := by unfold takeV; rw [if_neg ht0]
              have htt : (takeE ws ps ts == takeE ws ps ts) = true := by rw [beq_self_eq_true]
              rw [htV]
              dsimp only
              refine Sy.call_val (.tup [.agg [.v (.slice none 0 0), .v (.slice none 0 0)], .c (.v (.int .i64 (takeE ws ps ts)))]) Try.call17 rfl (fun e a w' h => rtake_bad (e.rv 0) (e.rv 1) (e.rv 2) ws ps ts w' (Sy.row_reads h (.inr rfl)) (Sy.row_reads h (.inr rfl)) (Sy.row_reads h (.inr rfl)) (by omega) (by omega) ht0) ?_
              ((repeat' ((conv => whnf);(first|refine zA ?_|(refine zI ?_ ?_<;> intro hh<;> first|(exfalso;omega)|skip)|(refine zl ?_ ?_<;> intro hh)|refine zq ?_|refine zv ?_|refine zu ?_|exact Sy.fin_val fun e=>rfl)));(all_goals (try conv => whnf)))
              refine Sy.call_val (.c (.v (.bool true))) Try.call18 rfl (fun e a w' h => by have := rsame_any (e.rv 7) (e.rv 8) (.slice none 0 0) (.slice none 0 0) ([] : List (Int × Int)) ([] : List (Int × Int)) ([] : List (Int × Int)) ([] : List (Int × Int)) w' (Sy.row_reads h (.inl ⟨_, rfl⟩)) (Sy.row_reads h (.inl ⟨_, rfl⟩)) nil_ok nil_ok; rw [decide_eq_true ⟨rfl, rfl⟩] at this; exact this) ?_
              ((repeat' ((conv => whnf);(first|refine zA ?_|(refine zI ?_ ?_<;> intro hh<;> first|(exfalso;omega)|skip)|(refine zl ?_ ?_<;> intro hh)|refine zq ?_|refine zv ?_|refine zu ?_|exact Sy.fin_val fun e=>rfl)));(all_goals (try conv => whnf)))
              refine Sy.call_val (.c (.v (.bool true))) Try.call18 rfl (fun e a w' h => by have := rsame_any (e.rv 11) (e.rv 12) (.slice none 0 0) (.slice none 0 0) ([] : List (Int × Int)) ([] : List (Int × Int)) ([] : List (Int × Int)) ([] : List (Int × Int)) w' (Sy.row_reads h (.inl ⟨_, rfl⟩)) (Sy.row_reads h (.inl ⟨_, rfl⟩)) nil_ok nil_ok; rw [decide_eq_true ⟨rfl, rfl⟩] at this; exact this) ?_
              ((repeat' ((conv => whnf);(first|refine zA ?_|(refine zI ?_ ?_<;> intro hh<;> first|(exfalso;omega)|skip)|(refine zl ?_ ?_<;> intro hh)|refine zq ?_|refine zv ?_|refine zu ?_|exact Sy.fin_val fun e=>rfl)));(all_goals (try conv => whnf)))
              refine Sy.call_val (.c (.v (.bool true))) Try.call18 rfl (fun e a w' h => by have := rsame_any (e.rv 4) (e.rv 5) (e.rv 0) (e.rv 1) ws ps ws ps w' (Sy.row_reads h (.inl ⟨_, rfl⟩)) (Sy.row_reads h (.inl ⟨_, rfl⟩)) (Sy.row_reads h (.inr rfl)) (Sy.row_reads h (.inr rfl)); rw [decide_eq_true ⟨rfl, rfl⟩] at this; exact this) ?_
              ((repeat' ((conv => whnf);(first|refine zA ?_|(refine zI ?_ ?_<;> intro hh<;> first|(exfalso;omega)|skip)|(refine zl ?_ ?_<;> intro hh)|refine zq ?_|refine zv ?_|refine zu ?_|exact Sy.fin_val fun e=>rfl)));(all_goals (try conv => whnf)))
              all_goals done
    · ((repeat' ((conv => whnf);(first|refine zA ?_|(refine zI ?_ ?_<;> intro hh<;> first|(exfalso;omega)|skip)|(refine zl ?_ ?_<;> intro hh)|refine zq ?_|refine zv ?_|refine zu ?_|exact Sy.fin_val fun e=>rfl)));(all_goals (try conv => whnf)))
      all_goals done
  · ((repeat' ((conv => whnf);(first|refine zA ?_|(refine zI ?_ ?_<;> intro hh<;> first|(exfalso;omega)|skip)|(refine zl ?_ ?_<;> intro hh)|refine zq ?_|refine zv ?_|refine zu ?_|exact Sy.fin_val fun e=>rfl)));(all_goals (try conv => whnf)))
    all_goals done
end Go.Proofs.Ytjhjmeajdebcbaa
