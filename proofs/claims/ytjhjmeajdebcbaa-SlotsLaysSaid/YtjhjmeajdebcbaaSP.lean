/- Slots: Lay. -/
import Derived.Test.YtjhjmeajdebcbaaSA
import Derived.Test.YtjhjmeajdebcbaaSC
import Derived.Test.YtjhjmeajdebcbaaSN
import Derived.Test.YtjhjmeajdebcbaaSPa
import Derived.Test.YtjhjmeajdebcbaaIdxI
namespace Go.Proofs.Ytjhjmeajdebcbaa
open Go Go.RowKit
open Sy (C SV V1 Blk St XD Els)
set_option maxRecDepth 10000

/-- One more task is laid; so many. -/
def layS (ws ps : List (Int × Int)) (t : Int) : List (Int × Int) := insS ps (t, (widL (frL ws ps)).1)
def layL (ws ps : List (Int × Int)) (ts : List Int) : List (Int × Int) := ts.foldl (layS ws) ps
def LyT (ts : List Int) : Prop := ∀ t ∈ ts, okT t
def LyN (ps : List (Int × Int)) (ts : List Int) : Prop := ts.Nodup ∧ ∀ p ∈ ps, p.1 ∉ ts
instance (ts : List Int) : Decidable (LyT ts) := by unfold LyT; infer_instance
instance (ps : List (Int × Int)) (ts : List Int) : Decidable (LyN ps ts) := by unfold LyN; infer_instance
def layE (ws ps : List (Int × Int)) (ts : List Int) : Int := if FlOk ws ps then (if LyT ts then (if LyN ps ts then (if sumL (frL ws ps) < ts.length then 6 else 0) else 5) else 2) else 210
def layV (ws ps : List (Int × Int)) (ts : List Int) : List (Int × Int) × List (Int × Int) := if layE ws ps ts = 0 then (ws, layL ws ps ts) else ([], [])
theorem layL_snoc (ws ps : List (Int × Int)) (ts : List Int) (t : Int) : layL ws ps (ts ++ [t]) = layS ws (layL ws ps ts) t := by unfold layL; rw [List.foldl_append]; rfl
attribute [local irreducible] mpI frL cntW okW okT FlOk hasW insS LyT LyN sumL layS layL widL
set_option maxHeartbeats 2000000 in
theorem lay_any (u v x : Value) (ws ps : List (Int × Int)) (ts : List Int) (w : World) (hu : XD.ok (fun b => b < w.heap.size) w ⟨u, 2, ws.length, ws.map enc2⟩) (hv : XD.ok (fun b => b < w.heap.size) w ⟨v, 2, ps.length, ps.map enc2⟩) (hx : XD.ok (fun b => b < w.heap.size) w ⟨x, 1, ts.length, ts.map encI⟩) (hb : ps.length ≤ 1000) (hbt : ts.length ≤ 1000) :
    Calls Try.prog 11 #[.agg #[u, v], x] w (Sy.RetRows Sy.noRow (fun _ : Unit => True) (fun _ => [⟨31, 2, (layV ws ps ts).1.length, (layV ws ps ts).1.map enc2⟩, ⟨67, 2, (layV ws ps ts).2.length, (layV ws ps ts).2.map enc2⟩]) (fun _ vs => .tuple #[.agg #[vs.headD undef, (vs.drop 1).headD undef], .int .i64 (layE ws ps ts)]) w) := by
  have hE : layE ws ps ts = if FlOk ws ps then (if LyT ts then (if LyN ps ts then (if sumL (frL ws ps) < ts.length then 6 else 0) else 5) else 2) else 210 := rfl
  have hV : layV ws ps ts = if layE ws ps ts = 0 then (ws, layL ws ps ts) else ([], []) := rfl
  refine Sy.calls_of Sy.lv11 Sy.tab_ok Try.func11 rfl _ Try.ntmps11 [⟨u, 2, ws.length, ws.map enc2⟩, ⟨v, 2, ps.length, ps.map enc2⟩, ⟨x, 1, ts.length, ts.map encI⟩] [.agg [.row 0, .row 1], .c (.row 2)] rfl rfl rfl ⟨hu, hv, hx, trivial⟩ ?_
  ((repeat' ((conv => whnf);(first|refine zA ?_|(refine zI ?_ ?_<;> intro hh<;> first|(exfalso;omega)|skip)|(refine zl ?_ ?_<;> intro hh)|refine zq ?_|refine zv ?_|refine zu ?_|exact Sy.fin_val fun e=>rfl)));(all_goals (try conv => whnf)))
  refine Sy.call_in Sy.lv31 Sy.tab_ok Try.func31 rfl _ Try.ntmps31 Try.call31 rfl (fun _ => ?_)
  ((repeat' ((conv => whnf);(first|refine zA ?_|(refine zI ?_ ?_<;> intro hh<;> first|(exfalso;omega)|skip)|(refine zl ?_ ?_<;> intro hh)|refine zq ?_|refine zv ?_|refine zu ?_|exact Sy.fin_val fun e=>rfl)));(all_goals (try conv => whnf)))
  refine Sy.call_val (.c (.v (.int .i64 (chkE ws ps)))) Try.call20 rfl (fun e a w' h => check_any (e.rv 0) (e.rv 1) ws ps w' (Sy.row_reads h (.inr rfl)) (Sy.row_reads h (.inr rfl)) hb) ?_
  by_cases hok : FlOk ws ps
  · obtain ⟨hwl, hpl⟩ := ok_lens hok
    have hasc : asc ps := by unfold FlOk at hok; exact hok.2.1.2
    rw [show chkE ws ps = 0 from if_pos hok]
    rw [if_pos hok] at hE
    ((repeat' ((conv => whnf);(first|refine zA ?_|(refine zI ?_ ?_<;> intro hh<;> first|(exfalso;omega)|skip)|(refine zl ?_ ?_<;> intro hh)|refine zq ?_|refine zv ?_|refine zu ?_|exact Sy.fin_val fun e=>rfl)));(all_goals (try conv => whnf)))
    refine Sy.meet1 9 [.row 31 2 ws.length (.vs (ws.map enc2)), .row 67 2 ps.length (.vs (ps.map enc2)), .cells 26 [.row 9, .row 10]] [(7, .c (.loc 11 0))] [] Sy.tab_ok rfl ?_ ?_
    · refine Sy.draw_go [] (by kernel_rfl) ?_
      intro e0
      conv => whnf
      refine zt 0 rfl ?_
      conv => whnf
      refine zt 1 rfl ?_
      conv => whnf
      refine zt 3 rfl ?_
      conv => whnf
      refine zt 4 rfl ?_
      conv => whnf
      focus
        refine zd1 [2, 7] (zx rfl ?_ (zx rfl ?_ zy))
        focus
          conv => whnf
          refine Sy.call_r1 ⟨31, 2, ws.length, ws.map enc2⟩ (fun j => .c (.row j)) Try.call62 (fun e a w' h => cloneW_any (e.rv 0) ws w' (Sy.row_reads h (.inr rfl)) (by omega)) ?_
          conv => whnf
          refine ⟨(by repeat' ((conv => whnf);first|exact trivial|(refine And.intro ?_ ?_)|rfl)), ?_⟩
          focus
            refine zd1 [5, 7] (zx rfl ?_ (zx rfl ?_ zy))
            focus
              conv => whnf
              refine Sy.call_r1 ⟨67, 2, ps.length, ps.map enc2⟩ (fun j => .c (.row j)) Try.call63 (fun e a w' h => cloneP_any (e.rv 1) ps w' (Sy.row_reads h (.inr rfl)) (by omega)) ?_
              conv => whnf
              refine ⟨(by repeat' ((conv => whnf);first|exact trivial|(refine And.intro ?_ ?_)|rfl)), ?_⟩
              refine zt 6 rfl ?_
              conv => whnf
              refine zd1 [7] (zx rfl ?_ zy)
              conv => whnf
              refine ⟨(by repeat' ((conv => whnf);first|exact trivial|(refine And.intro ?_ ?_)|rfl)), ?_⟩
              refine zd1 [8] (zx rfl ?_ zy)
              conv => whnf
              refine ⟨(by repeat' ((conv => whnf);first|exact trivial|(refine And.intro ?_ ?_)|rfl)), ?_⟩
              refine zw ?_
              ((repeat' (first|((conv => whnf);done)|((try conv => whnf);first|exact trivial|(refine And.intro ?_ ?_)|rfl|exact fun _ _ _ h=>h|exact fun _ _ _ _=>trivial)));(all_goals (try conv => whnf)))
            rotate_right
            focus
              conv => whnf
              refine ⟨(by repeat' ((conv => whnf);first|exact trivial|(refine And.intro ?_ ?_)|rfl)), ?_⟩
              refine zd1 [5] (zx rfl ?_ zy)
              conv => whnf
              refine Sy.call_r1 ⟨67, 2, ps.length, ps.map enc2⟩ (fun j => .c (.row j)) Try.call63 (fun e a w' h => cloneP_any (e.rv 1) ps w' (Sy.row_reads h (.inr rfl)) (by omega)) ?_
              conv => whnf
              refine ⟨(by repeat' ((conv => whnf);first|exact trivial|(refine And.intro ?_ ?_)|rfl)), ?_⟩
              refine zt 6 rfl ?_
              conv => whnf
              refine zd1 [8] (zx rfl ?_ zy)
              conv => whnf
              refine ⟨(by repeat' ((conv => whnf);first|exact trivial|(refine And.intro ?_ ?_)|rfl)), ?_⟩
              refine zw ?_
              ((repeat' (first|((conv => whnf);done)|((try conv => whnf);first|exact trivial|(refine And.intro ?_ ?_)|rfl|exact fun _ _ _ h=>h|exact fun _ _ _ _=>trivial)));(all_goals (try conv => whnf)))
        rotate_right
        focus
          conv => whnf
          refine ⟨(by repeat' ((conv => whnf);first|exact trivial|(refine And.intro ?_ ?_)|rfl)), ?_⟩
          refine zd1 [2] (zx rfl ?_ zy)
          conv => whnf
          refine Sy.call_r1 ⟨31, 2, ws.length, ws.map enc2⟩ (fun j => .c (.row j)) Try.call62 (fun e a w' h => cloneW_any (e.rv 0) ws w' (Sy.row_reads h (.inr rfl)) (by omega)) ?_
          conv => whnf
          refine ⟨(by repeat' ((conv => whnf);first|exact trivial|(refine And.intro ?_ ?_)|rfl)), ?_⟩
          refine zd1 [5] (zx rfl ?_ zy)
          conv => whnf
          refine Sy.call_r1 ⟨67, 2, ps.length, ps.map enc2⟩ (fun j => .c (.row j)) Try.call63 (fun e a w' h => cloneP_any (e.rv 1) ps w' (Sy.row_reads h (.inr rfl)) (by omega)) ?_
          conv => whnf
          refine ⟨(by repeat' ((conv => whnf);first|exact trivial|(refine And.intro ?_ ?_)|rfl)), ?_⟩
          refine zt 6 rfl ?_
          conv => whnf
          refine zd1 [8] (zx rfl ?_ zy)
          conv => whnf
          refine ⟨(by repeat' ((conv => whnf);first|exact trivial|(refine And.intro ?_ ?_)|rfl)), ?_⟩
          refine zw ?_
          ((repeat' (first|((conv => whnf);done)|((try conv => whnf);first|exact trivial|(refine And.intro ?_ ?_)|rfl|exact fun _ _ _ h=>h|exact fun _ _ _ _=>trivial)));(all_goals (try conv => whnf)))
    · conv => whnf
      ((repeat' ((conv => whnf);(first|refine zA ?_|(refine zI ?_ ?_<;> intro hh<;> first|(exfalso;omega)|skip)|(refine zl ?_ ?_<;> intro hh)|refine zq ?_|refine zv ?_|refine zu ?_|exact Sy.fin_val fun e=>rfl)));(all_goals (try conv => whnf)))
      refine Sy.call_in Sy.lv36 Sy.tab_ok Try.func36 rfl _ Try.ntmps36 Try.call36 rfl (fun _ => ?_)
      ((repeat' ((conv => whnf);(first|refine zA ?_|(refine zI ?_ ?_<;> intro hh<;> first|(exfalso;omega)|skip)|(refine zl ?_ ?_<;> intro hh)|refine zq ?_|refine zv ?_|refine zu ?_|exact Sy.fin_val fun e=>rfl)));(all_goals (try conv => whnf)))
      refine Sy.call_in Sy.lv37 Sy.tab_ok Try.func37 rfl _ Try.ntmps37 Try.call37 rfl (fun _ => ?_)
      ((repeat' ((conv => whnf);(first|refine zA ?_|(refine zI ?_ ?_<;> intro hh<;> first|(exfalso;omega)|skip)|(refine zl ?_ ?_<;> intro hh)|refine zq ?_|refine zv ?_|refine zu ?_|exact Sy.fin_val fun e=>rfl)));(all_goals (try conv => whnf)))
      refine Sy.call_in Sy.lv68 Sy.tab_ok Try.func68 rfl _ Try.ntmps68 Try.call68 rfl (fun _ => ?_)
      ((repeat' ((conv => whnf);(first|refine zA ?_|(refine zI ?_ ?_<;> intro hh<;> first|(exfalso;omega)|skip)|(refine zl ?_ ?_<;> intro hh)|refine zq ?_|refine zv ?_|refine zu ?_|exact Sy.fin_val fun e=>rfl)));(all_goals (try conv => whnf)))
      refine Sy.loop_inv Sy.tab_ok (fun n : Nat => [(8, .c (.v (.int .i64 n)))]) (fun _ => []) (fun n => n ≤ ts.length ∧ ∀ t ∈ ts.take n, okT t) (fun n => ts.length - n) 0 ⟨Nat.zero_le _, fun t ht => by simp at ht⟩ ?_ (fun n hn => ?_)
      · ((repeat' (first|((conv => whnf);done)|((try conv => whnf);first|exact trivial|(refine And.intro ?_ ?_)|rfl|exact fun _ _ _ h=>h|exact fun _ _ _ _=>trivial)));(all_goals (try conv => whnf)))
      · obtain ⟨hn, hall⟩ := hn
        ((repeat' ((conv => whnf);(first|refine zA ?_|(refine zI ?_ ?_<;> intro hh<;> first|(exfalso;omega)|skip)|(refine zl ?_ ?_<;> intro hh)|refine zq ?_|refine zv ?_|refine zu ?_|exact Sy.fin_val fun e=>rfl)));(all_goals (try conv => whnf)))
        · have hlt : n < ts.length := by omega
          have hgn := List.getElem?_eq_getElem hlt
          have hsn : ts.take (n + 1) = ts.take n ++ [ts[n]] := List.take_succ_eq_append_getElem hlt
          generalize ts[n] = t at *
          refine Sy.el_map t hgn ?_
          ((repeat' ((conv => whnf);(first|refine zA ?_|(refine zI ?_ ?_<;> intro hh<;> first|(exfalso;omega)|skip)|(refine zl ?_ ?_<;> intro hh)|refine zq ?_|refine zv ?_|refine zu ?_|exact Sy.fin_val fun e=>rfl)));(all_goals (try conv => whnf)))
          refine Sy.call_in Sy.lv38 Sy.tab_ok Try.func38 rfl _ Try.ntmps38 Try.call38 rfl (fun _ => ?_)
          ((repeat' ((conv => whnf);(first|refine zA ?_|(refine zI ?_ ?_<;> intro hh<;> first|(exfalso;omega)|skip)|(refine zl ?_ ?_<;> intro hh)|refine zq ?_|refine zv ?_|refine zu ?_|exact Sy.fin_val fun e=>rfl)));(all_goals (try conv => whnf)))
          refine Sy.call_val (.c (.v (.bool (decide (okT t))))) Try.call39 rfl (fun e a w' h => task_any t w') ?_
          by_cases hot : okT t
          · rw [decide_eq_true hot]
            ((repeat' ((conv => whnf);(first|refine zA ?_|(refine zI ?_ ?_<;> intro hh<;> first|(exfalso;omega)|skip)|(refine zl ?_ ?_<;> intro hh)|refine zq ?_|refine zv ?_|refine zu ?_|exact Sy.fin_val fun e=>rfl)));(all_goals (try conv => whnf)))
            refine ⟨n + 1, ⟨by omega, fun t' ht' => ?_⟩, by omega, ?_⟩
            · rw [hsn] at ht'
              rcases List.mem_append.1 ht' with h | h
              · exact hall t' h
              · rw [List.mem_singleton.1 h]; exact hot
            · ((repeat' (first|((conv => whnf);done)|((try conv => whnf);first|exact trivial|(refine And.intro ?_ ?_)|rfl|exact fun _ _ _ h=>h|exact fun _ _ _ _=>trivial)));(all_goals (try conv => whnf)))
          · have hno : ¬ LyT ts := fun h => hot (by unfold LyT at h; exact h t (List.mem_of_getElem? hgn))
            rw [if_neg hno] at hE
            rw [hE, if_neg (by decide)] at hV
            rw [hE, hV, decide_eq_false hot]
            ((repeat' ((conv => whnf);(first|refine zA ?_|(refine zI ?_ ?_<;> intro hh<;> first|(exfalso;omega)|skip)|(refine zl ?_ ?_<;> intro hh)|refine zq ?_|refine zv ?_|refine zu ?_|exact Sy.fin_val fun e=>rfl)));(all_goals (try conv => whnf)))
            exact Sy.fin_r2 (.v (.slice none 0 0)) (.v (.slice none 0 0)) ⟨rfl, rfl⟩ ⟨rfl, rfl⟩
        · have e : n = ts.length := by omega
          rw [e, List.take_length] at hall
          rw [if_pos (show LyT ts by unfold LyT; exact hall)] at hE
          refine Sy.call_val (.c (.v (.bool (decide (¬ ts.Nodup))))) Try.call40 rfl (fun e a w' h => twice_any (e.rv 2) ts w' (Sy.row_reads h (.inr rfl)) (by omega)) ?_
          by_cases hnd : ts.Nodup
          · rw [decide_eq_false (fun h => h hnd)]
            ((repeat' ((conv => whnf);(first|refine zA ?_|(refine zI ?_ ?_<;> intro hh<;> first|(exfalso;omega)|skip)|(refine zl ?_ ?_<;> intro hh)|refine zq ?_|refine zv ?_|refine zu ?_|exact Sy.fin_val fun e=>rfl)));(all_goals (try conv => whnf)))
            refine Sy.call_in Sy.lv41 Sy.tab_ok Try.func41 rfl _ Try.ntmps41 Try.call41 rfl (fun _ => ?_)
            ((repeat' ((conv => whnf);(first|refine zA ?_|(refine zI ?_ ?_<;> intro hh<;> first|(exfalso;omega)|skip)|(refine zl ?_ ?_<;> intro hh)|refine zq ?_|refine zv ?_|refine zu ?_|exact Sy.fin_val fun e=>rfl)));(all_goals (try conv => whnf)))
            refine Sy.call_in Sy.lv72 Sy.tab_ok Try.func72 rfl _ Try.ntmps72 Try.call72 rfl (fun _ => ?_)
            ((repeat' ((conv => whnf);(first|refine zA ?_|(refine zI ?_ ?_<;> intro hh<;> first|(exfalso;omega)|skip)|(refine zl ?_ ?_<;> intro hh)|refine zq ?_|refine zv ?_|refine zu ?_|exact Sy.fin_val fun e=>rfl)));(all_goals (try conv => whnf)))
            refine Sy.loop_inv Sy.tab_ok (fun n : Nat => [(8, .c (.v (.int .i64 n)))]) (fun _ => []) (fun n => n ≤ ps.length ∧ ∀ p ∈ ps.take n, p.1 ∉ ts) (fun n => ps.length - n) 0 ⟨Nat.zero_le _, fun t ht => by simp at ht⟩ ?_ (fun n hn => ?_)
            · ((repeat' (first|((conv => whnf);done)|((try conv => whnf);first|exact trivial|(refine And.intro ?_ ?_)|rfl|exact fun _ _ _ h=>h|exact fun _ _ _ _=>trivial)));(all_goals (try conv => whnf)))
            · obtain ⟨hn, hnot⟩ := hn
              ((repeat' ((conv => whnf);(first|refine zA ?_|(refine zI ?_ ?_<;> intro hh<;> first|(exfalso;omega)|skip)|(refine zl ?_ ?_<;> intro hh)|refine zq ?_|refine zv ?_|refine zu ?_|exact Sy.fin_val fun e=>rfl)));(all_goals (try conv => whnf)))
              · have hlt : n < ps.length := by omega
                have hgn := List.getElem?_eq_getElem hlt
                have hsn : ps.take (n + 1) = ps.take n ++ [ps[n]] := List.take_succ_eq_append_getElem hlt
                generalize ps[n] = p at *
                refine Sy.el_map p hgn ?_
                ((repeat' ((conv => whnf);(first|refine zA ?_|(refine zI ?_ ?_<;> intro hh<;> first|(exfalso;omega)|skip)|(refine zl ?_ ?_<;> intro hh)|refine zq ?_|refine zv ?_|refine zu ?_|exact Sy.fin_val fun e=>rfl)));(all_goals (try conv => whnf)))
                refine Sy.call_in Sy.lv42 Sy.tab_ok Try.func42 rfl _ Try.ntmps42 Try.call42 rfl (fun _ => ?_)
                ((repeat' ((conv => whnf);(first|refine zA ?_|(refine zI ?_ ?_<;> intro hh<;> first|(exfalso;omega)|skip)|(refine zl ?_ ?_<;> intro hh)|refine zq ?_|refine zv ?_|refine zu ?_|exact Sy.fin_val fun e=>rfl)));(all_goals (try conv => whnf)))
                refine Sy.call_val (.c (.v (.bool (decide (p.1 ∈ ts))))) Try.call43 rfl (fun e a w' h => contains_any (e.rv 2) ts p.1 w' (Sy.row_reads h (.inr rfl))) ?_
                by_cases hin : p.1 ∈ ts
                · have hno : ¬ LyN ps ts := fun h => by unfold LyN at h; exact h.2 p (List.mem_of_getElem? hgn) hin
                  rw [if_neg hno] at hE
                  rw [hE, if_neg (by decide)] at hV
                  rw [hE, hV, decide_eq_true hin]
                  ((repeat' ((conv => whnf);(first|refine zA ?_|(refine zI ?_ ?_<;> intro hh<;> first|(exfalso;omega)|skip)|(refine zl ?_ ?_<;> intro hh)|refine zq ?_|refine zv ?_|refine zu ?_|exact Sy.fin_val fun e=>rfl)));(all_goals (try conv => whnf)))
                  exact Sy.fin_r2 (.v (.slice none 0 0)) (.v (.slice none 0 0)) ⟨rfl, rfl⟩ ⟨rfl, rfl⟩
                · rw [decide_eq_false hin]
                  ((repeat' ((conv => whnf);(first|refine zA ?_|(refine zI ?_ ?_<;> intro hh<;> first|(exfalso;omega)|skip)|(refine zl ?_ ?_<;> intro hh)|refine zq ?_|refine zv ?_|refine zu ?_|exact Sy.fin_val fun e=>rfl)));(all_goals (try conv => whnf)))
                  refine ⟨n + 1, ⟨by omega, fun q hq => ?_⟩, by omega, ?_⟩
                  · rw [hsn] at hq
                    rcases List.mem_append.1 hq with h | h
                    · exact hnot q h
                    · rw [List.mem_singleton.1 h]; exact hin
                  · ((repeat' (first|((conv => whnf);done)|((try conv => whnf);first|exact trivial|(refine And.intro ?_ ?_)|rfl|exact fun _ _ _ h=>h|exact fun _ _ _ _=>trivial)));(all_goals (try conv => whnf)))
              · have e : n = ps.length := by omega
                rw [e, List.take_length] at hnot
                rw [if_pos (show LyN ps ts by unfold LyN; exact ⟨hnd, hnot⟩)] at hE
                have hs0 : 0 ≤ sumL (frL ws ps) ∧ sumL (frL ws ps) ≤ 32 := by
                  have := sumAt_nat (ok_vals hok) (List.range (frL ws ps).length)
                  rw [sumAt_range _ _ rfl, List.length_range, frL_len] at this
                  omega
                refine Sy.draw_go [] (by kernel_rfl) ?_
                intro e0
                conv => whnf
                refine zt 0 rfl ?_
                conv => whnf
                refine zt 1 rfl ?_
                conv => whnf
                refine zt 2 rfl ?_
                conv => whnf
                refine zt 4 rfl ?_
                conv => whnf
                refine zt 5 rfl ?_
                (conv => whnf);(repeat' ((first|refine zA ?_|(refine zI ?_ ?_<;> intro hh<;> first|(exfalso;omega)|skip)|(refine zl ?_ ?_<;> intro hh)|refine zq ?_|refine zv ?_|refine zu ?_|exact Sy.fin_val fun e=>rfl);(try conv => whnf)))
                refine zd1 [3] (zx rfl ?_ zy)
                conv => whnf
                refine Sy.call_val (.c (.v (.int .i64 (sumL (frL ws ps))))) Try.call44 rfl (fun e a w' h => total_any (e.rv 9) (e.rv 10) ws ps w' hok (Sy.row_reads h (.inl ⟨_, rfl⟩)) (Sy.row_reads h (.inl ⟨_, rfl⟩))) ?_
                conv => whnf
                refine ⟨(by repeat' ((conv => whnf);first|exact trivial|(refine And.intro ?_ ?_)|rfl)), ?_⟩
                refine zt 6 rfl ?_
                (conv => whnf);(repeat' ((first|refine zA ?_|(refine zI ?_ ?_<;> intro hh<;> first|(exfalso;omega)|skip)|(refine zl ?_ ?_<;> intro hh)|refine zq ?_|refine zv ?_|refine zu ?_|exact Sy.fin_val fun e=>rfl);(try conv => whnf)))
                refine zt 7 rfl ?_
                conv => whnf
                refine zw ?_
                skip
                by_cases hfull : sumL (frL ws ps) < ts.length
                · rw [if_pos hfull] at hE
                  rw [hE, if_neg (by decide)] at hV
                  rw [hE, hV]
                  ((repeat' ((conv => whnf);(first|refine zA ?_|(refine zI ?_ ?_<;> intro hh<;> first|(exfalso;omega)|skip)|(refine zl ?_ ?_<;> intro hh)|refine zq ?_|refine zv ?_|refine zu ?_|exact Sy.fin_val fun e=>rfl)));(all_goals (try conv => whnf)))
                  exact Sy.fin_r2 (.v (.slice none 0 0)) (.v (.slice none 0 0)) ⟨rfl, rfl⟩ ⟨rfl, rfl⟩
                · rw [if_neg hfull] at hE
                  rw [hE, if_pos rfl] at hV
                  rw [hE, hV]
                  ((repeat' ((conv => whnf);(first|refine zA ?_|(refine zI ?_ ?_<;> intro hh<;> first|(exfalso;omega)|skip)|(refine zl ?_ ?_<;> intro hh)|refine zq ?_|refine zv ?_|refine zu ?_|exact Sy.fin_val fun e=>rfl)));(all_goals (try conv => whnf)))
                  refine Sy.call_own (free_does ws ps (ok_free hok)) Try.call45 ?_ (fun _ _ _ _ _ _ => trivial) (fun _ _ _ _ _ _ _ _ _ => trivial)
                  ((conv => whnf);(refine And.intro ?_ (And.intro ?_ (And.intro ?_ (And.intro ?_ ?_))));(all_goals ((repeat' (first|((conv => whnf);done)|((try conv => whnf);first|exact trivial|(refine And.intro ?_ ?_)|rfl|exact fun _ _ _ h=>h|exact fun _ _ _ _=>trivial)));(all_goals (try conv => whnf))));rotate_right)
                  intro _ _ G
                  ((repeat' ((conv => whnf);(first|refine zA ?_|(refine zI ?_ ?_<;> intro hh<;> first|(exfalso;omega)|skip)|(refine zl ?_ ?_<;> intro hh)|refine zq ?_|refine zv ?_|refine zu ?_|exact Sy.fin_val fun e=>rfl)));(all_goals (try conv => whnf)))
                  have l0 : layL ws ps [] = ps := by unfold layL; rfl
                  refine Sy.loop_inv Sy.tab_ok (fun n : Nat => [(39, .c (.v (.int .i64 n)))]) (fun n => [(11, .cells 26 [.row 9, .row 10]), (10, .row 67 2 (layL ws ps (ts.take n)).length (.vs ((layL ws ps (ts.take n)).map enc2))), (13, .mp (mpI (frL ws (layL ws ps (ts.take n)))))]) (fun n => n ≤ ts.length ∧ FlOk ws (layL ws ps (ts.take n)) ∧ sumL (frL ws (layL ws ps (ts.take n))) = sumL (frL ws ps) - n ∧ ∀ p ∈ layL ws ps (ts.take n), p.1 ∈ ts.take n ∨ ∃ q ∈ ps, q.1 = p.1) (fun n => ts.length - n) 0 ⟨Nat.zero_le _, by rw [List.take_zero, l0]; exact hok, by rw [List.take_zero, l0]; omega, fun p hp => by rw [List.take_zero, l0] at hp; exact .inr ⟨p, hp, rfl⟩⟩ ?_ (fun n hn => ?_)
                  · rw [List.take_zero, l0]
                    ((repeat' (first|((conv => whnf);done)|((try conv => whnf);first|exact trivial|(refine And.intro ?_ ?_)|rfl|exact fun _ _ _ h=>h|exact fun _ _ _ _=>trivial)));(all_goals (try conv => whnf)))
                  · obtain ⟨hn, hokn, hsum, hmem⟩ := hn
                    by_cases hlt : n < ts.length
                    · have hgn := List.getElem?_eq_getElem hlt
                      have hsn : ts.take (n + 1) = ts.take n ++ [ts[n]] := List.take_succ_eq_append_getElem hlt
                      generalize ts[n] = t at *
                      have htm := List.mem_of_getElem? hgn
                      have hot := hall t htm
                      have hstep := layL_snoc ws ps (ts.take n) t
                      have hls : layS ws (layL ws ps (ts.take n)) t = insS (layL ws ps (ts.take n)) (t, (widL (frL ws (layL ws ps (ts.take n)))).1) := by unfold layS; rfl
                      generalize hP : layL ws ps (ts.take n) = Q at *
                      have hnew : ∀ p ∈ Q, p.1 ≠ t := fun p hp he => by
                        rcases hmem p hp with h | ⟨q, hq, hqe⟩
                        · rw [he] at h
                          obtain ⟨j, hj⟩ := List.mem_iff_getElem?.1 h
                          have hjn : j < n := by
                            have := (List.getElem?_eq_some_iff.1 hj).1
                            rw [List.length_take] at this; omega
                          rw [List.getElem?_take_of_lt hjn] at hj
                          have := (List.getElem?_inj (show j < ts.length by omega) hnd).1 (hj.trans hgn.symm)
                          omega
                        · exact hnot q hq (by rw [hqe, he]; exact htm)
                      obtain ⟨hbm, hbp, hokm, hsm⟩ := lay_step (t := t) hokn hot (fun h => by unfold hasW at h; obtain ⟨p, hp, he⟩ := h; exact hnew p hp he) (by omega)
                      have hQl := (ok_lens hokn).2
                      have hQa : asc Q := by unfold FlOk at hokn; exact hokn.2.1.2
                      have hwa : asc ws := by unfold FlOk at hokn; exact hokn.1.2
                      have hvs := ok_vals hokn
                      have hlenw := frL_len ws Q
                      generalize hb2 : widL (frL ws Q) = b at *
                      ((repeat' ((conv => whnf);(first|refine zA ?_|(refine zI ?_ ?_<;> intro hh<;> first|(exfalso;omega)|skip)|(refine zl ?_ ?_<;> intro hh)|refine zq ?_|refine zv ?_|refine zu ?_|exact Sy.fin_val fun e=>rfl)));(all_goals (try conv => whnf)))
                      refine Sy.el_map t hgn ?_
                      ((repeat' ((conv => whnf);(first|refine zA ?_|(refine zI ?_ ?_<;> intro hh<;> first|(exfalso;omega)|skip)|(refine zl ?_ ?_<;> intro hh)|refine zq ?_|refine zv ?_|refine zu ?_|exact Sy.fin_val fun e=>rfl)));(all_goals (try conv => whnf)))
                      refine Sy.call_in Sy.lv46 Sy.tab_ok Try.func46 rfl _ Try.ntmps46 Try.call46 rfl (fun _ => ?_)
                      ((repeat' ((conv => whnf);(first|refine zA ?_|(refine zI ?_ ?_<;> intro hh<;> first|(exfalso;omega)|skip)|(refine zl ?_ ?_<;> intro hh)|refine zq ?_|refine zv ?_|refine zu ?_|exact Sy.fin_val fun e=>rfl)));(all_goals (try conv => whnf)))
                      refine Sy.rng_in (fun g st cl hs1 hs2 hs3 => ?_)
                      ((repeat' ((conv => whnf);(first|refine zA ?_|(refine zI ?_ ?_<;> intro hh<;> first|(exfalso;omega)|skip)|(refine zl ?_ ?_<;> intro hh)|refine zq ?_|refine zv ?_|refine zu ?_|exact Sy.fin_val fun e=>rfl)));(all_goals (try conv => whnf)))
                      refine Sy.loop_inv Sy.tab_ok (fun x : List Nat × (Int × Int) => [(4, .c (.v (.int .i64 x.2.1))), (5, .c (.v (.int .i64 x.2.2)))]) (fun x => [(14, .it g st cl x.1)]) (fun x => x.1.Nodup ∧ WidV (frL ws Q) x.1 x.2) (fun x => x.1.length) (List.range (mpI (frL ws Q)).length, (0, 0)) ⟨List.nodup_range, by dsimp only; rw [mpI_len]; exact widV_zero⟩ ?_ (fun x hx => ?_)
                      · ((repeat' (first|((conv => whnf);done)|((try conv => whnf);first|exact trivial|(refine And.intro ?_ ?_)|rfl|exact fun _ _ _ h=>h|exact fun _ _ _ _=>trivial)));(all_goals (try conv => whnf)))
                      · obtain ⟨left, r⟩ := x
                        dsimp only at hx ⊢
                        obtain ⟨hlnd, hwv⟩ := hx
                        ((repeat' ((conv => whnf);(first|refine zA ?_|(refine zI ?_ ?_<;> intro hh<;> first|(exfalso;omega)|skip)|(refine zl ?_ ?_<;> intro hh)|refine zq ?_|refine zv ?_|refine zu ?_|exact Sy.fin_val fun e=>rfl)));(all_goals (try conv => whnf)))
                        refine Sy.nxt_in 13 (mpI (frL ws Q)) rfl mpI_one (fun h0 => ?_) (fun i kv y hi hz => ?_)
                        · have hrb : r = b := by rw [h0] at hwv; rw [widV_all hwv, hb2]
                          rw [hrb]
                          obtain ⟨j0, hj0⟩ := List.mem_iff_getElem?.1 hbm
                          have hbv := hvs b hbm
                          have hnd2 : ((frL ws Q).map Prod.fst).Nodup := by rw [frL_fst]; exact asc_nodup hwa
                          ((repeat' ((conv => whnf);(first|refine zA ?_|(refine zI ?_ ?_<;> intro hh<;> first|(exfalso;omega)|skip)|(refine zl ?_ ?_<;> intro hh)|refine zq ?_|refine zv ?_|refine zu ?_|exact Sy.fin_val fun e=>rfl)));(all_goals (try conv => whnf)))
                          refine hit_i _ b.1 b.2 hnd2 hbm (fun j1 hj1 hj2 => ?_)
                          ((repeat' ((conv => whnf);(first|refine zA ?_|(refine zI ?_ ?_<;> intro hh<;> first|(exfalso;omega)|skip)|(refine zl ?_ ?_<;> intro hh)|refine zq ?_|refine zv ?_|refine zu ?_|exact Sy.fin_val fun e=>rfl)));(all_goals (try conv => whnf)))
                          refine hit_i _ b.1 b.2 hnd2 hbm (fun j3 hj3 hj4 => ?_)
                          ((repeat' ((conv => whnf);(first|refine zA ?_|(refine zI ?_ ?_<;> intro hh<;> first|(exfalso;omega)|skip)|(refine zl ?_ ?_<;> intro hh)|refine zq ?_|refine zv ?_|refine zu ?_|exact Sy.fin_val fun e=>rfl)));(all_goals (try conv => whnf)))
                          refine Sy.call_ex (srchP Q t) (fun x => .tup [.c (.v (.int .i64 x.1)), .c (.v (.bool x.2))]) Try.call47 (fun _ _ => rfl) (fun e a w' h => place_any (e.rv 9) (e.rv 10) ws Q t w' (Sy.row_reads h (.inl ⟨_, rfl⟩)) (Sy.row_reads h (.inl ⟨_, rfl⟩)) (by omega)) (fun r hr => ?_)
                          obtain ⟨i, there⟩ := r
                          obtain ⟨hr1, hr2, hr0⟩ := hr
                          obtain ⟨hr3, hr4, _⟩ := hr0 hQa
                          dsimp only at hr1 hr3 hr4
                          have hins := ins_eq (x := (t, b.1)) hr3 hr4 hnew
                          have hil := insL_len (t, b.1) hr1
                          ((repeat' ((conv => whnf);(first|refine zA ?_|(refine zI ?_ ?_<;> intro hh<;> first|(exfalso;omega)|skip)|(refine zl ?_ ?_<;> intro hh)|refine zq ?_|refine zv ?_|refine zu ?_|exact Sy.fin_val fun e=>rfl)));(all_goals (try conv => whnf)))
                          refine Sy.call_k1 10 ⟨67, 2, Q.length + 1, (insL Q i (t, b.1)).map enc2⟩ (fun j => .c (.row j)) Try.call48 (fun e a w' h => insertP_any (e.rv 10) (e.rv 15) Q i (t, b.1) w' (h.hp 10 _ rfl).1 (h.hp 15 _ rfl).1 (fun b h1 h2 => h.sep 15 10 _ _ b rfl rfl (by decide) h1 h2) hr1 (by omega)) ?_ (hj := ⟨_, _, _, _, rfl⟩)
                          ((repeat' ((conv => whnf);(first|refine zA ?_|(refine zI ?_ ?_<;> intro hh<;> first|(exfalso;omega)|skip)|(refine zl ?_ ?_<;> intro hh)|refine zq ?_|refine zv ?_|refine zu ?_|exact Sy.fin_val fun e=>rfl)));(all_goals (try conv => whnf)))
                          have hnext : layL ws ps (ts.take (n + 1)) = insL Q i (t, b.1) := by rw [hsn, hstep, hls, hins]
                          refine ⟨n + 1, ⟨by omega, by rw [hnext, hins]; exact hokm, by rw [hnext, hins, hsm, hsum]; omega, fun p hp => ?_⟩, by omega, ?_⟩
                          · rw [hnext, hins] at hp
                            rw [hsn]
                            rcases (insS_mem (q := (t, b.1)) hnew).1 hp with h | h
                            · exact .inl (by rw [h]; simp)
                            · rcases hmem p h with h2 | h2
                              · exact .inl (List.mem_append_left _ h2)
                              · exact .inr h2
                          · rw [hnext, hil, frL_ins, ← frL_set (q := (t, b.1)) hwa hj4]
                            ((repeat' (first|((conv => whnf);done)|((try conv => whnf);first|exact trivial|(refine And.intro ?_ ?_)|rfl|exact fun _ _ _ h=>h|exact fun _ _ _ _=>trivial)));(all_goals (try conv => whnf)))
                            all_goals exact mpI_set _ _ _ _ _ hj4
                        · obtain ⟨c, hc, rfl, rfl⟩ := mpI_at hz
                          have hstepv := widV_step hwv hc
                          ((repeat' ((conv => whnf);(first|refine zA ?_|(refine zI ?_ ?_<;> intro hh<;> first|(exfalso;omega)|skip)|(refine zl ?_ ?_<;> intro hh)|refine zq ?_|refine zv ?_|refine zu ?_|exact Sy.fin_val fun e=>rfl)));(all_goals (try conv => whnf)))
                          refine Sy.ent_in 13 (mpI (frL ws Q)) rfl mpI_one (fun kv2 x2 hz2 => ?_)
                          obtain ⟨d, hd, rfl, rfl⟩ := mpI_at hz2
                          rw [hc] at hd
                          obtain rfl := Option.some.inj hd
                          by_cases hnw : r.2 < c.2 ∨ (c.2 = r.2 ∧ 0 < c.2 ∧ c.1 < r.1)
                          · rw [if_pos hnw] at hstepv
                            rcases hnw with hn1 | ⟨hn1, hn2, hn3⟩
                            · ((repeat' ((conv => whnf);(first|refine zA ?_|(refine zI ?_ ?_<;> intro hh<;> first|(exfalso;omega)|skip)|(refine zl ?_ ?_<;> intro hh)|refine zq ?_|refine zv ?_|refine zu ?_|exact Sy.fin_val fun e=>rfl)));(all_goals (try conv => whnf)))
                              refine ⟨(left.filter fun j => !(Nat.beq j i), c), ⟨hlnd.sublist List.filter_sublist, hstepv⟩, left_less hi, ?_⟩
                              dsimp only
                              ((repeat' (first|((conv => whnf);done)|((try conv => whnf);first|exact trivial|(refine And.intro ?_ ?_)|rfl|exact fun _ _ _ h=>h|exact fun _ _ _ _=>trivial)));(all_goals (try conv => whnf)))
                            · ((repeat' ((conv => whnf);(first|refine zA ?_|(refine zI ?_ ?_<;> intro hh<;> first|(exfalso;omega)|skip)|(refine zl ?_ ?_<;> intro hh)|refine zq ?_|refine zv ?_|refine zu ?_|exact Sy.fin_val fun e=>rfl)));(all_goals (try conv => whnf)))
                              refine ⟨(left.filter fun j => !(Nat.beq j i), c), ⟨hlnd.sublist List.filter_sublist, hstepv⟩, left_less hi, ?_⟩
                              dsimp only
                              ((repeat' (first|((conv => whnf);done)|((try conv => whnf);first|exact trivial|(refine And.intro ?_ ?_)|rfl|exact fun _ _ _ h=>h|exact fun _ _ _ _=>trivial)));(all_goals (try conv => whnf)))
                          · rw [if_neg hnw] at hstepv
                            ((repeat' ((conv => whnf);(first|refine zA ?_|(refine zI ?_ ?_<;> intro hh<;> first|(exfalso;omega)|skip)|(refine zl ?_ ?_<;> intro hh)|refine zq ?_|refine zv ?_|refine zu ?_|exact Sy.fin_val fun e=>rfl)));(all_goals (try conv => whnf)))
                            all_goals (refine ⟨(left.filter fun j => !(Nat.beq j i), r), ⟨hlnd.sublist List.filter_sublist, hstepv⟩, left_less hi, ?_⟩)
                            all_goals dsimp only
                            all_goals (((repeat' (first|((conv => whnf);done)|((try conv => whnf);first|exact trivial|(refine And.intro ?_ ?_)|rfl|exact fun _ _ _ h=>h|exact fun _ _ _ _=>trivial)));(all_goals (try conv => whnf))))
                    · have e : n = ts.length := by omega
                      rw [e, List.take_length]
                      have hlt2 : ¬ (n : Int) < ts.length := by omega
                      ((repeat' ((conv => whnf);(first|refine zA ?_|(refine zI ?_ ?_<;> intro hh<;> first|(exfalso;omega)|skip)|(refine zl ?_ ?_<;> intro hh)|refine zq ?_|refine zv ?_|refine zu ?_|exact Sy.fin_val fun e=>rfl)));(all_goals (try conv => whnf)))
                      exact Sy.fin_r2 (.row 9) (.row 10) rfl rfl
          · have hno : ¬ LyN ps ts := fun h => hnd (by unfold LyN at h; exact h.1)
            rw [if_neg hno] at hE
            rw [hE, if_neg (by decide)] at hV
            rw [hE, hV, decide_eq_true hnd]
            ((repeat' ((conv => whnf);(first|refine zA ?_|(refine zI ?_ ?_<;> intro hh<;> first|(exfalso;omega)|skip)|(refine zl ?_ ?_<;> intro hh)|refine zq ?_|refine zv ?_|refine zu ?_|exact Sy.fin_val fun e=>rfl)));(all_goals (try conv => whnf)))
            exact Sy.fin_r2 (.v (.slice none 0 0)) (.v (.slice none 0 0)) ⟨rfl, rfl⟩ ⟨rfl, rfl⟩
  · rw [show chkE ws ps = 210 from if_neg hok]
    rw [if_neg hok] at hE
    rw [hE, if_neg (by decide)] at hV
    rw [hE, hV]
    ((repeat' ((conv => whnf);(first|refine zA ?_|(refine zI ?_ ?_<;> intro hh<;> first|(exfalso;omega)|skip)|(refine zl ?_ ?_<;> intro hh)|refine zq ?_|refine zv ?_|refine zu ?_|exact Sy.fin_val fun e=>rfl)));(all_goals (try conv => whnf)))
    exact Sy.fin_r2 (.v (.slice none 0 0)) (.v (.slice none 0 0)) ⟨rfl, rfl⟩ ⟨rfl, rfl⟩
end Go.Proofs.Ytjhjmeajdebcbaa
