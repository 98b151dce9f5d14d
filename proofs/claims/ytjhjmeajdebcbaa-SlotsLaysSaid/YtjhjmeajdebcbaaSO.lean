/- Slots: Take. -/
import Derived.Test.YtjhjmeajdebcbaaSA
import Derived.Test.YtjhjmeajdebcbaaSH
import Derived.Test.YtjhjmeajdebcbaaSL
import Derived.Test.YtjhjmeajdebcbaaSN
namespace Go.Proofs.Ytjhjmeajdebcbaa
open Go Go.RowKit
open Sy (C SV V1 Blk St XD Els)
set_option maxRecDepth 10000

/-- What may be taken: tasks that lie somewhere, none twice. -/
def TkOk (ps : List (Int × Int)) (ts : List Int) : Prop := ts.Nodup ∧ ∀ t ∈ ts, hasW ps t
instance (ps : List (Int × Int)) (ts : List Int) : Decidable (TkOk ps ts) := by unfold TkOk; infer_instance
def takeE (ws ps : List (Int × Int)) (ts : List Int) : Int := if FlOk ws ps then (if TkOk ps ts then 0 else 4) else 210
def takeV (ws ps : List (Int × Int)) (ts : List Int) : List (Int × Int) × List (Int × Int) := if takeE ws ps ts = 0 then (ws, delL (takenB ts) ps) else ([], [])
attribute [local irreducible] mpI frL cntW okW okT FlOk delL hasW TkOk
set_option maxHeartbeats 2000000 in
theorem take_any (u v x : Value) (ws ps : List (Int × Int)) (ts : List Int) (w : World) (hu : XD.ok (fun b => b < w.heap.size) w ⟨u, 2, ws.length, ws.map enc2⟩) (hv : XD.ok (fun b => b < w.heap.size) w ⟨v, 2, ps.length, ps.map enc2⟩) (hx : XD.ok (fun b => b < w.heap.size) w ⟨x, 1, ts.length, ts.map encI⟩) (hb : ps.length ≤ 1000) (hbt : ts.length ≤ 1000) :
    Calls Try.prog 16 #[.agg #[u, v], x] w (Sy.RetRows Sy.noRow (fun _ : Unit => True) (fun _ => [⟨31, 2, (takeV ws ps ts).1.length, (takeV ws ps ts).1.map enc2⟩, ⟨67, 2, (takeV ws ps ts).2.length, (takeV ws ps ts).2.map enc2⟩]) (fun _ vs => .tuple #[.agg #[vs.headD undef, (vs.drop 1).headD undef], .int .i64 (takeE ws ps ts)]) w) := by
  have hE : takeE ws ps ts = if FlOk ws ps then (if TkOk ps ts then 0 else 4) else 210 := rfl
  have hV : takeV ws ps ts = if takeE ws ps ts = 0 then (ws, delL (takenB ts) ps) else ([], []) := rfl
  refine Sy.calls_of Sy.lv16 Sy.tab_ok Try.func16 rfl _ Try.ntmps16 [⟨u, 2, ws.length, ws.map enc2⟩, ⟨v, 2, ps.length, ps.map enc2⟩, ⟨x, 1, ts.length, ts.map encI⟩] [.agg [.row 0, .row 1], .c (.row 2)] rfl rfl rfl ⟨hu, hv, hx, trivial⟩ ?_
  ((repeat' ((conv => whnf);(first|refine zA ?_|(refine zI ?_ ?_<;> intro hh<;> first|(exfalso;omega)|skip)|(refine zl ?_ ?_<;> intro hh)|refine zq ?_|refine zv ?_|refine zu ?_|exact Sy.fin_val fun e=>rfl)));(all_goals (try conv => whnf)))
  refine Sy.call_in Sy.lv31 Sy.tab_ok Try.func31 rfl _ Try.ntmps31 Try.call31 rfl (fun _ => ?_)
  ((repeat' ((conv => whnf);(first|refine zA ?_|(refine zI ?_ ?_<;> intro hh<;> first|(exfalso;omega)|skip)|(refine zl ?_ ?_<;> intro hh)|refine zq ?_|refine zv ?_|refine zu ?_|exact Sy.fin_val fun e=>rfl)));(all_goals (try conv => whnf)))
  refine Sy.call_val (.c (.v (.int .i64 (chkE ws ps)))) Try.call20 rfl (fun e a w' h => check_any (e.rv 0) (e.rv 1) ws ps w' (Sy.row_reads h (.inr rfl)) (Sy.row_reads h (.inr rfl)) hb) ?_
  by_cases hok : FlOk ws ps
  · obtain ⟨hwl, hpl⟩ := ok_lens hok
    rw [show chkE ws ps = 0 from if_pos hok]
    rw [if_pos hok] at hE
    ((repeat' ((conv => whnf);(first|refine zA ?_|(refine zI ?_ ?_<;> intro hh<;> first|(exfalso;omega)|skip)|(refine zl ?_ ?_<;> intro hh)|refine zq ?_|refine zv ?_|refine zu ?_|exact Sy.fin_val fun e=>rfl)));(all_goals (try conv => whnf)))
    refine Sy.meet1 9 [.row 31 2 ws.length (.vs (ws.map enc2)), .row 67 2 ps.length (.vs (ps.map enc2)), .cells 26 [.row 9, .row 10]] [(7, .c (.loc 11 0))] [] Sy.tab_ok rfl ?_ ?_
    · refine Sy.draw_go [] (by kernel_rfl) ?_
      intro e0
      conv => whnf
      refine zt 0 rfl ?_
      conv => whnf
      refine zt 1 rfl ?_
      conv => whnf
      refine zt 3 rfl ?_
      conv => whnf
      refine zt 4 rfl ?_
      conv => whnf
      focus
        refine zd1 [2, 7] (zx rfl ?_ (zx rfl ?_ zy))
        focus
          conv => whnf
          refine Sy.call_r1 ⟨31, 2, ws.length, ws.map enc2⟩ (fun j => .c (.row j)) Try.call62 (fun e a w' h => cloneW_any (e.rv 0) ws w' (Sy.row_reads h (.inr rfl)) (by omega)) ?_
          conv => whnf
          refine ⟨(by repeat' ((conv => whnf);first|exact trivial|(refine And.intro ?_ ?_)|rfl)), ?_⟩
          focus
            refine zd1 [5, 7] (zx rfl ?_ (zx rfl ?_ zy))
            focus
              conv => whnf
              refine Sy.call_r1 ⟨67, 2, ps.length, ps.map enc2⟩ (fun j => .c (.row j)) Try.call63 (fun e a w' h => cloneP_any (e.rv 1) ps w' (Sy.row_reads h (.inr rfl)) (by omega)) ?_
              conv => whnf
              refine ⟨(by repeat' ((conv => whnf);first|exact trivial|(refine And.intro ?_ ?_)|rfl)), ?_⟩
              refine zt 6 rfl ?_
              conv => whnf
              refine zd1 [7] (zx rfl ?_ zy)
              conv => whnf
              refine ⟨(by repeat' ((conv => whnf);first|exact trivial|(refine And.intro ?_ ?_)|rfl)), ?_⟩
              refine zd1 [8] (zx rfl ?_ zy)
              conv => whnf
              refine ⟨(by repeat' ((conv => whnf);first|exact trivial|(refine And.intro ?_ ?_)|rfl)), ?_⟩
              refine zw ?_
              ((repeat' (first|((conv => whnf);done)|((try conv => whnf);first|exact trivial|(refine And.intro ?_ ?_)|rfl|exact fun _ _ _ h=>h|exact fun _ _ _ _=>trivial)));(all_goals (try conv => whnf)))
            rotate_right
            focus
              conv => whnf
              refine ⟨(by repeat' ((conv => whnf);first|exact trivial|(refine And.intro ?_ ?_)|rfl)), ?_⟩
              refine zd1 [5] (zx rfl ?_ zy)
              conv => whnf
              refine Sy.call_r1 ⟨67, 2, ps.length, ps.map enc2⟩ (fun j => .c (.row j)) Try.call63 (fun e a w' h => cloneP_any (e.rv 1) ps w' (Sy.row_reads h (.inr rfl)) (by omega)) ?_
              conv => whnf
              refine ⟨(by repeat' ((conv => whnf);first|exact trivial|(refine And.intro ?_ ?_)|rfl)), ?_⟩
              refine zt 6 rfl ?_
              conv => whnf
              refine zd1 [8] (zx rfl ?_ zy)
              conv => whnf
              refine ⟨(by repeat' ((conv => whnf);first|exact trivial|(refine And.intro ?_ ?_)|rfl)), ?_⟩
              refine zw ?_
              ((repeat' (first|((conv => whnf);done)|((try conv => whnf);first|exact trivial|(refine And.intro ?_ ?_)|rfl|exact fun _ _ _ h=>h|exact fun _ _ _ _=>trivial)));(all_goals (try conv => whnf)))
        rotate_right
        focus
          conv => whnf
          refine ⟨(by repeat' ((conv => whnf);first|exact trivial|(refine And.intro ?_ ?_)|rfl)), ?_⟩
          refine zd1 [2] (zx rfl ?_ zy)
          conv => whnf
          refine Sy.call_r1 ⟨31, 2, ws.length, ws.map enc2⟩ (fun j => .c (.row j)) Try.call62 (fun e a w' h => cloneW_any (e.rv 0) ws w' (Sy.row_reads h (.inr rfl)) (by omega)) ?_
          conv => whnf
          refine ⟨(by repeat' ((conv => whnf);first|exact trivial|(refine And.intro ?_ ?_)|rfl)), ?_⟩
          refine zd1 [5] (zx rfl ?_ zy)
          conv => whnf
          refine Sy.call_r1 ⟨67, 2, ps.length, ps.map enc2⟩ (fun j => .c (.row j)) Try.call63 (fun e a w' h => cloneP_any (e.rv 1) ps w' (Sy.row_reads h (.inr rfl)) (by omega)) ?_
          conv => whnf
          refine ⟨(by repeat' ((conv => whnf);first|exact trivial|(refine And.intro ?_ ?_)|rfl)), ?_⟩
          refine zt 6 rfl ?_
          conv => whnf
          refine zd1 [8] (zx rfl ?_ zy)
          conv => whnf
          refine ⟨(by repeat' ((conv => whnf);first|exact trivial|(refine And.intro ?_ ?_)|rfl)), ?_⟩
          refine zw ?_
          ((repeat' (first|((conv => whnf);done)|((try conv => whnf);first|exact trivial|(refine And.intro ?_ ?_)|rfl|exact fun _ _ _ h=>h|exact fun _ _ _ _=>trivial)));(all_goals (try conv => whnf)))
    · conv => whnf
      ((repeat' ((conv => whnf);(first|refine zA ?_|(refine zI ?_ ?_<;> intro hh<;> first|(exfalso;omega)|skip)|(refine zl ?_ ?_<;> intro hh)|refine zq ?_|refine zv ?_|refine zu ?_|exact Sy.fin_val fun e=>rfl)));(all_goals (try conv => whnf)))
      refine Sy.call_in Sy.lv52 Sy.tab_ok Try.func52 rfl _ Try.ntmps52 Try.call52 rfl (fun _ => ?_)
      ((repeat' ((conv => whnf);(first|refine zA ?_|(refine zI ?_ ?_<;> intro hh<;> first|(exfalso;omega)|skip)|(refine zl ?_ ?_<;> intro hh)|refine zq ?_|refine zv ?_|refine zu ?_|exact Sy.fin_val fun e=>rfl)));(all_goals (try conv => whnf)))
      refine Sy.call_val (.c (.v (.bool (decide (¬ ts.Nodup))))) Try.call40 rfl (fun e a w' h => twice_any (e.rv 2) ts w' (Sy.row_reads h (.inr rfl)) (by omega)) ?_
      by_cases hnd : ts.Nodup
      · rw [decide_eq_false (fun h => h hnd)]
        ((repeat' ((conv => whnf);(first|refine zA ?_|(refine zI ?_ ?_<;> intro hh<;> first|(exfalso;omega)|skip)|(refine zl ?_ ?_<;> intro hh)|refine zq ?_|refine zv ?_|refine zu ?_|exact Sy.fin_val fun e=>rfl)));(all_goals (try conv => whnf)))
        refine Sy.call_in Sy.lv37 Sy.tab_ok Try.func37 rfl _ Try.ntmps37 Try.call37 rfl (fun _ => ?_)
        ((repeat' ((conv => whnf);(first|refine zA ?_|(refine zI ?_ ?_<;> intro hh<;> first|(exfalso;omega)|skip)|(refine zl ?_ ?_<;> intro hh)|refine zq ?_|refine zv ?_|refine zu ?_|exact Sy.fin_val fun e=>rfl)));(all_goals (try conv => whnf)))
        refine Sy.call_in Sy.lv68 Sy.tab_ok Try.func68 rfl _ Try.ntmps68 Try.call68 rfl (fun _ => ?_)
        ((repeat' ((conv => whnf);(first|refine zA ?_|(refine zI ?_ ?_<;> intro hh<;> first|(exfalso;omega)|skip)|(refine zl ?_ ?_<;> intro hh)|refine zq ?_|refine zv ?_|refine zu ?_|exact Sy.fin_val fun e=>rfl)));(all_goals (try conv => whnf)))
        refine Sy.loop_inv Sy.tab_ok (fun n : Nat => [(8, .c (.v (.int .i64 n)))]) (fun _ => []) (fun n => n ≤ ts.length ∧ ∀ t ∈ ts.take n, hasW ps t) (fun n => ts.length - n) 0 ⟨Nat.zero_le _, fun t ht => by simp at ht⟩ ?_ (fun n hn => ?_)
        · ((repeat' (first|((conv => whnf);done)|((try conv => whnf);first|exact trivial|(refine And.intro ?_ ?_)|rfl|exact fun _ _ _ h=>h|exact fun _ _ _ _=>trivial)));(all_goals (try conv => whnf)))
        · obtain ⟨hn, hall⟩ := hn
          ((repeat' ((conv => whnf);(first|refine zA ?_|(refine zI ?_ ?_<;> intro hh<;> first|(exfalso;omega)|skip)|(refine zl ?_ ?_<;> intro hh)|refine zq ?_|refine zv ?_|refine zu ?_|exact Sy.fin_val fun e=>rfl)));(all_goals (try conv => whnf)))
          · have hlt : n < ts.length := by omega
            have hgn := List.getElem?_eq_getElem hlt
            have hsn : ts.take (n + 1) = ts.take n ++ [ts[n]] := List.take_succ_eq_append_getElem hlt
            generalize ts[n] = t at *
            refine Sy.el_map t hgn ?_
            ((repeat' ((conv => whnf);(first|refine zA ?_|(refine zI ?_ ?_<;> intro hh<;> first|(exfalso;omega)|skip)|(refine zl ?_ ?_<;> intro hh)|refine zq ?_|refine zv ?_|refine zu ?_|exact Sy.fin_val fun e=>rfl)));(all_goals (try conv => whnf)))
            refine Sy.call_in Sy.lv53 Sy.tab_ok Try.func53 rfl _ Try.ntmps53 Try.call53 rfl (fun _ => ?_)
            ((repeat' ((conv => whnf);(first|refine zA ?_|(refine zI ?_ ?_<;> intro hh<;> first|(exfalso;omega)|skip)|(refine zl ?_ ?_<;> intro hh)|refine zq ?_|refine zv ?_|refine zu ?_|exact Sy.fin_val fun e=>rfl)));(all_goals (try conv => whnf)))
            refine Sy.call_ex (srchP ps t) (fun x => .tup [.c (.v (.int .i64 x.1)), .c (.v (.bool x.2))]) Try.call47 (fun _ _ => rfl) (fun e a w' h => place_any (e.rv 9) (e.rv 10) ws ps t w' (Sy.row_reads h (.inl ⟨_, rfl⟩)) (Sy.row_reads h (.inl ⟨_, rfl⟩)) (by omega)) (fun r hr => ?_)
            obtain ⟨i, there⟩ := r
            obtain ⟨_, hr2, hr0⟩ := hr
            have ha : asc ps := by unfold FlOk at hok; exact hok.2.1.2
            obtain ⟨_, _, hr5⟩ := hr0 ha
            clear hr0
            dsimp only at hr2 hr5
            cases there with
            | false =>
              have hno : ¬ TkOk ps ts := fun h => by
                unfold TkOk at h
                have h2 := h.2 t (List.mem_of_getElem? hgn)
                unfold hasW at h2
                obtain ⟨p, hp, he⟩ := h2
                exact hr5 rfl p hp he
              rw [if_neg hno] at hE
              rw [hE, if_neg (by decide)] at hV
              rw [hE, hV]
              ((repeat' ((conv => whnf);(first|refine zA ?_|(refine zI ?_ ?_<;> intro hh<;> first|(exfalso;omega)|skip)|(refine zl ?_ ?_<;> intro hh)|refine zq ?_|refine zv ?_|refine zu ?_|exact Sy.fin_val fun e=>rfl)));(all_goals (try conv => whnf)))
              exact Sy.fin_r2 (.v (.slice none 0 0)) (.v (.slice none 0 0)) ⟨rfl, rfl⟩ ⟨rfl, rfl⟩
            | true =>
              obtain ⟨p, hp, he⟩ := hr2 rfl
              ((repeat' ((conv => whnf);(first|refine zA ?_|(refine zI ?_ ?_<;> intro hh<;> first|(exfalso;omega)|skip)|(refine zl ?_ ?_<;> intro hh)|refine zq ?_|refine zv ?_|refine zu ?_|exact Sy.fin_val fun e=>rfl)));(all_goals (try conv => whnf)))
              refine ⟨n + 1, ⟨by omega, fun t' ht' => ?_⟩, by omega, ?_⟩
              · rw [hsn] at ht'
                rcases List.mem_append.1 ht' with h | h
                · exact hall t' h
                · rw [List.mem_singleton.1 h]; unfold hasW; exact ⟨p, List.mem_of_getElem? hp, he⟩
              · ((repeat' (first|((conv => whnf);done)|((try conv => whnf);first|exact trivial|(refine And.intro ?_ ?_)|rfl|exact fun _ _ _ h=>h|exact fun _ _ _ _=>trivial)));(all_goals (try conv => whnf)))
          · have e : n = ts.length := by omega
            rw [e, List.take_length] at hall
            have hyes : TkOk ps ts := by unfold TkOk; exact ⟨hnd, hall⟩
            rw [if_pos hyes] at hE
            rw [hE, if_pos rfl] at hV
            rw [hE, hV]
            refine Sy.draw_go [10,11] (by kernel_rfl) ?_
            intro e0
            conv => whnf
            refine zt 0 rfl ?_
            conv => whnf
            refine zt 1 rfl ?_
            conv => whnf
            refine zt 2 rfl ?_
            conv => whnf
            refine zt 3 rfl ?_
            conv => whnf
            focus
              refine zd1 [4, 5] (zx rfl ?_ (zx rfl ?_ zy))
              focus
                conv => whnf
                refine ⟨(by repeat' ((conv => whnf);first|exact trivial|(refine And.intro ?_ ?_)|rfl)), ?_⟩
                refine zd1 [5] (zx rfl ?_ zy)
                conv => whnf
                refine ⟨(by repeat' ((conv => whnf);first|exact trivial|(refine And.intro ?_ ?_)|rfl)), ?_⟩
                refine zd1 [6] (zx rfl ?_ zy)
                conv => whnf
                refine Sy.call_own (delT_does ps ts (by omega)) Try.call54 ?_ (fun _ _ _ _ _ _ => trivial) (fun _ _ _ _ _ _ _ _ _ => trivial)
                ((conv => whnf);(refine And.intro ?_ (And.intro ?_ (And.intro ?_ (And.intro ?_ ?_))));(all_goals ((repeat' (first|((conv => whnf);done)|((try conv => whnf);first|exact trivial|(refine And.intro ?_ ?_)|rfl|exact fun _ _ _ h=>h|exact fun _ _ _ _=>trivial)));(all_goals (try conv => whnf))));rotate_right)
                intro _ _ G
                conv => whnf
                refine ⟨(by repeat' ((conv => whnf);first|exact trivial|(refine And.intro ?_ ?_)|rfl)), ?_⟩
                refine zt 7 rfl ?_
                conv => whnf
                refine zt 8 rfl ?_
                conv => whnf
                refine zd1 [9] (zx rfl ?_ zy)
                conv => whnf
                refine ⟨(by repeat' ((conv => whnf);first|exact trivial|(refine And.intro ?_ ?_)|rfl)), ?_⟩
                refine zw ?_
                skip
              rotate_right
              focus
                conv => whnf
                refine ⟨(by repeat' ((conv => whnf);first|exact trivial|(refine And.intro ?_ ?_)|rfl)), ?_⟩
                refine zd1 [4] (zx rfl ?_ zy)
                conv => whnf
                refine ⟨(by repeat' ((conv => whnf);first|exact trivial|(refine And.intro ?_ ?_)|rfl)), ?_⟩
                refine zd1 [6] (zx rfl ?_ zy)
                conv => whnf
                refine Sy.call_own (delT_does ps ts (by omega)) Try.call54 ?_ (fun _ _ _ _ _ _ => trivial) (fun _ _ _ _ _ _ _ _ _ => trivial)
                ((conv => whnf);(refine And.intro ?_ (And.intro ?_ (And.intro ?_ (And.intro ?_ ?_))));(all_goals ((repeat' (first|((conv => whnf);done)|((try conv => whnf);first|exact trivial|(refine And.intro ?_ ?_)|rfl|exact fun _ _ _ h=>h|exact fun _ _ _ _=>trivial)));(all_goals (try conv => whnf))));rotate_right)
                intro _ _ G
                conv => whnf
                refine ⟨(by repeat' ((conv => whnf);first|exact trivial|(refine And.intro ?_ ?_)|rfl)), ?_⟩
                refine zt 7 rfl ?_
                conv => whnf
                refine zt 8 rfl ?_
                conv => whnf
                refine zd1 [9] (zx rfl ?_ zy)
                conv => whnf
                refine ⟨(by repeat' ((conv => whnf);first|exact trivial|(refine And.intro ?_ ?_)|rfl)), ?_⟩
                refine zw ?_
                skip
            all_goals (((repeat' ((conv => whnf);(first|refine zA ?_|(refine zI ?_ ?_<;> intro hh<;> first|(exfalso;omega)|skip)|(refine zl ?_ ?_<;> intro hh)|refine zq ?_|refine zv ?_|refine zu ?_|exact Sy.fin_val fun e=>rfl)));(all_goals (try conv => whnf))))
            all_goals exact Sy.fin_r2 (.row 9) (.row 15) rfl rfl
      · have hno : ¬ TkOk ps ts := fun h => hnd (by unfold TkOk at h; exact h.1)
        rw [if_neg hno] at hE
        rw [hE, if_neg (by decide)] at hV
        rw [hE, hV, decide_eq_true hnd]
        ((repeat' ((conv => whnf);(first|refine zA ?_|(refine zI ?_ ?_<;> intro hh<;> first|(exfalso;omega)|skip)|(refine zl ?_ ?_<;> intro hh)|refine zq ?_|refine zv ?_|refine zu ?_|exact Sy.fin_val fun e=>rfl)));(all_goals (try conv => whnf)))
        exact Sy.fin_r2 (.v (.slice none 0 0)) (.v (.slice none 0 0)) ⟨rfl, rfl⟩ ⟨rfl, rfl⟩
  · rw [show chkE ws ps = 210 from if_neg hok]
    rw [if_neg hok] at hE
    rw [hE, if_neg (by decide)] at hV
    rw [hE, hV]
    ((repeat' ((conv => whnf);(first|refine zA ?_|(refine zI ?_ ?_<;> intro hh<;> first|(exfalso;omega)|skip)|(refine zl ?_ ?_<;> intro hh)|refine zq ?_|refine zv ?_|refine zu ?_|exact Sy.fin_val fun e=>rfl)));(all_goals (try conv => whnf)))
    exact Sy.fin_r2 (.v (.slice none 0 0)) (.v (.slice none 0 0)) ⟨rfl, rfl⟩ ⟨rfl, rfl⟩
end Go.Proofs.Ytjhjmeajdebcbaa
