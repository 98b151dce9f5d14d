/- Snap: the law Again. -/
import Derived.Test.YtmahldelmbhjfaaSwG
import Derived.Test.YtmahldelmbhjfaaSwE
import Derived.Test.YtmahldelmbhjfaaSnG
namespace Go.Proofs.Ytmahldelmbhjfaa
open Go Go.RowKit
open Sy (C SV V1 Blk St XD Els)
set_option maxRecDepth 10000

theorem ext_reads {X : Sy.Cx} {S : St} {v : Value} {ls : List SnV} {F : Nat → Prop} (h : ∀ w, S.E w → SsOk F w v ls) (hF : ∀ b, F b → S.F b) : ∀ e a w, Sy.Rep X e S a w → Sy.ReadsE S.F w 14 v ls.length (ls.map encS) := fun _ _ w hR => ((h w (hR.ev w fun _ _ => rfl)).1.mono hF).1
theorem u64_mod (x : Int) : 0 ≤ IntKind.u64.wrap x ∧ IntKind.u64.wrap x < 18446744073709551616 := by rw [IntKind.wrap_u64]; omega
theorem wholeV_zero {L : List Sn} (h : wholeE L = 0) : wholeV L = wholeS L := if_pos h
theorem whole_one (L : List Sn) : (wholeS L).idx = 0 ∧ (wholeS L).wid = 1 := ⟨rfl, rfl⟩
theorem rescE_zero {L : List Sn} {m : Nat} (hz : wholeE L = 0) (hm : 1 ≤ m ∧ m ≤ 3) : rescE L (m : Int) = 0 := by
  unfold rescE
  rw [if_pos hz, if_pos (by omega)]
theorem rescV_zero {L : List Sn} {m : Nat} (hz : wholeE L = 0) (hm : 1 ≤ m ∧ m ≤ 3) : rescV L (m : Int) = partsL (wholeS L) m m := by
  unfold rescV
  rw [if_pos (rescE_zero hz hm), Int.toNat_natCast]
attribute [local irreducible] ownW tblB namesB rightP wholeS wholeE wholeV partsL shortsL rescV rescE
set_option maxHeartbeats 8000000 in
theorem lagain_any (v : Value) (wd : Int) (ls : List SnV) (w : World) (hr : SsOk (fun b => b < w.heap.size) w v ls) :
    Calls Try.prog 7 #[v, .int .i64 wd] w (Sy.Ret (.bool true) w) := by
  have hl := ok_len hr.1
  refine Sy.calls_of Sy.lv7 Sy.tab_ok Try.func7 rfl _ Try.ntmps7 [⟨v, 14, ls.length, ls.map encS⟩] [.c (.row 0), .c (.v (.int .i64 wd))] rfl rfl rfl ⟨hr.1, trivial⟩ ?_
  ((repeat' ((conv => whnf);(first|refine zA ?_|(refine zI ?_ ?_<;> intro hh<;> first|(exfalso;omega)|skip)|(refine zl ?_ ?_<;> intro hh)|refine zq ?_|refine zv ?_|refine zu ?_|exact Sy.fin_val fun e=>rfl)));(all_goals (try conv => whnf)))
  refine Sy.call_val (.c (.v (.bool true))) Try.call10 rfl (fun e a w' h => wakes_any w') ?_
  ((repeat' ((conv => whnf);(first|refine zA ?_|(refine zI ?_ ?_<;> intro hh<;> first|(exfalso;omega)|skip)|(refine zl ?_ ?_<;> intro hh)|refine zq ?_|refine zv ?_|refine zu ?_|exact Sy.fin_val fun e=>rfl)));(all_goals (try conv => whnf)))
  refine Sy.call_mem (fun (x : SlL (shortsL (snsOf ls))) G w' => SsOk G w' x.v x.ls) (fun x => .c (.v x.v)) Try.call18 (fun x => x.h) (fun x G G' w1 w2 h hG hk => h.keep hG hk) (fun e a w' h => shorts_mem _ ls w' ⟨Sy.row_reads h (.inr rfl), fun s hs => ⟨Sy.later_in h (hr.2 s hs).rows, Sy.later_in h (hr.2 s hs).txs⟩⟩) (fun x G1 => ?_)
  obtain ⟨lv, la, hlv, hla, hlo⟩ := x
  generalize shortsL (snsOf ls) = L at *
  obtain ⟨V, hV⟩ : ∃ V, V = wholeV L := ⟨_, rfl⟩
  obtain ⟨E, hE⟩ : ∃ E, E = wholeE L := ⟨_, rfl⟩
  ((repeat' ((conv => whnf);(first|refine zA ?_|(refine zI ?_ ?_<;> intro hh<;> first|(exfalso;omega)|skip)|(refine zl ?_ ?_<;> intro hh)|refine zq ?_|refine zv ?_|refine zu ?_|exact Sy.fin_val fun e=>rfl)));(all_goals (try conv => whnf)))
  refine Sy.call_r2f (v := fun _ vs => retS V E vs) ⟨73, 4, V.rows.length, V.rows.map encK⟩ ⟨89, 3, V.txs.length, V.txs.map encT⟩ (fun k => .tup [.agg (cellS V (.row k) (.row (k + 1))), .c (.v (.int .i64 E))]) Try.call19 (fun e a w' h => by
    have := whole_any _ la w' (SsOk.mono (h.ev w' fun _ _ => rfl).2 fun b hb => h.fl b hb)
    rw [hla, ← hV, ← hE] at this; exact this) ?_
  by_cases hE0 : E = 0
  · rw [hE0] at hE
    subst hE0
    have hz := hE.symm
    ((repeat' ((conv => whnf);(first|refine zA ?_|(refine zI ?_ ?_<;> intro hh<;> first|(exfalso;omega)|skip)|(refine zl ?_ ?_<;> intro hh)|refine zq ?_|refine zv ?_|refine zu ?_|exact Sy.fin_val fun e=>rfl)));(all_goals (try conv => whnf)))
    refine Sy.ar_wrap ?_
    have hu := u64_mod wd
    ((repeat' ((conv => whnf);(first|refine zA ?_|(refine zI ?_ ?_<;> intro hh<;> first|(exfalso;omega)|skip)|(refine zl ?_ ?_<;> intro hh)|refine zq ?_|refine zv ?_|refine zu ?_|exact Sy.fin_val fun e=>rfl)));(all_goals (try conv => whnf)))
    refine Sy.rem_in hu.1 (by decide) ?_
    ((repeat' ((conv => whnf);(first|refine zA ?_|(refine zI ?_ ?_<;> intro hh<;> first|(exfalso;omega)|skip)|(refine zl ?_ ?_<;> intro hh)|refine zq ?_|refine zv ?_|refine zu ?_|exact Sy.fin_val fun e=>rfl)));(all_goals (try conv => whnf)))
    have hm3 : ∃ m : Nat, (1 : Int) + IntKind.u64.wrap wd % 3 = (m : Int) ∧ 1 ≤ m ∧ m ≤ 3 := ⟨(1 + IntKind.u64.wrap wd % 3).toNat, by omega, by omega, by omega⟩
    obtain ⟨m, hm, hm1, hm2⟩ := hm3
    rw [hm]
    have hrE : rescE L (m : Int) = 0 := rescE_zero hz ⟨hm1, hm2⟩
    have hrV : rescV L (m : Int) = partsL (wholeS L) m m := rescV_zero hz ⟨hm1, hm2⟩
    refine Sy.call_mem (fun (x : SlL (rescV L m)) G w' => SsOk G w' x.v x.ls) (fun x => .tup [.c (.v x.v), .c (.v (.int .i64 (rescE L m)))]) Try.call22 (fun x => slE_lt _ x.h) (fun x G G' w1 w2 h hG hk => h.keep hG hk) (fun e a w' h => by
      have := resc_mem lv la m w' (SsOk.mono (h.ev w' fun _ _ => rfl).2 fun b hb => h.fl b hb)
      rw [hla] at this; exact this) (fun x G2 => ?_)
    obtain ⟨pv, pa, hpv, hpa, hpo⟩ := x
    rw [hrE]
    have hpq := hpa.trans hrV
    have hpl : pa.length = m := by rw [← sns_len, hpq, partsL_len]
    have hlal : la.length = L.length := by rw [← sns_len, hla]
    ((repeat' ((conv => whnf);(first|refine zA ?_|(refine zI ?_ ?_<;> intro hh<;> first|(exfalso;omega)|skip)|(refine zl ?_ ?_<;> intro hh)|refine zu ?_|exact Sy.fin_val fun e=>rfl)));(all_goals (try conv => whnf)))
    refine Sy.cut_sem ?_
    refine Sy.sem_subF (Sy.sub_openS 5 14 la.length (la.map encS) rfl (fun e a w' h => (SsOk.mono (h.ev w' fun _ _ => rfl).1.2 fun b hb => .inl hb).1.1) hlo) ?_
    conv => whnf
    refine Sy.sem_subF (Sy.sub_openS 8 14 pa.length (pa.map encS) rfl (fun e a w' h => (h.ev w' fun _ _ => rfl).2.1.1) hpo) ?_
    conv => whnf
    refine Sy.seq_go Sy.tab_ok ?_
    refine Sy.region_go Sy.tab_ok ?_
    ((repeat' ((conv => whnf);(first|refine zA ?_|(refine zI ?_ ?_<;> intro hh<;> first|(exfalso;omega)|skip)|(refine zl ?_ ?_<;> intro hh)|refine zq ?_|refine zv ?_|refine zu ?_|exact Sy.fin_val fun e=>rfl)));(all_goals (try conv => whnf)))
    have hVS : V = wholeS L := hV.trans (wholeV_zero hz)
    have hpw := parts_whole (whole_right hz) (whole_one L) ⟨hm1, hm2⟩
    rw [← hVS] at hpw
    obtain ⟨s0, _, hl3, _⟩ := whole_win hz
    have hpa3 : snsOf pa = partsL V m m := by rw [hpq, hVS]
    refine Sy.call_r2f (v := fun _ vs => retS { V with txs := [] } 0 vs) ⟨73, 4, V.rows.length, V.rows.map encK⟩ ⟨89, 3, 0, []⟩ (fun k => .tup [.agg (cellS V (.row k) (.row (k + 1))), .c (.v (.int .i64 0))]) Try.call19 (fun e a w' h => by
      have := whole_any _ pa w' ⟨Sy.row_reads (k := 5) h (.inr rfl), fun s hs => ((h.ev w' fun _ _ => rfl).2.2 s hs).mono fun b hb => h.fl b hb⟩
      rw [hpa3, hpw.1, wholeV_zero hpw.1, hpw.2] at this; exact this) ?_
    ((repeat' ((conv => whnf);(first|refine zA ?_|(refine zI ?_ ?_<;> intro hh<;> first|(exfalso;omega)|skip)|(refine zl ?_ ?_<;> intro hh)|refine zq ?_|refine zv ?_|refine zu ?_|exact Sy.fin_val fun e=>rfl)));(all_goals (try conv => whnf)))
    refine Sy.call_val (.c (.v (.bool true))) Try.call27 rfl (fun e a w' h => by
      have := same_any ⟨{ V with txs := [] }, e.rv 6, e.rv 7⟩ ⟨{ V with txs := [] }, e.rv 1, .slice none 0 0⟩ w' ⟨Sy.row_reads h (.inl ⟨_, rfl⟩), Sy.row_reads h (.inl ⟨_, rfl⟩)⟩ ⟨Sy.row_reads h (.inl ⟨_, rfl⟩), nil_ok⟩
      rw [decide_eq_true rfl] at this; exact this) ?_
    ((repeat' ((conv => whnf);(first|refine zA ?_|(refine zI ?_ ?_<;> intro hh<;> first|(exfalso;omega)|skip)|(refine zl ?_ ?_<;> intro hh)|refine zq ?_|refine zv ?_|refine zu ?_|exact Sy.fin_val fun e=>rfl)));(all_goals (try conv => whnf)))
    have hE2 : rescE (snsOf pa) (la.length : Int) = 0 := by rw [hpa3]; exact rescE_zero hpw.1 (by omega)
    have hV2 : rescV (snsOf pa) (la.length : Int) = partsL { V with txs := [] } la.length la.length := by rw [hpa3, rescV_zero hpw.1 (by omega), hpw.2]
    refine Sy.call_mem (fun (x : SlL (rescV (snsOf pa) (la.length : Int))) G w' => SsOk G w' x.v x.ls) (fun x => .tup [.c (.v x.v), .c (.v (.int .i64 (rescE (snsOf pa) (la.length : Int))))]) Try.call22 (fun x => slE_lt _ x.h) (fun x G G' w1 w2 h hG hk => h.keep hG hk) (fun e a w' h => resc_mem _ pa la.length w' ⟨Sy.row_reads (k := 5) h (.inr rfl), fun s hs => ((h.ev w' fun _ _ => rfl).2.2 s hs).mono fun b hb => h.fl b hb⟩) (fun x G3 => ?_)
    obtain ⟨qv, qa, hqv, hqa, hqo⟩ := x
    rw [hE2]
    have hqq := hqa.trans hV2
    have hql : qa.length = la.length := by rw [← sns_len, hqq, partsL_len]
    ((repeat' ((conv => whnf);(first|refine zA ?_|(refine zI ?_ ?_<;> intro hh<;> first|(exfalso;omega)|skip)|(refine zl ?_ ?_<;> intro hh)|refine zu ?_|exact Sy.fin_val fun e=>rfl)));(all_goals (try conv => whnf)))
    refine Sy.cut_sem ?_
    refine Sy.sem_subF (Sy.sub_openS 10 14 qa.length (qa.map encS) rfl (fun e a w' h => (h.ev w' fun _ _ => rfl).2.1.1) hqo) ?_
    conv => whnf
    refine Sy.seq_go Sy.tab_ok ?_
    refine Sy.region_go Sy.tab_ok ?_
    ((repeat' ((conv => whnf);(first|refine zA ?_|(refine zI ?_ ?_<;> intro hh<;> first|(exfalso;omega)|skip)|(refine zl ?_ ?_<;> intro hh)|refine zq ?_|refine zv ?_|refine zu ?_|exact Sy.fin_val fun e=>rfl)));(all_goals (try conv => whnf)))
    refine Sy.loop_inv Sy.tab_ok (fun n : Nat => [(75, .c (.v (.int .i64 n)))]) (fun _ => []) (fun n => n ≤ la.length) (fun n => la.length - n) 0 (Nat.zero_le _) ?_ (fun n hn => ?_)
    · ((repeat' (first|((conv => whnf);done)|((try conv => whnf);first|exact trivial|(refine And.intro ?_ ?_)|rfl|exact fun _ _ _ h=>h|exact fun _ _ _ _=>trivial)));(all_goals (try conv => whnf)))
    · by_cases hlt : n < la.length
      · have hg := List.getElem?_eq_getElem hlt
        have hg2 := List.getElem?_eq_getElem (show n < qa.length by omega)
        have hxm := List.getElem_mem hlt
        have hym := List.getElem_mem (show n < qa.length by omega)
        generalize la[n] = x at *
        generalize qa[n] = y at *
        have hxs := sns_get hg
        rw [hla] at hxs
        have hys := sns_get hg2
        rw [hqq, parts_at hlt] at hys
        have hback := part_back hz hxs
        rw [← hVS, ← hlal] at hback
        have hyx : y.sn = { x.sn with txs := [], fin := V.fin } := (Option.some.inj hys).symm.trans hback
        obtain ⟨xs, xr, xt⟩ := x
        ((repeat' ((conv => whnf);(first|refine zA ?_|(refine zI ?_ ?_<;> intro hh<;> first|(exfalso;omega)|skip)|(refine zl ?_ ?_<;> intro hh)|refine zq ?_|refine zv ?_|refine zu ?_|exact Sy.fin_val fun e=>rfl)));(all_goals (try conv => whnf)))
        refine Sy.el_map _ hg ?_
        ((repeat' ((conv => whnf);(first|refine zA ?_|(refine zI ?_ ?_<;> intro hh<;> first|(exfalso;omega)|skip)|(refine zl ?_ ?_<;> intro hh)|refine zq ?_|refine zv ?_|refine zu ?_|exact Sy.fin_val fun e=>rfl)));(all_goals (try conv => whnf)))
        refine Sy.draw_go [10] (by kernel_rfl) ?_
        intro e0
        conv => whnf
        refine zt 0 rfl ?_
        conv => whnf
        refine zt 1 rfl ?_
        conv => whnf
        refine zt 2 rfl ?_
        conv => whnf
        refine zd1 [3] (zx rfl ?_ zy)
        conv => whnf
        refine ⟨(by repeat' ((conv => whnf);first|exact trivial|(refine And.intro ?_ ?_)|rfl)), ?_⟩
        refine zt 4 rfl ?_
        conv => whnf
        refine zd1 [5] (zx rfl ?_ zy)
        conv => whnf
        refine ⟨(by repeat' ((conv => whnf);first|exact trivial|(refine And.intro ?_ ?_)|rfl)), ?_⟩
        refine zw ?_
        skip
        ((repeat' ((conv => whnf);(first|refine zA ?_|(refine zI ?_ ?_<;> intro hh<;> first|(exfalso;omega)|skip)|(refine zl ?_ ?_<;> intro hh)|refine zq ?_|refine zv ?_|refine zu ?_|exact Sy.fin_val fun e=>rfl)));(all_goals (try conv => whnf)))
        refine Sy.draw_go [] (by kernel_rfl) ?_
        intro e0
        conv => whnf
        refine zt 0 rfl ?_
        conv => whnf
        refine zt 1 rfl ?_
        conv => whnf
        refine zt 2 rfl ?_
        (conv => whnf);(repeat' ((first|refine zA ?_|(refine zI ?_ ?_<;> intro hh<;> first|(exfalso;omega)|skip)|(refine zl ?_ ?_<;> intro hh)|refine zq ?_|refine zv ?_|refine zu ?_|exact Sy.fin_val fun e=>rfl);(try conv => whnf)))
        refine zt 3 rfl ?_
        conv => whnf
        refine Sy.el_map y hg2 ?_
        conv => whnf
        refine zt 4 rfl ?_
        conv => whnf
        refine zd1 [5] (zx rfl ?_ zy)
        conv => whnf
        refine Sy.call_val (.c (.v (.bool true))) Try.call27 rfl (fun e a w' h => by
          have := same_any y ⟨{ xs with txs := [], fin := V.fin }, xr, .slice none 0 0⟩ w' (((h.ev w' fun _ _ => rfl).2.2 y hym).mono fun b hb => h.fl b hb) ⟨XD.ok.mono ((h.ev w' fun _ _ => rfl).1.1.2.2 _ hxm).rows fun b hb => h.fl b (.inl (.inl hb)), nil_ok⟩
          rw [decide_eq_true hyx] at this; exact this) ?_
        conv => whnf
        refine ⟨(by repeat' ((conv => whnf);first|exact trivial|(refine And.intro ?_ ?_)|rfl)), ?_⟩
        refine zt 6 rfl ?_
        (conv => whnf);(repeat' ((first|refine zA ?_|(refine zI ?_ ?_<;> intro hh<;> first|(exfalso;omega)|skip)|(refine zl ?_ ?_<;> intro hh)|refine zq ?_|refine zv ?_|refine zu ?_|exact Sy.fin_val fun e=>rfl);(try conv => whnf)))
        refine zw ?_
        skip
        ((repeat' ((conv => whnf);(first|refine zA ?_|(refine zI ?_ ?_<;> intro hh<;> first|(exfalso;omega)|skip)|(refine zl ?_ ?_<;> intro hh)|refine zq ?_|refine zv ?_|refine zu ?_|exact Sy.fin_val fun e=>rfl)));(all_goals (try conv => whnf)))
        refine ⟨n + 1, by omega, by omega, ?_⟩
        ((repeat' (first|((conv => whnf);done)|((try conv => whnf);first|exact trivial|(refine And.intro ?_ ?_)|rfl|exact fun _ _ _ h=>h|exact fun _ _ _ _=>trivial)));(all_goals (try conv => whnf)))
      · ((repeat' ((conv => whnf);(first|refine zA ?_|(refine zI ?_ ?_<;> intro hh<;> first|(exfalso;omega)|skip)|(refine zl ?_ ?_<;> intro hh)|refine zq ?_|refine zv ?_|refine zu ?_|exact Sy.fin_val fun e=>rfl)));(all_goals (try conv => whnf)))
        done
  · ((repeat' ((conv => whnf);(first|refine zA ?_|(refine zI ?_ ?_<;> intro hh<;> first|(exfalso;omega)|skip)|(refine zl ?_ ?_<;> intro hh)|refine zq ?_|refine zv ?_|refine zu ?_|exact Sy.fin_val fun e=>rfl)));(all_goals (try conv => whnf)))
    done
end Go.Proofs.Ytmahldelmbhjfaa
