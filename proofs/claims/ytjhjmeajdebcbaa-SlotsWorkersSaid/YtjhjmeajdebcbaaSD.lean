/- Slots: slices.Delete of one worker (written by wip/tools/gen_slots.py) -/
import Derived.Test.YtjhjmeajdebcbaaSSpec
namespace Go.Proofs.Ytjhjmeajdebcbaa
open Go Go.RowKit
open Sy (C SV V1 Blk St XD Els)
set_option maxRecDepth 10000

theorem deleteW_any (v : Value) (ps : List (Int × Int)) (i : Nat) (w : World) (hown : Sy.OwnE w 31 2 v ps.length (ps.map enc2)) (hi : i < ps.length) (hb : ps.length ≤ 1000000) :
    Calls Try.prog 60 #[v, .int .i64 i, .int .i64 (i + 1 : Nat)] w (Sy.RetRows v (fun _ : Unit => True) (fun _ => [⟨31, 2, ps.length - 1, (ps.eraseIdx i).map enc2⟩]) (fun _ vs => vs.headD undef) w) := by
  rcases hown.2.2 with ⟨A, hv, hn⟩ | ⟨g, cap, hv, hB⟩
  · exfalso; omega
  · subst hv
    refine Sy.calls_buf Sy.lv60 Sy.tab_ok Try.func60 rfl _ Try.ntmps60 g cap 31 2 ps.length (ps.map enc2) hB [] [.c (.sl 0 0 ps.length), .c (.v (.int .i64 i)), .c (.v (.int .i64 (i + 1 : Nat)))] ?_ rfl rfl trivial ?_
    · simp [Sy.denAll, SV.den, C.den, Sy.Env.exts, Sy.Env.withBuf, Addr.add]
    · have hcap : ps.length ≤ cap := by have := hB.2.1; rwa [List.length_map] at this
      ((repeat' ((conv => whnf);(first|refine zA ?_|(refine zI ?_ ?_<;> intro hh<;> first|(exfalso;omega)|skip)|(refine zl ?_ ?_<;> intro hh)|refine zq ?_|refine zv ?_|refine zu ?_|exact Sy.fin_val fun e=>rfl)));(all_goals (try conv => whnf)))
      refine Sy.need_of ⟨by omega, by omega, by omega, by omega⟩ ?_
      ((repeat' ((conv => whnf);(first|refine zA ?_|(refine zI ?_ ?_<;> intro hh<;> first|(exfalso;omega)|skip)|(refine zl ?_ ?_<;> intro hh)|refine zq ?_|refine zv ?_|refine zu ?_|exact Sy.fin_val fun e=>rfl)));(all_goals (try conv => whnf)))
      by_cases hlast : i + 1 < cap
      · refine Sy.draw_go [0] (by kernel_rfl) ?_
        intro e0
        conv => whnf
        refine zt 0 rfl ?_
        conv => whnf
        refine zt 1 rfl ?_
        conv => whnf
        refine zt 3 rfl ?_
        conv => whnf
        refine zt 4 rfl ?_
        conv => whnf
        focus
          refine zd1 [2, 5] (zx rfl ?_ (zx rfl ?_ zy))
          focus
            conv => whnf
            refine Sy.sli_nat (lo := 0) ⟨by omega, by omega⟩ ?_
            conv => whnf
            refine Sy.br_dec (fun hh => ?_) (fun hh => by exfalso; omega)
            conv => whnf
            refine Sy.rev_in (by show 0 + i ≤ (ps.map enc2).length; rw [List.length_map]; omega) ?_
            conv => whnf
            refine ⟨(by repeat' ((conv => whnf);first|exact trivial|(refine And.intro ?_ ?_)|rfl)), ?_⟩
            refine zd1 [5] (zx rfl ?_ zy)
            conv => whnf
            refine Sy.sli_nat ⟨by omega, by omega⟩ ?_
            conv => whnf
            refine Sy.br_dec (fun hh => ?_) (fun hh => by exfalso; omega)
            conv => whnf
            refine Sy.rev_in (by show 0 + ps.length ≤ (ps.map enc2).length; rw [List.length_map]; omega) ?_
            conv => whnf
            refine ⟨(by repeat' ((conv => whnf);first|exact trivial|(refine And.intro ?_ ?_)|rfl)), ?_⟩
            refine zd1 [6] (zx rfl ?_ zy)
            conv => whnf
            refine Sy.need_of (by show 0 + (i + 1) + (ps.length - (i + 1)) ≤ (ps.map enc2).length; rw [List.length_map]; omega) ?_
            conv => whnf
            refine Sy.need_of (by show i - 0 ≤ (ps.map enc2).length; rw [List.length_map]; omega) ?_
            conv => whnf
            refine Sy.br_dec (fun hh => ?_) (fun hh => by exfalso; omega)
            conv => whnf
            refine ⟨(by repeat' ((conv => whnf);first|exact trivial|(refine And.intro ?_ ?_)|rfl)), ?_⟩
            refine zt 7 rfl ?_
            conv => whnf
            refine zw ?_
            ((repeat' ((conv => whnf);(first|refine zA ?_|(refine zI ?_ ?_<;> intro hh<;> first|(exfalso;omega)|skip)|(refine zl ?_ ?_<;> intro hh)|refine zq ?_|refine zv ?_|refine zu ?_|exact Sy.fin_val fun e=>rfl)));(all_goals (try conv => whnf)))
            refine Sy.sli_eq (ps.length - 1) ps.length (by omega) rfl ⟨by omega, by omega⟩ ?_
            conv => whnf
            refine Sy.br_dec (fun hh => ?_) (fun hh => by exfalso; omega)
            conv => whnf
            refine Sy.rev_in (by show _ ≤ List.length (_ ++ (_ ++ _)); simp only [List.length_append, List.length_take, List.length_drop, List.length_map]; omega) ?_
            ((repeat' ((conv => whnf);(first|refine zA ?_|(refine zI ?_ ?_<;> intro hh<;> first|(exfalso;omega)|skip)|(refine zl ?_ ?_<;> intro hh)|refine zq ?_|refine zv ?_|refine zu ?_|exact Sy.fin_val fun e=>rfl)));(all_goals (try conv => whnf)))
            refine Sy.need_of (by show _ ≤ List.length _; (try simp only [List.length_append, List.length_take, List.length_drop, List.length_map, List.length_replicate, List.length_cons, List.length_nil]); omega) ?_
            ((repeat' ((conv => whnf);(first|refine zA ?_|(refine zI ?_ ?_<;> intro hh<;> first|(exfalso;omega)|skip)|(refine zl ?_ ?_<;> intro hh)|refine zq ?_|refine zv ?_|refine zu ?_|exact Sy.fin_val fun e=>rfl)));(all_goals (try conv => whnf)))
            refine Sy.fin_buf () trivial rfl (by show _ ≤ List.length _; (try simp only [List.length_append, List.length_take, List.length_drop, List.length_map, List.length_replicate, List.length_cons, List.length_nil]); omega) (by rw [show i - 0 + (ps.length - (i + 1)) = ps.length - 1 by omega]; rfl) (ys := (ps.eraseIdx i).map enc2) (fun e => ?_)
            rw [show i - 0 + (ps.length - (i + 1)) = ps.length - 1 by omega, map_eraseIdx]
            exact del_mid (by simp) hi _ _
          rotate_right
          focus
            conv => whnf
            refine Sy.sli_nat ⟨by omega, by omega⟩ ?_
            conv => whnf
            refine Sy.br_dec (fun hh => ?_) (fun hh => by exfalso; omega)
            conv => whnf
            refine Sy.rev_in (by show 0 + ps.length ≤ (ps.map enc2).length; rw [List.length_map]; omega) ?_
            conv => whnf
            refine ⟨(by repeat' ((conv => whnf);first|exact trivial|(refine And.intro ?_ ?_)|rfl)), ?_⟩
            refine zd1 [2] (zx rfl ?_ zy)
            conv => whnf
            refine Sy.sli_nat (lo := 0) ⟨by omega, by omega⟩ ?_
            conv => whnf
            refine Sy.br_dec (fun hh => ?_) (fun hh => by exfalso; omega)
            conv => whnf
            refine Sy.rev_in (by show 0 + i ≤ (ps.map enc2).length; rw [List.length_map]; omega) ?_
            conv => whnf
            refine ⟨(by repeat' ((conv => whnf);first|exact trivial|(refine And.intro ?_ ?_)|rfl)), ?_⟩
            refine zd1 [6] (zx rfl ?_ zy)
            conv => whnf
            refine Sy.need_of (by show 0 + (i + 1) + (ps.length - (i + 1)) ≤ (ps.map enc2).length; rw [List.length_map]; omega) ?_
            conv => whnf
            refine Sy.need_of (by show i - 0 ≤ (ps.map enc2).length; rw [List.length_map]; omega) ?_
            conv => whnf
            refine Sy.br_dec (fun hh => ?_) (fun hh => by exfalso; omega)
            conv => whnf
            refine ⟨(by repeat' ((conv => whnf);first|exact trivial|(refine And.intro ?_ ?_)|rfl)), ?_⟩
            refine zt 7 rfl ?_
            conv => whnf
            refine zw ?_
            ((repeat' ((conv => whnf);(first|refine zA ?_|(refine zI ?_ ?_<;> intro hh<;> first|(exfalso;omega)|skip)|(refine zl ?_ ?_<;> intro hh)|refine zq ?_|refine zv ?_|refine zu ?_|exact Sy.fin_val fun e=>rfl)));(all_goals (try conv => whnf)))
            refine Sy.sli_eq (ps.length - 1) ps.length (by omega) rfl ⟨by omega, by omega⟩ ?_
            conv => whnf
            refine Sy.br_dec (fun hh => ?_) (fun hh => by exfalso; omega)
            conv => whnf
            refine Sy.rev_in (by show _ ≤ List.length (_ ++ (_ ++ _)); simp only [List.length_append, List.length_take, List.length_drop, List.length_map]; omega) ?_
            ((repeat' ((conv => whnf);(first|refine zA ?_|(refine zI ?_ ?_<;> intro hh<;> first|(exfalso;omega)|skip)|(refine zl ?_ ?_<;> intro hh)|refine zq ?_|refine zv ?_|refine zu ?_|exact Sy.fin_val fun e=>rfl)));(all_goals (try conv => whnf)))
            refine Sy.need_of (by show _ ≤ List.length _; (try simp only [List.length_append, List.length_take, List.length_drop, List.length_map, List.length_replicate, List.length_cons, List.length_nil]); omega) ?_
            ((repeat' ((conv => whnf);(first|refine zA ?_|(refine zI ?_ ?_<;> intro hh<;> first|(exfalso;omega)|skip)|(refine zl ?_ ?_<;> intro hh)|refine zq ?_|refine zv ?_|refine zu ?_|exact Sy.fin_val fun e=>rfl)));(all_goals (try conv => whnf)))
            refine Sy.fin_buf () trivial rfl (by show _ ≤ List.length _; (try simp only [List.length_append, List.length_take, List.length_drop, List.length_map, List.length_replicate, List.length_cons, List.length_nil]); omega) (by rw [show i - 0 + (ps.length - (i + 1)) = ps.length - 1 by omega]; rfl) (ys := (ps.eraseIdx i).map enc2) (fun e => ?_)
            rw [show i - 0 + (ps.length - (i + 1)) = ps.length - 1 by omega, map_eraseIdx]
            exact del_mid (by simp) hi _ _
      · have hcn : cap = ps.length := by omega
        have hin : i + 1 = ps.length := by omega
        refine Sy.draw_go [0] (by kernel_rfl) ?_
        intro e0
        conv => whnf
        refine zt 0 rfl ?_
        conv => whnf
        refine zt 1 rfl ?_
        conv => whnf
        refine zt 3 rfl ?_
        conv => whnf
        refine zt 4 rfl ?_
        conv => whnf
        focus
          refine zd1 [2, 5] (zx rfl ?_ (zx rfl ?_ zy))
          focus
            conv => whnf
            refine Sy.sli_nat (lo := 0) ⟨by omega, by omega⟩ ?_
            conv => whnf
            refine Sy.br_dec (fun hh => ?_) (fun hh => by exfalso; omega)
            conv => whnf
            refine Sy.rev_in (by show 0 + i ≤ (ps.map enc2).length; rw [List.length_map]; omega) ?_
            conv => whnf
            refine ⟨(by repeat' ((conv => whnf);first|exact trivial|(refine And.intro ?_ ?_)|rfl)), ?_⟩
            refine zd1 [5] (zx rfl ?_ zy)
            conv => whnf
            refine Sy.sli_nat ⟨by omega, by omega⟩ ?_
            conv => whnf
            refine Sy.br_dec (fun hh => by exfalso; omega) (fun hh => ?_)
            conv => whnf
            refine ⟨(by repeat' ((conv => whnf);first|exact trivial|(refine And.intro ?_ ?_)|rfl)), ?_⟩
            refine zd1 [6] (zx rfl ?_ zy)
            conv => whnf
            refine Sy.need_of (by show _ ≤ List.length _; (try simp only [List.length_append, List.length_take, List.length_drop, List.length_map, List.length_replicate, List.length_cons, List.length_nil]); omega) ?_
            conv => whnf
            refine Sy.br_dec (fun hh => ?_) (fun hh => by exfalso; omega)
            conv => whnf
            refine ⟨(by repeat' ((conv => whnf);first|exact trivial|(refine And.intro ?_ ?_)|rfl)), ?_⟩
            refine zt 7 rfl ?_
            conv => whnf
            refine zw ?_
            ((repeat' ((conv => whnf);(first|refine zA ?_|(refine zI ?_ ?_<;> intro hh<;> first|(exfalso;omega)|skip)|(refine zl ?_ ?_<;> intro hh)|refine zq ?_|refine zv ?_|refine zu ?_|exact Sy.fin_val fun e=>rfl)));(all_goals (try conv => whnf)))
            refine Sy.sli_eq (ps.length - 1) ps.length (by omega) rfl ⟨by omega, by omega⟩ ?_
            conv => whnf
            refine Sy.br_dec (fun hh => ?_) (fun hh => by exfalso; omega)
            conv => whnf
            refine Sy.rev_in (by show _ ≤ List.length _; (try simp only [List.length_append, List.length_take, List.length_drop, List.length_map, List.length_replicate, List.length_cons, List.length_nil]); omega) ?_
            ((repeat' ((conv => whnf);(first|refine zA ?_|(refine zI ?_ ?_<;> intro hh<;> first|(exfalso;omega)|skip)|(refine zl ?_ ?_<;> intro hh)|refine zq ?_|refine zv ?_|refine zu ?_|exact Sy.fin_val fun e=>rfl)));(all_goals (try conv => whnf)))
            refine Sy.need_of (by show _ ≤ List.length _; (try simp only [List.length_append, List.length_take, List.length_drop, List.length_map, List.length_replicate, List.length_cons, List.length_nil]); omega) ?_
            ((repeat' ((conv => whnf);(first|refine zA ?_|(refine zI ?_ ?_<;> intro hh<;> first|(exfalso;omega)|skip)|(refine zl ?_ ?_<;> intro hh)|refine zq ?_|refine zv ?_|refine zu ?_|exact Sy.fin_val fun e=>rfl)));(all_goals (try conv => whnf)))
            refine Sy.fin_buf () trivial rfl (by show _ ≤ List.length _; (try simp only [List.length_append, List.length_take, List.length_drop, List.length_map, List.length_replicate, List.length_cons, List.length_nil]); omega) (by rw [show i - 0 + 0 = ps.length - 1 by omega]; rfl) (ys := (ps.eraseIdx i).map enc2) (fun e => ?_)
            rw [show i - 0 + 0 = ps.length - 1 by omega, map_eraseIdx]
            exact del_end (by simp) hin _ _
          rotate_right
          focus
            conv => whnf
            refine Sy.sli_nat ⟨by omega, by omega⟩ ?_
            conv => whnf
            refine Sy.br_dec (fun hh => by exfalso; omega) (fun hh => ?_)
            conv => whnf
            refine ⟨(by repeat' ((conv => whnf);first|exact trivial|(refine And.intro ?_ ?_)|rfl)), ?_⟩
            refine zd1 [2] (zx rfl ?_ zy)
            conv => whnf
            refine Sy.sli_nat (lo := 0) ⟨by omega, by omega⟩ ?_
            conv => whnf
            refine Sy.br_dec (fun hh => ?_) (fun hh => by exfalso; omega)
            conv => whnf
            refine Sy.rev_in (by show 0 + i ≤ (ps.map enc2).length; rw [List.length_map]; omega) ?_
            conv => whnf
            refine ⟨(by repeat' ((conv => whnf);first|exact trivial|(refine And.intro ?_ ?_)|rfl)), ?_⟩
            refine zd1 [6] (zx rfl ?_ zy)
            conv => whnf
            refine Sy.need_of (by show _ ≤ List.length _; (try simp only [List.length_append, List.length_take, List.length_drop, List.length_map, List.length_replicate, List.length_cons, List.length_nil]); omega) ?_
            conv => whnf
            refine Sy.br_dec (fun hh => ?_) (fun hh => by exfalso; omega)
            conv => whnf
            refine ⟨(by repeat' ((conv => whnf);first|exact trivial|(refine And.intro ?_ ?_)|rfl)), ?_⟩
            refine zt 7 rfl ?_
            conv => whnf
            refine zw ?_
            ((repeat' ((conv => whnf);(first|refine zA ?_|(refine zI ?_ ?_<;> intro hh<;> first|(exfalso;omega)|skip)|(refine zl ?_ ?_<;> intro hh)|refine zq ?_|refine zv ?_|refine zu ?_|exact Sy.fin_val fun e=>rfl)));(all_goals (try conv => whnf)))
            refine Sy.sli_eq (ps.length - 1) ps.length (by omega) rfl ⟨by omega, by omega⟩ ?_
            conv => whnf
            refine Sy.br_dec (fun hh => ?_) (fun hh => by exfalso; omega)
            conv => whnf
            refine Sy.rev_in (by show _ ≤ List.length _; (try simp only [List.length_append, List.length_take, List.length_drop, List.length_map, List.length_replicate, List.length_cons, List.length_nil]); omega) ?_
            ((repeat' ((conv => whnf);(first|refine zA ?_|(refine zI ?_ ?_<;> intro hh<;> first|(exfalso;omega)|skip)|(refine zl ?_ ?_<;> intro hh)|refine zq ?_|refine zv ?_|refine zu ?_|exact Sy.fin_val fun e=>rfl)));(all_goals (try conv => whnf)))
            refine Sy.need_of (by show _ ≤ List.length _; (try simp only [List.length_append, List.length_take, List.length_drop, List.length_map, List.length_replicate, List.length_cons, List.length_nil]); omega) ?_
            ((repeat' ((conv => whnf);(first|refine zA ?_|(refine zI ?_ ?_<;> intro hh<;> first|(exfalso;omega)|skip)|(refine zl ?_ ?_<;> intro hh)|refine zq ?_|refine zv ?_|refine zu ?_|exact Sy.fin_val fun e=>rfl)));(all_goals (try conv => whnf)))
            refine Sy.fin_buf () trivial rfl (by show _ ≤ List.length _; (try simp only [List.length_append, List.length_take, List.length_drop, List.length_map, List.length_replicate, List.length_cons, List.length_nil]); omega) (by rw [show i - 0 + 0 = ps.length - 1 by omega]; rfl) (ys := (ps.eraseIdx i).map enc2) (fun e => ?_)
            rw [show i - 0 + 0 = ps.length - 1 by omega, map_eraseIdx]
            exact del_end (by simp) hin _ _

end Go.Proofs.Ytjhjmeajdebcbaa
