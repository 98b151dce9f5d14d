/- Job: the law Life. -/
import Derived.Test.YtbajgjbgkpcapaaJYh
namespace Go.Proofs.Ytbajgjbgkpcapaa
open Go Go.RowKit
open Sy (C SV V1 Blk St XD Els)
set_option maxRecDepth 10000

structure Lf where
  n : Nat
  j : Jb
  anew : Int
theorem ynew_in {k : Int} (h : 0 ≤ k ∧ k ≤ 8) (w : World) : Calls Try.prog 14 #[.int .i64 k] w (Sy.Ret (.tuple #[.agg #[.int .i64 0, .int .i64 0, .int .i64 k], .int .i64 0]) w) := by
  have h1 : Calls Try.prog 14 #[.int .i64 k] w (Sx.Ret (doV (nS k)) w) := new_any k w
  unfold nS at h1
  rw [if_pos h] at h1
  exact h1
theorem ok_zero {k : Int} (h : 0 ≤ k ∧ k ≤ 8) : okB ⟨0, 0, k⟩ := by unfold okB okJ; dsimp only; omega
theorem okB_bd {j : Jb} (h : okB j) : 0 ≤ j.s ∧ j.s ≤ 7 ∧ 0 ≤ j.m ∧ j.m ≤ 8 ∧ 0 ≤ j.f ∧ j.f ≤ j.m := by unfold okB okJ at h; omega
theorem over_of {j : Jb} (h : okB j) : ovrS j.s j.f j.m = decide (4 ≤ j.s) := by
  unfold ovrS
  rw [Bool.eq_iff_iff, decide_eq_true_iff, decide_eq_true_iff]
  exact ⟨fun h => h.2, fun h2 => ⟨h, h2⟩⟩
theorem lives_of {j : Jb} (h : okB j) : livS j.s j.f j.m = decide (0 < j.s ∧ j.s < 4) := by
  unfold livS
  rw [Bool.eq_iff_iff, decide_eq_true_iff, decide_eq_true_iff]
  exact ⟨fun h => h.2, fun h2 => ⟨h, h2⟩⟩
theorem chk_of {j : Jb} (h : okB j) : chk j.s j.f j.m = 0 := by unfold okB at h; unfold chk; rw [if_pos h]
attribute [local irreducible] okB okJ chk rch mpJ dJ mayQ reachL setE livS ovrS
set_option maxHeartbeats 2000000 in
theorem life_any (most : Int) (u : Value) (l : List Int) (w : World) (hu : XD.ok (fun b => b < w.heap.size) w ⟨u, 1, l.length, l.map encI⟩) : Calls Try.prog 7 #[.int .i64 most, u] w (Sy.Ret (.bool true) w) := by
  have hlu := ok_len hu
  refine Sy.calls_of Sy.lv7 Sy.tab_ok Try.func7 rfl _ Try.ntmps7 [⟨u, 1, l.length, l.map encI⟩] [.c (.v (.int .i64 most)), .c (.row 0)] rfl rfl rfl ⟨hu, trivial⟩ ?_
  ((repeat' ((conv => whnf);(first|refine zA ?_|(refine zI ?_ ?_<;> intro hh<;> first|(exfalso;omega)|skip)|(refine zl ?_ ?_<;> intro hh)|refine zq ?_|refine zv ?_|refine zu ?_|exact Sy.fin_val fun e=>rfl)));(all_goals (try conv => whnf)))
  refine Sy.call_val (.c (.v (.bool true))) Try.call8 rfl (fun _ _ w' _ => ywakes_any w') ?_
  ((repeat' ((conv => whnf);(first|refine zA ?_|(refine zI ?_ ?_<;> intro hh<;> first|(exfalso;omega)|skip)|(refine zl ?_ ?_<;> intro hh)|refine zq ?_|refine zv ?_|refine zu ?_|exact Sy.fin_val fun e=>rfl)));(all_goals (try conv => whnf)))
  have hmx : 0 ≤ Sy.maxI most 0 := by unfold Sy.maxI; split <;> omega
  refine Sy.rem_in hmx (by decide) ?_
  have hk : 0 ≤ Sy.maxI most 0 % 9 ∧ Sy.maxI most 0 % 9 ≤ 8 := by omega
  clear hmx
  generalize Sy.maxI most 0 % 9 = k at *
  ((repeat' ((conv => whnf);(first|refine zA ?_|(refine zI ?_ ?_<;> intro hh<;> first|(exfalso;omega)|skip)|(refine zl ?_ ?_<;> intro hh)|refine zq ?_|refine zv ?_|refine zu ?_|exact Sy.fin_val fun e=>rfl)));(all_goals (try conv => whnf)))
  refine Sy.call_val (.tup [.agg [.v (.int .i64 0), .v (.int .i64 0), .v (.int .i64 k)], .c (.v (.int .i64 0))]) Try.call14 rfl (fun _ _ w' _ => ynew_in hk w') ?_
  ((repeat' ((conv => whnf);(first|refine zA ?_|(refine zI ?_ ?_<;> intro hh<;> first|(exfalso;omega)|skip)|(refine zl ?_ ?_<;> intro hh)|refine zq ?_|refine zv ?_|refine zu ?_|exact Sy.fin_val fun e=>rfl)));(all_goals (try conv => whnf)))
  have ho0 := ok_zero hk
  refine Sy.call_r1 ⟨3, 1, (reachL ⟨0, 0, k⟩).length, (reachL ⟨0, 0, k⟩).map encI⟩ (fun j => .c (.row j)) Try.call19 (fun _ _ w' _ => yreach_any ⟨0, 0, k⟩ ho0 w') ?_
  have hrm := fun t => reach_mem (t := t) ho0
  generalize hR : reachL ⟨0, 0, k⟩ = R at *
  have hRl : R.length ≤ 8 := by
    rw [← hR]
    unfold reachL
    have := List.length_filter_le (fun t => decide (rch ⟨0, 0, k⟩ t)) ((List.range 8).map fun (i : Nat) => (i : Int))
    rw [List.length_map, List.length_range] at this
    exact this
  ((repeat' ((conv => whnf);(first|refine zA ?_|(refine zI ?_ ?_<;> intro hh<;> first|(exfalso;omega)|skip)|(refine zl ?_ ?_<;> intro hh)|refine zq ?_|refine zv ?_|refine zu ?_|exact Sy.fin_val fun e=>rfl)));(all_goals (try conv => whnf)))
  refine Sy.loop_inv Sy.tab_ok (fun y : Nat × List Int => [(32, .c (.v (.int .i64 y.1)))]) (fun y => [(2, .mp (setE y.2))]) (fun y => y.1 ≤ R.length ∧ y.2.Nodup ∧ ∀ x, x ∈ y.2 ↔ x ∈ R.take y.1) (fun y => R.length - y.1) (0, []) ⟨Nat.zero_le _, List.nodup_nil, fun x => by simp⟩ ?_ (fun y hy => ?_)
  · dsimp only
    rw [set_nil]
    ((repeat' (first|((conv => whnf);done)|((try conv => whnf);first|exact trivial|(refine And.intro ?_ ?_)|rfl|exact fun _ _ _ h=>h|exact fun _ _ _ _=>trivial)));(all_goals (try conv => whnf)))
  · obtain ⟨m, ks⟩ := y
    obtain ⟨hm, hkd, hkm⟩ := hy
    dsimp only at hm hkd hkm ⊢
    by_cases hlt2 : m < R.length
    · have hgm := List.getElem?_eq_getElem hlt2
      generalize R[m] = z at *
      have hst := set_step hgm hkm
      ((repeat' ((conv => whnf);(first|refine zA ?_|(refine zI ?_ ?_<;> intro hh<;> first|(exfalso;omega)|skip)|(refine zl ?_ ?_<;> intro hh)|refine zq ?_|refine zv ?_|refine zu ?_|exact Sy.fin_val fun e=>rfl)));(all_goals (try conv => whnf)))
      refine Sy.el_map z hgm ?_
      ((repeat' ((conv => whnf);(first|refine zA ?_|(refine zI ?_ ?_<;> intro hh<;> first|(exfalso;omega)|skip)|(refine zl ?_ ?_<;> intro hh)|refine zq ?_|refine zv ?_|refine zu ?_|exact Sy.fin_val fun e=>rfl)));(all_goals (try conv => whnf)))
      refine set_add ks z Try.underlying3 hkd (fun r hr => ?_)
      rcases hr with ⟨hx, i, rfl, hi⟩ | ⟨hx, rfl⟩
      · ((repeat' ((conv => whnf);(first|refine zA ?_|(refine zI ?_ ?_<;> intro hh<;> first|(exfalso;omega)|skip)|(refine zl ?_ ?_<;> intro hh)|refine zq ?_|refine zv ?_|refine zu ?_|exact Sy.fin_val fun e=>rfl)));(all_goals (try conv => whnf)))
        refine ⟨(m + 1, ks), ⟨by dsimp only; omega, hkd, fun x => ?_⟩, by dsimp only; omega, ?_⟩
        · rw [← hst]
          exact ⟨.inl, fun h => h.elim id fun e => e ▸ hx⟩
        · ((repeat' (first|((conv => whnf);done)|((try conv => whnf);first|exact trivial|(refine And.intro ?_ ?_)|rfl|exact fun _ _ _ h=>h|exact fun _ _ _ _=>trivial)));(all_goals (try conv => whnf)))
          all_goals exact set_same ks hi
      · ((repeat' ((conv => whnf);(first|refine zA ?_|(refine zI ?_ ?_<;> intro hh<;> first|(exfalso;omega)|skip)|(refine zl ?_ ?_<;> intro hh)|refine zq ?_|refine zv ?_|refine zu ?_|exact Sy.fin_val fun e=>rfl)));(all_goals (try conv => whnf)))
        refine ⟨(m + 1, ks ++ [z]), ⟨by dsimp only; omega, List.nodup_append.2 ⟨hkd, by simp, fun a ha b hb => by simp at hb; rintro rfl; exact hx (hb ▸ ha)⟩, fun x => ?_⟩, by dsimp only; omega, ?_⟩
        · rw [← hst, List.mem_append, List.mem_singleton]
        · ((repeat' (first|((conv => whnf);done)|((try conv => whnf);first|exact trivial|(refine And.intro ?_ ?_)|rfl|exact fun _ _ _ h=>h|exact fun _ _ _ _=>trivial)));(all_goals (try conv => whnf)))
          all_goals exact set_new ks z
    · have e : m = R.length := by omega
      rw [e, List.take_length] at hkm
      have hkr : ∀ t, t ∈ ks ↔ rch ⟨0, 0, k⟩ t := fun t => (hkm t).trans (hrm t)
      clear hkm hrm
      ((repeat' ((conv => whnf);(first|refine zA ?_|(refine zI ?_ ?_<;> intro hh<;> first|(exfalso;omega)|skip)|(refine zl ?_ ?_<;> intro hh)|refine zq ?_|refine zv ?_|refine zu ?_|exact Sy.fin_val fun e=>rfl)));(all_goals (try conv => whnf)))
      refine Sy.loop_inv Sy.tab_ok (fun x : Lf => [(41, .c (.v (.int .i64 x.n))), (10, .c (.v (.int .i64 x.anew)))]) (fun x => [(1, .cells 23 [.v (.int .i64 x.j.s), .v (.int .i64 x.j.f), .v (.int .i64 x.j.m)])]) (fun x => x.n ≤ l.length ∧ okB x.j ∧ x.anew = x.j.f ∧ ∀ t, rch x.j t → rch ⟨0, 0, k⟩ t) (fun x => l.length - x.n) ⟨0, ⟨0, 0, k⟩, 0⟩ ⟨Nat.zero_le _, ho0, rfl, fun _ h => h⟩ ?_ (fun x hx => ?_)
      · ((repeat' (first|((conv => whnf);done)|((try conv => whnf);first|exact trivial|(refine And.intro ?_ ?_)|rfl|exact fun _ _ _ h=>h|exact fun _ _ _ _=>trivial)));(all_goals (try conv => whnf)))
      · obtain ⟨n, j, anew⟩ := x
        obtain ⟨hn, hjo, hja, hjr⟩ := hx
        dsimp only at hn hjo hja hjr ⊢
        subst hja
        have hjb := okB_bd hjo
        ((repeat' ((conv => whnf);(first|refine zA ?_|(refine zI ?_ ?_<;> intro hh<;> first|(exfalso;omega)|skip)|(refine zl ?_ ?_<;> intro hh)|refine zq ?_|refine zv ?_|refine zu ?_|exact Sy.fin_val fun e=>rfl)));(all_goals (try conv => whnf)))
        · have hlt : n < l.length := by omega
          have hgn := List.getElem?_eq_getElem hlt
          generalize l[n] = h at *
          refine Sy.el_map h hgn ?_
          ((repeat' ((conv => whnf);(first|refine zA ?_|(refine zI ?_ ?_<;> intro hh<;> first|(exfalso;omega)|skip)|(refine zl ?_ ?_<;> intro hh)|refine zq ?_|refine zv ?_|refine zu ?_|exact Sy.fin_val fun e=>rfl)));(all_goals (try conv => whnf)))
          · have hfm : decide (j.f ≤ j.m) = true := decide_eq_true hjb.2.2.2.2.2
            have hff : (j.f == j.f) = true := beq_self_eq_true _
            rcases (show ((j.s == 0) = true ∧ livS j.s j.f j.m = false ∧ ovrS j.s j.f j.m = false) ∨ ((j.s == 0) = false ∧ livS j.s j.f j.m = true ∧ ovrS j.s j.f j.m = false) ∨ (livS j.s j.f j.m = false ∧ ovrS j.s j.f j.m = true) by
                rw [lives_of hjo, over_of hjo]
                rcases (show j.s = 0 ∨ (0 < j.s ∧ j.s < 4) ∨ 4 ≤ j.s by omega) with h | h | h
                · exact .inl ⟨by rw [h]; rfl, decide_eq_false (by omega), decide_eq_false (by omega)⟩
                · exact .inr (.inl ⟨beq_false_of_ne (by omega), decide_eq_true h, decide_eq_false (by omega)⟩)
                · exact .inr (.inr ⟨decide_eq_false (by omega), decide_eq_true h⟩)) with ⟨h1, h2, h3⟩ | ⟨h1, h2, h3⟩ | ⟨h2, h3⟩
            · refine Sy.draw_go [] (by kernel_rfl) ?_
              intro e0
              conv => whnf
              refine zt 0 rfl ?_
              conv => whnf
              refine zt 1 rfl ?_
              conv => whnf
              refine zt 2 rfl ?_
              conv => whnf
              refine zt 3 rfl ?_
              (conv => whnf);(repeat' ((first|refine zA ?_|(refine zI ?_ ?_<;> intro hh<;> first|(exfalso;omega)|skip)|(refine zl ?_ ?_<;> intro hh)|refine zq ?_|refine zv ?_|refine zu ?_|exact Sy.fin_val fun e=>rfl);(try conv => whnf)))
              refine zt 4 rfl ?_
              conv => whnf
              refine zt 5 rfl ?_
              (conv => whnf);(repeat' ((first|refine zA ?_|(refine zI ?_ ?_<;> intro hh<;> first|(exfalso;omega)|skip)|(refine zl ?_ ?_<;> intro hh)|refine zq ?_|refine zv ?_|refine zu ?_|exact Sy.fin_val fun e=>rfl);(try conv => whnf)))
              refine zt 6 rfl ?_
              (conv => whnf);(repeat' ((first|refine zA ?_|(refine zI ?_ ?_<;> intro hh<;> first|(exfalso;omega)|skip)|(refine zl ?_ ?_<;> intro hh)|refine zq ?_|refine zv ?_|refine zu ?_|exact Sy.fin_val fun e=>rfl);(try conv => whnf)))
              refine zt 7 rfl ?_
              (conv => whnf);(repeat' ((first|refine zA ?_|(refine zI ?_ ?_<;> intro hh<;> first|(exfalso;omega)|skip)|(refine zl ?_ ?_<;> intro hh)|refine zq ?_|refine zv ?_|refine zu ?_|exact Sy.fin_val fun e=>rfl);(try conv => whnf)))
              refine zt 8 rfl ?_
              (conv => whnf);(repeat' ((first|refine zA ?_|(refine zI ?_ ?_<;> intro hh<;> first|(exfalso;omega)|skip)|(refine zl ?_ ?_<;> intro hh)|refine zq ?_|refine zv ?_|refine zu ?_|exact Sy.fin_val fun e=>rfl);(try conv => whnf)))
              refine zt 9 rfl ?_
              (conv => whnf);(repeat' ((first|refine zA ?_|(refine zI ?_ ?_<;> intro hh<;> first|(exfalso;omega)|skip)|(refine zl ?_ ?_<;> intro hh)|refine zq ?_|refine zv ?_|refine zu ?_|exact Sy.fin_val fun e=>rfl);(try conv => whnf)))
              refine zt 10 rfl ?_
              conv => whnf
              refine zt 11 rfl ?_
              (conv => whnf);(repeat' ((first|refine zA ?_|(refine zI ?_ ?_<;> intro hh<;> first|(exfalso;omega)|skip)|(refine zl ?_ ?_<;> intro hh)|refine zq ?_|refine zv ?_|refine zu ?_|exact Sy.fin_val fun e=>rfl);(try conv => whnf)))
              refine zt 13 rfl ?_
              (conv => whnf);(repeat' ((first|refine zA ?_|(refine zI ?_ ?_<;> intro hh<;> first|(exfalso;omega)|skip)|(refine zl ?_ ?_<;> intro hh)|refine zq ?_|refine zv ?_|refine zu ?_|exact Sy.fin_val fun e=>rfl);(try conv => whnf)))
              refine zd1 [12] (zx rfl ?_ zy)
              conv => whnf
              (refine zA ?_;conv => whnf)
              refine Sy.call_val (.c (.v (.bool false))) Try.call16 rfl (fun _ _ w' _ => by have := ylives_any j w'; rw [h2] at this; exact this) ?_
              conv => whnf
              refine ⟨(by repeat' ((conv => whnf);first|exact trivial|(refine And.intro ?_ ?_)|rfl)), ?_⟩
              refine zd1 [14] (zx rfl ?_ zy)
              conv => whnf
              (refine zA ?_;conv => whnf)
              refine Sy.call_val (.c (.v (.bool false))) Try.call17 rfl (fun _ _ w' _ => by have := yover_any j w'; rw [h3] at this; exact this) ?_
              conv => whnf
              refine ⟨(by repeat' ((conv => whnf);first|exact trivial|(refine And.intro ?_ ?_)|rfl)), ?_⟩
              refine zt 15 rfl ?_
              (conv => whnf);(repeat' ((first|refine zA ?_|(refine zI ?_ ?_<;> intro hh<;> first|(exfalso;omega)|skip)|(refine zl ?_ ?_<;> intro hh)|refine zq ?_|refine zv ?_|refine zu ?_|exact Sy.fin_val fun e=>rfl);(try conv => whnf)))
              refine zt 16 rfl ?_
              (conv => whnf);(repeat' ((first|refine zA ?_|(refine zI ?_ ?_<;> intro hh<;> first|(exfalso;omega)|skip)|(refine zl ?_ ?_<;> intro hh)|refine zq ?_|refine zv ?_|refine zu ?_|exact Sy.fin_val fun e=>rfl);(try conv => whnf)))
              refine zt 17 rfl ?_
              (conv => whnf);(repeat' ((first|refine zA ?_|(refine zI ?_ ?_<;> intro hh<;> first|(exfalso;omega)|skip)|(refine zl ?_ ?_<;> intro hh)|refine zq ?_|refine zv ?_|refine zu ?_|exact Sy.fin_val fun e=>rfl);(try conv => whnf)))
              refine zt 18 rfl ?_
              (conv => whnf);(repeat' ((first|refine zA ?_|(refine zI ?_ ?_<;> intro hh<;> first|(exfalso;omega)|skip)|(refine zl ?_ ?_<;> intro hh)|refine zq ?_|refine zv ?_|refine zu ?_|exact Sy.fin_val fun e=>rfl);(try conv => whnf)))
              refine zt 19 rfl ?_
              (conv => whnf);(repeat' ((first|refine zA ?_|(refine zI ?_ ?_<;> intro hh<;> first|(exfalso;omega)|skip)|(refine zl ?_ ?_<;> intro hh)|refine zq ?_|refine zv ?_|refine zu ?_|exact Sy.fin_val fun e=>rfl);(try conv => whnf)))
              refine zt 20 rfl ?_
              (conv => whnf);(repeat' ((first|refine zA ?_|(refine zI ?_ ?_<;> intro hh<;> first|(exfalso;omega)|skip)|(refine zl ?_ ?_<;> intro hh)|refine zq ?_|refine zv ?_|refine zu ?_|exact Sy.fin_val fun e=>rfl);(try conv => whnf)))
              refine zt 21 rfl ?_
              (conv => whnf);(repeat' ((first|refine zA ?_|(refine zI ?_ ?_<;> intro hh<;> first|(exfalso;omega)|skip)|(refine zl ?_ ?_<;> intro hh)|refine zq ?_|refine zv ?_|refine zu ?_|exact Sy.fin_val fun e=>rfl);(try conv => whnf)))
              refine zt 22 rfl ?_
              conv => whnf
              refine zw ?_
              skip
              all_goals (((repeat' ((conv => whnf);(first|refine zA ?_|(refine zI ?_ ?_<;> intro hh<;> first|(exfalso;omega)|skip)|(refine zl ?_ ?_<;> intro hh)|refine zq ?_|refine zv ?_|refine zu ?_|exact Sy.fin_val fun e=>rfl)));(all_goals (try conv => whnf))))
              all_goals exact Sy.fin_val (fun e => congrArg Value.bool (by rw [h1]; rfl))
            · refine Sy.draw_go [] (by kernel_rfl) ?_
              intro e0
              conv => whnf
              refine zt 0 rfl ?_
              conv => whnf
              refine zt 1 rfl ?_
              conv => whnf
              refine zt 2 rfl ?_
              conv => whnf
              refine zt 3 rfl ?_
              (conv => whnf);(repeat' ((first|refine zA ?_|(refine zI ?_ ?_<;> intro hh<;> first|(exfalso;omega)|skip)|(refine zl ?_ ?_<;> intro hh)|refine zq ?_|refine zv ?_|refine zu ?_|exact Sy.fin_val fun e=>rfl);(try conv => whnf)))
              refine zt 4 rfl ?_
              conv => whnf
              refine zt 5 rfl ?_
              (conv => whnf);(repeat' ((first|refine zA ?_|(refine zI ?_ ?_<;> intro hh<;> first|(exfalso;omega)|skip)|(refine zl ?_ ?_<;> intro hh)|refine zq ?_|refine zv ?_|refine zu ?_|exact Sy.fin_val fun e=>rfl);(try conv => whnf)))
              refine zt 6 rfl ?_
              (conv => whnf);(repeat' ((first|refine zA ?_|(refine zI ?_ ?_<;> intro hh<;> first|(exfalso;omega)|skip)|(refine zl ?_ ?_<;> intro hh)|refine zq ?_|refine zv ?_|refine zu ?_|exact Sy.fin_val fun e=>rfl);(try conv => whnf)))
              refine zt 7 rfl ?_
              (conv => whnf);(repeat' ((first|refine zA ?_|(refine zI ?_ ?_<;> intro hh<;> first|(exfalso;omega)|skip)|(refine zl ?_ ?_<;> intro hh)|refine zq ?_|refine zv ?_|refine zu ?_|exact Sy.fin_val fun e=>rfl);(try conv => whnf)))
              refine zt 8 rfl ?_
              (conv => whnf);(repeat' ((first|refine zA ?_|(refine zI ?_ ?_<;> intro hh<;> first|(exfalso;omega)|skip)|(refine zl ?_ ?_<;> intro hh)|refine zq ?_|refine zv ?_|refine zu ?_|exact Sy.fin_val fun e=>rfl);(try conv => whnf)))
              refine zt 9 rfl ?_
              (conv => whnf);(repeat' ((first|refine zA ?_|(refine zI ?_ ?_<;> intro hh<;> first|(exfalso;omega)|skip)|(refine zl ?_ ?_<;> intro hh)|refine zq ?_|refine zv ?_|refine zu ?_|exact Sy.fin_val fun e=>rfl);(try conv => whnf)))
              refine zt 10 rfl ?_
              conv => whnf
              refine zt 11 rfl ?_
              (conv => whnf);(repeat' ((first|refine zA ?_|(refine zI ?_ ?_<;> intro hh<;> first|(exfalso;omega)|skip)|(refine zl ?_ ?_<;> intro hh)|refine zq ?_|refine zv ?_|refine zu ?_|exact Sy.fin_val fun e=>rfl);(try conv => whnf)))
              refine zt 13 rfl ?_
              (conv => whnf);(repeat' ((first|refine zA ?_|(refine zI ?_ ?_<;> intro hh<;> first|(exfalso;omega)|skip)|(refine zl ?_ ?_<;> intro hh)|refine zq ?_|refine zv ?_|refine zu ?_|exact Sy.fin_val fun e=>rfl);(try conv => whnf)))
              refine zd1 [12] (zx rfl ?_ zy)
              conv => whnf
              (refine zA ?_;conv => whnf)
              refine Sy.call_val (.c (.v (.bool true))) Try.call16 rfl (fun _ _ w' _ => by have := ylives_any j w'; rw [h2] at this; exact this) ?_
              conv => whnf
              refine ⟨(by repeat' ((conv => whnf);first|exact trivial|(refine And.intro ?_ ?_)|rfl)), ?_⟩
              refine zd1 [14] (zx rfl ?_ zy)
              conv => whnf
              (refine zA ?_;conv => whnf)
              refine Sy.call_val (.c (.v (.bool false))) Try.call17 rfl (fun _ _ w' _ => by have := yover_any j w'; rw [h3] at this; exact this) ?_
              conv => whnf
              refine ⟨(by repeat' ((conv => whnf);first|exact trivial|(refine And.intro ?_ ?_)|rfl)), ?_⟩
              refine zt 15 rfl ?_
              (conv => whnf);(repeat' ((first|refine zA ?_|(refine zI ?_ ?_<;> intro hh<;> first|(exfalso;omega)|skip)|(refine zl ?_ ?_<;> intro hh)|refine zq ?_|refine zv ?_|refine zu ?_|exact Sy.fin_val fun e=>rfl);(try conv => whnf)))
              refine zt 16 rfl ?_
              (conv => whnf);(repeat' ((first|refine zA ?_|(refine zI ?_ ?_<;> intro hh<;> first|(exfalso;omega)|skip)|(refine zl ?_ ?_<;> intro hh)|refine zq ?_|refine zv ?_|refine zu ?_|exact Sy.fin_val fun e=>rfl);(try conv => whnf)))
              refine zt 17 rfl ?_
              (conv => whnf);(repeat' ((first|refine zA ?_|(refine zI ?_ ?_<;> intro hh<;> first|(exfalso;omega)|skip)|(refine zl ?_ ?_<;> intro hh)|refine zq ?_|refine zv ?_|refine zu ?_|exact Sy.fin_val fun e=>rfl);(try conv => whnf)))
              refine zt 18 rfl ?_
              (conv => whnf);(repeat' ((first|refine zA ?_|(refine zI ?_ ?_<;> intro hh<;> first|(exfalso;omega)|skip)|(refine zl ?_ ?_<;> intro hh)|refine zq ?_|refine zv ?_|refine zu ?_|exact Sy.fin_val fun e=>rfl);(try conv => whnf)))
              refine zt 19 rfl ?_
              (conv => whnf);(repeat' ((first|refine zA ?_|(refine zI ?_ ?_<;> intro hh<;> first|(exfalso;omega)|skip)|(refine zl ?_ ?_<;> intro hh)|refine zq ?_|refine zv ?_|refine zu ?_|exact Sy.fin_val fun e=>rfl);(try conv => whnf)))
              refine zt 20 rfl ?_
              (conv => whnf);(repeat' ((first|refine zA ?_|(refine zI ?_ ?_<;> intro hh<;> first|(exfalso;omega)|skip)|(refine zl ?_ ?_<;> intro hh)|refine zq ?_|refine zv ?_|refine zu ?_|exact Sy.fin_val fun e=>rfl);(try conv => whnf)))
              refine zt 21 rfl ?_
              (conv => whnf);(repeat' ((first|refine zA ?_|(refine zI ?_ ?_<;> intro hh<;> first|(exfalso;omega)|skip)|(refine zl ?_ ?_<;> intro hh)|refine zq ?_|refine zv ?_|refine zu ?_|exact Sy.fin_val fun e=>rfl);(try conv => whnf)))
              refine zt 22 rfl ?_
              conv => whnf
              refine zw ?_
              skip
              all_goals (((repeat' ((conv => whnf);(first|refine zA ?_|(refine zI ?_ ?_<;> intro hh<;> first|(exfalso;omega)|skip)|(refine zl ?_ ?_<;> intro hh)|refine zq ?_|refine zv ?_|refine zu ?_|exact Sy.fin_val fun e=>rfl)));(all_goals (try conv => whnf))))
              all_goals exact Sy.fin_val (fun e => congrArg Value.bool (by rw [h1]; rfl))
            · refine Sy.draw_go [] (by kernel_rfl) ?_
              intro e0
              conv => whnf
              refine zt 0 rfl ?_
              conv => whnf
              refine zt 1 rfl ?_
              conv => whnf
              refine zt 2 rfl ?_
              conv => whnf
              refine zt 3 rfl ?_
              (conv => whnf);(repeat' ((first|refine zA ?_|(refine zI ?_ ?_<;> intro hh<;> first|(exfalso;omega)|skip)|(refine zl ?_ ?_<;> intro hh)|refine zq ?_|refine zv ?_|refine zu ?_|exact Sy.fin_val fun e=>rfl);(try conv => whnf)))
              refine zt 4 rfl ?_
              conv => whnf
              refine zt 5 rfl ?_
              (conv => whnf);(repeat' ((first|refine zA ?_|(refine zI ?_ ?_<;> intro hh<;> first|(exfalso;omega)|skip)|(refine zl ?_ ?_<;> intro hh)|refine zq ?_|refine zv ?_|refine zu ?_|exact Sy.fin_val fun e=>rfl);(try conv => whnf)))
              refine zt 6 rfl ?_
              (conv => whnf);(repeat' ((first|refine zA ?_|(refine zI ?_ ?_<;> intro hh<;> first|(exfalso;omega)|skip)|(refine zl ?_ ?_<;> intro hh)|refine zq ?_|refine zv ?_|refine zu ?_|exact Sy.fin_val fun e=>rfl);(try conv => whnf)))
              refine zt 7 rfl ?_
              (conv => whnf);(repeat' ((first|refine zA ?_|(refine zI ?_ ?_<;> intro hh<;> first|(exfalso;omega)|skip)|(refine zl ?_ ?_<;> intro hh)|refine zq ?_|refine zv ?_|refine zu ?_|exact Sy.fin_val fun e=>rfl);(try conv => whnf)))
              refine zt 8 rfl ?_
              (conv => whnf);(repeat' ((first|refine zA ?_|(refine zI ?_ ?_<;> intro hh<;> first|(exfalso;omega)|skip)|(refine zl ?_ ?_<;> intro hh)|refine zq ?_|refine zv ?_|refine zu ?_|exact Sy.fin_val fun e=>rfl);(try conv => whnf)))
              refine zt 9 rfl ?_
              (conv => whnf);(repeat' ((first|refine zA ?_|(refine zI ?_ ?_<;> intro hh<;> first|(exfalso;omega)|skip)|(refine zl ?_ ?_<;> intro hh)|refine zq ?_|refine zv ?_|refine zu ?_|exact Sy.fin_val fun e=>rfl);(try conv => whnf)))
              refine zt 10 rfl ?_
              conv => whnf
              refine zt 11 rfl ?_
              (conv => whnf);(repeat' ((first|refine zA ?_|(refine zI ?_ ?_<;> intro hh<;> first|(exfalso;omega)|skip)|(refine zl ?_ ?_<;> intro hh)|refine zq ?_|refine zv ?_|refine zu ?_|exact Sy.fin_val fun e=>rfl);(try conv => whnf)))
              refine zt 13 rfl ?_
              (conv => whnf);(repeat' ((first|refine zA ?_|(refine zI ?_ ?_<;> intro hh<;> first|(exfalso;omega)|skip)|(refine zl ?_ ?_<;> intro hh)|refine zq ?_|refine zv ?_|refine zu ?_|exact Sy.fin_val fun e=>rfl);(try conv => whnf)))
              refine zd1 [12] (zx rfl ?_ zy)
              conv => whnf
              (refine zA ?_;conv => whnf)
              refine Sy.call_val (.c (.v (.bool false))) Try.call16 rfl (fun _ _ w' _ => by have := ylives_any j w'; rw [h2] at this; exact this) ?_
              conv => whnf
              refine ⟨(by repeat' ((conv => whnf);first|exact trivial|(refine And.intro ?_ ?_)|rfl)), ?_⟩
              refine zd1 [14] (zx rfl ?_ zy)
              conv => whnf
              (refine zA ?_;conv => whnf)
              refine Sy.call_val (.c (.v (.bool true))) Try.call17 rfl (fun _ _ w' _ => by have := yover_any j w'; rw [h3] at this; exact this) ?_
              conv => whnf
              refine ⟨(by repeat' ((conv => whnf);first|exact trivial|(refine And.intro ?_ ?_)|rfl)), ?_⟩
              refine zt 15 rfl ?_
              (conv => whnf);(repeat' ((first|refine zA ?_|(refine zI ?_ ?_<;> intro hh<;> first|(exfalso;omega)|skip)|(refine zl ?_ ?_<;> intro hh)|refine zq ?_|refine zv ?_|refine zu ?_|exact Sy.fin_val fun e=>rfl);(try conv => whnf)))
              refine zt 16 rfl ?_
              (conv => whnf);(repeat' ((first|refine zA ?_|(refine zI ?_ ?_<;> intro hh<;> first|(exfalso;omega)|skip)|(refine zl ?_ ?_<;> intro hh)|refine zq ?_|refine zv ?_|refine zu ?_|exact Sy.fin_val fun e=>rfl);(try conv => whnf)))
              refine zt 17 rfl ?_
              (conv => whnf);(repeat' ((first|refine zA ?_|(refine zI ?_ ?_<;> intro hh<;> first|(exfalso;omega)|skip)|(refine zl ?_ ?_<;> intro hh)|refine zq ?_|refine zv ?_|refine zu ?_|exact Sy.fin_val fun e=>rfl);(try conv => whnf)))
              refine zt 18 rfl ?_
              (conv => whnf);(repeat' ((first|refine zA ?_|(refine zI ?_ ?_<;> intro hh<;> first|(exfalso;omega)|skip)|(refine zl ?_ ?_<;> intro hh)|refine zq ?_|refine zv ?_|refine zu ?_|exact Sy.fin_val fun e=>rfl);(try conv => whnf)))
              refine zt 19 rfl ?_
              (conv => whnf);(repeat' ((first|refine zA ?_|(refine zI ?_ ?_<;> intro hh<;> first|(exfalso;omega)|skip)|(refine zl ?_ ?_<;> intro hh)|refine zq ?_|refine zv ?_|refine zu ?_|exact Sy.fin_val fun e=>rfl);(try conv => whnf)))
              refine zt 20 rfl ?_
              (conv => whnf);(repeat' ((first|refine zA ?_|(refine zI ?_ ?_<;> intro hh<;> first|(exfalso;omega)|skip)|(refine zl ?_ ?_<;> intro hh)|refine zq ?_|refine zv ?_|refine zu ?_|exact Sy.fin_val fun e=>rfl);(try conv => whnf)))
              refine zt 21 rfl ?_
              (conv => whnf);(repeat' ((first|refine zA ?_|(refine zI ?_ ?_<;> intro hh<;> first|(exfalso;omega)|skip)|(refine zl ?_ ?_<;> intro hh)|refine zq ?_|refine zv ?_|refine zu ?_|exact Sy.fin_val fun e=>rfl);(try conv => whnf)))
              refine zt 22 rfl ?_
              conv => whnf
              refine zw ?_
              skip
              all_goals (((repeat' ((conv => whnf);(first|refine zA ?_|(refine zI ?_ ?_<;> intro hh<;> first|(exfalso;omega)|skip)|(refine zl ?_ ?_<;> intro hh)|refine zq ?_|refine zv ?_|refine zu ?_|exact Sy.fin_val fun e=>rfl)));(all_goals (try conv => whnf))))
              all_goals done
          · have hdo : ∀ w, Calls Try.prog 9 #[keyJ j, .int .i64 h] w (Sy.Ret (doV (dJ j h)) w) := fun w => yDo_any j h w
            by_cases he : err j h = 0
            · obtain ⟨l1, l2, l3, l4, l5⟩ := life_step hjo he
              have hn1 : nxt j h = ⟨(dJ j h).1, (dJ j h).2.1, (dJ j h).2.2.1⟩ := rfl
              have hn2 : err j h = (dJ j h).2.2.2 := rfl
              rw [hn1] at l2 l3 l4 l5
              rw [hn2] at he
              clear hn1 hn2
              generalize dJ j h = D at *
              obtain ⟨a, b, c, e⟩ := D
              dsimp only at l3 l5 he
              subst he
              have hov : ovrS j.s j.f j.m = false := by rw [over_of hjo, decide_eq_false (by omega)]
              have hck := chk_of l2
              have hlv := lives_of l2
              have hbd := okB_bd l2
              have hak : a ∈ ks := (hkr a).2 (hjr a (l4 a (by unfold rch; exact .inl rfl)))
              dsimp only at hck hlv hbd
              refine Sy.call_val (.tup [.agg [.v (.int .i64 a), .v (.int .i64 b), .v (.int .i64 c)], .c (.v (.int .i64 0))]) Try.call9 rfl (fun _ _ w' _ => hdo w') ?_
              ((repeat' ((conv => whnf);(first|refine zA ?_|(refine zI ?_ ?_<;> intro hh<;> first|(exfalso;omega)|skip)|(refine zl ?_ ?_<;> intro hh)|refine zq ?_|refine zv ?_|refine zu ?_|exact Sy.fin_val fun e=>rfl)));(all_goals (try conv => whnf)))
              refine Sy.call_val (.c (.v (.bool false))) Try.call17 rfl (fun _ _ w' _ => by have := yover_any j w'; rw [hov] at this; exact this) ?_
              ((repeat' ((conv => whnf);(first|refine zA ?_|(refine zI ?_ ?_<;> intro hh<;> first|(exfalso;omega)|skip)|(refine zl ?_ ?_<;> intro hh)|refine zq ?_|refine zv ?_|refine zu ?_|exact Sy.fin_val fun e=>rfl)));(all_goals (try conv => whnf)))
              refine Sy.call_val (.c (.v (.int .i64 0))) Try.call11 rfl (fun _ _ w' _ => by have := ycheck_any ⟨a, b, c⟩ w'; rw [hck] at this; exact this) ?_
              ((repeat' ((conv => whnf);(first|refine zA ?_|(refine zI ?_ ?_<;> intro hh<;> first|(exfalso;omega)|skip)|(refine zl ?_ ?_<;> intro hh)|refine zq ?_|refine zv ?_|refine zu ?_|exact Sy.fin_val fun e=>rfl)));(all_goals (try conv => whnf)))
              refine set_add ks a Try.underlying3 hkd (fun r hr => ?_)
              rcases hr with hr | ⟨hx, _⟩
              rotate_left
              · exact absurd hak hx
              obtain ⟨_, i, rfl, _⟩ := hr
              have hnext : ∀ t, rch ⟨a, b, c⟩ t → rch ⟨0, 0, k⟩ t := fun t ht => hjr t (l4 t ht)
              have hcan : ∀ w, 0 < a ∧ a < 4 → Calls Try.prog 9 #[keyJ ⟨a, b, c⟩, .int .i64 2] w (Sy.Ret (.tuple #[.agg #[.int .i64 6, .int .i64 b, .int .i64 c], .int .i64 0]) w) := fun w h => by
                have := yDo_any ⟨a, b, c⟩ 2 w
                rw [cancel_ok l2 h] at this
                exact this
              have hov6 : 0 < a ∧ a < 4 → ovrS 6 b c = true := fun h => by
                have h6 : okB ⟨6, b, c⟩ := by
                  have h1 := cancel_ok l2 h
                  have := (step_ok (h := 2) l2 (by omega) (by unfold err; rw [h1])).1
                  unfold nxt at this
                  rw [h1] at this
                  exact this
                have := over_of h6
                dsimp only at this
                rw [this]; rfl
              by_cases hb : b = j.f
              · subst hb
                ((repeat' ((conv => whnf);(first|refine zA ?_|(refine zI ?_ ?_<;> intro hh<;> first|(exfalso;omega)|skip)|(refine zl ?_ ?_<;> intro hh)|refine zq ?_|refine zv ?_|refine zu ?_|exact Sy.fin_val fun e=>rfl)));(all_goals (try conv => whnf)))
                by_cases hl : 0 < a ∧ a < 4
                · refine Sy.call_val (.c (.v (.bool true))) Try.call16 rfl (fun _ _ w' _ => by have := ylives_any ⟨a, j.f, c⟩ w'; rw [hlv, decide_eq_true hl] at this; exact this) ?_
                  ((repeat' ((conv => whnf);(first|refine zA ?_|(refine zI ?_ ?_<;> intro hh<;> first|(exfalso;omega)|skip)|(refine zl ?_ ?_<;> intro hh)|refine zq ?_|refine zv ?_|refine zu ?_|exact Sy.fin_val fun e=>rfl)));(all_goals (try conv => whnf)))
                  refine Sy.call_val (.tup [.agg [.v (.int .i64 6), .v (.int .i64 (j.f)), .v (.int .i64 c)], .c (.v (.int .i64 0))]) Try.call9 rfl (fun _ _ w' _ => hcan w' hl) ?_
                  ((repeat' ((conv => whnf);(first|refine zA ?_|(refine zI ?_ ?_<;> intro hh<;> first|(exfalso;omega)|skip)|(refine zl ?_ ?_<;> intro hh)|refine zq ?_|refine zv ?_|refine zu ?_|exact Sy.fin_val fun e=>rfl)));(all_goals (try conv => whnf)))
                  refine Sy.call_val (.c (.v (.bool true))) Try.call17 rfl (fun _ _ w' _ => by have := yover_any ⟨6, j.f, c⟩ w'; rw [hov6 hl] at this; exact this) ?_
                  ((repeat' ((conv => whnf);(first|refine zA ?_|(refine zI ?_ ?_<;> intro hh<;> first|(exfalso;omega)|skip)|(refine zl ?_ ?_<;> intro hh)|refine zq ?_|refine zv ?_|refine zu ?_|exact Sy.fin_val fun e=>rfl)));(all_goals (try conv => whnf)))
                  refine ⟨⟨n + 1, ⟨a, j.f, c⟩, j.f⟩, ⟨by dsimp only; omega, l2, rfl, hnext⟩, by dsimp only; omega, ?_⟩
                  ((repeat' (first|((conv => whnf);done)|((try conv => whnf);first|exact trivial|(refine And.intro ?_ ?_)|rfl|exact fun _ _ _ h=>h|exact fun _ _ _ _=>trivial)));(all_goals (try conv => whnf)))
                · refine Sy.call_val (.c (.v (.bool false))) Try.call16 rfl (fun _ _ w' _ => by have := ylives_any ⟨a, j.f, c⟩ w'; rw [hlv, decide_eq_false hl] at this; exact this) ?_
                  ((repeat' ((conv => whnf);(first|refine zA ?_|(refine zI ?_ ?_<;> intro hh<;> first|(exfalso;omega)|skip)|(refine zl ?_ ?_<;> intro hh)|refine zq ?_|refine zv ?_|refine zu ?_|exact Sy.fin_val fun e=>rfl)));(all_goals (try conv => whnf)))
                  refine ⟨⟨n + 1, ⟨a, j.f, c⟩, j.f⟩, ⟨by dsimp only; omega, l2, rfl, hnext⟩, by dsimp only; omega, ?_⟩
                  ((repeat' (first|((conv => whnf);done)|((try conv => whnf);first|exact trivial|(refine And.intro ?_ ?_)|rfl|exact fun _ _ _ h=>h|exact fun _ _ _ _=>trivial)));(all_goals (try conv => whnf)))
              · obtain ⟨m1, m2, m3⟩ := l5 hb
                subst m1 m2 m3
                ((repeat' ((conv => whnf);(first|refine zA ?_|(refine zI ?_ ?_<;> intro hh<;> first|(exfalso;omega)|skip)|(refine zl ?_ ?_<;> intro hh)|refine zq ?_|refine zv ?_|refine zu ?_|exact Sy.fin_val fun e=>rfl)));(all_goals (try conv => whnf)))
                by_cases hl : (0 : Int) < 2 ∧ (2 : Int) < 4
                · refine Sy.call_val (.c (.v (.bool true))) Try.call16 rfl (fun _ _ w' _ => by have := ylives_any ⟨2, (j.f + 1), c⟩ w'; rw [hlv, decide_eq_true hl] at this; exact this) ?_
                  ((repeat' ((conv => whnf);(first|refine zA ?_|(refine zI ?_ ?_<;> intro hh<;> first|(exfalso;omega)|skip)|(refine zl ?_ ?_<;> intro hh)|refine zq ?_|refine zv ?_|refine zu ?_|exact Sy.fin_val fun e=>rfl)));(all_goals (try conv => whnf)))
                  refine Sy.call_val (.tup [.agg [.v (.int .i64 6), .v (.int .i64 ((j.f + 1))), .v (.int .i64 c)], .c (.v (.int .i64 0))]) Try.call9 rfl (fun _ _ w' _ => hcan w' hl) ?_
                  ((repeat' ((conv => whnf);(first|refine zA ?_|(refine zI ?_ ?_<;> intro hh<;> first|(exfalso;omega)|skip)|(refine zl ?_ ?_<;> intro hh)|refine zq ?_|refine zv ?_|refine zu ?_|exact Sy.fin_val fun e=>rfl)));(all_goals (try conv => whnf)))
                  refine Sy.call_val (.c (.v (.bool true))) Try.call17 rfl (fun _ _ w' _ => by have := yover_any ⟨6, (j.f + 1), c⟩ w'; rw [hov6 hl] at this; exact this) ?_
                  ((repeat' ((conv => whnf);(first|refine zA ?_|(refine zI ?_ ?_<;> intro hh<;> first|(exfalso;omega)|skip)|(refine zl ?_ ?_<;> intro hh)|refine zq ?_|refine zv ?_|refine zu ?_|exact Sy.fin_val fun e=>rfl)));(all_goals (try conv => whnf)))
                  refine ⟨⟨n + 1, ⟨2, (j.f + 1), c⟩, (j.f + 1)⟩, ⟨by dsimp only; omega, l2, rfl, hnext⟩, by dsimp only; omega, ?_⟩
                  ((repeat' (first|((conv => whnf);done)|((try conv => whnf);first|exact trivial|(refine And.intro ?_ ?_)|rfl|exact fun _ _ _ h=>h|exact fun _ _ _ _=>trivial)));(all_goals (try conv => whnf)))
                · refine Sy.call_val (.c (.v (.bool false))) Try.call16 rfl (fun _ _ w' _ => by have := ylives_any ⟨2, (j.f + 1), c⟩ w'; rw [hlv, decide_eq_false hl] at this; exact this) ?_
                  ((repeat' ((conv => whnf);(first|refine zA ?_|(refine zI ?_ ?_<;> intro hh<;> first|(exfalso;omega)|skip)|(refine zl ?_ ?_<;> intro hh)|refine zq ?_|refine zv ?_|refine zu ?_|exact Sy.fin_val fun e=>rfl)));(all_goals (try conv => whnf)))
                  refine ⟨⟨n + 1, ⟨2, (j.f + 1), c⟩, (j.f + 1)⟩, ⟨by dsimp only; omega, l2, rfl, hnext⟩, by dsimp only; omega, ?_⟩
                  ((repeat' (first|((conv => whnf);done)|((try conv => whnf);first|exact trivial|(refine And.intro ?_ ?_)|rfl|exact fun _ _ _ h=>h|exact fun _ _ _ _=>trivial)));(all_goals (try conv => whnf)))
            · have hn2 : err j h = (dS j.s j.f j.m h).2.2.2 := by unfold err dJ; rfl
              rw [hn2] at he
              obtain ⟨e, he0, hD⟩ := dS_zero he
              have hD2 : dJ j h = (0, 0, 0, e) := by unfold dJ; exact hD
              rw [hD2] at hdo
              refine Sy.call_val (.tup [.agg [.v (.int .i64 0), .v (.int .i64 0), .v (.int .i64 0)], .c (.v (.int .i64 e))]) Try.call9 rfl (fun _ _ w' _ => hdo w') ?_
              ((repeat' ((conv => whnf);(first|refine zA ?_|(refine zI ?_ ?_<;> intro hh<;> first|(exfalso;omega)|skip)|(refine zl ?_ ?_<;> intro hh)|refine zq ?_|refine zv ?_|refine zu ?_|exact Sy.fin_val fun e=>rfl)));(all_goals (try conv => whnf)))
              refine ⟨⟨n + 1, j, j.f⟩, ⟨by dsimp only; omega, hjo, rfl, hjr⟩, by dsimp only; omega, ?_⟩
              ((repeat' (first|((conv => whnf);done)|((try conv => whnf);first|exact trivial|(refine And.intro ?_ ?_)|rfl|exact fun _ _ _ h=>h|exact fun _ _ _ _=>trivial)));(all_goals (try conv => whnf)))
        · have hfm : decide (j.f ≤ j.m) = true := decide_eq_true hjb.2.2.2.2.2
          have hff : (j.f == j.f) = true := beq_self_eq_true _
          rcases (show ((j.s == 0) = true ∧ livS j.s j.f j.m = false ∧ ovrS j.s j.f j.m = false) ∨ ((j.s == 0) = false ∧ livS j.s j.f j.m = true ∧ ovrS j.s j.f j.m = false) ∨ (livS j.s j.f j.m = false ∧ ovrS j.s j.f j.m = true) by
              rw [lives_of hjo, over_of hjo]
              rcases (show j.s = 0 ∨ (0 < j.s ∧ j.s < 4) ∨ 4 ≤ j.s by omega) with h | h | h
              · exact .inl ⟨by rw [h]; rfl, decide_eq_false (by omega), decide_eq_false (by omega)⟩
              · exact .inr (.inl ⟨beq_false_of_ne (by omega), decide_eq_true h, decide_eq_false (by omega)⟩)
              · exact .inr (.inr ⟨decide_eq_false (by omega), decide_eq_true h⟩)) with ⟨h1, h2, h3⟩ | ⟨h1, h2, h3⟩ | ⟨h2, h3⟩
          · refine Sy.draw_go [] (by kernel_rfl) ?_
            intro e0
            conv => whnf
            refine zt 0 rfl ?_
            conv => whnf
            refine zt 1 rfl ?_
            conv => whnf
            refine zt 2 rfl ?_
            conv => whnf
            refine zt 3 rfl ?_
            (conv => whnf);(repeat' ((first|refine zA ?_|(refine zI ?_ ?_<;> intro hh<;> first|(exfalso;omega)|skip)|(refine zl ?_ ?_<;> intro hh)|refine zq ?_|refine zv ?_|refine zu ?_|exact Sy.fin_val fun e=>rfl);(try conv => whnf)))
            refine zt 4 rfl ?_
            conv => whnf
            refine zt 5 rfl ?_
            (conv => whnf);(repeat' ((first|refine zA ?_|(refine zI ?_ ?_<;> intro hh<;> first|(exfalso;omega)|skip)|(refine zl ?_ ?_<;> intro hh)|refine zq ?_|refine zv ?_|refine zu ?_|exact Sy.fin_val fun e=>rfl);(try conv => whnf)))
            refine zt 6 rfl ?_
            (conv => whnf);(repeat' ((first|refine zA ?_|(refine zI ?_ ?_<;> intro hh<;> first|(exfalso;omega)|skip)|(refine zl ?_ ?_<;> intro hh)|refine zq ?_|refine zv ?_|refine zu ?_|exact Sy.fin_val fun e=>rfl);(try conv => whnf)))
            refine zt 7 rfl ?_
            (conv => whnf);(repeat' ((first|refine zA ?_|(refine zI ?_ ?_<;> intro hh<;> first|(exfalso;omega)|skip)|(refine zl ?_ ?_<;> intro hh)|refine zq ?_|refine zv ?_|refine zu ?_|exact Sy.fin_val fun e=>rfl);(try conv => whnf)))
            refine zt 8 rfl ?_
            (conv => whnf);(repeat' ((first|refine zA ?_|(refine zI ?_ ?_<;> intro hh<;> first|(exfalso;omega)|skip)|(refine zl ?_ ?_<;> intro hh)|refine zq ?_|refine zv ?_|refine zu ?_|exact Sy.fin_val fun e=>rfl);(try conv => whnf)))
            refine zt 9 rfl ?_
            (conv => whnf);(repeat' ((first|refine zA ?_|(refine zI ?_ ?_<;> intro hh<;> first|(exfalso;omega)|skip)|(refine zl ?_ ?_<;> intro hh)|refine zq ?_|refine zv ?_|refine zu ?_|exact Sy.fin_val fun e=>rfl);(try conv => whnf)))
            refine zt 10 rfl ?_
            conv => whnf
            refine zt 11 rfl ?_
            (conv => whnf);(repeat' ((first|refine zA ?_|(refine zI ?_ ?_<;> intro hh<;> first|(exfalso;omega)|skip)|(refine zl ?_ ?_<;> intro hh)|refine zq ?_|refine zv ?_|refine zu ?_|exact Sy.fin_val fun e=>rfl);(try conv => whnf)))
            refine zt 13 rfl ?_
            (conv => whnf);(repeat' ((first|refine zA ?_|(refine zI ?_ ?_<;> intro hh<;> first|(exfalso;omega)|skip)|(refine zl ?_ ?_<;> intro hh)|refine zq ?_|refine zv ?_|refine zu ?_|exact Sy.fin_val fun e=>rfl);(try conv => whnf)))
            refine zd1 [12] (zx rfl ?_ zy)
            conv => whnf
            (refine zA ?_;conv => whnf)
            refine Sy.call_val (.c (.v (.bool false))) Try.call16 rfl (fun _ _ w' _ => by have := ylives_any j w'; rw [h2] at this; exact this) ?_
            conv => whnf
            refine ⟨(by repeat' ((conv => whnf);first|exact trivial|(refine And.intro ?_ ?_)|rfl)), ?_⟩
            refine zd1 [14] (zx rfl ?_ zy)
            conv => whnf
            (refine zA ?_;conv => whnf)
            refine Sy.call_val (.c (.v (.bool false))) Try.call17 rfl (fun _ _ w' _ => by have := yover_any j w'; rw [h3] at this; exact this) ?_
            conv => whnf
            refine ⟨(by repeat' ((conv => whnf);first|exact trivial|(refine And.intro ?_ ?_)|rfl)), ?_⟩
            refine zt 15 rfl ?_
            (conv => whnf);(repeat' ((first|refine zA ?_|(refine zI ?_ ?_<;> intro hh<;> first|(exfalso;omega)|skip)|(refine zl ?_ ?_<;> intro hh)|refine zq ?_|refine zv ?_|refine zu ?_|exact Sy.fin_val fun e=>rfl);(try conv => whnf)))
            refine zt 16 rfl ?_
            (conv => whnf);(repeat' ((first|refine zA ?_|(refine zI ?_ ?_<;> intro hh<;> first|(exfalso;omega)|skip)|(refine zl ?_ ?_<;> intro hh)|refine zq ?_|refine zv ?_|refine zu ?_|exact Sy.fin_val fun e=>rfl);(try conv => whnf)))
            refine zt 17 rfl ?_
            (conv => whnf);(repeat' ((first|refine zA ?_|(refine zI ?_ ?_<;> intro hh<;> first|(exfalso;omega)|skip)|(refine zl ?_ ?_<;> intro hh)|refine zq ?_|refine zv ?_|refine zu ?_|exact Sy.fin_val fun e=>rfl);(try conv => whnf)))
            refine zt 18 rfl ?_
            (conv => whnf);(repeat' ((first|refine zA ?_|(refine zI ?_ ?_<;> intro hh<;> first|(exfalso;omega)|skip)|(refine zl ?_ ?_<;> intro hh)|refine zq ?_|refine zv ?_|refine zu ?_|exact Sy.fin_val fun e=>rfl);(try conv => whnf)))
            refine zt 19 rfl ?_
            (conv => whnf);(repeat' ((first|refine zA ?_|(refine zI ?_ ?_<;> intro hh<;> first|(exfalso;omega)|skip)|(refine zl ?_ ?_<;> intro hh)|refine zq ?_|refine zv ?_|refine zu ?_|exact Sy.fin_val fun e=>rfl);(try conv => whnf)))
            refine zt 20 rfl ?_
            (conv => whnf);(repeat' ((first|refine zA ?_|(refine zI ?_ ?_<;> intro hh<;> first|(exfalso;omega)|skip)|(refine zl ?_ ?_<;> intro hh)|refine zq ?_|refine zv ?_|refine zu ?_|exact Sy.fin_val fun e=>rfl);(try conv => whnf)))
            refine zt 21 rfl ?_
            (conv => whnf);(repeat' ((first|refine zA ?_|(refine zI ?_ ?_<;> intro hh<;> first|(exfalso;omega)|skip)|(refine zl ?_ ?_<;> intro hh)|refine zq ?_|refine zv ?_|refine zu ?_|exact Sy.fin_val fun e=>rfl);(try conv => whnf)))
            refine zt 22 rfl ?_
            conv => whnf
            refine zw ?_
            skip
            all_goals (((repeat' ((conv => whnf);(first|refine zA ?_|(refine zI ?_ ?_<;> intro hh<;> first|(exfalso;omega)|skip)|(refine zl ?_ ?_<;> intro hh)|refine zq ?_|refine zv ?_|refine zu ?_|exact Sy.fin_val fun e=>rfl)));(all_goals (try conv => whnf))))
            all_goals exact Sy.fin_val (fun e => congrArg Value.bool (by rw [h1]; rfl))
          · refine Sy.draw_go [] (by kernel_rfl) ?_
            intro e0
            conv => whnf
            refine zt 0 rfl ?_
            conv => whnf
            refine zt 1 rfl ?_
            conv => whnf
            refine zt 2 rfl ?_
            conv => whnf
            refine zt 3 rfl ?_
            (conv => whnf);(repeat' ((first|refine zA ?_|(refine zI ?_ ?_<;> intro hh<;> first|(exfalso;omega)|skip)|(refine zl ?_ ?_<;> intro hh)|refine zq ?_|refine zv ?_|refine zu ?_|exact Sy.fin_val fun e=>rfl);(try conv => whnf)))
            refine zt 4 rfl ?_
            conv => whnf
            refine zt 5 rfl ?_
            (conv => whnf);(repeat' ((first|refine zA ?_|(refine zI ?_ ?_<;> intro hh<;> first|(exfalso;omega)|skip)|(refine zl ?_ ?_<;> intro hh)|refine zq ?_|refine zv ?_|refine zu ?_|exact Sy.fin_val fun e=>rfl);(try conv => whnf)))
            refine zt 6 rfl ?_
            (conv => whnf);(repeat' ((first|refine zA ?_|(refine zI ?_ ?_<;> intro hh<;> first|(exfalso;omega)|skip)|(refine zl ?_ ?_<;> intro hh)|refine zq ?_|refine zv ?_|refine zu ?_|exact Sy.fin_val fun e=>rfl);(try conv => whnf)))
            refine zt 7 rfl ?_
            (conv => whnf);(repeat' ((first|refine zA ?_|(refine zI ?_ ?_<;> intro hh<;> first|(exfalso;omega)|skip)|(refine zl ?_ ?_<;> intro hh)|refine zq ?_|refine zv ?_|refine zu ?_|exact Sy.fin_val fun e=>rfl);(try conv => whnf)))
            refine zt 8 rfl ?_
            (conv => whnf);(repeat' ((first|refine zA ?_|(refine zI ?_ ?_<;> intro hh<;> first|(exfalso;omega)|skip)|(refine zl ?_ ?_<;> intro hh)|refine zq ?_|refine zv ?_|refine zu ?_|exact Sy.fin_val fun e=>rfl);(try conv => whnf)))
            refine zt 9 rfl ?_
            (conv => whnf);(repeat' ((first|refine zA ?_|(refine zI ?_ ?_<;> intro hh<;> first|(exfalso;omega)|skip)|(refine zl ?_ ?_<;> intro hh)|refine zq ?_|refine zv ?_|refine zu ?_|exact Sy.fin_val fun e=>rfl);(try conv => whnf)))
            refine zt 10 rfl ?_
            conv => whnf
            refine zt 11 rfl ?_
            (conv => whnf);(repeat' ((first|refine zA ?_|(refine zI ?_ ?_<;> intro hh<;> first|(exfalso;omega)|skip)|(refine zl ?_ ?_<;> intro hh)|refine zq ?_|refine zv ?_|refine zu ?_|exact Sy.fin_val fun e=>rfl);(try conv => whnf)))
            refine zt 13 rfl ?_
            (conv => whnf);(repeat' ((first|refine zA ?_|(refine zI ?_ ?_<;> intro hh<;> first|(exfalso;omega)|skip)|(refine zl ?_ ?_<;> intro hh)|refine zq ?_|refine zv ?_|refine zu ?_|exact Sy.fin_val fun e=>rfl);(try conv => whnf)))
            refine zd1 [12] (zx rfl ?_ zy)
            conv => whnf
            (refine zA ?_;conv => whnf)
            refine Sy.call_val (.c (.v (.bool true))) Try.call16 rfl (fun _ _ w' _ => by have := ylives_any j w'; rw [h2] at this; exact this) ?_
            conv => whnf
            refine ⟨(by repeat' ((conv => whnf);first|exact trivial|(refine And.intro ?_ ?_)|rfl)), ?_⟩
            refine zd1 [14] (zx rfl ?_ zy)
            conv => whnf
            (refine zA ?_;conv => whnf)
            refine Sy.call_val (.c (.v (.bool false))) Try.call17 rfl (fun _ _ w' _ => by have := yover_any j w'; rw [h3] at this; exact this) ?_
            conv => whnf
            refine ⟨(by repeat' ((conv => whnf);first|exact trivial|(refine And.intro ?_ ?_)|rfl)), ?_⟩
            refine zt 15 rfl ?_
            (conv => whnf);(repeat' ((first|refine zA ?_|(refine zI ?_ ?_<;> intro hh<;> first|(exfalso;omega)|skip)|(refine zl ?_ ?_<;> intro hh)|refine zq ?_|refine zv ?_|refine zu ?_|exact Sy.fin_val fun e=>rfl);(try conv => whnf)))
            refine zt 16 rfl ?_
            (conv => whnf);(repeat' ((first|refine zA ?_|(refine zI ?_ ?_<;> intro hh<;> first|(exfalso;omega)|skip)|(refine zl ?_ ?_<;> intro hh)|refine zq ?_|refine zv ?_|refine zu ?_|exact Sy.fin_val fun e=>rfl);(try conv => whnf)))
            refine zt 17 rfl ?_
            (conv => whnf);(repeat' ((first|refine zA ?_|(refine zI ?_ ?_<;> intro hh<;> first|(exfalso;omega)|skip)|(refine zl ?_ ?_<;> intro hh)|refine zq ?_|refine zv ?_|refine zu ?_|exact Sy.fin_val fun e=>rfl);(try conv => whnf)))
            refine zt 18 rfl ?_
            (conv => whnf);(repeat' ((first|refine zA ?_|(refine zI ?_ ?_<;> intro hh<;> first|(exfalso;omega)|skip)|(refine zl ?_ ?_<;> intro hh)|refine zq ?_|refine zv ?_|refine zu ?_|exact Sy.fin_val fun e=>rfl);(try conv => whnf)))
            refine zt 19 rfl ?_
            (conv => whnf);(repeat' ((first|refine zA ?_|(refine zI ?_ ?_<;> intro hh<;> first|(exfalso;omega)|skip)|(refine zl ?_ ?_<;> intro hh)|refine zq ?_|refine zv ?_|refine zu ?_|exact Sy.fin_val fun e=>rfl);(try conv => whnf)))
            refine zt 20 rfl ?_
            (conv => whnf);(repeat' ((first|refine zA ?_|(refine zI ?_ ?_<;> intro hh<;> first|(exfalso;omega)|skip)|(refine zl ?_ ?_<;> intro hh)|refine zq ?_|refine zv ?_|refine zu ?_|exact Sy.fin_val fun e=>rfl);(try conv => whnf)))
            refine zt 21 rfl ?_
            (conv => whnf);(repeat' ((first|refine zA ?_|(refine zI ?_ ?_<;> intro hh<;> first|(exfalso;omega)|skip)|(refine zl ?_ ?_<;> intro hh)|refine zq ?_|refine zv ?_|refine zu ?_|exact Sy.fin_val fun e=>rfl);(try conv => whnf)))
            refine zt 22 rfl ?_
            conv => whnf
            refine zw ?_
            skip
            all_goals (((repeat' ((conv => whnf);(first|refine zA ?_|(refine zI ?_ ?_<;> intro hh<;> first|(exfalso;omega)|skip)|(refine zl ?_ ?_<;> intro hh)|refine zq ?_|refine zv ?_|refine zu ?_|exact Sy.fin_val fun e=>rfl)));(all_goals (try conv => whnf))))
            all_goals exact Sy.fin_val (fun e => congrArg Value.bool (by rw [h1]; rfl))
          · refine Sy.draw_go [] (by kernel_rfl) ?_
            intro e0
            conv => whnf
            refine zt 0 rfl ?_
            conv => whnf
            refine zt 1 rfl ?_
            conv => whnf
            refine zt 2 rfl ?_
            conv => whnf
            refine zt 3 rfl ?_
            (conv => whnf);(repeat' ((first|refine zA ?_|(refine zI ?_ ?_<;> intro hh<;> first|(exfalso;omega)|skip)|(refine zl ?_ ?_<;> intro hh)|refine zq ?_|refine zv ?_|refine zu ?_|exact Sy.fin_val fun e=>rfl);(try conv => whnf)))
            refine zt 4 rfl ?_
            conv => whnf
            refine zt 5 rfl ?_
            (conv => whnf);(repeat' ((first|refine zA ?_|(refine zI ?_ ?_<;> intro hh<;> first|(exfalso;omega)|skip)|(refine zl ?_ ?_<;> intro hh)|refine zq ?_|refine zv ?_|refine zu ?_|exact Sy.fin_val fun e=>rfl);(try conv => whnf)))
            refine zt 6 rfl ?_
            (conv => whnf);(repeat' ((first|refine zA ?_|(refine zI ?_ ?_<;> intro hh<;> first|(exfalso;omega)|skip)|(refine zl ?_ ?_<;> intro hh)|refine zq ?_|refine zv ?_|refine zu ?_|exact Sy.fin_val fun e=>rfl);(try conv => whnf)))
            refine zt 7 rfl ?_
            (conv => whnf);(repeat' ((first|refine zA ?_|(refine zI ?_ ?_<;> intro hh<;> first|(exfalso;omega)|skip)|(refine zl ?_ ?_<;> intro hh)|refine zq ?_|refine zv ?_|refine zu ?_|exact Sy.fin_val fun e=>rfl);(try conv => whnf)))
            refine zt 8 rfl ?_
            (conv => whnf);(repeat' ((first|refine zA ?_|(refine zI ?_ ?_<;> intro hh<;> first|(exfalso;omega)|skip)|(refine zl ?_ ?_<;> intro hh)|refine zq ?_|refine zv ?_|refine zu ?_|exact Sy.fin_val fun e=>rfl);(try conv => whnf)))
            refine zt 9 rfl ?_
            (conv => whnf);(repeat' ((first|refine zA ?_|(refine zI ?_ ?_<;> intro hh<;> first|(exfalso;omega)|skip)|(refine zl ?_ ?_<;> intro hh)|refine zq ?_|refine zv ?_|refine zu ?_|exact Sy.fin_val fun e=>rfl);(try conv => whnf)))
            refine zt 10 rfl ?_
            conv => whnf
            refine zt 11 rfl ?_
            (conv => whnf);(repeat' ((first|refine zA ?_|(refine zI ?_ ?_<;> intro hh<;> first|(exfalso;omega)|skip)|(refine zl ?_ ?_<;> intro hh)|refine zq ?_|refine zv ?_|refine zu ?_|exact Sy.fin_val fun e=>rfl);(try conv => whnf)))
            refine zt 13 rfl ?_
            (conv => whnf);(repeat' ((first|refine zA ?_|(refine zI ?_ ?_<;> intro hh<;> first|(exfalso;omega)|skip)|(refine zl ?_ ?_<;> intro hh)|refine zq ?_|refine zv ?_|refine zu ?_|exact Sy.fin_val fun e=>rfl);(try conv => whnf)))
            refine zd1 [12] (zx rfl ?_ zy)
            conv => whnf
            (refine zA ?_;conv => whnf)
            refine Sy.call_val (.c (.v (.bool false))) Try.call16 rfl (fun _ _ w' _ => by have := ylives_any j w'; rw [h2] at this; exact this) ?_
            conv => whnf
            refine ⟨(by repeat' ((conv => whnf);first|exact trivial|(refine And.intro ?_ ?_)|rfl)), ?_⟩
            refine zd1 [14] (zx rfl ?_ zy)
            conv => whnf
            (refine zA ?_;conv => whnf)
            refine Sy.call_val (.c (.v (.bool true))) Try.call17 rfl (fun _ _ w' _ => by have := yover_any j w'; rw [h3] at this; exact this) ?_
            conv => whnf
            refine ⟨(by repeat' ((conv => whnf);first|exact trivial|(refine And.intro ?_ ?_)|rfl)), ?_⟩
            refine zt 15 rfl ?_
            (conv => whnf);(repeat' ((first|refine zA ?_|(refine zI ?_ ?_<;> intro hh<;> first|(exfalso;omega)|skip)|(refine zl ?_ ?_<;> intro hh)|refine zq ?_|refine zv ?_|refine zu ?_|exact Sy.fin_val fun e=>rfl);(try conv => whnf)))
            refine zt 16 rfl ?_
            (conv => whnf);(repeat' ((first|refine zA ?_|(refine zI ?_ ?_<;> intro hh<;> first|(exfalso;omega)|skip)|(refine zl ?_ ?_<;> intro hh)|refine zq ?_|refine zv ?_|refine zu ?_|exact Sy.fin_val fun e=>rfl);(try conv => whnf)))
            refine zt 17 rfl ?_
            (conv => whnf);(repeat' ((first|refine zA ?_|(refine zI ?_ ?_<;> intro hh<;> first|(exfalso;omega)|skip)|(refine zl ?_ ?_<;> intro hh)|refine zq ?_|refine zv ?_|refine zu ?_|exact Sy.fin_val fun e=>rfl);(try conv => whnf)))
            refine zt 18 rfl ?_
            (conv => whnf);(repeat' ((first|refine zA ?_|(refine zI ?_ ?_<;> intro hh<;> first|(exfalso;omega)|skip)|(refine zl ?_ ?_<;> intro hh)|refine zq ?_|refine zv ?_|refine zu ?_|exact Sy.fin_val fun e=>rfl);(try conv => whnf)))
            refine zt 19 rfl ?_
            (conv => whnf);(repeat' ((first|refine zA ?_|(refine zI ?_ ?_<;> intro hh<;> first|(exfalso;omega)|skip)|(refine zl ?_ ?_<;> intro hh)|refine zq ?_|refine zv ?_|refine zu ?_|exact Sy.fin_val fun e=>rfl);(try conv => whnf)))
            refine zt 20 rfl ?_
            (conv => whnf);(repeat' ((first|refine zA ?_|(refine zI ?_ ?_<;> intro hh<;> first|(exfalso;omega)|skip)|(refine zl ?_ ?_<;> intro hh)|refine zq ?_|refine zv ?_|refine zu ?_|exact Sy.fin_val fun e=>rfl);(try conv => whnf)))
            refine zt 21 rfl ?_
            (conv => whnf);(repeat' ((first|refine zA ?_|(refine zI ?_ ?_<;> intro hh<;> first|(exfalso;omega)|skip)|(refine zl ?_ ?_<;> intro hh)|refine zq ?_|refine zv ?_|refine zu ?_|exact Sy.fin_val fun e=>rfl);(try conv => whnf)))
            refine zt 22 rfl ?_
            conv => whnf
            refine zw ?_
            skip
            all_goals (((repeat' ((conv => whnf);(first|refine zA ?_|(refine zI ?_ ?_<;> intro hh<;> first|(exfalso;omega)|skip)|(refine zl ?_ ?_<;> intro hh)|refine zq ?_|refine zv ?_|refine zu ?_|exact Sy.fin_val fun e=>rfl)));(all_goals (try conv => whnf))))
            all_goals done
end Go.Proofs.Ytbajgjbgkpcapaa
