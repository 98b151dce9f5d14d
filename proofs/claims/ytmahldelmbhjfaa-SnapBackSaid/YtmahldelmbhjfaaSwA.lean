/- Snap: shorts. -/
import Derived.Test.YtmahldelmbhjfaaSnX
import Derived.Test.YtmahldelmbhjfaaMem
namespace Go.Proofs.Ytmahldelmbhjfaa
open Go Go.RowKit
open Sy (C SV V1 Blk St XD Els)
set_option maxRecDepth 10000

theorem SOk.keep {F F' : Nat → Prop} {w w' : World} {s : SnV} (h : SOk F w s) (hF : ∀ b, F b → F' b) (hk : ∀ b, F b → w'.heap[b]? = w.heap[b]?) : SOk F' w' s := ⟨XD.ok.keep h.rows hF hk, XD.ok.keep h.txs hF hk⟩
theorem SOk.one {F : Nat → Prop} {w : World} {s : SnV} (h : SOk F w s) : s.rv.oneCell' = true ∧ s.tv.oneCell' = true := ⟨h.rows.1.one, h.txs.1.one⟩
/-- The cells of a snapshot. -/
def cellS (s : Sn) (u t : C) : List C := [.v (.int .i64 s.op), .v (.int .i64 s.idx), .v (.int .i64 s.wid), .v (.bool s.fin), u, .v (.int .i64 (s.offs 0)), .v (.int .i64 (s.offs 1)), .v (.int .i64 (s.offs 2)), .v (.int .i64 (s.offs 3)), .v (.int .i64 (s.offs 4)), .v (.int .i64 (s.offs 5)), .v (.int .i64 (s.offs 6)), .v (.int .i64 (s.offs 7)), t]
theorem cellS_lt {n : Nat} (s : Sn) {u t : Value} (hu : u.oneCell' = true) (ht : t.oneCell' = true) : SV.lt n (.agg (cellS s (.v u) (.v t))) = true := by
  show Sy.ltAll n (cellS s (.v u) (.v t)) = true
  simp only [cellS, Sy.ltAll, C.lt, hu, ht]
  rfl
theorem short_mem (n : Nat) (s : SnV) (w : World) (hn : n ≤ w.heap.size) (hr : SOk (fun b => b < w.heap.size) w s) :
    Calls Try.prog 14 #[.agg (encS s).toArray] w (Sy.RetMem (fun (x : Two) G w' => SOk (fun b => G b ∧ n ≤ b) w' ⟨shortS s.sn, x.a, x.b⟩) (fun x => .agg (encS ⟨shortS s.sn, x.a, x.b⟩).toArray) w) :=
  (mem_r2 n hn (short_any s w hr)).mono fun _ _ ⟨x, hE, hb, h1, h2⟩ => ⟨x, hE, hb, h1, h2⟩
def shortsL (l : List Sn) : List Sn := (l.take 4).map shortS
structure SlV where
  v : Value
  ls : List SnV
  h : v.oneCell' = true
theorem SsOk.mono {F F' : Nat → Prop} {w : World} {v : Value} {ls : List SnV} (h : SsOk F w v ls) (hF : ∀ b, F b → F' b) : SsOk F' w v ls := ⟨XD.ok.mono h.1 hF, fun s hs => (h.2 s hs).mono hF⟩
theorem SsOk.keep {F F' : Nat → Prop} {w w' : World} {v : Value} {ls : List SnV} (h : SsOk F w v ls) (hF : ∀ b, F b → F' b) (hk : ∀ b, F b → w'.heap[b]? = w.heap[b]?) : SsOk F' w' v ls := ⟨XD.ok.keep h.1 hF hk, fun s hs => (h.2 s hs).keep hF hk⟩
theorem shortsL_succ {l : List Sn} {n : Nat} {s : Sn} (h : l[n]? = some s) : shortsL (l.take (n + 1)) = shortsL (l.take n) ++ (if n < 4 then [shortS s] else []) := by
  obtain ⟨hn, he⟩ := List.getElem?_eq_some_iff.1 h
  unfold shortsL
  rw [List.take_succ_eq_append_getElem hn, he, List.take_append, List.length_take, Nat.min_eq_left (by omega), List.map_append]
  by_cases h8 : n < 4
  · rw [if_pos h8, List.take_of_length_le (l := [s]) (by simp; omega)]; rfl
  · rw [if_neg h8, show 4 - n = 0 by omega]; rfl
theorem sns_get {ls : List SnV} {n : Nat} {s : SnV} (h : ls[n]? = some s) : (snsOf ls)[n]? = some s.sn := by unfold snsOf; rw [List.getElem?_map, h]; rfl
theorem sns_len (ls : List SnV) : (snsOf ls).length = ls.length := List.length_map _
set_option maxHeartbeats 4000000 in
theorem shorts_any (m : Nat) (v : Value) (ls : List SnV) (w : World) (hm : m ≤ w.heap.size) (hr : SsOk (fun b => b < w.heap.size) w v ls) :
    Calls Try.prog 18 #[v] w (Sy.RetMem (fun (x : SlV) G w' => snsOf x.ls = shortsL (snsOf ls) ∧ SsOk (fun b => G b ∧ m ≤ b) w' x.v x.ls) (fun x => x.v) w) := by
  have hl := ok_len hr.1
  refine Sy.calls_of Sy.lv18 Sy.tab_ok Try.func18 rfl _ Try.ntmps18 [⟨v, 14, ls.length, ls.map encS⟩] [.c (.row 0)] rfl rfl rfl ⟨hr.1, trivial⟩ ?_
  ((repeat' ((conv => whnf);(first|refine zA ?_|(refine zI ?_ ?_<;> intro hh<;> first|(exfalso;omega)|skip)|(refine zl ?_ ?_<;> intro hh)|refine zq ?_|refine zv ?_|refine zu ?_|exact Sy.fin_val fun e=>rfl)));(all_goals (try conv => whnf)))
  refine Sy.sem_subF (Sy.sub_row 3 33 14 rfl) ?_
  conv => whnf
  refine Sy.loop_learn Sy.tab_ok (fun x : Nat × List SnV × (Nat → Prop) × (World → Prop) => [(8, .c (.v (.int .i64 x.1))), (3, .c (.row 1))]) (fun x => [(1, .row 33 14 x.2.1.length (.vs (x.2.1.map encS)))]) (fun x => x.2.2.1) (fun x => x.2.2.2)
    (fun x => x.1 ≤ ls.length ∧ snsOf x.2.1 = shortsL ((snsOf ls).take x.1) ∧ (∀ b, b < w.heap.size → x.2.2.1 b) ∧ ∀ w', x.2.2.2 w' → ∀ s ∈ x.2.1, SOk (fun b => x.2.2.1 b ∧ w.heap.size ≤ b) w' s) (fun x => ls.length - x.1) (0, [], fun b => b < w.heap.size ∧ ¬ (fun _ : Nat => False) b, fun _ => True)
    ⟨Nat.zero_le _, rfl, fun _ h => ⟨h, fun h => h⟩, fun _ _ s hs => by cases hs⟩ ?_ (fun x hx => ?_)
  · ((repeat' (first|((conv => whnf);done)|((try conv => whnf);first|exact trivial|(refine And.intro ?_ ?_)|rfl|exact fun _ _ _ h=>h|exact fun _ _ _ _=>trivial)));(all_goals (try conv => whnf)))
  · obtain ⟨n, os, F, E⟩ := x
    obtain ⟨hn, hos, hF, hE⟩ := hx
    dsimp only at hn hos hF hE ⊢
    have hol : os.length ≤ 4 := by
      have := congrArg List.length hos
      rw [sns_len, shortsL, List.length_map, List.length_take] at this
      omega
    by_cases hlt : n < ls.length
    · have hg := List.getElem?_eq_getElem hlt
      have hxm := List.getElem_mem hlt
      generalize ls[n] = s at *
      have hss := shortsL_succ (sns_get hg)
      have hsr := hr.2 s hxm
      obtain ⟨sn, u, t⟩ := s
      have h1 := hsr.one
      dsimp only at h1
      by_cases h4 : n < 4
      · rw [if_pos h4] at hss
        ((repeat' ((conv => whnf);(first|refine zA ?_|(refine zI ?_ ?_<;> intro hh<;> first|(exfalso;omega)|skip)|(refine zl ?_ ?_<;> intro hh)|refine zq ?_|refine zv ?_|refine zu ?_|exact Sy.fin_val fun e=>rfl)));(all_goals (try conv => whnf)))
        refine Sy.el_map _ hg ?_
        ((repeat' ((conv => whnf);(first|refine zA ?_|(refine zI ?_ ?_<;> intro hh<;> first|(exfalso;omega)|skip)|(refine zl ?_ ?_<;> intro hh)|refine zq ?_|refine zv ?_|refine zu ?_|exact Sy.fin_val fun e=>rfl)));(all_goals (try conv => whnf)))
        refine Sy.call_mem (fun (x : Two) G w' => SOk (fun b => G b ∧ w.heap.size ≤ b) w' ⟨shortS sn, x.a, x.b⟩) (fun x => .agg (cellS (shortS sn) (.v x.a) (.v x.b))) Try.call14 (fun x => cellS_lt _ x.ha x.hb) (fun x G G' w1 w2 h hG hk => h.keep (fun b hb => ⟨hG b hb.1, hb.2⟩) fun b hb => hk b hb.1) (fun e a w' h => short_mem w.heap.size ⟨sn, u, t⟩ w' h.bel.size ⟨Sy.later_in h hsr.rows, Sy.later_in h hsr.txs⟩) (fun x G => ?_)
        ((repeat' ((conv => whnf);(first|refine zA ?_|(refine zI ?_ ?_<;> intro hh<;> first|(exfalso;omega)|skip)|(refine zl ?_ ?_<;> intro hh)|refine zq ?_|refine zv ?_|refine zu ?_|exact Sy.fin_val fun e=>rfl)));(all_goals (try conv => whnf)))
        refine Sy.need_app 144 rfl ⟨by omega, by omega⟩ ?_
        ((repeat' ((conv => whnf);(first|refine zA ?_|(refine zI ?_ ?_<;> intro hh<;> first|(exfalso;omega)|skip)|(refine zl ?_ ?_<;> intro hh)|refine zq ?_|refine zv ?_|refine zu ?_|exact Sy.fin_val fun e=>rfl)));(all_goals (try conv => whnf)))
        refine' ⟨(n + 1, os ++ [⟨shortS sn, x.a, x.b⟩], _, _), ?c1, ?c2, ?c3⟩
        case c3 =>
          dsimp only
          ((repeat' (first|((conv => whnf);done)|((try conv => whnf);first|exact trivial|(refine And.intro ?_ ?_)|rfl|exact fun _ _ _ h=>h|exact fun _ _ _ _=>trivial)));(all_goals (try conv => whnf)))
          all_goals simp [encS]
        case c2 => dsimp only; omega
        case c1 =>
          refine ⟨by dsimp only; omega, ?_, fun b hb => .inl (hF b hb), fun w' hw p hp => ?_⟩
          · dsimp only
            rw [hss, ← hos]
            unfold snsOf
            rw [List.map_append]; rfl
          · rcases List.mem_append.1 hp with hp | hp
            · exact (hE w' hw.1 p hp).mono fun b hb => ⟨.inl hb.1, hb.2⟩
            · rw [List.mem_singleton.1 hp]
              exact hw.2
      · rw [if_neg h4, List.append_nil] at hss
        ((repeat' ((conv => whnf);(first|refine zA ?_|(refine zI ?_ ?_<;> intro hh<;> first|(exfalso;omega)|skip)|(refine zl ?_ ?_<;> intro hh)|refine zq ?_|refine zv ?_|refine zu ?_|exact Sy.fin_val fun e=>rfl)));(all_goals (try conv => whnf)))
        refine Sy.el_map _ hg ?_
        ((repeat' ((conv => whnf);(first|refine zA ?_|(refine zI ?_ ?_<;> intro hh<;> first|(exfalso;omega)|skip)|(refine zl ?_ ?_<;> intro hh)|refine zq ?_|refine zv ?_|refine zu ?_|exact Sy.fin_val fun e=>rfl)));(all_goals (try conv => whnf)))
        refine' ⟨(n + 1, os, F, E), ?c1, ?c2, ?c3⟩
        case c3 =>
          dsimp only
          ((repeat' (first|((conv => whnf);done)|((try conv => whnf);first|exact trivial|(refine And.intro ?_ ?_)|rfl|exact fun _ _ _ h=>h|exact fun _ _ _ _=>trivial)));(all_goals (try conv => whnf)))
        case c2 => dsimp only; omega
        case c1 => exact ⟨by dsimp only; omega, by dsimp only; rw [hss, hos], hF, hE⟩
    · have e : n = ls.length := by omega
      rw [e, ← sns_len, List.take_length] at hos
      ((repeat' ((conv => whnf);(first|refine zA ?_|(refine zI ?_ ?_<;> intro hh<;> first|(exfalso;omega)|skip)|(refine zl ?_ ?_<;> intro hh)|refine zq ?_|refine zv ?_|refine zu ?_|exact Sy.fin_val fun e=>rfl)));(all_goals (try conv => whnf)))
      refine Sy.fin_freezev 1 33 14 os.length (os.map encS) rfl (fun y G hG hy => ?_)
      conv => whnf
      refine fin_mem (⟨y, os, hy⟩ : SlV) (fun e => rfl) fun w' hs hw hlt => ⟨hos, XD.ok.mono hw.2.1 fun b hb => ?_, fun p hp => (hE w' hw.1 p hp).mono fun b hb => ?_⟩
      · have h1 := Nat.le_of_not_lt fun hlt => hG b hb (hF b hlt)
        exact ⟨⟨h1, hlt b (.inr hb)⟩, Nat.le_trans hm h1⟩
      · exact ⟨⟨hb.2, hlt b (.inl hb.1)⟩, Nat.le_trans hm hb.2⟩
end Go.Proofs.Ytmahldelmbhjfaa
