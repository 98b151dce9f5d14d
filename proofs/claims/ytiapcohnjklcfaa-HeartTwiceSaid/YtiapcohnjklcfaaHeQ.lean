/- Heart: the law HeartSteady. -/
import Derived.Test.YtiapcohnjklcfaaHeO
namespace Go.Proofs.Ytiapcohnjklcfaa
open Go Go.RowKit
open Sy (C SV V1 Blk St XD Els)
set_option maxRecDepth 10000

theorem tm_bd (x m : Int) (hm : 0 < m) : -m < x.tmod m ∧ x.tmod m < m := by
  have h1 := Int.tmod_lt_of_pos x hm
  have h2 := Int.tmod_lt_of_pos (-x) hm
  rw [Int.neg_tmod] at h2
  omega
theorem okH_one {now s k hd : Int} {d : Bool} (h1 : 0 ≤ now) (h2 : now ≤ 1099511627776) (h3 : 1 ≤ s) (h4 : s ≤ 100) (h5 : 1 ≤ k) (h6 : k ≤ 4) (h7 : 0 ≤ hd) (h8 : hd ≤ now) (h9 : d = true ∨ now - hd < s) : okH now s [⟨k, hd, d⟩] = true := by
  have hp : pok now s 0 ⟨k, hd, d⟩ = true := (pok_true _ _ _ _).2 ⟨by simp only; omega, h6, h7, h8, h9⟩
  simp [okH, okStep, ok0, hp, h1, h2, h3, h4]
theorem okH_nil {now s : Int} (h1 : 0 ≤ now) (h2 : now ≤ 1099511627776) (h3 : 1 ≤ s) (h4 : s ≤ 100) : okH now s [] = true := by
  simp [okH, ok0, h1, h2, h3, h4]
/-- One worker, or none: what is known of it. -/
def SInv (now s k : Int) (ps : List Pulse) (down : Bool) : Prop := okH now s ps = true ∧ ((ps = [] ∧ down = true) ∨ ∃ hd, ps = [⟨k, hd, down⟩])
theorem st_hear {now s k : Int} {ps : List Pulse} {down : Bool} (h : SInv now s k ps down) (h5 : 1 ≤ k) (h6 : k ≤ 4) : hearV now s ps k = (⟨now, s, [⟨k, now, false⟩]⟩, down, 0) := by
  obtain ⟨hok, h⟩ := h
  rw [hearV, if_pos hok, if_pos ⟨h5, h6⟩]
  rcases h with ⟨rfl, rfl⟩ | ⟨hd, rfl⟩
  · rfl
  · simp [putL, cameL]
theorem st_pass {now s k w : Int} (h1 : 0 ≤ now) (h2 : now + w ≤ 1099511627776) (h3 : 1 ≤ s) (h4 : s ≤ 100) (h5 : 1 ≤ k) (h6 : k ≤ 4) (h7 : 0 ≤ w) :
    passV now s [⟨k, now, false⟩] (now + w) = (⟨now + w, s, [⟨k, now, decide (s ≤ w)⟩]⟩, (if s ≤ w then [k] else []), 0) := by
  have hok : okH now s [⟨k, now, false⟩] = true := okH_one h1 (by omega) h3 h4 h5 h6 h1 (Int.le_refl _) (.inr (by omega))
  rw [passV, if_pos hok, if_pos ⟨by omega, h2⟩]
  by_cases hw : s ≤ w
  · have : goes (now + w) s ⟨k, now, false⟩ = true := by simp [goes]; omega
    simp [passL, goneL, downAt, this, hw]
  · have : goes (now + w) s ⟨k, now, false⟩ = false := by simp [goes]; omega
    simp [passL, goneL, downAt, this, hw]
theorem st_again {now s k hd : Int} {d : Bool} (hok : okH now s [⟨k, hd, d⟩] = true) (h2 : now + 1 ≤ 1099511627776) : ∃ d', passV now s [⟨k, hd, d⟩] (now + 1) = (⟨now + 1, s, [⟨k, hd, d'⟩]⟩, (if d = true then [] else if d' = true then [k] else []), 0) ∧ (d = true → d' = true) := by
  rw [passV, if_pos hok, if_pos ⟨by omega, h2⟩]
  cases d
  · by_cases hg : goes (now + 1) s ⟨k, hd, false⟩ = true
    · exact ⟨true, by simp [passL, goneL, downAt, hg], fun _ => rfl⟩
    · exact ⟨false, by simp [passL, goneL, downAt, hg], fun h => h⟩
  · have : goes (now + 1) s ⟨k, hd, true⟩ = false := by simp [goes]
    exact ⟨true, by simp [passL, goneL, downAt, this], fun _ => rfl⟩
theorem st_alive {now s k hd : Int} {d : Bool} (hok : okH now s [⟨k, hd, d⟩] = true) : aliveL now s [⟨k, hd, d⟩] = if d = true then [] else [k] := by
  rw [aliveL, if_pos hok]
  cases d <;> simp
attribute [local irreducible] okN okH ok0 chkE hearV passV dropV runV sh sameB aliveL
structure SS where
  n : Nat
  now : Int
  ps : List Pulse
  down : Bool
set_option maxHeartbeats 1000000 in
theorem steady_any (span worker : Int) (v : Value) (ws : List Int) (w : World) (hs0 : I64 span) (hr : XD.ok (fun b => b < w.heap.size) w ⟨v, 1, ws.length, ws.map encI⟩) :
    Calls Try.prog 4 #[.int .i64 span, .int .i64 worker, v] w (Sy.Ret (.bool true) w) := by
  have hl := ok_len hr
  have h100 := tm_bd span 100 (by decide)
  have hw0 := wrap64_pos worker
  refine Sy.calls_of Sy.lv4 Sy.tab_ok Try.func4 rfl _ Try.ntmps4 [⟨v, 1, ws.length, ws.map encI⟩] [.c (.v (.int .i64 span)), .c (.v (.int .i64 worker)), .c (.row 0)] rfl rfl rfl ⟨hr, trivial⟩ ?_
  ((repeat' ((conv => whnf);(first|refine z1 ?_|refine z2 ?_|refine z3 ?_|refine z4 ?_|refine z5 ?_|refine z6 ?_|refine z7 ?_|refine z8 ?_|refine z9 ?_|refine za ?_|refine zb ?_|refine zc ?_|refine zd ?_|refine ze ?_|refine zf ?_|refine zg ?_|refine zh ?_|((first|refine zi ?_ ?_|refine zj ?_ ?_|refine zk ?_ ?_)<;> intro hh <;> first|(exfalso;omega)|skip)|(refine zl ?_ ?_<;> intro hh)|refine zm ?_|refine zn ?_|refine zo ?_|refine zp ?_|refine zq ?_|refine zr ?_|refine zs _ rfl ?_|refine zu ?_|exact Sy.fin_val (fun e=>rfl))));(all_goals (try conv => whnf)))
  refine Sy.call_val (.c (.v (.bool true))) Try.call9 rfl (fun e a w' h => wakes_any w') ?_
  ((repeat' ((conv => whnf);(first|refine z1 ?_|refine z2 ?_|refine z3 ?_|refine z4 ?_|refine z5 ?_|refine z6 ?_|refine z7 ?_|refine z8 ?_|refine z9 ?_|refine za ?_|refine zb ?_|refine zc ?_|refine zd ?_|refine ze ?_|refine zf ?_|refine zg ?_|refine zh ?_|((first|refine zi ?_ ?_|refine zj ?_ ?_|refine zk ?_ ?_)<;> intro hh <;> first|(exfalso;omega)|skip)|(refine zl ?_ ?_<;> intro hh)|refine zm ?_|refine zn ?_|refine zo ?_|refine zp ?_|refine zq ?_|refine zr ?_|refine zs _ rfl ?_|refine zu ?_|exact Sy.fin_val (fun e=>rfl))));(all_goals (try conv => whnf)))
  refine Sy.rem_of (by decide) ?_
  ((repeat' ((conv => whnf);(first|refine z1 ?_|refine z2 ?_|refine z3 ?_|refine z4 ?_|refine z5 ?_|refine z6 ?_|refine z7 ?_|refine z8 ?_|refine z9 ?_|refine za ?_|refine zb ?_|refine zc ?_|refine zd ?_|refine ze ?_|refine zf ?_|refine zg ?_|refine zh ?_|((first|refine zi ?_ ?_|refine zj ?_ ?_|refine zk ?_ ?_)<;> intro hh <;> first|(exfalso;omega)|skip)|(refine zl ?_ ?_<;> intro hh)|refine zm ?_|refine zn ?_|refine zo ?_|refine zp ?_|refine zq ?_|refine zr ?_|refine zs _ rfl ?_|refine zu ?_|exact Sy.fin_val (fun e=>rfl))));(all_goals (try conv => whnf)))
  refine Sy.rem_in (by omega) (by decide) ?_
  ((repeat' ((conv => whnf);(first|refine z1 ?_|refine z2 ?_|refine z3 ?_|refine z4 ?_|refine z5 ?_|refine z6 ?_|refine z7 ?_|refine z8 ?_|refine z9 ?_|refine za ?_|refine zb ?_|refine zc ?_|refine zd ?_|refine ze ?_|refine zf ?_|refine zg ?_|refine zh ?_|((first|refine zi ?_ ?_|refine zj ?_ ?_|refine zk ?_ ?_)<;> intro hh <;> first|(exfalso;omega)|skip)|(refine zl ?_ ?_<;> intro hh)|refine zm ?_|refine zn ?_|refine zo ?_|refine zp ?_|refine zq ?_|refine zr ?_|refine zs _ rfl ?_|refine zu ?_|exact Sy.fin_val (fun e=>rfl))));(all_goals (try conv => whnf)))
  refine Sy.ar_wrap ?_
  ((repeat' ((conv => whnf);(first|refine z1 ?_|refine z2 ?_|refine z3 ?_|refine z4 ?_|refine z5 ?_|refine z6 ?_|refine z7 ?_|refine z8 ?_|refine z9 ?_|refine za ?_|refine zb ?_|refine zc ?_|refine zd ?_|refine ze ?_|refine zf ?_|refine zg ?_|refine zh ?_|((first|refine zi ?_ ?_|refine zj ?_ ?_|refine zk ?_ ?_)<;> intro hh <;> first|(exfalso;omega)|skip)|(refine zl ?_ ?_<;> intro hh)|refine zm ?_|refine zn ?_|refine zo ?_|refine zp ?_|refine zq ?_|refine zr ?_|refine zs _ rfl ?_|refine zu ?_|exact Sy.fin_val (fun e=>rfl))));(all_goals (try conv => whnf)))
  refine Sy.rem_in hw0 (by decide) ?_
  ((repeat' ((conv => whnf);(first|refine z1 ?_|refine z2 ?_|refine z3 ?_|refine z4 ?_|refine z5 ?_|refine z6 ?_|refine z7 ?_|refine z8 ?_|refine z9 ?_|refine za ?_|refine zb ?_|refine zc ?_|refine zd ?_|refine ze ?_|refine zf ?_|refine zg ?_|refine zh ?_|((first|refine zi ?_ ?_|refine zj ?_ ?_|refine zk ?_ ?_)<;> intro hh <;> first|(exfalso;omega)|skip)|(refine zl ?_ ?_<;> intro hh)|refine zm ?_|refine zn ?_|refine zo ?_|refine zp ?_|refine zq ?_|refine zr ?_|refine zs _ rfl ?_|refine zu ?_|exact Sy.fin_val (fun e=>rfl))));(all_goals (try conv => whnf)))
  obtain ⟨s, hs, hs1, hs2⟩ : ∃ s, 1 + (span.tmod 100 + 100) % 100 = s ∧ 1 ≤ s ∧ s ≤ 100 := ⟨_, rfl, by omega, by omega⟩
  obtain ⟨k, hk, hk1, hk2⟩ : ∃ k, 1 + IntKind.u64.wrap worker % 4 = k ∧ 1 ≤ k ∧ k ≤ 4 := ⟨_, rfl, by omega, by omega⟩
  rw [hs, hk]
  clear hs hk h100 hw0 hs0
  refine Sy.call_val (.tup [.agg [.v (.int .i64 0), .v (.int .i64 s), .v (.slice none 0 0)], .c (.v (.int .i64 0))]) Try.call10 rfl (fun e a w' h => by have := new_any 0 s w' (by unfold I64; omega); rw [if_pos (okH_nil (by omega) (by omega) hs1 hs2)] at this; exact this) ?_
  ((repeat' ((conv => whnf);(first|refine z1 ?_|refine z2 ?_|refine z3 ?_|refine z4 ?_|refine z5 ?_|refine z6 ?_|refine z7 ?_|refine z8 ?_|refine z9 ?_|refine za ?_|refine zb ?_|refine zc ?_|refine zd ?_|refine ze ?_|refine zf ?_|refine zg ?_|refine zh ?_|((first|refine zi ?_ ?_|refine zj ?_ ?_|refine zk ?_ ?_)<;> intro hh <;> first|(exfalso;omega)|skip)|(refine zl ?_ ?_<;> intro hh)|refine zm ?_|refine zn ?_|refine zo ?_|refine zp ?_|refine zq ?_|refine zr ?_|refine zs _ rfl ?_|refine zu ?_|exact Sy.fin_val (fun e=>rfl))));(all_goals (try conv => whnf)))
  refine Sy.sem_subF (Sy.sub_rowc 1 2 51 3 rfl rfl) ?_
  conv => whnf
  refine Sy.loop_inv Sy.tab_ok (fun i : SS => [(41, .c (.v (.int .i64 i.n))), (9, .c (.v (.bool i.down)))]) (fun i => [(1, .cells 27 [.v (.int .i64 i.now), .v (.int .i64 s), .row 2]), (2, .row 51 3 i.ps.length (.vs (i.ps.map encP)))])
    (fun i => i.n ≤ ws.length ∧ i.n ≤ 30 ∧ 0 ≤ i.now ∧ i.now ≤ 200 * i.n ∧ SInv i.now s k i.ps i.down) (fun i => ws.length - i.n) ⟨0, 0, [], true⟩ ⟨Nat.zero_le _, Nat.zero_le _, Int.le_refl _, by simp, okH_nil (by simp) (by simp) hs1 hs2, .inl ⟨rfl, rfl⟩⟩ ?_ (fun i hi => ?_)
  · ((repeat' (first|((conv => whnf);done)|((try conv => whnf);first|exact trivial|(refine And.intro ?_ ?_)|rfl)));(all_goals (try conv => whnf)))
  · obtain ⟨n, now, ps, down⟩ := i
    obtain ⟨hle, h30, hn0, hn1, hinv⟩ := hi
    simp only at hle h30 hn0 hn1 hinv
    have hhear := st_hear hinv hk1 hk2
    ((repeat' ((conv => whnf);(first|refine z1 ?_|refine z2 ?_|refine z3 ?_|refine z4 ?_|refine z5 ?_|refine z6 ?_|refine z7 ?_|refine z8 ?_|refine z9 ?_|refine za ?_|refine zb ?_|refine zc ?_|refine zd ?_|refine ze ?_|refine zf ?_|refine zg ?_|refine zh ?_|((first|refine zi ?_ ?_|refine zj ?_ ?_|refine zk ?_ ?_)<;> intro hh <;> first|(exfalso;omega)|skip)|(refine zl ?_ ?_<;> intro hh)|refine zm ?_|refine zn ?_|refine zo ?_|refine zp ?_|refine zq ?_|refine zr ?_|refine zs _ rfl ?_|refine zu ?_|exact Sy.fin_val (fun e=>rfl))));(all_goals (try conv => whnf)))
    have hlt : n < ws.length := by simp only at *; omega
    refine Sy.el_map ws[n] (List.getElem?_eq_getElem hlt) ?_
    generalize ws[n] = w0 at *
    ((repeat' ((conv => whnf);(first|refine z1 ?_|refine z2 ?_|refine z3 ?_|refine z4 ?_|refine z5 ?_|refine z6 ?_|refine z7 ?_|refine z8 ?_|refine z9 ?_|refine za ?_|refine zb ?_|refine zc ?_|refine zd ?_|refine ze ?_|refine zf ?_|refine zg ?_|refine zh ?_|((first|refine zi ?_ ?_|refine zj ?_ ?_|refine zk ?_ ?_)<;> intro hh <;> first|(exfalso;omega)|skip)|(refine zl ?_ ?_<;> intro hh)|refine zm ?_|refine zn ?_|refine zo ?_|refine zp ?_|refine zq ?_|refine zr ?_|refine zs _ rfl ?_|refine zu ?_|exact Sy.fin_val (fun e=>rfl))));(all_goals (try conv => whnf)))
    have hI : I64 now := by unfold I64; omega
    have hok1 : okH now s [⟨k, now, false⟩] = true := okH_one hn0 (by omega) hs1 hs2 hk1 hk2 hn0 (Int.le_refl _) (.inr (by omega))
    have hal1 := st_alive hok1
    simp only [Bool.false_eq_true, if_false] at hal1
    have hb := tm_bd w0 (2 * s) (by omega)
    refine Sy.call_r1 ⟨51, 3, 1, [encP ⟨k, now, false⟩]⟩ (fun j => .tup [.agg [.v (.int .i64 now), .v (.int .i64 s), .row j], .c (.v (.bool down)), .c (.v (.int .i64 0))]) Try.call13 (v := fun _ vs => .tuple #[valH ⟨now, s, [⟨k, now, false⟩]⟩ (vs.headD undef), .bool down, .int .i64 0]) (fun e a w' h => by have := hear_any now s (e.rv 2) ps k w' hI (by unfold I64; omega) (Sy.row_reads h (.inl ⟨_, rfl⟩)); rw [hhear] at this; exact this) ?_
    cases down
    all_goals
      ((repeat' ((conv => whnf);(first|refine z1 ?_|refine z2 ?_|refine z3 ?_|refine z4 ?_|refine z5 ?_|refine z6 ?_|refine z7 ?_|refine z8 ?_|refine z9 ?_|refine za ?_|refine zb ?_|refine zc ?_|refine zd ?_|refine ze ?_|refine zf ?_|refine zg ?_|refine zh ?_|((first|refine zi ?_ ?_|refine zj ?_ ?_|refine zk ?_ ?_)<;> intro hh <;> first|(exfalso;omega)|skip)|(refine zl ?_ ?_<;> intro hh)|refine zm ?_|refine zn ?_|refine zo ?_|refine zp ?_|refine zq ?_|refine zr ?_|refine zs _ rfl ?_|refine zu ?_|exact Sy.fin_val (fun e=>rfl))));(all_goals (try conv => whnf)))
      refine Sy.call_r1 ⟨3, 1, 1, [encI k]⟩ (fun j => .c (.row j)) Try.call15 (v := fun _ vs => vs.headD undef) (fun e a w' h => by have := alive_any now s (e.rv 3) [⟨k, now, false⟩] w' hI (Sy.row_reads h (.inl ⟨_, rfl⟩)); rw [hal1] at this; exact this) ?_
      ((repeat' ((conv => whnf);(first|refine z1 ?_|refine z2 ?_|refine z3 ?_|refine z4 ?_|refine z5 ?_|refine z6 ?_|refine z7 ?_|refine z8 ?_|refine z9 ?_|refine za ?_|refine zb ?_|refine zc ?_|refine zd ?_|refine ze ?_|refine zf ?_|refine zg ?_|refine zh ?_|((first|refine zi ?_ ?_|refine zj ?_ ?_|refine zk ?_ ?_)<;> intro hh <;> first|(exfalso;omega)|skip)|(refine zl ?_ ?_<;> intro hh)|refine zm ?_|refine zn ?_|refine zo ?_|refine zp ?_|refine zq ?_|refine zr ?_|refine zs _ rfl ?_|refine zu ?_|exact Sy.fin_val (fun e=>rfl))));(all_goals (try conv => whnf)))
      refine Sy.call_val (.c (.v (.bool true))) Try.call14 rfl (fun e a w' h => by have := equalI_any (e.rv 5) (e.rv 6) [k] [k] w' (Sy.row_reads h (.inl ⟨_, rfl⟩)) (Sy.row_reads h (.inl ⟨_, rfl⟩)); rw [decide_eq_true rfl] at this; exact this) ?_
      ((repeat' ((conv => whnf);(first|refine z1 ?_|refine z2 ?_|refine z3 ?_|refine z4 ?_|refine z5 ?_|refine z6 ?_|refine z7 ?_|refine z8 ?_|refine z9 ?_|refine za ?_|refine zb ?_|refine zc ?_|refine zd ?_|refine ze ?_|refine zf ?_|refine zg ?_|refine zh ?_|((first|refine zi ?_ ?_|refine zj ?_ ?_|refine zk ?_ ?_)<;> intro hh <;> first|(exfalso;omega)|skip)|(refine zl ?_ ?_<;> intro hh)|refine zm ?_|refine zn ?_|refine zo ?_|refine zp ?_|refine zq ?_|refine zr ?_|refine zs _ rfl ?_|refine zu ?_|exact Sy.fin_val (fun e=>rfl))));(all_goals (try conv => whnf)))
      refine Sy.rem_of (by omega) ?_
      ((repeat' ((conv => whnf);(first|refine z1 ?_|refine z2 ?_|refine z3 ?_|refine z4 ?_|refine z5 ?_|refine z6 ?_|refine z7 ?_|refine z8 ?_|refine z9 ?_|refine za ?_|refine zb ?_|refine zc ?_|refine zd ?_|refine ze ?_|refine zf ?_|refine zg ?_|refine zh ?_|((first|refine zi ?_ ?_|refine zj ?_ ?_|refine zk ?_ ?_)<;> intro hh <;> first|(exfalso;omega)|skip)|(refine zl ?_ ?_<;> intro hh)|refine zm ?_|refine zn ?_|refine zo ?_|refine zp ?_|refine zq ?_|refine zr ?_|refine zs _ rfl ?_|refine zu ?_|exact Sy.fin_val (fun e=>rfl))));(all_goals (try conv => whnf)))
      refine Sy.rem_in (by omega) (by omega) ?_
      ((repeat' ((conv => whnf);(first|refine z1 ?_|refine z2 ?_|refine z3 ?_|refine z4 ?_|refine z5 ?_|refine z6 ?_|refine z7 ?_|refine z8 ?_|refine z9 ?_|refine za ?_|refine zb ?_|refine zc ?_|refine zd ?_|refine ze ?_|refine zf ?_|refine zg ?_|refine zh ?_|((first|refine zi ?_ ?_|refine zj ?_ ?_|refine zk ?_ ?_)<;> intro hh <;> first|(exfalso;omega)|skip)|(refine zl ?_ ?_<;> intro hh)|refine zm ?_|refine zn ?_|refine zo ?_|refine zp ?_|refine zq ?_|refine zr ?_|refine zs _ rfl ?_|refine zu ?_|exact Sy.fin_val (fun e=>rfl))));(all_goals (try conv => whnf)))
      obtain ⟨x, hx, hx1, hx2⟩ : ∃ x, (w0.tmod (2 * s) + 2 * s) % (2 * s) = x ∧ 0 ≤ x ∧ x < 2 * s := ⟨_, rfl, Int.emod_nonneg _ (by omega), Int.emod_lt_of_pos _ (by omega)⟩
      rw [hx]
      clear hx hb
      refine Sy.ar_eq (y := now + x) rfl (by omega) ?_
      ((repeat' ((conv => whnf);(first|refine z1 ?_|refine z2 ?_|refine z3 ?_|refine z4 ?_|refine z5 ?_|refine z6 ?_|refine z7 ?_|refine z8 ?_|refine z9 ?_|refine za ?_|refine zb ?_|refine zc ?_|refine zd ?_|refine ze ?_|refine zf ?_|refine zg ?_|refine zh ?_|((first|refine zi ?_ ?_|refine zj ?_ ?_|refine zk ?_ ?_)<;> intro hh <;> first|(exfalso;omega)|skip)|(refine zl ?_ ?_<;> intro hh)|refine zm ?_|refine zn ?_|refine zo ?_|refine zp ?_|refine zq ?_|refine zr ?_|refine zs _ rfl ?_|refine zu ?_|exact Sy.fin_val (fun e=>rfl))));(all_goals (try conv => whnf)))
      by_cases hw : s ≤ x
      · have hp := st_pass (w := x) hn0 (by omega) hs1 hs2 hk1 hk2 hx1
        rw [decide_eq_true hw, if_pos hw] at hp
        have hok2 : okH (now + x) s [⟨k, now, true⟩] = true := okH_one (by omega) (by omega) hs1 hs2 hk1 hk2 hn0 (by omega) (.inl rfl)
        have hal2 := st_alive hok2
        simp only [if_true] at hal2
        obtain ⟨d', hag, hd'⟩ := st_again hok2 (by omega)
        simp only [if_true] at hag
        refine Sy.call_r2 7 ⟨51, 3, 1, [encP ⟨k, now, true⟩]⟩ ⟨3, 1, 1, [encI k]⟩ (.tup [.agg [.v (.int .i64 (now + x)), .v (.int .i64 s), .row 7], .c (.row 8), .c (.v (.int .i64 0))]) Try.call16 (v := fun _ vs => .tuple #[valH ⟨now + x, s, [⟨k, now, true⟩]⟩ (vs.headD undef), (vs.drop 1).headD undef, .int .i64 0]) (fun e a w' h => by have := pass_any now s (e.rv 3) [⟨k, now, false⟩] (now + x) w' hI (Sy.row_reads h (.inl ⟨_, rfl⟩)); rw [hp] at this; exact this) ?_
        ((repeat' ((conv => whnf);(first|refine z1 ?_|refine z2 ?_|refine z3 ?_|refine z4 ?_|refine z5 ?_|refine z6 ?_|refine z7 ?_|refine z8 ?_|refine z9 ?_|refine za ?_|refine zb ?_|refine zc ?_|refine zd ?_|refine ze ?_|refine zf ?_|refine zg ?_|refine zh ?_|((first|refine zi ?_ ?_|refine zj ?_ ?_|refine zk ?_ ?_)<;> intro hh <;> first|(exfalso;omega)|skip)|(refine zl ?_ ?_<;> intro hh)|refine zm ?_|refine zn ?_|refine zo ?_|refine zp ?_|refine zq ?_|refine zr ?_|refine zs _ rfl ?_|refine zu ?_|exact Sy.fin_val (fun e=>rfl))));(all_goals (try conv => whnf)))
        refine Sy.call_r1 ⟨3, 1, 0, []⟩ (fun j => .c (.row j)) Try.call15 (v := fun _ vs => vs.headD undef) (fun e a w' h => by have := alive_any (now + x) s (e.rv 7) [⟨k, now, true⟩] w' (by unfold I64; omega) (Sy.row_reads h (.inl ⟨_, rfl⟩)); rw [hal2] at this; exact this) ?_
        ((repeat' ((conv => whnf);(first|refine z1 ?_|refine z2 ?_|refine z3 ?_|refine z4 ?_|refine z5 ?_|refine z6 ?_|refine z7 ?_|refine z8 ?_|refine z9 ?_|refine za ?_|refine zb ?_|refine zc ?_|refine zd ?_|refine ze ?_|refine zf ?_|refine zg ?_|refine zh ?_|((first|refine zi ?_ ?_|refine zj ?_ ?_|refine zk ?_ ?_)<;> intro hh <;> first|(exfalso;omega)|skip)|(refine zl ?_ ?_<;> intro hh)|refine zm ?_|refine zn ?_|refine zo ?_|refine zp ?_|refine zq ?_|refine zr ?_|refine zs _ rfl ?_|refine zu ?_|exact Sy.fin_val (fun e=>rfl))));(all_goals (try conv => whnf)))
        obtain rfl : d' = true := hd' rfl
        refine Sy.call_r2 11 ⟨51, 3, 1, [encP ⟨k, now, true⟩]⟩ ⟨3, 1, 0, []⟩ (.tup [.agg [.v (.int .i64 (now + x + 1)), .v (.int .i64 s), .row 11], .c (.row 12), .c (.v (.int .i64 0))]) Try.call16 (v := fun _ vs => .tuple #[valH ⟨now + x + 1, s, [⟨k, now, true⟩]⟩ (vs.headD undef), (vs.drop 1).headD undef, .int .i64 0]) (fun e a w' h => by have := pass_any (now + x) s (e.rv 7) [⟨k, now, true⟩] (now + x + 1) w' (by unfold I64; omega) (Sy.row_reads h (.inl ⟨_, rfl⟩)); rw [hag] at this; exact this) ?_
        ((repeat' ((conv => whnf);(first|refine z1 ?_|refine z2 ?_|refine z3 ?_|refine z4 ?_|refine z5 ?_|refine z6 ?_|refine z7 ?_|refine z8 ?_|refine z9 ?_|refine za ?_|refine zb ?_|refine zc ?_|refine zd ?_|refine ze ?_|refine zf ?_|refine zg ?_|refine zh ?_|((first|refine zi ?_ ?_|refine zj ?_ ?_|refine zk ?_ ?_)<;> intro hh <;> first|(exfalso;omega)|skip)|(refine zl ?_ ?_<;> intro hh)|refine zm ?_|refine zn ?_|refine zo ?_|refine zp ?_|refine zq ?_|refine zr ?_|refine zs _ rfl ?_|refine zu ?_|exact Sy.fin_val (fun e=>rfl))));(all_goals (try conv => whnf)))
        refine Sy.call_r1 ⟨3, 1, 0, []⟩ (fun j => .c (.row j)) Try.call15 (v := fun _ vs => vs.headD undef) (fun e a w' h => by have := alive_any (now + x + 1) s (e.rv 11) [⟨k, now, true⟩] w' (by unfold I64; omega) (Sy.row_reads h (.inl ⟨_, rfl⟩)); rw [st_alive (okH_one (by omega) (by omega) hs1 hs2 hk1 hk2 hn0 (by omega) (.inl rfl))] at this; exact this) ?_
        ((repeat' ((conv => whnf);(first|refine z1 ?_|refine z2 ?_|refine z3 ?_|refine z4 ?_|refine z5 ?_|refine z6 ?_|refine z7 ?_|refine z8 ?_|refine z9 ?_|refine za ?_|refine zb ?_|refine zc ?_|refine zd ?_|refine ze ?_|refine zf ?_|refine zg ?_|refine zh ?_|((first|refine zi ?_ ?_|refine zj ?_ ?_|refine zk ?_ ?_)<;> intro hh <;> first|(exfalso;omega)|skip)|(refine zl ?_ ?_<;> intro hh)|refine zm ?_|refine zn ?_|refine zo ?_|refine zp ?_|refine zq ?_|refine zr ?_|refine zs _ rfl ?_|refine zu ?_|exact Sy.fin_val (fun e=>rfl))));(all_goals (try conv => whnf)))
        refine ⟨⟨n + 1, now + x, [⟨k, now, true⟩], true⟩, ⟨by simp only at *; omega, by simp only at *; omega, by simp only; omega, by simp only at *; omega, hok2, .inr ⟨now, rfl⟩⟩, by simp only at *; omega, ?_⟩
        ((repeat' (first|((conv => whnf);done)|((try conv => whnf);first|exact trivial|(refine And.intro ?_ ?_)|rfl)));(all_goals (try conv => whnf)))
        rw [decide_eq_true hw]
      · have hp := st_pass (w := x) hn0 (by omega) hs1 hs2 hk1 hk2 hx1
        rw [decide_eq_false hw, if_neg hw] at hp
        have hok2 : okH (now + x) s [⟨k, now, false⟩] = true := okH_one (by omega) (by omega) hs1 hs2 hk1 hk2 hn0 (by omega) (.inr (by omega))
        have hal2 := st_alive hok2
        simp only [Bool.false_eq_true, if_false] at hal2
        obtain ⟨d', hag, hd'⟩ := st_again hok2 (by omega)
        simp only [Bool.false_eq_true, if_false] at hag
        refine Sy.call_r2 7 ⟨51, 3, 1, [encP ⟨k, now, false⟩]⟩ ⟨3, 1, 0, []⟩ (.tup [.agg [.v (.int .i64 (now + x)), .v (.int .i64 s), .row 7], .c (.row 8), .c (.v (.int .i64 0))]) Try.call16 (v := fun _ vs => .tuple #[valH ⟨now + x, s, [⟨k, now, false⟩]⟩ (vs.headD undef), (vs.drop 1).headD undef, .int .i64 0]) (fun e a w' h => by have := pass_any now s (e.rv 3) [⟨k, now, false⟩] (now + x) w' hI (Sy.row_reads h (.inl ⟨_, rfl⟩)); rw [hp] at this; exact this) ?_
        ((repeat' ((conv => whnf);(first|refine z1 ?_|refine z2 ?_|refine z3 ?_|refine z4 ?_|refine z5 ?_|refine z6 ?_|refine z7 ?_|refine z8 ?_|refine z9 ?_|refine za ?_|refine zb ?_|refine zc ?_|refine zd ?_|refine ze ?_|refine zf ?_|refine zg ?_|refine zh ?_|((first|refine zi ?_ ?_|refine zj ?_ ?_|refine zk ?_ ?_)<;> intro hh <;> first|(exfalso;omega)|skip)|(refine zl ?_ ?_<;> intro hh)|refine zm ?_|refine zn ?_|refine zo ?_|refine zp ?_|refine zq ?_|refine zr ?_|refine zs _ rfl ?_|refine zu ?_|exact Sy.fin_val (fun e=>rfl))));(all_goals (try conv => whnf)))
        refine Sy.call_r1 ⟨3, 1, 1, [encI k]⟩ (fun j => .c (.row j)) Try.call15 (v := fun _ vs => vs.headD undef) (fun e a w' h => by have := alive_any (now + x) s (e.rv 7) [⟨k, now, false⟩] w' (by unfold I64; omega) (Sy.row_reads h (.inl ⟨_, rfl⟩)); rw [hal2] at this; exact this) ?_
        ((repeat' ((conv => whnf);(first|refine z1 ?_|refine z2 ?_|refine z3 ?_|refine z4 ?_|refine z5 ?_|refine z6 ?_|refine z7 ?_|refine z8 ?_|refine z9 ?_|refine za ?_|refine zb ?_|refine zc ?_|refine zd ?_|refine ze ?_|refine zf ?_|refine zg ?_|refine zh ?_|((first|refine zi ?_ ?_|refine zj ?_ ?_|refine zk ?_ ?_)<;> intro hh <;> first|(exfalso;omega)|skip)|(refine zl ?_ ?_<;> intro hh)|refine zm ?_|refine zn ?_|refine zo ?_|refine zp ?_|refine zq ?_|refine zr ?_|refine zs _ rfl ?_|refine zu ?_|exact Sy.fin_val (fun e=>rfl))));(all_goals (try conv => whnf)))
        generalize hg : (if d' = true then [k] else []) = g at *
        refine Sy.call_r2 11 ⟨51, 3, 1, [encP ⟨k, now, d'⟩]⟩ ⟨3, 1, g.length, g.map encI⟩ (.tup [.agg [.v (.int .i64 (now + x + 1)), .v (.int .i64 s), .row 11], .c (.row 12), .c (.v (.int .i64 0))]) Try.call16 (v := fun _ vs => .tuple #[valH ⟨now + x + 1, s, [⟨k, now, d'⟩]⟩ (vs.headD undef), (vs.drop 1).headD undef, .int .i64 0]) (fun e a w' h => by have := pass_any (now + x) s (e.rv 7) [⟨k, now, false⟩] (now + x + 1) w' (by unfold I64; omega) (Sy.row_reads h (.inl ⟨_, rfl⟩)); rw [hag] at this; exact this) ?_
        ((repeat' ((conv => whnf);(first|refine z1 ?_|refine z2 ?_|refine z3 ?_|refine z4 ?_|refine z5 ?_|refine z6 ?_|refine z7 ?_|refine z8 ?_|refine z9 ?_|refine za ?_|refine zb ?_|refine zc ?_|refine zd ?_|refine ze ?_|refine zf ?_|refine zg ?_|refine zh ?_|((first|refine zi ?_ ?_|refine zj ?_ ?_|refine zk ?_ ?_)<;> intro hh <;> first|(exfalso;omega)|skip)|(refine zl ?_ ?_<;> intro hh)|refine zm ?_|refine zn ?_|refine zo ?_|refine zp ?_|refine zq ?_|refine zr ?_|refine zs _ rfl ?_|refine zu ?_|exact Sy.fin_val (fun e=>rfl))));(all_goals (try conv => whnf)))
        refine ⟨⟨n + 1, now + x, [⟨k, now, false⟩], false⟩, ⟨by simp only at *; omega, by simp only at *; omega, by simp only; omega, by simp only at *; omega, hok2, .inr ⟨now, rfl⟩⟩, by simp only at *; omega, ?_⟩
        ((repeat' (first|((conv => whnf);done)|((try conv => whnf);first|exact trivial|(refine And.intro ?_ ?_)|rfl)));(all_goals (try conv => whnf)))
        rw [decide_eq_false hw]
end Go.Proofs.Ytiapcohnjklcfaa
