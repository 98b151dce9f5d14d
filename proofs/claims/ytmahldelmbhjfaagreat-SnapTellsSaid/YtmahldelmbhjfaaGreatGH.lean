/- Graph: wrong, the document's wrong. -/
import Derived.Test.YtmahldelmbhjfaaGreatGG
namespace Go.Proofs.YtmahldelmbhjfaaGreat
open Go Go.RowKit
open Sy (C SV V1 Blk St XD Els)
set_option maxRecDepth 10000

theorem srcs_le {g : List Opr} {i : Nat} {o : Opr} (hg : goodTo g (i + 1)) (ho : g[i]? = some o) (h1 : o.tag ≠ 1) : (srcs g i).length ≤ insSum g o.ins := by
  rw [← srcs_union hg ho h1]
  exact setI_len _
theorem insSum_le (g : List Opr) (l : List Int) : insSum g l ≤ 4 * l.length := by
  unfold insSum
  exact srcRows_len g l
theorem opsOf_take (gl : List OpV) (n : Nat) : opsOf (gl.take n) = (opsOf gl).take n := by unfold opsOf; rw [List.map_take]
attribute [local irreducible] insSum sinkB dupB srcs
set_option maxHeartbeats 2000000 in
theorem wrong_any (v : Value) (gl : List OpV) (i : Nat) (o : OpV) (wide : Int) (w : World) (hr : GOk (fun b => b < w.heap.size) w v gl) (hlen : gl.length ≤ 1000) (hgi : gl[i]? = some o) (hg : goodTo (opsOf gl) i) :
    Calls Tryz.prog 64 #[.agg #[v], .int .i64 i, .int .i64 wide] w (Sy.Ret (.int .i64 (wrongE (opsOf gl) i o.op wide)) w) := by
  have hi := (List.getElem?_eq_some_iff.1 hgi).1
  have hoo := hr.at hgi
  have hgo := opsOf_get hgi
  refine Sy.calls_of Sy.lv64 Sy.tab_ok Tryz.func64 rfl _ Tryz.ntmps64 [⟨v, 5, gl.length, gl.map encOV⟩] [.agg [.row 0], .c (.v (.int .i64 i)), .c (.v (.int .i64 wide))] rfl rfl rfl ⟨hr.1, trivial⟩ ?_
  ((repeat' ((conv => whnf);(first|refine zA ?_|(refine zI ?_ ?_<;> intro hh<;> first|(exfalso;omega)|skip)|(refine zl ?_ ?_<;> intro hh)|refine zq ?_|refine zv ?_|exact Sy.fin_val fun e=>rfl)));(all_goals (try conv => whnf)))
  refine Sy.el_map o hgi ?_
  ((repeat' ((conv => whnf);(first|refine zA ?_|(refine zI ?_ ?_<;> intro hh<;> first|(exfalso;omega)|skip)|(refine zl ?_ ?_<;> intro hh)|exact Sy.fin_val fun e=>rfl)));(all_goals (try conv => whnf)))
  by_cases ha : AloneP o.op i
  · have hab : aloneB o.op i = true := decide_eq_true ha
    have hg1 : goodTo (opsOf gl) (i + 1) := fun j p hj hp => by
      rcases Nat.lt_succ_iff_lt_or_eq.1 hj with hj | rfl
      · exact hg j p hj hp
      · rw [hgo] at hp; cases hp; exact ha
    have hins := alone_ins ha
    have hil : o.op.ins.length ≤ i := rises_len ha.2.2.1
    ((repeat' ((conv => whnf);(first|refine zA ?_|(refine zI ?_ ?_<;> intro hh<;> first|(exfalso;omega)|skip)|(refine zl ?_ ?_<;> intro hh)|refine zq ?_|refine zv ?_|exact Sy.fin_val fun e=>rfl)));(all_goals (try conv => whnf)))
    refine Sy.call_val (.c (.v (.bool true))) Tryz.call85 rfl (fun e a w' h => by have := alone_any o i w' (Sy.later_in h hoo); rw [hab] at this; exact this) ?_
    ((repeat' ((conv => whnf);(first|refine zA ?_|(refine zI ?_ ?_<;> intro hh<;> first|(exfalso;omega)|skip)|(refine zl ?_ ?_<;> intro hh)|refine zq ?_|refine zv ?_|exact Sy.fin_val fun e=>rfl)));(all_goals (try conv => whnf)))
    refine open_x _ _ _ (hoo) (fun _ h => h) ?_
    ((repeat' ((conv => whnf);(first|refine zA ?_|(refine zI ?_ ?_<;> intro hh<;> first|(exfalso;omega)|skip)|(refine zl ?_ ?_<;> intro hh)|refine zq ?_|refine zv ?_|exact Sy.fin_val fun e=>rfl)));(all_goals (try conv => whnf)))
    refine Sy.call_own (sink_does gl o.op.ins (fun k hk => ⟨(hins k hk).1, by have := (hins k hk).2; omega⟩) (by omega)) Tryz.call86 ?_
    ((conv => whnf);(refine And.intro ?_ (And.intro ?_ (And.intro ?_ (And.intro ?_ ?_))));(all_goals ((repeat' (first|((conv => whnf);done)|((try conv => whnf);first|exact trivial|(refine And.intro ?_ ?_)|rfl|exact fun _ _ _ h=>h|exact fun _ _ _ _=>trivial)));(all_goals (try conv => whnf))));rotate_right)
    intro _ _ _
    generalize hsk : sinkB (opsOf gl) o.op.ins = sk
    cases sk
    · have h0 : sinkB (opsOf gl) o.op.ins ≠ true := by rw [hsk]; decide
      have w1 : ∀ (_ : ¬ (o.op.tag = 1 ∧ dupB ((opsOf gl).take i) o.op.a = true)) (_ : ¬ (o.op.tag = 6 ∧ insSum (opsOf gl) o.op.ins ≠ (srcs (opsOf gl) i).length)), wrongE (opsOf gl) i o.op wide = if 16 < wide then 163 else 0 := fun h1 h2 => by rw [wrongE, if_pos ha, if_neg h0, if_neg h1, if_neg h2]
      ((repeat' ((conv => whnf);(first|refine zA ?_|(refine zI ?_ ?_<;> intro hh<;> first|(exfalso;omega)|skip)|(refine zl ?_ ?_<;> intro hh)|refine zq ?_|refine zv ?_|exact Sy.fin_val fun e=>rfl)));(all_goals (try conv => whnf)))
      · have ht : o.op.tag = 1 := by assumption
        refine Sy.sli_nat (lo := 0) ⟨by omega, by omega⟩ ?_
        ((repeat' ((conv => whnf);(first|refine zA ?_|(refine zI ?_ ?_<;> intro hh<;> first|(exfalso;omega)|skip)|(refine zl ?_ ?_<;> intro hh)|refine zq ?_|refine zv ?_|exact Sy.fin_val fun e=>rfl)));(all_goals (try conv => whnf)))
        refine Sy.call_own (dup_does o (gl.take i) (fun x hx => Sy.ReadsE.one (hr.2 x (List.mem_of_mem_take hx)).1) (by rw [List.length_take]; omega)) Tryz.call87 ?_
        ((conv => whnf);(refine And.intro ?_ (And.intro ?_ (And.intro ?_ (And.intro ?_ ?_))));(all_goals ((repeat' (first|((conv => whnf);done)|((try conv => whnf);first|exact trivial|(refine And.intro ?_ ?_)|rfl|exact fun _ _ _ h=>h|exact fun _ _ _ _=>trivial)));(all_goals (try conv => whnf))));rotate_right)
        · intro _ _ _
          have hdt := opsOf_take gl i
          generalize hdk : dupB (opsOf (gl.take i)) o.op.a = dk
          have hdk2 := hdk
          rw [hdt] at hdk2
          cases dk
          · ((repeat' ((conv => whnf);(first|refine zA ?_|(refine zI ?_ ?_<;> intro hh<;> first|(exfalso;omega)|skip)|(refine zl ?_ ?_<;> intro hh)|refine zq ?_|refine zv ?_|exact Sy.fin_val fun e=>rfl)));(all_goals (try conv => whnf)))
            · exact Sy.fin_val (fun e => by rw [w1 (by rw [hdk2]; simp) (by omega), if_pos (by omega)]; rfl)
            · exact Sy.fin_val (fun e => by rw [w1 (by rw [hdk2]; simp) (by omega), if_neg (by omega)]; rfl)
          · ((repeat' ((conv => whnf);(first|refine zA ?_|(refine zI ?_ ?_<;> intro hh<;> first|(exfalso;omega)|skip)|(refine zl ?_ ?_<;> intro hh)|refine zq ?_|refine zv ?_|exact Sy.fin_val fun e=>rfl)));(all_goals (try conv => whnf)))
            exact Sy.fin_val (fun e => by rw [wrongE, if_pos ha, if_neg h0, if_pos ⟨ht, hdk2⟩]; rfl)
        all_goals simp
        all_goals omega
      · have ht : o.op.tag = 6 := by assumption
        have hle := srcs_le hg1 hgo (by omega)
        have hsm := insSum_le (opsOf gl) o.op.ins
        refine open_x _ _ _ (hoo) (fun _ h => h) ?_
        ((repeat' ((conv => whnf);(first|refine zA ?_|(refine zI ?_ ?_<;> intro hh<;> first|(exfalso;omega)|skip)|(refine zl ?_ ?_<;> intro hh)|refine zq ?_|refine zv ?_|exact Sy.fin_val fun e=>rfl)));(all_goals (try conv => whnf)))
        refine Sy.loop_inv Sy.tab_ok (fun n : Nat => [(49, .c (.v (.int .i64 n))), (10, .c (.v (.int .i64 (insSum (opsOf gl) (o.op.ins.take n)))))]) (fun n => []) (fun n => n ≤ o.op.ins.length) (fun n => o.op.ins.length - n) 0 (Nat.zero_le _) ?_ (fun n hn => ?_)
        · rw [show insSum (opsOf gl) (o.op.ins.take 0) = 0 by unfold insSum; rfl]
          ((repeat' (first|((conv => whnf);done)|((try conv => whnf);first|exact trivial|(refine And.intro ?_ ?_)|rfl|exact fun _ _ _ h=>h|exact fun _ _ _ _=>trivial)));(all_goals (try conv => whnf)))
        · have hlr := insSum_le (opsOf gl) (o.op.ins.take n)
          rw [List.length_take] at hlr
          ((repeat' ((conv => whnf);(first|refine zA ?_|(refine zI ?_ ?_<;> intro hh<;> first|(exfalso;omega)|skip)|(refine zl ?_ ?_<;> intro hh)|exact Sy.fin_val fun e=>rfl)));(all_goals (try conv => whnf)))
          · have hlt : n < o.op.ins.length := by omega
            have hgn := List.getElem?_eq_getElem hlt
            have hk := hins _ (List.getElem_mem hlt)
            have hsr := insSum_succ (opsOf gl) o.op.ins n hlt
            generalize o.op.ins[n] = k at *
            refine Sy.el_map k hgn ?_
            ((repeat' ((conv => whnf);(first|refine zA ?_|(refine zI ?_ ?_<;> intro hh<;> first|(exfalso;omega)|skip)|(refine zl ?_ ?_<;> intro hh)|refine zq ?_|refine zv ?_|exact Sy.fin_val fun e=>rfl)));(all_goals (try conv => whnf)))
            obtain ⟨m, rfl⟩ : ∃ m : Nat, k = (m : Int) := ⟨k.toNat, by omega⟩
            have hsl := srcs_len (opsOf gl) m
            rw [Int.toNat_natCast] at hsr
            refine Sy.call_r1 ⟨3, 1, (srcs (opsOf gl) m).length, (srcs (opsOf gl) m).map encI⟩ (fun j => .c (.row j)) Tryz.call88 (fun e a w' h => sources_any (e.rv 0) gl m w' ⟨Sy.row_reads h (.inr rfl), fun o ho => Sy.later_in h (hr.2 o ho)⟩ hlen (by omega) (hg.mono (by omega))) ?_
            ((repeat' ((conv => whnf);(first|refine zA ?_|(refine zI ?_ ?_<;> intro hh<;> first|(exfalso;omega)|skip)|(refine zl ?_ ?_<;> intro hh)|refine zq ?_|refine zv ?_|exact Sy.fin_val fun e=>rfl)));(all_goals (try conv => whnf)))
            refine ⟨n + 1, by omega, by omega, ?_⟩
            rw [hsr, Int.natCast_add]
            ((repeat' (first|((conv => whnf);done)|((try conv => whnf);first|exact trivial|(refine And.intro ?_ ?_)|rfl|exact fun _ _ _ h=>h|exact fun _ _ _ _=>trivial)));(all_goals (try conv => whnf)))
          · have e : n = o.op.ins.length := by omega
            subst e
            rw [List.take_length] at *
            refine Sy.call_r1 ⟨3, 1, (srcs (opsOf gl) i).length, (srcs (opsOf gl) i).map encI⟩ (fun j => .c (.row j)) Tryz.call88 (fun e a w' h => sources_any (e.rv 0) gl i w' ⟨Sy.row_reads h (.inr rfl), fun o ho => Sy.later_in h (hr.2 o ho)⟩ hlen hi hg1) ?_
            ((repeat' ((conv => whnf);(first|refine zA ?_|(refine zI ?_ ?_<;> intro hh<;> first|(exfalso;omega)|skip)|(refine zl ?_ ?_<;> intro hh)|refine zq ?_|refine zv ?_|exact Sy.fin_val fun e=>rfl)));(all_goals (try conv => whnf)))
            · exact Sy.fin_val (fun e => by rw [w1 (by omega) (by omega), if_pos (by omega)]; rfl)
            · exact Sy.fin_val (fun e => by rw [w1 (by omega) (by omega), if_neg (by omega)]; rfl)
            · exact Sy.fin_val (fun e => by rw [wrongE, if_pos ha, if_neg h0, if_neg (by omega), if_pos ⟨ht, by omega⟩]; rfl)
      · exact Sy.fin_val (fun e => by rw [w1 (by omega) (by omega), if_pos (by omega)]; rfl)
      · exact Sy.fin_val (fun e => by rw [w1 (by omega) (by omega), if_neg (by omega)]; rfl)
    · ((repeat' ((conv => whnf);(first|refine zA ?_|(refine zI ?_ ?_<;> intro hh<;> first|(exfalso;omega)|skip)|(refine zl ?_ ?_<;> intro hh)|refine zq ?_|refine zv ?_|exact Sy.fin_val fun e=>rfl)));(all_goals (try conv => whnf)))
      exact Sy.fin_val (fun e => by rw [wrongE, if_pos ha, if_pos hsk]; rfl)
  · have hab : aloneB o.op i = false := decide_eq_false ha
    ((repeat' ((conv => whnf);(first|refine zA ?_|(refine zI ?_ ?_<;> intro hh<;> first|(exfalso;omega)|skip)|(refine zl ?_ ?_<;> intro hh)|refine zq ?_|refine zv ?_|exact Sy.fin_val fun e=>rfl)));(all_goals (try conv => whnf)))
    refine Sy.call_val (.c (.v (.bool false))) Tryz.call85 rfl (fun e a w' h => by have := alone_any o i w' (Sy.later_in h hoo); rw [hab] at this; exact this) ?_
    ((repeat' ((conv => whnf);(first|refine zA ?_|(refine zI ?_ ?_<;> intro hh<;> first|(exfalso;omega)|skip)|(refine zl ?_ ?_<;> intro hh)|refine zq ?_|refine zv ?_|exact Sy.fin_val fun e=>rfl)));(all_goals (try conv => whnf)))
    exact Sy.fin_val (fun e => by rw [wrongE, if_neg ha]; rfl)
def wideN (g : List Opr) (n : Nat) : Int := ((g.take n).map (·.width)).foldr (· + ·) 0
theorem foldr_add (l : List Int) (x : Int) : (l ++ [x]).foldr (· + ·) 0 = l.foldr (· + ·) 0 + x := by
  induction l with
  | nil => simp
  | cons y r ih => rw [List.cons_append, List.foldr_cons, List.foldr_cons, ih]; omega
theorem wideN_succ {g : List Opr} {n : Nat} {o : Opr} (h : g[n]? = some o) : wideN g (n + 1) = wideN g n + o.width := by
  obtain ⟨hn, he⟩ := List.getElem?_eq_some_iff.1 h
  unfold wideN
  rw [List.take_succ_eq_append_getElem hn, List.map_append, he]
  exact foldr_add _ _
theorem wideN_le {g : List Opr} : ∀ (n : Nat), goodTo g n → 0 ≤ wideN g n ∧ wideN g n ≤ 3 * n
  | 0, _ => by simp [wideN]
  | n + 1, h => by
    have ih := wideN_le n (h.mono (by omega))
    cases hg : g[n]? with
    | none =>
      have hl : g.length ≤ n := List.getElem?_eq_none_iff.1 hg
      have e : wideN g (n + 1) = wideN g n := by unfold wideN; rw [List.take_of_length_le (by omega), List.take_of_length_le hl]
      rw [e]; omega
    | some o =>
      have := h n o (by omega) hg
      rw [wideN_succ hg]
      obtain ⟨h1, h2, _⟩ := this
      omega
theorem dup_succ {g : List Opr} {n : Nat} {x : Opr} (h : g[n]? = some x) (a : Int) : dupB (g.take (n + 1)) a = (dupB (g.take n) a || (decide (x.tag = 1) && decide (x.a = a))) := by
  obtain ⟨hn, he⟩ := List.getElem?_eq_some_iff.1 h
  unfold dupB
  rw [List.take_succ_eq_append_getElem hn, he, List.any_append]
  simp
set_option maxHeartbeats 4000000 in
theorem rwrong_any (v : Value) (gl : List OpV) (i : Nat) (o : OpV) (w : World) (hr : GOk (fun b => b < w.heap.size) w v gl) (hlen : gl.length ≤ 1000) (hgi : gl[i]? = some o) (hg : goodTo (opsOf gl) i) :
    Calls Tryz.prog 90 #[.agg #[v], .int .i64 i] w (Sy.Ret (.int .i64 (wrongE (opsOf gl) i o.op (wideN (opsOf gl) (i + 1)))) w) := by
  have hi := (List.getElem?_eq_some_iff.1 hgi).1
  have hoo := hr.at hgi
  have hgo := opsOf_get hgi
  refine Sy.calls_of Sy.lv90 Sy.tab_ok Tryz.func90 rfl _ Tryz.ntmps90 [⟨v, 5, gl.length, gl.map encOV⟩] [.agg [.row 0], .c (.v (.int .i64 i))] rfl rfl rfl ⟨hr.1, trivial⟩ ?_
  ((repeat' ((conv => whnf);(first|refine zA ?_|(refine zI ?_ ?_<;> intro hh<;> first|(exfalso;omega)|skip)|(refine zl ?_ ?_<;> intro hh)|refine zq ?_|refine zv ?_|exact Sy.fin_val fun e=>rfl)));(all_goals (try conv => whnf)))
  refine Sy.el_map o hgi ?_
  ((repeat' ((conv => whnf);(first|refine zA ?_|(refine zI ?_ ?_<;> intro hh<;> first|(exfalso;omega)|skip)|(refine zl ?_ ?_<;> intro hh)|refine zq ?_|refine zv ?_|exact Sy.fin_val fun e=>rfl)));(all_goals (try conv => whnf)))
  by_cases ha : AloneP o.op i
  · have hab : aloneB o.op i = true := decide_eq_true ha
    have hg1 : goodTo (opsOf gl) (i + 1) := fun j p hj hp => by
      rcases Nat.lt_succ_iff_lt_or_eq.1 hj with hj | rfl
      · exact hg j p hj hp
      · rw [hgo] at hp; cases hp; exact ha
    have hins := alone_ins ha
    have hil : o.op.ins.length ≤ i := rises_len ha.2.2.1
    refine Sy.call_val (.c (.v (.bool true))) Tryz.call104 rfl (fun e a w' h => by have := ralone_any o i w' (Sy.later_in h hoo); rw [hab] at this; exact this) ?_
    ((repeat' ((conv => whnf);(first|refine zA ?_|(refine zI ?_ ?_<;> intro hh<;> first|(exfalso;omega)|skip)|(refine zl ?_ ?_<;> intro hh)|refine zq ?_|refine zv ?_|exact Sy.fin_val fun e=>rfl)));(all_goals (try conv => whnf)))
    refine open_x _ _ _ (hoo) (fun _ h => h) ?_
    ((repeat' ((conv => whnf);(first|refine zA ?_|(refine zI ?_ ?_<;> intro hh<;> first|(exfalso;omega)|skip)|(refine zl ?_ ?_<;> intro hh)|refine zq ?_|refine zv ?_|exact Sy.fin_val fun e=>rfl)));(all_goals (try conv => whnf)))
    refine Sy.loop_inv Sy.tab_ok (fun n : Nat => [(23, .c (.v (.int .i64 n)))]) (fun _ => []) (fun n => n ≤ o.op.ins.length ∧ sinkB (opsOf gl) o.op.ins = sinkB (opsOf gl) (o.op.ins.drop n)) (fun n => o.op.ins.length - n) 0 ⟨Nat.zero_le _, rfl⟩ ?_ (fun n hn => ?_)
    · ((repeat' (first|((conv => whnf);done)|((try conv => whnf);first|exact trivial|(refine And.intro ?_ ?_)|rfl|exact fun _ _ _ h=>h|exact fun _ _ _ _=>trivial)));(all_goals (try conv => whnf)))
    · obtain ⟨hn, hs⟩ := hn
      ((repeat' ((conv => whnf);(first|refine zA ?_|(refine zI ?_ ?_<;> intro hh<;> first|(exfalso;omega)|skip)|(refine zl ?_ ?_<;> intro hh)|exact Sy.fin_val fun e=>rfl)));(all_goals (try conv => whnf)))
      · have hlt : n < o.op.ins.length := by omega
        have hgn := List.getElem?_eq_getElem hlt
        have hk := hins _ (List.getElem_mem hlt)
        have hd := sink_drop (opsOf gl) o.op.ins n hlt
        generalize o.op.ins[n] = k at *
        refine Sy.el_map k hgn ?_
        obtain ⟨m, rfl⟩ : ∃ m : Nat, k = (m : Int) := ⟨k.toNat, by omega⟩
        rw [Int.toNat_natCast] at hd
        have hgm := List.getElem?_eq_getElem (show m < gl.length by omega)
        rw [tagAt_get hgm] at hd
        generalize gl[m]'(by omega) = x at *
        ((repeat' ((conv => whnf);(first|refine zA ?_|(refine zI ?_ ?_<;> intro hh<;> first|(exfalso;omega)|skip)|(refine zl ?_ ?_<;> intro hh)|refine zq ?_|refine zv ?_|exact Sy.fin_val fun e=>rfl)));(all_goals (try conv => whnf)))
        refine Sy.el_map x hgm ?_
        ((repeat' ((conv => whnf);(first|refine zA ?_|(refine zI ?_ ?_<;> intro hh<;> first|(exfalso;omega)|skip)|(refine zl ?_ ?_<;> intro hh)|refine zq ?_|refine zv ?_|exact Sy.fin_val fun e=>rfl)));(all_goals (try conv => whnf)))
        · rw [decide_eq_true (by assumption), Bool.true_or] at hd
          exact Sy.fin_val (fun e => by rw [wrongE, if_pos ha, if_pos (by rw [hs, hd])]; rfl)
        · rw [decide_eq_false (by assumption), Bool.false_or] at hd
          refine ⟨n + 1, ⟨by omega, by rw [hs, hd]⟩, by omega, ?_⟩
          ((repeat' (first|((conv => whnf);done)|((try conv => whnf);first|exact trivial|(refine And.intro ?_ ?_)|rfl|exact fun _ _ _ h=>h|exact fun _ _ _ _=>trivial)));(all_goals (try conv => whnf)))
      · have e : n = o.op.ins.length := by omega
        subst e
        rw [List.drop_length] at hs
        have h0 : sinkB (opsOf gl) o.op.ins ≠ true := by rw [hs]; unfold sinkB; simp
        have hle := fun h => srcs_le hg1 hgo h
        have hsm := insSum_le (opsOf gl) o.op.ins
        have hwl := wideN_le (i + 1) hg1
        refine Sy.sli_eq 0 (i + 1) rfl (by omega) ⟨by omega, by omega⟩ ?_
        ((repeat' ((conv => whnf);(first|refine zA ?_|(refine zI ?_ ?_<;> intro hh<;> first|(exfalso;omega)|skip)|(refine zl ?_ ?_<;> intro hh)|refine zq ?_|refine zv ?_|exact Sy.fin_val fun e=>rfl)));(all_goals (try conv => whnf)))
        refine Sy.loop_inv Sy.tab_ok (fun n : Nat => [(41, .c (.v (.int .i64 n))), (8, .c (.v (.int .i64 (wideN (opsOf gl) n))))]) (fun _ => []) (fun n => n ≤ i + 1 ∧ ∀ m, m ≤ n → m ≤ i → o.op.tag = 1 → dupB ((opsOf gl).take m) o.op.a = false) (fun n => i + 1 - n) 0 ⟨Nat.zero_le _, fun m hm _ _ => by rw [show m = 0 by omega]; unfold dupB; simp⟩ ?_ (fun n hn => ?_)
        · rw [show wideN (opsOf gl) 0 = 0 by simp [wideN]]
          ((repeat' (first|((conv => whnf);done)|((try conv => whnf);first|exact trivial|(refine And.intro ?_ ?_)|rfl|exact fun _ _ _ h=>h|exact fun _ _ _ _=>trivial)));(all_goals (try conv => whnf)))
        · obtain ⟨hn, hdp⟩ := hn
          have hwn := wideN_le n (hg1.mono hn)
          ((repeat' ((conv => whnf);(first|refine zA ?_|(refine zI ?_ ?_<;> intro hh<;> first|(exfalso;omega)|skip)|(refine zl ?_ ?_<;> intro hh)|exact Sy.fin_val fun e=>rfl)));(all_goals (try conv => whnf)))
          · have hlt2 : n < i + 1 := by omega
            have hgx := List.getElem?_eq_getElem (show n < gl.length by omega)
            generalize gl[n]'(by omega) = x at *
            have hox := opsOf_get hgx
            have hax := hg1 n x.op (by omega) hox
            have hw1 := wideN_succ hox
            have hds := dup_succ hox o.op.a
            obtain ⟨hx1, hx2, _⟩ := hax
            refine Sy.el_of (encOV x) (by rw [List.drop_zero, List.getElem?_take_of_lt (by omega), List.getElem?_map, hgx]; rfl) ?_
            ((repeat' ((conv => whnf);(first|refine zA ?_|(refine zI ?_ ?_<;> intro hh<;> first|(exfalso;omega)|skip)|(refine zl ?_ ?_<;> intro hh)|refine zq ?_|refine zv ?_|refine zu ?_|exact Sy.fin_val fun e=>rfl)));(all_goals (try conv => whnf)))
            all_goals first
              | (have e1 : o.op.tag = 1 := by assumption
                 have e2 : x.op.tag = 1 := by assumption
                 have e3 : x.op.a = o.op.a := by assumption
                 have e4 : n < i := by omega
                 have : dupB ((opsOf gl).take i) o.op.a = true := by
                   unfold dupB
                   rw [List.any_eq_true]
                   refine ⟨x.op, List.mem_of_getElem? (i := n) (by rw [List.getElem?_take_of_lt e4]; exact hox), by simp [e2, e3]⟩
                 exact Sy.fin_val (fun e => by rw [wrongE, if_pos ha, if_neg h0, if_pos ⟨e1, this⟩]; rfl))
              | (refine ⟨n + 1, ⟨by omega, fun m hm hmi h1 => ?_⟩, by omega, ?_⟩
                 · by_cases he : m = n + 1
                   · rw [he, hds, hdp n (Nat.le_refl _) (by omega) h1, Bool.false_or, Bool.and_eq_false_iff, decide_eq_false_iff_not, decide_eq_false_iff_not]
                     omega
                   · exact hdp m (by omega) hmi h1
                 · rw [hw1]
                   ((repeat' (first|((conv => whnf);done)|((try conv => whnf);first|exact trivial|(refine And.intro ?_ ?_)|rfl|exact fun _ _ _ h=>h|exact fun _ _ _ _=>trivial)));(all_goals (try conv => whnf))); done)
          · have e : n = i + 1 := by omega
            subst e
            have hdi := hdp i (by omega) (Nat.le_refl _)
            have h1 : ¬ (o.op.tag = 1 ∧ dupB ((opsOf gl).take i) o.op.a = true) := fun h => by rw [hdi h.1] at h; exact absurd h.2 (by decide)
            by_cases ht : o.op.tag = 6
            · have hle := hle (by omega)
              ((repeat' ((conv => whnf);(first|refine zA ?_|(refine zI ?_ ?_<;> intro hh<;> first|(exfalso;omega)|skip)|(refine zl ?_ ?_<;> intro hh)|refine zq ?_|refine zv ?_|refine zu ?_|exact Sy.fin_val fun e=>rfl)));(all_goals (try conv => whnf)))
              refine Sy.call_val (.c (.v (.bool (decide ((srcs (opsOf gl) i).length < insSum (opsOf gl) o.op.ins))))) Tryz.call105 rfl (fun e a w' h => meets_any (e.rv 0) gl i o w' ⟨Sy.row_reads h (.inr rfl), fun o ho => Sy.later_in h (hr.2 o ho)⟩ hlen hgi hg1) ?_
              ((repeat' ((conv => whnf);(first|refine zA ?_|(refine zI ?_ ?_<;> intro hh<;> first|(exfalso;omega)|skip)|(refine zl ?_ ?_<;> intro hh)|refine zq ?_|refine zv ?_|refine zu ?_|exact Sy.fin_val fun e=>rfl)));(all_goals (try conv => whnf)))
              all_goals first
                | exact Sy.fin_val (fun e => by rw [wrongE, if_pos ha, if_neg h0, if_neg h1, if_pos ⟨ht, by omega⟩]; rfl)
                | exact Sy.fin_val (fun e => by rw [wrongE, if_pos ha, if_neg h0, if_neg h1, if_neg (by omega), if_pos (by omega)]; rfl)
                | exact Sy.fin_val (fun e => by rw [wrongE, if_pos ha, if_neg h0, if_neg h1, if_neg (by omega), if_neg (by omega)]; rfl)
            · ((repeat' ((conv => whnf);(first|refine zA ?_|(refine zI ?_ ?_<;> intro hh<;> first|(exfalso;omega)|skip)|(refine zl ?_ ?_<;> intro hh)|refine zq ?_|refine zv ?_|refine zu ?_|exact Sy.fin_val fun e=>rfl)));(all_goals (try conv => whnf)))
              all_goals first
                | exact Sy.fin_val (fun e => by rw [wrongE, if_pos ha, if_neg h0, if_neg h1, if_neg (by omega), if_pos (by omega)]; rfl)
                | exact Sy.fin_val (fun e => by rw [wrongE, if_pos ha, if_neg h0, if_neg h1, if_neg (by omega), if_neg (by omega)]; rfl)
  · have hab : aloneB o.op i = false := decide_eq_false ha
    refine Sy.call_val (.c (.v (.bool false))) Tryz.call104 rfl (fun e a w' h => by have := ralone_any o i w' (Sy.later_in h hoo); rw [hab] at this; exact this) ?_
    ((repeat' ((conv => whnf);(first|refine zA ?_|(refine zI ?_ ?_<;> intro hh<;> first|(exfalso;omega)|skip)|(refine zl ?_ ?_<;> intro hh)|refine zq ?_|refine zv ?_|exact Sy.fin_val fun e=>rfl)));(all_goals (try conv => whnf)))
    exact Sy.fin_val (fun e => by rw [wrongE, if_neg ha]; rfl)
end Go.Proofs.YtmahldelmbhjfaaGreat
