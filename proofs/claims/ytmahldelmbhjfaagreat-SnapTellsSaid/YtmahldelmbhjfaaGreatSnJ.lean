/- Snap: a row comes into a table. -/
import Derived.Test.YtmahldelmbhjfaaGreatSnI
namespace Go.Proofs.YtmahldelmbhjfaaGreat.Sn
open Go Go.RowKit
open Sy (C SV V1 Blk St XD Els)
set_option maxRecDepth 10000

/-- A table with one more row. -/
def insO (l : List Kc) (x : Kc) : List Kc := l.filter (fun y => decide (kn y < kn x)) ++ x :: l.filter (fun y => decide (kn x < kn y))
theorem insO_mem {l : List Kc} {x y : Kc} (h : ∀ p ∈ l, kn p ≠ kn x) : y ∈ insO l x ↔ y = x ∨ y ∈ l := by
  unfold insO
  simp only [List.mem_append, List.mem_cons, List.mem_filter, decide_eq_true_eq]
  constructor
  · rintro (⟨h1, _⟩ | h1 | ⟨h1, _⟩)
    · exact .inr h1
    · exact .inl h1
    · exact .inr h1
  · rintro (h1 | h1)
    · exact .inr (.inl h1)
    · have := h y h1
      rcases Int.lt_trichotomy (kn y) (kn x) with h2 | h2 | h2
      · exact .inl ⟨h1, h2⟩
      · exact absurd h2 this
      · exact .inr (.inr ⟨h1, h2⟩)
theorem insO_ok {l : List Kc} {x : Kc} (hl : RowsOk l) (hx : recP x.src x.key ∧ 1 ≤ x.cnt) (h : ∀ p ∈ l, kn p ≠ kn x) : RowsOk (insO l x) := by
  refine ⟨fun y hy => ?_, ?_⟩
  · rcases (insO_mem h).1 hy with rfl | hy
    · exact hx
    · exact hl.1 y hy
  · unfold insO
    refine List.pairwise_append.2 ⟨hl.2.filter _, List.pairwise_cons.2 ⟨fun y hy => ?_, hl.2.filter _⟩, fun y hy z hz => ?_⟩
    · exact of_decide_eq_true (List.mem_filter.1 hy).2
    · have h1 := of_decide_eq_true (List.mem_filter.1 hy).2
      rcases List.mem_cons.1 hz with rfl | hz
      · exact h1
      · have h2 := of_decide_eq_true (List.mem_filter.1 hz).2
        omega
theorem insK_eq {l : List Kc} {x : Kc} {i : Nat} (h : srchK l (kn x) (i, false)) : insK l i x = insO l x := by
  obtain ⟨_, _, h1, h2, h3⟩ := h
  dsimp only at h1 h2 h3
  have h3 := h3 rfl
  have ht : ∀ y ∈ l.take i, kn y < kn x := fun y hy => by
    obtain ⟨j, hj⟩ := List.mem_iff_getElem?.1 hy
    have hji : j < i := by
      have := (List.getElem?_eq_some_iff.1 hj).1
      rw [List.length_take] at this; omega
    rw [List.getElem?_take_of_lt hji] at hj
    exact h1 j y hji hj
  have hd : ∀ y ∈ l.drop i, kn x < kn y := fun y hy => by
    obtain ⟨j, hj⟩ := List.mem_iff_getElem?.1 hy
    rw [List.getElem?_drop] at hj
    have := h2 (i + j) y (by omega) hj
    have := h3 y (List.mem_of_getElem? hj)
    omega
  unfold insK insO
  have e1 : l.filter (fun y => decide (kn y < kn x)) = l.take i := by
    conv => lhs; rw [← List.take_append_drop i l]
    rw [List.filter_append, List.filter_eq_self.2 fun y hy => decide_eq_true (ht y hy), List.filter_eq_nil_iff.2 fun y hy => by have := hd y hy; simp; omega, List.append_nil]
  have e2 : l.filter (fun y => decide (kn x < kn y)) = l.drop i := by
    conv => lhs; rw [← List.take_append_drop i l]
    rw [List.filter_append, List.filter_eq_nil_iff.2 fun y hy => by have := ht y hy; simp; omega, List.filter_eq_self.2 fun y hy => decide_eq_true (hd y hy), List.nil_append]
  rw [e1, e2]
theorem ascK_bound : ∀ {l : List Kc} {a b : Int}, ascK l → (∀ p ∈ l, a ≤ kn p ∧ kn p ≤ b) → a ≤ b + 1 → (l.length : Int) ≤ b - a + 1
  | [], a, b, _, _, h => by simp; omega
  | p :: r, a, b, ha, hb, _ => by
    have h1 := hb p List.mem_cons_self
    have h2 := ascK_bound (l := r) (a := kn p + 1) (b := b) (List.pairwise_cons.1 ha).2 (fun q hq => ⟨by have := (List.pairwise_cons.1 ha).1 q hq; omega, (hb q (List.mem_cons_of_mem _ hq)).2⟩) (by omega)
    rw [List.length_cons]; omega
theorem rows_len {l : List Kc} (h : RowsOk l) : l.length ≤ 256 := by
  have := ascK_bound (a := 0) (b := 255) h.2 (fun p hp => by
    have := (h.1 p hp).1
    unfold recP at this
    unfold kn; omega) (by omega)
  omega
theorem cloneK_any (v : Value) (l : List Kc) (w : World) (hr : XD.ok (fun b => b < w.heap.size) w ⟨v, 4, l.length, l.map encK⟩) (hb : l.length ≤ 1000000) :
    Calls Tryz.prog 92 #[v] w (Sy.RetRows Sy.noRow (fun _ : Unit => True) (fun _ => [⟨46, 4, l.length, l.map encK⟩]) (fun _ vs => vs.headD undef) w) := by
  refine Sy.calls_of Sy.lv92 Sy.tab_ok Tryz.func92 rfl _ Tryz.ntmps92 [⟨v, 4, l.length, l.map encK⟩] [.c (.row 0)] rfl rfl rfl ⟨hr, trivial⟩ ?_
  ((repeat' ((conv => whnf);(first|refine zA ?_|(refine zI ?_ ?_<;> intro hh<;> first|(exfalso;omega)|skip)|(refine zl ?_ ?_<;> intro hh)|refine zq ?_|refine zv ?_|refine zu ?_|exact Sy.fin_val fun e=>rfl)));(all_goals (try conv => whnf)))
  refine Sy.nil_of (fun h0 => ?_) ?_
  · ((repeat' ((conv => whnf);(first|refine zA ?_|(refine zI ?_ ?_<;> intro hh<;> first|(exfalso;omega)|skip)|(refine zl ?_ ?_<;> intro hh)|refine zq ?_|refine zv ?_|refine zu ?_|exact Sy.fin_val fun e=>rfl)));(all_goals (try conv => whnf)))
    exact Sy.fin_r1 (.v (.slice none 0 0)) ⟨h0, by rw [List.length_eq_zero_iff] at h0; rw [h0]; rfl⟩
  · ((repeat' ((conv => whnf);(first|refine zA ?_|(refine zI ?_ ?_<;> intro hh<;> first|(exfalso;omega)|skip)|(refine zl ?_ ?_<;> intro hh)|refine zq ?_|refine zv ?_|refine zu ?_|exact Sy.fin_val fun e=>rfl)));(all_goals (try conv => whnf)))
    refine Sy.need_of (by show (0 + l.length) * 32 ≤ _ ∧ _; omega) ?_
    ((repeat' ((conv => whnf);(first|refine zA ?_|(refine zI ?_ ?_<;> intro hh<;> first|(exfalso;omega)|skip)|(refine zl ?_ ?_<;> intro hh)|refine zq ?_|refine zv ?_|refine zu ?_|exact Sy.fin_val fun e=>rfl)));(all_goals (try conv => whnf)))
    refine Sy.fin_r1 (.row 2) ?_
    show some (Blk.row 46 4 (0 + l.length) (.vs (l.map encK))) = _
    rw [Nat.zero_add]
/-- A pointer to a table, and the table's rows. -/
def tblH (k : Nat) (l : List Kc) : List (Nat × Blk) := [(0, .cells 30 [.row k]), (k, .row 46 4 l.length (.vs (l.map encK)))]
def setC (l : List Kc) (x : Kc) : Sy.Ctr Unit := { avs := [.c (.loc 0 0), .agg [.v (.int .i64 x.src), .v (.int .i64 x.key), .v (.int .i64 0)], .agg [.v (.int .i64 x.cnt), .v (.int .i64 x.sum)]], n0 := 2, H0 := tblH 1 l, sv := fun _ => .tup [], n1 := fun _ => 3, H1 := fun _ => tblH 2 (insO l x) }
set_option maxHeartbeats 2000000 in
theorem set_does (l : List Kc) (x : Kc) (hl : RowsOk l) (hx : recP x.src x.key ∧ 1 ≤ x.cnt) (hno : ∀ p ∈ l, kn p ≠ kn x) : Sy.Does Tryz.prog 72 (setC l x) := by
  have hlen := rows_len hl
  have hc0 : x.cnt ≠ 0 := by omega
  refine Sy.does_of Sy.lv72 Sy.tab_ok Tryz.func72 rfl _ Tryz.ntmps72 _ rfl rfl (fun e0 w hpre => ?_)
  ((repeat' ((conv => whnf);(first|refine zA ?_|(refine zI ?_ ?_<;> intro hh<;> first|(exfalso;omega)|skip)|(refine zl ?_ ?_<;> intro hh)|refine zq ?_|refine zv ?_|refine zu ?_|exact Sy.fin_val fun e=>rfl)));(all_goals (try conv => whnf)))
  refine Sy.draw_go [] (by kernel_rfl) ?_
  intro e0
  conv => whnf
  refine zt 0 rfl ?_
  conv => whnf
  refine zt 1 rfl ?_
  conv => whnf
  refine zt 2 rfl ?_
  conv => whnf
  refine zt 3 rfl ?_
  conv => whnf
  refine zt 4 rfl ?_
  conv => whnf
  refine zd1 [5] (zx rfl ?_ zy)
  conv => whnf
  refine Sy.call_ex (srchK l (kn x)) (fun r => .tup [.c (.v (.int .i64 r.1)), .c (.v (.bool r.2))]) Tryz.call71 (fun _ _ => rfl) (fun e a w' h => at_any (e.rv 1) l x.src x.key 0 w' (Sy.row_reads h (.inl ⟨_, rfl⟩)) hl hx.1 (by omega)) (fun r hr => ?_)
  obtain ⟨i, there⟩ := r
  have hth : there = false := by
    cases there with
    | false => rfl
    | true => exact absurd (hr.2.1 rfl) (fun ⟨p, hp, he⟩ => hno p (List.mem_of_getElem? hp) he)
  subst hth
  dsimp only
  conv => whnf
  refine ⟨(by repeat' ((conv => whnf);first|exact trivial|(refine And.intro ?_ ?_)|rfl)), ?_⟩
  refine zt 6 rfl ?_
  conv => whnf
  refine zt 7 rfl ?_
  conv => whnf
  refine zt 8 rfl ?_
  conv => whnf
  refine zt 9 rfl ?_
  conv => whnf
  refine zt 10 rfl ?_
  conv => whnf
  refine zw ?_
  skip
  ((repeat' ((conv => whnf);(first|refine zA ?_|(refine zI ?_ ?_<;> intro hh<;> first|(exfalso;omega)|skip)|(refine zl ?_ ?_<;> intro hh)|refine zq ?_|refine zv ?_|refine zu ?_|exact Sy.fin_val fun e=>rfl)));(all_goals (try conv => whnf)))
  have hins := insK_eq hr
  have hil : i ≤ l.length := hr.1
  have hkl := insK_len x hil
  refine Sy.draw_go [0,1] (by kernel_rfl) ?_
  intro e0
  conv => whnf
  refine zt 0 rfl ?_
  conv => whnf
  refine zt 1 rfl ?_
  conv => whnf
  refine zt 2 rfl ?_
  conv => whnf
  refine zt 3 rfl ?_
  conv => whnf
  refine zt 5 rfl ?_
  conv => whnf
  refine zt 6 rfl ?_
  conv => whnf
  refine zt 7 rfl ?_
  conv => whnf
  refine zt 8 rfl ?_
  conv => whnf
  refine zt 9 rfl ?_
  conv => whnf
  refine zt 10 rfl ?_
  conv => whnf
  refine zt 11 rfl ?_
  conv => whnf
  focus
    refine zd1 [4, 12] (zx rfl ?_ (zx rfl ?_ zy))
    focus
      conv => whnf
      refine ⟨(by repeat' ((conv => whnf);first|exact trivial|(refine And.intro ?_ ?_)|rfl)), ?_⟩
      refine zd1 [12] (zx rfl ?_ zy)
      conv => whnf
      refine ⟨(by repeat' ((conv => whnf);first|exact trivial|(refine And.intro ?_ ?_)|rfl)), ?_⟩
      refine zd1 [13] (zx rfl ?_ zy)
      conv => whnf
      refine Sy.call_k1 1 ⟨46, 4, l.length + 1, (insK l i x).map encK⟩ (fun j => .c (.row j)) Tryz.call96 (fun e a w' h => insertK_any (e.rv 1) (e.rv 4) l i x w' (h.hp 1 _ rfl).1 (h.hp 4 _ rfl).1 (fun b h1 h2 => h.sep 4 1 _ _ b rfl rfl (by decide) h1 h2) hil (by omega)) ?_ (hj := ⟨_, _, _, _, rfl⟩)
      conv => whnf
      refine ⟨(by repeat' ((conv => whnf);first|exact trivial|(refine And.intro ?_ ?_)|rfl)), ?_⟩
      refine zt 14 rfl ?_
      conv => whnf
      refine zt 15 rfl ?_
      conv => whnf
      refine zd1 [16] (zx rfl ?_ zy)
      conv => whnf
      refine ⟨(by repeat' ((conv => whnf);first|exact trivial|(refine And.intro ?_ ?_)|rfl)), ?_⟩
      refine zw ?_
      skip
    rotate_right
    focus
      conv => whnf
      refine ⟨(by repeat' ((conv => whnf);first|exact trivial|(refine And.intro ?_ ?_)|rfl)), ?_⟩
      refine zd1 [4] (zx rfl ?_ zy)
      conv => whnf
      refine ⟨(by repeat' ((conv => whnf);first|exact trivial|(refine And.intro ?_ ?_)|rfl)), ?_⟩
      refine zd1 [13] (zx rfl ?_ zy)
      conv => whnf
      refine Sy.call_k1 1 ⟨46, 4, l.length + 1, (insK l i x).map encK⟩ (fun j => .c (.row j)) Tryz.call96 (fun e a w' h => insertK_any (e.rv 1) (e.rv 4) l i x w' (h.hp 1 _ rfl).1 (h.hp 4 _ rfl).1 (fun b h1 h2 => h.sep 4 1 _ _ b rfl rfl (by decide) h1 h2) hil (by omega)) ?_ (hj := ⟨_, _, _, _, rfl⟩)
      conv => whnf
      refine ⟨(by repeat' ((conv => whnf);first|exact trivial|(refine And.intro ?_ ?_)|rfl)), ?_⟩
      refine zt 14 rfl ?_
      conv => whnf
      refine zt 15 rfl ?_
      conv => whnf
      refine zd1 [16] (zx rfl ?_ zy)
      conv => whnf
      refine ⟨(by repeat' ((conv => whnf);first|exact trivial|(refine And.intro ?_ ?_)|rfl)), ?_⟩
      refine zw ?_
      skip
  all_goals (((repeat' ((conv => whnf);(first|refine zA ?_|(refine zI ?_ ?_<;> intro hh<;> first|(exfalso;omega)|skip)|(refine zl ?_ ?_<;> intro hh)|refine zq ?_|refine zv ?_|refine zu ?_|exact Sy.fin_val fun e=>rfl)));(all_goals (try conv => whnf))))
  all_goals (refine Sy.fin_own () trivial ?_)
  all_goals (((conv => whnf);(refine And.intro ?_ (And.intro ?_ (And.intro ?_ ?_)));(all_goals ((repeat' (first|((conv => whnf);done)|((try conv => whnf);first|exact trivial|(refine And.intro ?_ ?_)|rfl|exact fun _ _ _ h=>h|exact fun _ _ _ _=>trivial)));(all_goals (try conv => whnf))))))
  all_goals first | (rw [← hins, hkl]; done) | (rw [hins]; done) | (rw [← hins]; done)
end Go.Proofs.YtmahldelmbhjfaaGreat.Sn
