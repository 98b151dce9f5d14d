/- Region: the document's Same; two; wakes. -/
import Derived.Test.YthmcknchkecciaaRG
namespace Go.Proofs.Ythmcknchkecciaa
open Go Go.RowKit
open Sy (C SV V1 Blk St XD Els)
set_option maxRecDepth 10000

theorem same10_any (u v : Value) (xs ys : List Int) (w : World) (hx : XD.ok (fun b => b < w.heap.size) w ⟨u, 1, xs.length, xs.map encI⟩) (hy : XD.ok (fun b => b < w.heap.size) w ⟨v, 1, ys.length, ys.map encI⟩) :
    Calls Try.prog 16 #[u, v] w (Sy.Ret (.bool (decide (xs = ys))) w) := by
  have hl := ok_len hx
  have hl' := ok_len hy
  refine Sy.calls_of Sy.lv16 Sy.tab_ok Try.func16 rfl _ Try.ntmps16 [⟨u, 1, xs.length, xs.map encI⟩, ⟨v, 1, ys.length, ys.map encI⟩] [.c (.row 0), .c (.row 1)] rfl rfl rfl ⟨hx, hy, trivial⟩ ?_
  by_cases hlen : xs.length = ys.length
  · ((repeat' ((conv => whnf);(first|refine zA ?_|(refine zI ?_ ?_<;> intro hh<;> first|(exfalso;omega)|skip)|(refine zl ?_ ?_<;> intro hh)|refine zq ?_|refine zv ?_|refine zu ?_|exact Sy.fin_val fun e=>rfl)));(all_goals (try conv => whnf)))
    · refine Sy.loop_inv Sy.tab_ok (fun n : Nat => [(13, .c (.v (.int .i64 n)))]) (fun _ => []) (fun n => n ≤ xs.length ∧ ∀ i, i < n → xs[i]? = ys[i]?) (fun n => xs.length - n) 0 ⟨Nat.zero_le _, fun i hi => by omega⟩ ?_ (fun n hle => ?_)
      · ((repeat' (first|((conv => whnf);done)|((try conv => whnf);first|exact trivial|(refine And.intro ?_ ?_)|rfl|exact fun _ _ _ h=>h|exact fun _ _ _ _=>trivial)));(all_goals (try conv => whnf)))
      · obtain ⟨hle, hpre⟩ := hle
        ((repeat' ((conv => whnf);(first|refine zA ?_|(refine zI ?_ ?_<;> intro hh<;> first|(exfalso;omega)|skip)|(refine zl ?_ ?_<;> intro hh)|refine zq ?_|refine zv ?_|refine zu ?_|exact Sy.fin_val fun e=>rfl)));(all_goals (try conv => whnf)))
        · have hlt : n < xs.length := by omega
          have h1 := List.getElem?_eq_getElem hlt
          have h2 := List.getElem?_eq_getElem (show n < ys.length by omega)
          generalize xs[n] = x at *
          generalize ys[n]'(by omega) = y at *
          all_goals (refine Sy.draw_go [] (by kernel_rfl) ?_; intro e0; conv => whnf)
          all_goals (refine zt 0 rfl ?_)
          all_goals (conv => whnf)
          all_goals (refine zt 1 rfl ?_)
          all_goals (conv => whnf)
          all_goals (refine zt 2 rfl ?_)
          all_goals ((conv => whnf);(repeat' ((first|refine zA ?_|(refine zI ?_ ?_<;> intro hh<;> first|(exfalso;omega)|skip)|(refine zl ?_ ?_<;> intro hh)|refine zq ?_|refine zv ?_|refine zu ?_|exact Sy.fin_val fun e=>rfl);(try conv => whnf))))
          all_goals (refine zt 3 rfl ?_)
          all_goals (conv => whnf)
          all_goals (refine Sy.el_map x h1 ?_)
          all_goals (conv => whnf)
          all_goals (refine zt 4 rfl ?_)
          all_goals (conv => whnf)
          all_goals (refine zt 5 rfl ?_)
          all_goals (conv => whnf)
          all_goals (refine zt 6 rfl ?_)
          all_goals ((conv => whnf);(repeat' ((first|refine zA ?_|(refine zI ?_ ?_<;> intro hh<;> first|(exfalso;omega)|skip)|(refine zl ?_ ?_<;> intro hh)|refine zq ?_|refine zv ?_|refine zu ?_|exact Sy.fin_val fun e=>rfl);(try conv => whnf))))
          all_goals (refine zt 7 rfl ?_)
          all_goals (conv => whnf)
          all_goals (refine Sy.el_map y h2 ?_)
          all_goals (conv => whnf)
          all_goals (refine zt 8 rfl ?_)
          all_goals ((conv => whnf);(repeat' ((first|refine zA ?_|(refine zI ?_ ?_<;> intro hh<;> first|(exfalso;omega)|skip)|(refine zl ?_ ?_<;> intro hh)|refine zq ?_|refine zv ?_|refine zu ?_|exact Sy.fin_val fun e=>rfl);(try conv => whnf))))
          all_goals (refine zw ?_)
          all_goals (((repeat' ((conv => whnf);(first|refine zA ?_|(refine zI ?_ ?_<;> intro hh<;> first|(exfalso;omega)|skip)|(refine zl ?_ ?_<;> intro hh)|refine zq ?_|refine zv ?_|refine zu ?_|exact Sy.fin_val fun e=>rfl)));(all_goals (try conv => whnf))))
          all_goals first
            | exact Sy.fin_val (fun e => congrArg Value.bool (decide_eq_false (lst_ne n h1 h2 (by assumption))).symm)
            | (refine ⟨n + 1, ⟨by omega, pre_succ h1 h2 (by assumption) hpre⟩, by omega, ?_⟩; ((repeat' (first|((conv => whnf);done)|((try conv => whnf);first|exact trivial|(refine And.intro ?_ ?_)|rfl|exact fun _ _ _ h=>h|exact fun _ _ _ _=>trivial)));(all_goals (try conv => whnf))))
        · exact Sy.fin_val (fun e => congrArg Value.bool (decide_eq_true (lst_eq n (by omega) (by omega) hpre)).symm)
  · ((repeat' ((conv => whnf);(first|refine zA ?_|(refine zI ?_ ?_<;> intro hh<;> first|(exfalso;omega)|skip)|(refine zl ?_ ?_<;> intro hh)|refine zq ?_|refine zv ?_|refine zu ?_|exact Sy.fin_val fun e=>rfl)));(all_goals (try conv => whnf)))
    · exact Sy.fin_val (fun e => congrArg Value.bool (decide_eq_false (fun h => hlen (by rw [h]))).symm)
def twoM : List Opr := [⟨1, 1, [], 0, 0⟩, ⟨1, 2, [], 1, 0⟩, ⟨7, 1, [0], 0, 0⟩, ⟨7, 2, [1], 0, 0⟩]
def twoC : Sy.Ctr (Value × List OpV) := { avs := [], n0 := 0, H0 := [], p := fun x => opsOf x.2 = twoM ∧ (∀ o ∈ x.2, o.iv.oneCell' = true) ∧ x.1.oneCell' = true, sv := fun x => .agg [.v x.1], n1 := fun _ => 0, H1 := fun _ => [], learn := true, q := fun x G w => GOk G w x.1 x.2 }
theorem two_does : Sy.Does Try.prog 36 twoC := by
  refine Sy.does_of Sy.lv36 Sy.tab_ok Try.func36 rfl _ Try.ntmps36 _ rfl rfl (fun e0 w hpre => ?_)
  ((repeat' ((conv => whnf);(first|refine zA ?_|(refine zI ?_ ?_<;> intro hh<;> first|(exfalso;omega)|skip)|(refine zl ?_ ?_<;> intro hh)|refine zq ?_|refine zv ?_|refine zu ?_|exact Sy.fin_val fun e=>rfl)));(all_goals (try conv => whnf)))
  refine Sy.fin_of fun e a w' h => ?_
  have h1 := (h.hp 1 _ rfl).1
  have h2 := (h.hp 2 _ rfl).1
  have h3 := (h.hp 3 _ rfl).1
  have n1 : ∀ b, Sy.rfoot (e.rv 1) b → w.heap.size ≤ b ∧ b < w'.heap.size := fun b hb => ⟨h.foot_new (k := 1) rfl hb (fun ⟨j, c, hj, _⟩ => by cases hj), h.foot_lt (k := 1) rfl hb⟩
  have n2 : ∀ b, Sy.rfoot (e.rv 2) b → w.heap.size ≤ b ∧ b < w'.heap.size := fun b hb => ⟨h.foot_new (k := 2) rfl hb (fun ⟨j, c, hj, _⟩ => by cases hj), h.foot_lt (k := 2) rfl hb⟩
  have n3 : ∀ b, Sy.rfoot (e.rv 3) b → w.heap.size ≤ b ∧ b < w'.heap.size := fun b hb => ⟨h.foot_new (k := 3) rfl hb (fun ⟨j, c, hj, _⟩ => by cases hj), h.foot_lt (k := 3) rfl hb⟩
  refine ⟨(e.rv 3, [⟨⟨1, 1, [], 0, 0⟩, .slice none 0 0⟩, ⟨⟨1, 2, [], 1, 0⟩, .slice none 0 0⟩, ⟨⟨7, 1, [0], 0, 0⟩, e.rv 1⟩, ⟨⟨7, 2, [1], 0, 0⟩, e.rv 2⟩]), e, fun b => Sy.rfoot (e.rv 3) b ∨ Sy.rfoot (e.rv 1) b ∨ Sy.rfoot (e.rv 2) b, ⟨rfl, fun o ho => ?_, h.one 3⟩, rfl, fun k hk => absurd hk (Nat.not_lt_zero _), h.bel,
    ⟨fun X k b hk => (by cases hk), fun k b hk => (by cases hk), fun k k' b b' x hk => (by cases hk), h.one⟩, fun k b hk => (by cases hk), fun y ⟨k, b, hk, _⟩ => (by cases hk), ?_, Nat.le_refl _, fun b hb => ?_, ?_⟩
  · simp only [List.mem_cons, List.mem_nil_iff, or_false] at ho
    rcases ho with rfl | rfl | rfl | rfl
    · rfl
    · rfl
    · exact h.one 1
    · exact h.one 2
  · show Sy.ltAll 0 [C.v (e.rv 3)] = true
    simp [Sy.ltAll, C.lt, h.one 3]
  · have hb' : w.heap.size ≤ b ∧ b < w'.heap.size := by
      rcases hb with hb | hb | hb
      · exact n3 b hb
      · exact n1 b hb
      · exact n2 b hb
    exact ⟨.inr hb'.1, hb'.2, fun ⟨k, c, hk, _⟩ => by cases hk⟩
  · refine ⟨XD.ok.mono h3.reads fun b hb => .inl hb.2, fun o ho => ?_⟩
    simp only [List.mem_cons, List.mem_nil_iff, or_false] at ho
    rcases ho with rfl | rfl | rfl | rfl
    · exact nil_ok
    · exact nil_ok
    · exact XD.ok.mono h1.reads fun b hb => .inr (.inl hb.2)
    · exact XD.ok.mono h2.reads fun b hb => .inr (.inr hb.2)
theorem check_two : checkV twoM = (0, 0) := by decide +kernel
theorem all_two : allL twoM = [[0, 2], [1, 3]] := by decide +kernel
theorem anew_two3 : anewV twoM [3] = [0, 3] ∧ anewE twoM [3] = 0 := by decide +kernel
theorem anew_two6 : anewV twoM [6] = [] ∧ anewE twoM [6] = 2 := by decide +kernel
attribute [local irreducible] checkV anewV anewE allL
set_option maxHeartbeats 2000000 in
theorem wakes_any (w : World) : Calls Try.prog 11 #[] w (Sy.Ret (.bool true) w) := by
  refine Sy.calls_of Sy.lv11 Sy.tab_ok Try.func11 rfl _ Try.ntmps11 [] [] rfl rfl rfl trivial ?_
  ((repeat' ((conv => whnf);(first|refine zA ?_|(refine zI ?_ ?_<;> intro hh<;> first|(exfalso;omega)|skip)|(refine zl ?_ ?_<;> intro hh)|refine zq ?_|refine zv ?_|refine zu ?_|exact Sy.fin_val fun e=>rfl)));(all_goals (try conv => whnf)))
  refine Sy.call_own two_does Try.call36 ?_ (fun _ _ _ _ _ _ => trivial) (fun _ x G G' w w' h hG hk => ⟨⟨h.1.1.keep hG hk, h.1.2⟩, fun o ho => (h.2 o ho).keep hG hk⟩)
  ((conv => whnf);(refine And.intro ?_ (And.intro ?_ (And.intro ?_ (And.intro ?_ ?_))));(all_goals ((repeat' (first|((conv => whnf);done)|((try conv => whnf);first|exact trivial|(refine And.intro ?_ ?_)|rfl|exact fun _ _ _ h=>h|exact fun _ _ _ _=>trivial)));(all_goals (try conv => whnf))));rotate_right)
  intro x hx G
  obtain ⟨pv, pl⟩ := x
  obtain ⟨hx, h1, hp1⟩ := hx
  dsimp only at hx h1 hp1 ⊢
  ((repeat' ((conv => whnf);(first|refine zA ?_|(refine zI ?_ ?_<;> intro hh<;> first|(exfalso;omega)|skip)|(refine zl ?_ ?_<;> intro hh)|refine zq ?_|refine zv ?_|exact Sy.fin_val fun e=>rfl)));(all_goals (try conv => whnf)))
  refine Sy.call_own (all_does pv pl hp1) Try.call13 ?_ (fun e a w' F' h hF' => ((h.ev w' fun _ _ => rfl).2.2).mono hF') (fun _ us G G' w1 w2 hq hG hk x hx => ⟨(hq x hx).1.keep hG hk, (hq x hx).2⟩)
  ((conv => whnf);(refine And.intro ?_ (And.intro ?_ (And.intro ?_ (And.intro ?_ ?_))));(all_goals ((repeat' (first|((conv => whnf);done)|((try conv => whnf);first|exact trivial|(refine And.intro ?_ ?_)|rfl|exact fun _ _ _ h=>h|exact fun _ _ _ _=>trivial)));(all_goals (try conv => whnf))));rotate_right)
  intro us hus G2
  have hus : rowsOf us = [[0, 2], [1, 3]] := by
    have : rowsOf us = allL (opsOf pl) := hus
    rw [this, hx, all_two]
  have hul : us.length = 2 := by
    have := congrArg List.length hus
    unfold rowsOf at this
    rwa [List.length_map] at this
  obtain ⟨u1, hg1⟩ : ∃ u1, us[1]? = some u1 := ⟨us[1], List.getElem?_eq_getElem (by omega)⟩
  have hu1 : u1.2 = [1, 3] := by
    have := congrArg (fun l => l[1]?) hus
    unfold rowsOf at this
    rw [List.getElem?_map, hg1] at this
    simpa using this
  have hc2 : (checkV (opsOf pl)).2 = 0 := by rw [hx, check_two]
  ((repeat' ((conv => whnf);(first|refine zA ?_|(refine zI ?_ ?_<;> intro hh<;> first|(exfalso;omega)|skip)|(refine zl ?_ ?_<;> intro hh)|refine zq ?_|refine zv ?_|exact Sy.fin_val fun e=>rfl)));(all_goals (try conv => whnf)))
  refine Sy.call_own two_does Try.call36 ?_ (fun _ _ _ _ _ _ => trivial) (fun _ x G G' w w' h hG hk => ⟨⟨h.1.1.keep hG hk, h.1.2⟩, fun o ho => (h.2 o ho).keep hG hk⟩)
  ((conv => whnf);(refine And.intro ?_ (And.intro ?_ (And.intro ?_ (And.intro ?_ ?_))));(all_goals ((repeat' (first|((conv => whnf);done)|((try conv => whnf);first|exact trivial|(refine And.intro ?_ ?_)|rfl|exact fun _ _ _ h=>h|exact fun _ _ _ _=>trivial)));(all_goals (try conv => whnf))));rotate_right)
  intro x2 hx2 G3
  obtain ⟨pv2, pl2⟩ := x2
  obtain ⟨hx2, h2, hp2⟩ := hx2
  dsimp only at hx2 h2 hp2 ⊢
  ((repeat' ((conv => whnf);(first|refine zA ?_|(refine zI ?_ ?_<;> intro hh<;> first|(exfalso;omega)|skip)|(refine zl ?_ ?_<;> intro hh)|refine zq ?_|refine zv ?_|exact Sy.fin_val fun e=>rfl)));(all_goals (try conv => whnf)))
  refine Sy.call_r1 ⟨3, 1, ([0, 3] : List Int).length, ([0, 3] : List Int).map encI⟩ (fun j => .tup [.c (.row j), .c (.v (.int .i64 0))]) Try.call18 (fun e a w' h => by
    have := anew_any pv2 (e.rv 1) pl2 [3] w' (GOk.mono (h.ev w' fun _ _ => rfl).2.2 fun b hb => h.fl b hb) (Sy.row_reads h (.inl ⟨_, rfl⟩)) (by decide)
    rw [hx2, anew_two3.1, anew_two3.2] at this
    exact this) ?_
  ((repeat' ((conv => whnf);(first|refine zA ?_|(refine zI ?_ ?_<;> intro hh<;> first|(exfalso;omega)|skip)|(refine zl ?_ ?_<;> intro hh)|refine zq ?_|refine zv ?_|exact Sy.fin_val fun e=>rfl)));(all_goals (try conv => whnf)))
  refine Sy.call_own two_does Try.call36 ?_ (fun _ _ _ _ _ _ => trivial) (fun _ x G G' w w' h hG hk => ⟨⟨h.1.1.keep hG hk, h.1.2⟩, fun o ho => (h.2 o ho).keep hG hk⟩)
  ((conv => whnf);(refine And.intro ?_ (And.intro ?_ (And.intro ?_ (And.intro ?_ ?_))));(all_goals ((repeat' (first|((conv => whnf);done)|((try conv => whnf);first|exact trivial|(refine And.intro ?_ ?_)|rfl|exact fun _ _ _ h=>h|exact fun _ _ _ _=>trivial)));(all_goals (try conv => whnf))));rotate_right)
  intro x3 hx3 G4
  obtain ⟨pv3, pl3⟩ := x3
  obtain ⟨hx3, h3, hp3⟩ := hx3
  dsimp only at hx3 h3 hp3 ⊢
  ((repeat' ((conv => whnf);(first|refine zA ?_|(refine zI ?_ ?_<;> intro hh<;> first|(exfalso;omega)|skip)|(refine zl ?_ ?_<;> intro hh)|refine zq ?_|refine zv ?_|exact Sy.fin_val fun e=>rfl)));(all_goals (try conv => whnf)))
  refine Sy.call_r1 ⟨3, 1, ([] : List Int).length, ([] : List Int).map encI⟩ (fun j => .tup [.c (.row j), .c (.v (.int .i64 2))]) Try.call18 (fun e a w' h => by
    have := anew_any pv3 (e.rv 3) pl3 [6] w' (GOk.mono (h.ev w' fun _ _ => rfl).2.2 fun b hb => h.fl b hb) (Sy.row_reads h (.inl ⟨_, rfl⟩)) (by decide)
    rw [hx3, anew_two6.1, anew_two6.2] at this
    exact this) ?_
  ((repeat' ((conv => whnf);(first|refine zA ?_|(refine zI ?_ ?_<;> intro hh<;> first|(exfalso;omega)|skip)|(refine zl ?_ ?_<;> intro hh)|refine zq ?_|refine zv ?_|refine zu ?_|exact Sy.fin_val fun e=>rfl)));(all_goals (try conv => whnf)))
  refine Sy.el_map u1 hg1 ?_
  ((repeat' ((conv => whnf);(first|refine zA ?_|(refine zI ?_ ?_<;> intro hh<;> first|(exfalso;omega)|skip)|(refine zl ?_ ?_<;> intro hh)|refine zq ?_|refine zv ?_|refine zu ?_|exact Sy.fin_val fun e=>rfl)));(all_goals (try conv => whnf)))
  refine Sy.call_val (.c (.v (.bool true))) Try.call16 rfl (fun e a w' h => by
    have hu := (h.ev w' fun _ _ => rfl).1.1.2.2 u1 (List.mem_of_getElem? hg1)
    rw [hu1] at hu
    have := same10_any u1.1 (e.rv 5) [1, 3] [1, 3] w' (XD.ok.mono hu fun b hb => h.fl b (.inl (.inl hb))) (Sy.row_reads h (.inl ⟨_, rfl⟩))
    rw [decide_eq_true rfl] at this
    exact this) ?_
  ((repeat' ((conv => whnf);(first|refine zA ?_|(refine zI ?_ ?_<;> intro hh<;> first|(exfalso;omega)|skip)|(refine zl ?_ ?_<;> intro hh)|refine zq ?_|refine zv ?_|refine zu ?_|exact Sy.fin_val fun e=>rfl)));(all_goals (try conv => whnf)))
  refine Sy.call_val (.c (.v (.bool true))) Try.call16 rfl (fun e a w' h => by
    have := same10_any (e.rv 2) (e.rv 6) [0, 3] [0, 3] w' (Sy.row_reads h (.inl ⟨_, rfl⟩)) (Sy.row_reads h (.inl ⟨_, rfl⟩))
    rw [decide_eq_true rfl] at this
    exact this) ?_
  ((repeat' ((conv => whnf);(first|refine zA ?_|(refine zI ?_ ?_<;> intro hh<;> first|(exfalso;omega)|skip)|(refine zl ?_ ?_<;> intro hh)|refine zq ?_|refine zv ?_|refine zu ?_|exact Sy.fin_val fun e=>rfl)));(all_goals (try conv => whnf)))
  done
end Go.Proofs.Ythmcknchkecciaa
