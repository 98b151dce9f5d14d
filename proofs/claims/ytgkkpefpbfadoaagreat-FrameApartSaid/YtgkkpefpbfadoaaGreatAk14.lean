/- Graph: union, sources. -/
import Derived.Test.YtgkkpefpbfadoaaGreatAk13
namespace Go.Proofs.YtgkkpefpbfadoaaGreat
open Go Go.RowKit
open Sy (C SV V1 Blk St XD Els)
set_option maxRecDepth 10000
theorem rises_len0 {below : Int} : ∀ {l : List Int} {last : Int}, risesB last below l = true → l = [] ∨ last + l.length < below
 | [], _, _ => .inl rfl
 |n :: r, last, h => by
  simp only [risesB, Bool.and_eq_true, decide_eq_true_eq] at h
  right
  rw [List.length_cons]
  rcases rises_len0 h.2 with rfl | h2
  ·simp; omega
  ·omega
theorem rises_len {i : Nat} {l : List Int} (h : risesB (-1) (i : Int) l = true) : l.length ≤ i := by
 rcases rises_len0 h with rfl | h2
 ·exact Nat.zero_le _
 ·omega
def setI (zs : List Int) : List Int := Lib.compact (sortL zs)
theorem setI_len (zs : List Int) : (setI zs).length ≤ zs.length := Nat.le_trans (Lib.compact_length_le _) (Nat.le_of_eq (sortL_len zs))
theorem union_any (v : Value) (us : List (Value × List Int)) (w : World) (hr : XD.ok (fun b => b < w.heap.size) w ⟨v, 1, us.length, us.map encU⟩) (hu : RowsOk w us) (hb : (catL us).length ≤ 1000000) :
  Calls Tryz.prog 228 #[v] w (Sy.RetRows Sy.noRow (fun _ : Unit => True) (fun _ => [⟨3, 1, (setI (catL us)).length, (setI (catL us)).map encI⟩]) (fun _ vs => vs.headD undef) w) := by
 refine Sy.calls_of Sy.lv228 Sy.tab_ok Tryz.func228 rfl _ Tryz.ntmps228 [⟨v, 1, us.length, us.map encU⟩] [.c (.row 0)] rfl rfl rfl ⟨hr, trivial⟩ ?_
 ((repeat' first|refine Y ?_|refine Y2 ?_ ?_|refine Y1 fun hh=>?_|exact Y0.mk);(all_goals (try conv => whnf)))
 refine Sy.call_r1 ⟨3, 1, (catL us).length, (catL us).map encI⟩ (fun j => .c (.row j)) Tryz.call242 (fun e a w' h => concat_any (e.rv 0) us w' (Sy.row_reads h (.inr rfl)) (fun x hx => Sy.later_in h (hu x hx)) hb) ?_
 ((repeat' first|refine Y ?_|refine Y2 ?_ ?_|refine Y1 fun hh=>?_|exact Y0.mk);(all_goals (try conv => whnf)))
 refine Sy.call_mut 1 ⟨3, 1, (catL us).length, (sortL (catL us)).map encI⟩ (.tup []) Tryz.call204 (fun e a w' h => sort_mut (e.rv 1) (catL us) w' (h.hp 1 _ rfl).1 (by omega)) ?_
 ((repeat' first|refine Y ?_|refine Y2 ?_ ?_|refine Y1 fun hh=>?_|exact Y0.mk);(all_goals (try conv => whnf)))
 have hsl := sortL_len (catL us)
 refine Sy.call_k1 1 ⟨3, 1, (setI (catL us)).length, (setI (catL us)).map encI⟩ (fun j => .c (.row j)) Tryz.call243 (fun e a w' h => compact_rows (e.rv 1) (sortL (catL us)) w' (by rw [hsl]; exact (h.hp 1 _ rfl).1) (by omega)) ?_
 ((repeat' first|refine Y ?_|refine Y2 ?_ ?_|refine Y1 fun hh=>?_|exact Y0.mk);(all_goals (try conv => whnf)))
 exact Sy.fin_r1 (.row 2) rfl
def srcH (gv : Value) : List (Nat × Blk) := [(0, .cells 25 [.v gv]), (1, .cells 248 [.row 2]), (2, .fn 227 [.loc 0 0, .loc 1 0])]
def srcC (gv : Value) (gl : List OpV) (i : Nat) : Sy.Ctr Unit := { avs := [.c (.v (.int .i64 i)), .c (.loc 0 0), .c (.loc 1 0)], n0 := 3, H0 := srcH gv, pre := fun F w => GOk F w gv gl, sv := fun _ => .c (.row 3), n1 := fun _ => 4, H1 := fun _ => (3, .row 3 1 (srcs (opsOf gl) i).length (.vs ((srcs (opsOf gl) i).map encI))) :: srcH gv }
def srcF (gv : Value) (gl : List OpV) (i : Nat) : Sy.Ctr Value := { avs := [.c (.v (.int .i64 i)), .c (.loc 0 0), .c (.loc 1 0)], n0 := 3, H0 := srcH gv, pre := fun F w => GOk F w gv gl, sv := fun u => .c (.v u), n1 := fun _ => 3, H1 := fun _ => srcH gv, learn := true, q := fun u G w => XD.ok G w ⟨u, 1, (srcs (opsOf gl) i).length, (srcs (opsOf gl) i).map encI⟩ }
theorem srcF_of {gv : Value} {gl : List OpV} {i : Nat} (hone : gv.oneCell' = true) (h : Sy.Does Tryz.prog 227 (srcC gv gl i)) : Sy.Does Tryz.prog 227 (srcF gv gl i) :=
 Sy.does_freeze (by
  intro k b hk
  unfold srcH at hk
  rcases Sy.get_cons hk with ⟨rfl, rfl⟩ | ⟨_, hk⟩
  ·exact ⟨by decide, by show Sy.ltAll _ _ = true; simp [Sy.ltAll, C.lt, hone]⟩
  ·rcases Sy.get_cons hk with ⟨rfl, rfl⟩ | ⟨_, hk⟩
   ·exact ⟨by decide, rfl⟩
   ·rcases Sy.get_cons hk with ⟨rfl, rfl⟩ | ⟨_, hk⟩
    ·exact ⟨by decide, rfl⟩
    ·cases hk) h
set_option maxHeartbeats 1000000 in
theorem src_does (gv : Value) (gl : List OpV) (hone : gv.oneCell' = true) (hlen : gl.length ≤ 1000) : ∀ (i : Nat), i < gl.length → goodTo (opsOf gl) (i + 1) → Sy.Does Tryz.prog 227 (srcC gv gl i) := by
 intro i
 induction i using Nat.strongRecOn with
 |_ i ih =>
  intro hi hg
  have hgi := List.getElem?_eq_getElem hi
  generalize gl[i] = o at *
  have hgo := opsOf_get hgi
  have ha := hg i o.op (by omega) hgo
  have hins := alone_ins ha
  refine Sy.does_of Sy.lv227 Sy.tab_ok Tryz.func227 rfl _ Tryz.ntmps227 _ rfl rfl (fun e0 w hpre => ?_)
  have hpre : GOk (Sy.frz e0 (srcH gv) w) w gv gl := hpre
  have hoo := hpre.at hgi
  ((repeat' first|refine Yo ?_|refine Y2 ?_ ?_|refine Y1 fun hh=>?_|exact Y0.mk);(all_goals (try conv => whnf)))
  refine open_f _ _ _ (hpre.1) ?_
  ((repeat' first|refine Yo ?_|refine Y2 ?_ ?_|refine Y1 fun hh=>?_|exact Y0.mk);(all_goals (try conv => whnf)))
  refine Sy.el_map o hgi ?_
  by_cases ht : o.op.tag = 1
  ·have hs := srcs_src hg hgo ht
   ((repeat' first|refine Yo ?_|refine Y2 ?_ ?_|refine Y1 fun hh=>?_|exact Y0.mk);(all_goals (try conv => whnf)))
   refine open_f _ _ _ (hpre.1) ?_
   ((repeat' first|refine Yo ?_|refine Y2 ?_ ?_|refine Y1 fun hh=>?_|exact Y0.mk);(all_goals (try conv => whnf)))
   refine Sy.el_map o hgi ?_
   ((repeat' first|refine Yo ?_|refine Y2 ?_ ?_|refine Y1 fun hh=>?_|exact Y0.mk);(all_goals (try conv => whnf)))
   refine Sy.fin_own () trivial ?_
   ((conv => whnf);(refine And.intro ?_ (And.intro ?_ (And.intro ?_ ?_)));(all_goals ((repeat' (first|((conv => whnf);done)|((try conv => whnf);first|exact trivial|(refine And.intro ?_ ?_)|rfl|exact fun _ _ _ h=>h|exact fun _ _ _ _=>trivial)));(all_goals (try conv => whnf)))))
   all_goals (rw [hs]; rfl)
  ·have hs := srcs_union hg hgo ht
   ((repeat' first|refine Yo ?_|refine Y2 ?_ ?_|refine Y1 fun hh=>?_|exact Y0.mk);(all_goals (try conv => whnf)))
   refine open_f _ _ _ (hpre.1) ?_
   ((repeat' first|refine Yo ?_|refine Y2 ?_ ?_|refine Y1 fun hh=>?_|exact Y0.mk);(all_goals (try conv => whnf)))
   refine Sy.el_map o hgi ?_
   ((repeat' first|refine Yo ?_|refine Y2 ?_ ?_|refine Y1 fun hh=>?_|exact Y0.mk);(all_goals (try conv => whnf)))
   refine open_f _ _ _ (hoo) ?_
   ((repeat' first|refine Yo ?_|refine Y2 ?_ ?_|refine Y1 fun hh=>?_|exact Y0.mk);(all_goals (try conv => whnf)))
   refine Sy.sem_subF (Sy.sub_row 5 40 1 rfl) ?_
   conv => whnf
   have hil : o.op.ins.length ≤ i := rises_len ha.2.2.1
   refine Sy.loop_learn Sy.tab_ok (fun x : Nat × List (Value × List Int) × (Nat → Prop) × (World → Prop) => [(29, .c (.v (.int .i64 x.1))), (5, .c (.row 6))]) (fun x => [(6, .row 40 1 x.2.1.length (.vs (x.2.1.map encU)))]) (fun x => x.2.2.1) (fun x => x.2.2.2)
    (fun x => x.1 ≤ o.op.ins.length ∧ x.2.1.map (·.2) = srcRows (opsOf gl) (o.op.ins.take x.1) ∧ (∀ b, Sy.frz e0 (srcH gv) w b → x.2.2.1 b) ∧ ∀ w', x.2.2.2 w' → ∀ u ∈ x.2.1, XD.ok x.2.2.1 w' ⟨u.1, 1, u.2.length, u.2.map encI⟩) (fun x => o.op.ins.length - x.1) (0, [], Sy.frz e0 (srcH gv) w, fun _ => True)
    ⟨Nat.zero_le _, rfl, fun _ h => h, fun _ _ u hu => by cases hu⟩ ?_ (fun x hx => ?_)
   ·((repeat' (first|((conv => whnf);done)|((try conv => whnf);first|exact trivial|(refine And.intro ?_ ?_)|rfl|exact fun _ _ _ h=>h|exact fun _ _ _ _=>trivial)));(all_goals (try conv => whnf)))
   ·obtain ⟨n, us, F, E⟩ := x
    obtain ⟨hn, hus, hF, hE⟩ := hx
    dsimp only at hn hus hF hE ⊢
    have hul : us.length = n := by
     have := congrArg List.length hus
     rw [List.length_map, srcRows, List.length_map, List.length_take] at this
     omega
    ((repeat' first|refine Yd ?_|refine Y2 ?_ ?_|refine Y1 fun hh=>?_|exact Y0.mk);(all_goals (try conv => whnf)))
    ·have hlt : n < o.op.ins.length := by omega
     have hgn := List.getElem?_eq_getElem hlt
     have hk := hins _ (List.getElem_mem hlt)
     have htk : o.op.ins.take (n + 1) = o.op.ins.take n ++ [o.op.ins[n]] := List.take_succ_eq_append_getElem hlt
     generalize o.op.ins[n] = k at *
     refine Sy.el_map k hgn ?_
     ((repeat' first|refine Yo ?_|refine Y2 ?_ ?_|refine Y1 fun hh=>?_|exact Y0.mk);(all_goals (try conv => whnf)))
     obtain ⟨m, rfl⟩ : ∃ m : Nat, k = (m : Int) := ⟨k.toNat, by omega⟩
     refine Sy.call_own (srcF_of hone (ih m (by omega) (by omega) (hg.mono (by omega)))) Tryz.call227 ?_ (fun e a w' F' h hF' => (GOk.later h hpre).mono hF') (fun _ u G G' w1 w2 hq hG hk' => ⟨hq.1.keep hG hk', hq.2⟩)
     ((conv => whnf);(refine And.intro ?_ (And.intro ?_ (And.intro ?_ (And.intro ?_ ?_))));(all_goals ((repeat' (first|((conv => whnf);done)|((try conv => whnf);first|exact trivial|(refine And.intro ?_ ?_)|rfl|exact fun _ _ _ h=>h|exact fun _ _ _ _=>trivial)));(all_goals (try conv => whnf))));rotate_right)
     intro u _ G
     ((repeat' first|refine Yo ?_|refine Y2 ?_ ?_|refine Y1 fun hh=>?_|exact Y0.mk);(all_goals (try conv => whnf)))
     refine Sy.need_app 24 rfl ⟨by omega, by omega⟩ ?_
     ((repeat' first|refine Yo ?_|refine Y2 ?_ ?_|refine Y1 fun hh=>?_|exact Y0.mk);(all_goals (try conv => whnf)))
     refine ⟨(n + 1, us ++ [(u, srcs (opsOf gl) m)], fun b => F b ∨ G b, fun w' => E w' ∧ (∀ b, G b → ¬ F b) ∧ XD.ok (fun b => F b ∨ G b) w' ⟨u, 1, (srcs (opsOf gl) m).length, (srcs (opsOf gl) m).map encI⟩), ⟨by dsimp only; omega, ?_, fun b hb => .inl (hF b hb), fun w' hw x hx => ?_⟩, by dsimp only; omega, ?_⟩
     ·dsimp only
      rw [List.map_append, hus, htk, srcRows, srcRows, List.map_append]
      simp
     ·rcases List.mem_append.1 hx with hx | hx
      ·exact (hE w' hw.1 x hx).mono fun b hb => .inl hb
      ·rw [List.mem_singleton.1 hx]; exact hw.2.2
     ·dsimp only
      ((repeat' (first|((conv => whnf);done)|((try conv => whnf);first|exact trivial|(refine And.intro ?_ ?_)|rfl|exact fun _ _ _ h=>h|exact fun _ _ _ _=>trivial)));(all_goals (try conv => whnf)))
      all_goals simp [encU]
    ·have e : n = o.op.ins.length := by omega
     rw [e, List.take_length] at hus
     have hcat : catL us = (srcRows (opsOf gl) o.op.ins).flatten := by unfold catL; rw [hus]
     have hcl := srcRows_len (opsOf gl) o.op.ins
     have hset : setI (catL us) = srcs (opsOf gl) i := by rw [hcat]; exact hs
     refine Sy.call_r1 ⟨3, 1, (srcs (opsOf gl) i).length, (srcs (opsOf gl) i).map encI⟩ (fun j => .c (.row j)) Tryz.call228 (fun e a w' h => by
      have := union_any (e.rv 6) us w' (Sy.row_reads h (.inl ⟨_, rfl⟩)) (fun x hx => (hE w' (h.ev w' fun _ _ => rfl) x hx).mono fun b hb => h.fl b hb) (by rw [hcat]; omega)
      rw [hset] at this; exact this) ?_
     ((repeat' first|refine Yo ?_|refine Y2 ?_ ?_|refine Y1 fun hh=>?_|exact Y0.mk);(all_goals (try conv => whnf)))
     refine Sy.fin_own () trivial ?_
     ((conv => whnf);(refine And.intro ?_ (And.intro ?_ (And.intro ?_ ?_)));(all_goals ((repeat' (first|((conv => whnf);done)|((try conv => whnf);first|exact trivial|(refine And.intro ?_ ?_)|rfl|exact fun _ _ _ h=>h|exact fun _ _ _ _=>trivial)));(all_goals (try conv => whnf)))))
theorem lt_gv {v : Value} (h : v.oneCell' = true) (x : C) (hx : x.lt 0 = true) : Sy.allLt 0 [.agg [.v v], .c x] = true := by
 have h1 : SV.lt 0 (.agg [.v v]) = true := by show Sy.ltAll 0 [C.v v] = true; simp [Sy.ltAll, C.lt, h]
 have h2 : SV.lt 0 (.c x) = true := hx
 simp [Sy.allLt, h1, h2]
theorem sources_any (v : Value) (gl : List OpV) (i : Nat) (w : World) (hr : GOk (fun b => b < w.heap.size) w v gl) (hlen : gl.length ≤ 1000) (hi : i < gl.length) (hg : goodTo (opsOf gl) (i + 1)) :
  Calls Tryz.prog 215 #[.agg #[v], .int .i64 i] w (Sy.RetRows Sy.noRow (fun _ : Unit => True) (fun _ => [⟨3, 1, (srcs (opsOf gl) i).length, (srcs (opsOf gl) i).map encI⟩]) (fun _ vs => vs.headD undef) w) := by
 refine Sy.calls_of Sy.lv215 Sy.tab_ok Tryz.func215 rfl _ Tryz.ntmps215 [] [.agg [.v v], .c (.v (.int .i64 i))] rfl (lt_gv hr.one _ rfl) rfl trivial ?_
 ((repeat' first|refine Yo ?_|refine Y2 ?_ ?_|refine Y1 fun hh=>?_|exact Y0.mk);(all_goals (try conv => whnf)))
 refine Sy.call_own (src_does v gl hr.one hlen i hi hg) Tryz.call227 ?_ (fun e a w' F' h hF' => (GOk.later h (hr.mono fun b hb => ⟨hb, fun h => h⟩)).mono hF')
 ((conv => whnf);(refine And.intro ?_ (And.intro ?_ (And.intro ?_ (And.intro ?_ ?_))));(all_goals ((repeat' (first|((conv => whnf);done)|((try conv => whnf);first|exact trivial|(refine And.intro ?_ ?_)|rfl|exact fun _ _ _ h=>h|exact fun _ _ _ _=>trivial)));(all_goals (try conv => whnf))));rotate_right)
 intro _ _ _
 ((repeat' first|refine Yo ?_|refine Y2 ?_ ?_|refine Y1 fun hh=>?_|exact Y0.mk);(all_goals (try conv => whnf)))
 exact Sy.fin_r1 (.row 3) rfl
end Go.Proofs.YtgkkpefpbfadoaaGreat
namespace Go.Proofs.YtgkkpefpbfadoaaGreat
open Go Go.RowKit
open Sy (C SV V1 Blk St XD Els)
set_option maxRecDepth 10000
theorem srcRows_succ (g : List Opr) (l : List Int) (n : Nat) (h : n < l.length) : (srcRows g (l.take (n + 1))).flatten = (srcRows g (l.take n)).flatten ++ srcs g l[n].toNat := by
 rw [List.take_succ_eq_append_getElem h, srcRows, List.map_append, List.flatten_append]
 simp [srcRows]
attribute [local irreducible] setI
def insSum (g : List Opr) (l : List Int) : Nat := (srcRows g l).flatten.length
theorem insSum_succ (g : List Opr) (l : List Int) (n : Nat) (h : n < l.length) : insSum g (l.take (n + 1)) = insSum g (l.take n) + (srcs g l[n].toNat).length := by
 unfold insSum
 rw [srcRows_succ _ _ _ h, List.length_append]
attribute [local irreducible] insSum
end Go.Proofs.YtgkkpefpbfadoaaGreat
