/- Heart: the law HeartDoes. -/
import Derived.Test.YtiapcohnjklcfaaHeO
namespace Go.Proofs.Ytiapcohnjklcfaa
open Go Go.RowKit
open Sy (C SV V1 Blk St XD Els)
set_option maxRecDepth 10000

theorem putL_len (y : Pulse) : ∀ ps : List Pulse, (putL y ps).length ≤ ps.length + 1
  | [] => Nat.le_refl _
  | p :: r => by
    have := putL_len y r
    unfold putL
    split
    · simp; omega
    · split <;> simp
theorem runV_len (now span : Int) (ps : List Pulse) (o : OpI) : (runV now span ps o).h.ps.length ≤ 5 := by
  by_cases hok : okH now span ps = true
  · have hl := okH_len now span ps hok
    unfold runV
    split
    · show (hearV now span ps o.worker).1.ps.length ≤ 5
      rw [hearV, if_pos hok]
      split
      · have := putL_len ⟨o.worker, now, false⟩ ps
        show (putL _ ps).length ≤ 5
        omega
      · exact Nat.zero_le _
    · split
      · show (passV now span ps (nowO o now)).1.ps.length ≤ 5
        rw [passV, if_pos hok]
        split
        · show (passL _ _ ps).length ≤ 5
          rw [passL, List.length_map]; omega
        · exact Nat.zero_le _
      · show (dropV now span ps o.worker).1.ps.length ≤ 5
        rw [dropV, if_pos hok]
        split
        · show (dropL _ ps).length ≤ 5
          have := List.length_filter_le (fun p : Pulse => !(p.worker == o.worker)) ps
          rw [dropL]; omega
        · exact Nat.zero_le _
  · rw [run_bad hok]; exact Nat.zero_le _
theorem runV_now (now span : Int) (ps : List Pulse) (o : OpI) (h : I64 now) : I64 (runV now span ps o).h.now := by
  have h0 : I64 0 := by unfold I64; omega
  by_cases hok : okH now span ps = true
  · have hb := okH_bd now span ps hok
    unfold runV
    split
    · show I64 (hearV now span ps o.worker).1.now
      rw [hearV, if_pos hok]
      split
      · exact h
      · exact h0
    · split
      · show I64 (passV now span ps (nowO o now)).1.now
        rw [passV, if_pos hok]
        split
        · show I64 (nowO o now); unfold I64; omega
        · exact h0
      · show I64 (dropV now span ps o.worker).1.now
        rw [dropV, if_pos hok]
        split
        · exact h
        · exact h0
  · rw [run_bad hok]; exact h0
theorem sh_id {ps : List Pulse} (h : ps.length ≤ 5) : sh ps = ps := List.take_of_length_le h
theorem sh_len (ps : List Pulse) : (sh ps).length ≤ 5 := by rw [sh, List.length_take]; omega
theorem short_id (now span : Int) (v : Value) (ps : List Pulse) (w : World) (hl : ps.length ≤ 5) (hr : XD.ok (fun b => b < w.heap.size) w ⟨v, 3, ps.length, ps.map encP⟩) :
    Calls Try.prog 17 #[.agg #[.int .i64 now, .int .i64 span, v]] w (Sy.RetRows Sy.noRow (fun _ : Unit => True) (fun _ => [⟨51, 3, ps.length, ps.map encP⟩]) (fun _ vs => .agg #[.int .i64 now, .int .i64 span, vs.headD undef]) w) := by
  have := short_r now span v ps w hr
  rwa [sh_id hl] at this
theorem wants_eq {now span : Int} {v : Value} {ps : List Pulse} {o : OpI} {w : World} {r : RV} (he : runV now span ps o = r) (hn : I64 now) (ho : o.ok) (hr : XD.ok (fun b => b < w.heap.size) w ⟨v, 3, ps.length, ps.map encP⟩) :
    Calls Try.prog 19 #[.agg #[.int .i64 o.kind, .int .i64 o.worker, .int .i64 o.tick, .bool o.far], .agg #[.int .i64 now, .int .i64 span, v]] w (RetRun r w) := by
  subst he; exact wants_any now span v ps o w hn ho hr
attribute [local irreducible] okN okH ok0 chkE hearV passV dropV runV sh sameB
set_option maxHeartbeats 1000000 in
theorem does_any (now span : Int) (v u : Value) (ps : List Pulse) (xs : List OpI) (w : World) (hn : I64 now) (ho : ∀ x ∈ xs, x.ok) (hr : XD.ok (fun b => b < w.heap.size) w ⟨v, 3, ps.length, ps.map encP⟩)
    (hx : XD.ok (fun b => b < w.heap.size) w ⟨u, 4, xs.length, xs.map encO⟩) :
    Calls Try.prog 5 #[.agg #[.int .i64 now, .int .i64 span, v], u] w (Sy.Ret (.bool true) w) := by
  have hl := ok_len hr
  have hl2 := ok_len hx
  refine Sy.calls_of Sy.lv5 Sy.tab_ok Try.func5 rfl _ Try.ntmps5 [⟨v, 3, ps.length, ps.map encP⟩, ⟨u, 4, xs.length, xs.map encO⟩] [.agg [.v (.int .i64 now), .v (.int .i64 span), .row 0], .c (.row 1)] rfl rfl rfl ⟨hr, hx, trivial⟩ ?_
  ((repeat' ((conv => whnf);(first|refine z1 ?_|refine z2 ?_|refine z3 ?_|refine z4 ?_|refine z5 ?_|refine z6 ?_|refine z7 ?_|refine z8 ?_|refine z9 ?_|refine za ?_|refine zb ?_|refine zc ?_|refine zd ?_|refine ze ?_|refine zf ?_|refine zg ?_|refine zh ?_|((first|refine zi ?_ ?_|refine zj ?_ ?_|refine zk ?_ ?_)<;> intro hh <;> first|(exfalso;omega)|skip)|(refine zl ?_ ?_<;> intro hh)|refine zm ?_|refine zn ?_|refine zo ?_|refine zp ?_|refine zq ?_|refine zr ?_|refine zs _ rfl ?_|refine zu ?_|exact Sy.fin_val (fun e=>rfl))));(all_goals (try conv => whnf)))
  refine Sy.call_val (.c (.v (.bool true))) Try.call9 rfl (fun e a w' h => wakes_any w') ?_
  ((repeat' ((conv => whnf);(first|refine z1 ?_|refine z2 ?_|refine z3 ?_|refine z4 ?_|refine z5 ?_|refine z6 ?_|refine z7 ?_|refine z8 ?_|refine z9 ?_|refine za ?_|refine zb ?_|refine zc ?_|refine zd ?_|refine ze ?_|refine zf ?_|refine zg ?_|refine zh ?_|((first|refine zi ?_ ?_|refine zj ?_ ?_|refine zk ?_ ?_)<;> intro hh <;> first|(exfalso;omega)|skip)|(refine zl ?_ ?_<;> intro hh)|refine zm ?_|refine zn ?_|refine zo ?_|refine zp ?_|refine zq ?_|refine zr ?_|refine zs _ rfl ?_|refine zu ?_|exact Sy.fin_val (fun e=>rfl))));(all_goals (try conv => whnf)))
  refine Sy.call_r1 ⟨51, 3, (sh ps).length, (sh ps).map encP⟩ (fun k => .agg [.v (.int .i64 now), .v (.int .i64 span), .row k]) Try.call17 (fun e a w' h => short_r now span _ ps w' (Sy.row_reads h (.inr rfl))) ?_
  ((repeat' ((conv => whnf);(first|refine z1 ?_|refine z2 ?_|refine z3 ?_|refine z4 ?_|refine z5 ?_|refine z6 ?_|refine z7 ?_|refine z8 ?_|refine z9 ?_|refine za ?_|refine zb ?_|refine zc ?_|refine zd ?_|refine ze ?_|refine zf ?_|refine zg ?_|refine zh ?_|((first|refine zi ?_ ?_|refine zj ?_ ?_|refine zk ?_ ?_)<;> intro hh <;> first|(exfalso;omega)|skip)|(refine zl ?_ ?_<;> intro hh)|refine zm ?_|refine zn ?_|refine zo ?_|refine zp ?_|refine zq ?_|refine zr ?_|refine zs _ rfl ?_|refine zu ?_|exact Sy.fin_val (fun e=>rfl))));(all_goals (try conv => whnf)))
  refine Sy.loop_inv Sy.tab_ok (fun i : Nat × HS => [(24, .c (.v (.int .i64 i.1)))]) (fun i => [(4, .cells 27 [.v (.int .i64 i.2.now), .v (.int .i64 i.2.span), .row 3]), (3, .row 51 3 i.2.ps.length (.vs (i.2.ps.map encP)))])
    (fun i => i.1 ≤ xs.length ∧ I64 i.2.now ∧ i.2.ps.length ≤ 5) (fun i => xs.length - i.1) (0, ⟨now, span, sh ps⟩) ⟨Nat.zero_le _, hn, sh_len ps⟩ ?_ (fun i hi => ?_)
  · ((repeat' (first|((conv => whnf);done)|((try conv => whnf);first|exact trivial|(refine And.intro ?_ ?_)|rfl)));(all_goals (try conv => whnf)))
  · obtain ⟨n, st⟩ := i
    obtain ⟨snow, sspan, sps⟩ := st
    obtain ⟨hle, hn1, hln⟩ := hi
    simp only at hle hn1 hln
    ((repeat' ((conv => whnf);(first|refine z1 ?_|refine z2 ?_|refine z3 ?_|refine z4 ?_|refine z5 ?_|refine z6 ?_|refine z7 ?_|refine z8 ?_|refine z9 ?_|refine za ?_|refine zb ?_|refine zc ?_|refine zd ?_|refine ze ?_|refine zf ?_|refine zg ?_|refine zh ?_|((first|refine zi ?_ ?_|refine zj ?_ ?_|refine zk ?_ ?_)<;> intro hh <;> first|(exfalso;omega)|skip)|(refine zl ?_ ?_<;> intro hh)|refine zm ?_|refine zn ?_|refine zo ?_|refine zp ?_|refine zq ?_|refine zr ?_|refine zs _ rfl ?_|refine zu ?_|exact Sy.fin_val (fun e=>rfl))));(all_goals (try conv => whnf)))
    have hlt : n < xs.length := by simp only at *; omega
    have hoo := ho xs[n] (List.getElem_mem _)
    refine Sy.el_map xs[n] (List.getElem?_eq_getElem hlt) ?_
    generalize xs[n] = o at *
    ((repeat' ((conv => whnf);(first|refine z1 ?_|refine z2 ?_|refine z3 ?_|refine z4 ?_|refine z5 ?_|refine z6 ?_|refine z7 ?_|refine z8 ?_|refine z9 ?_|refine za ?_|refine zb ?_|refine zc ?_|refine zd ?_|refine ze ?_|refine zf ?_|refine zg ?_|refine zh ?_|((first|refine zi ?_ ?_|refine zj ?_ ?_|refine zk ?_ ?_)<;> intro hh <;> first|(exfalso;omega)|skip)|(refine zl ?_ ?_<;> intro hh)|refine zm ?_|refine zn ?_|refine zo ?_|refine zp ?_|refine zq ?_|refine zr ?_|refine zs _ rfl ?_|refine zu ?_|exact Sy.fin_val (fun e=>rfl))));(all_goals (try conv => whnf)))
    refine Sy.call_r1 ⟨51, 3, sps.length, sps.map encP⟩ (fun k => .agg [.v (.int .i64 snow), .v (.int .i64 sspan), .row k]) Try.call17 (fun e a w' h => short_id snow sspan _ sps w' hln (Sy.row_reads h (.inl ⟨_, rfl⟩))) ?_
    ((repeat' ((conv => whnf);(first|refine z1 ?_|refine z2 ?_|refine z3 ?_|refine z4 ?_|refine z5 ?_|refine z6 ?_|refine z7 ?_|refine z8 ?_|refine z9 ?_|refine za ?_|refine zb ?_|refine zc ?_|refine zd ?_|refine ze ?_|refine zf ?_|refine zg ?_|refine zh ?_|((first|refine zi ?_ ?_|refine zj ?_ ?_|refine zk ?_ ?_)<;> intro hh <;> first|(exfalso;omega)|skip)|(refine zl ?_ ?_<;> intro hh)|refine zm ?_|refine zn ?_|refine zo ?_|refine zp ?_|refine zq ?_|refine zr ?_|refine zs _ rfl ?_|refine zu ?_|exact Sy.fin_val (fun e=>rfl))));(all_goals (try conv => whnf)))
    have hrn := runV_now snow sspan sps o hn1
    have hrl := runV_len snow sspan sps o
    refine Sy.call_r2 8 (rowH (runV snow sspan sps o).h) (rowI (runV snow sspan sps o).gone) (.tup [.agg [.v (.int .i64 (runV snow sspan sps o).h.now), .v (.int .i64 (runV snow sspan sps o).h.span), .row 8], .c (.v (.bool (runV snow sspan sps o).came)), .c (.row 9), .c (.v (.int .i64 (runV snow sspan sps o).e))])
      Try.call18 (fun e a w' h => run_any snow sspan _ sps o w' hn1 hoo (Sy.row_reads h (.inl ⟨_, rfl⟩))) ?_
    generalize hrv : runV snow sspan sps o = r at *
    ((repeat' ((conv => whnf);(first|refine z1 ?_|refine z2 ?_|refine z3 ?_|refine z4 ?_|refine z5 ?_|refine z6 ?_|refine z7 ?_|refine z8 ?_|refine z9 ?_|refine za ?_|refine zb ?_|refine zc ?_|refine zd ?_|refine ze ?_|refine zf ?_|refine zg ?_|refine zh ?_|((first|refine zi ?_ ?_|refine zj ?_ ?_|refine zk ?_ ?_)<;> intro hh <;> first|(exfalso;omega)|skip)|(refine zl ?_ ?_<;> intro hh)|refine zm ?_|refine zn ?_|refine zo ?_|refine zp ?_|refine zq ?_|refine zr ?_|refine zs _ rfl ?_|refine zu ?_|exact Sy.fin_val (fun e=>rfl))));(all_goals (try conv => whnf)))
    refine Sy.meet1 11 [.row 51 3 r.h.ps.length (.vs (r.h.ps.map encP)), .row 3 1 r.gone.length (.vs (r.gone.map encI)), .cells 27 [.v (.int .i64 r.h.now), .v (.int .i64 r.h.span), .row 11]]
      [(13, .c (.loc 13 0)), (14, .c (.v (.bool r.came))), (15, .c (.row 12)), (16, .c (.v (.int .i64 r.e)))] [] Sy.tab_ok rfl ?_ ?_
    · all_goals (refine Sy.draw_go [] (by kernel_rfl) ?_; intro e0; conv => whnf)
      all_goals (refine zt 0 rfl ?_)
      all_goals (conv => whnf)
      all_goals (refine zt 1 rfl ?_)
      all_goals (conv => whnf)
      all_goals (focus
        refine zd1 [2, 9] (zx rfl ?_ (zx rfl ?_ zy))
        focus
          conv => whnf
          refine Sy.call_r1 ⟨51, 3, sps.length, sps.map encP⟩ (fun k => .agg [.v (.int .i64 snow), .v (.int .i64 sspan), .row k]) Try.call17 (fun e a w' h => short_id snow sspan _ sps w' hln (Sy.row_reads h (.inl ⟨_, rfl⟩))) ?_
          conv => whnf
          all_goals (refine ⟨(by repeat' ((conv => whnf);first|exact trivial|(refine And.intro ?_ ?_)|rfl)), ?_⟩)
          all_goals (focus
            refine zd1 [3, 9] (zx rfl ?_ (zx rfl ?_ zy))
            focus
              conv => whnf
              refine Sy.call_r2f (rowH r.h) (rowI r.gone) (fun k => .tup [.agg [.v (.int .i64 r.h.now), .v (.int .i64 r.h.span), .row k], .c (.v (.bool r.came)), .c (.row (k + 1)), .c (.v (.int .i64 r.e))]) Try.call19 (fun e a w' h => wants_eq hrv hn1 hoo (Sy.row_reads h (.inl ⟨_, rfl⟩))) ?_
              conv => whnf
              all_goals (refine ⟨(by repeat' ((conv => whnf);first|exact trivial|(refine And.intro ?_ ?_)|rfl)), ?_⟩)
              all_goals (refine zt 4 rfl ?_)
              all_goals (conv => whnf)
              all_goals (refine zt 5 rfl ?_)
              all_goals (conv => whnf)
              all_goals (refine zt 6 rfl ?_)
              all_goals (conv => whnf)
              all_goals (refine zt 7 rfl ?_)
              all_goals (conv => whnf)
              all_goals (refine zt 8 rfl ?_)
              all_goals (conv => whnf)
              all_goals (refine zd1 [9] (zx rfl ?_ zy))
              all_goals (conv => whnf)
              all_goals (refine ⟨(by repeat' ((conv => whnf);first|exact trivial|(refine And.intro ?_ ?_)|rfl)), ?_⟩)
              all_goals (refine zd1 [10] (zx rfl ?_ zy))
              all_goals (conv => whnf)
              all_goals (refine ⟨(by repeat' ((conv => whnf);first|exact trivial|(refine And.intro ?_ ?_)|rfl)), ?_⟩)
              all_goals (refine zt 11 rfl ?_)
              all_goals (conv => whnf)
              all_goals (refine zt 12 rfl ?_)
              all_goals (conv => whnf)
              all_goals (refine zt 13 rfl ?_)
              all_goals (conv => whnf)
              all_goals (refine zw ?_)
            rotate_right
            focus
              conv => whnf
              all_goals (refine ⟨(by repeat' ((conv => whnf);first|exact trivial|(refine And.intro ?_ ?_)|rfl)), ?_⟩)
              all_goals (refine zd1 [3] (zx rfl ?_ zy))
              all_goals (conv => whnf)
              all_goals (refine Sy.call_r2f (rowH r.h) (rowI r.gone) (fun k => .tup [.agg [.v (.int .i64 r.h.now), .v (.int .i64 r.h.span), .row k], .c (.v (.bool r.came)), .c (.row (k + 1)), .c (.v (.int .i64 r.e))]) Try.call19 (fun e a w' h => wants_eq hrv hn1 hoo (Sy.row_reads h (.inl ⟨_, rfl⟩))) ?_)
              all_goals (conv => whnf)
              all_goals (refine ⟨(by repeat' ((conv => whnf);first|exact trivial|(refine And.intro ?_ ?_)|rfl)), ?_⟩)
              all_goals (refine zt 4 rfl ?_)
              all_goals (conv => whnf)
              all_goals (refine zt 5 rfl ?_)
              all_goals (conv => whnf)
              all_goals (refine zt 6 rfl ?_)
              all_goals (conv => whnf)
              all_goals (refine zt 7 rfl ?_)
              all_goals (conv => whnf)
              all_goals (refine zt 8 rfl ?_)
              all_goals (conv => whnf)
              all_goals (refine zd1 [10] (zx rfl ?_ zy))
              all_goals (conv => whnf)
              all_goals (refine ⟨(by repeat' ((conv => whnf);first|exact trivial|(refine And.intro ?_ ?_)|rfl)), ?_⟩)
              all_goals (refine zt 11 rfl ?_)
              all_goals (conv => whnf)
              all_goals (refine zt 12 rfl ?_)
              all_goals (conv => whnf)
              all_goals (refine zt 13 rfl ?_)
              all_goals (conv => whnf)
              all_goals (refine zw ?_))
        rotate_right
        focus
          conv => whnf
          all_goals (refine ⟨(by repeat' ((conv => whnf);first|exact trivial|(refine And.intro ?_ ?_)|rfl)), ?_⟩)
          all_goals (refine zd1 [2] (zx rfl ?_ zy))
          all_goals (conv => whnf)
          all_goals (refine Sy.call_r1 ⟨51, 3, sps.length, sps.map encP⟩ (fun k => .agg [.v (.int .i64 snow), .v (.int .i64 sspan), .row k]) Try.call17 (fun e a w' h => short_id snow sspan _ sps w' hln (Sy.row_reads h (.inl ⟨_, rfl⟩))) ?_)
          all_goals (conv => whnf)
          all_goals (refine ⟨(by repeat' ((conv => whnf);first|exact trivial|(refine And.intro ?_ ?_)|rfl)), ?_⟩)
          all_goals (refine zd1 [3] (zx rfl ?_ zy))
          all_goals (conv => whnf)
          all_goals (refine Sy.call_r2f (rowH r.h) (rowI r.gone) (fun k => .tup [.agg [.v (.int .i64 r.h.now), .v (.int .i64 r.h.span), .row k], .c (.v (.bool r.came)), .c (.row (k + 1)), .c (.v (.int .i64 r.e))]) Try.call19 (fun e a w' h => wants_eq hrv hn1 hoo (Sy.row_reads h (.inl ⟨_, rfl⟩))) ?_)
          all_goals (conv => whnf)
          all_goals (refine ⟨(by repeat' ((conv => whnf);first|exact trivial|(refine And.intro ?_ ?_)|rfl)), ?_⟩)
          all_goals (refine zt 4 rfl ?_)
          all_goals (conv => whnf)
          all_goals (refine zt 5 rfl ?_)
          all_goals (conv => whnf)
          all_goals (refine zt 6 rfl ?_)
          all_goals (conv => whnf)
          all_goals (refine zt 7 rfl ?_)
          all_goals (conv => whnf)
          all_goals (refine zt 8 rfl ?_)
          all_goals (conv => whnf)
          all_goals (refine zd1 [10] (zx rfl ?_ zy))
          all_goals (conv => whnf)
          all_goals (refine ⟨(by repeat' ((conv => whnf);first|exact trivial|(refine And.intro ?_ ?_)|rfl)), ?_⟩)
          all_goals (refine zt 11 rfl ?_)
          all_goals (conv => whnf)
          all_goals (refine zt 12 rfl ?_)
          all_goals (conv => whnf)
          all_goals (refine zt 13 rfl ?_)
          all_goals (conv => whnf)
          all_goals (refine zw ?_))
      all_goals (((repeat' (first|((conv => whnf);done)|((try conv => whnf);first|exact trivial|(refine And.intro ?_ ?_)|rfl)));(all_goals (try conv => whnf))))
    · obtain ⟨rh, rc, rg, re⟩ := r
      cases rc
      all_goals
        ((repeat' ((conv => whnf);(first|refine z1 ?_|refine z2 ?_|refine z3 ?_|refine z4 ?_|refine z5 ?_|refine z6 ?_|refine z7 ?_|refine z8 ?_|refine z9 ?_|refine za ?_|refine zb ?_|refine zc ?_|refine zd ?_|refine ze ?_|refine zf ?_|refine zg ?_|refine zh ?_|((first|refine zi ?_ ?_|refine zj ?_ ?_|refine zk ?_ ?_)<;> intro hh <;> first|(exfalso;omega)|skip)|(refine zl ?_ ?_<;> intro hh)|refine zm ?_|refine zn ?_|refine zo ?_|refine zp ?_|refine zq ?_|refine zr ?_|refine zs _ rfl ?_|refine zu ?_|exact Sy.fin_val (fun e=>rfl))));(all_goals (try conv => whnf)))
        refine Sy.call_val (.c (.v (.bool true))) Try.call20 rfl (fun e a w' h => by have := sameI_any (e.rv 9) (e.rv 12) rg rg w' (Sy.row_reads h (.inl ⟨_, rfl⟩)) (Sy.row_reads h (.inl ⟨_, rfl⟩)); rw [decide_eq_true rfl] at this; exact this) ?_
        ((repeat' ((conv => whnf);(first|refine z1 ?_|refine z2 ?_|refine z3 ?_|refine z4 ?_|refine z5 ?_|refine z6 ?_|refine z7 ?_|refine z8 ?_|refine z9 ?_|refine za ?_|refine zb ?_|refine zc ?_|refine zd ?_|refine ze ?_|refine zf ?_|refine zg ?_|refine zh ?_|((first|refine zi ?_ ?_|refine zj ?_ ?_|refine zk ?_ ?_)<;> intro hh <;> first|(exfalso;omega)|skip)|(refine zl ?_ ?_<;> intro hh)|refine zm ?_|refine zn ?_|refine zo ?_|refine zp ?_|refine zq ?_|refine zr ?_|refine zs _ rfl ?_|refine zu ?_|exact Sy.fin_val (fun e=>rfl))));(all_goals (try conv => whnf)))
        refine Sy.call_val (.c (.v (.bool true))) Try.call12 rfl (fun e a w' h => by have := rsame_any rh.now rh.span rh.now rh.span (e.rv 8) (e.rv 11) rh.ps rh.ps w' (Sy.row_reads h (.inl ⟨_, rfl⟩)) (Sy.row_reads h (.inl ⟨_, rfl⟩)); rw [sameB_self] at this; exact this) ?_
        ((repeat' ((conv => whnf);(first|refine z1 ?_|refine z2 ?_|refine z3 ?_|refine z4 ?_|refine z5 ?_|refine z6 ?_|refine z7 ?_|refine z8 ?_|refine z9 ?_|refine za ?_|refine zb ?_|refine zc ?_|refine zd ?_|refine ze ?_|refine zf ?_|refine zg ?_|refine zh ?_|((first|refine zi ?_ ?_|refine zj ?_ ?_|refine zk ?_ ?_)<;> intro hh <;> first|(exfalso;omega)|skip)|(refine zl ?_ ?_<;> intro hh)|refine zm ?_|refine zn ?_|refine zo ?_|refine zp ?_|refine zq ?_|refine zr ?_|refine zs _ rfl ?_|refine zu ?_|exact Sy.fin_val (fun e=>rfl))));(all_goals (try conv => whnf)))
        refine Sy.call_val (.c (.v (.bool true))) Try.call12 rfl (fun e a w' h => by have := rsame_any snow sspan snow sspan (e.rv 3) (e.rv 6) sps sps w' (Sy.row_reads h (.inl ⟨_, rfl⟩)) (Sy.row_reads h (.inl ⟨_, rfl⟩)); rw [sameB_self] at this; exact this) ?_
        ((repeat' ((conv => whnf);(first|refine z1 ?_|refine z2 ?_|refine z3 ?_|refine z4 ?_|refine z5 ?_|refine z6 ?_|refine z7 ?_|refine z8 ?_|refine z9 ?_|refine za ?_|refine zb ?_|refine zc ?_|refine zd ?_|refine ze ?_|refine zf ?_|refine zg ?_|refine zh ?_|((first|refine zi ?_ ?_|refine zj ?_ ?_|refine zk ?_ ?_)<;> intro hh <;> first|(exfalso;omega)|skip)|(refine zl ?_ ?_<;> intro hh)|refine zm ?_|refine zn ?_|refine zo ?_|refine zp ?_|refine zq ?_|refine zr ?_|refine zs _ rfl ?_|refine zu ?_|exact Sy.fin_val (fun e=>rfl))));(all_goals (try conv => whnf)))
        refine Sy.call_r1 ⟨51, 3, rh.ps.length, rh.ps.map encP⟩ (fun k => .agg [.v (.int .i64 rh.now), .v (.int .i64 rh.span), .row k]) Try.call21 (fun e a w' h => copy_any rh.now rh.span _ rh.ps w' (Sy.row_reads h (.inl ⟨_, rfl⟩)) (by simp only at hrl; omega)) ?_
        ((repeat' ((conv => whnf);(first|refine z1 ?_|refine z2 ?_|refine z3 ?_|refine z4 ?_|refine z5 ?_|refine z6 ?_|refine z7 ?_|refine z8 ?_|refine z9 ?_|refine za ?_|refine zb ?_|refine zc ?_|refine zd ?_|refine ze ?_|refine zf ?_|refine zg ?_|refine zh ?_|((first|refine zi ?_ ?_|refine zj ?_ ?_|refine zk ?_ ?_)<;> intro hh <;> first|(exfalso;omega)|skip)|(refine zl ?_ ?_<;> intro hh)|refine zm ?_|refine zn ?_|refine zo ?_|refine zp ?_|refine zq ?_|refine zr ?_|refine zs _ rfl ?_|refine zu ?_|exact Sy.fin_val (fun e=>rfl))));(all_goals (try conv => whnf)))
      all_goals
        have hl8 : rh.ps.length ≤ 5 := hrl
        refine Sy.loop_inv Sy.tab_ok (fun i : Nat × List Pulse => [(81, .c (.v (.int .i64 i.1)))]) (fun i => [(8, .row 51 3 rh.ps.length (.vs (i.2.map encP)))]) (fun i => i.1 ≤ rh.ps.length ∧ i.2.length = rh.ps.length) (fun i => rh.ps.length - i.1) (0, rh.ps) ⟨Nat.zero_le _, rfl⟩ ?_ (fun i hi => ?_)
        · ((repeat' (first|((conv => whnf);done)|((try conv => whnf);first|exact trivial|(refine And.intro ?_ ?_)|rfl)));(all_goals (try conv => whnf)))
        · obtain ⟨m, l⟩ := i
          obtain ⟨hm1, hm2⟩ := hi
          simp only at hm1 hm2
          ((repeat' ((conv => whnf);(first|refine z1 ?_|refine z2 ?_|refine z3 ?_|refine z4 ?_|refine z5 ?_|refine z6 ?_|refine z7 ?_|refine z8 ?_|refine z9 ?_|refine za ?_|refine zb ?_|refine zc ?_|refine zd ?_|refine ze ?_|refine zf ?_|refine zg ?_|refine zh ?_|((first|refine zi ?_ ?_|refine zj ?_ ?_|refine zk ?_ ?_)<;> intro hh <;> first|(exfalso;omega)|skip)|(refine zl ?_ ?_<;> intro hh)|refine zm ?_|refine zn ?_|refine zo ?_|refine zp ?_|refine zq ?_|refine zr ?_|refine zs _ rfl ?_|refine zu ?_|exact Sy.fin_val (fun e=>rfl))));(all_goals (try conv => whnf)))
          · have hml : m < l.length := by simp only at *; omega
            refine Sy.el_map l[m] (List.getElem?_eq_getElem hml) ?_
            generalize l[m] = p at *
            ((repeat' ((conv => whnf);(first|refine z1 ?_|refine z2 ?_|refine z3 ?_|refine z4 ?_|refine z5 ?_|refine z6 ?_|refine z7 ?_|refine z8 ?_|refine z9 ?_|refine za ?_|refine zb ?_|refine zc ?_|refine zd ?_|refine ze ?_|refine zf ?_|refine zg ?_|refine zh ?_|((first|refine zi ?_ ?_|refine zj ?_ ?_|refine zk ?_ ?_)<;> intro hh <;> first|(exfalso;omega)|skip)|(refine zl ?_ ?_<;> intro hh)|refine zm ?_|refine zn ?_|refine zo ?_|refine zp ?_|refine zq ?_|refine zr ?_|refine zs _ rfl ?_|refine zu ?_|exact Sy.fin_val (fun e=>rfl))));(all_goals (try conv => whnf)))
            refine ⟨(m + 1, l.set m ⟨99, p.heard, p.down⟩), ⟨by simp only at *; omega, by simp only [List.length_set]; exact hm2⟩, by simp only at *; omega, ?_⟩
            ((repeat' (first|((conv => whnf);done)|((try conv => whnf);first|exact trivial|(refine And.intro ?_ ?_)|rfl)));(all_goals (try conv => whnf)))
            rw [List.map_set]
            rfl
          · refine Sy.call_val (.c (.v (.bool true))) Try.call12 rfl (fun e a w' h => by have := rsame_any snow sspan snow sspan (e.rv 3) (e.rv 6) sps sps w' (Sy.row_reads h (.inl ⟨_, rfl⟩)) (Sy.row_reads h (.inl ⟨_, rfl⟩)); rw [sameB_self] at this; exact this) ?_
            ((repeat' ((conv => whnf);(first|refine z1 ?_|refine z2 ?_|refine z3 ?_|refine z4 ?_|refine z5 ?_|refine z6 ?_|refine z7 ?_|refine z8 ?_|refine z9 ?_|refine za ?_|refine zb ?_|refine zc ?_|refine zd ?_|refine ze ?_|refine zf ?_|refine zg ?_|refine zh ?_|((first|refine zi ?_ ?_|refine zj ?_ ?_|refine zk ?_ ?_)<;> intro hh <;> first|(exfalso;omega)|skip)|(refine zl ?_ ?_<;> intro hh)|refine zm ?_|refine zn ?_|refine zo ?_|refine zp ?_|refine zq ?_|refine zr ?_|refine zs _ rfl ?_|refine zu ?_|exact Sy.fin_val (fun e=>rfl))));(all_goals (try conv => whnf)))
            · refine ⟨(n + 1, ⟨rh.now, rh.span, rh.ps⟩), ⟨by simp only at *; omega, hrn, hrl⟩, by simp only at *; omega, ?_⟩
              ((repeat' (first|((conv => whnf);done)|((try conv => whnf);first|exact trivial|(refine And.intro ?_ ?_)|rfl)));(all_goals (try conv => whnf)))
            · refine ⟨(n + 1, ⟨snow, sspan, sps⟩), ⟨by simp only at *; omega, hn1, hln⟩, by simp only at *; omega, ?_⟩
              ((repeat' (first|((conv => whnf);done)|((try conv => whnf);first|exact trivial|(refine And.intro ?_ ?_)|rfl)));(all_goals (try conv => whnf)))
end Go.Proofs.Ytiapcohnjklcfaa
