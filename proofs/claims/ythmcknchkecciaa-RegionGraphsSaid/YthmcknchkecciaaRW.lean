/- Region: Alone by contract of the caller's own row. -/
import Derived.Test.YthmcknchkecciaaRV
namespace Go.Proofs.Ythmcknchkecciaa
open Go Go.RowKit
open Sy (C SV V1 Blk St XD Els)
set_option maxRecDepth 10000

def a1H (gl : List OpV) : List (Nat × Blk) := [(0, .ext 5 gl.length (.vs (gl.map encOV)))]
def bagL (ls : List OpV) : List (Value × Nat × List (List Value)) := ls.map fun o => (o.iv, o.op.ins.length, o.op.ins.map encI)
def aloneC (gl : List OpV) (n : Int) : Sy.Ctr (List OpV) := { avs := [.agg [.row 0], .c (.v (.int .i64 n))], n0 := 1, H0 := a1H gl, pre := fun F w => ∀ o ∈ gl, OOk F w o, p := fun ls => opsOf ls = aloneL (opsOf gl) n, sv := fun _ => .tup [.agg [.row 5], .c (.row 3), .c (.v (.int .i64 (askE (opsOf gl) n gl.length)))], n1 := fun _ => 7, H1 := fun ls => [(5, .row 62 5 ls.length (.vs (ls.map encOV))), (3, .row 3 1 (ofV (opsOf gl) n).length (.vs ((ofV (opsOf gl) n).map encI))), (6, .bag 3 1 (bagL ls))] }
attribute [local irreducible] ofL regOf checkV askE
set_option maxHeartbeats 4000000 in
theorem alone_does (gl : List OpV) (n : Int) (hl : gl.length ≤ 100000) : Sy.Does Try.prog 33 (aloneC gl n) := by
  have hol := opsOf_len gl
  refine Sy.does_of Sy.lv33 Sy.tab_ok Try.func33 rfl _ Try.ntmps33 _ rfl rfl (fun e0 w hpre => ?_)
  have hpre : ∀ o ∈ gl, OOk (Sy.frz e0 (a1H gl) w) w o := hpre
  ((repeat' ((conv => whnf);(first|refine zA ?_|(refine zI ?_ ?_<;> intro hh<;> first|(exfalso;omega)|skip)|(refine zl ?_ ?_<;> intro hh)|refine zq ?_|refine zv ?_|exact Sy.fin_val fun e=>rfl)));(all_goals (try conv => whnf)))
  refine Sy.call_r1 ⟨3, 1, (ofV (opsOf gl) n).length, (ofV (opsOf gl) n).map encI⟩ (fun j => .tup [.c (.row j), .c (.v (.int .i64 (askE (opsOf gl) n gl.length)))]) Try.call29 (fun e a w' h => gof_any (e.rv 0) gl n w' ⟨Sy.row_reads h (.inr rfl), fun o ho => (XD.later h (hpre o ho)).mono fun b hb => h.fl b hb⟩) ?_
  by_cases h0 : askE (opsOf gl) n gl.length = 0
  · obtain ⟨hc, hn1, hn2⟩ := askE_ok h0
    have hof : ofV (opsOf gl) n = ofL (opsOf gl) n.toNat := by unfold ofV; rw [hol, if_pos h0]
    have hmem : ∀ x ∈ ofV (opsOf gl) n, 0 ≤ x ∧ x < gl.length := fun x hx => by
      rw [hof] at hx
      have := (ofL_mem.1 hx).1
      rw [hol] at this; exact this
    have hnd : (ofV (opsOf gl) n).Nodup := by rw [hof]; exact (ofL_strict _ _).imp fun h => by omega
    have hlen : (ofV (opsOf gl) n).length ≤ gl.length := by
      rw [hof, ← hol]; exact ofL_len _ _
    rw [h0]
    have hlt : ∀ x ∈ ofV (opsOf gl) n, x.toNat < (opsOf gl).length := fun x hx => by
      have := hmem x hx
      omega
    generalize hL : ofV (opsOf gl) n = l at *
    ((repeat' ((conv => whnf);(first|refine zA ?_|(refine zI ?_ ?_<;> intro hh<;> first|(exfalso;omega)|skip)|(refine zl ?_ ?_<;> intro hh)|refine zq ?_|refine zv ?_|exact Sy.fin_val fun e=>rfl)));(all_goals (try conv => whnf)))
    refine Sy.sem_subF (Sy.sub_rowc 4 0 62 5 rfl rfl) ?_
    conv => whnf
    refine Sy.sem_subF (Sy.sub_newbag 3 1) ?_
    conv => whnf
    refine Sy.loop_ends Sy.tab_ok (fun x : Nat × List OpV => [(27, .c (.v (.int .i64 x.1)))]) (fun x => [(4, .cells 26 [.row 5]), (5, .row 62 5 x.2.length (.vs (x.2.map encOV))), (6, .bag 3 1 (bagL x.2))]) (fun _ => Sy.frz e0 (a1H gl) w) (fun _ _ => True)
      (fun x => x.1 ≤ l.length ∧ opsOf x.2 = aloneN (opsOf gl) l (l.take x.1)) (fun x => l.length - x.1) (0, []) ⟨Nat.zero_le _, rfl⟩ ?_ (fun x hx => ?_)
    · ((repeat' (first|((conv => whnf);done)|((try conv => whnf);first|exact trivial|(refine And.intro ?_ ?_)|rfl|exact fun _ _ _ h=>h|exact fun _ _ _ _=>trivial)));(all_goals (try conv => whnf)))
    · obtain ⟨i, ls⟩ := x
      obtain ⟨hi, hls⟩ := hx
      dsimp only at hi hls ⊢
      have hll : ls.length = i := by
        rw [← opsOf_len, hls, aloneN_len fun x hx => hlt x (List.mem_of_mem_take hx), List.length_take]; omega
      ((repeat' ((conv => whnf);(first|refine zA ?_|(refine zI ?_ ?_<;> intro hh<;> first|(exfalso;omega)|skip)|(refine zl ?_ ?_<;> intro hh)|refine zq ?_|refine zv ?_|exact Sy.fin_val fun e=>rfl)));(all_goals (try conv => whnf)))
      · have hil : i < l.length := by omega
        have hg := List.getElem?_eq_getElem hil
        have hm := hmem _ (List.getElem_mem hil)
        generalize l[i] = k at *
        refine Sy.el_map k hg ?_
        have hgo := List.getElem?_eq_getElem (show k.toNat < gl.length by omega)
        generalize gl[k.toNat] = o at *
        have hoo := hpre o (List.mem_of_getElem? hgo)
        have hio : o.op.ins.length ≤ 100000 := by
          have ha := (check_good hc) k.toNat o.op (by omega) (opsOf_get hgo)
          have := rises_len ha.2.2.1
          omega
        ((repeat' ((conv => whnf);(first|refine zA ?_|(refine zI ?_ ?_<;> intro hh<;> first|(exfalso;omega)|skip)|(refine zl ?_ ?_<;> intro hh)|refine zq ?_|refine zv ?_|exact Sy.fin_val fun e=>rfl)));(all_goals (try conv => whnf)))
        refine Sy.el_map o hgo ?_
        ((repeat' ((conv => whnf);(first|refine zA ?_|(refine zI ?_ ?_<;> intro hh<;> first|(exfalso;omega)|skip)|(refine zl ?_ ?_<;> intro hh)|refine zq ?_|refine zv ?_|exact Sy.fin_val fun e=>rfl)));(all_goals (try conv => whnf)))
        refine open_f _ _ _ (hoo) ?_
        ((repeat' ((conv => whnf);(first|refine zA ?_|(refine zI ?_ ?_<;> intro hh<;> first|(exfalso;omega)|skip)|(refine zl ?_ ?_<;> intro hh)|refine zq ?_|refine zv ?_|exact Sy.fin_val fun e=>rfl)));(all_goals (try conv => whnf)))
        refine Sy.call_r1 ⟨3, 1, o.op.ins.length, o.op.ins.map encI⟩ (fun j => .c (.row j)) Try.call50 (fun e a w' h => cloneI_any _ o.op.ins w' (Sy.row_reads h (.inr rfl)) (by omega)) ?_
        ((repeat' ((conv => whnf);(first|refine zA ?_|(refine zI ?_ ?_<;> intro hh<;> first|(exfalso;omega)|skip)|(refine zl ?_ ?_<;> intro hh)|refine zq ?_|refine zv ?_|exact Sy.fin_val fun e=>rfl)));(all_goals (try conv => whnf)))
        refine Sy.loop_inv Sy.tab_ok (fun j : Nat => [(43, .c (.v (.int .i64 j)))]) (fun j => [(9, .row 3 1 o.op.ins.length (.vs ((mixL (posL l) o.op.ins j).map encI)))]) (fun j => j ≤ o.op.ins.length) (fun j => o.op.ins.length - j) 0 (Nat.zero_le _) ?_ (fun j hj => ?_)
        · ((repeat' (first|((conv => whnf);done)|((try conv => whnf);first|exact trivial|(refine And.intro ?_ ?_)|rfl|exact fun _ _ _ h=>h|exact fun _ _ _ _=>trivial)));(all_goals (try conv => whnf)))
        · ((repeat' ((conv => whnf);(first|refine zA ?_|(refine zI ?_ ?_<;> intro hh<;> first|(exfalso;omega)|skip)|(refine zl ?_ ?_<;> intro hh)|refine zq ?_|refine zv ?_|exact Sy.fin_val fun e=>rfl)));(all_goals (try conv => whnf)))
          · have hjl : j < o.op.ins.length := by omega
            have hgx := List.getElem?_eq_getElem hjl
            generalize o.op.ins[j] = x at *
            refine Sy.el_map x (mix_get hgx) ?_
            ((repeat' ((conv => whnf);(first|refine zA ?_|(refine zI ?_ ?_<;> intro hh<;> first|(exfalso;omega)|skip)|(refine zl ?_ ?_<;> intro hh)|refine zq ?_|refine zv ?_|exact Sy.fin_val fun e=>rfl)));(all_goals (try conv => whnf)))
            refine Sy.draw_go [9] (by kernel_rfl) ?_
            intro e0
            conv => whnf
            refine zt 0 rfl ?_
            conv => whnf
            refine zt 1 rfl ?_
            conv => whnf
            refine zt 2 rfl ?_
            conv => whnf
            refine zt 3 rfl ?_
            conv => whnf
            refine zt 4 rfl ?_
            conv => whnf
            refine zd1 [5] (zx rfl ?_ zy)
            conv => whnf
            refine Sy.call_val (.c (.v (.int .i64 (posL l x)))) Try.call48 rfl (fun e a w' h => indexP_any (e.rv 3) l x w' hnd (Sy.row_reads h (.inl ⟨_, rfl⟩))) ?_
            conv => whnf
            refine ⟨(by repeat' ((conv => whnf);first|exact trivial|(refine And.intro ?_ ?_)|rfl)), ?_⟩
            refine zd1 [6] (zx rfl ?_ zy)
            conv => whnf
            refine Sy.idx_nat hjl ?_
            conv => whnf
            refine ⟨(by repeat' ((conv => whnf);first|exact trivial|(refine And.intro ?_ ?_)|rfl)), ?_⟩
            refine zd1 [7] (zx rfl ?_ zy)
            conv => whnf
            refine Sy.el_map x (mix_get hgx) ?_
            conv => whnf
            refine ⟨(by repeat' ((conv => whnf);first|exact trivial|(refine And.intro ?_ ?_)|rfl)), ?_⟩
            refine zw ?_
            skip
            all_goals (((repeat' ((conv => whnf);(first|refine zA ?_|(refine zI ?_ ?_<;> intro hh<;> first|(exfalso;omega)|skip)|(refine zl ?_ ?_<;> intro hh)|refine zq ?_|refine zv ?_|exact Sy.fin_val fun e=>rfl)));(all_goals (try conv => whnf))))
            all_goals (rw [show ((mixL (posL l) o.op.ins j).map encI).set j (Sy.splice (encI x) 0 [Value.int IntKind.i64 (posL l x)]) = (mixL (posL l) o.op.ins (j + 1)).map encI from by rw [← mix_set hgx, List.map_set]; rfl])
            all_goals (refine ⟨j + 1, by omega, by omega, ?_⟩)
            all_goals (((repeat' (first|((conv => whnf);done)|((try conv => whnf);first|exact trivial|(refine And.intro ?_ ?_)|rfl|exact fun _ _ _ h=>h|exact fun _ _ _ _=>trivial)));(all_goals (try conv => whnf))))
          · have e : j = o.op.ins.length := by omega
            subst e
            rw [mix_end]
            refine Sy.need_of (by show (ls.length + 1) * 56 ≤ _ ∧ _; omega) ?_
            ((repeat' ((conv => whnf);(first|refine zA ?_|(refine zI ?_ ?_<;> intro hh<;> first|(exfalso;omega)|skip)|(refine zl ?_ ?_<;> intro hh)|refine zq ?_|refine zv ?_|exact Sy.fin_val fun e=>rfl)));(all_goals (try conv => whnf)))
            refine Sy.end_bag 9 11 6 (fun u => (ls ++ [(⟨aloneO l o.op, u⟩ : OpV)]).map encOV) (by decide) (by decide) (by decide) rfl rfl rfl (fun e => by
              show List.map _ ((Els.vs (ls.map encOV)).toC ++ _) = _
              rw [List.map_append, Sy.Els.den_toC, List.map_append]; rfl) (fun u hu => ?_)
            conv => whnf
            refine Sy.end_here ⟨(i + 1, ls ++ [(⟨aloneO l o.op, u⟩ : OpV)]), ⟨by dsimp only; omega, ?_⟩, by dsimp only; omega, ?_⟩
            · dsimp only
              rw [aloneN_succ hg (opsOf_get hgo), ← hls]
              unfold opsOf
              rw [List.map_append]; rfl
            · dsimp only
              ((repeat' (first|((conv => whnf);done)|((try conv => whnf);first|exact trivial|(refine And.intro ?_ ?_)|rfl|exact fun _ _ _ h=>h|exact fun _ _ _ _=>trivial)));(all_goals (try conv => whnf)))
              · simp
              · unfold bagL
                rw [List.map_append]
                show _ = _ ++ [(u, (o.op.ins.map (posL l)).length, _)]
                rw [List.length_map]; rfl
      · have e : i = l.length := by omega
        subst e
        rw [List.take_length] at hls
        refine Sy.fin_own ls (hls.trans (by unfold aloneL; rw [hL])) ?_ rfl (fun w' hw' => ⟨fun _ => False, fun _ h => h.elim, trivial⟩)
        show Sy.finGo _ _ _ (.tup [.agg [.row 5], .c (.row 3), .c (.v (.int .i64 (askE (opsOf gl) n gl.length)))]) 7 [(5, .row 62 5 ls.length (.vs (ls.map encOV))), (3, .row 3 1 (ofV (opsOf gl) n).length (.vs ((ofV (opsOf gl) n).map encI))), (6, .bag 3 1 (bagL ls))]
        rw [h0, hL]
        ((conv => whnf);(refine And.intro ?_ (And.intro ?_ (And.intro ?_ ?_)));(all_goals ((repeat' (first|((conv => whnf);done)|((try conv => whnf);first|exact trivial|(refine And.intro ?_ ?_)|rfl|exact fun _ _ _ h=>h|exact fun _ _ _ _=>trivial)));(all_goals (try conv => whnf)))))
  · have hof : ofV (opsOf gl) n = [] := by unfold ofV; rw [hol, if_neg h0]
    ((repeat' ((conv => whnf);(first|refine zA ?_|(refine zI ?_ ?_<;> intro hh<;> first|(exfalso;omega)|skip)|(refine zl ?_ ?_<;> intro hh)|refine zq ?_|refine zv ?_|exact Sy.fin_val fun e=>rfl)));(all_goals (try conv => whnf)))
    refine Sy.fin_nilrow 62 5 (.tup [.agg [.row 4], .c (.v (.slice none 0 0)), .c (.v (.int .i64 (askE (opsOf gl) n gl.length)))]) (fun e he => by show Value.tuple #[.agg #[e.rv 4], _, _] = _; rw [he]; rfl) ?_
    conv => whnf
    refine Sy.fin_nilrow 3 1 (.tup [.agg [.row 4], .c (.row 5), .c (.v (.int .i64 (askE (opsOf gl) n gl.length)))]) (fun e he => by show Value.tuple #[_, e.rv 5, _] = _; rw [he]; rfl) ?_
    conv => whnf
    refine Sy.fin_subx (Sy.subx_newbag 3 1) ?_
    conv => whnf
    refine Sy.fin_own ([] : List OpV) (by show _ = aloneL (opsOf gl) n; unfold aloneL; rw [hof]; rfl) ?_ rfl (fun w' hw' => ⟨fun _ => False, fun _ h => h.elim, trivial⟩)
    show Sy.finGo _ _ _ _ 7 [(5, .row 62 5 0 (.vs [])), (3, .row 3 1 (ofV (opsOf gl) n).length (.vs ((ofV (opsOf gl) n).map encI))), (6, .bag 3 1 [])]
    rw [hof]
    ((conv => whnf);(refine And.intro ?_ (And.intro ?_ (And.intro ?_ ?_)));(all_goals ((repeat' (first|((conv => whnf);done)|((try conv => whnf);first|exact trivial|(refine And.intro ?_ ?_)|rfl|exact fun _ _ _ h=>h|exact fun _ _ _ _=>trivial)));(all_goals (try conv => whnf)))))
end Go.Proofs.Ythmcknchkecciaa
