/- Region: the document's Alone by contract of the caller's own row. -/
import Derived.Test.YthmcknchkecciaaRW
import Derived.Test.YthmcknchkecciaaRJ
namespace Go.Proofs.Ythmcknchkecciaa
open Go Go.RowKit
open Sy (C SV V1 Blk St XD Els)
set_option maxRecDepth 10000

theorem regOf_in {g : List Opr} {i : Nat} {o : Opr} {x : Int} (h : g[i]? = some o) (hx : x ∈ o.ins) : regOf g i = regOf g x.toNat := by
  have hi := (List.getElem?_eq_some_iff.1 h).1
  refine (Firsts.all (edgesL g)).same i x.toNat (Conn.edge ?_)
  unfold edgesL edgeN
  rw [List.mem_append]
  refine .inl (List.mem_flatten.2 ⟨insE i (edgeN.insAt g i), List.mem_map.2 ⟨i, List.mem_range.2 hi, rfl⟩, ?_⟩)
  unfold insE
  refine List.mem_map.2 ⟨x, ?_, rfl⟩
  unfold edgeN.insAt
  rw [h]; exact hx
theorem alone_closed {g : List Opr} (hg : goodTo g g.length) {n : Nat} {k : Int} {o : Opr} (hk : k ∈ ofL g n) (ho : g[k.toNat]? = some o) {x : Int} (hx : x ∈ o.ins) : x ∈ ofL g n := by
  obtain ⟨⟨h1, h2⟩, h3⟩ := ofL_mem.1 hk
  have ha := hg k.toNat o (by omega) ho
  have hb := rises_mem ha.2.2.1 x hx
  refine ofL_mem.2 ⟨⟨by omega, by omega⟩, ?_⟩
  rw [← regOf_in ho hx, h3]
theorem pos_at {l : List Int} {x : Int} (hx : x ∈ l) (hn : l.Nodup) : ∃ p : Nat, posL l x = (p : Int) ∧ p < l.length ∧ ∀ m, l[m]? = some x ↔ m = p := by
  refine ⟨l.idxOf x, by unfold posL; rw [if_pos hx], List.idxOf_lt_length_iff.2 hx, fun m => ⟨fun h => ?_, fun h => ?_⟩⟩
  · obtain ⟨hm, he⟩ := List.getElem?_eq_some_iff.1 h
    rw [← he, hn.idxOf_getElem m hm]
  · subst h
    rw [List.getElem?_eq_getElem (List.idxOf_lt_length_iff.2 hx), List.getElem_idxOf]
def raloneC (gl : List OpV) (n : Nat) : Sy.Ctr (List OpV) := { avs := [.agg [.row 0], .c (.v (.int .i64 n))], n0 := 1, H0 := a1H gl, pre := fun F w => ∀ o ∈ gl, OOk F w o, p := fun ls => opsOf ls = aloneL (opsOf gl) n, sv := fun _ => .tup [.agg [.row 5], .c (.row 3)], n1 := fun _ => 7, H1 := fun ls => [(5, .row 62 5 ls.length (.vs (ls.map encOV))), (3, .row 3 1 (ofV (opsOf gl) n).length (.vs ((ofV (opsOf gl) n).map encI))), (6, .bag 3 1 (bagL ls))] }
attribute [local irreducible] ofL regOf checkV askE
set_option maxHeartbeats 4000000 in
theorem ralone_does (gl : List OpV) (n : Nat) (h0 : askE (opsOf gl) n gl.length = 0) : Sy.Does Try.prog 34 (raloneC gl n) := by
  have hol := opsOf_len gl
  obtain ⟨hc, hn1, hn2⟩ := askE_ok h0
  have h8 := check_ok hc
  have hgd := check_good hc
  rw [hol] at h8
  refine Sy.does_of Sy.lv34 Sy.tab_ok Try.func34 rfl _ Try.ntmps34 _ rfl rfl (fun e0 w hpre => ?_)
  have hpre : ∀ o ∈ gl, OOk (Sy.frz e0 (a1H gl) w) w o := hpre
  have hof : ofV (opsOf gl) n = ofL (opsOf gl) n := by unfold ofV; rw [hol, if_pos h0]; rfl
  have hmem : ∀ x ∈ ofV (opsOf gl) n, 0 ≤ x ∧ x < gl.length := fun x hx => by
    rw [hof] at hx
    have := (ofL_mem.1 hx).1
    rw [hol] at this; exact this
  have hnd : (ofV (opsOf gl) n).Nodup := by rw [hof]; exact (ofL_strict _ _).imp fun h => by omega
  have hlen : (ofV (opsOf gl) n).length ≤ gl.length := by
    rw [hof, ← hol]; exact ofL_len _ _
  have hcl : ∀ k ∈ ofV (opsOf gl) n, ∀ o, (opsOf gl)[k.toNat]? = some o → ∀ x ∈ o.ins, x ∈ ofV (opsOf gl) n := by
    rw [hof]; exact fun k hk o ho x hx => alone_closed hgd hk ho hx
  have hlt : ∀ x ∈ ofV (opsOf gl) n, x.toNat < (opsOf gl).length := fun x hx => by
    have := hmem x hx
    omega
  ((repeat' ((conv => whnf);(first|refine zA ?_|(refine zI ?_ ?_<;> intro hh<;> first|(exfalso;omega)|skip)|(refine zl ?_ ?_<;> intro hh)|refine zq ?_|refine zv ?_|exact Sy.fin_val fun e=>rfl)));(all_goals (try conv => whnf)))
  refine Sy.call_r1 ⟨3, 1, (ofV (opsOf gl) n).length, (ofV (opsOf gl) n).map encI⟩ (fun j => .c (.row j)) Try.call30 (fun e a w' h => by
    rw [hof]
    exact rof_any (e.rv 0) gl n w' ⟨Sy.row_reads h (.inr rfl), fun o ho => (XD.later h (hpre o ho)).mono fun b hb => h.fl b hb⟩ (by omega) (by rw [← hol]; exact hgd) (by omega)) ?_
  generalize hL : ofV (opsOf gl) n = l at *
  ((repeat' ((conv => whnf);(first|refine zA ?_|(refine zI ?_ ?_<;> intro hh<;> first|(exfalso;omega)|skip)|(refine zl ?_ ?_<;> intro hh)|refine zq ?_|refine zv ?_|exact Sy.fin_val fun e=>rfl)));(all_goals (try conv => whnf)))
  refine Sy.sem_subF (Sy.sub_rowc 4 0 62 5 rfl rfl) ?_
  conv => whnf
  refine Sy.sem_subF (Sy.sub_newbag 3 1) ?_
  conv => whnf
  refine Sy.loop_ends Sy.tab_ok (fun x : Nat × List OpV => [(21, .c (.v (.int .i64 x.1)))]) (fun x => [(4, .cells 26 [.row 5]), (5, .row 62 5 x.2.length (.vs (x.2.map encOV))), (6, .bag 3 1 (bagL x.2))]) (fun _ => Sy.frz e0 (a1H gl) w) (fun _ _ => True)
    (fun x => x.1 ≤ l.length ∧ opsOf x.2 = aloneN (opsOf gl) l (l.take x.1)) (fun x => l.length - x.1) (0, []) ⟨Nat.zero_le _, rfl⟩ ?_ (fun x hx => ?_)
  · ((repeat' (first|((conv => whnf);done)|((try conv => whnf);first|exact trivial|(refine And.intro ?_ ?_)|rfl|exact fun _ _ _ h=>h|exact fun _ _ _ _=>trivial)));(all_goals (try conv => whnf)))
  · obtain ⟨i, ls⟩ := x
    obtain ⟨hi, hls⟩ := hx
    dsimp only at hi hls ⊢
    have hll : ls.length = i := by
      rw [← opsOf_len, hls, aloneN_len fun x hx => hlt x (List.mem_of_mem_take hx), List.length_take]; omega
    ((repeat' ((conv => whnf);(first|refine zA ?_|(refine zI ?_ ?_<;> intro hh<;> first|(exfalso;omega)|skip)|(refine zl ?_ ?_<;> intro hh)|refine zq ?_|refine zv ?_|exact Sy.fin_val fun e=>rfl)));(all_goals (try conv => whnf)))
    · have hil : i < l.length := by omega
      have hg := List.getElem?_eq_getElem hil
      have hm := hmem _ (List.getElem_mem hil)
      generalize l[i] = k at *
      refine Sy.el_map k hg ?_
      have hgo := List.getElem?_eq_getElem (show k.toNat < gl.length by omega)
      generalize gl[k.toNat] = o at *
      have hoo := hpre o (List.mem_of_getElem? hgo)
      have hin := hcl k (List.mem_of_getElem? hg) o.op (opsOf_get hgo)
      have hio : o.op.ins.length ≤ 100000 := by
        have ha := hgd k.toNat o.op (by omega) (opsOf_get hgo)
        have := rises_len ha.2.2.1
        omega
      ((repeat' ((conv => whnf);(first|refine zA ?_|(refine zI ?_ ?_<;> intro hh<;> first|(exfalso;omega)|skip)|(refine zl ?_ ?_<;> intro hh)|refine zq ?_|refine zv ?_|exact Sy.fin_val fun e=>rfl)));(all_goals (try conv => whnf)))
      refine Sy.el_map o hgo ?_
      ((repeat' ((conv => whnf);(first|refine zA ?_|(refine zI ?_ ?_<;> intro hh<;> first|(exfalso;omega)|skip)|(refine zl ?_ ?_<;> intro hh)|refine zq ?_|refine zv ?_|exact Sy.fin_val fun e=>rfl)));(all_goals (try conv => whnf)))
      refine open_f _ _ _ (hoo) ?_
      ((repeat' ((conv => whnf);(first|refine zA ?_|(refine zI ?_ ?_<;> intro hh<;> first|(exfalso;omega)|skip)|(refine zl ?_ ?_<;> intro hh)|refine zq ?_|refine zv ?_|exact Sy.fin_val fun e=>rfl)));(all_goals (try conv => whnf)))
      refine Sy.sem_subF (Sy.sub_row 11 3 1 rfl) ?_
      conv => whnf
      refine Sy.loop_inv Sy.tab_ok (fun j : Nat => [(33, .c (.v (.int .i64 j))), (11, .c (.row 9))]) (fun j => [(9, .row 3 1 j (.vs (((o.op.ins.take j).map (posL l)).map encI)))]) (fun j => j ≤ o.op.ins.length) (fun j => o.op.ins.length - j) 0 (Nat.zero_le _) ?_ (fun j hj => ?_)
      · ((repeat' (first|((conv => whnf);done)|((try conv => whnf);first|exact trivial|(refine And.intro ?_ ?_)|rfl|exact fun _ _ _ h=>h|exact fun _ _ _ _=>trivial)));(all_goals (try conv => whnf)))
      · ((repeat' ((conv => whnf);(first|refine zA ?_|(refine zI ?_ ?_<;> intro hh<;> first|(exfalso;omega)|skip)|(refine zl ?_ ?_<;> intro hh)|refine zq ?_|refine zv ?_|refine zu ?_|exact Sy.fin_val fun e=>rfl)));(all_goals (try conv => whnf)))
        · have hjl : j < o.op.ins.length := by omega
          have hgx := List.getElem?_eq_getElem hjl
          generalize o.op.ins[j] = x at *
          obtain ⟨q, hq1, hq2, hq3⟩ := pos_at (hin x (List.mem_of_getElem? hgx)) hnd
          refine Sy.el_map x hgx ?_
          ((repeat' ((conv => whnf);(first|refine zA ?_|(refine zI ?_ ?_<;> intro hh<;> first|(exfalso;omega)|skip)|(refine zl ?_ ?_<;> intro hh)|refine zq ?_|refine zv ?_|exact Sy.fin_val fun e=>rfl)));(all_goals (try conv => whnf)))
          refine Sy.loop_inv Sy.tab_ok (fun m : Nat => [(39, .c (.v (.int .i64 m))), (11, .c (.row 9))]) (fun m => [(9, .row 3 1 (if q < m then j + 1 else j) (.vs (((o.op.ins.take j).map (posL l) ++ if q < m then [posL l x] else []).map encI)))]) (fun m => m ≤ l.length) (fun m => l.length - m) 0 (Nat.zero_le _) ?_ (fun m hm' => ?_)
          · rw [if_neg (Nat.not_lt_zero q), if_neg (Nat.not_lt_zero q), List.append_nil]
            ((repeat' (first|((conv => whnf);done)|((try conv => whnf);first|exact trivial|(refine And.intro ?_ ?_)|rfl|exact fun _ _ _ h=>h|exact fun _ _ _ _=>trivial)));(all_goals (try conv => whnf)))
          · by_cases hqm : q < m
            · rw [if_pos hqm, if_pos hqm]
              ((repeat' ((conv => whnf);(first|refine zA ?_|(refine zI ?_ ?_<;> intro hh<;> first|(exfalso;omega)|skip)|(refine zl ?_ ?_<;> intro hh)|refine zq ?_|refine zv ?_|refine zu ?_|exact Sy.fin_val fun e=>rfl)));(all_goals (try conv => whnf)))
              · have hml : m < l.length := by omega
                have hgm := List.getElem?_eq_getElem hml
                have hne : l[m] ≠ x := fun e => by
                  rw [e] at hgm
                  have := (hq3 m).1 hgm
                  omega
                generalize l[m] = z at *
                refine Sy.el_map z hgm ?_
                ((repeat' ((conv => whnf);(first|refine zA ?_|(refine zI ?_ ?_<;> intro hh<;> first|(exfalso;omega)|skip)|(refine zl ?_ ?_<;> intro hh)|refine zq ?_|refine zv ?_|refine zu ?_|exact Sy.fin_val fun e=>rfl)));(all_goals (try conv => whnf)))
                refine ⟨m + 1, by omega, by omega, ?_⟩
                rw [if_pos (Nat.lt_succ_of_lt hqm), if_pos (Nat.lt_succ_of_lt hqm)]
                ((repeat' (first|((conv => whnf);done)|((try conv => whnf);first|exact trivial|(refine And.intro ?_ ?_)|rfl|exact fun _ _ _ h=>h|exact fun _ _ _ _=>trivial)));(all_goals (try conv => whnf)))
              · have e : m = l.length := by omega
                refine ⟨j + 1, by omega, by omega, ?_⟩
                rw [List.take_add_one, hgx]
                ((repeat' (first|((conv => whnf);done)|((try conv => whnf);first|exact trivial|(refine And.intro ?_ ?_)|rfl|exact fun _ _ _ h=>h|exact fun _ _ _ _=>trivial)));(all_goals (try conv => whnf)))
                simp
            · rw [if_neg hqm, if_neg hqm, List.append_nil]
              ((repeat' ((conv => whnf);(first|refine zA ?_|(refine zI ?_ ?_<;> intro hh<;> first|(exfalso;omega)|skip)|(refine zl ?_ ?_<;> intro hh)|refine zq ?_|refine zv ?_|refine zu ?_|exact Sy.fin_val fun e=>rfl)));(all_goals (try conv => whnf)))
              have hml : m < l.length := by omega
              have hgm := List.getElem?_eq_getElem hml
              by_cases hmq : m = q
              · have hx2 := (hq3 m).2 hmq
                refine Sy.el_map x hx2 ?_
                ((repeat' ((conv => whnf);(first|refine zA ?_|(refine zI ?_ ?_<;> intro hh<;> first|(exfalso;omega)|skip)|(refine zl ?_ ?_<;> intro hh)|refine zq ?_|refine zv ?_|refine zu ?_|exact Sy.fin_val fun e=>rfl)));(all_goals (try conv => whnf)))
                refine Sy.need_of (by show (j + 1) * 8 ≤ _ ∧ _; omega) ?_
                ((repeat' ((conv => whnf);(first|refine zA ?_|(refine zI ?_ ?_<;> intro hh<;> first|(exfalso;omega)|skip)|(refine zl ?_ ?_<;> intro hh)|refine zq ?_|refine zv ?_|refine zu ?_|exact Sy.fin_val fun e=>rfl)));(all_goals (try conv => whnf)))
                refine ⟨m + 1, by omega, by omega, ?_⟩
                rw [if_pos (by omega), if_pos (by omega), hq1, ← hmq]
                ((repeat' (first|((conv => whnf);done)|((try conv => whnf);first|exact trivial|(refine And.intro ?_ ?_)|rfl|exact fun _ _ _ h=>h|exact fun _ _ _ _=>trivial)));(all_goals (try conv => whnf)))
                rw [List.map_append]; rfl
              · have hne : l[m] ≠ x := fun e => by
                  rw [e] at hgm
                  exact hmq ((hq3 m).1 hgm)
                generalize l[m] = z at *
                refine Sy.el_map z hgm ?_
                ((repeat' ((conv => whnf);(first|refine zA ?_|(refine zI ?_ ?_<;> intro hh<;> first|(exfalso;omega)|skip)|(refine zl ?_ ?_<;> intro hh)|refine zq ?_|refine zv ?_|refine zu ?_|exact Sy.fin_val fun e=>rfl)));(all_goals (try conv => whnf)))
                refine ⟨m + 1, by omega, by omega, ?_⟩
                rw [if_neg (by omega), if_neg (by omega), List.append_nil]
                ((repeat' (first|((conv => whnf);done)|((try conv => whnf);first|exact trivial|(refine And.intro ?_ ?_)|rfl|exact fun _ _ _ h=>h|exact fun _ _ _ _=>trivial)));(all_goals (try conv => whnf)))
        · have e : j = o.op.ins.length := by omega
          subst e
          rw [List.take_length]
          refine Sy.need_of (by show (ls.length + 1) * 56 ≤ _ ∧ _; omega) ?_
          ((repeat' ((conv => whnf);(first|refine zA ?_|(refine zI ?_ ?_<;> intro hh<;> first|(exfalso;omega)|skip)|(refine zl ?_ ?_<;> intro hh)|refine zq ?_|refine zv ?_|exact Sy.fin_val fun e=>rfl)));(all_goals (try conv => whnf)))
          refine Sy.end_bag 9 11 6 (fun u => (ls ++ [(⟨aloneO l o.op, u⟩ : OpV)]).map encOV) (by decide) (by decide) (by decide) rfl rfl rfl (fun e => by
            show List.map _ ((Els.vs (ls.map encOV)).toC ++ _) = _
            rw [List.map_append, Sy.Els.den_toC, List.map_append]; rfl) (fun u hu => ?_)
          conv => whnf
          refine Sy.end_here ⟨(i + 1, ls ++ [(⟨aloneO l o.op, u⟩ : OpV)]), ⟨by dsimp only; omega, ?_⟩, by dsimp only; omega, ?_⟩
          · dsimp only
            rw [aloneN_succ hg (opsOf_get hgo), ← hls]
            unfold opsOf
            rw [List.map_append]; rfl
          · dsimp only
            ((repeat' (first|((conv => whnf);done)|((try conv => whnf);first|exact trivial|(refine And.intro ?_ ?_)|rfl|exact fun _ _ _ h=>h|exact fun _ _ _ _=>trivial)));(all_goals (try conv => whnf)))
            · simp
            · unfold bagL
              rw [List.map_append]
              show _ = _ ++ [(u, (o.op.ins.map (posL l)).length, _)]
              rw [List.length_map]; rfl
    · have e : i = l.length := by omega
      subst e
      rw [List.take_length] at hls
      refine Sy.fin_own ls (hls.trans (by unfold aloneL; rw [hL])) ?_ rfl (fun w' hw' => ⟨fun _ => False, fun _ h => h.elim, trivial⟩)
      show Sy.finGo _ _ _ (.tup [.agg [.row 5], .c (.row 3)]) 7 [(5, .row 62 5 ls.length (.vs (ls.map encOV))), (3, .row 3 1 (ofV (opsOf gl) n).length (.vs ((ofV (opsOf gl) n).map encI))), (6, .bag 3 1 (bagL ls))]
      rw [hL]
      ((conv => whnf);(refine And.intro ?_ (And.intro ?_ (And.intro ?_ ?_)));(all_goals ((repeat' (first|((conv => whnf);done)|((try conv => whnf);first|exact trivial|(refine And.intro ?_ ?_)|rfl|exact fun _ _ _ h=>h|exact fun _ _ _ _=>trivial)));(all_goals (try conv => whnf)))))
end Go.Proofs.Ythmcknchkecciaa
