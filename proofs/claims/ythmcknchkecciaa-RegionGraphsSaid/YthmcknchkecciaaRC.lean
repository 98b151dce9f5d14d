/- Region: of, All. -/
import Derived.Test.YthmcknchkecciaaRB
import Derived.Test.YthmcknchkecciaaConcat
namespace Go.Proofs.Ythmcknchkecciaa
open Go Go.RowKit
open Sy (C SV V1 Blk St XD Els)
set_option maxRecDepth 10000

theorem natsTo_succ (m : Nat) : natsTo (m + 1) = natsTo m ++ [(m : Int)] := by unfold natsTo; rw [List.range_succ, List.map_append]; rfl
theorem natsTo_len (m : Nat) : (natsTo m).length = m := by simp [natsTo]
def ofN (g : List Opr) (op m : Nat) : List Int := (natsTo m).filter fun x => decide (regOf g x.toNat = regOf g op)
theorem ofN_succ (g : List Opr) (op m : Nat) : ofN g op (m + 1) = ofN g op m ++ (if regOf g m = regOf g op then [(m : Int)] else []) := by
  unfold ofN
  rw [natsTo_succ, List.filter_append]
  congr 1
  by_cases h : regOf g m = regOf g op
  · rw [if_pos h]; simp [h]
  · rw [if_neg h]; simp [h]
theorem ofN_len (g : List Opr) (op m : Nat) : (ofN g op m).length ≤ m := by
  unfold ofN
  exact Nat.le_trans (List.length_filter_le _ _) (Nat.le_of_eq (natsTo_len m))
attribute [local irreducible] regOf
set_option maxHeartbeats 2000000 in
theorem of_any (v : Value) (gl : List OpV) (op : Nat) (w : World) (hr : GOk (fun b => b < w.heap.size) w v gl) (hlen : gl.length ≤ 100) (hg : goodTo (opsOf gl) gl.length) (ho : op < gl.length) :
    Calls Try.prog 38 #[.agg #[v], .int .i64 op] w (Sy.RetRows Sy.noRow (fun _ : Unit => True) (fun _ => [⟨3, 1, (ofL (opsOf gl) op).length, (ofL (opsOf gl) op).map encI⟩]) (fun _ vs => vs.headD undef) w) := by
  have hol := opsOf_len gl
  refine Sy.calls_of Sy.lv38 Sy.tab_ok Try.func38 rfl _ Try.ntmps38 [⟨v, 5, gl.length, gl.map encOV⟩] [.agg [.row 0], .c (.v (.int .i64 op))] rfl rfl rfl ⟨hr.1, trivial⟩ ?_
  ((repeat' ((conv => whnf);(first|refine zA ?_|(refine zI ?_ ?_<;> intro hh<;> first|(exfalso;omega)|skip)|(refine zl ?_ ?_<;> intro hh)|refine zq ?_|refine zv ?_|exact Sy.fin_val fun e=>rfl)));(all_goals (try conv => whnf)))
  refine Sy.call_r1 ⟨3, 1, gl.length, (regsN (opsOf gl) gl.length).map encI⟩ (fun j => .c (.row j)) Try.call37 (fun e a w' h => regions_any (e.rv 0) gl w' ⟨Sy.row_reads h (.inr rfl), fun o ho => Sy.later_in h (hr.2 o ho)⟩ hlen hg) ?_
  ((repeat' ((conv => whnf);(first|refine zA ?_|(refine zI ?_ ?_<;> intro hh<;> first|(exfalso;omega)|skip)|(refine zl ?_ ?_<;> intro hh)|refine zq ?_|refine zv ?_|exact Sy.fin_val fun e=>rfl)));(all_goals (try conv => whnf)))
  refine Sy.sem_subF (Sy.sub_row 6 3 1 rfl) ?_
  conv => whnf
  refine Sy.loop_inv Sy.tab_ok (fun m : Nat => [(13, .c (.v (.int .i64 m))), (6, .c (.row 3))]) (fun m => [(3, .row 3 1 (ofN (opsOf gl) op m).length (.vs ((ofN (opsOf gl) op m).map encI)))]) (fun m => m ≤ gl.length) (fun m => gl.length - m) 0 (Nat.zero_le _) ?_ (fun m hm => ?_)
  · rw [show ofN (opsOf gl) op 0 = [] from rfl]
    ((repeat' (first|((conv => whnf);done)|((try conv => whnf);first|exact trivial|(refine And.intro ?_ ?_)|rfl|exact fun _ _ _ h=>h|exact fun _ _ _ _=>trivial)));(all_goals (try conv => whnf)))
  · have hrl := ofN_len (opsOf gl) op m
    ((repeat' ((conv => whnf);(first|refine zA ?_|(refine zI ?_ ?_<;> intro hh<;> first|(exfalso;omega)|skip)|(refine zl ?_ ?_<;> intro hh)|refine zq ?_|refine zv ?_|exact Sy.fin_val fun e=>rfl)));(all_goals (try conv => whnf)))
    · have hlt : m < gl.length := by omega
      have hs := ofN_succ (opsOf gl) op m
      refine Sy.el_map _ (regsN_get (opsOf gl) hlt) ?_
      ((repeat' ((conv => whnf);(first|refine zA ?_|(refine zI ?_ ?_<;> intro hh<;> first|(exfalso;omega)|skip)|(refine zl ?_ ?_<;> intro hh)|refine zq ?_|refine zv ?_|exact Sy.fin_val fun e=>rfl)));(all_goals (try conv => whnf)))
      refine Sy.el_map _ (regsN_get (opsOf gl) ho) ?_
      by_cases he : regOf (opsOf gl) m = regOf (opsOf gl) op
      · have he' : (regOf (opsOf gl) m : Int) = regOf (opsOf gl) op := by rw [he]
        rw [if_pos he] at hs
        ((repeat' ((conv => whnf);(first|refine zA ?_|(refine zI ?_ ?_<;> intro hh<;> first|(exfalso;omega)|skip)|(refine zl ?_ ?_<;> intro hh)|refine zq ?_|refine zv ?_|exact Sy.fin_val fun e=>rfl)));(all_goals (try conv => whnf)))
        refine Sy.need_of (by show ((ofN (opsOf gl) op m).length + 1) * 8 ≤ _ ∧ _; omega) ?_
        ((repeat' ((conv => whnf);(first|refine zA ?_|(refine zI ?_ ?_<;> intro hh<;> first|(exfalso;omega)|skip)|(refine zl ?_ ?_<;> intro hh)|refine zq ?_|refine zv ?_|exact Sy.fin_val fun e=>rfl)));(all_goals (try conv => whnf)))
        have es : (ofN (opsOf gl) op m).map encI ++ [[Value.int .i64 (m : Int)]] = (ofN (opsOf gl) op (m + 1)).map encI := by rw [hs, List.map_append]; rfl
        have el : (ofN (opsOf gl) op m).length + 1 = (ofN (opsOf gl) op (m + 1)).length := by rw [hs, List.length_append]; rfl
        rw [es, el]
        refine ⟨m + 1, by omega, by omega, ?_⟩
        ((repeat' (first|((conv => whnf);done)|((try conv => whnf);first|exact trivial|(refine And.intro ?_ ?_)|rfl|exact fun _ _ _ h=>h|exact fun _ _ _ _=>trivial)));(all_goals (try conv => whnf)))
      · have he' : (regOf (opsOf gl) m : Int) ≠ regOf (opsOf gl) op := by omega
        rw [if_neg he, List.append_nil] at hs
        ((repeat' ((conv => whnf);(first|refine zA ?_|(refine zI ?_ ?_<;> intro hh<;> first|(exfalso;omega)|skip)|(refine zl ?_ ?_<;> intro hh)|refine zq ?_|refine zv ?_|exact Sy.fin_val fun e=>rfl)));(all_goals (try conv => whnf)))
        refine ⟨m + 1, by omega, by omega, ?_⟩
        rw [hs]
        ((repeat' (first|((conv => whnf);done)|((try conv => whnf);first|exact trivial|(refine And.intro ?_ ?_)|rfl|exact fun _ _ _ h=>h|exact fun _ _ _ _=>trivial)));(all_goals (try conv => whnf)))
    · have e : m = gl.length := by omega
      subst e
      have e2 : ofN (opsOf gl) op gl.length = ofL (opsOf gl) op := by unfold ofN ofL; rw [hol]
      rw [e2]
      exact Sy.fin_r1 (.row 3) rfl
/-- The regions of a graph, by their first operators below m. -/
def allN (g : List Opr) (m : Nat) : List (List Int) := ((List.range m).filter fun i => decide (regOf g i = i)).map (ofL g)
theorem allN_succ (g : List Opr) (m : Nat) : allN g (m + 1) = allN g m ++ (if regOf g m = m then [ofL g m] else []) := by
  unfold allN
  rw [List.range_succ, List.filter_append, List.map_append]
  congr 1
  by_cases h : regOf g m = m
  · rw [if_pos h]; simp [h]
  · rw [if_neg h]; simp [h]
theorem allN_len (g : List Opr) (m : Nat) : (allN g m).length ≤ m := by
  unfold allN
  rw [List.length_map]
  exact Nat.le_trans (List.length_filter_le _ _) (by simp)
def allL (g : List Opr) : List (List Int) := if (checkV g).2 = 0 then allN g g.length else []
/-- Rows of rows, read. -/
def rowsOf (us : List (Value × List Int)) : List (List Int) := us.map (·.2)
def UsOk (G : Nat → Prop) (w : World) (us : List (Value × List Int)) : Prop := ∀ x ∈ us, XD.ok G w ⟨x.1, 1, x.2.length, x.2.map encI⟩
def allC (gv : Value) (gl : List OpV) : Sy.Ctr (List (Value × List Int)) := { avs := [.agg [.v gv]], n0 := 0, H0 := [], pre := fun F w => GOk F w gv gl, p := fun us => rowsOf us = allL (opsOf gl), sv := fun _ => .tup [.c (.row 0), .c (.v (.int .i64 (checkV (opsOf gl)).2))], n1 := fun _ => 1, H1 := fun us => [(0, .row 36 1 us.length (.vs (us.map encU)))], learn := true, q := fun us G w => UsOk G w us }
attribute [local irreducible] checkV
set_option maxHeartbeats 4000000 in
theorem all_does (gv : Value) (gl : List OpV) (hone : gv.oneCell' = true) : Sy.Does Try.prog 13 (allC gv gl) := by
  have hol := opsOf_len gl
  refine Sy.does_of Sy.lv13 Sy.tab_ok Try.func13 rfl _ Try.ntmps13 _ (lt_g1 hone) rfl (fun e0 w hpre => ?_)
  have hpre : GOk (Sy.frz e0 [] w) w gv gl := hpre
  have hl := ok_len hpre.1
  ((repeat' ((conv => whnf);(first|refine zA ?_|(refine zI ?_ ?_<;> intro hh<;> first|(exfalso;omega)|skip)|(refine zl ?_ ?_<;> intro hh)|refine zq ?_|refine zv ?_|exact Sy.fin_val fun e=>rfl)));(all_goals (try conv => whnf)))
  refine Sy.call_val (.tup [.c (.v (.int .i64 (checkV (opsOf gl)).1)), .c (.v (.int .i64 (checkV (opsOf gl)).2))]) Try.call35 rfl (fun e a w' h => check_any gv gl w' ((GOk.later h hpre).mono fun b hb => h.fl b hb)) ?_
  by_cases h0 : (checkV (opsOf gl)).2 = 0
  · have h8 := check_ok h0
    have hg := check_good h0
    rw [hol] at h8 hg
    rw [h0]
    ((repeat' ((conv => whnf);(first|refine zA ?_|(refine zI ?_ ?_<;> intro hh<;> first|(exfalso;omega)|skip)|(refine zl ?_ ?_<;> intro hh)|refine zq ?_|refine zv ?_|exact Sy.fin_val fun e=>rfl)));(all_goals (try conv => whnf)))
    refine Sy.call_r1 ⟨3, 1, gl.length, (regsN (opsOf gl) gl.length).map encI⟩ (fun j => .c (.row j)) Try.call37 (fun e a w' h => regions_any gv gl w' ((GOk.later h hpre).mono fun b hb => h.fl b hb) (by omega) hg) ?_
    ((repeat' ((conv => whnf);(first|refine zA ?_|(refine zI ?_ ?_<;> intro hh<;> first|(exfalso;omega)|skip)|(refine zl ?_ ?_<;> intro hh)|refine zq ?_|refine zv ?_|exact Sy.fin_val fun e=>rfl)));(all_goals (try conv => whnf)))
    refine Sy.sem_subF (Sy.sub_row 6 36 1 rfl) ?_
    conv => whnf
    obtain ⟨fz, hfz⟩ : ∃ fz, fz = Sy.frz e0 (allC gv gl).H0 w := ⟨_, rfl⟩
    refine Sy.loop_ends Sy.tab_ok (fun x : Nat × List (Value × List Int) × (Nat → Prop) × (World → Prop) => [(20, .c (.v (.int .i64 x.1))), (6, .c (.row 2))]) (fun x => [(2, .row 36 1 x.2.1.length (.vs (x.2.1.map encU)))]) (fun x => x.2.2.1) (fun x => x.2.2.2)
      (fun x => x.1 ≤ gl.length ∧ rowsOf x.2.1 = allN (opsOf gl) x.1 ∧ (∀ b, fz b → x.2.2.1 b) ∧ ∀ w', x.2.2.2 w' → UsOk (fun b => x.2.2.1 b ∧ ¬ fz b) w' x.2.1) (fun x => gl.length - x.1) (0, [], fz, fun _ => True)
      ⟨Nat.zero_le _, rfl, fun _ h => h, fun _ _ o ho => by cases ho⟩ ?_ (fun x hx => ?_)
    · rw [hfz]
      ((repeat' (first|((conv => whnf);done)|((try conv => whnf);first|exact trivial|(refine And.intro ?_ ?_)|rfl|exact fun _ _ _ h=>h|exact fun _ _ _ _=>trivial)));(all_goals (try conv => whnf)))
    · obtain ⟨n, us, F, E⟩ := x
      obtain ⟨hn, hus, hF, hE⟩ := hx
      dsimp only at hn hus hF hE ⊢
      have hul : us.length ≤ n := by
        have := allN_len (opsOf gl) n
        rw [← hus] at this
        unfold rowsOf at this
        rwa [List.length_map] at this
      have hss := allN_succ (opsOf gl) n
      ((repeat' ((conv => whnf);(first|refine zA ?_|(refine zI ?_ ?_<;> intro hh<;> first|(exfalso;omega)|skip)|(refine zl ?_ ?_<;> intro hh)|exact Sy.fin_val fun e=>rfl)));(all_goals (try conv => whnf)))
      · have hlt : n < gl.length := by omega
        refine Sy.el_map _ (regsN_get (opsOf gl) hlt) ?_
        by_cases he : regOf (opsOf gl) n = n
        · rw [if_pos he] at hss
          have he' : (n : Int) = regOf (opsOf gl) n := by rw [he]
          ((repeat' ((conv => whnf);(first|refine zA ?_|(refine zI ?_ ?_<;> intro hh<;> first|(exfalso;omega)|skip)|(refine zl ?_ ?_<;> intro hh)|refine zq ?_|refine zv ?_|exact Sy.fin_val fun e=>rfl)));(all_goals (try conv => whnf)))
          refine Sy.call_r1 ⟨3, 1, (ofL (opsOf gl) n).length, (ofL (opsOf gl) n).map encI⟩ (fun j => .c (.row j)) Try.call38 (fun e a w' h => of_any gv gl n w' ((GOk.later h hpre).mono fun b hb => h.fl b hb) (by omega) hg hlt) ?_
          ((repeat' ((conv => whnf);(first|refine zA ?_|(refine zI ?_ ?_<;> intro hh<;> first|(exfalso;omega)|skip)|(refine zl ?_ ?_<;> intro hh)|refine zq ?_|refine zv ?_|exact Sy.fin_val fun e=>rfl)));(all_goals (try conv => whnf)))
          refine Sy.need_of (by show (us.length + 1) * 24 ≤ _ ∧ _; omega) ?_
          ((repeat' ((conv => whnf);(first|refine zA ?_|(refine zI ?_ ?_<;> intro hh<;> first|(exfalso;omega)|skip)|(refine zl ?_ ?_<;> intro hh)|refine zq ?_|refine zv ?_|exact Sy.fin_val fun e=>rfl)));(all_goals (try conv => whnf)))
          refine Sy.end_freeze 3 5 (fun u => (us ++ [(u, ofL (opsOf gl) n)]).map encU) (by decide) rfl rfl (fun e => by
            show List.map _ ((Els.vs (us.map encU)).toC ++ _) = _
            rw [List.map_append, Sy.Els.den_toC, List.map_append]; rfl) (fun u G hG hu => ?_)
          conv => whnf
          refine Sy.end_here ⟨(n + 1, us ++ [(u, ofL (opsOf gl) n)], fun b => F b ∨ G b, fun w' => E w' ∧ (XD.ok G w' ⟨u, 1, (ofL (opsOf gl) n).length, (ofL (opsOf gl) n).map encI⟩ ∧ ∀ b, G b → F b ∨ G b)), ⟨by dsimp only; omega, ?_, fun b hb => .inl (hF b hb), fun w' hw p hp => ?_⟩, by dsimp only; omega, ?_⟩
          · dsimp only
            rw [hss, ← hus]
            unfold rowsOf
            rw [List.map_append]
            rfl
          · rcases List.mem_append.1 hp with hp | hp
            · exact XD.ok.mono (hE w' hw.1 p hp) fun b hb => ⟨.inl hb.1, hb.2⟩
            · rw [List.mem_singleton.1 hp]
              exact XD.ok.mono hw.2.1 fun b hb => ⟨.inr hb, fun hf => hG b hb (hF b hf)⟩
          · dsimp only
            ((repeat' (first|((conv => whnf);done)|((try conv => whnf);first|exact trivial|(refine And.intro ?_ ?_)|rfl|exact fun _ _ _ h=>h|exact fun _ _ _ _=>trivial)));(all_goals (try conv => whnf)))
            all_goals simp
        · rw [if_neg he, List.append_nil] at hss
          have he' : (n : Int) ≠ regOf (opsOf gl) n := by omega
          ((repeat' ((conv => whnf);(first|refine zA ?_|(refine zI ?_ ?_<;> intro hh<;> first|(exfalso;omega)|skip)|(refine zl ?_ ?_<;> intro hh)|refine zq ?_|refine zv ?_|exact Sy.fin_val fun e=>rfl)));(all_goals (try conv => whnf)))
          refine Sy.end_here ⟨(n + 1, us, F, E), ⟨by dsimp only; omega, by dsimp only; rw [hus, hss], hF, hE⟩, by dsimp only; omega, ?_⟩
          dsimp only
          ((repeat' (first|((conv => whnf);done)|((try conv => whnf);first|exact trivial|(refine And.intro ?_ ?_)|rfl|exact fun _ _ _ h=>h|exact fun _ _ _ _=>trivial)));(all_goals (try conv => whnf)))
      · have e : n = gl.length := by omega
        subst e
        have ha : rowsOf us = allL (opsOf gl) := by rw [hus, allL, if_pos h0, hol]
        refine Sy.fin_own us ha ?_ rfl (fun w' hw' => ⟨fun b => F b ∧ ¬ fz b, fun b hb => by rw [← hfz]; exact hb, hE w' hw'⟩)
        show Sy.finGo _ _ _ (.tup [.c (.row 0), .c (.v (.int .i64 (checkV (opsOf gl)).2))]) _ _
        rw [h0]
        ((conv => whnf);(refine And.intro ?_ (And.intro ?_ (And.intro ?_ ?_)));(all_goals ((repeat' (first|((conv => whnf);done)|((try conv => whnf);first|exact trivial|(refine And.intro ?_ ?_)|rfl|exact fun _ _ _ h=>h|exact fun _ _ _ _=>trivial)));(all_goals (try conv => whnf)))))
  · ((repeat' ((conv => whnf);(first|refine zA ?_|(refine zI ?_ ?_<;> intro hh<;> first|(exfalso;omega)|skip)|(refine zl ?_ ?_<;> intro hh)|refine zq ?_|refine zv ?_|exact Sy.fin_val fun e=>rfl)));(all_goals (try conv => whnf)))
    refine Sy.fin_nilrow 36 1 (.tup [.c (.row 1), .c (.v (.int .i64 (checkV (opsOf gl)).2))]) (fun e he => by show Value.tuple #[e.rv 1, .int .i64 (checkV (opsOf gl)).2] = _; rw [he]; rfl) ?_
    conv => whnf
    refine Sy.fin_own ([] : List (Value × List Int)) (by show _ = allL (opsOf gl); rw [allL, if_neg h0]; rfl) ?_ rfl (fun w' hw' => ⟨fun _ => False, fun _ h => h.elim, fun o ho => by cases ho⟩)
    ((conv => whnf);(refine And.intro ?_ (And.intro ?_ (And.intro ?_ ?_)));(all_goals ((repeat' (first|((conv => whnf);done)|((try conv => whnf);first|exact trivial|(refine And.intro ?_ ?_)|rfl|exact fun _ _ _ h=>h|exact fun _ _ _ _=>trivial)));(all_goals (try conv => whnf)))))
end Go.Proofs.Ythmcknchkecciaa
