/- Region: All and the document's All, of the caller's own row. -/
import Derived.Test.YthmcknchkecciaaRO
namespace Go.Proofs.Ythmcknchkecciaa
open Go Go.RowKit
open Sy (C SV V1 Blk St XD Els)
set_option maxRecDepth 10000

def g1H (gl : List OpV) : List (Nat × Blk) := [(0, .ext 5 gl.length (.vs (gl.map encOV)))]
def all1C (gl : List OpV) : Sy.Ctr (List (Value × List Int)) := { avs := [.agg [.row 0]], n0 := 1, H0 := g1H gl, pre := fun F w => ∀ o ∈ gl, OOk F w o, p := fun us => rowsOf us = allL (opsOf gl), sv := fun _ => .tup [.c (.row 1), .c (.v (.int .i64 (checkV (opsOf gl)).2))], n1 := fun _ => 2, H1 := fun us => [(1, .row 36 1 us.length (.vs (us.map encU)))], learn := true, q := fun us G w => UsOk G w us }
def rall1C (gl : List OpV) : Sy.Ctr (List (Value × List Int)) := { avs := [.agg [.row 0]], n0 := 1, H0 := g1H gl, pre := fun F w => ∀ o ∈ gl, OOk F w o, p := fun us => rowsOf us = allL (opsOf gl), sv := fun _ => .c (.row 1), n1 := fun _ => 2, H1 := fun us => [(1, .row 36 1 us.length (.vs (us.map encU)))], learn := true, q := fun us G w => UsOk G w us }
attribute [local irreducible] ofL regOf
attribute [local irreducible] checkV
set_option maxHeartbeats 4000000 in
theorem all1_does (gl : List OpV) (hl : gl.length ≤ 100000) : Sy.Does Try.prog 13 (all1C gl) := by
  have hol := opsOf_len gl
  refine Sy.does_of Sy.lv13 Sy.tab_ok Try.func13 rfl _ Try.ntmps13 _ rfl rfl (fun e0 w hpre => ?_)
  have hpre : ∀ o ∈ gl, OOk (Sy.frz e0 (g1H gl) w) w o := hpre
  ((repeat' ((conv => whnf);(first|refine zA ?_|(refine zI ?_ ?_<;> intro hh<;> first|(exfalso;omega)|skip)|(refine zl ?_ ?_<;> intro hh)|refine zq ?_|refine zv ?_|exact Sy.fin_val fun e=>rfl)));(all_goals (try conv => whnf)))
  refine Sy.call_val (.tup [.c (.v (.int .i64 (checkV (opsOf gl)).1)), .c (.v (.int .i64 (checkV (opsOf gl)).2))]) Try.call35 rfl (fun e a w' h => check_any (e.rv 0) gl w' ⟨Sy.row_reads h (.inr rfl), fun o ho => (XD.later h (hpre o ho)).mono fun b hb => h.fl b hb⟩) ?_
  by_cases h0 : (checkV (opsOf gl)).2 = 0
  · have h8 := check_ok h0
    have hg := check_good h0
    rw [hol] at h8 hg
    rw [h0]
    ((repeat' ((conv => whnf);(first|refine zA ?_|(refine zI ?_ ?_<;> intro hh<;> first|(exfalso;omega)|skip)|(refine zl ?_ ?_<;> intro hh)|refine zq ?_|refine zv ?_|exact Sy.fin_val fun e=>rfl)));(all_goals (try conv => whnf)))
    refine Sy.call_r1 ⟨3, 1, gl.length, (regsN (opsOf gl) gl.length).map encI⟩ (fun j => .c (.row j)) Try.call37 (fun e a w' h => regions_any (e.rv 0) gl w' ⟨Sy.row_reads h (.inr rfl), fun o ho => (XD.later h (hpre o ho)).mono fun b hb => h.fl b hb⟩ (by omega) hg) ?_
    ((repeat' ((conv => whnf);(first|refine zA ?_|(refine zI ?_ ?_<;> intro hh<;> first|(exfalso;omega)|skip)|(refine zl ?_ ?_<;> intro hh)|refine zq ?_|refine zv ?_|exact Sy.fin_val fun e=>rfl)));(all_goals (try conv => whnf)))
    refine Sy.sem_subF (Sy.sub_row 6 36 1 rfl) ?_
    conv => whnf
    obtain ⟨fz, hfz⟩ : ∃ fz, fz = Sy.frz e0 (all1C gl).H0 w := ⟨_, rfl⟩
    refine Sy.loop_ends Sy.tab_ok (fun x : Nat × List (Value × List Int) × (Nat → Prop) × (World → Prop) => [(20, .c (.v (.int .i64 x.1))), (6, .c (.row 3))]) (fun x => [(3, .row 36 1 x.2.1.length (.vs (x.2.1.map encU)))]) (fun x => x.2.2.1) (fun x => x.2.2.2)
      (fun x => x.1 ≤ gl.length ∧ rowsOf x.2.1 = allN (opsOf gl) x.1 ∧ (∀ b, fz b → x.2.2.1 b) ∧ ∀ w', x.2.2.2 w' → UsOk (fun b => x.2.2.1 b ∧ ¬ fz b) w' x.2.1) (fun x => gl.length - x.1) (0, [], fz, fun _ => True)
      ⟨Nat.zero_le _, rfl, fun _ h => h, fun _ _ o ho => by cases ho⟩ ?_ (fun x hx => ?_)
    · rw [hfz]
      ((repeat' (first|((conv => whnf);done)|((try conv => whnf);first|exact trivial|(refine And.intro ?_ ?_)|rfl|exact fun _ _ _ h=>h|exact fun _ _ _ _=>trivial)));(all_goals (try conv => whnf)))
    · obtain ⟨n, us, F, E⟩ := x
      obtain ⟨hn, hus, hF, hE⟩ := hx
      dsimp only at hn hus hF hE ⊢
      have hul : us.length ≤ n := by
        have := allN_len (opsOf gl) n
        rw [← hus] at this
        unfold rowsOf at this
        rwa [List.length_map] at this
      have hss := allN_succ (opsOf gl) n
      ((repeat' ((conv => whnf);(first|refine zA ?_|(refine zI ?_ ?_<;> intro hh<;> first|(exfalso;omega)|skip)|(refine zl ?_ ?_<;> intro hh)|exact Sy.fin_val fun e=>rfl)));(all_goals (try conv => whnf)))
      · have hlt : n < gl.length := by omega
        refine Sy.el_map _ (regsN_get (opsOf gl) hlt) ?_
        by_cases he : regOf (opsOf gl) n = n
        · rw [if_pos he] at hss
          have he' : (n : Int) = regOf (opsOf gl) n := by rw [he]
          ((repeat' ((conv => whnf);(first|refine zA ?_|(refine zI ?_ ?_<;> intro hh<;> first|(exfalso;omega)|skip)|(refine zl ?_ ?_<;> intro hh)|refine zq ?_|refine zv ?_|exact Sy.fin_val fun e=>rfl)));(all_goals (try conv => whnf)))
          refine Sy.call_r1 ⟨3, 1, (ofL (opsOf gl) n).length, (ofL (opsOf gl) n).map encI⟩ (fun j => .c (.row j)) Try.call38 (fun e a w' h => of_any (e.rv 0) gl n w' ⟨Sy.row_reads h (.inr rfl), fun o ho => (XD.later h (hpre o ho)).mono fun b hb => h.fl b hb⟩ (by omega) hg hlt) ?_
          ((repeat' ((conv => whnf);(first|refine zA ?_|(refine zI ?_ ?_<;> intro hh<;> first|(exfalso;omega)|skip)|(refine zl ?_ ?_<;> intro hh)|refine zq ?_|refine zv ?_|exact Sy.fin_val fun e=>rfl)));(all_goals (try conv => whnf)))
          refine Sy.need_of (by show (us.length + 1) * 24 ≤ _ ∧ _; omega) ?_
          ((repeat' ((conv => whnf);(first|refine zA ?_|(refine zI ?_ ?_<;> intro hh<;> first|(exfalso;omega)|skip)|(refine zl ?_ ?_<;> intro hh)|refine zq ?_|refine zv ?_|exact Sy.fin_val fun e=>rfl)));(all_goals (try conv => whnf)))
          refine Sy.end_freeze 4 6 (fun u => (us ++ [(u, ofL (opsOf gl) n)]).map encU) (by decide) rfl rfl (fun e => by
            show List.map _ ((Els.vs (us.map encU)).toC ++ _) = _
            rw [List.map_append, Sy.Els.den_toC, List.map_append]; rfl) (fun u G hG hu => ?_)
          conv => whnf
          refine Sy.end_here ⟨(n + 1, us ++ [(u, ofL (opsOf gl) n)], fun b => F b ∨ G b, fun w' => E w' ∧ (XD.ok G w' ⟨u, 1, (ofL (opsOf gl) n).length, (ofL (opsOf gl) n).map encI⟩ ∧ ∀ b, G b → F b ∨ G b)), ⟨by dsimp only; omega, ?_, fun b hb => .inl (hF b hb), fun w' hw p hp => ?_⟩, by dsimp only; omega, ?_⟩
          · dsimp only
            rw [hss, ← hus]
            unfold rowsOf
            rw [List.map_append]
            rfl
          · rcases List.mem_append.1 hp with hp | hp
            · exact XD.ok.mono (hE w' hw.1 p hp) fun b hb => ⟨.inl hb.1, hb.2⟩
            · rw [List.mem_singleton.1 hp]
              exact XD.ok.mono hw.2.1 fun b hb => ⟨.inr hb, fun hf => hG b hb (hF b hf)⟩
          · dsimp only
            ((repeat' (first|((conv => whnf);done)|((try conv => whnf);first|exact trivial|(refine And.intro ?_ ?_)|rfl|exact fun _ _ _ h=>h|exact fun _ _ _ _=>trivial)));(all_goals (try conv => whnf)))
            all_goals simp
        · rw [if_neg he, List.append_nil] at hss
          have he' : (n : Int) ≠ regOf (opsOf gl) n := by omega
          ((repeat' ((conv => whnf);(first|refine zA ?_|(refine zI ?_ ?_<;> intro hh<;> first|(exfalso;omega)|skip)|(refine zl ?_ ?_<;> intro hh)|refine zq ?_|refine zv ?_|exact Sy.fin_val fun e=>rfl)));(all_goals (try conv => whnf)))
          refine Sy.end_here ⟨(n + 1, us, F, E), ⟨by dsimp only; omega, by dsimp only; rw [hus, hss], hF, hE⟩, by dsimp only; omega, ?_⟩
          dsimp only
          ((repeat' (first|((conv => whnf);done)|((try conv => whnf);first|exact trivial|(refine And.intro ?_ ?_)|rfl|exact fun _ _ _ h=>h|exact fun _ _ _ _=>trivial)));(all_goals (try conv => whnf)))
      · have e : n = gl.length := by omega
        subst e
        have ha : rowsOf us = allL (opsOf gl) := by rw [hus, allL, if_pos h0, hol]
        refine Sy.fin_own us ha ?_ rfl (fun w' hw' => ⟨fun b => F b ∧ ¬ fz b, fun b hb => by rw [← hfz]; exact hb, hE w' hw'⟩)
        show Sy.finGo _ _ _ (.tup [.c (.row 1), .c (.v (.int .i64 (checkV (opsOf gl)).2))]) _ _
        rw [h0]
        ((conv => whnf);(refine And.intro ?_ (And.intro ?_ (And.intro ?_ ?_)));(all_goals ((repeat' (first|((conv => whnf);done)|((try conv => whnf);first|exact trivial|(refine And.intro ?_ ?_)|rfl|exact fun _ _ _ h=>h|exact fun _ _ _ _=>trivial)));(all_goals (try conv => whnf)))))
  · ((repeat' ((conv => whnf);(first|refine zA ?_|(refine zI ?_ ?_<;> intro hh<;> first|(exfalso;omega)|skip)|(refine zl ?_ ?_<;> intro hh)|refine zq ?_|refine zv ?_|exact Sy.fin_val fun e=>rfl)));(all_goals (try conv => whnf)))
    refine Sy.fin_nilrow 36 1 (.tup [.c (.row 2), .c (.v (.int .i64 (checkV (opsOf gl)).2))]) (fun e he => by show Value.tuple #[e.rv 2, .int .i64 (checkV (opsOf gl)).2] = _; rw [he]; rfl) ?_
    conv => whnf
    refine Sy.fin_own ([] : List (Value × List Int)) (by show _ = allL (opsOf gl); rw [allL, if_neg h0]; rfl) ?_ rfl (fun w' hw' => ⟨fun _ => False, fun _ h => h.elim, fun o ho => by cases ho⟩)
    ((conv => whnf);(refine And.intro ?_ (And.intro ?_ (And.intro ?_ ?_)));(all_goals ((repeat' (first|((conv => whnf);done)|((try conv => whnf);first|exact trivial|(refine And.intro ?_ ?_)|rfl|exact fun _ _ _ h=>h|exact fun _ _ _ _=>trivial)));(all_goals (try conv => whnf)))))

set_option maxHeartbeats 4000000 in
theorem rall1_does (gl : List OpV) (h0 : (checkV (opsOf gl)).2 = 0) : Sy.Does Try.prog 15 (rall1C gl) := by
  have hol := opsOf_len gl
  refine Sy.does_of Sy.lv15 Sy.tab_ok Try.func15 rfl _ Try.ntmps15 _ rfl rfl (fun e0 w hpre => ?_)
  have hpre : ∀ o ∈ gl, OOk (Sy.frz e0 (g1H gl) w) w o := hpre
  have h8 := check_ok h0
  have hg := check_good h0
  rw [hol] at h8 hg
  ((repeat' ((conv => whnf);(first|refine zA ?_|(refine zI ?_ ?_<;> intro hh<;> first|(exfalso;omega)|skip)|(refine zl ?_ ?_<;> intro hh)|refine zq ?_|refine zv ?_|exact Sy.fin_val fun e=>rfl)));(all_goals (try conv => whnf)))
  refine Sy.sem_subF (Sy.sub_row 3 36 1 rfl) ?_
  conv => whnf
  obtain ⟨fz, hfz⟩ : ∃ fz, fz = Sy.frz e0 (rall1C gl).H0 w := ⟨_, rfl⟩
  refine Sy.loop_ends Sy.tab_ok (fun x : Nat × List (Value × List Int) × (Nat → Prop) × (World → Prop) => [(9, .c (.v (.int .i64 x.1))), (3, .c (.row 2))]) (fun x => [(2, .row 36 1 x.2.1.length (.vs (x.2.1.map encU)))]) (fun x => x.2.2.1) (fun x => x.2.2.2)
    (fun x => x.1 ≤ gl.length ∧ rowsOf x.2.1 = allN (opsOf gl) x.1 ∧ (∀ b, fz b → x.2.2.1 b) ∧ ∀ w', x.2.2.2 w' → UsOk (fun b => x.2.2.1 b ∧ ¬ fz b) w' x.2.1) (fun x => gl.length - x.1) (0, [], fz, fun _ => True)
    ⟨Nat.zero_le _, rfl, fun _ h => h, fun _ _ o ho => by cases ho⟩ ?_ (fun x hx => ?_)
  · rw [hfz]
    ((repeat' (first|((conv => whnf);done)|((try conv => whnf);first|exact trivial|(refine And.intro ?_ ?_)|rfl|exact fun _ _ _ h=>h|exact fun _ _ _ _=>trivial)));(all_goals (try conv => whnf)))
  · obtain ⟨n, us, F, E⟩ := x
    obtain ⟨hn, hus, hF, hE⟩ := hx
    dsimp only at hn hus hF hE ⊢
    have hul : us.length ≤ n := by
      have := allN_len (opsOf gl) n
      rw [← hus] at this
      unfold rowsOf at this
      rwa [List.length_map] at this
    have hss := allN_succ (opsOf gl) n
    ((repeat' ((conv => whnf);(first|refine zA ?_|(refine zI ?_ ?_<;> intro hh<;> first|(exfalso;omega)|skip)|(refine zl ?_ ?_<;> intro hh)|exact Sy.fin_val fun e=>rfl)));(all_goals (try conv => whnf)))
    · have hlt : n < gl.length := by omega
      refine Sy.call_r1 ⟨3, 1, (ofL (opsOf gl) n).length, (ofL (opsOf gl) n).map encI⟩ (fun j => .c (.row j)) Try.call30 (fun e a w' h => rof_any (e.rv 0) gl n w' ⟨Sy.row_reads h (.inr rfl), fun o ho => (XD.later h (hpre o ho)).mono fun b hb => h.fl b hb⟩ (by omega) hg hlt) ?_
      have hhd := ofL_head (g := opsOf gl) (op := n) (by omega)
      have hpos := (List.getElem?_eq_some_iff.1 hhd).1
      ((repeat' ((conv => whnf);(first|refine zA ?_|(refine zI ?_ ?_<;> intro hh<;> first|(exfalso;omega)|skip)|(refine zl ?_ ?_<;> intro hh)|refine zq ?_|refine zv ?_|exact Sy.fin_val fun e=>rfl)));(all_goals (try conv => whnf)))
      refine Sy.el_map _ hhd ?_
      by_cases he : regOf (opsOf gl) n = n
      · rw [if_pos he] at hss
        have he' : (regOf (opsOf gl) n : Int) = n := by rw [he]
        ((repeat' ((conv => whnf);(first|refine zA ?_|(refine zI ?_ ?_<;> intro hh<;> first|(exfalso;omega)|skip)|(refine zl ?_ ?_<;> intro hh)|refine zq ?_|refine zv ?_|exact Sy.fin_val fun e=>rfl)));(all_goals (try conv => whnf)))
        refine Sy.need_of (by show (us.length + 1) * 24 ≤ _ ∧ _; omega) ?_
        ((repeat' ((conv => whnf);(first|refine zA ?_|(refine zI ?_ ?_<;> intro hh<;> first|(exfalso;omega)|skip)|(refine zl ?_ ?_<;> intro hh)|refine zq ?_|refine zv ?_|exact Sy.fin_val fun e=>rfl)));(all_goals (try conv => whnf)))
        refine Sy.end_freeze 3 5 (fun u => (us ++ [(u, ofL (opsOf gl) n)]).map encU) (by decide) rfl rfl (fun e => by
          show List.map _ ((Els.vs (us.map encU)).toC ++ _) = _
          rw [List.map_append, Sy.Els.den_toC, List.map_append]; rfl) (fun u G hG hu => ?_)
        conv => whnf
        refine Sy.end_here ⟨(n + 1, us ++ [(u, ofL (opsOf gl) n)], fun b => F b ∨ G b, fun w' => E w' ∧ (XD.ok G w' ⟨u, 1, (ofL (opsOf gl) n).length, (ofL (opsOf gl) n).map encI⟩ ∧ ∀ b, G b → F b ∨ G b)), ⟨by dsimp only; omega, ?_, fun b hb => .inl (hF b hb), fun w' hw p hp => ?_⟩, by dsimp only; omega, ?_⟩
        · dsimp only
          rw [hss, ← hus]
          unfold rowsOf
          rw [List.map_append]
          rfl
        · rcases List.mem_append.1 hp with hp | hp
          · exact XD.ok.mono (hE w' hw.1 p hp) fun b hb => ⟨.inl hb.1, hb.2⟩
          · rw [List.mem_singleton.1 hp]
            exact XD.ok.mono hw.2.1 fun b hb => ⟨.inr hb, fun hf => hG b hb (hF b hf)⟩
        · dsimp only
          ((repeat' (first|((conv => whnf);done)|((try conv => whnf);first|exact trivial|(refine And.intro ?_ ?_)|rfl|exact fun _ _ _ h=>h|exact fun _ _ _ _=>trivial)));(all_goals (try conv => whnf)))
          all_goals simp
      · rw [if_neg he, List.append_nil] at hss
        have he' : (regOf (opsOf gl) n : Int) ≠ n := by omega
        ((repeat' ((conv => whnf);(first|refine zA ?_|(refine zI ?_ ?_<;> intro hh<;> first|(exfalso;omega)|skip)|(refine zl ?_ ?_<;> intro hh)|refine zq ?_|refine zv ?_|exact Sy.fin_val fun e=>rfl)));(all_goals (try conv => whnf)))
        refine Sy.end_here ⟨(n + 1, us, F, E), ⟨by dsimp only; omega, by dsimp only; rw [hus, hss], hF, hE⟩, by dsimp only; omega, ?_⟩
        dsimp only
        ((repeat' (first|((conv => whnf);done)|((try conv => whnf);first|exact trivial|(refine And.intro ?_ ?_)|rfl|exact fun _ _ _ h=>h|exact fun _ _ _ _=>trivial)));(all_goals (try conv => whnf)))
    · have e : n = gl.length := by omega
      subst e
      have ha : rowsOf us = allL (opsOf gl) := by rw [hus, allL, if_pos h0, hol]
      refine Sy.fin_own us ha ?_ rfl (fun w' hw' => ⟨fun b => F b ∧ ¬ fz b, fun b hb => by rw [← hfz]; exact hb, hE w' hw'⟩)
      ((conv => whnf);(refine And.intro ?_ (And.intro ?_ (And.intro ?_ ?_)));(all_goals ((repeat' (first|((conv => whnf);done)|((try conv => whnf);first|exact trivial|(refine And.intro ?_ ?_)|rfl|exact fun _ _ _ h=>h|exact fun _ _ _ _=>trivial)));(all_goals (try conv => whnf)))))

end Go.Proofs.Ythmcknchkecciaa
