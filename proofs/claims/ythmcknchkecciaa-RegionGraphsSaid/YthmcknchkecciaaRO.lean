/- Region: the document's All. -/
import Derived.Test.YthmcknchkecciaaRM
namespace Go.Proofs.Ythmcknchkecciaa
open Go Go.RowKit
open Sy (C SV V1 Blk St XD Els)
set_option maxRecDepth 10000

theorem ofL_head {g : List Opr} {op : Nat} (ho : op < g.length) : (ofL g op)[0]? = some (regOf g op : Int) := by
  have hm : (regOf g op : Int) ∈ ofL g op := ofL_mem.2 ⟨by have := regOf_le g op; omega, by rw [Int.toNat_natCast]; exact regOf_idem g op⟩
  have hst := ofL_strict g op
  have hall : ∀ x ∈ ofL g op, (regOf g op : Int) ≤ x := fun x hx => by
    obtain ⟨⟨h0, _⟩, he⟩ := ofL_mem.1 hx
    have := regOf_le g x.toNat
    rw [he] at this
    omega
  cases hl : ofL g op with
  | nil => rw [hl] at hm; cases hm
  | cons y r =>
    rw [hl] at hm hst hall
    rcases List.mem_cons.1 hm with e | hr
    · rw [e]; rfl
    · have h1 := (List.pairwise_cons.1 hst).1 _ hr
      have h2 := hall y List.mem_cons_self
      omega
def rallC (gv : Value) (gl : List OpV) : Sy.Ctr (List (Value × List Int)) := { avs := [.agg [.v gv]], n0 := 0, H0 := [], pre := fun F w => GOk F w gv gl, p := fun us => rowsOf us = allL (opsOf gl), sv := fun _ => .c (.row 0), n1 := fun _ => 1, H1 := fun us => [(0, .row 36 1 us.length (.vs (us.map encU)))], learn := true, q := fun us G w => UsOk G w us }
attribute [local irreducible] checkV ofL regOf
set_option maxHeartbeats 4000000 in
theorem rall_does (gv : Value) (gl : List OpV) (hone : gv.oneCell' = true) (h0 : (checkV (opsOf gl)).2 = 0) : Sy.Does Try.prog 15 (rallC gv gl) := by
  have hol := opsOf_len gl
  refine Sy.does_of Sy.lv15 Sy.tab_ok Try.func15 rfl _ Try.ntmps15 _ (lt_g1 hone) rfl (fun e0 w hpre => ?_)
  have hpre : GOk (Sy.frz e0 [] w) w gv gl := hpre
  have hl := ok_len hpre.1
  have h8 := check_ok h0
  have hg := check_good h0
  rw [hol] at h8 hg
  ((repeat' ((conv => whnf);(first|refine zA ?_|(refine zI ?_ ?_<;> intro hh<;> first|(exfalso;omega)|skip)|(refine zl ?_ ?_<;> intro hh)|refine zq ?_|refine zv ?_|exact Sy.fin_val fun e=>rfl)));(all_goals (try conv => whnf)))
  refine open_f _ _ _ (hpre.1) ?_
  ((repeat' ((conv => whnf);(first|refine zA ?_|(refine zI ?_ ?_<;> intro hh<;> first|(exfalso;omega)|skip)|(refine zl ?_ ?_<;> intro hh)|refine zq ?_|refine zv ?_|exact Sy.fin_val fun e=>rfl)));(all_goals (try conv => whnf)))
  refine Sy.sem_subF (Sy.sub_row 3 36 1 rfl) ?_
  conv => whnf
  obtain ⟨fz, hfz⟩ : ∃ fz, fz = Sy.frz e0 (rallC gv gl).H0 w := ⟨_, rfl⟩
  refine Sy.loop_ends Sy.tab_ok (fun x : Nat × List (Value × List Int) × (Nat → Prop) × (World → Prop) => [(9, .c (.v (.int .i64 x.1))), (3, .c (.row 2))]) (fun x => [(2, .row 36 1 x.2.1.length (.vs (x.2.1.map encU)))]) (fun x => x.2.2.1) (fun x => x.2.2.2)
    (fun x => x.1 ≤ gl.length ∧ rowsOf x.2.1 = allN (opsOf gl) x.1 ∧ (∀ b, fz b → x.2.2.1 b) ∧ ∀ w', x.2.2.2 w' → UsOk (fun b => x.2.2.1 b ∧ ¬ fz b) w' x.2.1) (fun x => gl.length - x.1) (0, [], fz, fun _ => True)
    ⟨Nat.zero_le _, rfl, fun _ h => h, fun _ _ o ho => by cases ho⟩ ?_ (fun x hx => ?_)
  · rw [hfz]
    ((repeat' (first|((conv => whnf);done)|((try conv => whnf);first|exact trivial|(refine And.intro ?_ ?_)|rfl|exact fun _ _ _ h=>h|exact fun _ _ _ _=>trivial)));(all_goals (try conv => whnf)))
  · obtain ⟨n, us, F, E⟩ := x
    obtain ⟨hn, hus, hF, hE⟩ := hx
    dsimp only at hn hus hF hE ⊢
    have hul : us.length ≤ n := by
      have := allN_len (opsOf gl) n
      rw [← hus] at this
      unfold rowsOf at this
      rwa [List.length_map] at this
    have hss := allN_succ (opsOf gl) n
    ((repeat' ((conv => whnf);(first|refine zA ?_|(refine zI ?_ ?_<;> intro hh<;> first|(exfalso;omega)|skip)|(refine zl ?_ ?_<;> intro hh)|exact Sy.fin_val fun e=>rfl)));(all_goals (try conv => whnf)))
    · have hlt : n < gl.length := by omega
      refine Sy.call_r1 ⟨3, 1, (ofL (opsOf gl) n).length, (ofL (opsOf gl) n).map encI⟩ (fun j => .c (.row j)) Try.call30 (fun e a w' h => rof_any gv gl n w' ((GOk.later h hpre).mono fun b hb => h.fl b hb) (by omega) hg hlt) ?_
      have hhd := ofL_head (g := opsOf gl) (op := n) (by omega)
      have hpos := (List.getElem?_eq_some_iff.1 hhd).1
      ((repeat' ((conv => whnf);(first|refine zA ?_|(refine zI ?_ ?_<;> intro hh<;> first|(exfalso;omega)|skip)|(refine zl ?_ ?_<;> intro hh)|refine zq ?_|refine zv ?_|exact Sy.fin_val fun e=>rfl)));(all_goals (try conv => whnf)))
      refine Sy.el_map _ hhd ?_
      by_cases he : regOf (opsOf gl) n = n
      · rw [if_pos he] at hss
        have he' : (regOf (opsOf gl) n : Int) = n := by rw [he]
        ((repeat' ((conv => whnf);(first|refine zA ?_|(refine zI ?_ ?_<;> intro hh<;> first|(exfalso;omega)|skip)|(refine zl ?_ ?_<;> intro hh)|refine zq ?_|refine zv ?_|exact Sy.fin_val fun e=>rfl)));(all_goals (try conv => whnf)))
        refine Sy.need_of (by show (us.length + 1) * 24 ≤ _ ∧ _; omega) ?_
        ((repeat' ((conv => whnf);(first|refine zA ?_|(refine zI ?_ ?_<;> intro hh<;> first|(exfalso;omega)|skip)|(refine zl ?_ ?_<;> intro hh)|refine zq ?_|refine zv ?_|exact Sy.fin_val fun e=>rfl)));(all_goals (try conv => whnf)))
        refine Sy.end_freeze 3 5 (fun u => (us ++ [(u, ofL (opsOf gl) n)]).map encU) (by decide) rfl rfl (fun e => by
          show List.map _ ((Els.vs (us.map encU)).toC ++ _) = _
          rw [List.map_append, Sy.Els.den_toC, List.map_append]; rfl) (fun u G hG hu => ?_)
        conv => whnf
        refine Sy.end_here ⟨(n + 1, us ++ [(u, ofL (opsOf gl) n)], fun b => F b ∨ G b, fun w' => E w' ∧ (XD.ok G w' ⟨u, 1, (ofL (opsOf gl) n).length, (ofL (opsOf gl) n).map encI⟩ ∧ ∀ b, G b → F b ∨ G b)), ⟨by dsimp only; omega, ?_, fun b hb => .inl (hF b hb), fun w' hw p hp => ?_⟩, by dsimp only; omega, ?_⟩
        · dsimp only
          rw [hss, ← hus]
          unfold rowsOf
          rw [List.map_append]
          rfl
        · rcases List.mem_append.1 hp with hp | hp
          · exact XD.ok.mono (hE w' hw.1 p hp) fun b hb => ⟨.inl hb.1, hb.2⟩
          · rw [List.mem_singleton.1 hp]
            exact XD.ok.mono hw.2.1 fun b hb => ⟨.inr hb, fun hf => hG b hb (hF b hf)⟩
        · dsimp only
          ((repeat' (first|((conv => whnf);done)|((try conv => whnf);first|exact trivial|(refine And.intro ?_ ?_)|rfl|exact fun _ _ _ h=>h|exact fun _ _ _ _=>trivial)));(all_goals (try conv => whnf)))
          all_goals simp
      · rw [if_neg he, List.append_nil] at hss
        have he' : (regOf (opsOf gl) n : Int) ≠ n := by omega
        ((repeat' ((conv => whnf);(first|refine zA ?_|(refine zI ?_ ?_<;> intro hh<;> first|(exfalso;omega)|skip)|(refine zl ?_ ?_<;> intro hh)|refine zq ?_|refine zv ?_|exact Sy.fin_val fun e=>rfl)));(all_goals (try conv => whnf)))
        refine Sy.end_here ⟨(n + 1, us, F, E), ⟨by dsimp only; omega, by dsimp only; rw [hus, hss], hF, hE⟩, by dsimp only; omega, ?_⟩
        dsimp only
        ((repeat' (first|((conv => whnf);done)|((try conv => whnf);first|exact trivial|(refine And.intro ?_ ?_)|rfl|exact fun _ _ _ h=>h|exact fun _ _ _ _=>trivial)));(all_goals (try conv => whnf)))
    · have e : n = gl.length := by omega
      subst e
      have ha : rowsOf us = allL (opsOf gl) := by rw [hus, allL, if_pos h0, hol]
      refine Sy.fin_own us ha ?_ rfl (fun w' hw' => ⟨fun b => F b ∧ ¬ fz b, fun b hb => by rw [← hfz]; exact hb, hE w' hw'⟩)
      ((conv => whnf);(refine And.intro ?_ (And.intro ?_ (And.intro ?_ ?_)));(all_goals ((repeat' (first|((conv => whnf);done)|((try conv => whnf);first|exact trivial|(refine And.intro ?_ ?_)|rfl|exact fun _ _ _ h=>h|exact fun _ _ _ _=>trivial)));(all_goals (try conv => whnf)))))
end Go.Proofs.Ythmcknchkecciaa
