/- Graph: the law Back. -/
import Derived.Test.YteldohidnepaoaaGY
import Derived.Test.YteldohidnepaoaaGU
namespace Go.Proofs.Yteldohidnepaoaa
open Go Go.RowKit
open Sy (C SV V1 Blk St XD Els)
set_option maxRecDepth 10000

attribute [local irreducible] gBs checkV parse numB decV
/-- A callee that is lent one slice that it reads, and hands back a row of its own and a number: as a plain call. -/
theorem decode_ex (v : Value) (bs : List Int) (w : World) (hr : XD.ok (fun b => b < w.heap.size) w ⟨v, 1, bs.length, bs.map encB⟩) (hbs : bs.length ≤ 100000) (h8 : ∀ b ∈ bs, 0 ≤ b ∧ b < 256) :
    Calls Try.prog 30 #[v] w (Sy.RetEx (fun u : Value => u.oneCell' = true) (fun u => .tuple #[.agg #[u], .int .i64 (decV bs).2]) w) := by
  have h0 := Sy.rep_bare (lv := []) (P := Try.prog) (T := Sy.tab) (w := w) (nt := 0) (own := fun _ => False) (args := #[]) (Nat.zero_le _)
  have h1 := Sy.Rep.exts [⟨v, 1, bs.length, bs.map encB⟩] h0 (fun d hd => by rw [List.mem_singleton.1 hd]; exact XD.ok.mono hr fun b hb => ⟨hb, fun h => h⟩)
  obtain ⟨e0, he0⟩ : ∃ e0, e0 = Sy.env0.exts (St.bare w fun _ => False).nx [⟨v, 1, bs.length, bs.map encB⟩] := ⟨_, rfl⟩
  rw [← he0] at h1
  have hv : e0.rv 0 = v := by rw [he0]; exact Sy.Env.withRow_rv _ _ _ _
  have hno : ∀ x, ¬ Sy.ownOf e0 (decC bs).H0 x := fun x ⟨k, b, hk, hf⟩ => by
    rcases Sy.get_cons hk with ⟨_, rfl⟩ | ⟨_, hk⟩
    · exact hf
    · cases hk
  have hO : Sy.OwnH (Sy.frz e0 (decC bs).H0 w) e0 1 (decC bs).H0 w := by
    refine ⟨fun X k b hk => ?_, fun k b hk => ?_, fun k k' b b' x hk hk' hne hf => ?_, h1.one⟩
    · rcases Sy.get_cons hk with ⟨rfl, rfl⟩ | ⟨_, hk⟩
      · obtain ⟨q1, q2, q3⟩ := h1.hp 0 (.ext 1 bs.length (.vs (bs.map encB))) rfl
        exact ⟨q1.keep (fun b hb => ⟨hb.1, hno b⟩) (fun _ _ => rfl), q2, q3⟩
      · cases hk
    · rcases Sy.get_cons hk with ⟨rfl, rfl⟩ | ⟨_, hk⟩
      · exact ⟨Nat.zero_lt_one, hr.2⟩
      · cases hk
    · rcases Sy.get_cons hk with ⟨rfl, rfl⟩ | ⟨_, hk⟩
      · exact hf.elim
      · cases hk
  have hc := decode_does bs hbs h8 e0 w hO trivial
  have hargs : Sy.denAll e0 (decC bs).avs = #[v] := by
    show #[e0.rv 0] = _
    rw [hv]
  rw [hargs] at hc
  refine hc.mono fun E w' ⟨x, e1, G, hp, hE, hs, hb, hO1, _⟩ => ?_
  refine ⟨e1.rv 1, hO1.one 1, hE, ?_⟩
  exact ⟨hb.os, hb.tape, hb.output, hb.size, fun k hk => hb.block k hk (hno k)⟩
theorem buf_reads {X : Sy.Cx} {e : Sy.Env} {S : St} {a : Act} {w : World} (h : Sy.Rep X e S a w) {k n ety esz cap : Nat} {xs : List (List Value)} (hk : Sy.get S.H k = some (.buf ety esz cap (.vs xs))) (hn : n ≤ xs.length) :
    XD.ok (fun b => b < w.heap.size) w ⟨(C.sl k 0 n).den e, esz, n, xs.take n⟩ := by
  obtain ⟨hB, hes, hcp, hra⟩ := h.hp k _ hk
  have hlt := (h.hlt k _ hk).2
  have hB' : Sy.OwnB w ety esz (e.ad k) cap xs := hB
  have hv : (C.sl k 0 n).den e = .slice (some ⟨e.ad k, 0, none⟩) n cap := by
    show Value.slice (some ((e.ra k).add (0 * e.es k))) n (e.cp k - 0) = _
    rw [hra, hcp, Nat.zero_mul, Nat.sub_zero, Sy.addr_mid]
  refine ⟨⟨by simp; omega, fun c hc => hB'.1 c (List.mem_of_mem_take hc), some ⟨e.ad k, 0, none⟩, cap, hv, Nat.le_trans hn hB'.2.1, hB'.2.2.1, fun _ => ⟨_, rfl, hB'.lt, fun j u hu => ?_⟩⟩, fun c hc u hu => hlt c (List.mem_of_mem_take hc) u hu⟩
  rw [Sy.addr_mid]
  refine hB'.cells j u ?_
  rw [Sy.flat_take hB'.1] at hu
  exact Sy.get_of_take hu
set_option maxHeartbeats 8000000 in
theorem back_any (v v1 : Value) (gl : List OpV) (bs : List Int) (w : World) (hr : GOk (fun b => b < w.heap.size) w v gl) (hi : ∀ o ∈ opsOf gl, (-9223372036854775808 ≤ o.a ∧ o.a ≤ 9223372036854775807) ∧ (-9223372036854775808 ≤ o.b ∧ o.b ≤ 9223372036854775807))
    (hb : XD.ok (fun b => b < w.heap.size) w ⟨v1, 1, bs.length, bs.map encB⟩) (h8 : ∀ b ∈ bs, 0 ≤ b ∧ b < 256) :
    Calls Try.prog 8 #[.agg #[v], v1] w (Sy.Ret (.bool true) w) := by
  have hone := hr.one
  have hbl := ok_len hb
  have hone1 := hb.1.one
  refine Sy.calls_of Sy.lv8 Sy.tab_ok Try.func8 rfl _ Try.ntmps8 [⟨v1, 1, bs.length, bs.map encB⟩] [.agg [.v v], .c (.row 0)] rfl (by simp [Sy.allLt, SV.lt, Sy.ltAll, C.lt, hone]; rfl) rfl ⟨hb, trivial⟩ ?_
  ((repeat' ((conv => whnf);(first|refine z1 ?_|refine z2 ?_|refine z3 ?_|refine z4 ?_|refine z5 ?_|refine z6 ?_|refine z7 ?_|refine z8 ?_|refine z9 ?_|refine za ?_|refine zb ?_|refine zc ?_|refine zd ?_|refine ze ?_|refine zf ?_|refine zg ?_|refine zh ?_|((first|refine zi ?_ ?_|refine zj ?_ ?_|refine zk ?_ ?_)<;> intro hh <;> first|(exfalso;omega)|skip)|(refine zl ?_ ?_<;> intro hh)|refine zm ?_|refine zn ?_|refine zo ?_|refine zp ?_|refine zq ?_|refine zv ?_|refine zr ?_|refine zs _ rfl ?_|exact Sy.fin_val (fun e=>rfl))));(all_goals (try conv => whnf)))
  refine Sy.call_val (.c (.v (.bool true))) Try.call9 rfl (fun e a w' h => wakes_any w') ?_
  ((repeat' ((conv => whnf);(first|refine z1 ?_|refine z2 ?_|refine z3 ?_|refine z4 ?_|refine z5 ?_|refine z6 ?_|refine z7 ?_|refine z8 ?_|refine z9 ?_|refine za ?_|refine zb ?_|refine zc ?_|refine zd ?_|refine ze ?_|refine zf ?_|refine zg ?_|refine zh ?_|((first|refine zi ?_ ?_|refine zj ?_ ?_|refine zk ?_ ?_)<;> intro hh <;> first|(exfalso;omega)|skip)|(refine zl ?_ ?_<;> intro hh)|refine zm ?_|refine zn ?_|refine zo ?_|refine zp ?_|refine zq ?_|refine zv ?_|refine zr ?_|refine zs _ rfl ?_|exact Sy.fin_val (fun e=>rfl))));(all_goals (try conv => whnf)))
  refine Sy.call_own (short_does v gl hone) Try.call10 ?_ (fun e a w' F' h hF' => (GOk.later h (hr.mono fun b hb => ⟨hb, fun h => h⟩)).mono hF') (fun _ ls G G' w1 w2 hq hG hk o ho => (hq o ho).keep hG hk)
  ((conv => whnf);(refine And.intro ?_ (And.intro ?_ (And.intro ?_ (And.intro ?_ ?_))));(all_goals ((repeat' (first|((conv => whnf);done)|((try conv => whnf);first|exact trivial|(refine And.intro ?_ ?_)|rfl)));(all_goals (try conv => whnf))));rotate_right)
  intro ls hls G
  have hol := opsOf_len ls
  have his : ∀ o ∈ opsOf ls, (-9223372036854775808 ≤ o.a ∧ o.a ≤ 9223372036854775807) ∧ (-9223372036854775808 ≤ o.b ∧ o.b ≤ 9223372036854775807) := fun o ho => by
    rw [show opsOf ls = shortM (opsOf gl) from hls] at ho
    obtain ⟨q, hq, rfl⟩ := List.mem_map.1 ho
    exact hi q (List.mem_of_mem_take hq)
  ((repeat' ((conv => whnf);(first|refine z1 ?_|refine z2 ?_|refine z3 ?_|refine z4 ?_|refine z5 ?_|refine z6 ?_|refine z7 ?_|refine z8 ?_|refine z9 ?_|refine za ?_|refine zb ?_|refine zc ?_|refine zd ?_|refine ze ?_|refine zf ?_|refine zg ?_|refine zh ?_|((first|refine zi ?_ ?_|refine zj ?_ ?_|refine zk ?_ ?_)<;> intro hh <;> first|(exfalso;omega)|skip)|(refine zl ?_ ?_<;> intro hh)|refine zm ?_|refine zn ?_|refine zo ?_|refine zp ?_|refine zq ?_|refine zv ?_|refine zr ?_|refine zs _ rfl ?_|exact Sy.fin_val (fun e=>rfl))));(all_goals (try conv => whnf)))
  refine Sy.call_r1 ⟨5, 1, (encG (opsOf ls)).length, (encG (opsOf ls)).map encB⟩ (fun j => .tup [.c (.row j), .c (.v (.int .i64 (checkV (opsOf ls)).2))]) Try.call13 (fun e a w' h => encode_any (e.rv 2) ls w' ⟨Sy.row_reads h (.inl ⟨_, rfl⟩), fun o ho => ((h.ev w' fun _ _ => rfl).2.2 o ho).mono fun b hb => h.fl b hb⟩) ?_
  obtain ⟨j, hjd⟩ : ∃ j, j = min bs.length 600 := ⟨_, rfl⟩
  have hj : Sy.minI (bs.length : Int) 600 = (j : Int) := by unfold Sy.minI; split <;> omega
  have jl : j - 0 = (bs.take j).length := by rw [List.length_take]; omega
  have jx : List.take (j - 0) (List.drop 0 (bs.map encB)) = (bs.take j).map encB := by rw [List.drop_zero, Nat.sub_zero, ← List.map_take]
  have j8 : ∀ b ∈ bs.take j, 0 ≤ b ∧ b < 256 := fun b hb => h8 b (List.mem_of_mem_take hb)
  have hdj := dec_ok (bs := bs.take j) (os := (decV (bs.take j)).1) (e := (decV (bs.take j)).2) rfl
  by_cases h0 : (checkV (opsOf ls)).2 = 0
  · have hsm := good_small h0 his
    have hck := check_ok h0
    have hgm := gBs_mem (opsOf ls)
    rw [h0, show encG (opsOf ls) = gBs (opsOf ls) from if_pos h0]
    have hgl := gN_len (g := opsOf ls) (insOk_good h0).ops (opsOf ls).length (Nat.le_refl _)
    have hgb : (gBs (opsOf ls)).length ≤ 1000 := by unfold gBs; omega
    have hg1 : 0 < (gBs (opsOf ls)).length := by rw [gBs_cons _ (by omega)]; exact Nat.succ_pos _
    have hde := dec_enc h0 hsm
    ((repeat' ((conv => whnf);(first|refine z1 ?_|refine z2 ?_|refine z3 ?_|refine z4 ?_|refine z5 ?_|refine z6 ?_|refine z7 ?_|refine z8 ?_|refine z9 ?_|refine za ?_|refine zb ?_|refine zc ?_|refine zd ?_|refine ze ?_|refine zf ?_|refine zg ?_|refine zh ?_|((first|refine zi ?_ ?_|refine zj ?_ ?_|refine zk ?_ ?_)<;> intro hh <;> first|(exfalso;omega)|skip)|(refine zl ?_ ?_<;> intro hh)|refine zm ?_|refine zn ?_|refine zo ?_|refine zp ?_|refine zq ?_|refine zv ?_|refine zr ?_|refine zs _ rfl ?_|exact Sy.fin_val (fun e=>rfl))));(all_goals (try conv => whnf)))
    refine Sy.call_own (decode_does (gBs (opsOf ls)) (by omega) hgm) Try.call30 ?_ (fun e a w' F' h hF' => trivial) (fun _ ls G G' w1 w2 hq hG hk o ho => (hq o ho).keep hG hk)
    ((conv => whnf);(refine And.intro ?_ (And.intro ?_ (And.intro ?_ (And.intro ?_ ?_))));(all_goals ((repeat' (first|((conv => whnf);done)|((try conv => whnf);first|exact trivial|(refine And.intro ?_ ?_)|rfl)));(all_goals (try conv => whnf))));rotate_right)
    intro us hus G2
    have hus : opsOf us = opsOf ls := by
      have : opsOf us = (decV (gBs (opsOf ls))).1 := hus
      rw [this, hde]
    have hd2 : (decV (gBs (opsOf ls))).2 = 0 := by rw [hde]
    ((repeat' ((conv => whnf);(first|refine z1 ?_|refine z2 ?_|refine z3 ?_|refine z4 ?_|refine z5 ?_|refine z6 ?_|refine z7 ?_|refine z8 ?_|refine z9 ?_|refine za ?_|refine zb ?_|refine zc ?_|refine zd ?_|refine ze ?_|refine zf ?_|refine zg ?_|refine zh ?_|((first|refine zi ?_ ?_|refine zj ?_ ?_|refine zk ?_ ?_)<;> intro hh <;> first|(exfalso;omega)|skip)|(refine zl ?_ ?_<;> intro hh)|refine zm ?_|refine zn ?_|refine zo ?_|refine zp ?_|refine zq ?_|refine zv ?_|refine zr ?_|refine zs _ rfl ?_|exact Sy.fin_val (fun e=>rfl))));(all_goals (try conv => whnf)))
    refine Sy.call_val (.c (.v (.bool true))) Try.call18 rfl (fun e a w' h => by
      have := gsame_any (e.rv 2) (e.rv 4) ls us w' ⟨Sy.row_reads h (.inl ⟨_, rfl⟩), fun o ho => ((h.ev w' fun _ _ => rfl).1.2.2 o ho).mono fun b hb => h.fl b (.inl hb)⟩ ⟨Sy.row_reads h (.inl ⟨_, rfl⟩), fun o ho => ((h.ev w' fun _ _ => rfl).2.2 o ho).mono fun b hb => h.fl b hb⟩
      rw [decide_eq_true hus.symm] at this
      exact this) ?_
    ((repeat' ((conv => whnf);(first|refine z1 ?_|refine z2 ?_|refine z3 ?_|refine z4 ?_|refine z5 ?_|refine z6 ?_|refine z7 ?_|refine z8 ?_|refine z9 ?_|refine za ?_|refine zb ?_|refine zc ?_|refine zd ?_|refine ze ?_|refine zf ?_|refine zg ?_|refine zh ?_|((first|refine zi ?_ ?_|refine zj ?_ ?_|refine zk ?_ ?_)<;> intro hh <;> first|(exfalso;omega)|skip)|(refine zl ?_ ?_<;> intro hh)|refine zm ?_|refine zn ?_|refine zo ?_|refine zp ?_|refine zq ?_|refine zv ?_|refine zr ?_|refine zs _ rfl ?_|exact Sy.fin_val (fun e=>rfl))));(all_goals (try conv => whnf)))
    refine Sy.row_buf 3 5 1 (gBs (opsOf ls)).length (.vs ((gBs (opsOf ls)).map encB)) rfl hg1 (fun cap hcap1 hcap2 => ?_)
    conv => whnf
    refine Sy.loop_inv Sy.tab_ok (fun m : Nat => [(42, .c (.v (.int .i64 m)))]) (fun m => []) (fun m => m ≤ (gBs (opsOf ls)).length) (fun m => (gBs (opsOf ls)).length - m) 0 (Nat.zero_le _) ?_ (fun m hm => ?_)
    · ((repeat' (first|((conv => whnf);done)|((try conv => whnf);first|exact trivial|(refine And.intro ?_ ?_)|rfl)));(all_goals (try conv => whnf)))
    · ((repeat' ((conv => whnf);(first|refine z1 ?_|refine z2 ?_|refine z3 ?_|refine z4 ?_|refine z5 ?_|refine z6 ?_|refine z7 ?_|refine z8 ?_|refine z9 ?_|refine za ?_|refine zb ?_|refine zc ?_|refine zd ?_|refine ze ?_|refine zf ?_|refine zg ?_|refine zh ?_|((first|refine zi ?_ ?_|refine zj ?_ ?_|refine zk ?_ ?_)<;> intro hh <;> first|(exfalso;omega)|skip)|(refine zl ?_ ?_<;> intro hh)|refine zm ?_|refine zn ?_|refine zo ?_|refine zp ?_|refine zr ?_|refine zs _ rfl ?_|exact Sy.fin_val (fun e=>rfl))));(all_goals (try conv => whnf)))
      · have hlm : m < (gBs (opsOf ls)).length := by omega
        have htl : ((gBs (opsOf ls)).take m).length = m := by rw [List.length_take]; omega
        have hdl := dec_less h0 hsm hlm
        refine Sy.sli_eq 0 m rfl rfl ⟨by omega, by omega⟩ ?_
        ((repeat' ((conv => whnf);(first|refine z1 ?_|refine z2 ?_|refine z3 ?_|refine z4 ?_|refine z5 ?_|refine z6 ?_|refine z7 ?_|refine z8 ?_|refine z9 ?_|refine za ?_|refine zb ?_|refine zc ?_|refine zd ?_|refine ze ?_|refine zf ?_|refine zg ?_|refine zh ?_|((first|refine zi ?_ ?_|refine zj ?_ ?_|refine zk ?_ ?_)<;> intro hh <;> first|(exfalso;omega)|skip)|(refine zl ?_ ?_<;> intro hh)|refine zm ?_|refine zn ?_|refine zo ?_|refine zp ?_|refine zq ?_|refine zv ?_|refine zr ?_|refine zs _ rfl ?_|exact Sy.fin_val (fun e=>rfl))));(all_goals (try conv => whnf)))
        refine Sy.rev_in (by show 0 + m ≤ ((gBs (opsOf ls)).map encB).length; rw [List.length_map]; omega) ?_
        ((repeat' ((conv => whnf);(first|refine z1 ?_|refine z2 ?_|refine z3 ?_|refine z4 ?_|refine z5 ?_|refine z6 ?_|refine z7 ?_|refine z8 ?_|refine z9 ?_|refine za ?_|refine zb ?_|refine zc ?_|refine zd ?_|refine ze ?_|refine zf ?_|refine zg ?_|refine zh ?_|((first|refine zi ?_ ?_|refine zj ?_ ?_|refine zk ?_ ?_)<;> intro hh <;> first|(exfalso;omega)|skip)|(refine zl ?_ ?_<;> intro hh)|refine zm ?_|refine zn ?_|refine zo ?_|refine zp ?_|refine zq ?_|refine zv ?_|refine zr ?_|refine zs _ rfl ?_|exact Sy.fin_val (fun e=>rfl))));(all_goals (try conv => whnf)))
        refine Sy.call_ex (fun u : Value => u.oneCell' = true) (fun u => .tup [.agg [.v u], .c (.v (.int .i64 7))]) Try.call30 (fun u hu => by show Sy.ltAll1 _ [V1.agg [C.v u], _] = true; simp [Sy.ltAll1, V1.lt, Sy.ltAll, C.lt, hu]; rfl) (fun e a w' h => by
          have hb := buf_reads h (k := 6) (n := m) (ety := 5) (esz := 1) (cap := cap) (xs := (gBs (opsOf ls)).map encB) rfl (by rw [List.length_map]; omega)
          rw [← List.map_take] at hb
          have := decode_ex _ ((gBs (opsOf ls)).take m) w' (by rw [htl]; exact hb) (by omega) (fun b hb => hgm b (List.mem_of_mem_take hb))
          rw [hdl] at this
          exact this) (fun u hu => ?_)
        ((repeat' ((conv => whnf);(first|refine z1 ?_|refine z2 ?_|refine z3 ?_|refine z4 ?_|refine z5 ?_|refine z6 ?_|refine z7 ?_|refine z8 ?_|refine z9 ?_|refine za ?_|refine zb ?_|refine zc ?_|refine zd ?_|refine ze ?_|refine zf ?_|refine zg ?_|refine zh ?_|((first|refine zi ?_ ?_|refine zj ?_ ?_|refine zk ?_ ?_)<;> intro hh <;> first|(exfalso;omega)|skip)|(refine zl ?_ ?_<;> intro hh)|refine zm ?_|refine zn ?_|refine zo ?_|refine zp ?_|refine zq ?_|refine zv ?_|refine zr ?_|refine zs _ rfl ?_|exact Sy.fin_val (fun e=>rfl))));(all_goals (try conv => whnf)))
        refine ⟨m + 1, by omega, by omega, ?_⟩
        ((repeat' (first|((conv => whnf);done)|((try conv => whnf);first|exact trivial|(refine And.intro ?_ ?_)|rfl)));(all_goals (try conv => whnf)))
      · have em : m = (gBs (opsOf ls)).length := by omega
        have hdm := dec_more h0 hsm
        have hml : (gBs (opsOf ls) ++ [0]).length = (gBs (opsOf ls)).length + 1 := by simp
        have hm8 : ∀ b ∈ gBs (opsOf ls) ++ [0], 0 ≤ b ∧ b < 256 := fun b hb => by
          rcases List.mem_append.1 hb with hb | hb
          · exact hgm b hb
          · rw [List.mem_singleton.1 hb]; decide
        have hmy : List.take ((gBs (opsOf ls)).length + 1) (List.take (gBs (opsOf ls)).length ((gBs (opsOf ls)).map encB) ++ [[Value.int .u8 0]]) = (gBs (opsOf ls) ++ [0]).map encB := by
          rw [List.take_of_length_le (l := (gBs (opsOf ls)).map encB) (by simp), List.take_of_length_le (by simp), List.map_append]
          rfl
        have hmx : List.take ((gBs (opsOf ls)).length + 1) (List.take (gBs (opsOf ls)).length ((gBs (opsOf ls)).map encB) ++ ([[Value.int .u8 0]] ++ List.drop ((gBs (opsOf ls)).length + 1) ((gBs (opsOf ls)).map encB))) = (gBs (opsOf ls) ++ [0]).map encB := by
          rw [List.take_of_length_le (l := (gBs (opsOf ls)).map encB) (by simp), List.drop_of_length_le (by simp), List.append_nil, List.take_of_length_le (by simp), List.map_append]
          rfl
        refine Sy.need_of (by show (gBs (opsOf ls)).length ≤ ((gBs (opsOf ls)).map encB).length; rw [List.length_map]; exact Nat.le_refl _) ?_
        ((repeat' ((conv => whnf);(first|refine z1 ?_|refine z2 ?_|refine z3 ?_|refine z4 ?_|refine z5 ?_|refine z6 ?_|refine z7 ?_|refine z8 ?_|refine z9 ?_|refine za ?_|refine zb ?_|refine zc ?_|refine zd ?_|refine ze ?_|refine zf ?_|refine zg ?_|refine zh ?_|((first|refine zi ?_ ?_|refine zj ?_ ?_|refine zk ?_ ?_)<;> intro hh <;> first|(exfalso;omega)|skip)|(refine zl ?_ ?_<;> intro hh)|refine zm ?_|refine zn ?_|refine zo ?_|refine zp ?_|refine zq ?_|refine zv ?_|refine zr ?_|refine zs _ rfl ?_|exact Sy.fin_val (fun e=>rfl))));(all_goals (try conv => whnf)))
        · refine Sy.call_ex (fun u : Value => u.oneCell' = true) (fun u => .tup [.agg [.v u], .c (.v (.int .i64 160))]) Try.call30 (fun u hu => by show Sy.ltAll1 _ [V1.agg [C.v u], _] = true; simp [Sy.ltAll1, V1.lt, Sy.ltAll, C.lt, hu]; rfl) (fun e a w' h => by
            have hb := buf_reads h (k := 6) (n := (gBs (opsOf ls)).length + 1) rfl (by rw [List.length_append, List.length_take, List.length_map, List.length_append, List.length_drop, List.length_map]; simp)
            rw [hmx] at hb
            have := decode_ex _ (gBs (opsOf ls) ++ [0]) w' (by rw [hml]; exact hb) (by omega) hm8
            rw [hdm] at this
            exact this) (fun u hu => ?_)
          ((repeat' ((conv => whnf);(first|refine z1 ?_|refine z2 ?_|refine z3 ?_|refine z4 ?_|refine z5 ?_|refine z6 ?_|refine z7 ?_|refine z8 ?_|refine z9 ?_|refine za ?_|refine zb ?_|refine zc ?_|refine zd ?_|refine ze ?_|refine zf ?_|refine zg ?_|refine zh ?_|((first|refine zi ?_ ?_|refine zj ?_ ?_|refine zk ?_ ?_)<;> intro hh <;> first|(exfalso;omega)|skip)|(refine zl ?_ ?_<;> intro hh)|refine zm ?_|refine zn ?_|refine zo ?_|refine zp ?_|refine zq ?_|refine zv ?_|refine zr ?_|refine zs _ rfl ?_|exact Sy.fin_val (fun e=>rfl))));(all_goals (try conv => whnf)))
          refine Sy.sli_eq 0 j rfl hj ⟨by omega, by omega⟩ ?_
          ((repeat' ((conv => whnf);(first|refine z1 ?_|refine z2 ?_|refine z3 ?_|refine z4 ?_|refine z5 ?_|refine z6 ?_|refine z7 ?_|refine z8 ?_|refine z9 ?_|refine za ?_|refine zb ?_|refine zc ?_|refine zd ?_|refine ze ?_|refine zf ?_|refine zg ?_|refine zh ?_|((first|refine zi ?_ ?_|refine zj ?_ ?_|refine zk ?_ ?_)<;> intro hh <;> first|(exfalso;omega)|skip)|(refine zl ?_ ?_<;> intro hh)|refine zm ?_|refine zn ?_|refine zo ?_|refine zp ?_|refine zq ?_|refine zv ?_|refine zr ?_|refine zs _ rfl ?_|exact Sy.fin_val (fun e=>rfl))));(all_goals (try conv => whnf)))
          rw [jx, jl]
          refine Sy.call_own (decode_does (bs.take j) (by rw [← jl]; omega) j8) Try.call30 ?_ (fun e a w' F' h hF' => trivial) (fun _ ls G G' w1 w2 hq hG hk o ho => (hq o ho).keep hG hk)
          ((conv => whnf);(refine And.intro ?_ (And.intro ?_ (And.intro ?_ (And.intro ?_ ?_))));(all_goals ((repeat' (first|((conv => whnf);done)|((try conv => whnf);first|exact trivial|(refine And.intro ?_ ?_)|rfl)));(all_goals (try conv => whnf))));rotate_right)
          intro vl hvl G3
          have hvl : opsOf vl = (decV (bs.take j)).1 := hvl
          by_cases hz : (decV (bs.take j)).2 = 0
          · ((repeat' ((conv => whnf);(first|refine z1 ?_|refine z2 ?_|refine z3 ?_|refine z4 ?_|refine z5 ?_|refine z6 ?_|refine z7 ?_|refine z8 ?_|refine z9 ?_|refine za ?_|refine zb ?_|refine zc ?_|refine zd ?_|refine ze ?_|refine zf ?_|refine zg ?_|refine zh ?_|((first|refine zi ?_ ?_|refine zj ?_ ?_|refine zk ?_ ?_)<;> intro hh <;> first|(exfalso;omega)|skip)|(refine zl ?_ ?_<;> intro hh)|refine zm ?_|refine zn ?_|refine zo ?_|refine zp ?_|refine zq ?_|refine zv ?_|refine zr ?_|refine zs _ rfl ?_|exact Sy.fin_val (fun e=>rfl))));(all_goals (try conv => whnf)))
            have hq0 := hdj.1 hz
            rw [← hvl] at hq0
            refine Sy.call_r1 ⟨5, 1, (bs.take j).length, (bs.take j).map encB⟩ (fun j => .tup [.c (.row j), .c (.v (.int .i64 0))]) Try.call13 (fun e a w' h => by
              have := encode_any _ vl w' ⟨Sy.row_reads h (k := 10) (.inl ⟨_, rfl⟩), fun o ho => ((h.ev w' fun _ _ => rfl).2.2 o ho).mono fun b hb => h.fl b hb⟩
              rw [show encG (opsOf vl) = bs.take j by rw [encG, if_pos hq0.1, hq0.2], hq0.1] at this
              exact this) ?_
            ((repeat' ((conv => whnf);(first|refine z1 ?_|refine z2 ?_|refine z3 ?_|refine z4 ?_|refine z5 ?_|refine z6 ?_|refine z7 ?_|refine z8 ?_|refine z9 ?_|refine za ?_|refine zb ?_|refine zc ?_|refine zd ?_|refine ze ?_|refine zf ?_|refine zg ?_|refine zh ?_|((first|refine zi ?_ ?_|refine zj ?_ ?_|refine zk ?_ ?_)<;> intro hh <;> first|(exfalso;omega)|skip)|(refine zl ?_ ?_<;> intro hh)|refine zm ?_|refine zn ?_|refine zo ?_|refine zp ?_|refine zq ?_|refine zv ?_|refine zr ?_|refine zs _ rfl ?_|exact Sy.fin_val (fun e=>rfl))));(all_goals (try conv => whnf)))
            refine Sy.call_val (.c (.v (.bool true))) Try.call15 rfl (fun e a w' h => by
              have := bytesEq_any (e.rv 12) (e.rv 9) (bs.take j) (bs.take j) w' (Sy.row_reads h (.inl ⟨_, rfl⟩)) (Sy.row_reads h (.inr rfl))
              rw [bytesEq_self] at this
              exact this) ?_
            ((repeat' ((conv => whnf);(first|refine z1 ?_|refine z2 ?_|refine z3 ?_|refine z4 ?_|refine z5 ?_|refine z6 ?_|refine z7 ?_|refine z8 ?_|refine z9 ?_|refine za ?_|refine zb ?_|refine zc ?_|refine zd ?_|refine ze ?_|refine zf ?_|refine zg ?_|refine zh ?_|((first|refine zi ?_ ?_|refine zj ?_ ?_|refine zk ?_ ?_)<;> intro hh <;> first|(exfalso;omega)|skip)|(refine zl ?_ ?_<;> intro hh)|refine zm ?_|refine zn ?_|refine zo ?_|refine zp ?_|refine zq ?_|refine zv ?_|refine zr ?_|refine zs _ rfl ?_|exact Sy.fin_val (fun e=>rfl))));(all_goals (try conv => whnf)))
            all_goals done
          · have hq0 := hdj.2 hz
            have hv0 : vl.length = 0 := by rw [← opsOf_len, hvl, hq0.1]; rfl
            rcases hq0.2 with hz7 | hz7
            · rw [hz7] at hz
              ((repeat' ((conv => whnf);(first|refine z1 ?_|refine z2 ?_|refine z3 ?_|refine z4 ?_|refine z5 ?_|refine z6 ?_|refine z7 ?_|refine z8 ?_|refine z9 ?_|refine za ?_|refine zb ?_|refine zc ?_|refine zd ?_|refine ze ?_|refine zf ?_|refine zg ?_|refine zh ?_|((first|refine zi ?_ ?_|refine zj ?_ ?_|refine zk ?_ ?_)<;> intro hh <;> first|(exfalso;omega)|skip)|(refine zl ?_ ?_<;> intro hh)|refine zm ?_|refine zn ?_|refine zo ?_|refine zp ?_|refine zq ?_|refine zv ?_|refine zr ?_|refine zs _ rfl ?_|exact Sy.fin_val (fun e=>rfl))));(all_goals (try conv => whnf)))
              done
            · ((repeat' ((conv => whnf);(first|refine z1 ?_|refine z2 ?_|refine z3 ?_|refine z4 ?_|refine z5 ?_|refine z6 ?_|refine z7 ?_|refine z8 ?_|refine z9 ?_|refine za ?_|refine zb ?_|refine zc ?_|refine zd ?_|refine ze ?_|refine zf ?_|refine zg ?_|refine zh ?_|((first|refine zi ?_ ?_|refine zj ?_ ?_|refine zk ?_ ?_)<;> intro hh <;> first|(exfalso;omega)|skip)|(refine zl ?_ ?_<;> intro hh)|refine zm ?_|refine zn ?_|refine zo ?_|refine zp ?_|refine zq ?_|refine zv ?_|refine zr ?_|refine zs _ rfl ?_|exact Sy.fin_val (fun e=>rfl))));(all_goals (try conv => whnf)))
              exact Sy.fin_val (fun e => congrArg Value.bool (by rw [hz7]; rfl))
        · refine Sy.need_of (by show ((gBs (opsOf ls)).length + 1) * 1 ≤ _ ∧ _; omega) ?_
          intro cap' hc1 hc2
          ((repeat' ((conv => whnf);(first|refine z1 ?_|refine z2 ?_|refine z3 ?_|refine z4 ?_|refine z5 ?_|refine z6 ?_|refine z7 ?_|refine z8 ?_|refine z9 ?_|refine za ?_|refine zb ?_|refine zc ?_|refine zd ?_|refine ze ?_|refine zf ?_|refine zg ?_|refine zh ?_|((first|refine zi ?_ ?_|refine zj ?_ ?_|refine zk ?_ ?_)<;> intro hh <;> first|(exfalso;omega)|skip)|(refine zl ?_ ?_<;> intro hh)|refine zm ?_|refine zn ?_|refine zo ?_|refine zp ?_|refine zq ?_|refine zv ?_|refine zr ?_|refine zs _ rfl ?_|exact Sy.fin_val (fun e=>rfl))));(all_goals (try conv => whnf)))
          refine Sy.call_ex (fun u : Value => u.oneCell' = true) (fun u => .tup [.agg [.v u], .c (.v (.int .i64 160))]) Try.call30 (fun u hu => by show Sy.ltAll1 _ [V1.agg [C.v u], _] = true; simp [Sy.ltAll1, V1.lt, Sy.ltAll, C.lt, hu]; rfl) (fun e a w' h => by
            have hb := buf_reads h (k := 8) (n := (gBs (opsOf ls)).length + 1) rfl (by rw [List.length_append, List.length_take, List.length_map]; simp)
            rw [hmy] at hb
            have := decode_ex _ (gBs (opsOf ls) ++ [0]) w' (by rw [hml]; exact hb) (by omega) hm8
            rw [hdm] at this
            exact this) (fun u hu => ?_)
          ((repeat' ((conv => whnf);(first|refine z1 ?_|refine z2 ?_|refine z3 ?_|refine z4 ?_|refine z5 ?_|refine z6 ?_|refine z7 ?_|refine z8 ?_|refine z9 ?_|refine za ?_|refine zb ?_|refine zc ?_|refine zd ?_|refine ze ?_|refine zf ?_|refine zg ?_|refine zh ?_|((first|refine zi ?_ ?_|refine zj ?_ ?_|refine zk ?_ ?_)<;> intro hh <;> first|(exfalso;omega)|skip)|(refine zl ?_ ?_<;> intro hh)|refine zm ?_|refine zn ?_|refine zo ?_|refine zp ?_|refine zq ?_|refine zv ?_|refine zr ?_|refine zs _ rfl ?_|exact Sy.fin_val (fun e=>rfl))));(all_goals (try conv => whnf)))
          refine Sy.sli_eq 0 j rfl hj ⟨by omega, by omega⟩ ?_
          ((repeat' ((conv => whnf);(first|refine z1 ?_|refine z2 ?_|refine z3 ?_|refine z4 ?_|refine z5 ?_|refine z6 ?_|refine z7 ?_|refine z8 ?_|refine z9 ?_|refine za ?_|refine zb ?_|refine zc ?_|refine zd ?_|refine ze ?_|refine zf ?_|refine zg ?_|refine zh ?_|((first|refine zi ?_ ?_|refine zj ?_ ?_|refine zk ?_ ?_)<;> intro hh <;> first|(exfalso;omega)|skip)|(refine zl ?_ ?_<;> intro hh)|refine zm ?_|refine zn ?_|refine zo ?_|refine zp ?_|refine zq ?_|refine zv ?_|refine zr ?_|refine zs _ rfl ?_|exact Sy.fin_val (fun e=>rfl))));(all_goals (try conv => whnf)))
          rw [jx, jl]
          refine Sy.call_own (decode_does (bs.take j) (by rw [← jl]; omega) j8) Try.call30 ?_ (fun e a w' F' h hF' => trivial) (fun _ ls G G' w1 w2 hq hG hk o ho => (hq o ho).keep hG hk)
          ((conv => whnf);(refine And.intro ?_ (And.intro ?_ (And.intro ?_ (And.intro ?_ ?_))));(all_goals ((repeat' (first|((conv => whnf);done)|((try conv => whnf);first|exact trivial|(refine And.intro ?_ ?_)|rfl)));(all_goals (try conv => whnf))));rotate_right)
          intro vl hvl G3
          have hvl : opsOf vl = (decV (bs.take j)).1 := hvl
          by_cases hz : (decV (bs.take j)).2 = 0
          · ((repeat' ((conv => whnf);(first|refine z1 ?_|refine z2 ?_|refine z3 ?_|refine z4 ?_|refine z5 ?_|refine z6 ?_|refine z7 ?_|refine z8 ?_|refine z9 ?_|refine za ?_|refine zb ?_|refine zc ?_|refine zd ?_|refine ze ?_|refine zf ?_|refine zg ?_|refine zh ?_|((first|refine zi ?_ ?_|refine zj ?_ ?_|refine zk ?_ ?_)<;> intro hh <;> first|(exfalso;omega)|skip)|(refine zl ?_ ?_<;> intro hh)|refine zm ?_|refine zn ?_|refine zo ?_|refine zp ?_|refine zq ?_|refine zv ?_|refine zr ?_|refine zs _ rfl ?_|exact Sy.fin_val (fun e=>rfl))));(all_goals (try conv => whnf)))
            have hq0 := hdj.1 hz
            rw [← hvl] at hq0
            refine Sy.call_r1 ⟨5, 1, (bs.take j).length, (bs.take j).map encB⟩ (fun j => .tup [.c (.row j), .c (.v (.int .i64 0))]) Try.call13 (fun e a w' h => by
              have := encode_any _ vl w' ⟨Sy.row_reads h (k := 11) (.inl ⟨_, rfl⟩), fun o ho => ((h.ev w' fun _ _ => rfl).2.2 o ho).mono fun b hb => h.fl b hb⟩
              rw [show encG (opsOf vl) = bs.take j by rw [encG, if_pos hq0.1, hq0.2], hq0.1] at this
              exact this) ?_
            ((repeat' ((conv => whnf);(first|refine z1 ?_|refine z2 ?_|refine z3 ?_|refine z4 ?_|refine z5 ?_|refine z6 ?_|refine z7 ?_|refine z8 ?_|refine z9 ?_|refine za ?_|refine zb ?_|refine zc ?_|refine zd ?_|refine ze ?_|refine zf ?_|refine zg ?_|refine zh ?_|((first|refine zi ?_ ?_|refine zj ?_ ?_|refine zk ?_ ?_)<;> intro hh <;> first|(exfalso;omega)|skip)|(refine zl ?_ ?_<;> intro hh)|refine zm ?_|refine zn ?_|refine zo ?_|refine zp ?_|refine zq ?_|refine zv ?_|refine zr ?_|refine zs _ rfl ?_|exact Sy.fin_val (fun e=>rfl))));(all_goals (try conv => whnf)))
            refine Sy.call_val (.c (.v (.bool true))) Try.call15 rfl (fun e a w' h => by
              have := bytesEq_any (e.rv 13) (e.rv 10) (bs.take j) (bs.take j) w' (Sy.row_reads h (.inl ⟨_, rfl⟩)) (Sy.row_reads h (.inr rfl))
              rw [bytesEq_self] at this
              exact this) ?_
            ((repeat' ((conv => whnf);(first|refine z1 ?_|refine z2 ?_|refine z3 ?_|refine z4 ?_|refine z5 ?_|refine z6 ?_|refine z7 ?_|refine z8 ?_|refine z9 ?_|refine za ?_|refine zb ?_|refine zc ?_|refine zd ?_|refine ze ?_|refine zf ?_|refine zg ?_|refine zh ?_|((first|refine zi ?_ ?_|refine zj ?_ ?_|refine zk ?_ ?_)<;> intro hh <;> first|(exfalso;omega)|skip)|(refine zl ?_ ?_<;> intro hh)|refine zm ?_|refine zn ?_|refine zo ?_|refine zp ?_|refine zq ?_|refine zv ?_|refine zr ?_|refine zs _ rfl ?_|exact Sy.fin_val (fun e=>rfl))));(all_goals (try conv => whnf)))
            all_goals done
          · have hq0 := hdj.2 hz
            have hv0 : vl.length = 0 := by rw [← opsOf_len, hvl, hq0.1]; rfl
            rcases hq0.2 with hz7 | hz7
            · rw [hz7] at hz
              ((repeat' ((conv => whnf);(first|refine z1 ?_|refine z2 ?_|refine z3 ?_|refine z4 ?_|refine z5 ?_|refine z6 ?_|refine z7 ?_|refine z8 ?_|refine z9 ?_|refine za ?_|refine zb ?_|refine zc ?_|refine zd ?_|refine ze ?_|refine zf ?_|refine zg ?_|refine zh ?_|((first|refine zi ?_ ?_|refine zj ?_ ?_|refine zk ?_ ?_)<;> intro hh <;> first|(exfalso;omega)|skip)|(refine zl ?_ ?_<;> intro hh)|refine zm ?_|refine zn ?_|refine zo ?_|refine zp ?_|refine zq ?_|refine zv ?_|refine zr ?_|refine zs _ rfl ?_|exact Sy.fin_val (fun e=>rfl))));(all_goals (try conv => whnf)))
              done
            · ((repeat' ((conv => whnf);(first|refine z1 ?_|refine z2 ?_|refine z3 ?_|refine z4 ?_|refine z5 ?_|refine z6 ?_|refine z7 ?_|refine z8 ?_|refine z9 ?_|refine za ?_|refine zb ?_|refine zc ?_|refine zd ?_|refine ze ?_|refine zf ?_|refine zg ?_|refine zh ?_|((first|refine zi ?_ ?_|refine zj ?_ ?_|refine zk ?_ ?_)<;> intro hh <;> first|(exfalso;omega)|skip)|(refine zl ?_ ?_<;> intro hh)|refine zm ?_|refine zn ?_|refine zo ?_|refine zp ?_|refine zq ?_|refine zv ?_|refine zr ?_|refine zs _ rfl ?_|exact Sy.fin_val (fun e=>rfl))));(all_goals (try conv => whnf)))
              exact Sy.fin_val (fun e => congrArg Value.bool (by rw [hz7]; rfl))
  · ((repeat' ((conv => whnf);(first|refine z1 ?_|refine z2 ?_|refine z3 ?_|refine z4 ?_|refine z5 ?_|refine z6 ?_|refine z7 ?_|refine z8 ?_|refine z9 ?_|refine za ?_|refine zb ?_|refine zc ?_|refine zd ?_|refine ze ?_|refine zf ?_|refine zg ?_|refine zh ?_|((first|refine zi ?_ ?_|refine zj ?_ ?_|refine zk ?_ ?_)<;> intro hh <;> first|(exfalso;omega)|skip)|(refine zl ?_ ?_<;> intro hh)|refine zm ?_|refine zn ?_|refine zo ?_|refine zp ?_|refine zq ?_|refine zv ?_|refine zr ?_|refine zs _ rfl ?_|exact Sy.fin_val (fun e=>rfl))));(all_goals (try conv => whnf)))
    refine Sy.sli_eq 0 j rfl hj ⟨by omega, by omega⟩ ?_
    ((repeat' ((conv => whnf);(first|refine z1 ?_|refine z2 ?_|refine z3 ?_|refine z4 ?_|refine z5 ?_|refine z6 ?_|refine z7 ?_|refine z8 ?_|refine z9 ?_|refine za ?_|refine zb ?_|refine zc ?_|refine zd ?_|refine ze ?_|refine zf ?_|refine zg ?_|refine zh ?_|((first|refine zi ?_ ?_|refine zj ?_ ?_|refine zk ?_ ?_)<;> intro hh <;> first|(exfalso;omega)|skip)|(refine zl ?_ ?_<;> intro hh)|refine zm ?_|refine zn ?_|refine zo ?_|refine zp ?_|refine zq ?_|refine zv ?_|refine zr ?_|refine zs _ rfl ?_|exact Sy.fin_val (fun e=>rfl))));(all_goals (try conv => whnf)))
    rw [jx, jl]
    refine Sy.call_own (decode_does (bs.take j) (by rw [← jl]; omega) j8) Try.call30 ?_ (fun e a w' F' h hF' => trivial) (fun _ ls G G' w1 w2 hq hG hk o ho => (hq o ho).keep hG hk)
    ((conv => whnf);(refine And.intro ?_ (And.intro ?_ (And.intro ?_ (And.intro ?_ ?_))));(all_goals ((repeat' (first|((conv => whnf);done)|((try conv => whnf);first|exact trivial|(refine And.intro ?_ ?_)|rfl)));(all_goals (try conv => whnf))));rotate_right)
    intro vl hvl G3
    have hvl : opsOf vl = (decV (bs.take j)).1 := hvl
    by_cases hz : (decV (bs.take j)).2 = 0
    · ((repeat' ((conv => whnf);(first|refine z1 ?_|refine z2 ?_|refine z3 ?_|refine z4 ?_|refine z5 ?_|refine z6 ?_|refine z7 ?_|refine z8 ?_|refine z9 ?_|refine za ?_|refine zb ?_|refine zc ?_|refine zd ?_|refine ze ?_|refine zf ?_|refine zg ?_|refine zh ?_|((first|refine zi ?_ ?_|refine zj ?_ ?_|refine zk ?_ ?_)<;> intro hh <;> first|(exfalso;omega)|skip)|(refine zl ?_ ?_<;> intro hh)|refine zm ?_|refine zn ?_|refine zo ?_|refine zp ?_|refine zq ?_|refine zv ?_|refine zr ?_|refine zs _ rfl ?_|exact Sy.fin_val (fun e=>rfl))));(all_goals (try conv => whnf)))
      have hq0 := hdj.1 hz
      rw [← hvl] at hq0
      refine Sy.call_r1 ⟨5, 1, (bs.take j).length, (bs.take j).map encB⟩ (fun j => .tup [.c (.row j), .c (.v (.int .i64 0))]) Try.call13 (fun e a w' h => by
        have := encode_any _ vl w' ⟨Sy.row_reads h (k := 5) (.inl ⟨_, rfl⟩), fun o ho => ((h.ev w' fun _ _ => rfl).2.2 o ho).mono fun b hb => h.fl b hb⟩
        rw [show encG (opsOf vl) = bs.take j by rw [encG, if_pos hq0.1, hq0.2], hq0.1] at this
        exact this) ?_
      ((repeat' ((conv => whnf);(first|refine z1 ?_|refine z2 ?_|refine z3 ?_|refine z4 ?_|refine z5 ?_|refine z6 ?_|refine z7 ?_|refine z8 ?_|refine z9 ?_|refine za ?_|refine zb ?_|refine zc ?_|refine zd ?_|refine ze ?_|refine zf ?_|refine zg ?_|refine zh ?_|((first|refine zi ?_ ?_|refine zj ?_ ?_|refine zk ?_ ?_)<;> intro hh <;> first|(exfalso;omega)|skip)|(refine zl ?_ ?_<;> intro hh)|refine zm ?_|refine zn ?_|refine zo ?_|refine zp ?_|refine zq ?_|refine zv ?_|refine zr ?_|refine zs _ rfl ?_|exact Sy.fin_val (fun e=>rfl))));(all_goals (try conv => whnf)))
      refine Sy.call_val (.c (.v (.bool true))) Try.call15 rfl (fun e a w' h => by
        have := bytesEq_any (e.rv 7) (e.rv 4) (bs.take j) (bs.take j) w' (Sy.row_reads h (.inl ⟨_, rfl⟩)) (Sy.row_reads h (.inr rfl))
        rw [bytesEq_self] at this
        exact this) ?_
      ((repeat' ((conv => whnf);(first|refine z1 ?_|refine z2 ?_|refine z3 ?_|refine z4 ?_|refine z5 ?_|refine z6 ?_|refine z7 ?_|refine z8 ?_|refine z9 ?_|refine za ?_|refine zb ?_|refine zc ?_|refine zd ?_|refine ze ?_|refine zf ?_|refine zg ?_|refine zh ?_|((first|refine zi ?_ ?_|refine zj ?_ ?_|refine zk ?_ ?_)<;> intro hh <;> first|(exfalso;omega)|skip)|(refine zl ?_ ?_<;> intro hh)|refine zm ?_|refine zn ?_|refine zo ?_|refine zp ?_|refine zq ?_|refine zv ?_|refine zr ?_|refine zs _ rfl ?_|exact Sy.fin_val (fun e=>rfl))));(all_goals (try conv => whnf)))
      all_goals done
    · have hq0 := hdj.2 hz
      have hv0 : vl.length = 0 := by rw [← opsOf_len, hvl, hq0.1]; rfl
      rcases hq0.2 with hz7 | hz7
      · rw [hz7] at hz
        ((repeat' ((conv => whnf);(first|refine z1 ?_|refine z2 ?_|refine z3 ?_|refine z4 ?_|refine z5 ?_|refine z6 ?_|refine z7 ?_|refine z8 ?_|refine z9 ?_|refine za ?_|refine zb ?_|refine zc ?_|refine zd ?_|refine ze ?_|refine zf ?_|refine zg ?_|refine zh ?_|((first|refine zi ?_ ?_|refine zj ?_ ?_|refine zk ?_ ?_)<;> intro hh <;> first|(exfalso;omega)|skip)|(refine zl ?_ ?_<;> intro hh)|refine zm ?_|refine zn ?_|refine zo ?_|refine zp ?_|refine zq ?_|refine zv ?_|refine zr ?_|refine zs _ rfl ?_|exact Sy.fin_val (fun e=>rfl))));(all_goals (try conv => whnf)))
        done
      · ((repeat' ((conv => whnf);(first|refine z1 ?_|refine z2 ?_|refine z3 ?_|refine z4 ?_|refine z5 ?_|refine z6 ?_|refine z7 ?_|refine z8 ?_|refine z9 ?_|refine za ?_|refine zb ?_|refine zc ?_|refine zd ?_|refine ze ?_|refine zf ?_|refine zg ?_|refine zh ?_|((first|refine zi ?_ ?_|refine zj ?_ ?_|refine zk ?_ ?_)<;> intro hh <;> first|(exfalso;omega)|skip)|(refine zl ?_ ?_<;> intro hh)|refine zm ?_|refine zn ?_|refine zo ?_|refine zp ?_|refine zq ?_|refine zv ?_|refine zr ?_|refine zs _ rfl ?_|exact Sy.fin_val (fun e=>rfl))));(all_goals (try conv => whnf)))
        exact Sy.fin_val (fun e => congrArg Value.bool (by rw [hz7]; rfl))
end Go.Proofs.Yteldohidnepaoaa
