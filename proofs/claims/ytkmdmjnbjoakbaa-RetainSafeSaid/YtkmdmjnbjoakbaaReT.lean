/- Retain: the laws Marks and Last. -/
import Derived.Test.YtkmdmjnbjoakbaaReS
namespace Go.Proofs.Ytkmdmjnbjoakbaa
open Go Go.RowKit
open Sy (C SV V1 Blk St XD Els)
set_option maxRecDepth 10000

theorem sameB_of {k k2 : Int} {xs ys : List Kp} (h1 : k = k2) (h2 : xs = ys) : sameB k xs k2 ys = true := by unfold sameB; exact decide_eq_true ⟨h1, h2⟩
theorem cut_last (keep : Int) (hk : 1 ≤ keep) (q : Kp) : ∀ l : List Kp, ∃ X, (cutL keep (l ++ [q])).1 = X ++ [q] ∧ (∀ k ∈ X, k ∈ l) ∧ ∀ x ∈ (cutL keep (l ++ [q])).2, ∃ k ∈ l, k.number = x
  | [] => ⟨[], by
    rw [List.nil_append, cut_cons, if_neg (fun h => by have := h.2; simp [cntP] at this; omega)]
    exact ⟨rfl, (fun k hk => by cases hk), (fun x hx => by cases hx)⟩⟩
  | k :: r => by
    obtain ⟨X, h1, h2, h3⟩ := cut_last keep hk q r
    rw [List.cons_append, cut_cons]
    split
    · refine ⟨X, h1, fun p hp => List.mem_cons_of_mem _ (h2 p hp), fun x hx => ?_⟩
      rcases List.mem_cons.1 hx with rfl | hx
      · exact ⟨k, List.mem_cons_self .., rfl⟩
      · obtain ⟨p, hp, he⟩ := h3 x hx
        exact ⟨p, List.mem_cons_of_mem _ hp, he⟩
    · refine ⟨k :: X, by rw [h1]; rfl, fun p hp => ?_, fun x hx => ?_⟩
      · rcases List.mem_cons.1 hp with rfl | hp
        · exact List.mem_cons_self ..
        · exact List.mem_cons_of_mem _ (h2 p hp)
      · obtain ⟨p, hp, he⟩ := h3 x hx
        exact ⟨p, List.mem_cons_of_mem _ hp, he⟩
def cntO (ks : List Kp) : Nat := ks.countP (·.opn)
theorem cut_cntO (keep : Int) : ∀ ks : List Kp, cntO (cutL keep ks).1 = cntO ks
  | [] => rfl
  | k :: r => by
    have ih := cut_cntO keep r
    unfold cntO at *
    rw [cut_cons]
    split
    · rename_i h
      rw [ih, List.countP_cons_of_neg (by have := h.1; simp [plainK] at this; simp [this.1])]
    · simp only [List.countP_cons, ih]
/-- A shelf on which a checkpoint was put last. -/
def LastOk (keep number : Int) (save : Bool) (ks : List Kp) : Prop := okS keep ks = true ∧ ∃ X o, ks = X ++ [⟨number, save, o⟩]
theorem last_put {keep number : Int} {save : Bool} {ks : List Kp} (h : (putV keep ks number save).2.2 = 0) : LastOk keep number save (putV keep ks number save).1.2 ∧ (putV keep ks number save).1.1 = keep := by
  unfold putV at *
  split at h
  · rename_i hk
    rw [if_pos hk]
    obtain ⟨k1, k2, k3, hpw⟩ := okS_iff.1 hk
    split at h
    · rename_i hn
      rw [if_pos hn]
      unfold put1 at *
      split at h
      · rename_i hl
        rw [if_pos hl]
        obtain ⟨X, h1, h2, h3⟩ := cut_last keep k1 ⟨number, save, true⟩ ks
        have hmax := last_max (okL_rising (okS_bd hk).2.2.2)
        have hpw2 : (k0 :: (ks ++ [(⟨number, save, true⟩ : Kp)])).Pairwise RK := by
          rw [← List.cons_append]
          refine List.pairwise_append.2 ⟨hpw, List.pairwise_singleton _ _, fun a ha b hb => ?_⟩
          have hb : b = ⟨number, save, true⟩ := by simpa using hb
          subst hb
          have hlz := lastK_nonneg (okS_bd hk).2.2.2 ks.length (Nat.le_refl _)
          rcases List.mem_cons.1 ha with rfl | ha
          · exact ⟨Int.lt_of_le_of_lt hlz hn.1, hn.2, fun _ => rfl⟩
          · exact ⟨Int.lt_of_le_of_lt (hmax a ha) hn.1, hn.2, fun _ => rfl⟩
        exact ⟨⟨okS_cut ⟨k1, k2⟩ hl hpw2, X, true, h1⟩, rfl⟩
      · cases h
    · cases h
  · cases h
theorem putV_err {keep number : Int} {save : Bool} {ks : List Kp} (h : (putV keep ks number save).2.2 ≠ 0) : (putV keep ks number save).1.2 = [] := by
  by_cases hk : okS keep ks = true
  · by_cases hn : (lastOf ks).number < number ∧ number ≤ 4611686018427387904
    · rw [show putV keep ks number save = put1 keep ks ⟨number, save, true⟩ by rw [putV, if_pos hk, if_pos hn]] at h ⊢
      unfold put1 at h ⊢
      split at h
      · exact absurd rfl h
      · rename_i hl; rw [if_neg hl]
    · rw [show putV keep ks number save = ((0, []), [], 2) by rw [putV, if_pos hk, if_neg hn]]
  · rw [show putV keep ks number save = ((0, []), [], 330) by rw [putV, if_neg hk]]
theorem last_next {keep number : Int} {save : Bool} {ks : List Kp} (h : LastOk keep number save ks) {x : Int} (hn : nextV keep ks = (x, true)) :
    (turnV keep ks x 0).2.2 = 0 ∧ (turnV keep ks x 0).1.1 = keep ∧ LastOk keep number save (turnV keep ks x 0).1.2 ∧ cntO (turnV keep ks x 0).1.2 + 1 = cntO ks ∧ number ∉ (turnV keep ks x 0).2.1 := by
  obtain ⟨hk, X, o, rfl⟩ := h
  obtain ⟨k1, k2, k3, hpw⟩ := okS_iff.1 hk
  have hol := (okS_bd hk).2.2.2
  have hasc := asc_of (okL_asc _ k0 hol)
  cases hf : (X ++ [(⟨number, save, o⟩ : Kp)]).find? (·.opn) with
  | none => rw [nextV_none hf] at hn; exact absurd (congrArg Prod.snd hn) (by simp)
  | some k =>
    have hks := nextV_some hk hf
    rw [hn] at hks
    have hx : k.number = x := (congrArg Prod.fst hks).symm
    obtain ⟨hko, n, hn1, hn2, _⟩ := List.find?_eq_some_iff_getElem.1 hf
    have hg : (X ++ [(⟨number, save, o⟩ : Kp)])[n]? = some k := by rw [List.getElem?_eq_getElem hn1, hn2]
    have hni := (next_iff hk hg).1 (by rw [hn, hx])
    have ht := turn_at (kind := 0) hk hasc hg hx
    rw [chg0, if_pos hni] at ht
    dsimp only at ht
    have hpw2 := pw_settle hpw hg hni.2
    have hset : ∃ X' o', (X ++ [(⟨number, save, o⟩ : Kp)]).set n { k with opn := false } = X' ++ [⟨number, save, o'⟩] ∧ X'.length = X.length := by
      by_cases hlt : n < X.length
      · exact ⟨X.set n { k with opn := false }, o, by rw [List.set_append_left _ _ hlt], List.length_set⟩
      · have hnl : n = X.length := by simp at hn1; omega
        subst hnl
        refine ⟨X, false, ?_, rfl⟩
        rw [List.set_append_right _ _ (Nat.le_refl _), Nat.sub_self]
        have : k = ⟨number, save, o⟩ := by
          rw [List.getElem?_append_right (Nat.le_refl _), Nat.sub_self] at hg
          simpa using hg.symm
        rw [this]; rfl
    obtain ⟨X', o', he, hXl⟩ := hset
    rw [he] at hpw2 ht
    obtain ⟨Y, c1, c2, c3⟩ := cut_last keep k1 ⟨number, save, o'⟩ X'
    have hcl := cut_len keep (X' ++ [(⟨number, save, o'⟩ : Kp)])
    rw [List.length_append] at hcl k3
    rw [ht]
    refine ⟨rfl, rfl, ⟨okS_cut ⟨k1, k2⟩ (by simp at hcl k3 ⊢; omega) hpw2, Y, o', c1⟩, ?_, fun hm => ?_⟩
    · show cntO (cutL keep (X' ++ [(⟨number, save, o'⟩ : Kp)])).1 + 1 = _
      rw [cut_cntO, ← he]
      unfold cntO
      rw [List.countP_set hn1, hn2]
      have hpos : 0 < List.countP (·.opn) (X ++ [(⟨number, save, o⟩ : Kp)]) := List.countP_pos_iff.2 ⟨k, List.mem_of_getElem? hg, hko⟩
      simp only [hko, if_true]
      rw [if_neg (by decide)]
      omega
    · obtain ⟨q, hq, hqe⟩ := c3 number hm
      obtain ⟨h0, hp2⟩ := List.pairwise_cons.1 hpw2
      have := (List.pairwise_append.1 hp2).2.2 q hq ⟨number, save, o'⟩ (by simp)
      have h3 : q.number < number := this.1
      omega
theorem last_done {keep number : Int} {save : Bool} {ks : List Kp} (h : LastOk keep number save ks) {x : Int} (hn : nextV keep ks = (x, false)) : latestV keep ks = (⟨number, save, false⟩, true) := by
  obtain ⟨hk, X, o, rfl⟩ := h
  have hf : (X ++ [(⟨number, save, o⟩ : Kp)]).find? (·.opn) = none := by
    cases hf : (X ++ [(⟨number, save, o⟩ : Kp)]).find? (·.opn) with
    | none => rfl
    | some k => rw [nextV_some hk hf] at hn; exact absurd (congrArg Prod.snd hn) (by simp)
  have ho : o = false := by
    have := List.find?_eq_none.1 hf ⟨number, save, o⟩ (by simp)
    simpa using this
  unfold latestV
  rw [if_pos ⟨hk, by simp⟩, ho]
  unfold lastOf
  rw [List.length_append, List.length_singleton, lastK_succ _ _ (by simp)]
  simp
theorem last_cnt {keep number : Int} {save : Bool} {ks : List Kp} (h : LastOk keep number save ks) : cntO ks ≤ 16 := by
  have := (okS_bd h.1).2.2.1
  exact Nat.le_trans List.countP_le_length this
attribute [local irreducible] okS chkE
set_option maxHeartbeats 4000000 in
theorem marks_any (keep : Int) (v : Value) (ks : List Kp) (number : Int) (w : World) (hr : XD.ok (fun b => b < w.heap.size) w ⟨v, 3, ks.length, ks.map encK⟩) :
    Calls Try.prog 8 #[.agg #[.int .i64 keep, v], .int .u64 number] w (Sy.Ret (.bool true) w) := by
  have hl := ok_len hr
  refine Sy.calls_of Sy.lv8 Sy.tab_ok Try.func8 rfl _ Try.ntmps8 [⟨v, 3, ks.length, ks.map encK⟩] [.agg [.v (.int .i64 keep), .row 0], .c (.v (.int .u64 number))] rfl rfl rfl ⟨hr, trivial⟩ ?_
  ((repeat' ((conv => whnf);(first|refine zA ?_|(refine zI ?_ ?_<;> intro hh<;> first|(exfalso;omega)|skip)|(refine zl ?_ ?_<;> intro hh)|refine zq ?_|refine zv ?_|refine zu ?_|exact Sy.fin_val fun e=>rfl)));(all_goals (try conv => whnf)))
  refine Sy.call_val (.c (.v (.bool true))) Try.call9 rfl (fun e a w' h => wakes_any w') ?_
  ((repeat' ((conv => whnf);(first|refine zA ?_|(refine zI ?_ ?_<;> intro hh<;> first|(exfalso;omega)|skip)|(refine zl ?_ ?_<;> intro hh)|refine zq ?_|refine zv ?_|refine zu ?_|exact Sy.fin_val fun e=>rfl)));(all_goals (try conv => whnf)))
  have hm1 := marks_law (keep := keep) (ks := ks) (x := number)
  have hm2 := turn_err (keep := keep) (ks := ks) (x := number) (kind := 2)
  have hm3 : (turnV keep ks number 2).2.2 = 0 → (turnV keep ks number 2).1.2.length ≤ ks.length := fun h => by
    obtain ⟨_, n, k, r, _, _, _, ht⟩ := turn_okd h
    rw [ht]
    have := cut_len keep (ks.set n r)
    rw [List.length_set] at this
    show (cutL keep (ks.set n r)).1.length ≤ _
    omega
  generalize hA : turnV keep ks number 2 = A at *
  obtain ⟨⟨ka, la⟩, ga, ea⟩ := A
  dsimp only at hm1 hm2 hm3
  refine Sy.call_r1 ⟨39, 3, la.length, la.map encK⟩ (fun j => .tup [.agg [.v (.int .i64 ka), .row j], .c (.v (.int .i64 ea))]) Try.call20 (fun e a w' h => by have := mark_any keep (e.rv 0) ks number w' (Sy.row_reads h (.inr rfl)); rw [hA] at this; exact this) ?_
  ((repeat' ((conv => whnf);(first|refine zA ?_|(refine zI ?_ ?_<;> intro hh<;> first|(exfalso;omega)|skip)|(refine zl ?_ ?_<;> intro hh)|refine zq ?_|refine zv ?_|refine zu ?_|exact Sy.fin_val fun e=>rfl)));(all_goals (try conv => whnf)))
  · have he : ea = 0 := by omega
    obtain ⟨rfl, h2, h3, h4, h5⟩ := hm1 he
    have h6 := hm3 he
    generalize hB : turnV ka la number 1 = B at *
    obtain ⟨⟨kb, lb⟩, gb, eb⟩ := B
    dsimp only at h2 h3 h4 h5
    subst h2 h4
    refine Sy.call_r2f ⟨39, 3, lb.length, lb.map encK⟩ ⟨25, 1, gb.length, gb.map encU⟩ (fun j => .tup [.agg [.v (.int .i64 kb), .row j], .c (.row (j + 1)), .c (.v (.int .i64 0))]) Try.call19 (fun e a w' h => by have := release_any kb (e.rv 2) la number w' (Sy.row_reads h (.inl ⟨_, rfl⟩)); rw [hB] at this; exact this) ?_
    ((repeat' ((conv => whnf);(first|refine zA ?_|(refine zI ?_ ?_<;> intro hh<;> first|(exfalso;omega)|skip)|(refine zl ?_ ?_<;> intro hh)|refine zq ?_|refine zv ?_|refine zu ?_|exact Sy.fin_val fun e=>rfl)));(all_goals (try conv => whnf)))
    refine Sy.call_val (.c (.v (.bool true))) Try.call25 rfl (fun e a w' h => by have := same_any kb kb (e.rv 4) (e.rv 0) lb ks w' (Sy.row_reads h (.inl ⟨_, rfl⟩)) (Sy.row_reads h (.inr rfl)); rw [sameB_of rfl (h5 (by omega) (by omega))] at this; exact this) ?_
    ((repeat' ((conv => whnf);(first|refine zA ?_|(refine zI ?_ ?_<;> intro hh<;> first|(exfalso;omega)|skip)|(refine zl ?_ ?_<;> intro hh)|refine zq ?_|refine zv ?_|refine zu ?_|exact Sy.fin_val fun e=>rfl)));(all_goals (try conv => whnf)))
  · have := hm2 (by assumption)
    subst this
    exact Sy.fin_val (fun e => rfl)
set_option maxHeartbeats 4000000 in
theorem last_any (keep : Int) (v : Value) (ks : List Kp) (number : Int) (save : Bool) (w : World) (hr : XD.ok (fun b => b < w.heap.size) w ⟨v, 3, ks.length, ks.map encK⟩) :
    Calls Try.prog 4 #[.agg #[.int .i64 keep, v], .int .u64 number, .bool save] w (Sy.Ret (.bool true) w) := by
  have hl := ok_len hr
  refine Sy.calls_of Sy.lv4 Sy.tab_ok Try.func4 rfl _ Try.ntmps4 [⟨v, 3, ks.length, ks.map encK⟩] [.agg [.v (.int .i64 keep), .row 0], .c (.v (.int .u64 number)), .c (.v (.bool save))] rfl rfl rfl ⟨hr, trivial⟩ ?_
  ((repeat' ((conv => whnf);(first|refine zA ?_|(refine zI ?_ ?_<;> intro hh<;> first|(exfalso;omega)|skip)|(refine zl ?_ ?_<;> intro hh)|refine zq ?_|refine zv ?_|refine zu ?_|exact Sy.fin_val fun e=>rfl)));(all_goals (try conv => whnf)))
  refine Sy.call_val (.c (.v (.bool true))) Try.call9 rfl (fun e a w' h => wakes_any w') ?_
  ((repeat' ((conv => whnf);(first|refine zA ?_|(refine zI ?_ ?_<;> intro hh<;> first|(exfalso;omega)|skip)|(refine zl ?_ ?_<;> intro hh)|refine zq ?_|refine zv ?_|refine zu ?_|exact Sy.fin_val fun e=>rfl)));(all_goals (try conv => whnf)))
  have hm1 := last_put (keep := keep) (ks := ks) (number := number) (save := save)
  have hm2 := putV_err (keep := keep) (ks := ks) (number := number) (save := save)
  generalize hA : putV keep ks number save = A at *
  obtain ⟨⟨ka, la⟩, ga, ea⟩ := A
  dsimp only at hm1 hm2
  refine Sy.call_r2f ⟨39, 3, la.length, la.map encK⟩ ⟨25, 1, ga.length, ga.map encU⟩ (fun j => .tup [.agg [.v (.int .i64 ka), .row j], .c (.row (j + 1)), .c (.v (.int .i64 ea))]) Try.call11 (fun e a w' h => by have := put_any keep (e.rv 0) ks number save w' (Sy.row_reads h (.inr rfl)); rw [hA] at this; exact this) ?_
  ((repeat' ((conv => whnf);(first|refine zA ?_|(refine zI ?_ ?_<;> intro hh<;> first|(exfalso;omega)|skip)|(refine zl ?_ ?_<;> intro hh)|refine zq ?_|refine zv ?_|refine zu ?_|exact Sy.fin_val fun e=>rfl)));(all_goals (try conv => whnf)))
  · have he : ea = 0 := by omega
    obtain ⟨h1, rfl⟩ := hm1 he
    have hc := last_cnt h1
    refine Sy.loop_inv Sy.tab_ok (fun x : Nat × List Kp => [(38, .c (.v (.int .i64 x.1)))]) (fun x => [(1, .cells 24 [.v (.int .i64 ka), .row 2]), (2, keptB x.2)]) (fun x => x.1 ≤ 17 ∧ LastOk ka number save x.2 ∧ cntO x.2 + x.1 ≤ 16) (fun x => 17 - x.1) (0, la) ⟨Nat.zero_le _, h1, by simpa using hc⟩ ?_ (fun x hx => ?_)
    · ((repeat' (first|((conv => whnf);done)|((try conv => whnf);first|exact trivial|(refine And.intro ?_ ?_)|rfl|exact fun _ _ _ h=>h|exact fun _ _ _ _=>trivial)));(all_goals (try conv => whnf)))
    · obtain ⟨j, ls⟩ := x
      obtain ⟨hj, h1, hc⟩ := hx
      dsimp only at hj h1 hc ⊢
      have hnx := fun x => last_next h1 (x := x)
      have hdn := fun x => last_done h1 (x := x)
      ((repeat' ((conv => whnf);(first|refine zA ?_|(refine zI ?_ ?_<;> intro hh<;> first|(exfalso;omega)|skip)|(refine zl ?_ ?_<;> intro hh)|refine zq ?_|refine zv ?_|refine zu ?_|exact Sy.fin_val fun e=>rfl)));(all_goals (try conv => whnf)))
      · generalize hnv : nextV ka ls = nv at *
        obtain ⟨nn, nb⟩ := nv
        refine Sy.call_val (.tup [.c (.v (.int .u64 nn)), .c (.v (.bool nb))]) Try.call15 rfl (fun e a w' h => by have := next_any ka (e.rv 2) ls w' (Sy.row_reads h (.inl ⟨_, rfl⟩)); rw [hnv] at this; exact this) ?_
        ((repeat' ((conv => whnf);(first|refine zA ?_|(refine zI ?_ ?_<;> intro hh<;> first|(exfalso;omega)|skip)|(refine zl ?_ ?_<;> intro hh)|refine zq ?_|refine zv ?_|refine zu ?_|exact Sy.fin_val fun e=>rfl)));(all_goals (try conv => whnf)))
        · have hnb : nb = true := by assumption
          subst hnb
          obtain ⟨s1, s2, s3, s4, s5⟩ := hnx nn rfl
          have s6 : (turnV ka ls nn 0).2.1.length ≤ 16 := by
            obtain ⟨_, n, k, r, _, _, _, ht⟩ := turn_okd s1
            have h16 := (okS_bd h1.1).2.2.1
            have := cut_len ka (ls.set n r)
            rw [List.length_set] at this
            rw [ht]
            show (cutL ka (ls.set n r)).2.length ≤ _
            omega
          generalize hB : turnV ka ls nn 0 = B at *
          obtain ⟨⟨kb, lb⟩, gb, eb⟩ := B
          dsimp only at s1 s2 s3 s4 s5 s6
          subst s1 s2
          refine Sy.call_r2f ⟨39, 3, lb.length, lb.map encK⟩ ⟨25, 1, gb.length, gb.map encU⟩ (fun j => .tup [.agg [.v (.int .i64 kb), .row j], .c (.row (j + 1)), .c (.v (.int .i64 0))]) Try.call16 (fun e a w' h => by have := settle_any kb (e.rv 2) ls nn w' (Sy.row_reads h (.inl ⟨_, rfl⟩)); rw [hB] at this; exact this) ?_
          ((repeat' ((conv => whnf);(first|refine zA ?_|(refine zI ?_ ?_<;> intro hh<;> first|(exfalso;omega)|skip)|(refine zl ?_ ?_<;> intro hh)|refine zq ?_|refine zv ?_|refine zu ?_|exact Sy.fin_val fun e=>rfl)));(all_goals (try conv => whnf)))
          refine Sy.loop_inv Sy.tab_ok (fun n : Nat => [(58, .c (.v (.int .i64 n)))]) (fun _ => []) (fun n => n ≤ gb.length) (fun n => gb.length - n) 0 (Nat.zero_le _) ?_ (fun n hle => ?_)
          · ((repeat' (first|((conv => whnf);done)|((try conv => whnf);first|exact trivial|(refine And.intro ?_ ?_)|rfl|exact fun _ _ _ h=>h|exact fun _ _ _ _=>trivial)));(all_goals (try conv => whnf)))
          · ((repeat' ((conv => whnf);(first|refine zA ?_|(refine zI ?_ ?_<;> intro hh<;> first|(exfalso;omega)|skip)|(refine zl ?_ ?_<;> intro hh)|refine zq ?_|refine zv ?_|refine zu ?_|exact Sy.fin_val fun e=>rfl)));(all_goals (try conv => whnf)))
            · have hlt : n < gb.length := by omega
              refine Sy.el_map gb[n] (List.getElem?_eq_getElem hlt) ?_
              have hne : gb[n] ≠ number := fun e => s5 (e ▸ List.getElem_mem hlt)
              generalize gb[n] = g at *
              ((repeat' ((conv => whnf);(first|refine zA ?_|(refine zI ?_ ?_<;> intro hh<;> first|(exfalso;omega)|skip)|(refine zl ?_ ?_<;> intro hh)|refine zq ?_|refine zv ?_|refine zu ?_|exact Sy.fin_val fun e=>rfl)));(all_goals (try conv => whnf)))
              refine ⟨n + 1, by omega, by omega, ?_⟩
              ((repeat' (first|((conv => whnf);done)|((try conv => whnf);first|exact trivial|(refine And.intro ?_ ?_)|rfl|exact fun _ _ _ h=>h|exact fun _ _ _ _=>trivial)));(all_goals (try conv => whnf)))
            · refine ⟨(j + 1, lb), ⟨by dsimp only; omega, s3, by dsimp only; omega⟩, by dsimp only; omega, ?_⟩
              dsimp only [keptB]
              ((repeat' (first|((conv => whnf);done)|((try conv => whnf);first|exact trivial|(refine And.intro ?_ ?_)|rfl|exact fun _ _ _ h=>h|exact fun _ _ _ _=>trivial)));(all_goals (try conv => whnf)))
        · have hnb : nb = false := by assumption
          subst hnb
          have hlv := hdn nn rfl
          refine Sy.call_val (.tup [.agg [.v (.int .u64 number), .v (.bool save), .v (.bool false)], .c (.v (.bool true))]) Try.call17 rfl (fun e a w' h => by have := latest_any ka (e.rv 2) ls w' (Sy.row_reads h (.inl ⟨_, rfl⟩)); rw [hlv] at this; exact this) ?_
          have f3 : (save == save) = true := by simp
          have f5 : number = number := rfl
          ((repeat' ((conv => whnf);(first|refine zA ?_|(refine zI ?_ ?_<;> intro hh<;> first|(exfalso;omega)|skip)|(refine zl ?_ ?_<;> intro hh)|refine zq ?_|refine zv ?_|refine zu ?_|exact Sy.fin_val fun e=>rfl)));(all_goals (try conv => whnf)))
          exact Sy.fin_val (fun e => congrArg Value.bool (by simp))
  · have := hm2 (by assumption)
    subst this
    exact Sy.fin_val (fun e => rfl)
end Go.Proofs.Ytkmdmjnbjoakbaa
