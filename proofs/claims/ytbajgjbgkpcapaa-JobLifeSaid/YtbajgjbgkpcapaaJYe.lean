/- Job: Reach. -/
import Derived.Test.YtbajgjbgkpcapaaJYd
import Derived.Test.YtbajgjbgkpcapaaHold
import Derived.Test.YtbajgjbgkpcapaaMapI
namespace Go.Proofs.Ytbajgjbgkpcapaa
open Go Go.RowKit
open Sy (C SV V1 Blk St XD Els)
set_option maxRecDepth 10000

/-- Where Reach stands: what is done, what is to do, and what stands ahead of that in its buffer (sh), or it is a row. -/
structure Rs where
  dn : List Jb
  q : List Jb
  sh : Bool
  pre : List Jb
  cap : Nat
structure Is where
  i : Nat
  q : List Jb
  sh : Bool
  pre : List Jb
  cap : Nat
def Iok (j x : Jb) (dn q0 : List Jb) (s : Is) : Prop := s.i ≤ (mayQ x 9).length ∧ ((dn ++ x :: s.q).Nodup ∧ ∀ y ∈ dn ++ x :: s.q, okB y ∧ y.m = j.m ∧ ∀ t, rch y t → rch j t) ∧ (∀ y ∈ q0, y ∈ s.q) ∧ ∀ k h, k < s.i → (mayQ x 9)[k]? = some h → nxt x h ∈ dn ++ x :: s.q
theorem iok_end {j x : Jb} {dn q0 : List Jb} {s : Is} (h : Met j dn (x :: q0)) (hs : Iok j x dn q0 s) (hi : s.i = (mayQ x 9).length) : Met j (dn ++ [x]) s.q := by
  obtain ⟨_, ⟨h1, h2⟩, h3, h4⟩ := hs
  have e : dn ++ [x] ++ s.q = dn ++ x :: s.q := by simp
  have mono : ∀ y, y ∈ dn ++ x :: q0 → y ∈ dn ++ x :: s.q := fun y hy => by
    rcases List.mem_append.1 hy with hy | hy
    · exact List.mem_append_left _ hy
    · rcases List.mem_cons.1 hy with rfl | hy
      · simp
      · exact List.mem_append_right _ (List.mem_cons_of_mem _ (h3 y hy))
  refine ⟨by rw [e]; exact h1, by rw [e]; exact h2, by rw [e]; exact mono _ h.me, fun y hy a ha1 ha2 he => ?_⟩
  rw [e]
  rcases List.mem_append.1 hy with hy | hy
  · exact mono _ (h.cl y hy a ha1 ha2 he)
  · obtain rfl := List.mem_singleton.1 hy
    have hm : a ∈ mayQ y 9 := may_mem.2 ⟨⟨ha1, ha2⟩, he⟩
    obtain ⟨k, hk⟩ := List.mem_iff_getElem?.1 hm
    exact h4 k a (by rw [hi]; exact (List.getElem?_eq_some_iff.1 hk).1) hk
theorem iok_hit {j x : Jb} {dn q0 : List Jb} {s : Is} (hs : Iok j x dn q0 s) {h : Int} (hg : (mayQ x 9)[s.i]? = some h) (hm : nxt x h ∈ dn ++ x :: s.q) (sh : Bool) (pre : List Jb) (cap : Nat) : Iok j x dn q0 ⟨s.i + 1, s.q, sh, pre, cap⟩ := by
  obtain ⟨h0, h1, h3, h4⟩ := hs
  refine ⟨(List.getElem?_eq_some_iff.1 hg).1, h1, h3, fun k a hk hka => ?_⟩
  dsimp only at hk
  by_cases hki : k = s.i
  · subst hki
    rw [hg] at hka
    obtain rfl := Option.some.inj hka
    exact hm
  · exact h4 k a (by omega) hka
theorem iok_miss {j x : Jb} {dn q0 : List Jb} {s : Is} (hs : Iok j x dn q0 s) {h : Int} (hg : (mayQ x 9)[s.i]? = some h) (hm : nxt x h ∉ dn ++ x :: s.q) (sh : Bool) (pre : List Jb) (cap : Nat) : Iok j x dn q0 ⟨s.i + 1, s.q ++ [nxt x h], sh, pre, cap⟩ := by
  obtain ⟨h0, h1, h3, h4⟩ := hs
  obtain ⟨a1, a2⟩ := (may_mem (n := 9)).1 (List.mem_of_getElem? hg)
  refine ⟨(List.getElem?_eq_some_iff.1 hg).1, met_new h1 (by omega) a2 hm, fun y hy => List.mem_append_left _ (h3 y hy), fun k a hk hka => ?_⟩
  dsimp only at hk ⊢
  by_cases hki : k = s.i
  · subst hki
    rw [hg] at hka
    obtain rfl := Option.some.inj hka
    simp
  · rcases List.mem_append.1 (h4 k a (by omega) hka) with h | h
    · exact List.mem_append_left _ h
    · rcases List.mem_cons.1 h with h | h
      · rw [h]; simp
      · exact List.mem_append_right _ (List.mem_cons_of_mem _ (List.mem_append_left _ h))
theorem iok_first {j x : Jb} {dn q : List Jb} (h : Met j dn (x :: q)) (sh : Bool) (pre : List Jb) (cap : Nat) : Iok j x dn q ⟨0, q, sh, pre, cap⟩ :=
  ⟨Nat.zero_le _, ⟨h.nd, h.ok⟩, fun _ h => h, fun _ _ hk => absurd hk (Nat.not_lt_zero _)⟩
theorem iok_few {j x : Jb} {dn q0 : List Jb} {s : Is} (hs : Iok j x dn q0 s) : dn.length + s.q.length + 1 ≤ 72 := by
  have := jobs_few hs.2.1.1 fun y hy => ⟨(hs.2.1.2 y hy).1, (hs.2.1.2 y hy).2.1⟩
  rw [List.length_append, List.length_cons] at this
  omega
theorem iok_le {j x : Jb} {dn q0 : List Jb} {s : Is} (hs : Iok j x dn q0 s) : s.i ≤ (mayQ x 9).length := hs.1
theorem put_end {l : List (List Value)} {n : Nat} {y : List Value} (h : n = l.length) : List.take n l ++ ([y] ++ List.drop (n + 1) l) = l ++ [y] := by
  subst h
  rw [List.take_length, List.drop_eq_nil_of_le (by omega), List.append_nil]
attribute [local irreducible] okB okJ chk rch mpJ dJ mayQ reachL Iok
set_option maxHeartbeats 8000000 in
theorem yreach_any (j : Jb) (ho : okB j) (w : World) : Calls Try.prog 19 #[keyJ j] w (Sy.RetRows Sy.noRow (fun _ : Unit => True) (fun _ => [⟨3, 1, (reachL j).length, (reachL j).map encI⟩]) (fun _ vs => vs.headD undef) w) := by
  have hck : chk j.s j.f j.m = 0 := by unfold okB at ho; unfold chk; rw [if_pos ho]
  refine Sy.calls_of Sy.lv19 Sy.tab_ok Try.func19 rfl _ Try.ntmps19 [] [.agg [.v (.int .i64 j.s), .v (.int .i64 j.f), .v (.int .i64 j.m)]] rfl rfl rfl trivial ?_
  ((repeat' ((conv => whnf);(first|refine zA ?_|(refine zI ?_ ?_<;> intro hh<;> first|(exfalso;omega)|skip)|(refine zl ?_ ?_<;> intro hh)|refine zq ?_|refine zv ?_|refine zu ?_|exact Sy.fin_val fun e=>rfl)));(all_goals (try conv => whnf)))
  refine Sy.call_val (.c (.v (.int .i64 0))) Try.call11 rfl (fun _ _ w' _ => by have := ycheck_any j w'; rw [hck] at this; exact this) ?_
  ((repeat' ((conv => whnf);(first|refine zA ?_|(refine zI ?_ ?_<;> intro hh<;> first|(exfalso;omega)|skip)|(refine zl ?_ ?_<;> intro hh)|refine zq ?_|refine zv ?_|refine zu ?_|exact Sy.fin_val fun e=>rfl)));(all_goals (try conv => whnf)))
  refine j_miss0 (x := j) ?_
  ((repeat' ((conv => whnf);(first|refine zA ?_|(refine zI ?_ ?_<;> intro hh<;> first|(exfalso;omega)|skip)|(refine zl ?_ ?_<;> intro hh)|refine zq ?_|refine zv ?_|refine zu ?_|exact Sy.fin_val fun e=>rfl)));(all_goals (try conv => whnf)))
  refine Sy.loop_inv Sy.tab_ok (fun x : Rs => [(4, match x.sh with | true => .c (.sl 2 x.pre.length x.q.length) | false => .c (.row 2))]) (fun x => [(2, match x.sh with | true => .buf 23 3 x.cap (.vs ((x.pre ++ x.q).map encJ)) | false => .row 23 3 x.q.length (.vs (x.q.map encJ))), (1, .mp (mpJ (x.dn ++ x.q)))]) (fun x => Met j x.dn x.q ∧ (x.sh = true → x.pre.length + x.q.length ≤ x.cap)) (fun x => 72 - x.dn.length) ⟨[], [j], false, [], 0⟩ ⟨⟨by simp, (fun x hx => by obtain rfl := List.mem_singleton.1 (show x ∈ [j] from hx); exact ⟨ho, rfl, fun _ h => h⟩), by simp, (fun x hx => by cases hx)⟩, fun h => (by cases h)⟩ ?_ (fun x hx => ?_)
  · dsimp only
    ((repeat' (first|((conv => whnf);done)|((try conv => whnf);first|exact trivial|(refine And.intro ?_ ?_)|rfl|exact fun _ _ _ h=>h|exact fun _ _ _ _=>trivial)));(all_goals (try conv => whnf)))
    exact mpJ_first j
  · obtain ⟨dn, q, sh, pre, cap⟩ := x
    obtain ⟨hx, hcap⟩ := hx
    dsimp only at hx hcap ⊢
    have hfew := met_few hx
    cases q with
    | nil =>
      have hall := met_all ho hx
      have hdn : dn ++ [] = dn := List.append_nil dn
      cases sh
      all_goals (dsimp only; rw [hdn])
      all_goals
        ((repeat' ((conv => whnf);(first|refine zA ?_|(refine zI ?_ ?_<;> intro hh<;> first|(exfalso;omega)|skip)|(refine zl ?_ ?_<;> intro hh)|refine zq ?_|refine zv ?_|refine zu ?_|exact Sy.fin_val fun e=>rfl)));(all_goals (try conv => whnf)))
        refine Sy.rng_in (fun g st cl hs1 hs2 hs3 => ?_)
        ((repeat' ((conv => whnf);(first|refine zA ?_|(refine zI ?_ ?_<;> intro hh<;> first|(exfalso;omega)|skip)|(refine zl ?_ ?_<;> intro hh)|refine zq ?_|refine zv ?_|refine zu ?_|exact Sy.fin_val fun e=>rfl)));(all_goals (try conv => whnf)))
        refine Sy.sem_subF (Sy.sub_row 10 3 1 rfl) ?_
        conv => whnf
        refine Sy.loop_inv Sy.tab_ok (fun s : List Nat × List Int => [(10, .c (.row 4))]) (fun s => [(3, .it g st cl s.1), (4, .row 3 1 s.2.length (.vs (s.2.map encI)))]) (fun s => s.1.Nodup ∧ s.2.length + s.1.length ≤ 72 ∧ ∀ t, t ∈ s.2 ↔ ∃ i, i ∉ s.1 ∧ ∃ c, dn[i]? = some c ∧ c.s = t) (fun s => s.1.length) (List.range (mpJ dn).length, []) ⟨List.nodup_range, by dsimp only; rw [List.length_range, mpJ_len]; simp; omega, fun t => ⟨fun h => (by cases h), fun ⟨i, hi, c, hc, _⟩ => absurd (List.mem_range.2 (by rw [mpJ_len]; exact (List.getElem?_eq_some_iff.1 hc).1)) hi⟩⟩ ?_ (fun s hs => ?_)
        · ((repeat' (first|((conv => whnf);done)|((try conv => whnf);first|exact trivial|(refine And.intro ?_ ?_)|rfl|exact fun _ _ _ h=>h|exact fun _ _ _ _=>trivial)));(all_goals (try conv => whnf)))
        · obtain ⟨left, out⟩ := s
          obtain ⟨hlnd, hll, hmem⟩ := hs
          dsimp only at hlnd hll hmem ⊢
          ((repeat' ((conv => whnf);(first|refine zA ?_|(refine zI ?_ ?_<;> intro hh<;> first|(exfalso;omega)|skip)|(refine zl ?_ ?_<;> intro hh)|refine zq ?_|refine zv ?_|refine zu ?_|exact Sy.fin_val fun e=>rfl)));(all_goals (try conv => whnf)))
          refine nxt_job 1 dn rfl (fun h0 => ?_) (fun i c hi hc => ?_)
          · have hz : ∀ t, t ∈ out ↔ rch j t := fun t => by
              rw [hmem, ← hall]
              constructor
              · rintro ⟨i, _, c, hc, he⟩
                exact ⟨c, List.mem_of_getElem? hc, he⟩
              · rintro ⟨c, hc, he⟩
                obtain ⟨i, hi⟩ := List.mem_iff_getElem?.1 hc
                exact ⟨i, by rw [h0]; simp, c, hi, he⟩
            obtain ⟨z1, z2⟩ := compact_sort out
            have hR : Lib.compact (sortL out) = reachL j := strict_ext z1 (reach_strict j) fun t => by rw [z2, hz, reach_mem ho]
            ((repeat' ((conv => whnf);(first|refine zA ?_|(refine zI ?_ ?_<;> intro hh<;> first|(exfalso;omega)|skip)|(refine zl ?_ ?_<;> intro hh)|refine zq ?_|refine zv ?_|refine zu ?_|exact Sy.fin_val fun e=>rfl)));(all_goals (try conv => whnf)))
            refine Sy.call_mut 4 ⟨3, 1, (sortL out).length, (sortL out).map encI⟩ (.tup []) Try.call23 (fun e a w' h => by
              have := sort_mut (e.rv 4) out w' (h.hp 4 _ rfl).1 (by omega)
              rw [← sortL_len] at this
              exact this) ?_
            ((repeat' ((conv => whnf);(first|refine zA ?_|(refine zI ?_ ?_<;> intro hh<;> first|(exfalso;omega)|skip)|(refine zl ?_ ?_<;> intro hh)|refine zq ?_|refine zv ?_|refine zu ?_|exact Sy.fin_val fun e=>rfl)));(all_goals (try conv => whnf)))
            refine Sy.call_k1 4 ⟨3, 1, (reachL j).length, (reachL j).map encI⟩ (fun j => .c (.row j)) Try.call24 (fun e x w' h => by
              have := compact_rows (e.rv 4) (sortL out) w' (h.hp 4 _ rfl).1 (by rw [sortL_len]; omega)
              rw [hR] at this
              exact this) ?_ (hj := ⟨_, _, _, _, rfl⟩)
            ((repeat' ((conv => whnf);(first|refine zA ?_|(refine zI ?_ ?_<;> intro hh<;> first|(exfalso;omega)|skip)|(refine zl ?_ ?_<;> intro hh)|refine zq ?_|refine zv ?_|refine zu ?_|exact Sy.fin_val fun e=>rfl)));(all_goals (try conv => whnf)))
            exact Sy.fin_r1 (.row 5) rfl
          · ((repeat' ((conv => whnf);(first|refine zA ?_|(refine zI ?_ ?_<;> intro hh<;> first|(exfalso;omega)|skip)|(refine zl ?_ ?_<;> intro hh)|refine zq ?_|refine zv ?_|refine zu ?_|exact Sy.fin_val fun e=>rfl)));(all_goals (try conv => whnf)))
            refine ent_job 1 dn rfl (fun c2 hc2 => ?_)
            rw [hc] at hc2
            obtain rfl := Option.some.inj hc2
            ((repeat' ((conv => whnf);(first|refine zA ?_|(refine zI ?_ ?_<;> intro hh<;> first|(exfalso;omega)|skip)|(refine zl ?_ ?_<;> intro hh)|refine zq ?_|refine zv ?_|refine zu ?_|exact Sy.fin_val fun e=>rfl)));(all_goals (try conv => whnf)))
            refine Sy.need_of (by show (out.length + 1) * 8 ≤ _ ∧ _; omega) ?_
            ((repeat' ((conv => whnf);(first|refine zA ?_|(refine zI ?_ ?_<;> intro hh<;> first|(exfalso;omega)|skip)|(refine zl ?_ ?_<;> intro hh)|refine zq ?_|refine zv ?_|refine zu ?_|exact Sy.fin_val fun e=>rfl)));(all_goals (try conv => whnf)))
            have es : out.map encI ++ [[Value.int .i64 c.s]] = (out ++ [c.s]).map encI := by rw [List.map_append]; rfl
            have el : out.length + 1 = (out ++ [c.s]).length := by rw [List.length_append]; rfl
            have hlt := left_less hi
            refine ⟨(left.filter fun k => !(Nat.beq k i), out ++ [c.s]), ⟨hlnd.sublist List.filter_sublist, by dsimp only; rw [← el]; omega, fun t => ?_⟩, hlt, ?_⟩
            · dsimp only
              rw [List.mem_append, List.mem_singleton, hmem]
              constructor
              · rintro (⟨k, hk, d, hd, he⟩ | rfl)
                · exact ⟨k, fun hm => hk (List.mem_filter.1 hm).1, d, hd, he⟩
                · exact ⟨i, fun hm => by have := (List.mem_filter.1 hm).2; simp at this, c, hc, rfl⟩
              · rintro ⟨k, hk, d, hd, he⟩
                rcases left_not hk with rfl | hk
                · rw [hc] at hd
                  obtain rfl := Option.some.inj hd
                  exact .inr he.symm
                · exact .inl ⟨k, hk, d, hd, he⟩
            · dsimp only
              rw [es, el]
              ((repeat' (first|((conv => whnf);done)|((try conv => whnf);first|exact trivial|(refine And.intro ?_ ?_)|rfl|exact fun _ _ _ h=>h|exact fun _ _ _ _=>trivial)));(all_goals (try conv => whnf)))
    | cons x q =>
      have hqc : (x :: q).length = q.length + 1 := rfl
      rw [hqc] at hfew
      have hxo : okB x := (hx.ok x (by simp)).1
      have hml := may_len x 9
      cases sh
      · dsimp only
        refine Sy.row_buf 2 23 3 (x :: q).length (.vs ((x :: q).map encJ)) rfl (Nat.succ_pos _) (fun cap0 hc1 hc2 => ?_)
        obtain ⟨pre, hpre⟩ : ∃ pre : List Jb, pre = [] := ⟨_, rfl⟩
        have hp0 : pre.length = 0 := by rw [hpre]; rfl
        conv => whnf
        have hgx : (x :: q)[0 + Int.toNat 0]? = some x := by simp
        have hxo' : okJ x.s x.f x.m := by unfold okB at hxo; exact hxo
        ((repeat' ((conv => whnf);(first|refine zA ?_|(refine zI ?_ ?_<;> intro hh<;> first|(exfalso;omega)|skip)|(refine zl ?_ ?_<;> intro hh)|refine zq ?_|refine zv ?_|refine zu ?_|exact Sy.fin_val fun e=>rfl)));(all_goals (try conv => whnf)))
        refine Sy.el_map x hgx ?_
        ((repeat' ((conv => whnf);(first|refine zA ?_|(refine zI ?_ ?_<;> intro hh<;> first|(exfalso;omega)|skip)|(refine zl ?_ ?_<;> intro hh)|refine zq ?_|refine zv ?_|refine zu ?_|exact Sy.fin_val fun e=>rfl)));(all_goals (try conv => whnf)))
        refine Sy.sli_eq 1 (q.length + 1) rfl rfl ⟨by omega, by omega⟩ ?_
        ((repeat' ((conv => whnf);(first|refine zA ?_|(refine zI ?_ ?_<;> intro hh<;> first|(exfalso;omega)|skip)|(refine zl ?_ ?_<;> intro hh)|refine zq ?_|refine zv ?_|refine zu ?_|exact Sy.fin_val fun e=>rfl)));(all_goals (try conv => whnf)))
        · refine Sy.rev_in (by show 0 + (q.length + 1) ≤ List.length (List.map encJ (x :: q)); rw [List.length_map]; simp) ?_
          ((repeat' ((conv => whnf);(first|refine zA ?_|(refine zI ?_ ?_<;> intro hh<;> first|(exfalso;omega)|skip)|(refine zl ?_ ?_<;> intro hh)|refine zq ?_|refine zv ?_|refine zu ?_|exact Sy.fin_val fun e=>rfl)));(all_goals (try conv => whnf)))
          refine Sy.call_r1 ⟨3, 1, (mayQ x 9).length, (mayQ x 9).map encI⟩ (fun j => .c (.row j)) Try.call13 (fun _ _ w' _ => ymay_any x w') ?_
          ((repeat' ((conv => whnf);(first|refine zA ?_|(refine zI ?_ ?_<;> intro hh<;> first|(exfalso;omega)|skip)|(refine zl ?_ ?_<;> intro hh)|refine zq ?_|refine zv ?_|refine zu ?_|exact Sy.fin_val fun e=>rfl)));(all_goals (try conv => whnf)))
          refine Sy.loop_inv Sy.tab_ok (fun s : Is => [(31, .c (.v (.int .i64 s.i))), (4, match s.sh with | true => .c (.sl 3 s.pre.length s.q.length) | false => .c (.row 3))]) (fun s => [(3, match s.sh with | true => .buf 23 3 s.cap (.vs ((s.pre ++ s.q).map encJ)) | false => .row 23 3 s.q.length (.vs (s.q.map encJ))), (1, .mp (mpJ (dn ++ x :: s.q)))]) (fun s => Iok j x dn q s ∧ (s.sh = true → s.pre.length + s.q.length ≤ s.cap)) (fun s => (mayQ x 9).length - s.i) ⟨0, q, true, ([] : List Jb) ++ [x], cap0⟩ ⟨iok_first hx _ _ _, fun _ => (by have : (([] : List Jb) ++ [x]).length = 0 + 1 := (by simp); dsimp only; omega)⟩ ?_ (fun s hs => ?_)
          · have e1 : (([] : List Jb) ++ [x]).length = 0 + 1 := by simp
            have e2 : ([] : List Jb) ++ [x] ++ q = x :: q := by simp
            dsimp only
            rw [e1, e2]
            ((repeat' (first|((conv => whnf);done)|((try conv => whnf);first|exact trivial|(refine And.intro ?_ ?_)|rfl|exact fun _ _ _ h=>h|exact fun _ _ _ _=>trivial)));(all_goals (try conv => whnf)))
          · obtain ⟨i, q2, sh2, pre2, cap2⟩ := s
            obtain ⟨hs, hcap2⟩ := hs
            have hf2 := iok_few hs
            have hle := iok_le hs
            dsimp only at hcap2 hf2 hle ⊢
            by_cases hil : i < (mayQ x 9).length
            · have hg := List.getElem?_eq_getElem hil
              generalize (mayQ x 9)[i] = a at *
              obtain ⟨a1, a2⟩ := (may_mem (n := 9)).1 (List.mem_of_getElem? hg)
              have a1' : 1 ≤ a ∧ a ≤ 9 := by omega
              have hdo : ∀ w, Calls Try.prog 21 #[keyJ x, .int .i64 a] w (Sy.Ret (doV (dJ x a)) w) := fun w => ydo_any x a hxo' a1' w
              have hny : nxt x a = ⟨(dJ x a).1, (dJ x a).2.1, (dJ x a).2.2.1⟩ := rfl
              have hhit := fun hm => iok_hit hs hg hm
              have hmiss := fun hm => iok_miss hs hg hm
              rw [hny] at hhit hmiss
              generalize dJ x a = D at *
              obtain ⟨c1, c2, c3, ce⟩ := D
              dsimp only at hhit hmiss
              cases sh2
              · dsimp only
                ((repeat' ((conv => whnf);(first|refine zA ?_|(refine zI ?_ ?_<;> intro hh<;> first|(exfalso;omega)|skip)|(refine zl ?_ ?_<;> intro hh)|refine zq ?_|refine zv ?_|refine zu ?_|exact Sy.fin_val fun e=>rfl)));(all_goals (try conv => whnf)))
                refine Sy.el_map a hg ?_
                ((repeat' ((conv => whnf);(first|refine zA ?_|(refine zI ?_ ?_<;> intro hh<;> first|(exfalso;omega)|skip)|(refine zl ?_ ?_<;> intro hh)|refine zq ?_|refine zv ?_|refine zu ?_|exact Sy.fin_val fun e=>rfl)));(all_goals (try conv => whnf)))
                refine Sy.call_val (.tup [.agg [.v (.int .i64 c1), .v (.int .i64 c2), .v (.int .i64 c3)], .c (.v (.int .i64 ce))]) Try.call21 rfl (fun _ _ w' _ => hdo w') ?_
                ((repeat' ((conv => whnf);(first|refine zA ?_|(refine zI ?_ ?_<;> intro hh<;> first|(exfalso;omega)|skip)|(refine zl ?_ ?_<;> intro hh)|refine zq ?_|refine zv ?_|refine zu ?_|exact Sy.fin_val fun e=>rfl)));(all_goals (try conv => whnf)))
                by_cases hm : (⟨c1, c2, c3⟩ : Jb) ∈ dn ++ x :: q2
                · refine j_hit hm (fun i2 hi2 => ?_)
                  ((repeat' ((conv => whnf);(first|refine zA ?_|(refine zI ?_ ?_<;> intro hh<;> first|(exfalso;omega)|skip)|(refine zl ?_ ?_<;> intro hh)|refine zq ?_|refine zv ?_|refine zu ?_|exact Sy.fin_val fun e=>rfl)));(all_goals (try conv => whnf)))
                  refine ⟨⟨i + 1, q2, false, pre2, cap2⟩, ⟨hhit hm _ _ _, fun h => by cases h⟩, by dsimp only; omega, ?_⟩
                  dsimp only
                  ((repeat' (first|((conv => whnf);done)|((try conv => whnf);first|exact trivial|(refine And.intro ?_ ?_)|rfl|exact fun _ _ _ h=>h|exact fun _ _ _ _=>trivial)));(all_goals (try conv => whnf)))
                · refine j_miss hm ?_
                  ((repeat' ((conv => whnf);(first|refine zA ?_|(refine zI ?_ ?_<;> intro hh<;> first|(exfalso;omega)|skip)|(refine zl ?_ ?_<;> intro hh)|refine zq ?_|refine zv ?_|refine zu ?_|exact Sy.fin_val fun e=>rfl)));(all_goals (try conv => whnf)))
                  refine j_miss hm ?_
                  ((repeat' ((conv => whnf);(first|refine zA ?_|(refine zI ?_ ?_<;> intro hh<;> first|(exfalso;omega)|skip)|(refine zl ?_ ?_<;> intro hh)|refine zq ?_|refine zv ?_|refine zu ?_|exact Sy.fin_val fun e=>rfl)));(all_goals (try conv => whnf)))
                  refine Sy.need_of (by show (q2.length + 1) * 24 ≤ _ ∧ _; omega) ?_
                  ((repeat' ((conv => whnf);(first|refine zA ?_|(refine zI ?_ ?_<;> intro hh<;> first|(exfalso;omega)|skip)|(refine zl ?_ ?_<;> intro hh)|refine zq ?_|refine zv ?_|refine zu ?_|exact Sy.fin_val fun e=>rfl)));(all_goals (try conv => whnf)))
                  have es : q2.map encJ ++ [[Value.int .i64 c1, Value.int .i64 c2, Value.int .i64 c3]] = (q2 ++ [(⟨c1, c2, c3⟩ : Jb)]).map encJ := by rw [List.map_append]; rfl
                  have el : q2.length + 1 = (q2 ++ [(⟨c1, c2, c3⟩ : Jb)]).length := by rw [List.length_append]; rfl
                  have ea : dn ++ x :: q2 ++ [(⟨c1, c2, c3⟩ : Jb)] = dn ++ x :: (q2 ++ [⟨c1, c2, c3⟩]) := by simp
                  refine ⟨⟨i + 1, q2 ++ [⟨c1, c2, c3⟩], false, pre2, cap2⟩, ⟨hmiss hm _ _ _, fun h => by cases h⟩, by dsimp only; omega, ?_⟩
                  dsimp only
                  rw [es, el]
                  ((repeat' (first|((conv => whnf);done)|((try conv => whnf);first|exact trivial|(refine And.intro ?_ ?_)|rfl|exact fun _ _ _ h=>h|exact fun _ _ _ _=>trivial)));(all_goals (try conv => whnf)))
                  all_goals (rw [← ea]; exact mpJ_add _ (⟨c1, c2, c3⟩ : Jb))
              · have hcap2 := hcap2 rfl
                rcases pre2 with _ | ⟨p, pre2⟩
                · dsimp only
                  ((repeat' ((conv => whnf);(first|refine zA ?_|(refine zI ?_ ?_<;> intro hh<;> first|(exfalso;omega)|skip)|(refine zl ?_ ?_<;> intro hh)|refine zq ?_|refine zv ?_|refine zu ?_|exact Sy.fin_val fun e=>rfl)));(all_goals (try conv => whnf)))
                  refine Sy.el_map a hg ?_
                  ((repeat' ((conv => whnf);(first|refine zA ?_|(refine zI ?_ ?_<;> intro hh<;> first|(exfalso;omega)|skip)|(refine zl ?_ ?_<;> intro hh)|refine zq ?_|refine zv ?_|refine zu ?_|exact Sy.fin_val fun e=>rfl)));(all_goals (try conv => whnf)))
                  refine Sy.call_val (.tup [.agg [.v (.int .i64 c1), .v (.int .i64 c2), .v (.int .i64 c3)], .c (.v (.int .i64 ce))]) Try.call21 rfl (fun _ _ w' _ => hdo w') ?_
                  ((repeat' ((conv => whnf);(first|refine zA ?_|(refine zI ?_ ?_<;> intro hh<;> first|(exfalso;omega)|skip)|(refine zl ?_ ?_<;> intro hh)|refine zq ?_|refine zv ?_|refine zu ?_|exact Sy.fin_val fun e=>rfl)));(all_goals (try conv => whnf)))
                  by_cases hm : (⟨c1, c2, c3⟩ : Jb) ∈ dn ++ x :: q2
                  · refine j_hit hm (fun i2 hi2 => ?_)
                    ((repeat' ((conv => whnf);(first|refine zA ?_|(refine zI ?_ ?_<;> intro hh<;> first|(exfalso;omega)|skip)|(refine zl ?_ ?_<;> intro hh)|refine zq ?_|refine zv ?_|refine zu ?_|exact Sy.fin_val fun e=>rfl)));(all_goals (try conv => whnf)))
                    refine ⟨⟨i + 1, q2, true, [], cap2⟩, ⟨hhit hm _ _ _, fun _ => hcap2⟩, by dsimp only; omega, ?_⟩
                    dsimp only
                    ((repeat' (first|((conv => whnf);done)|((try conv => whnf);first|exact trivial|(refine And.intro ?_ ?_)|rfl|exact fun _ _ _ h=>h|exact fun _ _ _ _=>trivial)));(all_goals (try conv => whnf)))
                  · refine j_miss hm ?_
                    ((repeat' ((conv => whnf);(first|refine zA ?_|(refine zI ?_ ?_<;> intro hh<;> first|(exfalso;omega)|skip)|(refine zl ?_ ?_<;> intro hh)|refine zq ?_|refine zv ?_|refine zu ?_|exact Sy.fin_val fun e=>rfl)));(all_goals (try conv => whnf)))
                    refine j_miss hm ?_
                    ((repeat' ((conv => whnf);(first|refine zA ?_|(refine zI ?_ ?_<;> intro hh<;> first|(exfalso;omega)|skip)|(refine zl ?_ ?_<;> intro hh)|refine zq ?_|refine zv ?_|refine zu ?_|exact Sy.fin_val fun e=>rfl)));(all_goals (try conv => whnf)))
                    refine Sy.need_of (by show q2.length ≤ List.length (List.map encJ ([] ++ q2)); rw [List.length_map]; simp) ?_
                    have ea : dn ++ x :: q2 ++ [(⟨c1, c2, c3⟩ : Jb)] = dn ++ x :: (q2 ++ [⟨c1, c2, c3⟩]) := by simp
                    have el : q2.length + 1 = (q2 ++ [(⟨c1, c2, c3⟩ : Jb)]).length := by rw [List.length_append]; rfl
                    ((repeat' ((conv => whnf);(first|refine zA ?_|(refine zI ?_ ?_<;> intro hh<;> first|(exfalso;omega)|skip)|(refine zl ?_ ?_<;> intro hh)|refine zq ?_|refine zv ?_|refine zu ?_|exact Sy.fin_val fun e=>rfl)));(all_goals (try conv => whnf)))
                    · have es : List.take q2.length (List.map encJ ([] ++ q2)) ++ ([[Value.int .i64 c1, Value.int .i64 c2, Value.int .i64 c3]] ++ List.drop (q2.length + 1) (List.map encJ ([] ++ q2))) = ([] ++ (q2 ++ [(⟨c1, c2, c3⟩ : Jb)])).map encJ := by
                        rw [List.nil_append, List.nil_append, put_end (by rw [List.length_map]), List.map_append]; rfl
                      refine ⟨⟨i + 1, q2 ++ [⟨c1, c2, c3⟩], true, [], cap2⟩, ⟨hmiss hm _ _ _, fun _ => by dsimp only; rw [← el]; simp; omega⟩, by dsimp only; omega, ?_⟩
                      dsimp only
                      rw [es, el]
                      ((repeat' (first|((conv => whnf);done)|((try conv => whnf);first|exact trivial|(refine And.intro ?_ ?_)|rfl|exact fun _ _ _ h=>h|exact fun _ _ _ _=>trivial)));(all_goals (try conv => whnf)))
                      all_goals (rw [← ea]; exact mpJ_add _ (⟨c1, c2, c3⟩ : Jb))
                    · refine Sy.need_of (by show (q2.length + 1) * 24 ≤ _ ∧ _; omega) ?_
                      intro cap3 hc3 _
                      conv => whnf
                      ((repeat' ((conv => whnf);(first|refine zA ?_|(refine zI ?_ ?_<;> intro hh<;> first|(exfalso;omega)|skip)|(refine zl ?_ ?_<;> intro hh)|refine zq ?_|refine zv ?_|refine zu ?_|exact Sy.fin_val fun e=>rfl)));(all_goals (try conv => whnf)))
                      have es : List.take q2.length (List.map encJ ([] ++ q2)) ++ [[Value.int .i64 c1, Value.int .i64 c2, Value.int .i64 c3]] = ([] ++ (q2 ++ [(⟨c1, c2, c3⟩ : Jb)])).map encJ := by
                        rw [List.nil_append, List.nil_append, List.take_of_length_le (by rw [List.length_map]; omega), List.map_append]; rfl
                      refine ⟨⟨i + 1, q2 ++ [⟨c1, c2, c3⟩], true, [], cap3⟩, ⟨hmiss hm _ _ _, fun _ => by dsimp only; rw [← el]; simp; omega⟩, by dsimp only; omega, ?_⟩
                      dsimp only
                      rw [es, el]
                      ((repeat' (first|((conv => whnf);done)|((try conv => whnf);first|exact trivial|(refine And.intro ?_ ?_)|rfl|exact fun _ _ _ h=>h|exact fun _ _ _ _=>trivial)));(all_goals (try conv => whnf)))
                      all_goals (rw [← ea]; exact mpJ_add _ (⟨c1, c2, c3⟩ : Jb))
                · dsimp only
                  ((repeat' ((conv => whnf);(first|refine zA ?_|(refine zI ?_ ?_<;> intro hh<;> first|(exfalso;omega)|skip)|(refine zl ?_ ?_<;> intro hh)|refine zq ?_|refine zv ?_|refine zu ?_|exact Sy.fin_val fun e=>rfl)));(all_goals (try conv => whnf)))
                  refine Sy.el_map a hg ?_
                  ((repeat' ((conv => whnf);(first|refine zA ?_|(refine zI ?_ ?_<;> intro hh<;> first|(exfalso;omega)|skip)|(refine zl ?_ ?_<;> intro hh)|refine zq ?_|refine zv ?_|refine zu ?_|exact Sy.fin_val fun e=>rfl)));(all_goals (try conv => whnf)))
                  refine Sy.call_val (.tup [.agg [.v (.int .i64 c1), .v (.int .i64 c2), .v (.int .i64 c3)], .c (.v (.int .i64 ce))]) Try.call21 rfl (fun _ _ w' _ => hdo w') ?_
                  ((repeat' ((conv => whnf);(first|refine zA ?_|(refine zI ?_ ?_<;> intro hh<;> first|(exfalso;omega)|skip)|(refine zl ?_ ?_<;> intro hh)|refine zq ?_|refine zv ?_|refine zu ?_|exact Sy.fin_val fun e=>rfl)));(all_goals (try conv => whnf)))
                  by_cases hm : (⟨c1, c2, c3⟩ : Jb) ∈ dn ++ x :: q2
                  · refine j_hit hm (fun i2 hi2 => ?_)
                    ((repeat' ((conv => whnf);(first|refine zA ?_|(refine zI ?_ ?_<;> intro hh<;> first|(exfalso;omega)|skip)|(refine zl ?_ ?_<;> intro hh)|refine zq ?_|refine zv ?_|refine zu ?_|exact Sy.fin_val fun e=>rfl)));(all_goals (try conv => whnf)))
                    refine ⟨⟨i + 1, q2, true, p :: pre2, cap2⟩, ⟨hhit hm _ _ _, fun _ => hcap2⟩, by dsimp only; omega, ?_⟩
                    dsimp only
                    ((repeat' (first|((conv => whnf);done)|((try conv => whnf);first|exact trivial|(refine And.intro ?_ ?_)|rfl|exact fun _ _ _ h=>h|exact fun _ _ _ _=>trivial)));(all_goals (try conv => whnf)))
                  · refine j_miss hm ?_
                    ((repeat' ((conv => whnf);(first|refine zA ?_|(refine zI ?_ ?_<;> intro hh<;> first|(exfalso;omega)|skip)|(refine zl ?_ ?_<;> intro hh)|refine zq ?_|refine zv ?_|refine zu ?_|exact Sy.fin_val fun e=>rfl)));(all_goals (try conv => whnf)))
                    refine j_miss hm ?_
                    ((repeat' ((conv => whnf);(first|refine zA ?_|(refine zI ?_ ?_<;> intro hh<;> first|(exfalso;omega)|skip)|(refine zl ?_ ?_<;> intro hh)|refine zq ?_|refine zv ?_|refine zu ?_|exact Sy.fin_val fun e=>rfl)));(all_goals (try conv => whnf)))
                    refine Sy.need_of (by show pre2.length + 1 + q2.length ≤ List.length (List.map encJ (p :: pre2 ++ q2)); rw [List.length_map]; simp; omega) ?_
                    have ea : dn ++ x :: q2 ++ [(⟨c1, c2, c3⟩ : Jb)] = dn ++ x :: (q2 ++ [⟨c1, c2, c3⟩]) := by simp
                    have el : q2.length + 1 = (q2 ++ [(⟨c1, c2, c3⟩ : Jb)]).length := by rw [List.length_append]; rfl
                    ((repeat' ((conv => whnf);(first|refine zA ?_|(refine zI ?_ ?_<;> intro hh<;> first|(exfalso;omega)|skip)|(refine zl ?_ ?_<;> intro hh)|refine zq ?_|refine zv ?_|refine zu ?_|exact Sy.fin_val fun e=>rfl)));(all_goals (try conv => whnf)))
                    · have es : List.take (pre2.length + 1 + q2.length) (List.map encJ (p :: pre2 ++ q2)) ++ ([[Value.int .i64 c1, Value.int .i64 c2, Value.int .i64 c3]] ++ List.drop (pre2.length + 1 + q2.length + 1) (List.map encJ (p :: pre2 ++ q2))) = (p :: pre2 ++ (q2 ++ [(⟨c1, c2, c3⟩ : Jb)])).map encJ := by
                        rw [put_end (by rw [List.length_map]; simp; omega), ← List.append_assoc, List.map_append (l₁ := p :: pre2 ++ q2)]; rfl
                      have hcl : (p :: pre2).length = pre2.length + 1 := rfl
                      rw [hcl] at hcap2
                      refine ⟨⟨i + 1, q2 ++ [⟨c1, c2, c3⟩], true, p :: pre2, cap2⟩, ⟨hmiss hm _ _ _, fun _ => by dsimp only; rw [← el, hcl]; omega⟩, by dsimp only; omega, ?_⟩
                      dsimp only
                      rw [es, el]
                      ((repeat' (first|((conv => whnf);done)|((try conv => whnf);first|exact trivial|(refine And.intro ?_ ?_)|rfl|exact fun _ _ _ h=>h|exact fun _ _ _ _=>trivial)));(all_goals (try conv => whnf)))
                      all_goals (rw [← ea]; exact mpJ_add _ (⟨c1, c2, c3⟩ : Jb))
                    · refine Sy.need_of (by show (q2.length + 1) * 24 ≤ _ ∧ _; omega) ?_
                      intro cap3 hc3 _
                      conv => whnf
                      ((repeat' ((conv => whnf);(first|refine zA ?_|(refine zI ?_ ?_<;> intro hh<;> first|(exfalso;omega)|skip)|(refine zl ?_ ?_<;> intro hh)|refine zq ?_|refine zv ?_|refine zu ?_|exact Sy.fin_val fun e=>rfl)));(all_goals (try conv => whnf)))
                      have es : List.take q2.length (List.drop (pre2.length + 1) (List.map encJ (p :: pre2 ++ q2))) ++ [[Value.int .i64 c1, Value.int .i64 c2, Value.int .i64 c3]] = ([] ++ (q2 ++ [(⟨c1, c2, c3⟩ : Jb)])).map encJ := by
                        rw [← List.map_drop, show (p :: pre2 ++ q2).drop (pre2.length + 1) = q2 from List.drop_left' (l₁ := p :: pre2) rfl, List.nil_append, List.take_of_length_le (by rw [List.length_map]; omega), List.map_append]; rfl
                      refine ⟨⟨i + 1, q2 ++ [⟨c1, c2, c3⟩], true, [], cap3⟩, ⟨hmiss hm _ _ _, fun _ => by dsimp only; rw [← el]; simp; omega⟩, by dsimp only; omega, ?_⟩
                      dsimp only
                      rw [es, el]
                      ((repeat' (first|((conv => whnf);done)|((try conv => whnf);first|exact trivial|(refine And.intro ?_ ?_)|rfl|exact fun _ _ _ h=>h|exact fun _ _ _ _=>trivial)));(all_goals (try conv => whnf)))
                      all_goals (rw [← ea]; exact mpJ_add _ (⟨c1, c2, c3⟩ : Jb))
            · have e : i = (mayQ x 9).length := by omega
              have hend := iok_end hx hs e
              cases sh2
              all_goals
                dsimp only
                ((repeat' ((conv => whnf);(first|refine zA ?_|(refine zI ?_ ?_<;> intro hh<;> first|(exfalso;omega)|skip)|(refine zl ?_ ?_<;> intro hh)|refine zq ?_|refine zv ?_|refine zu ?_|exact Sy.fin_val fun e=>rfl)));(all_goals (try conv => whnf)))
              · refine ⟨⟨dn ++ [x], q2, false, pre2, cap2⟩, ⟨hend, fun h => by cases h⟩, by dsimp only; rw [List.length_append, List.length_singleton]; omega, ?_⟩
                have e2 : dn ++ [x] ++ q2 = dn ++ x :: q2 := by simp
                dsimp only
                rw [e2]
                ((repeat' (first|((conv => whnf);done)|((try conv => whnf);first|exact trivial|(refine And.intro ?_ ?_)|rfl|exact fun _ _ _ h=>h|exact fun _ _ _ _=>trivial)));(all_goals (try conv => whnf)))
              · refine ⟨⟨dn ++ [x], q2, true, pre2, cap2⟩, ⟨hend, hcap2⟩, by dsimp only; rw [List.length_append, List.length_singleton]; omega, ?_⟩
                have e2 : dn ++ [x] ++ q2 = dn ++ x :: q2 := by simp
                dsimp only
                rw [e2]
                ((repeat' (first|((conv => whnf);done)|((try conv => whnf);first|exact trivial|(refine And.intro ?_ ?_)|rfl|exact fun _ _ _ h=>h|exact fun _ _ _ _=>trivial)));(all_goals (try conv => whnf)))
        · have hq0 : q = [] := List.eq_nil_of_length_eq_zero (by omega)
          subst hq0
          refine Sy.call_r1 ⟨3, 1, (mayQ x 9).length, (mayQ x 9).map encI⟩ (fun j => .c (.row j)) Try.call13 (fun _ _ w' _ => ymay_any x w') ?_
          ((repeat' ((conv => whnf);(first|refine zA ?_|(refine zI ?_ ?_<;> intro hh<;> first|(exfalso;omega)|skip)|(refine zl ?_ ?_<;> intro hh)|refine zq ?_|refine zv ?_|refine zu ?_|exact Sy.fin_val fun e=>rfl)));(all_goals (try conv => whnf)))
          refine Sy.loop_inv Sy.tab_ok (fun s : Is => [(31, .c (.v (.int .i64 s.i))), (4, match s.sh with | true => .c (.sl 5 s.pre.length s.q.length) | false => .c (.row 5))]) (fun s => [(5, match s.sh with | true => .buf 23 3 s.cap (.vs ((s.pre ++ s.q).map encJ)) | false => .row 23 3 s.q.length (.vs (s.q.map encJ))), (1, .mp (mpJ (dn ++ x :: s.q)))]) (fun s => Iok j x dn [] s ∧ (s.sh = true → s.pre.length + s.q.length ≤ s.cap)) (fun s => (mayQ x 9).length - s.i) ⟨0, [], false, [], 0⟩ ⟨iok_first hx _ _ _, fun h => (by cases h)⟩ ?_ (fun s hs => ?_)
          · dsimp only
            ((repeat' (first|((conv => whnf);done)|((try conv => whnf);first|exact trivial|(refine And.intro ?_ ?_)|rfl|exact fun _ _ _ h=>h|exact fun _ _ _ _=>trivial)));(all_goals (try conv => whnf)))
          · obtain ⟨i, q2, sh2, pre2, cap2⟩ := s
            obtain ⟨hs, hcap2⟩ := hs
            have hf2 := iok_few hs
            have hle := iok_le hs
            dsimp only at hcap2 hf2 hle ⊢
            by_cases hil : i < (mayQ x 9).length
            · have hg := List.getElem?_eq_getElem hil
              generalize (mayQ x 9)[i] = a at *
              obtain ⟨a1, a2⟩ := (may_mem (n := 9)).1 (List.mem_of_getElem? hg)
              have a1' : 1 ≤ a ∧ a ≤ 9 := by omega
              have hdo : ∀ w, Calls Try.prog 21 #[keyJ x, .int .i64 a] w (Sy.Ret (doV (dJ x a)) w) := fun w => ydo_any x a hxo' a1' w
              have hny : nxt x a = ⟨(dJ x a).1, (dJ x a).2.1, (dJ x a).2.2.1⟩ := rfl
              have hhit := fun hm => iok_hit hs hg hm
              have hmiss := fun hm => iok_miss hs hg hm
              rw [hny] at hhit hmiss
              generalize dJ x a = D at *
              obtain ⟨c1, c2, c3, ce⟩ := D
              dsimp only at hhit hmiss
              cases sh2
              · dsimp only
                ((repeat' ((conv => whnf);(first|refine zA ?_|(refine zI ?_ ?_<;> intro hh<;> first|(exfalso;omega)|skip)|(refine zl ?_ ?_<;> intro hh)|refine zq ?_|refine zv ?_|refine zu ?_|exact Sy.fin_val fun e=>rfl)));(all_goals (try conv => whnf)))
                refine Sy.el_map a hg ?_
                ((repeat' ((conv => whnf);(first|refine zA ?_|(refine zI ?_ ?_<;> intro hh<;> first|(exfalso;omega)|skip)|(refine zl ?_ ?_<;> intro hh)|refine zq ?_|refine zv ?_|refine zu ?_|exact Sy.fin_val fun e=>rfl)));(all_goals (try conv => whnf)))
                refine Sy.call_val (.tup [.agg [.v (.int .i64 c1), .v (.int .i64 c2), .v (.int .i64 c3)], .c (.v (.int .i64 ce))]) Try.call21 rfl (fun _ _ w' _ => hdo w') ?_
                ((repeat' ((conv => whnf);(first|refine zA ?_|(refine zI ?_ ?_<;> intro hh<;> first|(exfalso;omega)|skip)|(refine zl ?_ ?_<;> intro hh)|refine zq ?_|refine zv ?_|refine zu ?_|exact Sy.fin_val fun e=>rfl)));(all_goals (try conv => whnf)))
                by_cases hm : (⟨c1, c2, c3⟩ : Jb) ∈ dn ++ x :: q2
                · refine j_hit hm (fun i2 hi2 => ?_)
                  ((repeat' ((conv => whnf);(first|refine zA ?_|(refine zI ?_ ?_<;> intro hh<;> first|(exfalso;omega)|skip)|(refine zl ?_ ?_<;> intro hh)|refine zq ?_|refine zv ?_|refine zu ?_|exact Sy.fin_val fun e=>rfl)));(all_goals (try conv => whnf)))
                  refine ⟨⟨i + 1, q2, false, pre2, cap2⟩, ⟨hhit hm _ _ _, fun h => by cases h⟩, by dsimp only; omega, ?_⟩
                  dsimp only
                  ((repeat' (first|((conv => whnf);done)|((try conv => whnf);first|exact trivial|(refine And.intro ?_ ?_)|rfl|exact fun _ _ _ h=>h|exact fun _ _ _ _=>trivial)));(all_goals (try conv => whnf)))
                · refine j_miss hm ?_
                  ((repeat' ((conv => whnf);(first|refine zA ?_|(refine zI ?_ ?_<;> intro hh<;> first|(exfalso;omega)|skip)|(refine zl ?_ ?_<;> intro hh)|refine zq ?_|refine zv ?_|refine zu ?_|exact Sy.fin_val fun e=>rfl)));(all_goals (try conv => whnf)))
                  refine j_miss hm ?_
                  ((repeat' ((conv => whnf);(first|refine zA ?_|(refine zI ?_ ?_<;> intro hh<;> first|(exfalso;omega)|skip)|(refine zl ?_ ?_<;> intro hh)|refine zq ?_|refine zv ?_|refine zu ?_|exact Sy.fin_val fun e=>rfl)));(all_goals (try conv => whnf)))
                  refine Sy.need_of (by show (q2.length + 1) * 24 ≤ _ ∧ _; omega) ?_
                  ((repeat' ((conv => whnf);(first|refine zA ?_|(refine zI ?_ ?_<;> intro hh<;> first|(exfalso;omega)|skip)|(refine zl ?_ ?_<;> intro hh)|refine zq ?_|refine zv ?_|refine zu ?_|exact Sy.fin_val fun e=>rfl)));(all_goals (try conv => whnf)))
                  have es : q2.map encJ ++ [[Value.int .i64 c1, Value.int .i64 c2, Value.int .i64 c3]] = (q2 ++ [(⟨c1, c2, c3⟩ : Jb)]).map encJ := by rw [List.map_append]; rfl
                  have el : q2.length + 1 = (q2 ++ [(⟨c1, c2, c3⟩ : Jb)]).length := by rw [List.length_append]; rfl
                  have ea : dn ++ x :: q2 ++ [(⟨c1, c2, c3⟩ : Jb)] = dn ++ x :: (q2 ++ [⟨c1, c2, c3⟩]) := by simp
                  refine ⟨⟨i + 1, q2 ++ [⟨c1, c2, c3⟩], false, pre2, cap2⟩, ⟨hmiss hm _ _ _, fun h => by cases h⟩, by dsimp only; omega, ?_⟩
                  dsimp only
                  rw [es, el]
                  ((repeat' (first|((conv => whnf);done)|((try conv => whnf);first|exact trivial|(refine And.intro ?_ ?_)|rfl|exact fun _ _ _ h=>h|exact fun _ _ _ _=>trivial)));(all_goals (try conv => whnf)))
                  all_goals (rw [← ea]; exact mpJ_add _ (⟨c1, c2, c3⟩ : Jb))
              · have hcap2 := hcap2 rfl
                rcases pre2 with _ | ⟨p, pre2⟩
                · dsimp only
                  ((repeat' ((conv => whnf);(first|refine zA ?_|(refine zI ?_ ?_<;> intro hh<;> first|(exfalso;omega)|skip)|(refine zl ?_ ?_<;> intro hh)|refine zq ?_|refine zv ?_|refine zu ?_|exact Sy.fin_val fun e=>rfl)));(all_goals (try conv => whnf)))
                  refine Sy.el_map a hg ?_
                  ((repeat' ((conv => whnf);(first|refine zA ?_|(refine zI ?_ ?_<;> intro hh<;> first|(exfalso;omega)|skip)|(refine zl ?_ ?_<;> intro hh)|refine zq ?_|refine zv ?_|refine zu ?_|exact Sy.fin_val fun e=>rfl)));(all_goals (try conv => whnf)))
                  refine Sy.call_val (.tup [.agg [.v (.int .i64 c1), .v (.int .i64 c2), .v (.int .i64 c3)], .c (.v (.int .i64 ce))]) Try.call21 rfl (fun _ _ w' _ => hdo w') ?_
                  ((repeat' ((conv => whnf);(first|refine zA ?_|(refine zI ?_ ?_<;> intro hh<;> first|(exfalso;omega)|skip)|(refine zl ?_ ?_<;> intro hh)|refine zq ?_|refine zv ?_|refine zu ?_|exact Sy.fin_val fun e=>rfl)));(all_goals (try conv => whnf)))
                  by_cases hm : (⟨c1, c2, c3⟩ : Jb) ∈ dn ++ x :: q2
                  · refine j_hit hm (fun i2 hi2 => ?_)
                    ((repeat' ((conv => whnf);(first|refine zA ?_|(refine zI ?_ ?_<;> intro hh<;> first|(exfalso;omega)|skip)|(refine zl ?_ ?_<;> intro hh)|refine zq ?_|refine zv ?_|refine zu ?_|exact Sy.fin_val fun e=>rfl)));(all_goals (try conv => whnf)))
                    refine ⟨⟨i + 1, q2, true, [], cap2⟩, ⟨hhit hm _ _ _, fun _ => hcap2⟩, by dsimp only; omega, ?_⟩
                    dsimp only
                    ((repeat' (first|((conv => whnf);done)|((try conv => whnf);first|exact trivial|(refine And.intro ?_ ?_)|rfl|exact fun _ _ _ h=>h|exact fun _ _ _ _=>trivial)));(all_goals (try conv => whnf)))
                  · refine j_miss hm ?_
                    ((repeat' ((conv => whnf);(first|refine zA ?_|(refine zI ?_ ?_<;> intro hh<;> first|(exfalso;omega)|skip)|(refine zl ?_ ?_<;> intro hh)|refine zq ?_|refine zv ?_|refine zu ?_|exact Sy.fin_val fun e=>rfl)));(all_goals (try conv => whnf)))
                    refine j_miss hm ?_
                    ((repeat' ((conv => whnf);(first|refine zA ?_|(refine zI ?_ ?_<;> intro hh<;> first|(exfalso;omega)|skip)|(refine zl ?_ ?_<;> intro hh)|refine zq ?_|refine zv ?_|refine zu ?_|exact Sy.fin_val fun e=>rfl)));(all_goals (try conv => whnf)))
                    refine Sy.need_of (by show q2.length ≤ List.length (List.map encJ ([] ++ q2)); rw [List.length_map]; simp) ?_
                    have ea : dn ++ x :: q2 ++ [(⟨c1, c2, c3⟩ : Jb)] = dn ++ x :: (q2 ++ [⟨c1, c2, c3⟩]) := by simp
                    have el : q2.length + 1 = (q2 ++ [(⟨c1, c2, c3⟩ : Jb)]).length := by rw [List.length_append]; rfl
                    ((repeat' ((conv => whnf);(first|refine zA ?_|(refine zI ?_ ?_<;> intro hh<;> first|(exfalso;omega)|skip)|(refine zl ?_ ?_<;> intro hh)|refine zq ?_|refine zv ?_|refine zu ?_|exact Sy.fin_val fun e=>rfl)));(all_goals (try conv => whnf)))
                    · have es : List.take q2.length (List.map encJ ([] ++ q2)) ++ ([[Value.int .i64 c1, Value.int .i64 c2, Value.int .i64 c3]] ++ List.drop (q2.length + 1) (List.map encJ ([] ++ q2))) = ([] ++ (q2 ++ [(⟨c1, c2, c3⟩ : Jb)])).map encJ := by
                        rw [List.nil_append, List.nil_append, put_end (by rw [List.length_map]), List.map_append]; rfl
                      refine ⟨⟨i + 1, q2 ++ [⟨c1, c2, c3⟩], true, [], cap2⟩, ⟨hmiss hm _ _ _, fun _ => by dsimp only; rw [← el]; simp; omega⟩, by dsimp only; omega, ?_⟩
                      dsimp only
                      rw [es, el]
                      ((repeat' (first|((conv => whnf);done)|((try conv => whnf);first|exact trivial|(refine And.intro ?_ ?_)|rfl|exact fun _ _ _ h=>h|exact fun _ _ _ _=>trivial)));(all_goals (try conv => whnf)))
                      all_goals (rw [← ea]; exact mpJ_add _ (⟨c1, c2, c3⟩ : Jb))
                    · refine Sy.need_of (by show (q2.length + 1) * 24 ≤ _ ∧ _; omega) ?_
                      intro cap3 hc3 _
                      conv => whnf
                      ((repeat' ((conv => whnf);(first|refine zA ?_|(refine zI ?_ ?_<;> intro hh<;> first|(exfalso;omega)|skip)|(refine zl ?_ ?_<;> intro hh)|refine zq ?_|refine zv ?_|refine zu ?_|exact Sy.fin_val fun e=>rfl)));(all_goals (try conv => whnf)))
                      have es : List.take q2.length (List.map encJ ([] ++ q2)) ++ [[Value.int .i64 c1, Value.int .i64 c2, Value.int .i64 c3]] = ([] ++ (q2 ++ [(⟨c1, c2, c3⟩ : Jb)])).map encJ := by
                        rw [List.nil_append, List.nil_append, List.take_of_length_le (by rw [List.length_map]; omega), List.map_append]; rfl
                      refine ⟨⟨i + 1, q2 ++ [⟨c1, c2, c3⟩], true, [], cap3⟩, ⟨hmiss hm _ _ _, fun _ => by dsimp only; rw [← el]; simp; omega⟩, by dsimp only; omega, ?_⟩
                      dsimp only
                      rw [es, el]
                      ((repeat' (first|((conv => whnf);done)|((try conv => whnf);first|exact trivial|(refine And.intro ?_ ?_)|rfl|exact fun _ _ _ h=>h|exact fun _ _ _ _=>trivial)));(all_goals (try conv => whnf)))
                      all_goals (rw [← ea]; exact mpJ_add _ (⟨c1, c2, c3⟩ : Jb))
                · dsimp only
                  ((repeat' ((conv => whnf);(first|refine zA ?_|(refine zI ?_ ?_<;> intro hh<;> first|(exfalso;omega)|skip)|(refine zl ?_ ?_<;> intro hh)|refine zq ?_|refine zv ?_|refine zu ?_|exact Sy.fin_val fun e=>rfl)));(all_goals (try conv => whnf)))
                  refine Sy.el_map a hg ?_
                  ((repeat' ((conv => whnf);(first|refine zA ?_|(refine zI ?_ ?_<;> intro hh<;> first|(exfalso;omega)|skip)|(refine zl ?_ ?_<;> intro hh)|refine zq ?_|refine zv ?_|refine zu ?_|exact Sy.fin_val fun e=>rfl)));(all_goals (try conv => whnf)))
                  refine Sy.call_val (.tup [.agg [.v (.int .i64 c1), .v (.int .i64 c2), .v (.int .i64 c3)], .c (.v (.int .i64 ce))]) Try.call21 rfl (fun _ _ w' _ => hdo w') ?_
                  ((repeat' ((conv => whnf);(first|refine zA ?_|(refine zI ?_ ?_<;> intro hh<;> first|(exfalso;omega)|skip)|(refine zl ?_ ?_<;> intro hh)|refine zq ?_|refine zv ?_|refine zu ?_|exact Sy.fin_val fun e=>rfl)));(all_goals (try conv => whnf)))
                  by_cases hm : (⟨c1, c2, c3⟩ : Jb) ∈ dn ++ x :: q2
                  · refine j_hit hm (fun i2 hi2 => ?_)
                    ((repeat' ((conv => whnf);(first|refine zA ?_|(refine zI ?_ ?_<;> intro hh<;> first|(exfalso;omega)|skip)|(refine zl ?_ ?_<;> intro hh)|refine zq ?_|refine zv ?_|refine zu ?_|exact Sy.fin_val fun e=>rfl)));(all_goals (try conv => whnf)))
                    refine ⟨⟨i + 1, q2, true, p :: pre2, cap2⟩, ⟨hhit hm _ _ _, fun _ => hcap2⟩, by dsimp only; omega, ?_⟩
                    dsimp only
                    ((repeat' (first|((conv => whnf);done)|((try conv => whnf);first|exact trivial|(refine And.intro ?_ ?_)|rfl|exact fun _ _ _ h=>h|exact fun _ _ _ _=>trivial)));(all_goals (try conv => whnf)))
                  · refine j_miss hm ?_
                    ((repeat' ((conv => whnf);(first|refine zA ?_|(refine zI ?_ ?_<;> intro hh<;> first|(exfalso;omega)|skip)|(refine zl ?_ ?_<;> intro hh)|refine zq ?_|refine zv ?_|refine zu ?_|exact Sy.fin_val fun e=>rfl)));(all_goals (try conv => whnf)))
                    refine j_miss hm ?_
                    ((repeat' ((conv => whnf);(first|refine zA ?_|(refine zI ?_ ?_<;> intro hh<;> first|(exfalso;omega)|skip)|(refine zl ?_ ?_<;> intro hh)|refine zq ?_|refine zv ?_|refine zu ?_|exact Sy.fin_val fun e=>rfl)));(all_goals (try conv => whnf)))
                    refine Sy.need_of (by show pre2.length + 1 + q2.length ≤ List.length (List.map encJ (p :: pre2 ++ q2)); rw [List.length_map]; simp; omega) ?_
                    have ea : dn ++ x :: q2 ++ [(⟨c1, c2, c3⟩ : Jb)] = dn ++ x :: (q2 ++ [⟨c1, c2, c3⟩]) := by simp
                    have el : q2.length + 1 = (q2 ++ [(⟨c1, c2, c3⟩ : Jb)]).length := by rw [List.length_append]; rfl
                    ((repeat' ((conv => whnf);(first|refine zA ?_|(refine zI ?_ ?_<;> intro hh<;> first|(exfalso;omega)|skip)|(refine zl ?_ ?_<;> intro hh)|refine zq ?_|refine zv ?_|refine zu ?_|exact Sy.fin_val fun e=>rfl)));(all_goals (try conv => whnf)))
                    · have es : List.take (pre2.length + 1 + q2.length) (List.map encJ (p :: pre2 ++ q2)) ++ ([[Value.int .i64 c1, Value.int .i64 c2, Value.int .i64 c3]] ++ List.drop (pre2.length + 1 + q2.length + 1) (List.map encJ (p :: pre2 ++ q2))) = (p :: pre2 ++ (q2 ++ [(⟨c1, c2, c3⟩ : Jb)])).map encJ := by
                        rw [put_end (by rw [List.length_map]; simp; omega), ← List.append_assoc, List.map_append (l₁ := p :: pre2 ++ q2)]; rfl
                      have hcl : (p :: pre2).length = pre2.length + 1 := rfl
                      rw [hcl] at hcap2
                      refine ⟨⟨i + 1, q2 ++ [⟨c1, c2, c3⟩], true, p :: pre2, cap2⟩, ⟨hmiss hm _ _ _, fun _ => by dsimp only; rw [← el, hcl]; omega⟩, by dsimp only; omega, ?_⟩
                      dsimp only
                      rw [es, el]
                      ((repeat' (first|((conv => whnf);done)|((try conv => whnf);first|exact trivial|(refine And.intro ?_ ?_)|rfl|exact fun _ _ _ h=>h|exact fun _ _ _ _=>trivial)));(all_goals (try conv => whnf)))
                      all_goals (rw [← ea]; exact mpJ_add _ (⟨c1, c2, c3⟩ : Jb))
                    · refine Sy.need_of (by show (q2.length + 1) * 24 ≤ _ ∧ _; omega) ?_
                      intro cap3 hc3 _
                      conv => whnf
                      ((repeat' ((conv => whnf);(first|refine zA ?_|(refine zI ?_ ?_<;> intro hh<;> first|(exfalso;omega)|skip)|(refine zl ?_ ?_<;> intro hh)|refine zq ?_|refine zv ?_|refine zu ?_|exact Sy.fin_val fun e=>rfl)));(all_goals (try conv => whnf)))
                      have es : List.take q2.length (List.drop (pre2.length + 1) (List.map encJ (p :: pre2 ++ q2))) ++ [[Value.int .i64 c1, Value.int .i64 c2, Value.int .i64 c3]] = ([] ++ (q2 ++ [(⟨c1, c2, c3⟩ : Jb)])).map encJ := by
                        rw [← List.map_drop, show (p :: pre2 ++ q2).drop (pre2.length + 1) = q2 from List.drop_left' (l₁ := p :: pre2) rfl, List.nil_append, List.take_of_length_le (by rw [List.length_map]; omega), List.map_append]; rfl
                      refine ⟨⟨i + 1, q2 ++ [⟨c1, c2, c3⟩], true, [], cap3⟩, ⟨hmiss hm _ _ _, fun _ => by dsimp only; rw [← el]; simp; omega⟩, by dsimp only; omega, ?_⟩
                      dsimp only
                      rw [es, el]
                      ((repeat' (first|((conv => whnf);done)|((try conv => whnf);first|exact trivial|(refine And.intro ?_ ?_)|rfl|exact fun _ _ _ h=>h|exact fun _ _ _ _=>trivial)));(all_goals (try conv => whnf)))
                      all_goals (rw [← ea]; exact mpJ_add _ (⟨c1, c2, c3⟩ : Jb))
            · have e : i = (mayQ x 9).length := by omega
              have hend := iok_end hx hs e
              cases sh2
              all_goals
                dsimp only
                ((repeat' ((conv => whnf);(first|refine zA ?_|(refine zI ?_ ?_<;> intro hh<;> first|(exfalso;omega)|skip)|(refine zl ?_ ?_<;> intro hh)|refine zq ?_|refine zv ?_|refine zu ?_|exact Sy.fin_val fun e=>rfl)));(all_goals (try conv => whnf)))
              · refine ⟨⟨dn ++ [x], q2, false, pre2, cap2⟩, ⟨hend, fun h => by cases h⟩, by dsimp only; rw [List.length_append, List.length_singleton]; omega, ?_⟩
                have e2 : dn ++ [x] ++ q2 = dn ++ x :: q2 := by simp
                dsimp only
                rw [e2]
                ((repeat' (first|((conv => whnf);done)|((try conv => whnf);first|exact trivial|(refine And.intro ?_ ?_)|rfl|exact fun _ _ _ h=>h|exact fun _ _ _ _=>trivial)));(all_goals (try conv => whnf)))
              · refine ⟨⟨dn ++ [x], q2, true, pre2, cap2⟩, ⟨hend, hcap2⟩, by dsimp only; rw [List.length_append, List.length_singleton]; omega, ?_⟩
                have e2 : dn ++ [x] ++ q2 = dn ++ x :: q2 := by simp
                dsimp only
                rw [e2]
                ((repeat' (first|((conv => whnf);done)|((try conv => whnf);first|exact trivial|(refine And.intro ?_ ?_)|rfl|exact fun _ _ _ h=>h|exact fun _ _ _ _=>trivial)));(all_goals (try conv => whnf)))
      · dsimp only
        have hcap := hcap rfl
        rw [hqc] at hcap
        have hgx : (pre ++ x :: q)[pre.length + Int.toNat 0]? = some x := by simp
        have hxo' : okJ x.s x.f x.m := by unfold okB at hxo; exact hxo
        ((repeat' ((conv => whnf);(first|refine zA ?_|(refine zI ?_ ?_<;> intro hh<;> first|(exfalso;omega)|skip)|(refine zl ?_ ?_<;> intro hh)|refine zq ?_|refine zv ?_|refine zu ?_|exact Sy.fin_val fun e=>rfl)));(all_goals (try conv => whnf)))
        refine Sy.el_map x hgx ?_
        ((repeat' ((conv => whnf);(first|refine zA ?_|(refine zI ?_ ?_<;> intro hh<;> first|(exfalso;omega)|skip)|(refine zl ?_ ?_<;> intro hh)|refine zq ?_|refine zv ?_|refine zu ?_|exact Sy.fin_val fun e=>rfl)));(all_goals (try conv => whnf)))
        refine Sy.sli_eq 1 (q.length + 1) rfl rfl ⟨by omega, by omega⟩ ?_
        ((repeat' ((conv => whnf);(first|refine zA ?_|(refine zI ?_ ?_<;> intro hh<;> first|(exfalso;omega)|skip)|(refine zl ?_ ?_<;> intro hh)|refine zq ?_|refine zv ?_|refine zu ?_|exact Sy.fin_val fun e=>rfl)));(all_goals (try conv => whnf)))
        · refine Sy.rev_in (by show pre.length + (q.length + 1) ≤ List.length (List.map encJ (pre ++ x :: q)); rw [List.length_map]; simp) ?_
          ((repeat' ((conv => whnf);(first|refine zA ?_|(refine zI ?_ ?_<;> intro hh<;> first|(exfalso;omega)|skip)|(refine zl ?_ ?_<;> intro hh)|refine zq ?_|refine zv ?_|refine zu ?_|exact Sy.fin_val fun e=>rfl)));(all_goals (try conv => whnf)))
          refine Sy.call_r1 ⟨3, 1, (mayQ x 9).length, (mayQ x 9).map encI⟩ (fun j => .c (.row j)) Try.call13 (fun _ _ w' _ => ymay_any x w') ?_
          ((repeat' ((conv => whnf);(first|refine zA ?_|(refine zI ?_ ?_<;> intro hh<;> first|(exfalso;omega)|skip)|(refine zl ?_ ?_<;> intro hh)|refine zq ?_|refine zv ?_|refine zu ?_|exact Sy.fin_val fun e=>rfl)));(all_goals (try conv => whnf)))
          refine Sy.loop_inv Sy.tab_ok (fun s : Is => [(31, .c (.v (.int .i64 s.i))), (4, match s.sh with | true => .c (.sl 2 s.pre.length s.q.length) | false => .c (.row 2))]) (fun s => [(2, match s.sh with | true => .buf 23 3 s.cap (.vs ((s.pre ++ s.q).map encJ)) | false => .row 23 3 s.q.length (.vs (s.q.map encJ))), (1, .mp (mpJ (dn ++ x :: s.q)))]) (fun s => Iok j x dn q s ∧ (s.sh = true → s.pre.length + s.q.length ≤ s.cap)) (fun s => (mayQ x 9).length - s.i) ⟨0, q, true, pre ++ [x], cap⟩ ⟨iok_first hx _ _ _, fun _ => (by have : (pre ++ [x]).length = pre.length + 1 := (by simp); dsimp only; omega)⟩ ?_ (fun s hs => ?_)
          · have e1 : (pre ++ [x]).length = pre.length + 1 := by simp
            have e2 : pre ++ [x] ++ q = pre ++ x :: q := by simp
            dsimp only
            rw [e1, e2]
            ((repeat' (first|((conv => whnf);done)|((try conv => whnf);first|exact trivial|(refine And.intro ?_ ?_)|rfl|exact fun _ _ _ h=>h|exact fun _ _ _ _=>trivial)));(all_goals (try conv => whnf)))
          · obtain ⟨i, q2, sh2, pre2, cap2⟩ := s
            obtain ⟨hs, hcap2⟩ := hs
            have hf2 := iok_few hs
            have hle := iok_le hs
            dsimp only at hcap2 hf2 hle ⊢
            by_cases hil : i < (mayQ x 9).length
            · have hg := List.getElem?_eq_getElem hil
              generalize (mayQ x 9)[i] = a at *
              obtain ⟨a1, a2⟩ := (may_mem (n := 9)).1 (List.mem_of_getElem? hg)
              have a1' : 1 ≤ a ∧ a ≤ 9 := by omega
              have hdo : ∀ w, Calls Try.prog 21 #[keyJ x, .int .i64 a] w (Sy.Ret (doV (dJ x a)) w) := fun w => ydo_any x a hxo' a1' w
              have hny : nxt x a = ⟨(dJ x a).1, (dJ x a).2.1, (dJ x a).2.2.1⟩ := rfl
              have hhit := fun hm => iok_hit hs hg hm
              have hmiss := fun hm => iok_miss hs hg hm
              rw [hny] at hhit hmiss
              generalize dJ x a = D at *
              obtain ⟨c1, c2, c3, ce⟩ := D
              dsimp only at hhit hmiss
              cases sh2
              · dsimp only
                ((repeat' ((conv => whnf);(first|refine zA ?_|(refine zI ?_ ?_<;> intro hh<;> first|(exfalso;omega)|skip)|(refine zl ?_ ?_<;> intro hh)|refine zq ?_|refine zv ?_|refine zu ?_|exact Sy.fin_val fun e=>rfl)));(all_goals (try conv => whnf)))
                refine Sy.el_map a hg ?_
                ((repeat' ((conv => whnf);(first|refine zA ?_|(refine zI ?_ ?_<;> intro hh<;> first|(exfalso;omega)|skip)|(refine zl ?_ ?_<;> intro hh)|refine zq ?_|refine zv ?_|refine zu ?_|exact Sy.fin_val fun e=>rfl)));(all_goals (try conv => whnf)))
                refine Sy.call_val (.tup [.agg [.v (.int .i64 c1), .v (.int .i64 c2), .v (.int .i64 c3)], .c (.v (.int .i64 ce))]) Try.call21 rfl (fun _ _ w' _ => hdo w') ?_
                ((repeat' ((conv => whnf);(first|refine zA ?_|(refine zI ?_ ?_<;> intro hh<;> first|(exfalso;omega)|skip)|(refine zl ?_ ?_<;> intro hh)|refine zq ?_|refine zv ?_|refine zu ?_|exact Sy.fin_val fun e=>rfl)));(all_goals (try conv => whnf)))
                by_cases hm : (⟨c1, c2, c3⟩ : Jb) ∈ dn ++ x :: q2
                · refine j_hit hm (fun i2 hi2 => ?_)
                  ((repeat' ((conv => whnf);(first|refine zA ?_|(refine zI ?_ ?_<;> intro hh<;> first|(exfalso;omega)|skip)|(refine zl ?_ ?_<;> intro hh)|refine zq ?_|refine zv ?_|refine zu ?_|exact Sy.fin_val fun e=>rfl)));(all_goals (try conv => whnf)))
                  refine ⟨⟨i + 1, q2, false, pre2, cap2⟩, ⟨hhit hm _ _ _, fun h => by cases h⟩, by dsimp only; omega, ?_⟩
                  dsimp only
                  ((repeat' (first|((conv => whnf);done)|((try conv => whnf);first|exact trivial|(refine And.intro ?_ ?_)|rfl|exact fun _ _ _ h=>h|exact fun _ _ _ _=>trivial)));(all_goals (try conv => whnf)))
                · refine j_miss hm ?_
                  ((repeat' ((conv => whnf);(first|refine zA ?_|(refine zI ?_ ?_<;> intro hh<;> first|(exfalso;omega)|skip)|(refine zl ?_ ?_<;> intro hh)|refine zq ?_|refine zv ?_|refine zu ?_|exact Sy.fin_val fun e=>rfl)));(all_goals (try conv => whnf)))
                  refine j_miss hm ?_
                  ((repeat' ((conv => whnf);(first|refine zA ?_|(refine zI ?_ ?_<;> intro hh<;> first|(exfalso;omega)|skip)|(refine zl ?_ ?_<;> intro hh)|refine zq ?_|refine zv ?_|refine zu ?_|exact Sy.fin_val fun e=>rfl)));(all_goals (try conv => whnf)))
                  refine Sy.need_of (by show (q2.length + 1) * 24 ≤ _ ∧ _; omega) ?_
                  ((repeat' ((conv => whnf);(first|refine zA ?_|(refine zI ?_ ?_<;> intro hh<;> first|(exfalso;omega)|skip)|(refine zl ?_ ?_<;> intro hh)|refine zq ?_|refine zv ?_|refine zu ?_|exact Sy.fin_val fun e=>rfl)));(all_goals (try conv => whnf)))
                  have es : q2.map encJ ++ [[Value.int .i64 c1, Value.int .i64 c2, Value.int .i64 c3]] = (q2 ++ [(⟨c1, c2, c3⟩ : Jb)]).map encJ := by rw [List.map_append]; rfl
                  have el : q2.length + 1 = (q2 ++ [(⟨c1, c2, c3⟩ : Jb)]).length := by rw [List.length_append]; rfl
                  have ea : dn ++ x :: q2 ++ [(⟨c1, c2, c3⟩ : Jb)] = dn ++ x :: (q2 ++ [⟨c1, c2, c3⟩]) := by simp
                  refine ⟨⟨i + 1, q2 ++ [⟨c1, c2, c3⟩], false, pre2, cap2⟩, ⟨hmiss hm _ _ _, fun h => by cases h⟩, by dsimp only; omega, ?_⟩
                  dsimp only
                  rw [es, el]
                  ((repeat' (first|((conv => whnf);done)|((try conv => whnf);first|exact trivial|(refine And.intro ?_ ?_)|rfl|exact fun _ _ _ h=>h|exact fun _ _ _ _=>trivial)));(all_goals (try conv => whnf)))
                  all_goals (rw [← ea]; exact mpJ_add _ (⟨c1, c2, c3⟩ : Jb))
              · have hcap2 := hcap2 rfl
                rcases pre2 with _ | ⟨p, pre2⟩
                · dsimp only
                  ((repeat' ((conv => whnf);(first|refine zA ?_|(refine zI ?_ ?_<;> intro hh<;> first|(exfalso;omega)|skip)|(refine zl ?_ ?_<;> intro hh)|refine zq ?_|refine zv ?_|refine zu ?_|exact Sy.fin_val fun e=>rfl)));(all_goals (try conv => whnf)))
                  refine Sy.el_map a hg ?_
                  ((repeat' ((conv => whnf);(first|refine zA ?_|(refine zI ?_ ?_<;> intro hh<;> first|(exfalso;omega)|skip)|(refine zl ?_ ?_<;> intro hh)|refine zq ?_|refine zv ?_|refine zu ?_|exact Sy.fin_val fun e=>rfl)));(all_goals (try conv => whnf)))
                  refine Sy.call_val (.tup [.agg [.v (.int .i64 c1), .v (.int .i64 c2), .v (.int .i64 c3)], .c (.v (.int .i64 ce))]) Try.call21 rfl (fun _ _ w' _ => hdo w') ?_
                  ((repeat' ((conv => whnf);(first|refine zA ?_|(refine zI ?_ ?_<;> intro hh<;> first|(exfalso;omega)|skip)|(refine zl ?_ ?_<;> intro hh)|refine zq ?_|refine zv ?_|refine zu ?_|exact Sy.fin_val fun e=>rfl)));(all_goals (try conv => whnf)))
                  by_cases hm : (⟨c1, c2, c3⟩ : Jb) ∈ dn ++ x :: q2
                  · refine j_hit hm (fun i2 hi2 => ?_)
                    ((repeat' ((conv => whnf);(first|refine zA ?_|(refine zI ?_ ?_<;> intro hh<;> first|(exfalso;omega)|skip)|(refine zl ?_ ?_<;> intro hh)|refine zq ?_|refine zv ?_|refine zu ?_|exact Sy.fin_val fun e=>rfl)));(all_goals (try conv => whnf)))
                    refine ⟨⟨i + 1, q2, true, [], cap2⟩, ⟨hhit hm _ _ _, fun _ => hcap2⟩, by dsimp only; omega, ?_⟩
                    dsimp only
                    ((repeat' (first|((conv => whnf);done)|((try conv => whnf);first|exact trivial|(refine And.intro ?_ ?_)|rfl|exact fun _ _ _ h=>h|exact fun _ _ _ _=>trivial)));(all_goals (try conv => whnf)))
                  · refine j_miss hm ?_
                    ((repeat' ((conv => whnf);(first|refine zA ?_|(refine zI ?_ ?_<;> intro hh<;> first|(exfalso;omega)|skip)|(refine zl ?_ ?_<;> intro hh)|refine zq ?_|refine zv ?_|refine zu ?_|exact Sy.fin_val fun e=>rfl)));(all_goals (try conv => whnf)))
                    refine j_miss hm ?_
                    ((repeat' ((conv => whnf);(first|refine zA ?_|(refine zI ?_ ?_<;> intro hh<;> first|(exfalso;omega)|skip)|(refine zl ?_ ?_<;> intro hh)|refine zq ?_|refine zv ?_|refine zu ?_|exact Sy.fin_val fun e=>rfl)));(all_goals (try conv => whnf)))
                    refine Sy.need_of (by show q2.length ≤ List.length (List.map encJ ([] ++ q2)); rw [List.length_map]; simp) ?_
                    have ea : dn ++ x :: q2 ++ [(⟨c1, c2, c3⟩ : Jb)] = dn ++ x :: (q2 ++ [⟨c1, c2, c3⟩]) := by simp
                    have el : q2.length + 1 = (q2 ++ [(⟨c1, c2, c3⟩ : Jb)]).length := by rw [List.length_append]; rfl
                    ((repeat' ((conv => whnf);(first|refine zA ?_|(refine zI ?_ ?_<;> intro hh<;> first|(exfalso;omega)|skip)|(refine zl ?_ ?_<;> intro hh)|refine zq ?_|refine zv ?_|refine zu ?_|exact Sy.fin_val fun e=>rfl)));(all_goals (try conv => whnf)))
                    · have es : List.take q2.length (List.map encJ ([] ++ q2)) ++ ([[Value.int .i64 c1, Value.int .i64 c2, Value.int .i64 c3]] ++ List.drop (q2.length + 1) (List.map encJ ([] ++ q2))) = ([] ++ (q2 ++ [(⟨c1, c2, c3⟩ : Jb)])).map encJ := by
                        rw [List.nil_append, List.nil_append, put_end (by rw [List.length_map]), List.map_append]; rfl
                      refine ⟨⟨i + 1, q2 ++ [⟨c1, c2, c3⟩], true, [], cap2⟩, ⟨hmiss hm _ _ _, fun _ => by dsimp only; rw [← el]; simp; omega⟩, by dsimp only; omega, ?_⟩
                      dsimp only
                      rw [es, el]
                      ((repeat' (first|((conv => whnf);done)|((try conv => whnf);first|exact trivial|(refine And.intro ?_ ?_)|rfl|exact fun _ _ _ h=>h|exact fun _ _ _ _=>trivial)));(all_goals (try conv => whnf)))
                      all_goals (rw [← ea]; exact mpJ_add _ (⟨c1, c2, c3⟩ : Jb))
                    · refine Sy.need_of (by show (q2.length + 1) * 24 ≤ _ ∧ _; omega) ?_
                      intro cap3 hc3 _
                      conv => whnf
                      ((repeat' ((conv => whnf);(first|refine zA ?_|(refine zI ?_ ?_<;> intro hh<;> first|(exfalso;omega)|skip)|(refine zl ?_ ?_<;> intro hh)|refine zq ?_|refine zv ?_|refine zu ?_|exact Sy.fin_val fun e=>rfl)));(all_goals (try conv => whnf)))
                      have es : List.take q2.length (List.map encJ ([] ++ q2)) ++ [[Value.int .i64 c1, Value.int .i64 c2, Value.int .i64 c3]] = ([] ++ (q2 ++ [(⟨c1, c2, c3⟩ : Jb)])).map encJ := by
                        rw [List.nil_append, List.nil_append, List.take_of_length_le (by rw [List.length_map]; omega), List.map_append]; rfl
                      refine ⟨⟨i + 1, q2 ++ [⟨c1, c2, c3⟩], true, [], cap3⟩, ⟨hmiss hm _ _ _, fun _ => by dsimp only; rw [← el]; simp; omega⟩, by dsimp only; omega, ?_⟩
                      dsimp only
                      rw [es, el]
                      ((repeat' (first|((conv => whnf);done)|((try conv => whnf);first|exact trivial|(refine And.intro ?_ ?_)|rfl|exact fun _ _ _ h=>h|exact fun _ _ _ _=>trivial)));(all_goals (try conv => whnf)))
                      all_goals (rw [← ea]; exact mpJ_add _ (⟨c1, c2, c3⟩ : Jb))
                · dsimp only
                  ((repeat' ((conv => whnf);(first|refine zA ?_|(refine zI ?_ ?_<;> intro hh<;> first|(exfalso;omega)|skip)|(refine zl ?_ ?_<;> intro hh)|refine zq ?_|refine zv ?_|refine zu ?_|exact Sy.fin_val fun e=>rfl)));(all_goals (try conv => whnf)))
                  refine Sy.el_map a hg ?_
                  ((repeat' ((conv => whnf);(first|refine zA ?_|(refine zI ?_ ?_<;> intro hh<;> first|(exfalso;omega)|skip)|(refine zl ?_ ?_<;> intro hh)|refine zq ?_|refine zv ?_|refine zu ?_|exact Sy.fin_val fun e=>rfl)));(all_goals (try conv => whnf)))
                  refine Sy.call_val (.tup [.agg [.v (.int .i64 c1), .v (.int .i64 c2), .v (.int .i64 c3)], .c (.v (.int .i64 ce))]) Try.call21 rfl (fun _ _ w' _ => hdo w') ?_
                  ((repeat' ((conv => whnf);(first|refine zA ?_|(refine zI ?_ ?_<;> intro hh<;> first|(exfalso;omega)|skip)|(refine zl ?_ ?_<;> intro hh)|refine zq ?_|refine zv ?_|refine zu ?_|exact Sy.fin_val fun e=>rfl)));(all_goals (try conv => whnf)))
                  by_cases hm : (⟨c1, c2, c3⟩ : Jb) ∈ dn ++ x :: q2
                  · refine j_hit hm (fun i2 hi2 => ?_)
                    ((repeat' ((conv => whnf);(first|refine zA ?_|(refine zI ?_ ?_<;> intro hh<;> first|(exfalso;omega)|skip)|(refine zl ?_ ?_<;> intro hh)|refine zq ?_|refine zv ?_|refine zu ?_|exact Sy.fin_val fun e=>rfl)));(all_goals (try conv => whnf)))
                    refine ⟨⟨i + 1, q2, true, p :: pre2, cap2⟩, ⟨hhit hm _ _ _, fun _ => hcap2⟩, by dsimp only; omega, ?_⟩
                    dsimp only
                    ((repeat' (first|((conv => whnf);done)|((try conv => whnf);first|exact trivial|(refine And.intro ?_ ?_)|rfl|exact fun _ _ _ h=>h|exact fun _ _ _ _=>trivial)));(all_goals (try conv => whnf)))
                  · refine j_miss hm ?_
                    ((repeat' ((conv => whnf);(first|refine zA ?_|(refine zI ?_ ?_<;> intro hh<;> first|(exfalso;omega)|skip)|(refine zl ?_ ?_<;> intro hh)|refine zq ?_|refine zv ?_|refine zu ?_|exact Sy.fin_val fun e=>rfl)));(all_goals (try conv => whnf)))
                    refine j_miss hm ?_
                    ((repeat' ((conv => whnf);(first|refine zA ?_|(refine zI ?_ ?_<;> intro hh<;> first|(exfalso;omega)|skip)|(refine zl ?_ ?_<;> intro hh)|refine zq ?_|refine zv ?_|refine zu ?_|exact Sy.fin_val fun e=>rfl)));(all_goals (try conv => whnf)))
                    refine Sy.need_of (by show pre2.length + 1 + q2.length ≤ List.length (List.map encJ (p :: pre2 ++ q2)); rw [List.length_map]; simp; omega) ?_
                    have ea : dn ++ x :: q2 ++ [(⟨c1, c2, c3⟩ : Jb)] = dn ++ x :: (q2 ++ [⟨c1, c2, c3⟩]) := by simp
                    have el : q2.length + 1 = (q2 ++ [(⟨c1, c2, c3⟩ : Jb)]).length := by rw [List.length_append]; rfl
                    ((repeat' ((conv => whnf);(first|refine zA ?_|(refine zI ?_ ?_<;> intro hh<;> first|(exfalso;omega)|skip)|(refine zl ?_ ?_<;> intro hh)|refine zq ?_|refine zv ?_|refine zu ?_|exact Sy.fin_val fun e=>rfl)));(all_goals (try conv => whnf)))
                    · have es : List.take (pre2.length + 1 + q2.length) (List.map encJ (p :: pre2 ++ q2)) ++ ([[Value.int .i64 c1, Value.int .i64 c2, Value.int .i64 c3]] ++ List.drop (pre2.length + 1 + q2.length + 1) (List.map encJ (p :: pre2 ++ q2))) = (p :: pre2 ++ (q2 ++ [(⟨c1, c2, c3⟩ : Jb)])).map encJ := by
                        rw [put_end (by rw [List.length_map]; simp; omega), ← List.append_assoc, List.map_append (l₁ := p :: pre2 ++ q2)]; rfl
                      have hcl : (p :: pre2).length = pre2.length + 1 := rfl
                      rw [hcl] at hcap2
                      refine ⟨⟨i + 1, q2 ++ [⟨c1, c2, c3⟩], true, p :: pre2, cap2⟩, ⟨hmiss hm _ _ _, fun _ => by dsimp only; rw [← el, hcl]; omega⟩, by dsimp only; omega, ?_⟩
                      dsimp only
                      rw [es, el]
                      ((repeat' (first|((conv => whnf);done)|((try conv => whnf);first|exact trivial|(refine And.intro ?_ ?_)|rfl|exact fun _ _ _ h=>h|exact fun _ _ _ _=>trivial)));(all_goals (try conv => whnf)))
                      all_goals (rw [← ea]; exact mpJ_add _ (⟨c1, c2, c3⟩ : Jb))
                    · refine Sy.need_of (by show (q2.length + 1) * 24 ≤ _ ∧ _; omega) ?_
                      intro cap3 hc3 _
                      conv => whnf
                      ((repeat' ((conv => whnf);(first|refine zA ?_|(refine zI ?_ ?_<;> intro hh<;> first|(exfalso;omega)|skip)|(refine zl ?_ ?_<;> intro hh)|refine zq ?_|refine zv ?_|refine zu ?_|exact Sy.fin_val fun e=>rfl)));(all_goals (try conv => whnf)))
                      have es : List.take q2.length (List.drop (pre2.length + 1) (List.map encJ (p :: pre2 ++ q2))) ++ [[Value.int .i64 c1, Value.int .i64 c2, Value.int .i64 c3]] = ([] ++ (q2 ++ [(⟨c1, c2, c3⟩ : Jb)])).map encJ := by
                        rw [← List.map_drop, show (p :: pre2 ++ q2).drop (pre2.length + 1) = q2 from List.drop_left' (l₁ := p :: pre2) rfl, List.nil_append, List.take_of_length_le (by rw [List.length_map]; omega), List.map_append]; rfl
                      refine ⟨⟨i + 1, q2 ++ [⟨c1, c2, c3⟩], true, [], cap3⟩, ⟨hmiss hm _ _ _, fun _ => by dsimp only; rw [← el]; simp; omega⟩, by dsimp only; omega, ?_⟩
                      dsimp only
                      rw [es, el]
                      ((repeat' (first|((conv => whnf);done)|((try conv => whnf);first|exact trivial|(refine And.intro ?_ ?_)|rfl|exact fun _ _ _ h=>h|exact fun _ _ _ _=>trivial)));(all_goals (try conv => whnf)))
                      all_goals (rw [← ea]; exact mpJ_add _ (⟨c1, c2, c3⟩ : Jb))
            · have e : i = (mayQ x 9).length := by omega
              have hend := iok_end hx hs e
              cases sh2
              all_goals
                dsimp only
                ((repeat' ((conv => whnf);(first|refine zA ?_|(refine zI ?_ ?_<;> intro hh<;> first|(exfalso;omega)|skip)|(refine zl ?_ ?_<;> intro hh)|refine zq ?_|refine zv ?_|refine zu ?_|exact Sy.fin_val fun e=>rfl)));(all_goals (try conv => whnf)))
              · refine ⟨⟨dn ++ [x], q2, false, pre2, cap2⟩, ⟨hend, fun h => by cases h⟩, by dsimp only; rw [List.length_append, List.length_singleton]; omega, ?_⟩
                have e2 : dn ++ [x] ++ q2 = dn ++ x :: q2 := by simp
                dsimp only
                rw [e2]
                ((repeat' (first|((conv => whnf);done)|((try conv => whnf);first|exact trivial|(refine And.intro ?_ ?_)|rfl|exact fun _ _ _ h=>h|exact fun _ _ _ _=>trivial)));(all_goals (try conv => whnf)))
              · refine ⟨⟨dn ++ [x], q2, true, pre2, cap2⟩, ⟨hend, hcap2⟩, by dsimp only; rw [List.length_append, List.length_singleton]; omega, ?_⟩
                have e2 : dn ++ [x] ++ q2 = dn ++ x :: q2 := by simp
                dsimp only
                rw [e2]
                ((repeat' (first|((conv => whnf);done)|((try conv => whnf);first|exact trivial|(refine And.intro ?_ ?_)|rfl|exact fun _ _ _ h=>h|exact fun _ _ _ _=>trivial)));(all_goals (try conv => whnf)))
        · have hq0 : q = [] := List.eq_nil_of_length_eq_zero (by omega)
          subst hq0
          refine Sy.call_r1 ⟨3, 1, (mayQ x 9).length, (mayQ x 9).map encI⟩ (fun j => .c (.row j)) Try.call13 (fun _ _ w' _ => ymay_any x w') ?_
          ((repeat' ((conv => whnf);(first|refine zA ?_|(refine zI ?_ ?_<;> intro hh<;> first|(exfalso;omega)|skip)|(refine zl ?_ ?_<;> intro hh)|refine zq ?_|refine zv ?_|refine zu ?_|exact Sy.fin_val fun e=>rfl)));(all_goals (try conv => whnf)))
          refine Sy.loop_inv Sy.tab_ok (fun s : Is => [(31, .c (.v (.int .i64 s.i))), (4, match s.sh with | true => .c (.sl 4 s.pre.length s.q.length) | false => .c (.row 4))]) (fun s => [(4, match s.sh with | true => .buf 23 3 s.cap (.vs ((s.pre ++ s.q).map encJ)) | false => .row 23 3 s.q.length (.vs (s.q.map encJ))), (1, .mp (mpJ (dn ++ x :: s.q)))]) (fun s => Iok j x dn [] s ∧ (s.sh = true → s.pre.length + s.q.length ≤ s.cap)) (fun s => (mayQ x 9).length - s.i) ⟨0, [], false, [], 0⟩ ⟨iok_first hx _ _ _, fun h => (by cases h)⟩ ?_ (fun s hs => ?_)
          · dsimp only
            ((repeat' (first|((conv => whnf);done)|((try conv => whnf);first|exact trivial|(refine And.intro ?_ ?_)|rfl|exact fun _ _ _ h=>h|exact fun _ _ _ _=>trivial)));(all_goals (try conv => whnf)))
          · obtain ⟨i, q2, sh2, pre2, cap2⟩ := s
            obtain ⟨hs, hcap2⟩ := hs
            have hf2 := iok_few hs
            have hle := iok_le hs
            dsimp only at hcap2 hf2 hle ⊢
            by_cases hil : i < (mayQ x 9).length
            · have hg := List.getElem?_eq_getElem hil
              generalize (mayQ x 9)[i] = a at *
              obtain ⟨a1, a2⟩ := (may_mem (n := 9)).1 (List.mem_of_getElem? hg)
              have a1' : 1 ≤ a ∧ a ≤ 9 := by omega
              have hdo : ∀ w, Calls Try.prog 21 #[keyJ x, .int .i64 a] w (Sy.Ret (doV (dJ x a)) w) := fun w => ydo_any x a hxo' a1' w
              have hny : nxt x a = ⟨(dJ x a).1, (dJ x a).2.1, (dJ x a).2.2.1⟩ := rfl
              have hhit := fun hm => iok_hit hs hg hm
              have hmiss := fun hm => iok_miss hs hg hm
              rw [hny] at hhit hmiss
              generalize dJ x a = D at *
              obtain ⟨c1, c2, c3, ce⟩ := D
              dsimp only at hhit hmiss
              cases sh2
              · dsimp only
                ((repeat' ((conv => whnf);(first|refine zA ?_|(refine zI ?_ ?_<;> intro hh<;> first|(exfalso;omega)|skip)|(refine zl ?_ ?_<;> intro hh)|refine zq ?_|refine zv ?_|refine zu ?_|exact Sy.fin_val fun e=>rfl)));(all_goals (try conv => whnf)))
                refine Sy.el_map a hg ?_
                ((repeat' ((conv => whnf);(first|refine zA ?_|(refine zI ?_ ?_<;> intro hh<;> first|(exfalso;omega)|skip)|(refine zl ?_ ?_<;> intro hh)|refine zq ?_|refine zv ?_|refine zu ?_|exact Sy.fin_val fun e=>rfl)));(all_goals (try conv => whnf)))
                refine Sy.call_val (.tup [.agg [.v (.int .i64 c1), .v (.int .i64 c2), .v (.int .i64 c3)], .c (.v (.int .i64 ce))]) Try.call21 rfl (fun _ _ w' _ => hdo w') ?_
                ((repeat' ((conv => whnf);(first|refine zA ?_|(refine zI ?_ ?_<;> intro hh<;> first|(exfalso;omega)|skip)|(refine zl ?_ ?_<;> intro hh)|refine zq ?_|refine zv ?_|refine zu ?_|exact Sy.fin_val fun e=>rfl)));(all_goals (try conv => whnf)))
                by_cases hm : (⟨c1, c2, c3⟩ : Jb) ∈ dn ++ x :: q2
                · refine j_hit hm (fun i2 hi2 => ?_)
                  ((repeat' ((conv => whnf);(first|refine zA ?_|(refine zI ?_ ?_<;> intro hh<;> first|(exfalso;omega)|skip)|(refine zl ?_ ?_<;> intro hh)|refine zq ?_|refine zv ?_|refine zu ?_|exact Sy.fin_val fun e=>rfl)));(all_goals (try conv => whnf)))
                  refine ⟨⟨i + 1, q2, false, pre2, cap2⟩, ⟨hhit hm _ _ _, fun h => by cases h⟩, by dsimp only; omega, ?_⟩
                  dsimp only
                  ((repeat' (first|((conv => whnf);done)|((try conv => whnf);first|exact trivial|(refine And.intro ?_ ?_)|rfl|exact fun _ _ _ h=>h|exact fun _ _ _ _=>trivial)));(all_goals (try conv => whnf)))
                · refine j_miss hm ?_
                  ((repeat' ((conv => whnf);(first|refine zA ?_|(refine zI ?_ ?_<;> intro hh<;> first|(exfalso;omega)|skip)|(refine zl ?_ ?_<;> intro hh)|refine zq ?_|refine zv ?_|refine zu ?_|exact Sy.fin_val fun e=>rfl)));(all_goals (try conv => whnf)))
                  refine j_miss hm ?_
                  ((repeat' ((conv => whnf);(first|refine zA ?_|(refine zI ?_ ?_<;> intro hh<;> first|(exfalso;omega)|skip)|(refine zl ?_ ?_<;> intro hh)|refine zq ?_|refine zv ?_|refine zu ?_|exact Sy.fin_val fun e=>rfl)));(all_goals (try conv => whnf)))
                  refine Sy.need_of (by show (q2.length + 1) * 24 ≤ _ ∧ _; omega) ?_
                  ((repeat' ((conv => whnf);(first|refine zA ?_|(refine zI ?_ ?_<;> intro hh<;> first|(exfalso;omega)|skip)|(refine zl ?_ ?_<;> intro hh)|refine zq ?_|refine zv ?_|refine zu ?_|exact Sy.fin_val fun e=>rfl)));(all_goals (try conv => whnf)))
                  have es : q2.map encJ ++ [[Value.int .i64 c1, Value.int .i64 c2, Value.int .i64 c3]] = (q2 ++ [(⟨c1, c2, c3⟩ : Jb)]).map encJ := by rw [List.map_append]; rfl
                  have el : q2.length + 1 = (q2 ++ [(⟨c1, c2, c3⟩ : Jb)]).length := by rw [List.length_append]; rfl
                  have ea : dn ++ x :: q2 ++ [(⟨c1, c2, c3⟩ : Jb)] = dn ++ x :: (q2 ++ [⟨c1, c2, c3⟩]) := by simp
                  refine ⟨⟨i + 1, q2 ++ [⟨c1, c2, c3⟩], false, pre2, cap2⟩, ⟨hmiss hm _ _ _, fun h => by cases h⟩, by dsimp only; omega, ?_⟩
                  dsimp only
                  rw [es, el]
                  ((repeat' (first|((conv => whnf);done)|((try conv => whnf);first|exact trivial|(refine And.intro ?_ ?_)|rfl|exact fun _ _ _ h=>h|exact fun _ _ _ _=>trivial)));(all_goals (try conv => whnf)))
                  all_goals (rw [← ea]; exact mpJ_add _ (⟨c1, c2, c3⟩ : Jb))
              · have hcap2 := hcap2 rfl
                rcases pre2 with _ | ⟨p, pre2⟩
                · dsimp only
                  ((repeat' ((conv => whnf);(first|refine zA ?_|(refine zI ?_ ?_<;> intro hh<;> first|(exfalso;omega)|skip)|(refine zl ?_ ?_<;> intro hh)|refine zq ?_|refine zv ?_|refine zu ?_|exact Sy.fin_val fun e=>rfl)));(all_goals (try conv => whnf)))
                  refine Sy.el_map a hg ?_
                  ((repeat' ((conv => whnf);(first|refine zA ?_|(refine zI ?_ ?_<;> intro hh<;> first|(exfalso;omega)|skip)|(refine zl ?_ ?_<;> intro hh)|refine zq ?_|refine zv ?_|refine zu ?_|exact Sy.fin_val fun e=>rfl)));(all_goals (try conv => whnf)))
                  refine Sy.call_val (.tup [.agg [.v (.int .i64 c1), .v (.int .i64 c2), .v (.int .i64 c3)], .c (.v (.int .i64 ce))]) Try.call21 rfl (fun _ _ w' _ => hdo w') ?_
                  ((repeat' ((conv => whnf);(first|refine zA ?_|(refine zI ?_ ?_<;> intro hh<;> first|(exfalso;omega)|skip)|(refine zl ?_ ?_<;> intro hh)|refine zq ?_|refine zv ?_|refine zu ?_|exact Sy.fin_val fun e=>rfl)));(all_goals (try conv => whnf)))
                  by_cases hm : (⟨c1, c2, c3⟩ : Jb) ∈ dn ++ x :: q2
                  · refine j_hit hm (fun i2 hi2 => ?_)
                    ((repeat' ((conv => whnf);(first|refine zA ?_|(refine zI ?_ ?_<;> intro hh<;> first|(exfalso;omega)|skip)|(refine zl ?_ ?_<;> intro hh)|refine zq ?_|refine zv ?_|refine zu ?_|exact Sy.fin_val fun e=>rfl)));(all_goals (try conv => whnf)))
                    refine ⟨⟨i + 1, q2, true, [], cap2⟩, ⟨hhit hm _ _ _, fun _ => hcap2⟩, by dsimp only; omega, ?_⟩
                    dsimp only
                    ((repeat' (first|((conv => whnf);done)|((try conv => whnf);first|exact trivial|(refine And.intro ?_ ?_)|rfl|exact fun _ _ _ h=>h|exact fun _ _ _ _=>trivial)));(all_goals (try conv => whnf)))
                  · refine j_miss hm ?_
                    ((repeat' ((conv => whnf);(first|refine zA ?_|(refine zI ?_ ?_<;> intro hh<;> first|(exfalso;omega)|skip)|(refine zl ?_ ?_<;> intro hh)|refine zq ?_|refine zv ?_|refine zu ?_|exact Sy.fin_val fun e=>rfl)));(all_goals (try conv => whnf)))
                    refine j_miss hm ?_
                    ((repeat' ((conv => whnf);(first|refine zA ?_|(refine zI ?_ ?_<;> intro hh<;> first|(exfalso;omega)|skip)|(refine zl ?_ ?_<;> intro hh)|refine zq ?_|refine zv ?_|refine zu ?_|exact Sy.fin_val fun e=>rfl)));(all_goals (try conv => whnf)))
                    refine Sy.need_of (by show q2.length ≤ List.length (List.map encJ ([] ++ q2)); rw [List.length_map]; simp) ?_
                    have ea : dn ++ x :: q2 ++ [(⟨c1, c2, c3⟩ : Jb)] = dn ++ x :: (q2 ++ [⟨c1, c2, c3⟩]) := by simp
                    have el : q2.length + 1 = (q2 ++ [(⟨c1, c2, c3⟩ : Jb)]).length := by rw [List.length_append]; rfl
                    ((repeat' ((conv => whnf);(first|refine zA ?_|(refine zI ?_ ?_<;> intro hh<;> first|(exfalso;omega)|skip)|(refine zl ?_ ?_<;> intro hh)|refine zq ?_|refine zv ?_|refine zu ?_|exact Sy.fin_val fun e=>rfl)));(all_goals (try conv => whnf)))
                    · have es : List.take q2.length (List.map encJ ([] ++ q2)) ++ ([[Value.int .i64 c1, Value.int .i64 c2, Value.int .i64 c3]] ++ List.drop (q2.length + 1) (List.map encJ ([] ++ q2))) = ([] ++ (q2 ++ [(⟨c1, c2, c3⟩ : Jb)])).map encJ := by
                        rw [List.nil_append, List.nil_append, put_end (by rw [List.length_map]), List.map_append]; rfl
                      refine ⟨⟨i + 1, q2 ++ [⟨c1, c2, c3⟩], true, [], cap2⟩, ⟨hmiss hm _ _ _, fun _ => by dsimp only; rw [← el]; simp; omega⟩, by dsimp only; omega, ?_⟩
                      dsimp only
                      rw [es, el]
                      ((repeat' (first|((conv => whnf);done)|((try conv => whnf);first|exact trivial|(refine And.intro ?_ ?_)|rfl|exact fun _ _ _ h=>h|exact fun _ _ _ _=>trivial)));(all_goals (try conv => whnf)))
                      all_goals (rw [← ea]; exact mpJ_add _ (⟨c1, c2, c3⟩ : Jb))
                    · refine Sy.need_of (by show (q2.length + 1) * 24 ≤ _ ∧ _; omega) ?_
                      intro cap3 hc3 _
                      conv => whnf
                      ((repeat' ((conv => whnf);(first|refine zA ?_|(refine zI ?_ ?_<;> intro hh<;> first|(exfalso;omega)|skip)|(refine zl ?_ ?_<;> intro hh)|refine zq ?_|refine zv ?_|refine zu ?_|exact Sy.fin_val fun e=>rfl)));(all_goals (try conv => whnf)))
                      have es : List.take q2.length (List.map encJ ([] ++ q2)) ++ [[Value.int .i64 c1, Value.int .i64 c2, Value.int .i64 c3]] = ([] ++ (q2 ++ [(⟨c1, c2, c3⟩ : Jb)])).map encJ := by
                        rw [List.nil_append, List.nil_append, List.take_of_length_le (by rw [List.length_map]; omega), List.map_append]; rfl
                      refine ⟨⟨i + 1, q2 ++ [⟨c1, c2, c3⟩], true, [], cap3⟩, ⟨hmiss hm _ _ _, fun _ => by dsimp only; rw [← el]; simp; omega⟩, by dsimp only; omega, ?_⟩
                      dsimp only
                      rw [es, el]
                      ((repeat' (first|((conv => whnf);done)|((try conv => whnf);first|exact trivial|(refine And.intro ?_ ?_)|rfl|exact fun _ _ _ h=>h|exact fun _ _ _ _=>trivial)));(all_goals (try conv => whnf)))
                      all_goals (rw [← ea]; exact mpJ_add _ (⟨c1, c2, c3⟩ : Jb))
                · dsimp only
                  ((repeat' ((conv => whnf);(first|refine zA ?_|(refine zI ?_ ?_<;> intro hh<;> first|(exfalso;omega)|skip)|(refine zl ?_ ?_<;> intro hh)|refine zq ?_|refine zv ?_|refine zu ?_|exact Sy.fin_val fun e=>rfl)));(all_goals (try conv => whnf)))
                  refine Sy.el_map a hg ?_
                  ((repeat' ((conv => whnf);(first|refine zA ?_|(refine zI ?_ ?_<;> intro hh<;> first|(exfalso;omega)|skip)|(refine zl ?_ ?_<;> intro hh)|refine zq ?_|refine zv ?_|refine zu ?_|exact Sy.fin_val fun e=>rfl)));(all_goals (try conv => whnf)))
                  refine Sy.call_val (.tup [.agg [.v (.int .i64 c1), .v (.int .i64 c2), .v (.int .i64 c3)], .c (.v (.int .i64 ce))]) Try.call21 rfl (fun _ _ w' _ => hdo w') ?_
                  ((repeat' ((conv => whnf);(first|refine zA ?_|(refine zI ?_ ?_<;> intro hh<;> first|(exfalso;omega)|skip)|(refine zl ?_ ?_<;> intro hh)|refine zq ?_|refine zv ?_|refine zu ?_|exact Sy.fin_val fun e=>rfl)));(all_goals (try conv => whnf)))
                  by_cases hm : (⟨c1, c2, c3⟩ : Jb) ∈ dn ++ x :: q2
                  · refine j_hit hm (fun i2 hi2 => ?_)
                    ((repeat' ((conv => whnf);(first|refine zA ?_|(refine zI ?_ ?_<;> intro hh<;> first|(exfalso;omega)|skip)|(refine zl ?_ ?_<;> intro hh)|refine zq ?_|refine zv ?_|refine zu ?_|exact Sy.fin_val fun e=>rfl)));(all_goals (try conv => whnf)))
                    refine ⟨⟨i + 1, q2, true, p :: pre2, cap2⟩, ⟨hhit hm _ _ _, fun _ => hcap2⟩, by dsimp only; omega, ?_⟩
                    dsimp only
                    ((repeat' (first|((conv => whnf);done)|((try conv => whnf);first|exact trivial|(refine And.intro ?_ ?_)|rfl|exact fun _ _ _ h=>h|exact fun _ _ _ _=>trivial)));(all_goals (try conv => whnf)))
                  · refine j_miss hm ?_
                    ((repeat' ((conv => whnf);(first|refine zA ?_|(refine zI ?_ ?_<;> intro hh<;> first|(exfalso;omega)|skip)|(refine zl ?_ ?_<;> intro hh)|refine zq ?_|refine zv ?_|refine zu ?_|exact Sy.fin_val fun e=>rfl)));(all_goals (try conv => whnf)))
                    refine j_miss hm ?_
                    ((repeat' ((conv => whnf);(first|refine zA ?_|(refine zI ?_ ?_<;> intro hh<;> first|(exfalso;omega)|skip)|(refine zl ?_ ?_<;> intro hh)|refine zq ?_|refine zv ?_|refine zu ?_|exact Sy.fin_val fun e=>rfl)));(all_goals (try conv => whnf)))
                    refine Sy.need_of (by show pre2.length + 1 + q2.length ≤ List.length (List.map encJ (p :: pre2 ++ q2)); rw [List.length_map]; simp; omega) ?_
                    have ea : dn ++ x :: q2 ++ [(⟨c1, c2, c3⟩ : Jb)] = dn ++ x :: (q2 ++ [⟨c1, c2, c3⟩]) := by simp
                    have el : q2.length + 1 = (q2 ++ [(⟨c1, c2, c3⟩ : Jb)]).length := by rw [List.length_append]; rfl
                    ((repeat' ((conv => whnf);(first|refine zA ?_|(refine zI ?_ ?_<;> intro hh<;> first|(exfalso;omega)|skip)|(refine zl ?_ ?_<;> intro hh)|refine zq ?_|refine zv ?_|refine zu ?_|exact Sy.fin_val fun e=>rfl)));(all_goals (try conv => whnf)))
                    · have es : List.take (pre2.length + 1 + q2.length) (List.map encJ (p :: pre2 ++ q2)) ++ ([[Value.int .i64 c1, Value.int .i64 c2, Value.int .i64 c3]] ++ List.drop (pre2.length + 1 + q2.length + 1) (List.map encJ (p :: pre2 ++ q2))) = (p :: pre2 ++ (q2 ++ [(⟨c1, c2, c3⟩ : Jb)])).map encJ := by
                        rw [put_end (by rw [List.length_map]; simp; omega), ← List.append_assoc, List.map_append (l₁ := p :: pre2 ++ q2)]; rfl
                      have hcl : (p :: pre2).length = pre2.length + 1 := rfl
                      rw [hcl] at hcap2
                      refine ⟨⟨i + 1, q2 ++ [⟨c1, c2, c3⟩], true, p :: pre2, cap2⟩, ⟨hmiss hm _ _ _, fun _ => by dsimp only; rw [← el, hcl]; omega⟩, by dsimp only; omega, ?_⟩
                      dsimp only
                      rw [es, el]
                      ((repeat' (first|((conv => whnf);done)|((try conv => whnf);first|exact trivial|(refine And.intro ?_ ?_)|rfl|exact fun _ _ _ h=>h|exact fun _ _ _ _=>trivial)));(all_goals (try conv => whnf)))
                      all_goals (rw [← ea]; exact mpJ_add _ (⟨c1, c2, c3⟩ : Jb))
                    · refine Sy.need_of (by show (q2.length + 1) * 24 ≤ _ ∧ _; omega) ?_
                      intro cap3 hc3 _
                      conv => whnf
                      ((repeat' ((conv => whnf);(first|refine zA ?_|(refine zI ?_ ?_<;> intro hh<;> first|(exfalso;omega)|skip)|(refine zl ?_ ?_<;> intro hh)|refine zq ?_|refine zv ?_|refine zu ?_|exact Sy.fin_val fun e=>rfl)));(all_goals (try conv => whnf)))
                      have es : List.take q2.length (List.drop (pre2.length + 1) (List.map encJ (p :: pre2 ++ q2))) ++ [[Value.int .i64 c1, Value.int .i64 c2, Value.int .i64 c3]] = ([] ++ (q2 ++ [(⟨c1, c2, c3⟩ : Jb)])).map encJ := by
                        rw [← List.map_drop, show (p :: pre2 ++ q2).drop (pre2.length + 1) = q2 from List.drop_left' (l₁ := p :: pre2) rfl, List.nil_append, List.take_of_length_le (by rw [List.length_map]; omega), List.map_append]; rfl
                      refine ⟨⟨i + 1, q2 ++ [⟨c1, c2, c3⟩], true, [], cap3⟩, ⟨hmiss hm _ _ _, fun _ => by dsimp only; rw [← el]; simp; omega⟩, by dsimp only; omega, ?_⟩
                      dsimp only
                      rw [es, el]
                      ((repeat' (first|((conv => whnf);done)|((try conv => whnf);first|exact trivial|(refine And.intro ?_ ?_)|rfl|exact fun _ _ _ h=>h|exact fun _ _ _ _=>trivial)));(all_goals (try conv => whnf)))
                      all_goals (rw [← ea]; exact mpJ_add _ (⟨c1, c2, c3⟩ : Jb))
            · have e : i = (mayQ x 9).length := by omega
              have hend := iok_end hx hs e
              cases sh2
              all_goals
                dsimp only
                ((repeat' ((conv => whnf);(first|refine zA ?_|(refine zI ?_ ?_<;> intro hh<;> first|(exfalso;omega)|skip)|(refine zl ?_ ?_<;> intro hh)|refine zq ?_|refine zv ?_|refine zu ?_|exact Sy.fin_val fun e=>rfl)));(all_goals (try conv => whnf)))
              · refine ⟨⟨dn ++ [x], q2, false, pre2, cap2⟩, ⟨hend, fun h => by cases h⟩, by dsimp only; rw [List.length_append, List.length_singleton]; omega, ?_⟩
                have e2 : dn ++ [x] ++ q2 = dn ++ x :: q2 := by simp
                dsimp only
                rw [e2]
                ((repeat' (first|((conv => whnf);done)|((try conv => whnf);first|exact trivial|(refine And.intro ?_ ?_)|rfl|exact fun _ _ _ h=>h|exact fun _ _ _ _=>trivial)));(all_goals (try conv => whnf)))
              · refine ⟨⟨dn ++ [x], q2, true, pre2, cap2⟩, ⟨hend, hcap2⟩, by dsimp only; rw [List.length_append, List.length_singleton]; omega, ?_⟩
                have e2 : dn ++ [x] ++ q2 = dn ++ x :: q2 := by simp
                dsimp only
                rw [e2]
                ((repeat' (first|((conv => whnf);done)|((try conv => whnf);first|exact trivial|(refine And.intro ?_ ?_)|rfl|exact fun _ _ _ h=>h|exact fun _ _ _ _=>trivial)));(all_goals (try conv => whnf)))
end Go.Proofs.Ytbajgjbgkpcapaa
