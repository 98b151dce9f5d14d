/- Region: the document's Anew. -/
import Derived.Test.YthmcknchkecciaaRK
namespace Go.Proofs.Ythmcknchkecciaa
open Go Go.RowKit
open Sy (C SV V1 Blk St XD Els)
set_option maxRecDepth 10000

theorem pick_mem {p : Nat × Nat → Bool} {l : List (Nat × Nat)} {x : Int} : x ∈ pick p l ↔ ∃ j : Nat, ∃ c, l[j]? = some c ∧ p c = true ∧ x = (j : Int) := by
  unfold pick
  rw [List.mem_map]
  constructor
  · rintro ⟨j, hj, rfl⟩
    rw [List.mem_filter] at hj
    obtain ⟨h1, h2⟩ := hj
    have h3 := List.getElem?_eq_getElem (List.mem_range.1 h1)
    rw [h3] at h2
    exact ⟨j, _, h3, h2, rfl⟩
  · rintro ⟨j, c, hj, hp, rfl⟩
    refine ⟨j, ?_, rfl⟩
    rw [List.mem_filter]
    refine ⟨List.mem_range.2 (List.getElem?_eq_some_iff.1 hj).1, ?_⟩
    rw [hj]; exact hp
theorem pick_strict (p : Nat × Nat → Bool) (l : List (Nat × Nat)) : strict (pick p l) := by
  unfold pick strict
  rw [List.pairwise_map]
  exact ((List.pairwise_lt_range (n := l.length)).filter _).imp fun h => by omega
theorem tasksL_mem {g : List Opr} {S : List Int} {x : Int} : x ∈ tasksL g S ↔ ∃ j : Nat, ∃ s, (subsL g)[j]? = some s ∧ (s.1 : Int) ∈ S ∧ x = (j : Int) := by
  unfold tasksL
  rw [pick_mem]
  unfold inOps
  simp only [decide_eq_true_eq]
theorem tasksL_strict (g : List Opr) (S : List Int) : strict (tasksL g S) := pick_strict _ _
theorem tasksL_in {g : List Opr} {S : List Int} {x : Int} (h : x ∈ tasksL g S) : 0 ≤ x ∧ x < ((subsL g).length : Int) := by
  obtain ⟨j, s, hj, _, rfl⟩ := tasksL_mem.1 h
  have := (List.getElem?_eq_some_iff.1 hj).1
  omega
theorem tasksL_okS (g : List Opr) (S : List Int) : OkS (subsL g).length (tasksL g S) := ⟨tasksL_strict g S, fun _ h => tasksL_in h⟩
def insAll (S xs : List Int) : List Int := xs.foldl insL S
theorem insAll_app (S xs ys : List Int) : insAll S (xs ++ ys) = insAll (insAll S xs) ys := List.foldl_append
theorem insAll_one (S : List Int) (x : Int) : insAll S [x] = insL S x := rfl
theorem insAll_mem (S xs : List Int) (y : Int) : y ∈ insAll S xs ↔ y ∈ S ∨ y ∈ xs := by
  induction xs generalizing S with
  | nil => simp [insAll]
  | cons x xs ih =>
    show y ∈ insAll (insL S x) xs ↔ _
    rw [ih, insL_mem, List.mem_cons]
    constructor
    · rintro ((h | h) | h)
      · exact .inr (.inl h)
      · exact .inl h
      · exact .inr (.inr h)
    · rintro (h | h | h)
      · exact .inl (.inr h)
      · exact .inl (.inl h)
      · exact .inr h
theorem insAll_okS {N : Nat} {S xs : List Int} (h : OkS N S) (hx : ∀ x ∈ xs, 0 ≤ x ∧ x < (N : Int)) : OkS N (insAll S xs) := by
  induction xs generalizing S with
  | nil => exact h
  | cons x xs ih => exact ih (S := insL S x) (h.ins (hx x List.mem_cons_self).1 (hx x List.mem_cons_self).2) fun y hy => hx y (List.mem_cons_of_mem _ hy)
def flatF (f : Int → List Int) (l : List Int) : List Int := (l.map f).flatten
theorem flatF_succ (f : Int → List Int) {l : List Int} {m : Nat} {t : Int} (h : l[m]? = some t) : flatF f (l.take (m + 1)) = flatF f (l.take m) ++ f t := by
  obtain ⟨hn, he⟩ := List.getElem?_eq_some_iff.1 h
  unfold flatF
  rw [List.take_succ_eq_append_getElem hn, he, List.map_append, List.flatten_append]
  simp
theorem flatF_mem {f : Int → List Int} {l : List Int} {x : Int} : x ∈ flatF f l ↔ ∃ t ∈ l, x ∈ f t := by
  unfold flatF
  rw [List.mem_flatten]
  constructor
  · rintro ⟨s, hs, hx⟩
    obtain ⟨t, ht, rfl⟩ := List.mem_map.1 hs
    exact ⟨t, ht, hx⟩
  · rintro ⟨t, ht, hx⟩
    exact ⟨f t, List.mem_map.2 ⟨t, ht, rfl⟩, hx⟩
def opTasks (g : List Opr) (k : Int) : List Int := tasksL g [k]
def fellTasks (g : List Opr) (t : Int) : List Int := flatF (opTasks g) (ofL g (opV g t).1)
theorem opTasks_in {g : List Opr} {k x : Int} (h : x ∈ opTasks g k) : 0 ≤ x ∧ x < ((subsL g).length : Int) := tasksL_in h
theorem fell_in {g : List Opr} {t x : Int} (h : x ∈ fellTasks g t) : 0 ≤ x ∧ x < ((subsL g).length : Int) := by
  obtain ⟨k, _, hk⟩ := flatF_mem.1 h
  exact opTasks_in hk
theorem anew_same (g : List Opr) (l : List Int) : insAll [] (flatF (fellTasks g) l) = tasksL g (opsC g l) := by
  have h1 : OkS (subsL g).length (insAll [] (flatF (fellTasks g) l)) := insAll_okS ⟨List.Pairwise.nil, fun x hx => by cases hx⟩ fun x hx => by
    obtain ⟨t, _, ht⟩ := flatF_mem.1 hx
    exact fell_in ht
  refine strict_ext h1.1 (tasksL_strict _ _) fun x => ?_
  rw [insAll_mem, flatF_mem]
  constructor
  · rintro (h | ⟨t, ht, hx⟩)
    · cases h
    · obtain ⟨k, hk, hx⟩ := flatF_mem.1 hx
      obtain ⟨j, s, hj, hs, rfl⟩ := tasksL_mem.1 hx
      refine tasksL_mem.2 ⟨j, s, hj, ?_, rfl⟩
      rw [List.mem_singleton.1 hs]
      exact List.mem_flatten.2 ⟨_, List.mem_map.2 ⟨t, ht, rfl⟩, hk⟩
  · intro hx
    obtain ⟨j, s, hj, hs, rfl⟩ := tasksL_mem.1 hx
    obtain ⟨r, hr, hs⟩ := List.mem_flatten.1 hs
    obtain ⟨t, ht, rfl⟩ := List.mem_map.1 hr
    exact .inr ⟨t, ht, flatF_mem.2 ⟨_, hs, tasksL_mem.2 ⟨j, s, hj, List.mem_singleton.2 rfl, rfl⟩⟩⟩
theorem ofL_lt {g : List Opr} {op : Nat} {k : Int} (h : k ∈ ofL g op) : 0 ≤ k ∧ k < (g.length : Int) := by
  unfold ofL at h
  exact natsTo_mem.1 (List.mem_filter.1 h).1
attribute [local irreducible] checkV regOf subN pick taskN subC ofL tasksL subtasks askE opV opsC thereB tasksV ofV ropV insAll opTasks fellTasks
set_option maxHeartbeats 4000000 in
theorem ranew_any (v u : Value) (gl : List OpV) (l : List Int) (w : World) (hr : GOk (fun b => b < w.heap.size) w v gl) (hu : XD.ok (fun b => b < w.heap.size) w ⟨u, 1, l.length, l.map encI⟩) (h0 : (checkV (opsOf gl)).2 = 0) :
    Calls Try.prog 19 #[.agg #[v], u] w (Sy.RetRows Sy.noRow (fun _ : Unit => True) (fun _ => [⟨3, 1, (anewV (opsOf gl) l).length, (anewV (opsOf gl) l).map encI⟩]) (fun _ vs => .tuple #[vs.headD undef, .bool (thereB (opsOf gl) l)]) w) := by
  have hol := opsOf_len gl
  have h8 := check_ok h0
  have hg := check_good h0
  have hg' := hg
  rw [hol] at h8 hg
  have hsa := subs_all h0
  have hll := ok_len hu
  have hN : (subsL (opsOf gl)).length ≤ 24 := by
    have := (subN_le (g := opsOf gl) (opsOf gl).length hg' (Nat.le_refl _)).2
    show (subN (opsOf gl) (opsOf gl).length 0).length ≤ 24
    omega
  refine Sy.calls_of Sy.lv19 Sy.tab_ok Try.func19 rfl _ Try.ntmps19 [⟨v, 5, gl.length, gl.map encOV⟩, ⟨u, 1, l.length, l.map encI⟩] [.agg [.row 0], .c (.row 1)] rfl rfl rfl ⟨hr.1, hu, trivial⟩ ?_
  ((repeat' ((conv => whnf);(first|refine zA ?_|(refine zI ?_ ?_<;> intro hh<;> first|(exfalso;omega)|skip)|(refine zl ?_ ?_<;> intro hh)|refine zq ?_|refine zv ?_|exact Sy.fin_val fun e=>rfl)));(all_goals (try conv => whnf)))
  refine Sy.sem_subF (Sy.sub_row 6 3 1 rfl) ?_
  conv => whnf
  refine Sy.loop_inv Sy.tab_ok (fun m : Nat => [(17, .c (.v (.int .i64 m))), (6, .c (.row 3))]) (fun m => [(3, .row 3 1 (insAll [] (flatF (fellTasks (opsOf gl)) (l.take m))).length (.vs ((insAll [] (flatF (fellTasks (opsOf gl)) (l.take m))).map encI)))]) (fun m => m ≤ l.length ∧ ∀ i, i < m → ∀ t, l[i]? = some t → 0 ≤ t ∧ t < subtasks (opsOf gl)) (fun m => l.length - m) 0 ⟨Nat.zero_le _, fun i hi => absurd hi (Nat.not_lt_zero _)⟩ ?_ (fun m hm => ?_)
  · rw [show insAll [] (flatF (fellTasks (opsOf gl)) (l.take 0)) = [] by unfold insAll; rfl]
    ((repeat' (first|((conv => whnf);done)|((try conv => whnf);first|exact trivial|(refine And.intro ?_ ?_)|rfl|exact fun _ _ _ h=>h|exact fun _ _ _ _=>trivial)));(all_goals (try conv => whnf)))
  · obtain ⟨hm, hall⟩ := hm
    have hok : OkS (subsL (opsOf gl)).length (insAll [] (flatF (fellTasks (opsOf gl)) (l.take m))) := insAll_okS ⟨List.Pairwise.nil, fun x hx => by cases hx⟩ fun x hx => by
      obtain ⟨t, _, ht⟩ := flatF_mem.1 hx
      exact fell_in ht
    ((repeat' ((conv => whnf);(first|refine zA ?_|(refine zI ?_ ?_<;> intro hh<;> first|(exfalso;omega)|skip)|(refine zl ?_ ?_<;> intro hh)|refine zq ?_|refine zv ?_|exact Sy.fin_val fun e=>rfl)));(all_goals (try conv => whnf)))
    · have hlt : m < l.length := by omega
      have hg1 := List.getElem?_eq_getElem hlt
      generalize l[m] = t at *
      have hs := flatF_succ (fellTasks (opsOf gl)) hg1
      refine Sy.el_map t hg1 ?_
      ((repeat' ((conv => whnf);(first|refine zA ?_|(refine zI ?_ ?_<;> intro hh<;> first|(exfalso;omega)|skip)|(refine zl ?_ ?_<;> intro hh)|refine zq ?_|refine zv ?_|exact Sy.fin_val fun e=>rfl)));(all_goals (try conv => whnf)))
      by_cases ha : askE (opsOf gl) t (subtasks (opsOf gl)) = 0
      · have hlo := (opV_lt ha).1
        have hrp : ropV (opsOf gl) t = (((opV (opsOf gl) t).1 : Int), ((opV (opsOf gl) t).2 : Int)) := by unfold ropV; rw [if_pos ha]
        refine Sy.call_val (.tup [.c (.v (.int .i64 (opV (opsOf gl) t).1)), .c (.v (.int .i64 (opV (opsOf gl) t).2))]) Try.call32 rfl (fun e a w' h => by have := rop_any (e.rv 0) gl t w' ⟨Sy.row_reads h (.inr rfl), fun o ho => Sy.later_in h (hr.2 o ho)⟩ h0; rw [hrp] at this; exact this) ?_
        ((repeat' ((conv => whnf);(first|refine zA ?_|(refine zI ?_ ?_<;> intro hh<;> first|(exfalso;omega)|skip)|(refine zl ?_ ?_<;> intro hh)|refine zq ?_|refine zv ?_|exact Sy.fin_val fun e=>rfl)));(all_goals (try conv => whnf)))
        refine Sy.call_r1 ⟨3, 1, (ofL (opsOf gl) (opV (opsOf gl) t).1).length, (ofL (opsOf gl) (opV (opsOf gl) t).1).map encI⟩ (fun j => .c (.row j)) Try.call30 (fun e a w' h => rof_any (e.rv 0) gl (opV (opsOf gl) t).1 w' ⟨Sy.row_reads h (.inr rfl), fun o ho => Sy.later_in h (hr.2 o ho)⟩ (by omega) hg (by omega)) ?_
        ((repeat' ((conv => whnf);(first|refine zA ?_|(refine zI ?_ ?_<;> intro hh<;> first|(exfalso;omega)|skip)|(refine zl ?_ ?_<;> intro hh)|refine zq ?_|refine zv ?_|exact Sy.fin_val fun e=>rfl)));(all_goals (try conv => whnf)))
        obtain ⟨S, hS⟩ : ∃ S, S = insAll [] (flatF (fellTasks (opsOf gl)) (l.take m)) := ⟨_, rfl⟩
        have hnx : insAll [] (flatF (fellTasks (opsOf gl)) (l.take (m + 1))) = insAll S (flatF (opTasks (opsOf gl)) (ofL (opsOf gl) (opV (opsOf gl) t).1)) := by
          rw [hs, insAll_app, ← hS]
          unfold fellTasks
          rfl
        rw [← hS] at hok ⊢
        obtain ⟨L, hL⟩ : ∃ L, L = ofL (opsOf gl) (opV (opsOf gl) t).1 := ⟨_, rfl⟩
        have hLm : ∀ x ∈ L, 0 ≤ x ∧ x < ((opsOf gl).length : Int) := fun x hx => ofL_lt (op := (opV (opsOf gl) t).1) (by rw [← hL]; exact hx)
        rw [← hL] at hnx ⊢
        have hLl : L.length ≤ 8 := by
          have := ofL_len (opsOf gl) (opV (opsOf gl) t).1
          rw [← hL, hol] at this
          omega
        refine Sy.loop_inv Sy.tab_ok (fun k : Nat => [(33, .c (.v (.int .i64 k))), (6, .c (.row 3))]) (fun k => [(3, .row 3 1 (insAll S (flatF (opTasks (opsOf gl)) (L.take k))).length (.vs ((insAll S (flatF (opTasks (opsOf gl)) (L.take k))).map encI)))]) (fun k => k ≤ L.length) (fun k => L.length - k) 0 (Nat.zero_le _) ?_ (fun k hk => ?_)
        · rw [show insAll S (flatF (opTasks (opsOf gl)) (L.take 0)) = S by unfold insAll; rfl]
          ((repeat' (first|((conv => whnf);done)|((try conv => whnf);first|exact trivial|(refine And.intro ?_ ?_)|rfl|exact fun _ _ _ h=>h|exact fun _ _ _ _=>trivial)));(all_goals (try conv => whnf)))
        · have hok2 : OkS (subsL (opsOf gl)).length (insAll S (flatF (opTasks (opsOf gl)) (L.take k))) := insAll_okS hok fun x hx => by
            obtain ⟨t, _, ht⟩ := flatF_mem.1 hx
            exact opTasks_in ht
          ((repeat' ((conv => whnf);(first|refine zA ?_|(refine zI ?_ ?_<;> intro hh<;> first|(exfalso;omega)|skip)|(refine zl ?_ ?_<;> intro hh)|refine zq ?_|refine zv ?_|exact Sy.fin_val fun e=>rfl)));(all_goals (try conv => whnf)))
          · have hlk : k < L.length := by omega
            have hgk := List.getElem?_eq_getElem hlk
            have hkb : 0 ≤ L[k] ∧ L[k] < ((opsOf gl).length : Int) := hLm _ (List.getElem_mem hlk)
            generalize L[k] = x at *
            have hs2 := flatF_succ (opTasks (opsOf gl)) hgk
            refine Sy.el_map x hgk ?_
            obtain ⟨n, rfl⟩ : ∃ n : Nat, x = (n : Int) := ⟨x.toNat, by omega⟩
            ((repeat' ((conv => whnf);(first|refine zA ?_|(refine zI ?_ ?_<;> intro hh<;> first|(exfalso;omega)|skip)|(refine zl ?_ ?_<;> intro hh)|refine zq ?_|refine zv ?_|exact Sy.fin_val fun e=>rfl)));(all_goals (try conv => whnf)))
            refine Sy.call_r1 ⟨3, 1, (opTasks (opsOf gl) (n : Int)).length, (opTasks (opsOf gl) (n : Int)).map encI⟩ (fun j => .c (.row j)) Try.call31 (fun e a w' h => by
              have := rtasks_any (e.rv 0) gl n w' ⟨Sy.row_reads h (.inr rfl), fun o ho => Sy.later_in h (hr.2 o ho)⟩ (by omega) hg (by omega)
              rw [show opTasks (opsOf gl) (n : Int) = tasksL (opsOf gl) [(n : Int)] by unfold opTasks; rfl]
              exact this) ?_
            ((repeat' ((conv => whnf);(first|refine zA ?_|(refine zI ?_ ?_<;> intro hh<;> first|(exfalso;omega)|skip)|(refine zl ?_ ?_<;> intro hh)|refine zq ?_|refine zv ?_|exact Sy.fin_val fun e=>rfl)));(all_goals (try conv => whnf)))
            obtain ⟨T, hT⟩ : ∃ T, T = insAll S (flatF (opTasks (opsOf gl)) (L.take k)) := ⟨_, rfl⟩
            have hin : ∀ x ∈ opTasks (opsOf gl) (n : Int), 0 ≤ x ∧ x < ((subsL (opsOf gl)).length : Int) := fun x hx => opTasks_in hx
            have hnx2 : insAll S (flatF (opTasks (opsOf gl)) (L.take (k + 1))) = insAll T (opTasks (opsOf gl) (n : Int)) := by rw [hs2, insAll_app, ← hT]
            rw [← hT] at hok2 ⊢
            obtain ⟨U, hU⟩ : ∃ U, U = opTasks (opsOf gl) (n : Int) := ⟨_, rfl⟩
            have hUl : U.length ≤ 24 := by
              have := (tasksL_okS (opsOf gl) [(n : Int)]).len
              rw [hU]
              unfold opTasks
              omega
            rw [← hU] at hnx2 hin ⊢
            refine Sy.loop_inv Sy.tab_ok (fun q : Nat => [(41, .c (.v (.int .i64 q))), (6, .c (.row 3))]) (fun q => [(3, .row 3 1 (insAll T (U.take q)).length (.vs ((insAll T (U.take q)).map encI)))]) (fun q => q ≤ U.length) (fun q => U.length - q) 0 (Nat.zero_le _) ?_ (fun q hq => ?_)
            · rw [show insAll T (U.take 0) = T by unfold insAll; rfl]
              ((repeat' (first|((conv => whnf);done)|((try conv => whnf);first|exact trivial|(refine And.intro ?_ ?_)|rfl|exact fun _ _ _ h=>h|exact fun _ _ _ _=>trivial)));(all_goals (try conv => whnf)))
            · have hok3 : OkS (subsL (opsOf gl)).length (insAll T (U.take q)) := insAll_okS hok2 fun x hx => hin x (List.mem_of_mem_take hx)
              have hl3 := hok3.len
              ((repeat' ((conv => whnf);(first|refine zA ?_|(refine zI ?_ ?_<;> intro hh<;> first|(exfalso;omega)|skip)|(refine zl ?_ ?_<;> intro hh)|refine zq ?_|refine zv ?_|exact Sy.fin_val fun e=>rfl)));(all_goals (try conv => whnf)))
              · have hlq : q < U.length := by omega
                have hgq := List.getElem?_eq_getElem hlq
                have hs3 : insAll T (U.take (q + 1)) = insL (insAll T (U.take q)) U[q] := by rw [List.take_succ_eq_append_getElem hlq, insAll_app, insAll_one]
                generalize U[q] = y at *
                refine Sy.el_map y hgq ?_
                ((repeat' ((conv => whnf);(first|refine zA ?_|(refine zI ?_ ?_<;> intro hh<;> first|(exfalso;omega)|skip)|(refine zl ?_ ?_<;> intro hh)|refine zq ?_|refine zv ?_|exact Sy.fin_val fun e=>rfl)));(all_goals (try conv => whnf)))
                refine Sy.call_r1 ⟨3, 1, (insAll T (U.take (q + 1))).length, (insAll T (U.take (q + 1))).map encI⟩ (fun j => .c (.row j)) Try.call42 (fun e a w' h => by
                  have := with_any (e.rv 3) (insAll T (U.take q)) y w' (Sy.row_reads h (.inl ⟨_, rfl⟩)) hok3.1 (by omega)
                  rw [hs3]
                  exact this) ?_
                ((repeat' ((conv => whnf);(first|refine zA ?_|(refine zI ?_ ?_<;> intro hh<;> first|(exfalso;omega)|skip)|(refine zl ?_ ?_<;> intro hh)|refine zq ?_|refine zv ?_|exact Sy.fin_val fun e=>rfl)));(all_goals (try conv => whnf)))
                refine ⟨q + 1, by omega, by omega, ?_⟩
                ((repeat' (first|((conv => whnf);done)|((try conv => whnf);first|exact trivial|(refine And.intro ?_ ?_)|rfl|exact fun _ _ _ h=>h|exact fun _ _ _ _=>trivial)));(all_goals (try conv => whnf)))
              · have e : q = U.length := by omega
                subst e
                rw [List.take_length]
                refine ⟨k + 1, by omega, by omega, ?_⟩
                rw [hnx2]
                ((repeat' (first|((conv => whnf);done)|((try conv => whnf);first|exact trivial|(refine And.intro ?_ ?_)|rfl|exact fun _ _ _ h=>h|exact fun _ _ _ _=>trivial)));(all_goals (try conv => whnf)))
          · have e : k = L.length := by omega
            subst e
            rw [List.take_length]
            refine ⟨m + 1, ⟨by omega, fun i hi t' ht' => ?_⟩, by omega, ?_⟩
            · by_cases e : i = m
              · subst e
                rw [hg1] at ht'
                cases ht'
                exact (askE_ok ha).2
              · exact hall i (by omega) t' ht'
            · rw [hnx]
              ((repeat' (first|((conv => whnf);done)|((try conv => whnf);first|exact trivial|(refine And.intro ?_ ?_)|rfl|exact fun _ _ _ h=>h|exact fun _ _ _ _=>trivial)));(all_goals (try conv => whnf)))
      · have hrp : ropV (opsOf gl) t = (-1, -1) := by unfold ropV; rw [if_neg ha]
        refine Sy.call_val (.tup [.c (.v (.int .i64 (-1))), .c (.v (.int .i64 (-1)))]) Try.call32 rfl (fun e a w' h => by have := rop_any (e.rv 0) gl t w' ⟨Sy.row_reads h (.inr rfl), fun o ho => Sy.later_in h (hr.2 o ho)⟩ h0; rw [hrp] at this; exact this) ?_
        ((repeat' ((conv => whnf);(first|refine zA ?_|(refine zI ?_ ?_<;> intro hh<;> first|(exfalso;omega)|skip)|(refine zl ?_ ?_<;> intro hh)|refine zq ?_|refine zv ?_|exact Sy.fin_val fun e=>rfl)));(all_goals (try conv => whnf)))
        have hno : ¬ (0 ≤ t ∧ t < subtasks (opsOf gl)) := fun hh => ha (by unfold askE; rw [if_pos h0, if_neg (by omega)])
        have hth : thereB (opsOf gl) l = false := by
          unfold thereB
          rw [List.all_eq_false]
          exact ⟨t, List.mem_of_getElem? hg1, by simpa using fun a => by omega⟩
        have hv : anewE (opsOf gl) l = 2 := by unfold anewE; rw [if_pos h0, if_neg (by rw [hth]; simp)]
        have hv2 : anewV (opsOf gl) l = [] := by unfold anewV; rw [hv, if_neg (by decide)]
        rw [hth, hv2]
        exact Sy.fin_r1 (.v (.slice none 0 0)) ⟨rfl, rfl⟩
    · have e : m = l.length := by omega
      subst e
      have hth : thereB (opsOf gl) l = true := by
        unfold thereB
        rw [List.all_eq_true]
        intro t ht
        obtain ⟨i, hi⟩ := List.getElem?_of_mem ht
        exact decide_eq_true (hall i (List.getElem?_eq_some_iff.1 hi).1 t hi)
      have hv : anewE (opsOf gl) l = 0 := by unfold anewE; rw [if_pos h0, if_pos hth]
      have hv2 : anewV (opsOf gl) l = insAll [] (flatF (fellTasks (opsOf gl)) (l.take l.length)) := by unfold anewV; rw [if_pos hv, List.take_length]; exact (anew_same (opsOf gl) l).symm
      rw [hth, hv2]
      exact Sy.fin_r1 (.row 3) rfl
end Go.Proofs.Ythmcknchkecciaa
