/- Snap: the document's put, Get, Join. -/
import Derived.Test.YtmahldelmbhjfaaSnT
import Derived.Test.YtmahldelmbhjfaaDrawB
namespace Go.Proofs.Ytmahldelmbhjfaa
open Go Go.RowKit
open Sy (C SV V1 Blk St XD Els yt yt1 yd1 yw)
set_option maxRecDepth 10000

/-- A cell of a key: that of the row whose key it is. -/
def getK (l : List Kc) (s k : Int) : Int × Int := match l.find? (fun y => decide (y.src = s ∧ y.key = k)) with
  | some y => (y.cnt, y.sum)
  | none => (0, 0)
theorem getK_hit {l : List Kc} {n : Nat} {s k : Int} {x : Kc} (hno : ∀ y ∈ l.take n, ¬ (y.src = s ∧ y.key = k)) (hx : l[n]? = some x) (h : x.src = s ∧ x.key = k) : getK l s k = (x.cnt, x.sum) := by
  obtain ⟨hn, he⟩ := List.getElem?_eq_some_iff.1 hx
  have : l.find? (fun y => decide (y.src = s ∧ y.key = k)) = some x := by
    conv => lhs; rw [← List.take_append_drop n l]
    rw [List.find?_append, List.find?_eq_none.2 (fun y hy => by simpa using hno y hy), List.drop_eq_getElem_cons hn, he, Option.none_or, List.find?_cons_of_pos (by simpa using h)]
  unfold getK
  rw [this]
theorem getK_miss {l : List Kc} {s k : Int} (hno : ∀ y ∈ l, ¬ (y.src = s ∧ y.key = k)) : getK l s k = (0, 0) := by
  unfold getK
  rw [List.find?_eq_none.2 (fun y hy => by simpa using hno y hy)]
set_option maxHeartbeats 2000000 in
theorem rget_any (v : Value) (l : List Kc) (s k x : Int) (w : World) (hr : XD.ok (fun b => b < w.heap.size) w ⟨v, 4, l.length, l.map encK⟩) :
    Calls Try.prog 94 #[.agg #[v], .agg #[.int .i64 s, .int .i64 k, .int .i64 x]] w (Sy.Ret (.agg #[.int .i64 (getK l s k).1, .int .i64 (getK l s k).2]) w) := by
  have hl := ok_len hr
  refine Sy.calls_of Sy.lv94 Sy.tab_ok Try.func94 rfl _ Try.ntmps94 [⟨v, 4, l.length, l.map encK⟩] [.agg [.row 0], .agg [.v (.int .i64 s), .v (.int .i64 k), .v (.int .i64 x)]] rfl rfl rfl ⟨hr, trivial⟩ ?_
  ((repeat' ((conv => whnf);(first|refine zA ?_|(refine zI ?_ ?_<;> intro hh<;> first|(exfalso;omega)|skip)|(refine zl ?_ ?_<;> intro hh)|refine zq ?_|refine zv ?_|refine zu ?_|exact Sy.fin_val fun e=>rfl)));(all_goals (try conv => whnf)))
  refine Sy.loop_inv Sy.tab_ok (fun n : Nat => [(10, .c (.v (.int .i64 n)))]) (fun _ => []) (fun n => n ≤ l.length ∧ ∀ y ∈ l.take n, ¬ (y.src = s ∧ y.key = k)) (fun n => l.length - n) 0 ⟨Nat.zero_le _, fun y hy => by rw [List.take_zero] at hy; cases hy⟩ ?_ (fun n hn => ?_)
  · ((repeat' (first|((conv => whnf);done)|((try conv => whnf);first|exact trivial|(refine And.intro ?_ ?_)|rfl|exact fun _ _ _ h=>h|exact fun _ _ _ _=>trivial)));(all_goals (try conv => whnf)))
  · obtain ⟨hn, hno⟩ := hn
    by_cases hlt : n < l.length
    · have hg := List.getElem?_eq_getElem hlt
      have hsn : l.take (n + 1) = l.take n ++ [l[n]] := List.take_succ_eq_append_getElem hlt
      generalize l[n] = y at *
      by_cases he : y.src = s ∧ y.key = k
      · rw [getK_hit hno hg he]
        obtain ⟨e1, e2⟩ := he
        ((repeat' ((conv => whnf);(first|refine zA ?_|(refine zI ?_ ?_<;> intro hh<;> first|(exfalso;omega)|skip)|(refine zl ?_ ?_<;> intro hh)|refine zq ?_|refine zv ?_|refine zu ?_|exact Sy.fin_val fun e=>rfl)));(all_goals (try conv => whnf)))
        refine Sy.el_map y hg ?_
        ((repeat' ((conv => whnf);(first|refine zA ?_|(refine zI ?_ ?_<;> intro hh<;> first|(exfalso;omega)|skip)|(refine zl ?_ ?_<;> intro hh)|refine zq ?_|refine zv ?_|refine zu ?_|exact Sy.fin_val fun e=>rfl)));(all_goals (try conv => whnf)))
        done
      · ((repeat' ((conv => whnf);(first|refine zA ?_|(refine zI ?_ ?_<;> intro hh<;> first|(exfalso;omega)|skip)|(refine zl ?_ ?_<;> intro hh)|refine zq ?_|refine zv ?_|refine zu ?_|exact Sy.fin_val fun e=>rfl)));(all_goals (try conv => whnf)))
        refine Sy.el_map y hg ?_
        ((repeat' ((conv => whnf);(first|refine zA ?_|(refine zI ?_ ?_<;> intro hh<;> first|(exfalso;omega)|skip)|(refine zl ?_ ?_<;> intro hh)|refine zq ?_|refine zv ?_|refine zu ?_|exact Sy.fin_val fun e=>rfl)));(all_goals (try conv => whnf)))
        all_goals first | (exfalso; omega) | skip
        all_goals (refine ⟨n + 1, ⟨by omega, fun z hz => ?_⟩, by omega, ?_⟩)
        all_goals first | (((repeat' (first|((conv => whnf);done)|((try conv => whnf);first|exact trivial|(refine And.intro ?_ ?_)|rfl|exact fun _ _ _ h=>h|exact fun _ _ _ _=>trivial)));(all_goals (try conv => whnf)))) | skip
        all_goals (rw [hsn] at hz; rcases List.mem_append.1 hz with hz | hz)
        all_goals first | exact hno z hz | (rw [List.mem_singleton.1 hz]; exact he)
    · have e : n = l.length := by omega
      subst e
      rw [List.take_length] at hno
      rw [getK_miss hno]
      ((repeat' ((conv => whnf);(first|refine zA ?_|(refine zI ?_ ?_<;> intro hh<;> first|(exfalso;omega)|skip)|(refine zl ?_ ?_<;> intro hh)|refine zq ?_|refine zv ?_|refine zu ?_|exact Sy.fin_val fun e=>rfl)));(all_goals (try conv => whnf)))
      done
theorem insO_snoc {l : List Kc} {n : Nat} {x y : Kc} (hl : ascK l) (hy : l[n]? = some y) : insO (l.take (n + 1)) x = (if kn x < kn y then insO (l.take n) x ++ [y] else if kn y < kn x then l.take n ++ [y] ++ x :: [] else insO (l.take n) x) := by
  obtain ⟨hn, he⟩ := List.getElem?_eq_some_iff.1 hy
  have ht : l.take (n + 1) = l.take n ++ [y] := by rw [List.take_succ_eq_append_getElem hn, he]
  have hlt : ∀ z ∈ l.take n, kn z < kn y := fun z hz => by
    obtain ⟨j, hj⟩ := List.mem_iff_getElem?.1 hz
    have hjn : j < n := by
      have := (List.getElem?_eq_some_iff.1 hj).1
      rw [List.length_take] at this; omega
    rw [List.getElem?_take_of_lt hjn] at hj
    exact ascK_lt hl hj hy hjn
  unfold insO
  rw [ht, List.filter_append, List.filter_append]
  by_cases h1 : kn x < kn y
  · rw [if_pos h1]
    have e1 : [y].filter (fun z => decide (kn z < kn x)) = [] := by simp; omega
    have e2 : [y].filter (fun z => decide (kn x < kn z)) = [y] := by simp; omega
    rw [e1, e2]; simp
  · rw [if_neg h1]
    by_cases h2 : kn y < kn x
    · rw [if_pos h2]
      have e1 : [y].filter (fun z => decide (kn z < kn x)) = [y] := by simp; omega
      have e2 : [y].filter (fun z => decide (kn x < kn z)) = [] := by simp; omega
      rw [e1, e2, List.filter_eq_self.2 (fun z hz => decide_eq_true (by have := hlt z hz; omega)), List.filter_eq_nil_iff.2 (fun z hz => by have := hlt z hz; simp; omega)]
      simp
    · rw [if_neg h2]
      have e1 : [y].filter (fun z => decide (kn z < kn x)) = [] := by simp; omega
      have e2 : [y].filter (fun z => decide (kn x < kn z)) = [] := by simp; omega
      rw [e1, e2]; simp
/-- Has one come that is behind x? -/
def past (l : List Kc) (x : Kc) (n : Nat) : Bool := (l.take n).any fun y => decide (kn x < kn y)
/-- What put has laid out behind n rows. -/
def putO (l : List Kc) (x : Kc) (n : Nat) : List Kc := if past l x n = true then insO (l.take n) x else l.take n
theorem past_succ {l : List Kc} {x y : Kc} {n : Nat} (h : l[n]? = some y) : past l x (n + 1) = (past l x n || decide (kn x < kn y)) := by
  obtain ⟨hn, he⟩ := List.getElem?_eq_some_iff.1 h
  unfold past
  rw [List.take_succ_eq_append_getElem hn, he, List.any_append]; simp
theorem past_lt {l : List Kc} {x y : Kc} {n : Nat} (hl : ascK l) (h : l[n]? = some y) (hp : past l x n = true) : kn x < kn y := by
  obtain ⟨z, hz, hd⟩ := List.any_eq_true.1 hp
  obtain ⟨j, hj⟩ := List.mem_iff_getElem?.1 hz
  have hjn : j < n := by
    have := (List.getElem?_eq_some_iff.1 hj).1
    rw [List.length_take] at this; omega
  rw [List.getElem?_take_of_lt hjn] at hj
  have := ascK_lt hl hj h hjn
  have := of_decide_eq_true hd
  omega
theorem insO_none {l : List Kc} {x : Kc} (h : ∀ y ∈ l, kn y < kn x) : insO l x = l ++ [x] := by
  unfold insO
  rw [List.filter_eq_self.2 (fun z hz => decide_eq_true (h z hz)), List.filter_eq_nil_iff.2 (fun z hz => by have := h z hz; simp; omega)]
theorem put_step {l : List Kc} {x y : Kc} {n : Nat} (hl : ascK l) (h : l[n]? = some y) (hne : kn y ≠ kn x) (hnl : ∀ p ∈ l, kn p ≠ kn x) : putO l x (n + 1) = (if past l x n = false ∧ kn x < kn y then putO l x n ++ [x] else putO l x n) ++ [y] := by
  obtain ⟨hn, he⟩ := List.getElem?_eq_some_iff.1 h
  have ht : l.take (n + 1) = l.take n ++ [y] := by rw [List.take_succ_eq_append_getElem hn, he]
  have hs := past_succ (x := x) h
  have hi := insO_snoc (x := x) hl h
  have hlow : past l x n = false → ∀ z ∈ l.take n, kn z < kn x := fun hp z hz => by
    have h1 : ¬ kn x < kn z := fun hlt => by
      have : past l x n = true := List.any_eq_true.2 ⟨z, hz, decide_eq_true hlt⟩
      rw [hp] at this; cases this
    have := hnl z (List.mem_of_mem_take hz)
    omega
  by_cases h1 : kn x < kn y
  · rw [if_pos h1] at hi
    rw [decide_eq_true h1, Bool.or_true] at hs
    unfold putO
    rw [if_pos hs, hi]
    cases hp : past l x n with
    | true => rw [if_neg (by simp), if_pos rfl]
    | false => rw [if_pos ⟨rfl, h1⟩, if_neg (by simp), insO_none (hlow hp)]
  · have hp : past l x n = false := by
      cases hp : past l x n with
      | false => rfl
      | true => exact absurd (past_lt hl h hp) h1
    rw [decide_eq_false h1, Bool.or_false] at hs
    unfold putO
    rw [hs, hp, if_neg (by simp), if_neg (fun h => h1 h.2), ht, if_neg (by simp)]
theorem put_end {l : List Kc} {x : Kc} (hnl : ∀ p ∈ l, kn p ≠ kn x) : (if past l x l.length = false then putO l x l.length ++ [x] else putO l x l.length) = insO l x := by
  unfold putO
  rw [List.take_length]
  cases hp : past l x l.length with
  | true => simp
  | false =>
    rw [if_pos rfl, if_neg (by simp), insO_none]
    intro z hz
    have h1 : ¬ kn x < kn z := fun hlt => by
      have : past l x l.length = true := List.any_eq_true.2 ⟨z, by rw [List.take_length]; exact hz, decide_eq_true hlt⟩
      rw [hp] at this; cases this
    have := hnl z hz
    omega
theorem putO_len (l : List Kc) (x : Kc) (n : Nat) : (putO l x n).length ≤ 2 * l.length + 1 := by
  have h1 : (l.take n).length ≤ l.length := by rw [List.length_take]; omega
  unfold putO
  split
  · unfold insO
    have h2 := List.length_filter_le (fun y => decide (kn y < kn x)) (l.take n)
    have h3 := List.length_filter_le (fun y => decide (kn x < kn y)) (l.take n)
    rw [List.length_append, List.length_cons]
    omega
  · omega
theorem putO_zero (l : List Kc) (x : Kc) : putO l x 0 = [] ∧ past l x 0 = false := ⟨rfl, rfl⟩
attribute [local irreducible] putO past insO
set_option maxHeartbeats 4000000 in
theorem rput_any (v : Value) (l : List Kc) (x : Kc) (w : World) (hr : XD.ok (fun b => b < w.heap.size) w ⟨v, 4, l.length, l.map encK⟩) (hl : RowsOk l) (hx : recP x.src x.key ∧ 1 ≤ x.cnt) (hno : ∀ p ∈ l, kn p ≠ kn x) :
    Calls Try.prog 95 #[.agg #[v], .agg #[.int .i64 x.src, .int .i64 x.key, .int .i64 0], .agg #[.int .i64 x.cnt, .int .i64 x.sum]] w (Sy.RetRows Sy.noRow (fun _ : Unit => True) (fun _ => [⟨73, 4, (insO l x).length, (insO l x).map encK⟩]) (fun _ vs => .agg #[vs.headD undef]) w) := by
  have hlen := rows_len hl
  have hc0 : x.cnt ≠ 0 := by omega
  refine Sy.calls_of Sy.lv95 Sy.tab_ok Try.func95 rfl _ Try.ntmps95 [⟨v, 4, l.length, l.map encK⟩] [.agg [.row 0], .agg [.v (.int .i64 x.src), .v (.int .i64 x.key), .v (.int .i64 0)], .agg [.v (.int .i64 x.cnt), .v (.int .i64 x.sum)]] rfl rfl rfl ⟨hr, trivial⟩ ?_
  ((repeat' ((conv => whnf);(first|refine zA ?_|(refine zI ?_ ?_<;> intro hh<;> first|(exfalso;omega)|skip)|(refine zl ?_ ?_<;> intro hh)|refine zq ?_|refine zv ?_|refine zu ?_|exact Sy.fin_val fun e=>rfl)));(all_goals (try conv => whnf)))
  refine Sy.sem_subF (Sy.sub_rowc 5 0 73 4 rfl rfl) ?_
  conv => whnf
  have hb : (x.cnt == 0 && x.sum == 0) = false := by simp; omega
  rw [hb]
  refine Sy.loop_inv Sy.tab_ok (fun n : Nat => [(24, .c (.v (.int .i64 n))), (8, .c (.v (.bool (past l x n))))]) (fun n => [(5, .cells 28 [.row 7]), (7, .row 73 4 (putO l x n).length (.vs ((putO l x n).map encK)))]) (fun n => n ≤ l.length) (fun n => l.length - n) 0 (Nat.zero_le _) ?_ (fun n hn => ?_)
  · rw [(putO_zero l x).1, (putO_zero l x).2]
    ((repeat' (first|((conv => whnf);done)|((try conv => whnf);first|exact trivial|(refine And.intro ?_ ?_)|rfl|exact fun _ _ _ h=>h|exact fun _ _ _ _=>trivial)));(all_goals (try conv => whnf)))
  · by_cases hlt : n < l.length
    · have hg := List.getElem?_eq_getElem hlt
      have hxm := List.getElem_mem hlt
      generalize l[n] = y at *
      have hne := hno y hxm
      have hst := put_step hl.2 hg hne hno
      have hps := past_succ (x := x) hg
      have hyr := (hl.1 y hxm).1
      have hol := putO_len l x n
      have hcmp : cmpK y.src y.key x.src x.key = cmpI (kn y) (kn x) := cmpK_kn hyr hx.1
      generalize putO l x n = O at *
      have hneg : ¬ kn x < kn y → cmpI (kn y) (kn x) = -1 := fun h => by unfold cmpI; rw [if_pos (by omega)]
      have hpos : kn x < kn y → cmpI (kn y) (kn x) = 1 := fun h => by unfold cmpI; rw [if_neg (by omega), if_pos h]
      by_cases hk : kn x < kn y
      · rw [decide_eq_true hk, Bool.or_true] at hps
        rw [hpos hk] at hcmp
        clear hneg hpos
        cases hp : past l x n
        all_goals rw [hp] at hst
        · rw [if_pos ⟨rfl, hk⟩] at hst
          ((repeat' ((conv => whnf);(first|refine zA ?_|(refine zI ?_ ?_<;> intro hh<;> first|(exfalso;omega)|skip)|(refine zl ?_ ?_<;> intro hh)|refine zq ?_|refine zv ?_|refine zu ?_|exact Sy.fin_val fun e=>rfl)));(all_goals (try conv => whnf)))
          refine Sy.el_map y hg ?_
          ((repeat' ((conv => whnf);(first|refine zA ?_|(refine zI ?_ ?_<;> intro hh<;> first|(exfalso;omega)|skip)|(refine zl ?_ ?_<;> intro hh)|refine zq ?_|refine zv ?_|refine zu ?_|exact Sy.fin_val fun e=>rfl)));(all_goals (try conv => whnf)))
          refine Sy.draw_go [] (by kernel_rfl) ?_
          intro e0
          conv => whnf
          refine zt 0 rfl ?_
          conv => whnf
          refine zt 1 rfl ?_
          (conv => whnf);(repeat' ((first|refine zA ?_|(refine zI ?_ ?_<;> intro hh<;> first|(exfalso;omega)|skip)|(refine zl ?_ ?_<;> intro hh)|refine zq ?_|refine zv ?_|refine zu ?_|exact Sy.fin_val fun e=>rfl);(try conv => whnf)))
          refine zt 2 rfl ?_
          conv => whnf
          refine zt 3 rfl ?_
          (conv => whnf);(repeat' ((first|refine zA ?_|(refine zI ?_ ?_<;> intro hh<;> first|(exfalso;omega)|skip)|(refine zl ?_ ?_<;> intro hh)|refine zq ?_|refine zv ?_|refine zu ?_|exact Sy.fin_val fun e=>rfl);(try conv => whnf)))
          refine zt 5 rfl ?_
          (conv => whnf);(repeat' ((first|refine zA ?_|(refine zI ?_ ?_<;> intro hh<;> first|(exfalso;omega)|skip)|(refine zl ?_ ?_<;> intro hh)|refine zq ?_|refine zv ?_|refine zu ?_|exact Sy.fin_val fun e=>rfl);(try conv => whnf)))
          refine zd1 [4] (zx rfl ?_ zy)
          conv => whnf
          (try (refine zA ?_;conv => whnf))
          refine Sy.call_val (.agg [.v (.int .i64 y.src), .v (.int .i64 y.key), .v (.int .i64 0)]) Try.call76 rfl (fun e a w' h => rkey_any y w') ?_
          conv => whnf
          refine ⟨(by repeat' ((conv => whnf);first|exact trivial|(refine And.intro ?_ ?_)|rfl)), ?_⟩
          refine zd1 [6] (zx rfl ?_ zy)
          conv => whnf
          (try (refine zA ?_;conv => whnf))
          refine Sy.call_val (.c (.v (.int .i64 1))) Try.call77 rfl (fun e a w' h => by have := rcmpK_any y.src y.key 0 x.src x.key 0 w'; rw [hcmp] at this; exact this) ?_
          conv => whnf
          refine ⟨(by repeat' ((conv => whnf);first|exact trivial|(refine And.intro ?_ ?_)|rfl)), ?_⟩
          refine zt 7 rfl ?_
          (conv => whnf);(repeat' ((first|refine zA ?_|(refine zI ?_ ?_<;> intro hh<;> first|(exfalso;omega)|skip)|(refine zl ?_ ?_<;> intro hh)|refine zq ?_|refine zv ?_|refine zu ?_|exact Sy.fin_val fun e=>rfl);(try conv => whnf)))
          refine zt 8 rfl ?_
          (conv => whnf);(repeat' ((first|refine zA ?_|(refine zI ?_ ?_<;> intro hh<;> first|(exfalso;omega)|skip)|(refine zl ?_ ?_<;> intro hh)|refine zq ?_|refine zv ?_|refine zu ?_|exact Sy.fin_val fun e=>rfl);(try conv => whnf)))
          refine zw ?_
          skip
          ((repeat' ((conv => whnf);(first|refine zA ?_|(refine zI ?_ ?_<;> intro hh<;> first|(exfalso;omega)|skip)|(refine zl ?_ ?_<;> intro hh)|refine zq ?_|refine zv ?_|refine zu ?_|exact Sy.fin_val fun e=>rfl)));(all_goals (try conv => whnf)))
          refine Sy.need_app 32 rfl ⟨by omega, by omega⟩ ?_
          ((repeat' ((conv => whnf);(first|refine zA ?_|(refine zI ?_ ?_<;> intro hh<;> first|(exfalso;omega)|skip)|(refine zl ?_ ?_<;> intro hh)|refine zq ?_|refine zv ?_|refine zu ?_|exact Sy.fin_val fun e=>rfl)));(all_goals (try conv => whnf)))
          refine Sy.draw_go [] (by kernel_rfl) ?_
          intro e0
          conv => whnf
          refine zt 0 rfl ?_
          conv => whnf
          refine zt 2 rfl ?_
          conv => whnf
          refine zd1 [1] (zx rfl ?_ zy)
          conv => whnf
          refine Sy.call_val (.agg [.v (.int .i64 y.src), .v (.int .i64 y.key), .v (.int .i64 0)]) Try.call76 rfl (fun e a w' h => rkey_any y w') ?_
          conv => whnf
          refine ⟨(by repeat' ((conv => whnf);first|exact trivial|(refine And.intro ?_ ?_)|rfl)), ?_⟩
          refine zd1 [3] (zx rfl ?_ zy)
          conv => whnf
          refine Sy.call_val (.c (.v (.int .i64 1))) Try.call77 rfl (fun e a w' h => by have := rcmpK_any y.src y.key 0 x.src x.key 0 w'; rw [hcmp] at this; exact this) ?_
          conv => whnf
          refine ⟨(by repeat' ((conv => whnf);first|exact trivial|(refine And.intro ?_ ?_)|rfl)), ?_⟩
          refine zt 4 rfl ?_
          (conv => whnf);(repeat' ((first|refine zA ?_|(refine zI ?_ ?_<;> intro hh<;> first|(exfalso;omega)|skip)|(refine zl ?_ ?_<;> intro hh)|refine zq ?_|refine zv ?_|refine zu ?_|exact Sy.fin_val fun e=>rfl);(try conv => whnf)))
          refine zw ?_
          skip
          ((repeat' ((conv => whnf);(first|refine zA ?_|(refine zI ?_ ?_<;> intro hh<;> first|(exfalso;omega)|skip)|(refine zl ?_ ?_<;> intro hh)|refine zq ?_|refine zv ?_|refine zu ?_|exact Sy.fin_val fun e=>rfl)));(all_goals (try conv => whnf)))
          refine Sy.need_app 32 rfl ⟨by omega, by omega⟩ ?_
          ((repeat' ((conv => whnf);(first|refine zA ?_|(refine zI ?_ ?_<;> intro hh<;> first|(exfalso;omega)|skip)|(refine zl ?_ ?_<;> intro hh)|refine zq ?_|refine zv ?_|refine zu ?_|exact Sy.fin_val fun e=>rfl)));(all_goals (try conv => whnf)))
          refine ⟨n + 1, by omega, by omega, ?_⟩
          rw [hst, hps]
          ((repeat' (first|((conv => whnf);done)|((try conv => whnf);first|exact trivial|(refine And.intro ?_ ?_)|rfl|exact fun _ _ _ h=>h|exact fun _ _ _ _=>trivial)));(all_goals (try conv => whnf)))
          all_goals simp [encK]
        · rw [if_neg (fun h => by cases h.1)] at hst
          ((repeat' ((conv => whnf);(first|refine zA ?_|(refine zI ?_ ?_<;> intro hh<;> first|(exfalso;omega)|skip)|(refine zl ?_ ?_<;> intro hh)|refine zq ?_|refine zv ?_|refine zu ?_|exact Sy.fin_val fun e=>rfl)));(all_goals (try conv => whnf)))
          refine Sy.el_map y hg ?_
          ((repeat' ((conv => whnf);(first|refine zA ?_|(refine zI ?_ ?_<;> intro hh<;> first|(exfalso;omega)|skip)|(refine zl ?_ ?_<;> intro hh)|refine zq ?_|refine zv ?_|refine zu ?_|exact Sy.fin_val fun e=>rfl)));(all_goals (try conv => whnf)))
          refine Sy.draw_go [] (by kernel_rfl) ?_
          intro e0
          conv => whnf
          refine zt 0 rfl ?_
          conv => whnf
          refine zt 1 rfl ?_
          (conv => whnf);(repeat' ((first|refine zA ?_|(refine zI ?_ ?_<;> intro hh<;> first|(exfalso;omega)|skip)|(refine zl ?_ ?_<;> intro hh)|refine zq ?_|refine zv ?_|refine zu ?_|exact Sy.fin_val fun e=>rfl);(try conv => whnf)))
          refine zt 2 rfl ?_
          conv => whnf
          refine zt 3 rfl ?_
          (conv => whnf);(repeat' ((first|refine zA ?_|(refine zI ?_ ?_<;> intro hh<;> first|(exfalso;omega)|skip)|(refine zl ?_ ?_<;> intro hh)|refine zq ?_|refine zv ?_|refine zu ?_|exact Sy.fin_val fun e=>rfl);(try conv => whnf)))
          refine zt 5 rfl ?_
          (conv => whnf);(repeat' ((first|refine zA ?_|(refine zI ?_ ?_<;> intro hh<;> first|(exfalso;omega)|skip)|(refine zl ?_ ?_<;> intro hh)|refine zq ?_|refine zv ?_|refine zu ?_|exact Sy.fin_val fun e=>rfl);(try conv => whnf)))
          refine zd1 [4] (zx rfl ?_ zy)
          conv => whnf
          (try (refine zA ?_;conv => whnf))
          refine ⟨(by repeat' ((conv => whnf);first|exact trivial|(refine And.intro ?_ ?_)|rfl)), ?_⟩
          refine zd1 [6] (zx rfl ?_ zy)
          conv => whnf
          (try (refine zA ?_;conv => whnf))
          refine ⟨(by repeat' ((conv => whnf);first|exact trivial|(refine And.intro ?_ ?_)|rfl)), ?_⟩
          refine zt 7 rfl ?_
          (conv => whnf);(repeat' ((first|refine zA ?_|(refine zI ?_ ?_<;> intro hh<;> first|(exfalso;omega)|skip)|(refine zl ?_ ?_<;> intro hh)|refine zq ?_|refine zv ?_|refine zu ?_|exact Sy.fin_val fun e=>rfl);(try conv => whnf)))
          refine zt 8 rfl ?_
          (conv => whnf);(repeat' ((first|refine zA ?_|(refine zI ?_ ?_<;> intro hh<;> first|(exfalso;omega)|skip)|(refine zl ?_ ?_<;> intro hh)|refine zq ?_|refine zv ?_|refine zu ?_|exact Sy.fin_val fun e=>rfl);(try conv => whnf)))
          refine zw ?_
          skip
          ((repeat' ((conv => whnf);(first|refine zA ?_|(refine zI ?_ ?_<;> intro hh<;> first|(exfalso;omega)|skip)|(refine zl ?_ ?_<;> intro hh)|refine zq ?_|refine zv ?_|refine zu ?_|exact Sy.fin_val fun e=>rfl)));(all_goals (try conv => whnf)))
          refine Sy.draw_go [] (by kernel_rfl) ?_
          intro e0
          conv => whnf
          refine zt 0 rfl ?_
          conv => whnf
          refine zt 2 rfl ?_
          conv => whnf
          refine zd1 [1] (zx rfl ?_ zy)
          conv => whnf
          refine Sy.call_val (.agg [.v (.int .i64 y.src), .v (.int .i64 y.key), .v (.int .i64 0)]) Try.call76 rfl (fun e a w' h => rkey_any y w') ?_
          conv => whnf
          refine ⟨(by repeat' ((conv => whnf);first|exact trivial|(refine And.intro ?_ ?_)|rfl)), ?_⟩
          refine zd1 [3] (zx rfl ?_ zy)
          conv => whnf
          refine Sy.call_val (.c (.v (.int .i64 1))) Try.call77 rfl (fun e a w' h => by have := rcmpK_any y.src y.key 0 x.src x.key 0 w'; rw [hcmp] at this; exact this) ?_
          conv => whnf
          refine ⟨(by repeat' ((conv => whnf);first|exact trivial|(refine And.intro ?_ ?_)|rfl)), ?_⟩
          refine zt 4 rfl ?_
          (conv => whnf);(repeat' ((first|refine zA ?_|(refine zI ?_ ?_<;> intro hh<;> first|(exfalso;omega)|skip)|(refine zl ?_ ?_<;> intro hh)|refine zq ?_|refine zv ?_|refine zu ?_|exact Sy.fin_val fun e=>rfl);(try conv => whnf)))
          refine zw ?_
          skip
          ((repeat' ((conv => whnf);(first|refine zA ?_|(refine zI ?_ ?_<;> intro hh<;> first|(exfalso;omega)|skip)|(refine zl ?_ ?_<;> intro hh)|refine zq ?_|refine zv ?_|refine zu ?_|exact Sy.fin_val fun e=>rfl)));(all_goals (try conv => whnf)))
          refine Sy.need_app 32 rfl ⟨by omega, by omega⟩ ?_
          ((repeat' ((conv => whnf);(first|refine zA ?_|(refine zI ?_ ?_<;> intro hh<;> first|(exfalso;omega)|skip)|(refine zl ?_ ?_<;> intro hh)|refine zq ?_|refine zv ?_|refine zu ?_|exact Sy.fin_val fun e=>rfl)));(all_goals (try conv => whnf)))
          refine ⟨n + 1, by omega, by omega, ?_⟩
          rw [hst, hps]
          ((repeat' (first|((conv => whnf);done)|((try conv => whnf);first|exact trivial|(refine And.intro ?_ ?_)|rfl|exact fun _ _ _ h=>h|exact fun _ _ _ _=>trivial)));(all_goals (try conv => whnf)))
          all_goals simp [encK]
      · rw [hneg hk] at hcmp
        have hp : past l x n = false := by
          cases hp : past l x n with
          | false => rfl
          | true => exact absurd (past_lt hl.2 hg hp) hk
        rw [hp, decide_eq_false hk, Bool.false_or] at hps
        rw [if_neg (fun h => hk h.2)] at hst
        rw [hp]
        clear hneg hpos
        ((repeat' ((conv => whnf);(first|refine zA ?_|(refine zI ?_ ?_<;> intro hh<;> first|(exfalso;omega)|skip)|(refine zl ?_ ?_<;> intro hh)|refine zq ?_|refine zv ?_|refine zu ?_|exact Sy.fin_val fun e=>rfl)));(all_goals (try conv => whnf)))
        refine Sy.el_map y hg ?_
        ((repeat' ((conv => whnf);(first|refine zA ?_|(refine zI ?_ ?_<;> intro hh<;> first|(exfalso;omega)|skip)|(refine zl ?_ ?_<;> intro hh)|refine zq ?_|refine zv ?_|refine zu ?_|exact Sy.fin_val fun e=>rfl)));(all_goals (try conv => whnf)))
        refine Sy.draw_go [] (by kernel_rfl) ?_
        intro e0
        conv => whnf
        refine zt 0 rfl ?_
        conv => whnf
        refine zt 1 rfl ?_
        (conv => whnf);(repeat' ((first|refine zA ?_|(refine zI ?_ ?_<;> intro hh<;> first|(exfalso;omega)|skip)|(refine zl ?_ ?_<;> intro hh)|refine zq ?_|refine zv ?_|refine zu ?_|exact Sy.fin_val fun e=>rfl);(try conv => whnf)))
        refine zt 2 rfl ?_
        conv => whnf
        refine zt 3 rfl ?_
        (conv => whnf);(repeat' ((first|refine zA ?_|(refine zI ?_ ?_<;> intro hh<;> first|(exfalso;omega)|skip)|(refine zl ?_ ?_<;> intro hh)|refine zq ?_|refine zv ?_|refine zu ?_|exact Sy.fin_val fun e=>rfl);(try conv => whnf)))
        refine zt 5 rfl ?_
        (conv => whnf);(repeat' ((first|refine zA ?_|(refine zI ?_ ?_<;> intro hh<;> first|(exfalso;omega)|skip)|(refine zl ?_ ?_<;> intro hh)|refine zq ?_|refine zv ?_|refine zu ?_|exact Sy.fin_val fun e=>rfl);(try conv => whnf)))
        refine zd1 [4] (zx rfl ?_ zy)
        conv => whnf
        (try (refine zA ?_;conv => whnf))
        refine Sy.call_val (.agg [.v (.int .i64 y.src), .v (.int .i64 y.key), .v (.int .i64 0)]) Try.call76 rfl (fun e a w' h => rkey_any y w') ?_
        conv => whnf
        refine ⟨(by repeat' ((conv => whnf);first|exact trivial|(refine And.intro ?_ ?_)|rfl)), ?_⟩
        refine zd1 [6] (zx rfl ?_ zy)
        conv => whnf
        (try (refine zA ?_;conv => whnf))
        refine Sy.call_val (.c (.v (.int .i64 (-1)))) Try.call77 rfl (fun e a w' h => by have := rcmpK_any y.src y.key 0 x.src x.key 0 w'; rw [hcmp] at this; exact this) ?_
        conv => whnf
        refine ⟨(by repeat' ((conv => whnf);first|exact trivial|(refine And.intro ?_ ?_)|rfl)), ?_⟩
        refine zt 7 rfl ?_
        (conv => whnf);(repeat' ((first|refine zA ?_|(refine zI ?_ ?_<;> intro hh<;> first|(exfalso;omega)|skip)|(refine zl ?_ ?_<;> intro hh)|refine zq ?_|refine zv ?_|refine zu ?_|exact Sy.fin_val fun e=>rfl);(try conv => whnf)))
        refine zt 8 rfl ?_
        (conv => whnf);(repeat' ((first|refine zA ?_|(refine zI ?_ ?_<;> intro hh<;> first|(exfalso;omega)|skip)|(refine zl ?_ ?_<;> intro hh)|refine zq ?_|refine zv ?_|refine zu ?_|exact Sy.fin_val fun e=>rfl);(try conv => whnf)))
        refine zw ?_
        skip
        ((repeat' ((conv => whnf);(first|refine zA ?_|(refine zI ?_ ?_<;> intro hh<;> first|(exfalso;omega)|skip)|(refine zl ?_ ?_<;> intro hh)|refine zq ?_|refine zv ?_|refine zu ?_|exact Sy.fin_val fun e=>rfl)));(all_goals (try conv => whnf)))
        refine Sy.draw_go [] (by kernel_rfl) ?_
        intro e0
        conv => whnf
        refine zt 0 rfl ?_
        conv => whnf
        refine zt 2 rfl ?_
        conv => whnf
        refine zd1 [1] (zx rfl ?_ zy)
        conv => whnf
        refine Sy.call_val (.agg [.v (.int .i64 y.src), .v (.int .i64 y.key), .v (.int .i64 0)]) Try.call76 rfl (fun e a w' h => rkey_any y w') ?_
        conv => whnf
        refine ⟨(by repeat' ((conv => whnf);first|exact trivial|(refine And.intro ?_ ?_)|rfl)), ?_⟩
        refine zd1 [3] (zx rfl ?_ zy)
        conv => whnf
        refine Sy.call_val (.c (.v (.int .i64 (-1)))) Try.call77 rfl (fun e a w' h => by have := rcmpK_any y.src y.key 0 x.src x.key 0 w'; rw [hcmp] at this; exact this) ?_
        conv => whnf
        refine ⟨(by repeat' ((conv => whnf);first|exact trivial|(refine And.intro ?_ ?_)|rfl)), ?_⟩
        refine zt 4 rfl ?_
        (conv => whnf);(repeat' ((first|refine zA ?_|(refine zI ?_ ?_<;> intro hh<;> first|(exfalso;omega)|skip)|(refine zl ?_ ?_<;> intro hh)|refine zq ?_|refine zv ?_|refine zu ?_|exact Sy.fin_val fun e=>rfl);(try conv => whnf)))
        refine zw ?_
        skip
        ((repeat' ((conv => whnf);(first|refine zA ?_|(refine zI ?_ ?_<;> intro hh<;> first|(exfalso;omega)|skip)|(refine zl ?_ ?_<;> intro hh)|refine zq ?_|refine zv ?_|refine zu ?_|exact Sy.fin_val fun e=>rfl)));(all_goals (try conv => whnf)))
        refine Sy.need_app 32 rfl ⟨by omega, by omega⟩ ?_
        ((repeat' ((conv => whnf);(first|refine zA ?_|(refine zI ?_ ?_<;> intro hh<;> first|(exfalso;omega)|skip)|(refine zl ?_ ?_<;> intro hh)|refine zq ?_|refine zv ?_|refine zu ?_|exact Sy.fin_val fun e=>rfl)));(all_goals (try conv => whnf)))
        refine ⟨n + 1, by omega, by omega, ?_⟩
        rw [hst, hps]
        ((repeat' (first|((conv => whnf);done)|((try conv => whnf);first|exact trivial|(refine And.intro ?_ ?_)|rfl|exact fun _ _ _ h=>h|exact fun _ _ _ _=>trivial)));(all_goals (try conv => whnf)))
        all_goals simp [encK]
    · have e : n = l.length := by omega
      subst e
      have hend := put_end hno
      have hol := putO_len l x l.length
      cases hp : past l x l.length
      all_goals rw [hp] at hend
      · rw [if_pos rfl] at hend
        ((repeat' ((conv => whnf);(first|refine zA ?_|(refine zI ?_ ?_<;> intro hh<;> first|(exfalso;omega)|skip)|(refine zl ?_ ?_<;> intro hh)|refine zq ?_|refine zv ?_|refine zu ?_|exact Sy.fin_val fun e=>rfl)));(all_goals (try conv => whnf)))
        refine Sy.need_app 32 rfl ⟨by omega, by omega⟩ ?_
        ((repeat' ((conv => whnf);(first|refine zA ?_|(refine zI ?_ ?_<;> intro hh<;> first|(exfalso;omega)|skip)|(refine zl ?_ ?_<;> intro hh)|refine zq ?_|refine zv ?_|refine zu ?_|exact Sy.fin_val fun e=>rfl)));(all_goals (try conv => whnf)))
        rw [← hend]
        exact Sy.fin_r1 (.row 9) (by show some _ = some _; simp [encK]; rfl) (fun e => rfl)
      · rw [if_neg (by simp)] at hend
        ((repeat' ((conv => whnf);(first|refine zA ?_|(refine zI ?_ ?_<;> intro hh<;> first|(exfalso;omega)|skip)|(refine zl ?_ ?_<;> intro hh)|refine zq ?_|refine zv ?_|refine zu ?_|exact Sy.fin_val fun e=>rfl)));(all_goals (try conv => whnf)))
        rw [← hend]
        exact Sy.fin_r1 (.row 7) rfl (fun e => rfl)
theorem getK_apart {a : List Kc} {x : Kc} (h : ∀ y ∈ a, kn y ≠ kn x) : getK a x.src x.key = (0, 0) := getK_miss fun y hy he => h y hy (by unfold kn; rw [he.1, he.2])
set_option maxHeartbeats 4000000 in
theorem rjoin_any (u v : Value) (a b : List Kc) (w : World) (hu : XD.ok (fun b => b < w.heap.size) w ⟨u, 4, a.length, a.map encK⟩) (hv : XD.ok (fun b => b < w.heap.size) w ⟨v, 4, b.length, b.map encK⟩) (ha : RowsOk a) (hb : RowsOk b) (hd : apartK a b) :
    Calls Try.prog 52 #[.agg #[u], .agg #[v]] w (Sy.RetRows Sy.noRow (fun _ : Unit => True) (fun _ => [⟨73, 4, (joinK a b).length, (joinK a b).map encK⟩]) (fun _ vs => .tuple #[.agg #[vs.headD undef], .int .i64 0]) w) := by
  have hla := rows_len ha
  have hlb := rows_len hb
  refine Sy.calls_of Sy.lv52 Sy.tab_ok Try.func52 rfl _ Try.ntmps52 [⟨u, 4, a.length, a.map encK⟩, ⟨v, 4, b.length, b.map encK⟩] [.agg [.row 0], .agg [.row 1]] rfl rfl rfl ⟨hu, hv, trivial⟩ ?_
  ((repeat' ((conv => whnf);(first|refine zA ?_|(refine zI ?_ ?_<;> intro hh<;> first|(exfalso;omega)|skip)|(refine zl ?_ ?_<;> intro hh)|refine zq ?_|refine zv ?_|refine zu ?_|exact Sy.fin_val fun e=>rfl)));(all_goals (try conv => whnf)))
  refine Sy.call_val (.c (.v (.bool true))) Try.call36 rfl (fun e _ w' h => by have := rtbl_any (e.rv 0) a w' (Sy.row_reads h (.inr rfl)); rw [rows_tbl ha] at this; exact this) ?_
  ((repeat' ((conv => whnf);(first|refine zA ?_|(refine zI ?_ ?_<;> intro hh<;> first|(exfalso;omega)|skip)|(refine zl ?_ ?_<;> intro hh)|refine zq ?_|refine zv ?_|refine zu ?_|exact Sy.fin_val fun e=>rfl)));(all_goals (try conv => whnf)))
  refine Sy.call_val (.c (.v (.bool true))) Try.call36 rfl (fun e _ w' h => by have := rtbl_any (e.rv 1) b w' (Sy.row_reads h (.inr rfl)); rw [rows_tbl hb] at this; exact this) ?_
  ((repeat' ((conv => whnf);(first|refine zA ?_|(refine zI ?_ ?_<;> intro hh<;> first|(exfalso;omega)|skip)|(refine zl ?_ ?_<;> intro hh)|refine zq ?_|refine zv ?_|refine zu ?_|exact Sy.fin_val fun e=>rfl)));(all_goals (try conv => whnf)))
  refine Sy.call_r1 ⟨73, 4, a.length, a.map encK⟩ (fun j => .agg [.row j]) Try.call81 (fun e _ w' h => rcopyT_any (e.rv 0) a w' (Sy.row_reads h (.inr rfl)) (by omega)) ?_
  ((repeat' ((conv => whnf);(first|refine zA ?_|(refine zI ?_ ?_<;> intro hh<;> first|(exfalso;omega)|skip)|(refine zl ?_ ?_<;> intro hh)|refine zq ?_|refine zv ?_|refine zu ?_|exact Sy.fin_val fun e=>rfl)));(all_goals (try conv => whnf)))
  refine Sy.loop_inv Sy.tab_ok (fun n : Nat => [(23, .c (.v (.int .i64 n)))]) (fun n => [(6, .cells 28 [.row 5]), (5, .row 73 4 (joinK a (b.take n)).length (.vs ((joinK a (b.take n)).map encK)))]) (fun n => n ≤ b.length) (fun n => b.length - n) 0 (Nat.zero_le _) ?_ (fun n hn => ?_)
  · rw [show joinK a (b.take 0) = a from rfl]
    ((repeat' (first|((conv => whnf);done)|((try conv => whnf);first|exact trivial|(refine And.intro ?_ ?_)|rfl|exact fun _ _ _ h=>h|exact fun _ _ _ _=>trivial)));(all_goals (try conv => whnf)))
  · obtain ⟨hT, hTm⟩ := join_step ha hb hd n hn
    by_cases hlt : n < b.length
    · have hg := List.getElem?_eq_getElem hlt
      have hxm := List.getElem_mem hlt
      have ht : b.take (n + 1) = b.take n ++ [b[n]] := List.take_succ_eq_append_getElem hlt
      have hlT := rows_len hT
      generalize b[n] = x at *
      have hx := hb.1 x hxm
      have hno : ∀ p ∈ joinK a (b.take n), kn p ≠ kn x := fun p hp => by
        rcases (hTm p).1 hp with hp | hp
        · exact hd _ hxm p hp
        · obtain ⟨j, hj⟩ := List.mem_iff_getElem?.1 hp
          have hjn : j < n := by
            have := (List.getElem?_eq_some_iff.1 hj).1
            rw [List.length_take] at this; omega
          rw [List.getElem?_take_of_lt hjn] at hj
          have := ascK_lt hb.2 hj hg hjn
          omega
      have hnext : joinK a (b.take (n + 1)) = insO (joinK a (b.take n)) x := by rw [ht, joinK_snoc]
      have hget := getK_apart (hd x hxm)
      generalize joinK a (b.take n) = T at *
      ((repeat' ((conv => whnf);(first|refine zA ?_|(refine zI ?_ ?_<;> intro hh<;> first|(exfalso;omega)|skip)|(refine zl ?_ ?_<;> intro hh)|refine zq ?_|refine zv ?_|refine zu ?_|exact Sy.fin_val fun e=>rfl)));(all_goals (try conv => whnf)))
      refine Sy.el_map x hg ?_
      ((repeat' ((conv => whnf);(first|refine zA ?_|(refine zI ?_ ?_<;> intro hh<;> first|(exfalso;omega)|skip)|(refine zl ?_ ?_<;> intro hh)|refine zq ?_|refine zv ?_|refine zu ?_|exact Sy.fin_val fun e=>rfl)));(all_goals (try conv => whnf)))
      refine Sy.draw_go [] (by kernel_rfl) ?_
      intro e0
      conv => whnf
      refine zt 0 rfl ?_
      conv => whnf
      refine zt 1 rfl ?_
      conv => whnf
      refine zt 4 rfl ?_
      conv => whnf
      refine zd1 [2] (zx rfl ?_ zy)
      conv => whnf
      refine Sy.call_val (.agg [.v (.int .i64 x.src), .v (.int .i64 x.key), .v (.int .i64 0)]) Try.call76 rfl (fun e _ w' h => rkey_any x w') ?_
      conv => whnf
      refine ⟨(by repeat' ((conv => whnf);first|exact trivial|(refine And.intro ?_ ?_)|rfl)), ?_⟩
      refine zd1 [3] (zx rfl ?_ zy)
      conv => whnf
      refine Sy.call_val (.agg [.v (.int .i64 0), .v (.int .i64 0)]) Try.call94 rfl (fun e _ w' h => by have := rget_any (e.rv 0) a x.src x.key 0 w' (Sy.row_reads h (.inr rfl)); rw [hget] at this; exact this) ?_
      conv => whnf
      refine ⟨(by repeat' ((conv => whnf);first|exact trivial|(refine And.intro ?_ ?_)|rfl)), ?_⟩
      refine zt 5 rfl ?_
      (conv => whnf);(repeat' ((first|refine zA ?_|(refine zI ?_ ?_<;> intro hh<;> first|(exfalso;omega)|skip)|(refine zl ?_ ?_<;> intro hh)|refine zq ?_|refine zv ?_|refine zu ?_|exact Sy.fin_val fun e=>rfl);(try conv => whnf)))
      refine zw ?_
      skip
      ((repeat' ((conv => whnf);(first|refine zA ?_|(refine zI ?_ ?_<;> intro hh<;> first|(exfalso;omega)|skip)|(refine zl ?_ ?_<;> intro hh)|refine zq ?_|refine zv ?_|refine zu ?_|exact Sy.fin_val fun e=>rfl)));(all_goals (try conv => whnf)))
      refine Sy.draw_go [6] (by kernel_rfl) ?_
      intro e0
      conv => whnf
      refine zt 1 rfl ?_
      conv => whnf
      refine zt 3 rfl ?_
      conv => whnf
      refine zt 4 rfl ?_
      conv => whnf
      focus
        refine zd1 [0, 2] (zx rfl ?_ (zx rfl ?_ zy))
        focus
          conv => whnf
          refine ⟨(by repeat' ((conv => whnf);first|exact trivial|(refine And.intro ?_ ?_)|rfl)), ?_⟩
          refine zd1 [2] (zx rfl ?_ zy)
          conv => whnf
          refine Sy.call_val (.agg [.v (.int .i64 x.src), .v (.int .i64 x.key), .v (.int .i64 0)]) Try.call76 rfl (fun e _ w' h => rkey_any x w') ?_
          conv => whnf
          refine ⟨(by repeat' ((conv => whnf);first|exact trivial|(refine And.intro ?_ ?_)|rfl)), ?_⟩
          refine zd1 [5] (zx rfl ?_ zy)
          conv => whnf
          refine Sy.call_r1 ⟨73, 4, (insO T x).length, (insO T x).map encK⟩ (fun j => .agg [.row j]) Try.call95 (fun e _ w' h => rput_any (e.rv 5) T x w' (Sy.row_reads h (.inl ⟨_, rfl⟩)) hT hx hno) ?_
          conv => whnf
          refine ⟨(by repeat' ((conv => whnf);first|exact trivial|(refine And.intro ?_ ?_)|rfl)), ?_⟩
          refine zd1 [6] (zx rfl ?_ zy)
          conv => whnf
          refine ⟨(by repeat' ((conv => whnf);first|exact trivial|(refine And.intro ?_ ?_)|rfl)), ?_⟩
          refine zw ?_
          skip
        rotate_right
        focus
          conv => whnf
          refine Sy.call_val (.agg [.v (.int .i64 x.src), .v (.int .i64 x.key), .v (.int .i64 0)]) Try.call76 rfl (fun e _ w' h => rkey_any x w') ?_
          conv => whnf
          refine ⟨(by repeat' ((conv => whnf);first|exact trivial|(refine And.intro ?_ ?_)|rfl)), ?_⟩
          refine zd1 [0] (zx rfl ?_ zy)
          conv => whnf
          refine ⟨(by repeat' ((conv => whnf);first|exact trivial|(refine And.intro ?_ ?_)|rfl)), ?_⟩
          refine zd1 [5] (zx rfl ?_ zy)
          conv => whnf
          refine Sy.call_r1 ⟨73, 4, (insO T x).length, (insO T x).map encK⟩ (fun j => .agg [.row j]) Try.call95 (fun e _ w' h => rput_any (e.rv 5) T x w' (Sy.row_reads h (.inl ⟨_, rfl⟩)) hT hx hno) ?_
          conv => whnf
          refine ⟨(by repeat' ((conv => whnf);first|exact trivial|(refine And.intro ?_ ?_)|rfl)), ?_⟩
          refine zd1 [6] (zx rfl ?_ zy)
          conv => whnf
          refine ⟨(by repeat' ((conv => whnf);first|exact trivial|(refine And.intro ?_ ?_)|rfl)), ?_⟩
          refine zw ?_
          skip
      all_goals (((repeat' ((conv => whnf);(first|refine zA ?_|(refine zI ?_ ?_<;> intro hh<;> first|(exfalso;omega)|skip)|(refine zl ?_ ?_<;> intro hh)|refine zq ?_|refine zv ?_|refine zu ?_|exact Sy.fin_val fun e=>rfl)));(all_goals (try conv => whnf))))
      all_goals (refine ⟨n + 1, by omega, by omega, ?_⟩)
      all_goals (rw [hnext])
      all_goals (((repeat' (first|((conv => whnf);done)|((try conv => whnf);first|exact trivial|(refine And.intro ?_ ?_)|rfl|exact fun _ _ _ h=>h|exact fun _ _ _ _=>trivial)));(all_goals (try conv => whnf))))
    · have e : n = b.length := by omega
      subst e
      rw [List.take_length]
      ((repeat' ((conv => whnf);(first|refine zA ?_|(refine zI ?_ ?_<;> intro hh<;> first|(exfalso;omega)|skip)|(refine zl ?_ ?_<;> intro hh)|refine zq ?_|refine zv ?_|refine zu ?_|exact Sy.fin_val fun e=>rfl)));(all_goals (try conv => whnf)))
      exact Sy.fin_r1 (.row 5) rfl (fun e => rfl)
end Go.Proofs.Ytmahldelmbhjfaa
