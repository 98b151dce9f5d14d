/- Region: Alone by contract of the caller's own row: its operators' inputs lie in a bag. -/
import Derived.Test.YthmcknchkecciaaRE
import Derived.Test.YthmcknchkecciaaIdxI
import Derived.Test.YthmcknchkecciaaBag
namespace Go.Proofs.Ythmcknchkecciaa
open Go Go.RowKit
open Sy (C SV V1 Blk St XD Els)
set_option maxRecDepth 10000

/-- The place of a number in a list. -/
def posL (l : List Int) (x : Int) : Int := if x ∈ l then (l.idxOf x : Int) else -1
theorem pos_of {l : List Int} (hl : l.Nodup) {x r : Int} (h : idxP l x r) : r = posL l x := by
  unfold posL
  rcases h with ⟨h1, h2⟩ | ⟨i, h1, h2⟩
  · rw [if_neg h2, h1]
  · obtain ⟨hi, hx⟩ := List.getElem?_eq_some_iff.1 h2
    rw [if_pos (List.mem_of_getElem? h2), h1, ← hx, hl.idxOf_getElem i hi]
def mixL (f : Int → Int) (l : List Int) (i : Nat) : List Int := (l.take i).map f ++ l.drop i
theorem mix_len (f : Int → Int) (l : List Int) (i : Nat) : (mixL f l i).length = l.length := by
  unfold mixL
  rw [List.length_append, List.length_map, List.length_take, List.length_drop]; omega
theorem mix_get {f : Int → Int} {l : List Int} {i : Nat} {x : Int} (h : l[i]? = some x) : (mixL f l i)[i]? = some x := by
  have hi := (List.getElem?_eq_some_iff.1 h).1
  unfold mixL
  rw [List.getElem?_append_right (by rw [List.length_map, List.length_take]; omega), List.length_map, List.length_take, Nat.min_eq_left (Nat.le_of_lt hi), List.getElem?_drop]
  simpa using h
theorem mix_set {f : Int → Int} {l : List Int} {i : Nat} {x : Int} (h : l[i]? = some x) : (mixL f l i).set i (f x) = mixL f l (i + 1) := by
  obtain ⟨hi, hx⟩ := List.getElem?_eq_some_iff.1 h
  unfold mixL
  rw [List.set_append_right _ _ (by rw [List.length_map, List.length_take]; omega), List.length_map, List.length_take, Nat.min_eq_left (Nat.le_of_lt hi), Nat.sub_self, List.take_add_one, h, List.drop_eq_getElem_cons hi, List.set_cons_zero]
  simp
theorem mix_end (f : Int → Int) (l : List Int) : mixL f l l.length = l.map f := by
  unfold mixL
  rw [List.take_length, List.drop_length, List.append_nil]
def aloneO (l : List Int) (o : Opr) : Opr := { o with ins := o.ins.map (posL l) }
def aloneN (g : List Opr) (l m : List Int) : List Opr := m.filterMap fun k => g[k.toNat]?.map (aloneO l)
def aloneL (g : List Opr) (n : Int) : List Opr := aloneN g (ofV g n) (ofV g n)
theorem aloneN_succ {g : List Opr} {l m : List Int} {i : Nat} {k : Int} {o : Opr} (hk : m[i]? = some k) (ho : g[k.toNat]? = some o) : aloneN g l (m.take (i + 1)) = aloneN g l (m.take i) ++ [aloneO l o] := by
  unfold aloneN
  rw [List.take_add_one, hk, List.filterMap_append]
  simp [ho]
theorem aloneN_len {g : List Opr} {l m : List Int} (hm : ∀ x ∈ m, x.toNat < g.length) : (aloneN g l m).length = m.length := by
  unfold aloneN
  induction m with
  | nil => rfl
  | cons x m ih =>
    have h1 := List.getElem?_eq_getElem (hm x List.mem_cons_self)
    rw [List.filterMap_cons, h1]
    simpa using ih fun y hy => hm y (List.mem_cons_of_mem _ hy)
theorem ofL_len (g : List Opr) (n : Nat) : (ofL g n).length ≤ g.length := by
  unfold ofL
  refine Nat.le_trans (List.length_filter_le _ _) ?_
  unfold natsTo
  rw [List.length_map, List.length_range]; exact Nat.le_refl _

theorem indexP_any (v : Value) (xs : List Int) (x : Int) (w : World) (hn : xs.Nodup) (hr : XD.ok (fun b => b < w.heap.size) w ⟨v, 1, xs.length, xs.map encI⟩) :
    Calls Try.prog 48 #[v, .int .i64 x] w (Sy.Ret (.int .i64 (posL xs x)) w) :=
  (index_any v xs x w hr).mono fun E w' ⟨r, hp, hE, hw⟩ => by
    rw [← pos_of hn hp]
    exact ⟨hE, hw⟩
theorem cloneI_any (v : Value) (xs : List Int) (w : World) (hr : XD.ok (fun b => b < w.heap.size) w ⟨v, 1, xs.length, xs.map encI⟩) (hb : xs.length ≤ 1000000) :
    Calls Try.prog 50 #[v] w (Sy.RetRows Sy.noRow (fun _ : Unit => True) (fun _ => [⟨3, 1, xs.length, xs.map encI⟩]) (fun _ vs => vs.headD undef) w) := by
  refine Sy.calls_of Sy.lv50 Sy.tab_ok Try.func50 rfl _ Try.ntmps50 [⟨v, 1, xs.length, xs.map encI⟩] [.c (.row 0)] rfl rfl rfl ⟨hr, trivial⟩ ?_
  ((repeat' ((conv => whnf);(first|refine zA ?_|(refine zI ?_ ?_<;> intro hh<;> first|(exfalso;omega)|skip)|(refine zl ?_ ?_<;> intro hh)|refine zq ?_|refine zv ?_|refine zu ?_|exact Sy.fin_val fun e=>rfl)));(all_goals (try conv => whnf)))
  refine Sy.nil_of (fun h0 => ?_) ?_
  · ((repeat' ((conv => whnf);(first|refine zA ?_|(refine zI ?_ ?_<;> intro hh<;> first|(exfalso;omega)|skip)|(refine zl ?_ ?_<;> intro hh)|refine zq ?_|refine zv ?_|refine zu ?_|exact Sy.fin_val fun e=>rfl)));(all_goals (try conv => whnf)))
    exact Sy.fin_r1 (.v (.slice none 0 0)) ⟨h0, by rw [List.length_eq_zero_iff] at h0; rw [h0]; rfl⟩
  · ((repeat' ((conv => whnf);(first|refine zA ?_|(refine zI ?_ ?_<;> intro hh<;> first|(exfalso;omega)|skip)|(refine zl ?_ ?_<;> intro hh)|refine zq ?_|refine zv ?_|refine zu ?_|exact Sy.fin_val fun e=>rfl)));(all_goals (try conv => whnf)))
    refine Sy.need_of (by show (0 + xs.length) * 8 ≤ _ ∧ _; omega) ?_
    ((repeat' ((conv => whnf);(first|refine zA ?_|(refine zI ?_ ?_<;> intro hh<;> first|(exfalso;omega)|skip)|(refine zl ?_ ?_<;> intro hh)|refine zq ?_|refine zv ?_|refine zu ?_|exact Sy.fin_val fun e=>rfl)));(all_goals (try conv => whnf)))
    refine Sy.fin_r1 (.row 2) ?_
    show some (Blk.row 3 1 (0 + xs.length) (.vs (xs.map encI))) = _
    rw [Nat.zero_add]
end Go.Proofs.Ythmcknchkecciaa
