/- Graph: Encode. -/
import Derived.Test.YtgkkpefpbfadoaaGreatAk29
import Derived.Test.YtgkkpefpbfadoaaGreatAk24
import Derived.Test.YtgkkpefpbfadoaaGreatAk18
import Derived.Test.YtgkkpefpbfadoaaGreatAk17
namespace Go.Proofs.YtgkkpefpbfadoaaGreat
open Go Go.RowKit
open Sy (C SV V1 Blk St XD Els)
set_option maxRecDepth 10000
theorem insOk_good {gl : List OpV} (h : (checkV (opsOf gl)).2 = 0) : insOk gl := fun o ho => by
 obtain ⟨i, hi, rfl⟩ := List.mem_iff_getElem.1 ho
 have hol := opsOf_len gl
 have := rises_len (check_good h i _ (by omega) (opsOf_get (List.getElem?_eq_getElem hi))).2.2.1
 have := (check_ok h).2.1
 omega
def encG (g : List Opr) : List Int := if (checkV g).2 = 0 then gBs g else []
attribute [local irreducible] beN gN checkV
set_option maxHeartbeats 4000000 in
theorem encode_any (v : Value) (gl : List OpV) (w : World) (hr : GOk (fun b => b < w.heap.size) w v gl) :
  Calls Tryz.prog 112 #[.agg #[v]] w (Sy.RetRows Sy.noRow (fun _ : Unit => True) (fun _ => [⟨5, 1, (encG (opsOf gl)).length, (encG (opsOf gl)).map encB⟩]) (fun _ vs => .tuple #[vs.headD undef, .int .i64 (checkV (opsOf gl)).2]) w) := by
 have hol := opsOf_len gl
 have hl := ok_len hr.1
 refine Sy.calls_of Sy.lv112 Sy.tab_ok Tryz.func112 rfl _ Tryz.ntmps112 [⟨v, 5, gl.length, gl.map encOV⟩] [.agg [.row 0]] rfl rfl rfl ⟨hr.1, trivial⟩ ?_
 ((repeat' first|refine Y ?_|refine Y2 ?_ ?_|refine Y1 fun hh=>?_|exact Y0.mk);(all_goals (try conv => whnf)))
 refine Sy.call_val (.tup [.c (.v (.int .i64 (checkV (opsOf gl)).1)), .c (.v (.int .i64 (checkV (opsOf gl)).2))]) Tryz.call157 rfl (fun e a w' h => check_any (e.rv 0) gl w' ⟨Sy.row_reads h (.inr rfl), fun o ho => Sy.later_in h (hr.2 o ho)⟩) ?_
 by_cases h0 : (checkV (opsOf gl)).2 = 0
 ·have hio := insOk_good h0
  have hgl := gN_len hio.ops
  have h8 := check_ok h0
  rw [hol] at hgl h8
  rw [show encG (opsOf gl) = gBs (opsOf gl) from if_pos h0, h0]
  ((repeat' first|refine Y ?_|refine Y2 ?_ ?_|refine Y1 fun hh=>?_|exact Y0.mk);(all_goals (try conv => whnf)))
  refine Sy.ar_wrap ?_
  ((repeat' first|refine Y ?_|refine Y2 ?_ ?_|refine Y1 fun hh=>?_|exact Y0.mk);(all_goals (try conv => whnf)))
  refine Sy.loop_inv Sy.tab_ok (fun n : Nat => [(27, .c (.v (.int .i64 n))), (6, .c (.row 2))]) (fun n => [(2, .row 5 1 (gN (opsOf gl) n).length (.vs ((gN (opsOf gl) n).map encB)))]) (fun n => n ≤ gl.length) (fun n => gl.length - n) 0 (Nat.zero_le _) ?_ (fun n hn => ?_)
  ·rw [show gN (opsOf gl) 0 = [IntKind.u8.wrap gl.length] by unfold gN b8; simp [hol]]
   ((repeat' (first|((conv => whnf);done)|((try conv => whnf);first|exact trivial|(refine And.intro ?_ ?_)|rfl|exact fun _ _ _ h=>h|exact fun _ _ _ _=>trivial)));(all_goals (try conv => whnf)))
  ·have hb := hgl n hn
   ((repeat' first|refine Yd ?_|refine Y2 ?_ ?_|refine Y1 fun hh=>?_|exact Y0.mk);(all_goals (try conv => whnf)))
   ·have hlt : n < gl.length := by omega
    have hg := List.getElem?_eq_getElem hlt
    generalize gl[n] = o at *
    have hs := gN_succ (opsOf_get hg)
    have hoo := hr.at hg
    have hlo := hio o (List.mem_of_getElem? hg)
    have ha := beN_len (u64w o.op.a) 8
    have hbb := beN_len (u64w o.op.b) 8
    generalize hG : gN (opsOf gl) n = G at *
    refine Sy.el_map o hg ?_
    ((repeat' first|refine Yo ?_|refine Y2 ?_ ?_|refine Y1 fun hh=>?_|exact Y0.mk);(all_goals (try conv => whnf)))
    refine Sy.ar_wrap ?_
    ((repeat' first|refine Yo ?_|refine Y2 ?_ ?_|refine Y1 fun hh=>?_|exact Y0.mk);(all_goals (try conv => whnf)))
    refine Sy.ar_wrap ?_
    ((repeat' first|refine Yo ?_|refine Y2 ?_ ?_|refine Y1 fun hh=>?_|exact Y0.mk);(all_goals (try conv => whnf)))
    refine Sy.need_app 1 rfl ⟨by omega, by omega⟩ ?_
    ((repeat' first|refine Yd ?_|refine Y2 ?_ ?_|refine Y1 fun hh=>?_|exact Y0.mk);(all_goals (try conv => whnf)))
    refine zv ?_
    have eB : List.map encB G ++ [[.int .u8 (IntKind.u8.wrap o.op.tag)], [.int .u8 (IntKind.u8.wrap o.op.width)]] = List.map encB (G ++ [b8 o.op.tag, b8 o.op.width]) := by simp [encB, b8]
    have lB : G.length + 2 = (G ++ [b8 o.op.tag, b8 o.op.width]).length := by simp
    (refine open_c 3 2 _ _ _ rfl rfl (hoo) (fun _ h => h) ?_); (conv => whnf)
    rw [eB, lB]
    have lb : (G ++ [b8 o.op.tag, b8 o.op.width]).length ≤ 2000 := by rw [← lB]; omega
    have sB : G ++ opN o.op 0 = (G ++ [b8 o.op.tag, b8 o.op.width]) ++ beN (u64w o.op.a) 8 ++ beN (u64w o.op.b) 8 ++ [b8 o.op.ins.length] := by rw [opN]; simp
    generalize G ++ [b8 o.op.tag, b8 o.op.width] = B at *
    have lb2 : (B ++ beN (u64w o.op.a) 8 ++ beN (u64w o.op.b) 8).length ≤ 2016 := by simp only [List.length_append]; omega
    refine Sy.draw_go [] (by kernel_rfl) ?_
    intro e0
    conv => whnf
    refine zt 0 rfl ?_
    conv => whnf
    refine zt 1 rfl ?_
    conv => whnf
    refine zt 2 rfl ?_
    conv => whnf
    refine zt 3 rfl ?_
    ((repeat' first|refine Y ?_|refine Y2 ?_ ?_|refine Y1 fun hh=>?_|exact Y0.mk);(all_goals (try conv => whnf)))
    refine Sy.ar_wrap ?_
    conv => whnf
    refine zt 5 rfl ?_
    conv => whnf
    refine zt 6 rfl ?_
    conv => whnf
    refine zt 7 rfl ?_
    ((repeat' first|refine Y ?_|refine Y2 ?_ ?_|refine Y1 fun hh=>?_|exact Y0.mk);(all_goals (try conv => whnf)))
    refine Sy.ar_wrap ?_
    conv => whnf
    refine zt 9 rfl ?_
    conv => whnf
    refine zt 10 rfl ?_
    conv => whnf
    refine zt 11 rfl ?_
    ((repeat' first|refine Y ?_|refine Y2 ?_ ?_|refine Y1 fun hh=>?_|exact Y0.mk);(all_goals (try conv => whnf)))
    refine zt 12 rfl ?_
    ((repeat' first|refine Y ?_|refine Y2 ?_ ?_|refine Y1 fun hh=>?_|exact Y0.mk);(all_goals (try conv => whnf)))
    refine Sy.ar_wrap ?_
    conv => whnf
    focus
     refine zd1 [4, 13] (zx rfl ?_ (zx rfl ?_ zy))
     focus
      conv => whnf
      refine Sy.call_r1 ⟨5, 1, (B ++ beN (u64w o.op.a) 8).length, (B ++ beN (u64w o.op.a) 8).map encB⟩ (fun j => .c (.row j)) Tryz.call59 (fun e a w' h => put64_any (e.rv 5) B (u64w o.op.a) w' (Sy.row_reads h (.inl ⟨_, rfl⟩)) (by omega)) ?_
      conv => whnf
      refine Yk ?_
      focus
       refine zd1 [8, 13] (zx rfl ?_ (zx rfl ?_ zy))
       focus
        conv => whnf
        refine Sy.call_r1 ⟨5, 1, (B ++ beN (u64w o.op.a) 8 ++ beN (u64w o.op.b) 8).length, (B ++ beN (u64w o.op.a) 8 ++ beN (u64w o.op.b) 8).map encB⟩ (fun j => .c (.row j)) Tryz.call59 (fun e a w' h => put64_any (e.rv _) (B ++ beN (u64w o.op.a) 8) (u64w o.op.b) w' (Sy.row_reads h (.inl ⟨_, rfl⟩)) (by rw [List.length_append]; omega)) ?_
        conv => whnf
        refine Yk ?_
        refine zd1 [13] (zx rfl ?_ zy)
        conv => whnf
        refine Yk ?_
        refine zd1 [14] (zx rfl ?_ zy)
        conv => whnf
        refine Sy.need_app 1 rfl ⟨by omega, by omega⟩ ?_
        conv => whnf
        refine Yk ?_
        refine zt 15 rfl ?_
        conv => whnf
        refine zw ?_
        ((repeat' first|refine Yo ?_|refine Y2 ?_ ?_|refine Y1 fun hh=>?_|exact Y0.mk);(all_goals (try conv => whnf)))
       rotate_right
       focus
        conv => whnf
        refine Yk ?_
        refine zd1 [8] (zx rfl ?_ zy)
        conv => whnf
        refine Sy.call_r1 ⟨5, 1, (B ++ beN (u64w o.op.a) 8 ++ beN (u64w o.op.b) 8).length, (B ++ beN (u64w o.op.a) 8 ++ beN (u64w o.op.b) 8).map encB⟩ (fun j => .c (.row j)) Tryz.call59 (fun e a w' h => put64_any (e.rv _) (B ++ beN (u64w o.op.a) 8) (u64w o.op.b) w' (Sy.row_reads h (.inl ⟨_, rfl⟩)) (by rw [List.length_append]; omega)) ?_
        conv => whnf
        refine Yk ?_
        refine zd1 [14] (zx rfl ?_ zy)
        conv => whnf
        refine Sy.need_app 1 rfl ⟨by omega, by omega⟩ ?_
        conv => whnf
        refine Yk ?_
        refine zt 15 rfl ?_
        conv => whnf
        refine zw ?_
        ((repeat' first|refine Yo ?_|refine Y2 ?_ ?_|refine Y1 fun hh=>?_|exact Y0.mk);(all_goals (try conv => whnf)))
     rotate_right
     focus
      conv => whnf
      refine Yk ?_
      refine zd1 [4] (zx rfl ?_ zy)
      conv => whnf
      refine Sy.call_r1 ⟨5, 1, (B ++ beN (u64w o.op.a) 8).length, (B ++ beN (u64w o.op.a) 8).map encB⟩ (fun j => .c (.row j)) Tryz.call59 (fun e a w' h => put64_any (e.rv 5) B (u64w o.op.a) w' (Sy.row_reads h (.inl ⟨_, rfl⟩)) (by omega)) ?_
      conv => whnf
      refine Yk ?_
      refine zd1 [8] (zx rfl ?_ zy)
      conv => whnf
      refine Sy.call_r1 ⟨5, 1, (B ++ beN (u64w o.op.a) 8 ++ beN (u64w o.op.b) 8).length, (B ++ beN (u64w o.op.a) 8 ++ beN (u64w o.op.b) 8).map encB⟩ (fun j => .c (.row j)) Tryz.call59 (fun e a w' h => put64_any (e.rv _) (B ++ beN (u64w o.op.a) 8) (u64w o.op.b) w' (Sy.row_reads h (.inl ⟨_, rfl⟩)) (by rw [List.length_append]; omega)) ?_
      conv => whnf
      refine Yk ?_
      refine zd1 [14] (zx rfl ?_ zy)
      conv => whnf
      refine Sy.need_app 1 rfl ⟨by omega, by omega⟩ ?_
      conv => whnf
      refine Yk ?_
      refine zt 15 rfl ?_
      conv => whnf
      refine zw ?_
      ((repeat' first|refine Yo ?_|refine Y2 ?_ ?_|refine Y1 fun hh=>?_|exact Y0.mk);(all_goals (try conv => whnf)))
    all_goals
     refine Sy.loop_inv Sy.tab_ok (fun m : Nat => [(58, .c (.v (.int .i64 m))), (6, .c (.row 10))]) (fun m => [(10, .row 5 1 (G ++ opN o.op m).length (.vs ((G ++ opN o.op m).map encB)))]) (fun m => m ≤ o.op.ins.length) (fun m => o.op.ins.length - m) 0 (Nat.zero_le _) ?_ (fun m hm => ?_)
     ·rw [sB]
      ((repeat' (first|((conv => whnf);done)|((try conv => whnf);first|exact trivial|(refine And.intro ?_ ?_)|rfl|exact fun _ _ _ h=>h|exact fun _ _ _ _=>trivial)));(all_goals (try conv => whnf)))
      ·simp; omega
      ·simp [encB, b8]
     ·have hol2 := opN_len o.op m
      ((repeat' first|refine Yo ?_|refine Y2 ?_ ?_|refine Y1 fun hh=>?_|exact Y0.mk);(all_goals (try conv => whnf)))
      ·have hlm : m < o.op.ins.length := by omega
       have hgm := List.getElem?_eq_getElem hlm
       generalize o.op.ins[m] = x at *
       refine Sy.el_map x hgm ?_
       ((repeat' first|refine Yo ?_|refine Y2 ?_ ?_|refine Y1 fun hh=>?_|exact Y0.mk);(all_goals (try conv => whnf)))
       refine Sy.ar_wrap ?_
       ((repeat' first|refine Yo ?_|refine Y2 ?_ ?_|refine Y1 fun hh=>?_|exact Y0.mk);(all_goals (try conv => whnf)))
       refine Sy.need_app 1 rfl ⟨by simp only [List.length_append]; omega, by simp only [List.length_append]; omega⟩ ?_
       ((repeat' first|refine Yo ?_|refine Y2 ?_ ?_|refine Y1 fun hh=>?_|exact Y0.mk);(all_goals (try conv => whnf)))
       refine ⟨m + 1, by omega, by omega, ?_⟩
       rw [opN_succ hgm, ← List.append_assoc]
       ((repeat' (first|((conv => whnf);done)|((try conv => whnf);first|exact trivial|(refine And.intro ?_ ?_)|rfl|exact fun _ _ _ h=>h|exact fun _ _ _ _=>trivial)));(all_goals (try conv => whnf)))
       all_goals (try simp [encB, b8])
       all_goals (try omega)
      ·have e : m = o.op.ins.length := by omega
       subst e
       rw [opN_all, ← hs]
       refine ⟨n + 1, by omega, by omega, ?_⟩
       ((repeat' (first|((conv => whnf);done)|((try conv => whnf);first|exact trivial|(refine And.intro ?_ ?_)|rfl|exact fun _ _ _ h=>h|exact fun _ _ _ _=>trivial)));(all_goals (try conv => whnf)))
   ·have e : n = gl.length := by omega
    subst e
    rw [show gN (opsOf gl) gl.length = gBs (opsOf gl) by rw [gBs, hol]]
    exact Sy.fin_rows () trivial [.row 2] ⟨rfl, (by intro j hj; cases hj), trivial⟩ (fun e => rfl)
 ·rw [show encG (opsOf gl) = [] from if_neg h0]
  ((repeat' first|refine Y ?_|refine Y2 ?_ ?_|refine Y1 fun hh=>?_|exact Y0.mk);(all_goals (try conv => whnf)))
  exact Sy.fin_rows () trivial [.v (.slice none 0 0)] ⟨⟨rfl, rfl⟩, (by intro j hj; cases hj), trivial⟩ (fun e => rfl)
end Go.Proofs.YtgkkpefpbfadoaaGreat
namespace Go.Proofs.YtgkkpefpbfadoaaGreat.Sn
open Go Go.RowKit
open Sy (C SV V1 Blk St XD Els)
set_option maxRecDepth 10000
def kn (x : Kc) : Int := x.src * 32 + x.key
def ascK (l : List Kc) : Prop := l.Pairwise fun x y => kn x < kn y
def RowsOk (l : List Kc) : Prop := (∀ x ∈ l, recP x.src x.key ∧ 1 ≤ x.cnt) ∧ ascK l
theorem cmpK_kn {s k s' k' : Int} (h : recP s k) (h' : recP s' k') : cmpK s k s' k' = cmpI (s * 32 + k) (s' * 32 + k') := by
 unfold recP at h h'
 unfold cmpK cmpI
 repeat' split
 all_goals omega
theorem chain_pair {l : List Kc} : ∀ {p : Option Kc}, chain okK ltK p l = true → (∀ y, p = some y → recP y.src y.key) → ascK l ∧ ∀ y, p = some y → ∀ x ∈ l, kn y < kn x := by
 induction l with
 | nil => exact fun _ _ => ⟨List.Pairwise.nil, fun _ _ x hx => by cases hx⟩
 |cons x l ih =>
  intro p h hp
  have hx : okK x = true := chain_ok h x List.mem_cons_self
  have hrx := (okK_rec hx).1
  have hrest : chain okK ltK (some x) l = true := by
   cases p with
   | none => simp only [chain, Bool.and_eq_true] at h; exact h.2
   | some y => simp only [chain, Bool.and_eq_true] at h; exact h.2
  obtain ⟨h1, h2⟩ := ih hrest (fun y e => by cases e; exact hrx)
  refine ⟨List.pairwise_cons.2 ⟨fun y hy => h2 x rfl y hy, h1⟩, fun y e z hz => ?_⟩
  subst e
  simp only [chain, Bool.and_eq_true] at h
  have hlt : cmpK y.src y.key x.src x.key < 0 := of_decide_eq_true h.1.2
  rw [cmpK_kn (hp y rfl) hrx] at hlt
  have hyx : kn y < kn x := by
   unfold kn
   unfold cmpI at hlt
   split at hlt
   ·assumption
   ·split at hlt <;> omega
  rcases List.mem_cons.1 hz with rfl | hz
  ·exact hyx
  ·have := h2 x rfl z hz
   omega
theorem tbl_rows {l : List Kc} (h : tblB l = true) : RowsOk l := ⟨fun _ hx => okK_rec (chain_ok h _ hx), (chain_pair h (fun _ e => by cases e)).1⟩
end Go.Proofs.YtgkkpefpbfadoaaGreat.Sn
namespace Go.Proofs.YtgkkpefpbfadoaaGreat.Sn
open Go Go.RowKit
open Sy (C SV V1 Blk St XD Els)
set_option maxRecDepth 10000
theorem ascK_bound : ∀ {l : List Kc} {a b : Int}, ascK l → (∀ p ∈ l, a ≤ kn p ∧ kn p ≤ b) → a ≤ b + 1 → (l.length : Int) ≤ b - a + 1
 | [], a, b, _, _, h => by simp; omega
 |p :: r, a, b, ha, hb, _ => by
  have h1 := hb p List.mem_cons_self
  have h2 := ascK_bound (l := r) (a := kn p + 1) (b := b) (List.pairwise_cons.1 ha).2 (fun q hq => ⟨by have := (List.pairwise_cons.1 ha).1 q hq; omega, (hb q (List.mem_cons_of_mem _ hq)).2⟩) (by omega)
  rw [List.length_cons]; omega
theorem rows_len {l : List Kc} (h : RowsOk l) : l.length ≤ 256 := by
 have := ascK_bound (a := 0) (b := 255) h.2 (fun p hp => by
  have := (h.1 p hp).1
  unfold recP at this
  unfold kn; omega) (by omega)
 omega
theorem names_len {l : List Tx} (h : namesB l = true) : l.length ≤ 24 := by
 unfold namesB at h
 simp only [Bool.and_eq_true, decide_eq_true_eq] at h
 exact h.2
end Go.Proofs.YtgkkpefpbfadoaaGreat.Sn
namespace Go.Proofs.YtgkkpefpbfadoaaGreat.Sn
open Go Go.RowKit
open Sy (C SV V1 Blk St XD Els)
set_option maxRecDepth 10000
def kBs (x : Kc) : List Int := [b8 x.src, b8 x.key] ++ beN (u64w x.cnt) 8 ++ beN (u64w x.sum) 8
def tN (l : List Kc) (n : Nat) : List Int := beN l.length 2 ++ ((l.take n).map kBs).flatten
def tBs (l : List Kc) : List Int := tN l l.length
theorem kBs_len (x : Kc) : (kBs x).length = 18 := by
 unfold kBs
 simp only [List.length_append, beN_len, List.length_cons, List.length_nil]
theorem tN_succ {l : List Kc} {n : Nat} {x : Kc} (h : l[n]? = some x) : tN l (n + 1) = tN l n ++ kBs x := by
 obtain ⟨hn, he⟩ := List.getElem?_eq_some_iff.1 h
 unfold tN
 rw [List.take_succ_eq_append_getElem hn, he, List.map_append, List.flatten_append]
 simp
theorem tN_len (l : List Kc) : ∀ n, n ≤ l.length → (tN l n).length = 2 + 18 * n
 | 0, _ => by simp [tN, beN_len]
 |n + 1, h => by
  rw [tN_succ (List.getElem?_eq_getElem (show n < l.length by omega)), List.length_append, tN_len l n (by omega), kBs_len]; omega
set_option maxHeartbeats 4000000 in
theorem tenc_any (v : Value) (l : List Kc) (w : World) (hr : XD.ok (fun b => b < w.heap.size) w ⟨v, 4, l.length, l.map encK⟩) (hl : tblB l = true) :
  Calls Tryz.prog 197 #[.agg #[v]] w (Sy.RetRows Sy.noRow (fun _ : Unit => True) (fun _ => [⟨5, 1, (tBs l).length, (tBs l).map encB⟩]) (fun _ vs => .tuple #[vs.headD undef, .int .i64 0]) w) := by
 have hln := rows_len (tbl_rows hl)
 refine Sy.calls_of Sy.lv197 Sy.tab_ok Tryz.func197 rfl _ Tryz.ntmps197 [⟨v, 4, l.length, l.map encK⟩] [.agg [.row 0]] rfl rfl rfl ⟨hr, trivial⟩ ?_
 ((repeat' first|refine Y ?_|refine Y2 ?_ ?_|refine Y1 fun hh=>?_|exact Y0.mk);(all_goals (try conv => whnf)))
 refine Sy.call_val (.c (.v (.int .i64 0))) Tryz.call148 rfl (fun e a w' h => by have := tbl_any (e.rv 0) l w' (Sy.row_reads h (.inr rfl)); rw [if_pos hl] at this; exact this) ?_
 ((repeat' first|refine Y ?_|refine Y2 ?_ ?_|refine Y1 fun hh=>?_|exact Y0.mk);(all_goals (try conv => whnf)))
 refine Sy.ar_wrap ?_
 rw [show IntKind.u16.wrap (l.length : Int) = (l.length : Int) by rw [IntKind.wrap_u16]; omega]
 ((repeat' first|refine Y ?_|refine Y2 ?_ ?_|refine Y1 fun hh=>?_|exact Y0.mk);(all_goals (try conv => whnf)))
 refine Sy.call_r1 ⟨5, 1, (tN l 0).length, (tN l 0).map encB⟩ (fun j => .c (.row j)) Tryz.call158 (fun e a w' h => by
  have := put16_any (.slice none 0 0) [] l.length w' nil_ok (by decide) ⟨by omega, by omega⟩
  rw [show tN l 0 = [] ++ beN l.length 2 by simp [tN]]
  exact this) ?_
 ((repeat' first|refine Y ?_|refine Y2 ?_ ?_|refine Y1 fun hh=>?_|exact Y0.mk);(all_goals (try conv => whnf)))
 refine Sy.loop_inv Sy.tab_ok (fun n : Nat => [(21, .c (.v (.int .i64 n))), (5, .c (.row 2))]) (fun n => [(2, .row 5 1 (tN l n).length (.vs ((tN l n).map encB)))]) (fun n => n ≤ l.length) (fun n => l.length - n) 0 (Nat.zero_le _) ?_ (fun n hn => ?_)
 ·((repeat' (first|((conv => whnf);done)|((try conv => whnf);first|exact trivial|(refine And.intro ?_ ?_)|rfl|exact fun _ _ _ h=>h|exact fun _ _ _ _=>trivial)));(all_goals (try conv => whnf)))
 ·have hgl := tN_len l n hn
  by_cases hlt : n < l.length
  ·have hg := List.getElem?_eq_getElem hlt
   generalize l[n] = x at *
   have hs := tN_succ hg
   have hb1 := beN_len (u64w x.cnt) 8
   have hb2 := beN_len (u64w x.sum) 8
   generalize tN l n = G at *
   ((repeat' first|refine Y ?_|refine Y2 ?_ ?_|refine Y1 fun hh=>?_|exact Y0.mk);(all_goals (try conv => whnf)))
   refine Sy.el_map x hg ?_
   ((repeat' first|refine Y ?_|refine Y2 ?_ ?_|refine Y1 fun hh=>?_|exact Y0.mk);(all_goals (try conv => whnf)))
   refine Sy.ar_wrap ?_
   ((repeat' first|refine Y ?_|refine Y2 ?_ ?_|refine Y1 fun hh=>?_|exact Y0.mk);(all_goals (try conv => whnf)))
   refine Sy.ar_wrap ?_
   ((repeat' first|refine Y ?_|refine Y2 ?_ ?_|refine Y1 fun hh=>?_|exact Y0.mk);(all_goals (try conv => whnf)))
   refine Sy.need_app 1 rfl ⟨by omega, by omega⟩ ?_
   have eB : List.map encB G ++ [[.int .u8 (IntKind.u8.wrap x.src)], [.int .u8 (IntKind.u8.wrap x.key)]] = List.map encB (G ++ [b8 x.src, b8 x.key]) := by simp [encB, b8]
   have lB : G.length + 2 = (G ++ [b8 x.src, b8 x.key]).length := by simp
   ((repeat' first|refine Y ?_|refine Y2 ?_ ?_|refine Y1 fun hh=>?_|exact Y0.mk);(all_goals (try conv => whnf)))
   rw [eB, lB]
   have sB : G ++ kBs x = (G ++ [b8 x.src, b8 x.key]) ++ beN (u64w x.cnt) 8 ++ beN (u64w x.sum) 8 := by unfold kBs; simp
   rw [sB] at hs
   have lb : (G ++ [b8 x.src, b8 x.key]).length ≤ 9000 := by rw [← lB]; omega
   generalize G ++ [b8 x.src, b8 x.key] = B at *
   have lb2 : (B ++ beN (u64w x.cnt) 8).length ≤ 9008 := by rw [List.length_append]; omega
   refine Sy.draw_go [] (by kernel_rfl) ?_
   intro e0
   conv => whnf
   refine zt 0 rfl ?_
   conv => whnf
   refine zt 1 rfl ?_
   conv => whnf
   refine zt 2 rfl ?_
   conv => whnf
   refine zt 3 rfl ?_
   conv => whnf
   refine zt 4 rfl ?_
   ((repeat' first|refine Y ?_|refine Y2 ?_ ?_|refine Y1 fun hh=>?_|exact Y0.mk);(all_goals (try conv => whnf)))
   refine Sy.ar_wrap ?_
   conv => whnf
   refine zt 6 rfl ?_
   conv => whnf
   refine zt 7 rfl ?_
   conv => whnf
   refine zt 8 rfl ?_
   conv => whnf
   refine zt 9 rfl ?_
   ((repeat' first|refine Y ?_|refine Y2 ?_ ?_|refine Y1 fun hh=>?_|exact Y0.mk);(all_goals (try conv => whnf)))
   refine Sy.ar_wrap ?_
   conv => whnf
   refine zd1 [5] (zx rfl ?_ zy)
   conv => whnf
   refine Sy.call_r1 ⟨5, 1, (B ++ beN (u64w x.cnt) 8).length, (B ++ beN (u64w x.cnt) 8).map encB⟩ (fun j => .c (.row j)) Tryz.call59 (fun e a w' h => put64_any (e.rv 5) B (u64w x.cnt) w' (Sy.row_reads h (.inl ⟨_, rfl⟩)) (by omega)) ?_
   conv => whnf
   refine Yk ?_
   refine zd1 [10] (zx rfl ?_ zy)
   conv => whnf
   refine Sy.call_r1 ⟨5, 1, (B ++ beN (u64w x.cnt) 8 ++ beN (u64w x.sum) 8).length, (B ++ beN (u64w x.cnt) 8 ++ beN (u64w x.sum) 8).map encB⟩ (fun j => .c (.row j)) Tryz.call59 (fun e a w' h => put64_any (e.rv 6) (B ++ beN (u64w x.cnt) 8) (u64w x.sum) w' (Sy.row_reads h (.inl ⟨_, rfl⟩)) (by omega)) ?_
   conv => whnf
   refine Yk ?_
   refine zt 11 rfl ?_
   conv => whnf
   refine zw ?_
   skip
   all_goals (((repeat' first|refine Y ?_|refine Y2 ?_ ?_|refine Y1 fun hh=>?_|exact Y0.mk);(all_goals (try conv => whnf))))
   all_goals (refine ⟨n + 1, by omega, by omega, ?_⟩)
   all_goals (rw [hs])
   all_goals (((repeat' (first|((conv => whnf);done)|((try conv => whnf);first|exact trivial|(refine And.intro ?_ ?_)|rfl|exact fun _ _ _ h=>h|exact fun _ _ _ _=>trivial)));(all_goals (try conv => whnf))))
  ·have e : n = l.length := by omega
   subst e
   rw [show tN l l.length = tBs l from rfl]
   ((repeat' first|refine Y ?_|refine Y2 ?_ ?_|refine Y1 fun hh=>?_|exact Y0.mk);(all_goals (try conv => whnf)))
   exact Sy.fin_r1 (.row 2) rfl (fun e => rfl)
end Go.Proofs.YtgkkpefpbfadoaaGreat.Sn
