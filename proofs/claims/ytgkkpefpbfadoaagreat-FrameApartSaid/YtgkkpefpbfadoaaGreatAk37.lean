/- Frame: what a reader gives away. -/
import Derived.Test.YtgkkpefpbfadoaaGreatAk36
import Derived.Test.YtgkkpefpbfadoaaGreatAk35
namespace Go.Proofs.YtgkkpefpbfadoaaGreat
open Go Go.RowKit
open Sy (C SV V1 Blk St XD Els)
set_option maxRecDepth 10000
structure Rs where
 A : Option Addr
 c : Nat
 l : List Int
 e : Int
def Rs.v (s : Rs) : Value := .slice s.A s.l.length s.c
def Rs.ok (F : Nat → Prop) (w : World) (s : Rs) : Prop := XD.ok F w ⟨s.v, 1, s.l.length, s.l.map encB⟩
def Rs.rd (s : Rs) (k : Nat) : Rs := if s.e ≠ 0 then s else if s.l.length < k then { s with e := 7 } else ⟨if s.c = k then s.A else s.A.map (·.add (k * 1)), s.c - k, s.l.drop k, 0⟩
def Rs.by (s : Rs) (k : Nat) : List Int := if s.e ≠ 0 ∨ s.l.length < k then [] else s.l.take k
theorem Rs.rd_ok {F : Nat → Prop} {w : World} {s : Rs} (h : s.ok F w) (k : Nat) : (s.rd k).ok F w := by
 unfold Rs.rd
 split
 ·exact h
 ·split
  ·exact h
  ·rename_i hl
   obtain ⟨⟨h1, h2, A, c, hv, h3, h4, h5⟩, h6⟩ := h
   have hv : Value.slice s.A s.l.length s.c = .slice A s.l.length c := hv
   injection hv with e1 _ e2
   subst e1; subst e2
   have h3 : s.l.length ≤ s.c := h3
   have hld : (s.l.drop k).length = s.l.length - k := List.length_drop
   refine ⟨⟨by simp, fun c hc => ?_, _, _, rfl, by dsimp only; omega, by dsimp only; omega, fun hp => ?_⟩, fun c hc => ?_⟩
   ·obtain ⟨x, _, rfl⟩ := List.mem_map.1 hc; rfl
   ·dsimp only at hp
    obtain ⟨p, hA, hF, hc⟩ := h5 (by dsimp only; omega)
    refine ⟨if s.c = k then p else p.add (k * 1), ?_, ?_, fun i u hu => ?_⟩
    ·have hA : s.A = some p := hA
     rw [hA]; split <;> rfl
    ·split
     ·exact hF
     ·rw [Sy.addr_block]; exact hF
    ·have hne : ¬ s.c = k := by omega
     rw [if_neg hne, Sy.addr_add]
     refine hc _ u ?_
     dsimp only at hu ⊢
     rw [List.map_drop] at hu
     have hf := Sy.flat_drop (sz := 1) (xs := s.l.map encB) (fun c hc => by obtain ⟨x, _, rfl⟩ := List.mem_map.1 hc; rfl) k
     rw [hf, List.getElem?_drop] at hu
     exact hu
   ·obtain ⟨x, _, rfl⟩ := List.mem_map.1 hc
    intro u hu
    rw [List.mem_singleton.1 hu]; rfl
theorem Rs.by_ok {F : Nat → Prop} {w : World} {A : Option Addr} {c : Nat} {l : List Int} {e : Int} (h : Rs.ok F w ⟨A, c, l, e⟩) {k : Nat} (hk : k ≤ l.length) : XD.ok F w ⟨.slice A k k, 1, (l.take k).length, (l.take k).map encB⟩ := by
 obtain ⟨⟨h1, h2, A', c', hv, h3, h4, h5⟩, h6⟩ := h
 have hv : Value.slice A l.length c = .slice A' l.length c' := hv
 injection hv with e1 _ e2
 subst e1; subst e2
 have hlt : (l.take k).length = k := by rw [List.length_take]; omega
 rw [hlt]
 refine ⟨⟨by rw [List.length_map]; exact hlt, fun c hc => h2 c (by rw [List.map_take] at hc; exact List.mem_of_mem_take hc), _, _, rfl, Nat.le_refl _, by have h3 : l.length ≤ c := h3; omega, fun hp => ?_⟩, fun c hc => h6 c (by rw [List.map_take] at hc; exact List.mem_of_mem_take hc)⟩
 obtain ⟨p, hA, hF, hc⟩ := h5 (by dsimp only at hp ⊢; omega)
 refine ⟨p, hA, hF, fun i u hu => hc i u ?_⟩
 dsimp only at hu ⊢
 rw [List.map_take, Sy.flat_take (sz := 1) (xs := l.map encB) (fun c hc => by obtain ⟨x, _, rfl⟩ := List.mem_map.1 hc; rfl)] at hu
 rw [List.getElem?_take] at hu
 split at hu
 ·exact hu
 ·cases hu
def rdH (A : Option Addr) (c : Nat) (l : List Int) (e : Int) : List (Nat × Blk) := [(0, .cells 161 [.v (.slice A l.length c), .v (.int .i64 e)])]
def rdrH (s : Rs) : List (Nat × Blk) := rdH s.A s.c s.l s.e
def valC (u : Value) (l : List Int) : Sy.Ctr Unit := { avs := [.c (.v u), .c (.loc 0 0)], n0 := 1, H0 := [(0, .cells 22 [.v (.int .u64 0)])], pre := fun F w => XD.ok F w ⟨u, 1, l.length, l.map encB⟩, sv := fun _ => .tup [], n1 := fun _ => 1, H1 := fun _ => [(0, .cells 22 [.v (.int .u64 (Sn.num l))])] }
theorem val_does (u : Value) (l : List Int) (hl : l.length ≤ 8) (h8 : Sn.bytesOk l) (hu : u.oneCell' = true) : Sy.Does Tryz.prog 165 (valC u l) := by
 refine Sy.does_of Sy.lv165 Sy.tab_ok Tryz.func165 rfl _ Tryz.ntmps165 _ (by show (match u.oneCell' with | true => true | false => false) = true; rw [hu]) rfl (fun e0 w hpre => ?_)
 have hpre : XD.ok (Sy.frz e0 (valC u l).H0 w) w ⟨u, 1, l.length, l.map encB⟩ := hpre
 obtain ⟨_, _, A, c, hv, _⟩ := hpre.1
 have hv : u = .slice A l.length c := hv
 subst hv
 ((repeat' first|refine Yc ?_|refine Y2 ?_ ?_|refine Y1 fun hh=>?_|exact Y0.mk);(all_goals (try conv => whnf)))
 refine Sy.sem_subF (Sy.sub_openS 0 1 l.length (l.map encB) rfl (Sy.reads_w0 hpre.1) hpre.2) ?_
 conv => whnf
 refine Sy.loop_inv Sy.tab_ok (fun i : Nat => [(6, .c (.v (.int .i64 i)))]) (fun i => [(0, .cells 22 [.v (.int .u64 (Sn.num (l.drop (l.length - i))))])]) (fun i => i ≤ l.length) (fun i => l.length - i) 0 (Nat.zero_le _) ?_ (fun i hi => ?_)
 ·rw [show Sn.num (l.drop (l.length - 0)) = 0 by rw [Nat.sub_zero, List.drop_length]; rfl]
  ((repeat' (first|((conv => whnf);done)|((try conv => whnf);first|exact trivial|(refine And.intro ?_ ?_)|rfl|exact fun _ _ _ h=>h|exact fun _ _ _ _=>trivial)));(all_goals (try conv => whnf)))
 ·by_cases hlt : i < l.length
  ·have hg := List.getElem?_eq_getElem (show l.length - 1 - i < l.length by omega)
   have hb := h8 _ (List.getElem_mem (show l.length - 1 - i < l.length by omega))
   have hd : l.drop (l.length - (i + 1)) = l[l.length - 1 - i] :: l.drop (l.length - i) := by
    rw [show l.length - (i + 1) = l.length - 1 - i by omega, List.drop_eq_getElem_cons (by omega), show l.length - 1 - i + 1 = l.length - i by omega]
   generalize l[l.length - 1 - i] = b at *
   have hx := Sn.num_bound (l := l.drop (l.length - i)) fun y hy => h8 y (List.mem_of_mem_drop hy)
   rw [List.length_drop, show l.length - (l.length - i) = i by omega] at hx
   have hor := Sn.or_high _ b i (by omega) hx hb
   have hnum : Sn.num (l.drop (l.length - (i + 1))) = b * 256 ^ i + Sn.num (l.drop (l.length - i)) := by
    rw [hd, Sn.num_cons, List.length_drop, show l.length - (l.length - i) = i by omega]
   generalize Sn.num (l.drop (l.length - i)) = x at *
   have hix : ((l.length : Int) - 1 - (i : Int)).toNat = l.length - 1 - i := by omega
   ((repeat' first|refine Y ?_|refine Y2 ?_ ?_|refine Y1 fun hh=>?_|exact Y0.mk);(all_goals (try conv => whnf)))
   refine Sy.draw_go [0] (by kernel_rfl) ?_
   intro e0
   conv => whnf
   refine zt 1 rfl ?_
   conv => whnf
   refine zt 2 rfl ?_
   conv => whnf
   refine zt 3 rfl ?_
   ((repeat' first|refine Y ?_|refine Y2 ?_ ?_|refine Y1 fun hh=>?_|exact Y0.mk);(all_goals (try conv => whnf)))
   refine zt 4 rfl ?_
   ((repeat' first|refine Y ?_|refine Y2 ?_ ?_|refine Y1 fun hh=>?_|exact Y0.mk);(all_goals (try conv => whnf)))
   refine zt 5 rfl ?_
   conv => whnf
   refine zt 6 rfl ?_
   ((repeat' first|refine Y ?_|refine Y2 ?_ ?_|refine Y1 fun hh=>?_|exact Y0.mk);(all_goals (try conv => whnf)))
   refine zt 7 rfl ?_
   ((repeat' first|refine Y ?_|refine Y2 ?_ ?_|refine Y1 fun hh=>?_|exact Y0.mk);(all_goals (try conv => whnf)))
   refine zt 8 rfl ?_
   conv => whnf
   refine Sy.el_map b (by rw [hix]; exact hg) ?_
   conv => whnf
   refine zt 9 rfl ?_
   ((repeat' first|refine Y ?_|refine Y2 ?_ ?_|refine Y1 fun hh=>?_|exact Y0.mk);(all_goals (try conv => whnf)))
   refine Sy.ar_u64 (by omega) ?_
   conv => whnf
   refine zt 10 rfl ?_
   conv => whnf
   refine zt 11 rfl ?_
   ((repeat' first|refine Y ?_|refine Y2 ?_ ?_|refine Y1 fun hh=>?_|exact Y0.mk);(all_goals (try conv => whnf)))
   refine zt 12 rfl ?_
   ((repeat' first|refine Y ?_|refine Y2 ?_ ?_|refine Y1 fun hh=>?_|exact Y0.mk);(all_goals (try conv => whnf)))
   refine Sy.sh_nat (y := 8 * i) ?_
   conv => whnf
   refine Sy.ar_wrap ?_
   conv => whnf
   refine zd1 [0] (zx rfl ?_ zy)
   conv => whnf
   refine Yk ?_
   refine zt 13 rfl ?_
   ((repeat' first|refine Y ?_|refine Y2 ?_ ?_|refine Y1 fun hh=>?_|exact Y0.mk);(all_goals (try conv => whnf)))
   refine zd1 [14] (zx rfl ?_ zy)
   conv => whnf
   refine Yk ?_
   refine zw ?_
   skip
   ((repeat' first|refine Y ?_|refine Y2 ?_ ?_|refine Y1 fun hh=>?_|exact Y0.mk);(all_goals (try conv => whnf)))
   refine ⟨i + 1, by omega, by omega, ?_⟩
   rw [hor, ← hnum]
   ((repeat' (first|((conv => whnf);done)|((try conv => whnf);first|exact trivial|(refine And.intro ?_ ?_)|rfl|exact fun _ _ _ h=>h|exact fun _ _ _ _=>trivial)));(all_goals (try conv => whnf)))
  ·have e : i = l.length := by omega
   subst e
   rw [Nat.sub_self, List.drop_zero]
   ((repeat' first|refine Y ?_|refine Y2 ?_ ?_|refine Y1 fun hh=>?_|exact Y0.mk);(all_goals (try conv => whnf)))
   refine Sy.fin_own () trivial ?_
   ((conv => whnf);(refine And.intro ?_ (And.intro ?_ (And.intro ?_ ?_)));(all_goals ((repeat' (first|((conv => whnf);done)|((try conv => whnf);first|exact trivial|(refine And.intro ?_ ?_)|rfl|exact fun _ _ _ h=>h|exact fun _ _ _ _=>trivial)));(all_goals (try conv => whnf)))))
end Go.Proofs.YtgkkpefpbfadoaaGreat
