/- Frame: a reader's numbers. -/
import Derived.Test.YtgkkpefpbfadoaaGreatAk37
namespace Go.Proofs.YtgkkpefpbfadoaaGreat
open Go Go.RowKit
open Sy (C SV V1 Blk St XD Els)
set_option maxRecDepth 10000
theorem YL {G R : Prop} (h : R) (e : Bx R → G := by
 intro h
 (conv => whnf)
 refine And.intro ?_ (And.intro ?_ (And.intro ?_ (And.intro ?_ h.o)))
 all_goals ((repeat' (first|((conv => whnf);done)|((try conv => whnf);first|exact trivial|(refine And.intro ?_ ?_)|rfl|exact fun _ _ _ h=>h|exact fun _ _ _ _=>trivial)));(all_goals (try conv => whnf)))) : G := e ⟨h⟩
structure Rg (s0 s : Rs) : Prop where
 ok : ∀ (F : Nat → Prop) (w : World), s0.ok F w → s.ok F w
 b : Sn.bytesOk s.l
theorem Rg.rd {s0 s : Rs} (h : Rg s0 s) (k : Nat) : Rg s0 (s.rd k) := ⟨fun F w h0 => Rs.rd_ok (h.ok F w h0) k, by
 unfold Rs.rd
 split
 ·exact h.b
 ·split
  ·exact h.b
  ·exact fun c hc => h.b c (List.mem_of_mem_drop hc)⟩
def Rs.rv (s : Rs) (k : Nat) : Value := if s.e ≠ 0 ∨ s.l.length < k then .slice none 0 0 else .slice s.A k k
theorem rd_e {A : Option Addr} {c : Nat} {l : List Int} {e : Int} (k : Nat) (h : e ≠ 0) : Rs.rd ⟨A, c, l, e⟩ k = ⟨A, c, l, e⟩ ∧ Rs.by ⟨A, c, l, e⟩ k = [] ∧ Rs.rv ⟨A, c, l, e⟩ k = .slice none 0 0 := ⟨if_pos h, if_pos (.inl h), if_pos (.inl h)⟩
theorem rd_s {A : Option Addr} {c : Nat} {l : List Int} {k : Nat} (h : l.length < k) : Rs.rd ⟨A, c, l, 0⟩ k = ⟨A, c, l, 7⟩ ∧ Rs.by ⟨A, c, l, 0⟩ k = [] ∧ Rs.rv ⟨A, c, l, 0⟩ k = .slice none 0 0 := ⟨(if_neg fun h => h rfl).trans (if_pos h), if_pos (.inr h), if_pos (.inr h)⟩
theorem rd_k {A : Option Addr} {c : Nat} {l : List Int} {k : Nat} (h : ¬ l.length < k) : Rs.rd ⟨A, c, l, 0⟩ k = ⟨if c = k then A else A.map (·.add (k * 1)), c - k, l.drop k, 0⟩ ∧ Rs.by ⟨A, c, l, 0⟩ k = l.take k ∧ Rs.rv ⟨A, c, l, 0⟩ k = .slice A k k :=
 ⟨(if_neg fun h => h rfl).trans (if_neg h), if_neg fun h' => h'.elim (fun h => h rfl) h, if_neg fun h' => h'.elim (fun h => h rfl) h⟩
structure Ps where
 l : List Int
 e : Int
def Ps.by (p : Ps) (k : Nat) : List Int := if p.e ≠ 0 ∨ p.l.length < k then [] else p.l.take k
def Ps.rd (p : Ps) (k : Nat) : Ps := if p.e ≠ 0 then p else if p.l.length < k then ⟨p.l, 7⟩ else ⟨p.l.drop k, 0⟩
def Ps.n (p : Ps) (k : Nat) : Int := Sn.num (p.by k)
def Rs.p (s : Rs) : Ps := ⟨s.l, s.e⟩
theorem rd_p (s : Rs) (k : Nat) : (s.rd k).p = s.p.rd k := by
 obtain ⟨A, c, l, e⟩ := s
 unfold Rs.rd Ps.rd Rs.p
 dsimp only
 split
 ·rfl
 ·split <;> rfl
theorem by_p (s : Rs) (k : Nat) : Sn.num (s.by k) = s.p.n k := rfl
def bitC (s0 s : Rs) (k : Nat) : Sy.Ctr Unit := { avs := [.c (.loc 0 0), .c (.v (.int .i64 ((8 * k : Nat) : Int)))], n0 := 1, H0 := rdrH s, pre := fun F w => s0.ok F w, sv := fun _ => .c (.v (.int .u64 (Sn.num (s.by k)))), n1 := fun _ => 1, H1 := fun _ => rdrH (s.rd k) }
theorem bit_does {s0 s : Rs} (g : Rg s0 s) (k : Nat) (hk : k ≤ 8) : Sy.Does Tryz.prog 127 (bitC s0 s k) := by
 obtain ⟨A, c, l, e⟩ := s
 have h8 : Sn.bytesOk l := g.b
 suffices h : Sy.Does Tryz.prog 127 { bitC s0 ⟨A, c, l, e⟩ k with H0 := rdH A c l e } from h
 refine Sy.does_of Sy.lv127 Sy.tab_ok Tryz.func127 rfl _ Tryz.ntmps127 _ rfl rfl (fun e0 w hpre => ?_)
 have hpre : XD.ok (Sy.frz e0 (bitC s0 ⟨A, c, l, e⟩ k).H0 w) w ⟨.slice A l.length c, 1, l.length, l.map encB⟩ := g.ok _ _ hpre
 obtain ⟨_, _, _, _, hv, hlc, _⟩ := hpre.1
 have hlc : l.length ≤ c := by injection hv with _ _ hv; dsimp only at hlc; omega
 clear hv
 ((repeat' first|refine Y ?_|refine Y2 ?_ ?_|refine Y1 fun hh=>?_|exact Y0.mk);(all_goals (try conv => whnf)))
 refine Sy.div_in ⟨by omega, by omega⟩ (by decide) ?_
 rw [show ((8 * k : Nat) : Int) / 8 = (k : Int) by omega]
 ((repeat' first|refine Y ?_|refine Y2 ?_ ?_|refine Y1 fun hh=>?_|exact Y0.mk);(all_goals (try conv => whnf)))
 refine Sy.call_in Sy.lv164 Sy.tab_ok Tryz.func164 rfl _ Tryz.ntmps164 Tryz.call164 rfl (fun _ => ?_)
 by_cases he : e ≠ 0
 ·obtain ⟨r1, r2, _⟩ := rd_e (A := A) (c := c) (l := l) k he
  ((repeat' first|refine Y ?_|refine Y2 ?_ ?_|refine Y1 fun hh=>?_|exact Y0.mk);(all_goals (try conv => whnf)))
  refine Sy.fin_own () trivial ?_
  ((conv => whnf);(refine And.intro ?_ (And.intro ?_ (And.intro ?_ ?_)));(all_goals ((repeat' (first|((conv => whnf);done)|((try conv => whnf);first|exact trivial|(refine And.intro ?_ ?_)|rfl|exact fun _ _ _ h=>h|exact fun _ _ _ _=>trivial)));(all_goals (try conv => whnf)))))
  all_goals first | rw [r1] | (rw [r2]; rfl)
 obtain rfl : e = 0 := Decidable.not_not.1 he
 by_cases hlt : l.length < k
 ·obtain ⟨r1, r2, _⟩ := rd_s (A := A) (c := c) hlt
  ((repeat' first|refine Y ?_|refine Y2 ?_ ?_|refine Y1 fun hh=>?_|exact Y0.mk);(all_goals (try conv => whnf)))
  refine Sy.fin_own () trivial ?_
  ((conv => whnf);(refine And.intro ?_ (And.intro ?_ (And.intro ?_ ?_)));(all_goals ((repeat' (first|((conv => whnf);done)|((try conv => whnf);first|exact trivial|(refine And.intro ?_ ?_)|rfl|exact fun _ _ _ h=>h|exact fun _ _ _ _=>trivial)));(all_goals (try conv => whnf)))))
  all_goals first | rw [r1] | (rw [r2]; rfl)
 obtain ⟨r1, r2, _⟩ := rd_k (A := A) (c := c) hlt
 ((repeat' first|refine Y ?_|refine Y2 ?_ ?_|refine Y1 fun hh=>?_|exact Y0.mk);(all_goals (try conv => whnf)))
 refine Sy.slv_hi3 k rfl rfl ⟨by omega, by omega⟩ ?_
 ((repeat' first|refine Y ?_|refine Y2 ?_ ?_|refine Y1 fun hh=>?_|exact Y0.mk);(all_goals (try conv => whnf)))
 refine Sy.call_own (val_does (.slice A k k) (l.take k) (by rw [List.length_take]; omega) (fun c hc => h8 c (List.mem_of_mem_take hc)) rfl) Tryz.call165 ?_ (fun e a w' F' h hF' => Rs.by_ok (e := 0) (XD.ok.mono (XD.later h hpre) hF') (by omega))
 ((conv => whnf);(refine And.intro ?_ (And.intro ?_ (And.intro ?_ (And.intro ?_ ?_))));(all_goals ((repeat' (first|((conv => whnf);done)|((try conv => whnf);first|exact trivial|(refine And.intro ?_ ?_)|rfl|exact fun _ _ _ h=>h|exact fun _ _ _ _=>trivial)));(all_goals (try conv => whnf))));rotate_right)
 intro _ _ _
 conv => whnf
 ((repeat' first|refine Y ?_|refine Y2 ?_ ?_|refine Y1 fun hh=>?_|exact Y0.mk);(all_goals (try conv => whnf)))
 refine Sy.slv_lo k rfl ⟨by omega, by omega⟩ ?_
 ((repeat' first|refine Y ?_|refine Y2 ?_ ?_|refine Y1 fun hh=>?_|exact Y0.mk);(all_goals (try conv => whnf)))
 refine Sy.fin_own () trivial ?_
 ((conv => whnf);(refine And.intro ?_ (And.intro ?_ (And.intro ?_ ?_)));(all_goals ((repeat' (first|((conv => whnf);done)|((try conv => whnf);first|exact trivial|(refine And.intro ?_ ?_)|rfl|exact fun _ _ _ h=>h|exact fun _ _ _ _=>trivial)));(all_goals (try conv => whnf)))))
 all_goals first | rw [r1] | (rw [r2]; done)
 all_goals (have hd : (l.drop k).length = l.length - k := List.length_drop; dsimp only; rw [hd]; rfl)
theorem Rg.num {s0 s : Rs} (g : Rg s0 s) (k : Nat) : 0 ≤ Sn.num (s.by k) ∧ Sn.num (s.by k) < 256 ^ k := by
 unfold Rs.by
 split
 ·exact ⟨by decide, Int.pow_pos (by decide)⟩
 ·exact Sn.take_bound g.b k
def uC (s0 s : Rs) (k : Nat) (v : Value) : Sy.Ctr Unit := { avs := [.c (.loc 0 0)], n0 := 1, H0 := rdrH s, pre := fun F w => s0.ok F w, sv := fun _ => .c (.v v), n1 := fun _ => 1, H1 := fun _ => rdrH (s.rd k) }
abbrev Sc := Option Addr × Nat
def Sc.v (x : Sc) (l : List Int) : Value := .slice x.1 l.length x.2
def Sc.xd (x : Sc) (l : List Int) : XD := ⟨x.v l, 1, l.length, l.map encB⟩
theorem clone_mem (n : Nat) (v : Value) (l : List Int) (w : World) (hn : n ≤ w.heap.size) (hr : XD.ok (fun b => b < w.heap.size) w ⟨v, 1, l.length, l.map encB⟩) (hb : l.length ≤ 1000000) :
  Calls Tryz.prog 126 #[v] w (Sy.RetMem (fun x G w' => XD.ok (fun b => G b ∧ n ≤ b) w' (Sc.xd x l)) (fun x => Sc.v x l) w) := (mem_r1 n hn (cloneB_any v l w hr hb)).mono fun E w' ⟨x, hE, hb, hx⟩ => by
 obtain ⟨_, _, A, c, hv, _⟩ := hx.1
 have hv : x.v = .slice A l.length c := hv
 refine ⟨(A, c), ?_, hb, ?_⟩
 ·rw [hE]
  show Ending.returned x.v = _
  rw [hv]; rfl
 ·show XD.ok _ _ ⟨.slice A l.length c, _, _, _⟩
  rw [← hv]
  exact hx
attribute [local irreducible] Rs.rd Rs.by Rs.rv
theorem u8_does {s0 s : Rs} (g : Rg s0 s) : Sy.Does Tryz.prog 128 (uC s0 s 1 (.int .u8 (Sn.num (s.by 1)))) := by
 have hn := g.num 1
 refine Sy.does_of Sy.lv128 Sy.tab_ok Tryz.func128 rfl _ Tryz.ntmps128 _ rfl rfl (fun e0 w hpre => ?_)
 ((repeat' first|refine Y ?_|refine Y2 ?_ ?_|refine Y1 fun hh=>?_|exact Y0.mk);(all_goals (try conv => whnf)))
 refine Sy.call_own (bit_does g 1 (by decide)) Tryz.call127 ?_ (fun e a w' F' h hF' => XD.ok.mono (XD.later h hpre) hF')
 ((conv => whnf);(refine And.intro ?_ (And.intro ?_ (And.intro ?_ (And.intro ?_ ?_))));(all_goals ((repeat' (first|((conv => whnf);done)|((try conv => whnf);first|exact trivial|(refine And.intro ?_ ?_)|rfl|exact fun _ _ _ h=>h|exact fun _ _ _ _=>trivial)));(all_goals (try conv => whnf))));rotate_right)
 intro _ _ _
 conv => whnf
 ((repeat' first|refine Y ?_|refine Y2 ?_ ?_|refine Y1 fun hh=>?_|exact Y0.mk);(all_goals (try conv => whnf)))
 refine Sy.ar_wrap ?_
 rw [show IntKind.u8.wrap (Sn.num (s.by 1)) = Sn.num (s.by 1) by rw [IntKind.wrap_u8]; omega]
 ((repeat' first|refine Y ?_|refine Y2 ?_ ?_|refine Y1 fun hh=>?_|exact Y0.mk);(all_goals (try conv => whnf)))
 refine Sy.fin_own () trivial ?_
 ((conv => whnf);(refine And.intro ?_ (And.intro ?_ (And.intro ?_ ?_)));(all_goals ((repeat' (first|((conv => whnf);done)|((try conv => whnf);first|exact trivial|(refine And.intro ?_ ?_)|rfl|exact fun _ _ _ h=>h|exact fun _ _ _ _=>trivial)));(all_goals (try conv => whnf)))))
theorem u16_does {s0 s : Rs} (g : Rg s0 s) : Sy.Does Tryz.prog 169 (uC s0 s 2 (.int .u16 (Sn.num (s.by 2)))) := by
 have hn := g.num 2
 refine Sy.does_of Sy.lv169 Sy.tab_ok Tryz.func169 rfl _ Tryz.ntmps169 _ rfl rfl (fun e0 w hpre => ?_)
 ((repeat' first|refine Y ?_|refine Y2 ?_ ?_|refine Y1 fun hh=>?_|exact Y0.mk);(all_goals (try conv => whnf)))
 refine Sy.call_own (bit_does g 2 (by decide)) Tryz.call127 ?_ (fun e a w' F' h hF' => XD.ok.mono (XD.later h hpre) hF')
 ((conv => whnf);(refine And.intro ?_ (And.intro ?_ (And.intro ?_ (And.intro ?_ ?_))));(all_goals ((repeat' (first|((conv => whnf);done)|((try conv => whnf);first|exact trivial|(refine And.intro ?_ ?_)|rfl|exact fun _ _ _ h=>h|exact fun _ _ _ _=>trivial)));(all_goals (try conv => whnf))));rotate_right)
 intro _ _ _
 conv => whnf
 ((repeat' first|refine Y ?_|refine Y2 ?_ ?_|refine Y1 fun hh=>?_|exact Y0.mk);(all_goals (try conv => whnf)))
 refine Sy.ar_wrap ?_
 rw [show IntKind.u16.wrap (Sn.num (s.by 2)) = Sn.num (s.by 2) by rw [IntKind.wrap_u16]; omega]
 ((repeat' first|refine Y ?_|refine Y2 ?_ ?_|refine Y1 fun hh=>?_|exact Y0.mk);(all_goals (try conv => whnf)))
 refine Sy.fin_own () trivial ?_
 ((conv => whnf);(refine And.intro ?_ (And.intro ?_ (And.intro ?_ ?_)));(all_goals ((repeat' (first|((conv => whnf);done)|((try conv => whnf);first|exact trivial|(refine And.intro ?_ ?_)|rfl|exact fun _ _ _ h=>h|exact fun _ _ _ _=>trivial)));(all_goals (try conv => whnf)))))
theorem u32_does {s0 s : Rs} (g : Rg s0 s) : Sy.Does Tryz.prog 78 (uC s0 s 4 (.int .u32 (Sn.num (s.by 4)))) := by
 have hn := g.num 4
 refine Sy.does_of Sy.lv78 Sy.tab_ok Tryz.func78 rfl _ Tryz.ntmps78 _ rfl rfl (fun e0 w hpre => ?_)
 ((repeat' first|refine Y ?_|refine Y2 ?_ ?_|refine Y1 fun hh=>?_|exact Y0.mk);(all_goals (try conv => whnf)))
 refine Sy.call_own (bit_does g 4 (by decide)) Tryz.call127 ?_ (fun e a w' F' h hF' => XD.ok.mono (XD.later h hpre) hF')
 ((conv => whnf);(refine And.intro ?_ (And.intro ?_ (And.intro ?_ (And.intro ?_ ?_))));(all_goals ((repeat' (first|((conv => whnf);done)|((try conv => whnf);first|exact trivial|(refine And.intro ?_ ?_)|rfl|exact fun _ _ _ h=>h|exact fun _ _ _ _=>trivial)));(all_goals (try conv => whnf))));rotate_right)
 intro _ _ _
 conv => whnf
 ((repeat' first|refine Y ?_|refine Y2 ?_ ?_|refine Y1 fun hh=>?_|exact Y0.mk);(all_goals (try conv => whnf)))
 refine Sy.ar_wrap ?_
 rw [show IntKind.u32.wrap (Sn.num (s.by 4)) = Sn.num (s.by 4) by rw [IntKind.wrap_u32]; omega]
 ((repeat' first|refine Y ?_|refine Y2 ?_ ?_|refine Y1 fun hh=>?_|exact Y0.mk);(all_goals (try conv => whnf)))
 refine Sy.fin_own () trivial ?_
 ((conv => whnf);(refine And.intro ?_ (And.intro ?_ (And.intro ?_ ?_)));(all_goals ((repeat' (first|((conv => whnf);done)|((try conv => whnf);first|exact trivial|(refine And.intro ?_ ?_)|rfl|exact fun _ _ _ h=>h|exact fun _ _ _ _=>trivial)));(all_goals (try conv => whnf)))))
theorem u64_does {s0 s : Rs} (g : Rg s0 s) : Sy.Does Tryz.prog 81 (uC s0 s 8 (.int .u64 (Sn.num (s.by 8)))) := by
 refine Sy.does_of Sy.lv81 Sy.tab_ok Tryz.func81 rfl _ Tryz.ntmps81 _ rfl rfl (fun e0 w hpre => ?_)
 ((repeat' first|refine Y ?_|refine Y2 ?_ ?_|refine Y1 fun hh=>?_|exact Y0.mk);(all_goals (try conv => whnf)))
 refine Sy.call_own (bit_does g 8 (by decide)) Tryz.call127 ?_ (fun e a w' F' h hF' => XD.ok.mono (XD.later h hpre) hF')
 ((conv => whnf);(refine And.intro ?_ (And.intro ?_ (And.intro ?_ (And.intro ?_ ?_))));(all_goals ((repeat' (first|((conv => whnf);done)|((try conv => whnf);first|exact trivial|(refine And.intro ?_ ?_)|rfl|exact fun _ _ _ h=>h|exact fun _ _ _ _=>trivial)));(all_goals (try conv => whnf))));rotate_right)
 intro _ _ _
 conv => whnf
 ((repeat' first|refine Y ?_|refine Y2 ?_ ?_|refine Y1 fun hh=>?_|exact Y0.mk);(all_goals (try conv => whnf)))
 refine Sy.fin_own () trivial ?_
 ((conv => whnf);(refine And.intro ?_ (And.intro ?_ (And.intro ?_ ?_)));(all_goals ((repeat' (first|((conv => whnf);done)|((try conv => whnf);first|exact trivial|(refine And.intro ?_ ?_)|rfl|exact fun _ _ _ h=>h|exact fun _ _ _ _=>trivial)));(all_goals (try conv => whnf)))))
theorem err_does (s : Rs) : Sy.Does Tryz.prog 170 { avs := [.c (.loc 0 0)], n0 := 1, H0 := rdrH s, sv := fun _ : Unit => .c (.v (.int .i64 s.e)), n1 := fun _ => 1, H1 := fun _ => rdrH s } := by
 refine Sy.does_of Sy.lv170 Sy.tab_ok Tryz.func170 rfl _ Tryz.ntmps170 _ rfl rfl (fun e0 w hpre => ?_)
 ((repeat' first|refine Y ?_|refine Y2 ?_ ?_|refine Y1 fun hh=>?_|exact Y0.mk);(all_goals (try conv => whnf)))
 refine Sy.fin_own () trivial ?_
 ((conv => whnf);(refine And.intro ?_ (And.intro ?_ (And.intro ?_ ?_)));(all_goals ((repeat' (first|((conv => whnf);done)|((try conv => whnf);first|exact trivial|(refine And.intro ?_ ?_)|rfl|exact fun _ _ _ h=>h|exact fun _ _ _ _=>trivial)));(all_goals (try conv => whnf)))))
theorem left_does {s0 s : Rs} (g : Rg s0 s) (hb : s.l.length ≤ 1000000) : Sy.Does Tryz.prog 172 { avs := [.c (.loc 0 0)], n0 := 1, H0 := rdrH s, pre := fun F w => s0.ok F w, sv := fun _ : Unit => .c (.v (.int .i64 s.l.length)), n1 := fun _ => 1, H1 := fun _ => rdrH s } := by
 refine Sy.does_of Sy.lv172 Sy.tab_ok Tryz.func172 rfl _ Tryz.ntmps172 _ rfl rfl (fun e0 w hpre => ?_)
 ((repeat' first|refine Y ?_|refine Y2 ?_ ?_|refine Y1 fun hh=>?_|exact Y0.mk);(all_goals (try conv => whnf)))
 refine Sy.call_in Sy.lv202 Sy.tab_ok Tryz.func202 rfl _ Tryz.ntmps202 Tryz.call202 rfl (fun _ => ?_)
 ((repeat' first|refine Y ?_|refine Y2 ?_ ?_|refine Y1 fun hh=>?_|exact Y0.mk);(all_goals (try conv => whnf)))
 refine Sy.call_mem (fun (x : Sc) G w' => XD.ok (fun b => G b ∧ 0 ≤ b) w' (x.xd s.l)) (fun x => .c (.v (x.v s.l))) Tryz.call126 (fun x => rfl) (fun x G G' w1 w2 h hG hk => XD.ok.keep h (fun b hb => ⟨hG b hb.1, hb.2⟩) fun b hb => hk b hb.1) (fun e a w' h => clone_mem 0 _ s.l w' (Nat.zero_le _) (XD.ok.mono (g.ok _ _ (XD.later h hpre)) h.fl) hb) (fun x G => ?_)
 ((repeat' first|refine Y ?_|refine Y2 ?_ ?_|refine Y1 fun hh=>?_|exact Y0.mk);(all_goals (try conv => whnf)))
 refine Sy.fin_own () trivial ?_
 ((conv => whnf);(refine And.intro ?_ (And.intro ?_ (And.intro ?_ ?_)));(all_goals ((repeat' (first|((conv => whnf);done)|((try conv => whnf);first|exact trivial|(refine And.intro ?_ ?_)|rfl|exact fun _ _ _ h=>h|exact fun _ _ _ _=>trivial)));(all_goals (try conv => whnf)))))
theorem raw_does {s0 s : Rs} (g : Rg s0 s) (k : Nat) : Sy.Does Tryz.prog 168 { avs := [.c (.loc 0 0), .c (.v (.int .i64 k))], n0 := 1, H0 := rdrH s, pre := fun F w => s0.ok F w, sv := fun _ : Unit => .c (.v (s.rv k)), n1 := fun _ => 1, H1 := fun _ => rdrH (s.rd k) } := by
 obtain ⟨A, c, l, e⟩ := s
 suffices h : Sy.Does Tryz.prog 168 { avs := [.c (.loc 0 0), .c (.v (.int .i64 k))], n0 := 1, H0 := rdH A c l e, pre := fun F w => s0.ok F w, sv := fun _ : Unit => .c (.v (Rs.rv ⟨A, c, l, e⟩ k)), n1 := fun _ => 1, H1 := fun _ => rdrH (Rs.rd ⟨A, c, l, e⟩ k) } from h
 refine Sy.does_of Sy.lv168 Sy.tab_ok Tryz.func168 rfl _ Tryz.ntmps168 _ rfl rfl (fun e0 w hpre => ?_)
 have hpre : s0.ok (Sy.frz e0 (rdH A c l e) w) w := hpre
 have hpre : XD.ok (Sy.frz e0 (rdH A c l e) w) w ⟨.slice A l.length c, 1, l.length, l.map encB⟩ := g.ok _ _ hpre
 obtain ⟨_, _, _, _, hv, hlc, _⟩ := hpre.1
 have hlc : l.length ≤ c := by injection hv with _ _ hv; dsimp only at hlc; omega
 clear hv
 ((repeat' first|refine Y ?_|refine Y2 ?_ ?_|refine Y1 fun hh=>?_|exact Y0.mk);(all_goals (try conv => whnf)))
 refine Sy.call_in Sy.lv164 Sy.tab_ok Tryz.func164 rfl _ Tryz.ntmps164 Tryz.call164 rfl (fun _ => ?_)
 by_cases he : e ≠ 0
 ·obtain ⟨r1, _, r2⟩ := rd_e (A := A) (c := c) (l := l) k he
  ((repeat' first|refine Y ?_|refine Y2 ?_ ?_|refine Y1 fun hh=>?_|exact Y0.mk);(all_goals (try conv => whnf)))
  refine Sy.fin_own () trivial ?_
  ((conv => whnf);(refine And.intro ?_ (And.intro ?_ (And.intro ?_ ?_)));(all_goals ((repeat' (first|((conv => whnf);done)|((try conv => whnf);first|exact trivial|(refine And.intro ?_ ?_)|rfl|exact fun _ _ _ h=>h|exact fun _ _ _ _=>trivial)));(all_goals (try conv => whnf)))))
  all_goals first | rw [r1] | (rw [r2]; rfl)
 obtain rfl : e = 0 := Decidable.not_not.1 he
 by_cases hlt : l.length < k
 ·obtain ⟨r1, _, r2⟩ := rd_s (A := A) (c := c) hlt
  ((repeat' first|refine Y ?_|refine Y2 ?_ ?_|refine Y1 fun hh=>?_|exact Y0.mk);(all_goals (try conv => whnf)))
  refine Sy.fin_own () trivial ?_
  ((conv => whnf);(refine And.intro ?_ (And.intro ?_ (And.intro ?_ ?_)));(all_goals ((repeat' (first|((conv => whnf);done)|((try conv => whnf);first|exact trivial|(refine And.intro ?_ ?_)|rfl|exact fun _ _ _ h=>h|exact fun _ _ _ _=>trivial)));(all_goals (try conv => whnf)))))
  all_goals first | rw [r1] | (rw [r2]; rfl)
 obtain ⟨r1, _, r2⟩ := rd_k (A := A) (c := c) hlt
 ((repeat' first|refine Y ?_|refine Y2 ?_ ?_|refine Y1 fun hh=>?_|exact Y0.mk);(all_goals (try conv => whnf)))
 refine Sy.slv_hi3 k rfl rfl ⟨by omega, by omega⟩ ?_
 ((repeat' first|refine Y ?_|refine Y2 ?_ ?_|refine Y1 fun hh=>?_|exact Y0.mk);(all_goals (try conv => whnf)))
 refine Sy.call_in Sy.lv200 Sy.tab_ok Tryz.func200 rfl _ Tryz.ntmps200 Tryz.call200 rfl (fun _ => ?_)
 ((repeat' first|refine Y ?_|refine Y2 ?_ ?_|refine Y1 fun hh=>?_|exact Y0.mk);(all_goals (try conv => whnf)))
 refine Sy.slv_lo k rfl ⟨by omega, by omega⟩ ?_
 ((repeat' first|refine Y ?_|refine Y2 ?_ ?_|refine Y1 fun hh=>?_|exact Y0.mk);(all_goals (try conv => whnf)))
 refine Sy.fin_own () trivial ?_
 ((conv => whnf);(refine And.intro ?_ (And.intro ?_ (And.intro ?_ ?_)));(all_goals ((repeat' (first|((conv => whnf);done)|((try conv => whnf);first|exact trivial|(refine And.intro ?_ ?_)|rfl|exact fun _ _ _ h=>h|exact fun _ _ _ _=>trivial)));(all_goals (try conv => whnf)))))
 all_goals first | rw [r1] | (rw [r2]; done)
 all_goals (have hd : (l.drop k).length = l.length - k := List.length_drop; dsimp only; rw [hd]; rfl)
def Sc.rs (x : Sc) (l : List Int) : Rs := ⟨x.1, x.2, l, 0⟩
theorem Sc.rg (x : Sc) {l : List Int} (h : Sn.bytesOk l) : Rg (x.rs l) (x.rs l) := ⟨fun _ _ h => h, h⟩
theorem one_arg {n : Nat} {v : Value} (h : v.oneCell' = true) : Sy.allLt n [.c (.v v)] = true := by
 show (match v.oneCell' with | true => true | false => false) = true
 rw [h]
theorem read_does (v : Value) (b : List Int) (hv : v.oneCell' = true) (hb : b.length ≤ 1000000) : Sy.Does Tryz.prog 77 { avs := [.c (.v v)], n0 := 0, H0 := [], pre := fun F w => XD.ok F w ⟨v, 1, b.length, b.map encB⟩, sv := fun _ : Sc => .c (.loc 0 0), n1 := fun _ => 1, H1 := fun x => rdrH (x.rs b), learn := true, q := fun x G w => (x.rs b).ok G w } := by
 refine Sy.does_of Sy.lv77 Sy.tab_ok Tryz.func77 rfl _ Tryz.ntmps77 _ (one_arg hv) rfl (fun e0 w hpre => ?_)
 ((repeat' first|refine Y ?_|refine Y2 ?_ ?_|refine Y1 fun hh=>?_|exact Y0.mk);(all_goals (try conv => whnf)))
 refine Sy.call_mem (fun (x : Sc) G w' => XD.ok (fun b => G b ∧ w.heap.size ≤ b) w' (x.xd b)) (fun x => .c (.v (x.v b))) Tryz.call126 (fun x => rfl) (fun x G G' w1 w2 h hG hk => XD.ok.keep h (fun b hb => ⟨hG b hb.1, hb.2⟩) fun b hb => hk b hb.1) (fun e a w' h => clone_mem w.heap.size _ b w' h.bel.size (XD.ok.mono (XD.later h hpre) h.fl) hb) (fun x G => ?_)
 ((repeat' first|refine Y ?_|refine Y2 ?_ ?_|refine Y1 fun hh=>?_|exact Y0.mk);(all_goals (try conv => whnf)))
 refine Sy.fin_own x trivial ?_ rfl (fun w' hw' => ⟨fun b => (_ ∨ G b) ∧ w.heap.size ≤ b, fun b hb => ⟨hb.1, fun h => by have := h.1; omega⟩, hw'.2⟩)
 ((conv => whnf);(refine And.intro ?_ (And.intro ?_ (And.intro ?_ ?_)));(all_goals ((repeat' (first|((conv => whnf);done)|((try conv => whnf);first|exact trivial|(refine And.intro ?_ ?_)|rfl|exact fun _ _ _ h=>h|exact fun _ _ _ _=>trivial)));(all_goals (try conv => whnf)))))
end Go.Proofs.YtgkkpefpbfadoaaGreat
