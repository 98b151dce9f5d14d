/- Slots: how much is free; the widest one. -/
import Derived.Test.YtjhjmeajdebcbaaSH
namespace Go.Proofs.Ytjhjmeajdebcbaa
open Go Go.RowKit
open Sy (C SV V1 Blk St XD Els)
set_option maxRecDepth 10000

/-- What these entries hold, together. -/
def sumAt (l : List (Int × Int)) : List Nat → Int
  | [] => 0
  | i :: r => (match l[i]? with
    | some c => c.2
    | none => 0) + sumAt l r
def sumL (l : List (Int × Int)) : Int := (l.map Prod.snd).sum
theorem sumAt_app (l : List (Int × Int)) : ∀ a b, sumAt l (a ++ b) = sumAt l a + sumAt l b
  | [], b => by simp [sumAt]
  | i :: a, b => by rw [List.cons_append, sumAt, sumAt, sumAt_app l a b]; omega
theorem sumAt_same {l l' : List (Int × Int)} : ∀ {a : List Nat}, (∀ i ∈ a, l[i]? = l'[i]?) → sumAt l a = sumAt l' a
  | [], _ => rfl
  | i :: a, h => by rw [sumAt, sumAt, h i (List.mem_cons_self ..), sumAt_same fun j hj => h j (List.mem_cons_of_mem _ hj)]
theorem sumL_snoc (l : List (Int × Int)) (c : Int × Int) : sumL (l ++ [c]) = sumL l + c.2 := by
  unfold sumL
  rw [List.map_append, List.sum_append]
  simp
theorem sumAt_range : ∀ (n : Nat) (l : List (Int × Int)), l.length = n → sumAt l (List.range n) = sumL l
  | 0, l, h => by rw [List.eq_nil_of_length_eq_zero h]; rfl
  | n + 1, l, h => by
    have hl : l = l.take n ++ [l[n]] := by
      rw [← List.take_succ_eq_append_getElem (show n < l.length by omega), List.take_of_length_le (by omega)]
    have hlen : (l.take n).length = n := by rw [List.length_take]; omega
    rw [List.range_succ, sumAt_app, sumAt_same (l' := l.take n) fun i hi => by rw [List.getElem?_take_of_lt (List.mem_range.1 hi)], sumAt_range n _ hlen]
    conv => rhs; rw [hl, sumL_snoc]
    rw [sumAt, List.getElem?_eq_getElem (show n < l.length by omega), sumAt]
    dsimp only
    omega
theorem sumAt_less {l : List (Int × Int)} {i : Nat} {c : Int × Int} (hc : l[i]? = some c) : ∀ {a : List Nat}, a.Nodup → i ∈ a → sumAt l a = c.2 + sumAt l (a.filter fun j => !(Nat.beq j i))
  | [], _, h => by cases h
  | j :: a, hn, h => by
    obtain ⟨h1, h2⟩ := List.nodup_cons.1 hn
    by_cases hj : j = i
    · subst hj
      have hf : (j :: a).filter (fun k => !(Nat.beq k j)) = a := by
        rw [List.filter_cons, if_neg (by simp [Nat.beq_refl])]
        refine List.filter_eq_self.2 fun k hk => ?_
        cases hb : Nat.beq k j with
        | true => exact absurd (Nat.eq_of_beq_eq_true hb ▸ hk) h1
        | false => rfl
      rw [hf, sumAt, hc]
    · have hb : Nat.beq j i = false := by
        cases hb : Nat.beq j i with
        | true => exact absurd (Nat.eq_of_beq_eq_true hb) hj
        | false => rfl
      rw [List.filter_cons, if_pos (by rw [hb]; rfl), sumAt, sumAt, sumAt_less hc h2 ((List.mem_cons.1 h).resolve_left fun h => hj h.symm)]
      omega
theorem sumAt_nat {l : List (Int × Int)} (h : ∀ c ∈ l, 0 ≤ c.2 ∧ c.2 ≤ 8) : ∀ a : List Nat, 0 ≤ sumAt l a ∧ sumAt l a ≤ 8 * a.length
  | [] => by simp [sumAt]
  | i :: a => by
    have ih := sumAt_nat h a
    rw [sumAt, List.length_cons]
    cases hc : l[i]? with
    | none => dsimp only; omega
    | some c => have := h c (List.mem_of_getElem? hc); dsimp only; omega
/-- The widest of these, the least of them: whose it is. -/
def WidP (l : List (Int × Int)) (r : Int × Int) : Prop := (r = (0, 0) ∧ ∀ z ∈ l, z.2 ≤ 0) ∨ (r ∈ l ∧ 0 < r.2 ∧ ∀ z ∈ l, z.2 ≤ r.2 ∧ (z.2 = r.2 → r.1 ≤ z.1))
theorem WidP.one {l : List (Int × Int)} {r s : Int × Int} (h : WidP l r) (h' : WidP l s) : r = s := by
  rcases h with ⟨rfl, h1⟩ | ⟨h1, h2, h3⟩
  · rcases h' with ⟨rfl, _⟩ | ⟨h4, h5, _⟩
    · rfl
    · have := h1 s h4; omega
  · rcases h' with ⟨rfl, h4⟩ | ⟨h4, h5, h6⟩
    · have := h4 r h1; omega
    · have a := h3 s h4
      have b := h6 r h1
      have e : r.2 = s.2 := by omega
      exact Prod.ext (by have := a.2 e.symm; have := b.2 e; omega) e
theorem ok_vals {ws ps : List (Int × Int)} (h : FlOk ws ps) : ∀ c ∈ frL ws ps, 0 ≤ c.2 ∧ c.2 ≤ 8 := fun c hc => by
  unfold frL at hc
  obtain ⟨p, hp, rfl⟩ := List.mem_map.1 hc
  obtain ⟨⟨h1, _⟩, _, h5⟩ := h
  have a := h1 p hp
  have b := h5 p hp
  have c := cntW_le ps p.1
  unfold okW at a
  dsimp only
  omega
theorem frL_len (ws ps : List (Int × Int)) : (frL ws ps).length = ws.length := by unfold frL; rw [List.length_map]
def freeV (ws ps : List (Int × Int)) : Int := if FlOk ws ps then sumL (frL ws ps) else 0
attribute [local irreducible] mpI frL cntW okW okT FlOk sumL sumAt
set_option maxHeartbeats 1000000 in
theorem total_any (u v : Value) (ws ps : List (Int × Int)) (w : World) (hok : FlOk ws ps) (hu : XD.ok (fun b => b < w.heap.size) w ⟨u, 2, ws.length, ws.map enc2⟩) (hv : XD.ok (fun b => b < w.heap.size) w ⟨v, 2, ps.length, ps.map enc2⟩) :
    Calls Try.prog 44 #[.agg #[u, v]] w (Sy.Ret (.int .i64 (sumL (frL ws ps))) w) := by
  have hwl := (ok_lens hok).1
  have hvs := ok_vals hok
  have hlen := frL_len ws ps
  refine Sy.calls_of Sy.lv44 Sy.tab_ok Try.func44 rfl _ Try.ntmps44 [⟨u, 2, ws.length, ws.map enc2⟩, ⟨v, 2, ps.length, ps.map enc2⟩] [.agg [.row 0, .row 1]] rfl rfl rfl ⟨hu, hv, trivial⟩ ?_
  ((repeat' ((conv => whnf);(first|refine zA ?_|(refine zI ?_ ?_<;> intro hh<;> first|(exfalso;omega)|skip)|(refine zl ?_ ?_<;> intro hh)|refine zq ?_|refine zv ?_|refine zu ?_|exact Sy.fin_val fun e=>rfl)));(all_goals (try conv => whnf)))
  refine Sy.call_own (free_does ws ps (ok_free hok)) Try.call45 ?_ (fun _ _ _ _ _ _ => trivial) (fun _ _ _ _ _ _ _ _ _ => trivial)
  ((conv => whnf);(refine And.intro ?_ (And.intro ?_ (And.intro ?_ (And.intro ?_ ?_))));(all_goals ((repeat' (first|((conv => whnf);done)|((try conv => whnf);first|exact trivial|(refine And.intro ?_ ?_)|rfl|exact fun _ _ _ h=>h|exact fun _ _ _ _=>trivial)));(all_goals (try conv => whnf))));rotate_right)
  intro _ _ G
  ((repeat' ((conv => whnf);(first|refine zA ?_|(refine zI ?_ ?_<;> intro hh<;> first|(exfalso;omega)|skip)|(refine zl ?_ ?_<;> intro hh)|refine zq ?_|refine zv ?_|refine zu ?_|exact Sy.fin_val fun e=>rfl)));(all_goals (try conv => whnf)))
  refine Sy.rng_in (fun g st cl hs1 hs2 hs3 => ?_)
  ((repeat' ((conv => whnf);(first|refine zA ?_|(refine zI ?_ ?_<;> intro hh<;> first|(exfalso;omega)|skip)|(refine zl ?_ ?_<;> intro hh)|refine zq ?_|refine zv ?_|refine zu ?_|exact Sy.fin_val fun e=>rfl)));(all_goals (try conv => whnf)))
  refine Sy.loop_inv Sy.tab_ok (fun x : List Nat × Int => [(3, .c (.v (.int .i64 x.2)))]) (fun x => [(4, .it g st cl x.1)]) (fun x => x.1.Nodup ∧ x.1.length ≤ 4 ∧ x.2 + sumAt (frL ws ps) x.1 = sumL (frL ws ps)) (fun x => x.1.length) (List.range (mpI (frL ws ps)).length, 0) ⟨List.nodup_range, by dsimp only; rw [List.length_range, mpI_len]; omega, by dsimp only; rw [mpI_len, sumAt_range _ _ rfl]; omega⟩ ?_ (fun x hx => ?_)
  · ((repeat' (first|((conv => whnf);done)|((try conv => whnf);first|exact trivial|(refine And.intro ?_ ?_)|rfl|exact fun _ _ _ h=>h|exact fun _ _ _ _=>trivial)));(all_goals (try conv => whnf)))
  · obtain ⟨left, n⟩ := x
    dsimp only at hx ⊢
    obtain ⟨hnd, hl4, hsum⟩ := hx
    ((repeat' ((conv => whnf);(first|refine zA ?_|(refine zI ?_ ?_<;> intro hh<;> first|(exfalso;omega)|skip)|(refine zl ?_ ?_<;> intro hh)|refine zq ?_|refine zv ?_|refine zu ?_|exact Sy.fin_val fun e=>rfl)));(all_goals (try conv => whnf)))
    refine Sy.nxt_in 3 (mpI (frL ws ps)) rfl mpI_one (fun h0 => ?_) (fun i kv x hi hz => ?_)
    · have hn : n = sumL (frL ws ps) := by rw [h0] at hsum; unfold sumAt at hsum; omega
      rw [← hn]
      ((repeat' ((conv => whnf);(first|refine zA ?_|(refine zI ?_ ?_<;> intro hh<;> first|(exfalso;omega)|skip)|(refine zl ?_ ?_<;> intro hh)|refine zq ?_|refine zv ?_|refine zu ?_|exact Sy.fin_val fun e=>rfl)));(all_goals (try conv => whnf)))
      all_goals done
    · obtain ⟨c, hc, rfl, rfl⟩ := mpI_at hz
      have hcv := hvs c (List.mem_of_getElem? hc)
      have hless := sumAt_less hc hnd hi
      have hb := sumAt_nat hvs (left.filter fun j => !(Nat.beq j i))
      have hb0 := sumAt_nat hvs left
      have htot : 0 ≤ sumL (frL ws ps) ∧ sumL (frL ws ps) ≤ 32 := by
        have := sumAt_nat hvs (List.range (frL ws ps).length)
        rw [sumAt_range _ _ rfl, List.length_range] at this
        omega
      have hfl := left_less hi
      ((repeat' ((conv => whnf);(first|refine zA ?_|(refine zI ?_ ?_<;> intro hh<;> first|(exfalso;omega)|skip)|(refine zl ?_ ?_<;> intro hh)|refine zq ?_|refine zv ?_|refine zu ?_|exact Sy.fin_val fun e=>rfl)));(all_goals (try conv => whnf)))
      refine Sy.ent_in 3 (mpI (frL ws ps)) rfl mpI_one (fun kv2 x2 hz2 => ?_)
      obtain ⟨d, hd, rfl, rfl⟩ := mpI_at hz2
      rw [hc] at hd
      obtain rfl := Option.some.inj hd
      ((repeat' ((conv => whnf);(first|refine zA ?_|(refine zI ?_ ?_<;> intro hh<;> first|(exfalso;omega)|skip)|(refine zl ?_ ?_<;> intro hh)|refine zq ?_|refine zv ?_|refine zu ?_|exact Sy.fin_val fun e=>rfl)));(all_goals (try conv => whnf)))
      refine ⟨(left.filter fun j => !(Nat.beq j i), n + c.2), ⟨hnd.sublist List.filter_sublist, by dsimp only; omega, by dsimp only; omega⟩, hfl, ?_⟩
      dsimp only
      ((repeat' (first|((conv => whnf);done)|((try conv => whnf);first|exact trivial|(refine And.intro ?_ ?_)|rfl|exact fun _ _ _ h=>h|exact fun _ _ _ _=>trivial)));(all_goals (try conv => whnf)))
theorem free_any (u v : Value) (ws ps : List (Int × Int)) (w : World) (hu : XD.ok (fun b => b < w.heap.size) w ⟨u, 2, ws.length, ws.map enc2⟩) (hv : XD.ok (fun b => b < w.heap.size) w ⟨v, 2, ps.length, ps.map enc2⟩) (hb : ps.length ≤ 1000) :
    Calls Try.prog 22 #[.agg #[u, v]] w (Sy.Ret (.int .i64 (freeV ws ps)) w) := by
  refine Sy.calls_of Sy.lv22 Sy.tab_ok Try.func22 rfl _ Try.ntmps22 [⟨u, 2, ws.length, ws.map enc2⟩, ⟨v, 2, ps.length, ps.map enc2⟩] [.agg [.row 0, .row 1]] rfl rfl rfl ⟨hu, hv, trivial⟩ ?_
  ((repeat' ((conv => whnf);(first|refine zA ?_|(refine zI ?_ ?_<;> intro hh<;> first|(exfalso;omega)|skip)|(refine zl ?_ ?_<;> intro hh)|refine zq ?_|refine zv ?_|refine zu ?_|exact Sy.fin_val fun e=>rfl)));(all_goals (try conv => whnf)))
  refine Sy.call_val (.c (.v (.int .i64 (chkE ws ps)))) Try.call20 rfl (fun e a w' h => check_any (e.rv 0) (e.rv 1) ws ps w' (Sy.row_reads h (.inr rfl)) (Sy.row_reads h (.inr rfl)) hb) ?_
  by_cases hok : FlOk ws ps
  · rw [show chkE ws ps = 0 from if_pos hok, show freeV ws ps = sumL (frL ws ps) from if_pos hok]
    ((repeat' ((conv => whnf);(first|refine zA ?_|(refine zI ?_ ?_<;> intro hh<;> first|(exfalso;omega)|skip)|(refine zl ?_ ?_<;> intro hh)|refine zq ?_|refine zv ?_|refine zu ?_|exact Sy.fin_val fun e=>rfl)));(all_goals (try conv => whnf)))
    refine Sy.call_val (.c (.v (.int .i64 (sumL (frL ws ps))))) Try.call44 rfl (fun e a w' h => total_any (e.rv 0) (e.rv 1) ws ps w' hok (Sy.row_reads h (.inr rfl)) (Sy.row_reads h (.inr rfl))) ?_
    ((repeat' ((conv => whnf);(first|refine zA ?_|(refine zI ?_ ?_<;> intro hh<;> first|(exfalso;omega)|skip)|(refine zl ?_ ?_<;> intro hh)|refine zq ?_|refine zv ?_|refine zu ?_|exact Sy.fin_val fun e=>rfl)));(all_goals (try conv => whnf)))
    all_goals done
  · rw [show chkE ws ps = 210 from if_neg hok, show freeV ws ps = 0 from if_neg hok]
    ((repeat' ((conv => whnf);(first|refine zA ?_|(refine zI ?_ ?_<;> intro hh<;> first|(exfalso;omega)|skip)|(refine zl ?_ ?_<;> intro hh)|refine zq ?_|refine zv ?_|refine zu ?_|exact Sy.fin_val fun e=>rfl)));(all_goals (try conv => whnf)))
    all_goals done
end Go.Proofs.Ytjhjmeajdebcbaa
