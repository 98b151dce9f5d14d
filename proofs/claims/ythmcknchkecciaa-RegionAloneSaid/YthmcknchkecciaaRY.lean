/- Region: the law Alone. -/
import Derived.Test.YthmcknchkecciaaRX
import Derived.Test.YthmcknchkecciaaRQ
namespace Go.Proofs.Ythmcknchkecciaa
open Go Go.RowKit
open Sy (C SV V1 Blk St XD Els)
set_option maxRecDepth 10000

theorem bag_ok {X : Sy.Cx} {e : Sy.Env} {S : St} {a : Act} {w : World} (h : Sy.Rep X e S a w) {kb : Nat} {ls : List OpV} (hk : Sy.get S.H kb = some (.bag 3 1 (bagL ls))) : ∀ o ∈ ls, OOk (fun b => b < w.heap.size) w o := fun o ho => by
  have := Sy.bag_reads h hk (List.mem_map.2 ⟨o, ho, rfl⟩)
  exact XD.ok.mono this.reads fun b hb => hb.1
def csOf (lc : List OpV) (i k : Nat) (o : OpV) : Els := .cs ((lc.map fun o => (encOV o).map C.v).set i [.v (.int .i64 o.op.tag), .v (.int .i64 o.op.width), .row k, .v (.int .i64 o.op.a), .v (.int .i64 o.op.b)])
theorem set_self {lc : List OpV} {i : Nat} {o : OpV} (u : Value) : (lc.map encOV).set i (encOV ⟨o.op, u⟩) = (lc.set i ⟨o.op, u⟩).map encOV := by rw [List.map_set]
theorem csOf_den (e : Sy.Env) (lc : List OpV) (i k : Nat) (o : OpV) : (csOf lc i k o).den e = (lc.set i ⟨o.op, e.rv k⟩).map encOV := by
  unfold csOf
  show List.map _ (List.set _ _ _) = _
  rw [List.map_set, List.map_map, ← set_self]
  have h1 : (lc.map ((List.map (C.den e)) ∘ fun o => (encOV o).map C.v)) = lc.map encOV := by
    refine List.map_congr_left fun o _ => ?_
    rfl
  rw [h1]
  rfl
theorem set_same' {lc : List OpV} {i : Nat} {o : OpV} (h : lc[i]? = some o) : lc.set i o = lc := by
  obtain ⟨hi, rfl⟩ := List.getElem?_eq_some_iff.1 h
  exact List.set_getElem_self hi
theorem csOf_lt {lc : List OpV} {i k n : Nat} {o : OpV} (hk : k < n) (h : ∀ c ∈ lc.map encOV, ∀ u ∈ c, u.oneCell' = true) : (csOf lc i k o).lt n := by
  intro c hc
  refine Sy.ltAll_of fun x hx => ?_
  rcases List.mem_or_eq_of_mem_set hc with hc | rfl
  · obtain ⟨p, hp, rfl⟩ := List.mem_map.1 hc
    obtain ⟨u, hu, rfl⟩ := List.mem_map.1 hx
    exact h _ (List.mem_map.2 ⟨p, hp, rfl⟩) u hu
  · simp only [List.mem_cons, List.not_mem_nil, or_false] at hx
    rcases hx with rfl | rfl | rfl | rfl | rfl <;> first | rfl | exact Sy.blt_iff.2 hk
theorem cs_refl {ρ : Nat → Nat} {n : Nat} : ∀ {l : List C}, (∀ x ∈ l, Sy.CEq ρ n x x) → Sy.CsEq ρ n l l
  | [], _ => trivial
  | x :: _, h => ⟨h x List.mem_cons_self, cs_refl fun y hy => h y (List.mem_cons_of_mem _ hy)⟩
theorem css_refl {ρ : Nat → Nat} {n : Nat} : ∀ {l : List (List C)}, (∀ x ∈ l, Sy.CsEq ρ n x x) → Sy.CssEq ρ n l l
  | [], _ => trivial
  | x :: _, h => ⟨h x List.mem_cons_self, css_refl fun y hy => h y (List.mem_cons_of_mem _ hy)⟩
theorem css_of {ρ : Nat → Nat} {n : Nat} (lc : List OpV) (i k : Nat) (o : OpV) (hk : Sy.idOk ρ n k k) : Sy.CssEq ρ n ((lc.map fun o => (encOV o).map C.v).set i [.v (.int .i64 o.op.tag), .v (.int .i64 o.op.width), .row k, .v (.int .i64 o.op.a), .v (.int .i64 o.op.b)]) ((lc.map fun o => (encOV o).map C.v).set i [.v (.int .i64 o.op.tag), .v (.int .i64 o.op.width), .row k, .v (.int .i64 o.op.a), .v (.int .i64 o.op.b)]) := by
  refine css_refl fun c hc => cs_refl fun x hx => ?_
  rcases List.mem_or_eq_of_mem_set hc with hc | rfl
  · obtain ⟨p, hp, rfl⟩ := List.mem_map.1 hc
    obtain ⟨u, hu, rfl⟩ := List.mem_map.1 hx
    exact rfl
  · simp only [List.mem_cons, List.not_mem_nil, or_false] at hx
    rcases hx with rfl | rfl | rfl | rfl | rfl <;> first | exact hk | exact rfl
attribute [local irreducible] checkV ofL regOf askE
set_option maxHeartbeats 8000000 in
theorem alonelaw_any (v : Value) (gl : List OpV) (n : Int) (w : World) (hr : GOk (fun b => b < w.heap.size) w v gl) :
    Calls Try.prog 9 #[.agg #[v], .int .i64 n] w (Sy.Ret (.bool true) w) := by
  have hone := hr.one
  refine Sy.calls_of Sy.lv9 Sy.tab_ok Try.func9 rfl _ Try.ntmps9 [] [.agg [.v v], .c (.v (.int .i64 n))] rfl (by simp [Sy.allLt, SV.lt, Sy.ltAll, C.lt, hone]; rfl) rfl trivial ?_
  ((repeat' ((conv => whnf);(first|refine zA ?_|(refine zI ?_ ?_<;> intro hh<;> first|(exfalso;omega)|skip)|(refine zl ?_ ?_<;> intro hh)|refine zq ?_|refine zv ?_|exact Sy.fin_val fun e=>rfl)));(all_goals (try conv => whnf)))
  refine Sy.call_val (.c (.v (.bool true))) Try.call11 rfl (fun e a w' h => wakes_any w') ?_
  ((repeat' ((conv => whnf);(first|refine zA ?_|(refine zI ?_ ?_<;> intro hh<;> first|(exfalso;omega)|skip)|(refine zl ?_ ?_<;> intro hh)|refine zq ?_|refine zv ?_|exact Sy.fin_val fun e=>rfl)));(all_goals (try conv => whnf)))
  obtain ⟨F, hF⟩ : ∃ F : Nat → Prop, F = fun b => b < w.heap.size ∧ ¬ (fun _ : Nat => False) b := ⟨_, rfl⟩
  refine Sy.meetL (fun j : List OpV × List OpV × (Nat → Prop) × (Nat → Prop) => [.row 62 5 j.1.length (.vs (j.1.map encOV)), .row 62 5 j.2.1.length (.vs (j.2.1.map encOV)), .cells 26 [.row 1], .cells 26 [.row 2]])
    (fun j => [(5, .c (.loc 3 0)), (6, .c (.loc 4 0))]) (fun j => []) (fun j b => (F b ∨ j.2.2.1 b) ∨ j.2.2.2 b)
    (fun j w' => (True ∧ (∀ b, j.2.2.1 b → ¬ F b) ∧ ∀ o ∈ j.1, OOk (fun b => F b ∨ j.2.2.1 b) w' o) ∧ (∀ b, j.2.2.2 b → ¬ (F b ∨ j.2.2.1 b)) ∧ ∀ o ∈ j.2.1, OOk (fun b => (F b ∨ j.2.2.1 b) ∨ j.2.2.2 b) w' o)
    (fun j => opsOf j.1 = shortM (opsOf gl) ∧ opsOf j.2.1 = shortM (opsOf gl)) Sy.tab_ok ?_ (fun j hj => ?_)
  · subst hF
    refine Sy.draw_go [] (by kernel_rfl) ?_
    intro e0
    conv => whnf
    refine zt 0 rfl ?_
    conv => whnf
    refine zt 2 rfl ?_
    conv => whnf
    focus
      refine zd1 [1, 4, 5] (zx rfl ?_ (zx rfl ?_ (zx rfl ?_ zy)))
      focus
        conv => whnf
        refine short_call v gl rfl hr (fun _ h => h) ?_
        ((conv => whnf);(refine And.intro ?_ (And.intro ?_ (And.intro ?_ (And.intro ?_ ?_))));(all_goals ((repeat' (first|((conv => whnf);done)|((try conv => whnf);first|exact trivial|(refine And.intro ?_ ?_)|rfl|exact fun _ _ _ h=>h|exact fun _ _ _ _=>trivial)));(all_goals (try conv => whnf))));rotate_right)
        intro ls1 hls1 G1
        conv => whnf
        refine ⟨(by repeat' ((conv => whnf);first|exact trivial|(refine And.intro ?_ ?_)|rfl)), ?_⟩
        focus
          refine zd1 [3, 4, 5] (zx rfl ?_ (zx rfl ?_ (zx rfl ?_ zy)))
          focus
            conv => whnf
            refine short_call v gl rfl hr (fun _ h => h) ?_
            ((conv => whnf);(refine And.intro ?_ (And.intro ?_ (And.intro ?_ (And.intro ?_ ?_))));(all_goals ((repeat' (first|((conv => whnf);done)|((try conv => whnf);first|exact trivial|(refine And.intro ?_ ?_)|rfl|exact fun _ _ _ h=>h|exact fun _ _ _ _=>trivial)));(all_goals (try conv => whnf))));rotate_right)
            intro ls2 hls2 G2
            conv => whnf
            refine ⟨(by repeat' ((conv => whnf);first|exact trivial|(refine And.intro ?_ ?_)|rfl)), ?_⟩
            focus
              refine zd1 [4, 5] (zx rfl ?_ (zx rfl ?_ zy))
              focus
                conv => whnf
                refine ⟨(by repeat' ((conv => whnf);first|exact trivial|(refine And.intro ?_ ?_)|rfl)), ?_⟩
                refine zd1 [5] (zx rfl ?_ zy)
                conv => whnf
                refine ⟨(by repeat' ((conv => whnf);first|exact trivial|(refine And.intro ?_ ?_)|rfl)), ?_⟩
                refine zd1 [6] (zx rfl ?_ zy)
                conv => whnf
                refine ⟨(by repeat' ((conv => whnf);first|exact trivial|(refine And.intro ?_ ?_)|rfl)), ?_⟩
                refine zd1 [7] (zx rfl ?_ zy)
                conv => whnf
                refine ⟨(by repeat' ((conv => whnf);first|exact trivial|(refine And.intro ?_ ?_)|rfl)), ?_⟩
                refine zw ?_
                refine ⟨(ls1, ls2, G1, G2), ⟨hls1, hls2⟩, ?_⟩
                ((repeat' (first|((conv => whnf);done)|((try conv => whnf);first|exact trivial|(refine And.intro ?_ ?_)|rfl|exact fun _ _ _ h=>h|exact fun _ _ _ _=>trivial)));(all_goals (try conv => whnf)))
              rotate_right
              focus
                conv => whnf
                refine ⟨(by repeat' ((conv => whnf);first|exact trivial|(refine And.intro ?_ ?_)|rfl)), ?_⟩
                refine zd1 [4] (zx rfl ?_ zy)
                conv => whnf
                refine ⟨(by repeat' ((conv => whnf);first|exact trivial|(refine And.intro ?_ ?_)|rfl)), ?_⟩
                refine zd1 [6] (zx rfl ?_ zy)
                conv => whnf
                refine ⟨(by repeat' ((conv => whnf);first|exact trivial|(refine And.intro ?_ ?_)|rfl)), ?_⟩
                refine zd1 [7] (zx rfl ?_ zy)
                conv => whnf
                refine ⟨(by repeat' ((conv => whnf);first|exact trivial|(refine And.intro ?_ ?_)|rfl)), ?_⟩
                refine zw ?_
                refine ⟨(ls1, ls2, G1, G2), ⟨hls1, hls2⟩, ?_⟩
                ((repeat' (first|((conv => whnf);done)|((try conv => whnf);first|exact trivial|(refine And.intro ?_ ?_)|rfl|exact fun _ _ _ h=>h|exact fun _ _ _ _=>trivial)));(all_goals (try conv => whnf)))
          rotate_right
          focus
            conv => whnf
            refine ⟨(by repeat' ((conv => whnf);first|exact trivial|(refine And.intro ?_ ?_)|rfl)), ?_⟩
            focus
              refine zd1 [3, 4] (zx rfl ?_ (zx rfl ?_ zy))
              focus
                conv => whnf
                refine short_call v gl rfl hr (fun _ h => h) ?_
                ((conv => whnf);(refine And.intro ?_ (And.intro ?_ (And.intro ?_ (And.intro ?_ ?_))));(all_goals ((repeat' (first|((conv => whnf);done)|((try conv => whnf);first|exact trivial|(refine And.intro ?_ ?_)|rfl|exact fun _ _ _ h=>h|exact fun _ _ _ _=>trivial)));(all_goals (try conv => whnf))));rotate_right)
                intro ls2 hls2 G2
                conv => whnf
                refine ⟨(by repeat' ((conv => whnf);first|exact trivial|(refine And.intro ?_ ?_)|rfl)), ?_⟩
                refine zd1 [4] (zx rfl ?_ zy)
                conv => whnf
                refine ⟨(by repeat' ((conv => whnf);first|exact trivial|(refine And.intro ?_ ?_)|rfl)), ?_⟩
                refine zd1 [6] (zx rfl ?_ zy)
                conv => whnf
                refine ⟨(by repeat' ((conv => whnf);first|exact trivial|(refine And.intro ?_ ?_)|rfl)), ?_⟩
                refine zd1 [7] (zx rfl ?_ zy)
                conv => whnf
                refine ⟨(by repeat' ((conv => whnf);first|exact trivial|(refine And.intro ?_ ?_)|rfl)), ?_⟩
                refine zw ?_
                refine ⟨(ls1, ls2, G1, G2), ⟨hls1, hls2⟩, ?_⟩
                ((repeat' (first|((conv => whnf);done)|((try conv => whnf);first|exact trivial|(refine And.intro ?_ ?_)|rfl|exact fun _ _ _ h=>h|exact fun _ _ _ _=>trivial)));(all_goals (try conv => whnf)))
              rotate_right
              focus
                conv => whnf
                refine ⟨(by repeat' ((conv => whnf);first|exact trivial|(refine And.intro ?_ ?_)|rfl)), ?_⟩
                refine zd1 [3] (zx rfl ?_ zy)
                conv => whnf
                refine short_call v gl rfl hr (fun _ h => h) ?_
                ((conv => whnf);(refine And.intro ?_ (And.intro ?_ (And.intro ?_ (And.intro ?_ ?_))));(all_goals ((repeat' (first|((conv => whnf);done)|((try conv => whnf);first|exact trivial|(refine And.intro ?_ ?_)|rfl|exact fun _ _ _ h=>h|exact fun _ _ _ _=>trivial)));(all_goals (try conv => whnf))));rotate_right)
                intro ls2 hls2 G2
                conv => whnf
                refine ⟨(by repeat' ((conv => whnf);first|exact trivial|(refine And.intro ?_ ?_)|rfl)), ?_⟩
                refine zd1 [6] (zx rfl ?_ zy)
                conv => whnf
                refine ⟨(by repeat' ((conv => whnf);first|exact trivial|(refine And.intro ?_ ?_)|rfl)), ?_⟩
                refine zd1 [7] (zx rfl ?_ zy)
                conv => whnf
                refine ⟨(by repeat' ((conv => whnf);first|exact trivial|(refine And.intro ?_ ?_)|rfl)), ?_⟩
                refine zw ?_
                refine ⟨(ls1, ls2, G1, G2), ⟨hls1, hls2⟩, ?_⟩
                ((repeat' (first|((conv => whnf);done)|((try conv => whnf);first|exact trivial|(refine And.intro ?_ ?_)|rfl|exact fun _ _ _ h=>h|exact fun _ _ _ _=>trivial)));(all_goals (try conv => whnf)))
          rotate_right
          focus
            conv => whnf
            refine ⟨(by repeat' ((conv => whnf);first|exact trivial|(refine And.intro ?_ ?_)|rfl)), ?_⟩
            focus
              refine zd1 [3, 5] (zx rfl ?_ (zx rfl ?_ zy))
              focus
                conv => whnf
                refine short_call v gl rfl hr (fun _ h => h) ?_
                ((conv => whnf);(refine And.intro ?_ (And.intro ?_ (And.intro ?_ (And.intro ?_ ?_))));(all_goals ((repeat' (first|((conv => whnf);done)|((try conv => whnf);first|exact trivial|(refine And.intro ?_ ?_)|rfl|exact fun _ _ _ h=>h|exact fun _ _ _ _=>trivial)));(all_goals (try conv => whnf))));rotate_right)
                intro ls2 hls2 G2
                conv => whnf
                refine ⟨(by repeat' ((conv => whnf);first|exact trivial|(refine And.intro ?_ ?_)|rfl)), ?_⟩
                refine zd1 [5] (zx rfl ?_ zy)
                conv => whnf
                refine ⟨(by repeat' ((conv => whnf);first|exact trivial|(refine And.intro ?_ ?_)|rfl)), ?_⟩
                refine zd1 [6] (zx rfl ?_ zy)
                conv => whnf
                refine ⟨(by repeat' ((conv => whnf);first|exact trivial|(refine And.intro ?_ ?_)|rfl)), ?_⟩
                refine zd1 [7] (zx rfl ?_ zy)
                conv => whnf
                refine ⟨(by repeat' ((conv => whnf);first|exact trivial|(refine And.intro ?_ ?_)|rfl)), ?_⟩
                refine zw ?_
                refine ⟨(ls1, ls2, G1, G2), ⟨hls1, hls2⟩, ?_⟩
                ((repeat' (first|((conv => whnf);done)|((try conv => whnf);first|exact trivial|(refine And.intro ?_ ?_)|rfl|exact fun _ _ _ h=>h|exact fun _ _ _ _=>trivial)));(all_goals (try conv => whnf)))
              rotate_right
              focus
                conv => whnf
                refine ⟨(by repeat' ((conv => whnf);first|exact trivial|(refine And.intro ?_ ?_)|rfl)), ?_⟩
                refine zd1 [3] (zx rfl ?_ zy)
                conv => whnf
                refine short_call v gl rfl hr (fun _ h => h) ?_
                ((conv => whnf);(refine And.intro ?_ (And.intro ?_ (And.intro ?_ (And.intro ?_ ?_))));(all_goals ((repeat' (first|((conv => whnf);done)|((try conv => whnf);first|exact trivial|(refine And.intro ?_ ?_)|rfl|exact fun _ _ _ h=>h|exact fun _ _ _ _=>trivial)));(all_goals (try conv => whnf))));rotate_right)
                intro ls2 hls2 G2
                conv => whnf
                refine ⟨(by repeat' ((conv => whnf);first|exact trivial|(refine And.intro ?_ ?_)|rfl)), ?_⟩
                refine zd1 [6] (zx rfl ?_ zy)
                conv => whnf
                refine ⟨(by repeat' ((conv => whnf);first|exact trivial|(refine And.intro ?_ ?_)|rfl)), ?_⟩
                refine zd1 [7] (zx rfl ?_ zy)
                conv => whnf
                refine ⟨(by repeat' ((conv => whnf);first|exact trivial|(refine And.intro ?_ ?_)|rfl)), ?_⟩
                refine zw ?_
                refine ⟨(ls1, ls2, G1, G2), ⟨hls1, hls2⟩, ?_⟩
                ((repeat' (first|((conv => whnf);done)|((try conv => whnf);first|exact trivial|(refine And.intro ?_ ?_)|rfl|exact fun _ _ _ h=>h|exact fun _ _ _ _=>trivial)));(all_goals (try conv => whnf)))
      rotate_right
      focus
        conv => whnf
        refine ⟨(by repeat' ((conv => whnf);first|exact trivial|(refine And.intro ?_ ?_)|rfl)), ?_⟩
        focus
          refine zd1 [1, 4] (zx rfl ?_ (zx rfl ?_ zy))
          focus
            conv => whnf
            refine short_call v gl rfl hr (fun _ h => h) ?_
            ((conv => whnf);(refine And.intro ?_ (And.intro ?_ (And.intro ?_ (And.intro ?_ ?_))));(all_goals ((repeat' (first|((conv => whnf);done)|((try conv => whnf);first|exact trivial|(refine And.intro ?_ ?_)|rfl|exact fun _ _ _ h=>h|exact fun _ _ _ _=>trivial)));(all_goals (try conv => whnf))));rotate_right)
            intro ls1 hls1 G1
            conv => whnf
            refine ⟨(by repeat' ((conv => whnf);first|exact trivial|(refine And.intro ?_ ?_)|rfl)), ?_⟩
            focus
              refine zd1 [3, 4] (zx rfl ?_ (zx rfl ?_ zy))
              focus
                conv => whnf
                refine short_call v gl rfl hr (fun _ h => h) ?_
                ((conv => whnf);(refine And.intro ?_ (And.intro ?_ (And.intro ?_ (And.intro ?_ ?_))));(all_goals ((repeat' (first|((conv => whnf);done)|((try conv => whnf);first|exact trivial|(refine And.intro ?_ ?_)|rfl|exact fun _ _ _ h=>h|exact fun _ _ _ _=>trivial)));(all_goals (try conv => whnf))));rotate_right)
                intro ls2 hls2 G2
                conv => whnf
                refine ⟨(by repeat' ((conv => whnf);first|exact trivial|(refine And.intro ?_ ?_)|rfl)), ?_⟩
                refine zd1 [4] (zx rfl ?_ zy)
                conv => whnf
                refine ⟨(by repeat' ((conv => whnf);first|exact trivial|(refine And.intro ?_ ?_)|rfl)), ?_⟩
                refine zd1 [6] (zx rfl ?_ zy)
                conv => whnf
                refine ⟨(by repeat' ((conv => whnf);first|exact trivial|(refine And.intro ?_ ?_)|rfl)), ?_⟩
                refine zd1 [7] (zx rfl ?_ zy)
                conv => whnf
                refine ⟨(by repeat' ((conv => whnf);first|exact trivial|(refine And.intro ?_ ?_)|rfl)), ?_⟩
                refine zw ?_
                refine ⟨(ls1, ls2, G1, G2), ⟨hls1, hls2⟩, ?_⟩
                ((repeat' (first|((conv => whnf);done)|((try conv => whnf);first|exact trivial|(refine And.intro ?_ ?_)|rfl|exact fun _ _ _ h=>h|exact fun _ _ _ _=>trivial)));(all_goals (try conv => whnf)))
              rotate_right
              focus
                conv => whnf
                refine ⟨(by repeat' ((conv => whnf);first|exact trivial|(refine And.intro ?_ ?_)|rfl)), ?_⟩
                refine zd1 [3] (zx rfl ?_ zy)
                conv => whnf
                refine short_call v gl rfl hr (fun _ h => h) ?_
                ((conv => whnf);(refine And.intro ?_ (And.intro ?_ (And.intro ?_ (And.intro ?_ ?_))));(all_goals ((repeat' (first|((conv => whnf);done)|((try conv => whnf);first|exact trivial|(refine And.intro ?_ ?_)|rfl|exact fun _ _ _ h=>h|exact fun _ _ _ _=>trivial)));(all_goals (try conv => whnf))));rotate_right)
                intro ls2 hls2 G2
                conv => whnf
                refine ⟨(by repeat' ((conv => whnf);first|exact trivial|(refine And.intro ?_ ?_)|rfl)), ?_⟩
                refine zd1 [6] (zx rfl ?_ zy)
                conv => whnf
                refine ⟨(by repeat' ((conv => whnf);first|exact trivial|(refine And.intro ?_ ?_)|rfl)), ?_⟩
                refine zd1 [7] (zx rfl ?_ zy)
                conv => whnf
                refine ⟨(by repeat' ((conv => whnf);first|exact trivial|(refine And.intro ?_ ?_)|rfl)), ?_⟩
                refine zw ?_
                refine ⟨(ls1, ls2, G1, G2), ⟨hls1, hls2⟩, ?_⟩
                ((repeat' (first|((conv => whnf);done)|((try conv => whnf);first|exact trivial|(refine And.intro ?_ ?_)|rfl|exact fun _ _ _ h=>h|exact fun _ _ _ _=>trivial)));(all_goals (try conv => whnf)))
          rotate_right
          focus
            conv => whnf
            refine ⟨(by repeat' ((conv => whnf);first|exact trivial|(refine And.intro ?_ ?_)|rfl)), ?_⟩
            refine zd1 [1] (zx rfl ?_ zy)
            conv => whnf
            refine short_call v gl rfl hr (fun _ h => h) ?_
            ((conv => whnf);(refine And.intro ?_ (And.intro ?_ (And.intro ?_ (And.intro ?_ ?_))));(all_goals ((repeat' (first|((conv => whnf);done)|((try conv => whnf);first|exact trivial|(refine And.intro ?_ ?_)|rfl|exact fun _ _ _ h=>h|exact fun _ _ _ _=>trivial)));(all_goals (try conv => whnf))));rotate_right)
            intro ls1 hls1 G1
            conv => whnf
            refine ⟨(by repeat' ((conv => whnf);first|exact trivial|(refine And.intro ?_ ?_)|rfl)), ?_⟩
            refine zd1 [3] (zx rfl ?_ zy)
            conv => whnf
            refine short_call v gl rfl hr (fun _ h => h) ?_
            ((conv => whnf);(refine And.intro ?_ (And.intro ?_ (And.intro ?_ (And.intro ?_ ?_))));(all_goals ((repeat' (first|((conv => whnf);done)|((try conv => whnf);first|exact trivial|(refine And.intro ?_ ?_)|rfl|exact fun _ _ _ h=>h|exact fun _ _ _ _=>trivial)));(all_goals (try conv => whnf))));rotate_right)
            intro ls2 hls2 G2
            conv => whnf
            refine ⟨(by repeat' ((conv => whnf);first|exact trivial|(refine And.intro ?_ ?_)|rfl)), ?_⟩
            refine zd1 [6] (zx rfl ?_ zy)
            conv => whnf
            refine ⟨(by repeat' ((conv => whnf);first|exact trivial|(refine And.intro ?_ ?_)|rfl)), ?_⟩
            refine zd1 [7] (zx rfl ?_ zy)
            conv => whnf
            refine ⟨(by repeat' ((conv => whnf);first|exact trivial|(refine And.intro ?_ ?_)|rfl)), ?_⟩
            refine zw ?_
            refine ⟨(ls1, ls2, G1, G2), ⟨hls1, hls2⟩, ?_⟩
            ((repeat' (first|((conv => whnf);done)|((try conv => whnf);first|exact trivial|(refine And.intro ?_ ?_)|rfl|exact fun _ _ _ h=>h|exact fun _ _ _ _=>trivial)));(all_goals (try conv => whnf)))
      rotate_right
      focus
        conv => whnf
        refine ⟨(by repeat' ((conv => whnf);first|exact trivial|(refine And.intro ?_ ?_)|rfl)), ?_⟩
        focus
          refine zd1 [1, 5] (zx rfl ?_ (zx rfl ?_ zy))
          focus
            conv => whnf
            refine short_call v gl rfl hr (fun _ h => h) ?_
            ((conv => whnf);(refine And.intro ?_ (And.intro ?_ (And.intro ?_ (And.intro ?_ ?_))));(all_goals ((repeat' (first|((conv => whnf);done)|((try conv => whnf);first|exact trivial|(refine And.intro ?_ ?_)|rfl|exact fun _ _ _ h=>h|exact fun _ _ _ _=>trivial)));(all_goals (try conv => whnf))));rotate_right)
            intro ls1 hls1 G1
            conv => whnf
            refine ⟨(by repeat' ((conv => whnf);first|exact trivial|(refine And.intro ?_ ?_)|rfl)), ?_⟩
            focus
              refine zd1 [3, 5] (zx rfl ?_ (zx rfl ?_ zy))
              focus
                conv => whnf
                refine short_call v gl rfl hr (fun _ h => h) ?_
                ((conv => whnf);(refine And.intro ?_ (And.intro ?_ (And.intro ?_ (And.intro ?_ ?_))));(all_goals ((repeat' (first|((conv => whnf);done)|((try conv => whnf);first|exact trivial|(refine And.intro ?_ ?_)|rfl|exact fun _ _ _ h=>h|exact fun _ _ _ _=>trivial)));(all_goals (try conv => whnf))));rotate_right)
                intro ls2 hls2 G2
                conv => whnf
                refine ⟨(by repeat' ((conv => whnf);first|exact trivial|(refine And.intro ?_ ?_)|rfl)), ?_⟩
                refine zd1 [5] (zx rfl ?_ zy)
                conv => whnf
                refine ⟨(by repeat' ((conv => whnf);first|exact trivial|(refine And.intro ?_ ?_)|rfl)), ?_⟩
                refine zd1 [6] (zx rfl ?_ zy)
                conv => whnf
                refine ⟨(by repeat' ((conv => whnf);first|exact trivial|(refine And.intro ?_ ?_)|rfl)), ?_⟩
                refine zd1 [7] (zx rfl ?_ zy)
                conv => whnf
                refine ⟨(by repeat' ((conv => whnf);first|exact trivial|(refine And.intro ?_ ?_)|rfl)), ?_⟩
                refine zw ?_
                refine ⟨(ls1, ls2, G1, G2), ⟨hls1, hls2⟩, ?_⟩
                ((repeat' (first|((conv => whnf);done)|((try conv => whnf);first|exact trivial|(refine And.intro ?_ ?_)|rfl|exact fun _ _ _ h=>h|exact fun _ _ _ _=>trivial)));(all_goals (try conv => whnf)))
              rotate_right
              focus
                conv => whnf
                refine ⟨(by repeat' ((conv => whnf);first|exact trivial|(refine And.intro ?_ ?_)|rfl)), ?_⟩
                refine zd1 [3] (zx rfl ?_ zy)
                conv => whnf
                refine short_call v gl rfl hr (fun _ h => h) ?_
                ((conv => whnf);(refine And.intro ?_ (And.intro ?_ (And.intro ?_ (And.intro ?_ ?_))));(all_goals ((repeat' (first|((conv => whnf);done)|((try conv => whnf);first|exact trivial|(refine And.intro ?_ ?_)|rfl|exact fun _ _ _ h=>h|exact fun _ _ _ _=>trivial)));(all_goals (try conv => whnf))));rotate_right)
                intro ls2 hls2 G2
                conv => whnf
                refine ⟨(by repeat' ((conv => whnf);first|exact trivial|(refine And.intro ?_ ?_)|rfl)), ?_⟩
                refine zd1 [6] (zx rfl ?_ zy)
                conv => whnf
                refine ⟨(by repeat' ((conv => whnf);first|exact trivial|(refine And.intro ?_ ?_)|rfl)), ?_⟩
                refine zd1 [7] (zx rfl ?_ zy)
                conv => whnf
                refine ⟨(by repeat' ((conv => whnf);first|exact trivial|(refine And.intro ?_ ?_)|rfl)), ?_⟩
                refine zw ?_
                refine ⟨(ls1, ls2, G1, G2), ⟨hls1, hls2⟩, ?_⟩
                ((repeat' (first|((conv => whnf);done)|((try conv => whnf);first|exact trivial|(refine And.intro ?_ ?_)|rfl|exact fun _ _ _ h=>h|exact fun _ _ _ _=>trivial)));(all_goals (try conv => whnf)))
          rotate_right
          focus
            conv => whnf
            refine ⟨(by repeat' ((conv => whnf);first|exact trivial|(refine And.intro ?_ ?_)|rfl)), ?_⟩
            refine zd1 [1] (zx rfl ?_ zy)
            conv => whnf
            refine short_call v gl rfl hr (fun _ h => h) ?_
            ((conv => whnf);(refine And.intro ?_ (And.intro ?_ (And.intro ?_ (And.intro ?_ ?_))));(all_goals ((repeat' (first|((conv => whnf);done)|((try conv => whnf);first|exact trivial|(refine And.intro ?_ ?_)|rfl|exact fun _ _ _ h=>h|exact fun _ _ _ _=>trivial)));(all_goals (try conv => whnf))));rotate_right)
            intro ls1 hls1 G1
            conv => whnf
            refine ⟨(by repeat' ((conv => whnf);first|exact trivial|(refine And.intro ?_ ?_)|rfl)), ?_⟩
            refine zd1 [3] (zx rfl ?_ zy)
            conv => whnf
            refine short_call v gl rfl hr (fun _ h => h) ?_
            ((conv => whnf);(refine And.intro ?_ (And.intro ?_ (And.intro ?_ (And.intro ?_ ?_))));(all_goals ((repeat' (first|((conv => whnf);done)|((try conv => whnf);first|exact trivial|(refine And.intro ?_ ?_)|rfl|exact fun _ _ _ h=>h|exact fun _ _ _ _=>trivial)));(all_goals (try conv => whnf))));rotate_right)
            intro ls2 hls2 G2
            conv => whnf
            refine ⟨(by repeat' ((conv => whnf);first|exact trivial|(refine And.intro ?_ ?_)|rfl)), ?_⟩
            refine zd1 [6] (zx rfl ?_ zy)
            conv => whnf
            refine ⟨(by repeat' ((conv => whnf);first|exact trivial|(refine And.intro ?_ ?_)|rfl)), ?_⟩
            refine zd1 [7] (zx rfl ?_ zy)
            conv => whnf
            refine ⟨(by repeat' ((conv => whnf);first|exact trivial|(refine And.intro ?_ ?_)|rfl)), ?_⟩
            refine zw ?_
            refine ⟨(ls1, ls2, G1, G2), ⟨hls1, hls2⟩, ?_⟩
            ((repeat' (first|((conv => whnf);done)|((try conv => whnf);first|exact trivial|(refine And.intro ?_ ?_)|rfl|exact fun _ _ _ h=>h|exact fun _ _ _ _=>trivial)));(all_goals (try conv => whnf)))
  · obtain ⟨ls1, ls2, G1, G2⟩ := j
    obtain ⟨hls1, hls2⟩ := hj
    dsimp only at hls1 hls2 ⊢
    conv => whnf
    have hol := opsOf_len ls1
    have hln : ls1.length ≤ 9 := by rw [← hol, hls1]; exact shortM_len _
    have hol2 := opsOf_len ls2
    have h12 : opsOf ls1 = opsOf ls2 := by rw [hls1, hls2]
    have hl12 : ls1.length = ls2.length := by rw [← hol, h12, hol2]
    refine Sy.call_own (alone_does ls1 n (by omega)) Try.call33 ?_ (fun e a w' F' h hF' o ho => ((h.ev w' fun _ _ => rfl).1.2.2 o ho).mono fun b hb => hF' b (.inl hb)) (fun _ _ G G' w1 w2 hq hG hk => trivial)
    ((conv => whnf);(refine And.intro ?_ (And.intro ?_ (And.intro ?_ (And.intro ?_ ?_))));(all_goals ((repeat' (first|((conv => whnf);done)|((try conv => whnf);first|exact trivial|(refine And.intro ?_ ?_)|rfl|exact fun _ _ _ h=>h|exact fun _ _ _ _=>trivial)));(all_goals (try conv => whnf))));rotate_right)
    intro la hla G3
    have hla : opsOf la = aloneL (opsOf ls1) n := hla
    rw [h12] at hla
    ((repeat' ((conv => whnf);(first|refine zA ?_|(refine zI ?_ ?_<;> intro hh<;> first|(exfalso;omega)|skip)|(refine zl ?_ ?_<;> intro hh)|refine zq ?_|refine zv ?_|exact Sy.fin_val fun e=>rfl)));(all_goals (try conv => whnf)))
    refine Sy.call_val (.tup [.c (.v (.int .i64 (checkV (opsOf ls1)).1)), .c (.v (.int .i64 (checkV (opsOf ls1)).2))]) Try.call14 rfl (fun e a w' h => by have := rcheck_any (e.rv 2) ls2 w' ⟨Sy.row_reads h (.inl ⟨_, rfl⟩), fun o ho => ((h.ev w' fun _ _ => rfl).2.2 o ho).mono fun b hb => h.fl b hb⟩; rw [← h12] at this; exact this) ?_
    by_cases h0 : (checkV (opsOf ls1)).2 = 0
    · rw [h0]
      by_cases hnr : n < 0 ∨ (ls1.length : Int) ≤ n
      · have ha : askE (opsOf ls1) n ls1.length = 2 := by unfold askE; rw [if_pos h0, if_pos hnr]
        have hv : ofV (opsOf ls1) n = [] := by unfold ofV; rw [hol, ha]; rfl
        have hla0 : la = [] := by
          have := congrArg List.length hla
          rw [opsOf_len, aloneL, ← h12, hv] at this
          exact List.length_eq_zero_iff.1 this
        subst hla0
        rw [ha, hv]
        ((repeat' ((conv => whnf);(first|refine zA ?_|(refine zI ?_ ?_<;> intro hh<;> first|(exfalso;omega)|skip)|(refine zl ?_ ?_<;> intro hh)|refine zq ?_|refine zv ?_|exact Sy.fin_val fun e=>rfl)));(all_goals (try conv => whnf)))
        all_goals done
      · have ha : askE (opsOf ls1) n ls1.length = 0 := by unfold askE; rw [if_pos h0, if_neg hnr]
        have ha2 : askE (opsOf ls2) n ls2.length = 0 := by rw [← h12, ← hl12]; exact ha
        obtain ⟨q, rfl⟩ : ∃ q : Nat, n = (q : Int) := ⟨n.toNat, by omega⟩
        rw [ha]
        ((repeat' ((conv => whnf);(first|refine zA ?_|(refine zI ?_ ?_<;> intro hh<;> first|(exfalso;omega)|skip)|(refine zl ?_ ?_<;> intro hh)|refine zq ?_|refine zv ?_|exact Sy.fin_val fun e=>rfl)));(all_goals (try conv => whnf)))
        refine Sy.call_own (ralone_does ls2 q ha2) Try.call34 ?_ (fun e a w' F' h hF' o ho => ((h.ev w' fun _ _ => rfl).2.2 o ho).mono fun b hb => hF' b hb) (fun _ _ G G' w1 w2 hq hG hk => trivial)
        ((conv => whnf);(refine And.intro ?_ (And.intro ?_ (And.intro ?_ (And.intro ?_ ?_))));(all_goals ((repeat' (first|((conv => whnf);done)|((try conv => whnf);first|exact trivial|(refine And.intro ?_ ?_)|rfl|exact fun _ _ _ h=>h|exact fun _ _ _ _=>trivial)));(all_goals (try conv => whnf))));rotate_right)
        intro lb hlb G4
        have hlb : opsOf lb = aloneL (opsOf ls2) q := hlb
        have hab : opsOf la = opsOf lb := by rw [hla, hlb]
        rw [h12]
        have hlla : la.length ≤ 9 := by
          rw [← opsOf_len, hla, aloneL, aloneN]
          refine Nat.le_trans (List.length_filterMap_le _ _) ?_
          unfold ofV
          split
          · exact Nat.le_trans (ofL_len _ _) (by omega)
          · exact Nat.zero_le _
        ((repeat' ((conv => whnf);(first|refine zA ?_|(refine zI ?_ ?_<;> intro hh<;> first|(exfalso;omega)|skip)|(refine zl ?_ ?_<;> intro hh)|refine zq ?_|refine zv ?_|exact Sy.fin_val fun e=>rfl)));(all_goals (try conv => whnf)))
        refine Sy.call_val (.c (.v (.bool true))) Try.call17 rfl (fun e a w' h => by
          have := rsame_any (e.rv 9) (e.rv 16) la lb w' ⟨Sy.row_reads h (.inl ⟨_, rfl⟩), bag_ok h (kb := 10) rfl⟩ ⟨Sy.row_reads h (.inl ⟨_, rfl⟩), bag_ok h (kb := 17) rfl⟩
          rw [decide_eq_true hab] at this; exact this) ?_
        ((repeat' ((conv => whnf);(first|refine zA ?_|(refine zI ?_ ?_<;> intro hh<;> first|(exfalso;omega)|skip)|(refine zl ?_ ?_<;> intro hh)|refine zq ?_|refine zv ?_|exact Sy.fin_val fun e=>rfl)));(all_goals (try conv => whnf)))
        refine Sy.call_val (.c (.v (.bool true))) Try.call16 rfl (fun e a w' h => by
          have := same10_any (e.rv 7) (e.rv 14) (ofV (opsOf ls2) q) (ofV (opsOf ls2) q) w' (Sy.row_reads h (.inl ⟨_, rfl⟩)) (Sy.row_reads h (.inl ⟨_, rfl⟩))
          rw [decide_eq_true rfl] at this; exact this) ?_
        have hlai : ∀ p ∈ la, p.op.ins.length ≤ 9 := fun p hp => by
          have h1 : p.op ∈ opsOf la := List.mem_map.2 ⟨p, hp, rfl⟩
          rw [hla, aloneL, aloneN] at h1
          obtain ⟨k, _, h3⟩ := List.mem_filterMap.1 h1
          obtain ⟨o', h4, h5⟩ := Option.map_eq_some_iff.1 h3
          have h6 := (List.getElem?_eq_some_iff.1 h4).1
          have h7 := rises_len (check_good (by rw [← h12]; exact h0) k.toNat o' h6 h4).2.2.1
          rw [← h5]
          show (o'.ins.map _).length ≤ 9
          rw [List.length_map]; omega
        ((repeat' ((conv => whnf);(first|refine zA ?_|(refine zI ?_ ?_<;> intro hh<;> first|(exfalso;omega)|skip)|(refine zl ?_ ?_<;> intro hh)|refine zq ?_|refine zv ?_|exact Sy.fin_val fun e=>rfl)));(all_goals (try conv => whnf)))
        refine Sy.loop_ends Sy.tab_ok (fun x : Nat × List OpV => [(95, .c (.v (.int .i64 x.1)))]) (fun x => [(9, .row 62 5 x.2.length (.vs (x.2.map encOV))), (10, .bag 3 1 (bagL (x.2.drop x.1)))]) (fun _ b => (F b ∨ G1 b) ∨ G2 b) (fun _ w' => (True ∧ (∀ b, G1 b → ¬ F b) ∧ ∀ o ∈ ls1, OOk (fun b => F b ∨ G1 b) w' o) ∧ (∀ b, G2 b → ¬ (F b ∨ G1 b)) ∧ ∀ o ∈ ls2, OOk (fun b => (F b ∨ G1 b) ∨ G2 b) w' o)
          (fun x => x.1 ≤ la.length ∧ x.2.length = la.length ∧ ∀ p ∈ x.2, p.op.ins.length ≤ 9) (fun x => la.length - x.1) (0, la) ⟨Nat.zero_le _, rfl, hlai⟩ ?_ (fun x hx => ?_)
        · ((repeat' (first|((conv => whnf);done)|((try conv => whnf);first|exact trivial|(refine And.intro ?_ ?_)|rfl|exact fun _ _ _ h=>h|exact fun _ _ _ _=>trivial)));(all_goals (try conv => whnf)))
        · obtain ⟨i, lc⟩ := x
          obtain ⟨hi, hlc, hlci⟩ := hx
          dsimp only at hi hlc ⊢
          by_cases hil : i < lc.length
          · have hg := List.getElem?_eq_getElem hil
            have hoi := hlci _ (List.getElem_mem hil)
            have hd : lc.drop i = lc[i] :: lc.drop (i + 1) := List.drop_eq_getElem_cons hil
            generalize lc[i] = o at *
            rw [hd, show bagL (o :: lc.drop (i + 1)) = (o.iv, o.op.ins.length, o.op.ins.map encI) :: bagL (lc.drop (i + 1)) from rfl]
            ((repeat' ((conv => whnf);(first|refine zA ?_|(refine zI ?_ ?_<;> intro hh<;> first|(exfalso;omega)|skip)|(refine zl ?_ ?_<;> intro hh)|refine zq ?_|refine zv ?_|exact Sy.fin_val fun e=>rfl)));(all_goals (try conv => whnf)))
            refine Sy.el_map o hg ?_
            ((repeat' ((conv => whnf);(first|refine zA ?_|(refine zI ?_ ?_<;> intro hh<;> first|(exfalso;omega)|skip)|(refine zl ?_ ?_<;> intro hh)|refine zq ?_|refine zv ?_|exact Sy.fin_val fun e=>rfl)));(all_goals (try conv => whnf)))
            refine Sy.open_bag 9 10 (csOf lc i 19 o) rfl rfl (fun e e' _ he => ?_) (csOf_lt (Nat.lt_succ_self 19)) ?_
            · rw [csOf_den, he]
              show _ = lc.map encOV
              rw [show (⟨o.op, o.iv⟩ : OpV) = o from rfl, set_same' hg]
            conv => whnf
            ((repeat' ((conv => whnf);(first|refine zA ?_|(refine zI ?_ ?_<;> intro hh<;> first|(exfalso;omega)|skip)|(refine zl ?_ ?_<;> intro hh)|refine zq ?_|refine zv ?_|exact Sy.fin_val fun e=>rfl)));(all_goals (try conv => whnf)))
            refine Sy.loop_inv Sy.tab_ok (fun x : Nat × List Int => [(105, .c (.v (.int .i64 x.1)))]) (fun x => [(19, .row 3 1 o.op.ins.length (.vs (x.2.map encI)))]) (fun x => x.1 ≤ o.op.ins.length ∧ x.2.length = o.op.ins.length) (fun x => o.op.ins.length - x.1) (0, o.op.ins) ⟨Nat.zero_le _, rfl⟩ ?_ (fun x hx => ?_)
            · ((repeat' (first|((conv => whnf);done)|((try conv => whnf);first|exact trivial|(refine And.intro ?_ ?_)|rfl|exact fun _ _ _ h=>h|exact fun _ _ _ _=>trivial)));(all_goals (try conv => whnf)))
              exact css_of lc i 19 o rfl
            · obtain ⟨j, zs⟩ := x
              obtain ⟨hj, hz⟩ := hx
              dsimp only at hj hz ⊢
              ((repeat' ((conv => whnf);(first|refine zA ?_|(refine zI ?_ ?_<;> intro hh<;> first|(exfalso;omega)|skip)|(refine zl ?_ ?_<;> intro hh)|refine zq ?_|refine zv ?_|exact Sy.fin_val fun e=>rfl)));(all_goals (try conv => whnf)))
              · have hjz : j < zs.length := by omega
                have hgz := List.getElem?_eq_getElem hjz
                generalize zs[j] = z at *
                refine Sy.elc_of _ (List.getElem?_set_self (by rw [List.length_map]; exact hil)) ?_
                ((repeat' ((conv => whnf);(first|refine zA ?_|(refine zI ?_ ?_<;> intro hh<;> first|(exfalso;omega)|skip)|(refine zl ?_ ?_<;> intro hh)|refine zq ?_|refine zv ?_|exact Sy.fin_val fun e=>rfl)));(all_goals (try conv => whnf)))
                refine Sy.el_map z hgz ?_
                ((repeat' ((conv => whnf);(first|refine zA ?_|(refine zI ?_ ?_<;> intro hh<;> first|(exfalso;omega)|skip)|(refine zl ?_ ?_<;> intro hh)|refine zq ?_|refine zv ?_|exact Sy.fin_val fun e=>rfl)));(all_goals (try conv => whnf)))
                refine ⟨(j + 1, zs.set j 99), ⟨by dsimp only; omega, by dsimp only; rw [List.length_set]; exact hz⟩, by dsimp only; omega, ?_⟩
                dsimp only
                rw [List.map_set]
                ((repeat' (first|((conv => whnf);done)|((try conv => whnf);first|exact trivial|(refine And.intro ?_ ?_)|rfl|exact fun _ _ _ h=>h|exact fun _ _ _ _=>trivial)));(all_goals (try conv => whnf)))
                all_goals first | rfl | exact css_of lc i 19 o rfl
              · refine Sy.end_drop 19 9 (fun u => (lc.set i ⟨o.op, u⟩).map encOV) (by decide) (by exact rfl) (by exact rfl) (fun e => csOf_den e lc i 19 o) (fun u hu => ?_)
                conv => whnf
                refine Sy.end_here ⟨(i + 1, lc.set i ⟨o.op, u⟩), ⟨by dsimp only; omega, by dsimp only; rw [List.length_set]; exact hlc, fun p hp => by
                  rcases List.mem_or_eq_of_mem_set hp with hp | rfl
                  · exact hlci p hp
                  · exact hoi⟩, by dsimp only; omega, ?_⟩
                dsimp only
                rw [List.drop_set_of_lt (Nat.lt_succ_self i)]
                ((repeat' (first|((conv => whnf);done)|((try conv => whnf);first|exact trivial|(refine And.intro ?_ ?_)|rfl|exact fun _ _ _ h=>h|exact fun _ _ _ _=>trivial)));(all_goals (try conv => whnf)))
                rw [List.length_set]
          · ((repeat' ((conv => whnf);(first|refine zA ?_|(refine zI ?_ ?_<;> intro hh<;> first|(exfalso;omega)|skip)|(refine zl ?_ ?_<;> intro hh)|refine zq ?_|refine zv ?_|exact Sy.fin_val fun e=>rfl)));(all_goals (try conv => whnf)))
            refine Sy.call_val (.c (.v (.bool true))) Try.call17 rfl (fun e a w' h => by
              have := rsame_any (e.rv 1) (e.rv 2) ls1 ls2 w' ⟨Sy.row_reads h (.inl ⟨_, rfl⟩), fun o ho => ((h.ev w' fun _ _ => rfl).1.2.2 o ho).mono fun b hb => h.fl b (.inl hb)⟩ ⟨Sy.row_reads h (.inl ⟨_, rfl⟩), fun o ho => ((h.ev w' fun _ _ => rfl).2.2 o ho).mono fun b hb => h.fl b hb⟩
              rw [decide_eq_true h12] at this; exact this) ?_
            ((repeat' ((conv => whnf);(first|refine zA ?_|(refine zI ?_ ?_<;> intro hh<;> first|(exfalso;omega)|skip)|(refine zl ?_ ?_<;> intro hh)|refine zq ?_|refine zv ?_|exact Sy.fin_val fun e=>rfl)));(all_goals (try conv => whnf)))
            all_goals done
    · have ha : askE (opsOf ls1) n ls1.length = (checkV (opsOf ls1)).2 := by unfold askE; rw [if_neg h0]
      have hv : ofV (opsOf ls1) n = [] := by unfold ofV; rw [hol, ha, if_neg h0]
      have hla0 : la = [] := by
        have := congrArg List.length hla
        rw [opsOf_len, aloneL, ← h12, hv] at this
        exact List.length_eq_zero_iff.1 this
      subst hla0
      rw [ha, hv]
      ((repeat' ((conv => whnf);(first|refine zA ?_|(refine zI ?_ ?_<;> intro hh<;> first|(exfalso;omega)|skip)|(refine zl ?_ ?_<;> intro hh)|refine zq ?_|refine zv ?_|exact Sy.fin_val fun e=>rfl)));(all_goals (try conv => whnf)))
      all_goals done
end Go.Proofs.Ythmcknchkecciaa
