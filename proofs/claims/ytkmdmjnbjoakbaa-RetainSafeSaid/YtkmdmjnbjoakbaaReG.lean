/- slices.Sort at numbers: to part a row. -/
import Derived.Test.YtkmdmjnbjoakbaaReF
namespace Go.Proofs.Ytkmdmjnbjoakbaa
open Go Go.RowKit
open Sy (C SV V1 Blk St XD Els)
set_option maxRecDepth 10000

/-- While a row is parted: those ahead of i are less than the first, those behind j are not. -/
structure Parting (ds X : List Int) (pv : Int) (i j : Nat) : Prop where
  perm : X.Perm ds
  at_ : X[0]? = some pv
  one : 1 ≤ i
  le : i ≤ j + 1
  lt : j < X.length
  lo : ∀ k u, 1 ≤ k → k < i → X[k]? = some u → u < pv
  hi : ∀ k u, j < k → X[k]? = some u → pv ≤ u
theorem Parting.up {ds X : List Int} {pv u : Int} {i j : Nat} (h : Parting ds X pv i j) (hij : i ≤ j) (hu : X[i]? = some u) (hlt : u < pv) : Parting ds X pv (i + 1) j :=
  ⟨h.perm, h.at_, by omega, by omega, h.lt, fun k t h1 h2 h3 => by
    by_cases e : k = i
    · subst e; rw [hu] at h3; cases h3; exact hlt
    · exact h.lo k t h1 (by omega) h3, h.hi⟩
theorem Parting.down {ds X : List Int} {pv u : Int} {i j : Nat} (h : Parting ds X pv i j) (hij : i ≤ j) (hu : X[j]? = some u) (hge : pv ≤ u) : Parting ds X pv i (j - 1) := by
  have h1 := h.one
  have h2 := h.lt
  exact ⟨h.perm, h.at_, h1, by omega, by omega, h.lo, fun k t h3 h4 => by
    by_cases e : k = j
    · subst e; rw [hu] at h4; cases h4; exact hge
    · exact h.hi k t (by omega) h4⟩
theorem Parting.swap {ds X : List Int} {pv u t : Int} {i j : Nat} (h : Parting ds X pv i j) (hij : i ≤ j) (hi : X[i]? = some u) (hj : X[j]? = some t) (hu : pv ≤ u) (ht : t < pv) : i < j ∧ Parting ds ((X.set i t).set j u) pv (i + 1) (j - 1) := by
  have h1 := h.one
  have h2 := h.lt
  have hne : i ≠ j := fun e => by subst e; rw [hi] at hj; cases hj; omega
  refine ⟨by omega, (swap_perm hi hj hne).trans h.perm, ?_, by omega, by omega, by simp; omega, fun k v h3 h4 h5 => ?_, fun k v h3 h4 => ?_⟩
  · rw [List.getElem?_set_ne (by omega), List.getElem?_set_ne (by omega)]; exact h.at_
  · rw [List.getElem?_set_ne (by omega)] at h5
    by_cases e : k = i
    · subst e; rw [List.getElem?_set_self (by omega)] at h5; cases h5; exact ht
    · rw [List.getElem?_set_ne (by omega)] at h5; exact h.lo k v h3 (by omega) h5
  · by_cases e : k = j
    · subst e; rw [List.getElem?_set_self (by simp; omega)] at h4; cases h4; exact hu
    · rw [List.getElem?_set_ne (by omega), List.getElem?_set_ne (by omega)] at h4; exact h.hi k v (by omega) h4
theorem Parting.done {ds X : List Int} {pv t : Int} {i j : Nat} (h : Parting ds X pv i j) (hij : i = j + 1) (hj : X[j]? = some t) : ((X.set j pv).set 0 t).Perm ds ∧ Parted ((X.set j pv).set 0 t) j pv := by
  have h2 := h.lt
  by_cases e0 : j = 0
  · subst e0
    have ht : t = pv := by have := h.at_; rw [hj] at this; cases this; rfl
    subst ht
    have e1 : (X.set 0 t).set 0 t = X := swap_self hj hj
    rw [e1]
    exact ⟨h.perm, hj, fun k u hk => absurd hk (Nat.not_lt_zero _), h.hi⟩
  · refine ⟨(swap_perm hj h.at_ e0).trans h.perm, ?_, fun k u h3 h4 => ?_, fun k u h3 h4 => ?_⟩
    · rw [List.getElem?_set_ne (fun e => e0 e.symm), List.getElem?_set_self h2]
    · by_cases e : k = 0
      · subst e; rw [List.getElem?_set_self (by simp; omega)] at h4; cases h4; exact h.lo j _ (by omega) (by omega) hj
      · rw [List.getElem?_set_ne (fun e' => e e'.symm), List.getElem?_set_ne (by omega)] at h4; exact h.lo k u (by omega) (by omega) h4
    · rw [List.getElem?_set_ne (by omega), List.getElem?_set_ne (by omega)] at h4; exact h.hi k u h3 h4
theorem parting_start {ds : List Int} {pv x0 : Int} {p : Nat} (hp : ds[p]? = some pv) (hx : ds[0]? = some x0) (hl : 2 ≤ ds.length) : Parting ds ((ds.set 0 pv).set p x0) pv 1 (ds.length - 1) := by
  have hlen : ((ds.set 0 pv).set p x0).length = ds.length := by simp
  have hperm : ((ds.set 0 pv).set p x0).Perm ds := by
    by_cases h : p = 0
    · subst h; rw [swap_self hx hp]
    · exact swap_perm hx hp (fun e => h e.symm)
  refine ⟨hperm, ?_, Nat.le_refl _, by omega, by omega, fun k u h1 h2 => by omega, fun k u h1 h2 => ?_⟩
  · by_cases h : p = 0
    · subst h; rw [swap_self hx hp]; exact hp
    · rw [List.getElem?_set_ne h, List.getElem?_set_self (by omega)]
  · have := (List.getElem?_eq_some_iff.1 h2).1
    omega
theorem set_at {X : List Int} {i j : Nat} {x y : Int} (hi : X[i]? = some y) (hj : j < X.length) (h : i = j → x = y) : ((X.map encU).set j (encU x))[i]? = some (encU y) := by
  by_cases e : i = j
  · subst e; rw [List.getElem?_set_self (by simpa using hj), h rfl]
  · rw [List.getElem?_set_ne (fun e' => e e'.symm), List.getElem?_map, hi]; rfl
theorem set_two (X : List Int) (i j : Nat) (x y : Int) : ((X.map encU).set i (encU x)).set j (encU y) = ((X.set i x).set j y).map encU := by
  rw [List.map_set, List.map_set]
def partP (ds : List Int) (pv : Int) (r : List Int × Nat × Bool) : Prop := r.1.Perm ds ∧ Parted r.1 r.2.1 pv
set_option maxHeartbeats 4000000 in
theorem part_any (v : Value) (ds : List Int) (p : Nat) (pv : Int) (w : World) (hown : Sy.OwnE w 25 1 v ds.length (ds.map encU)) (h2 : 2 ≤ ds.length) (hl : ds.length ≤ 1000) (hp : ds[p]? = some pv) :
    Calls Try.prog 67 #[v, .int .i64 (0 : Nat), .int .i64 ds.length, .int .i64 p] w (Sy.RetMutX v (partP ds pv) (fun r => .tuple #[.int .i64 r.2.1, .bool r.2.2]) (fun r => ⟨25, 1, ds.length, r.1.map encU⟩) w) := by
  refine Sy.calls_mut Sy.lv67 Sy.tab_ok Try.func67 rfl _ Try.ntmps67 v 25 1 ds.length (ds.map encU) hown [] [.c (.row 0), .c (.v (.int .i64 (0 : Nat))), .c (.v (.int .i64 ds.length)), .c (.v (.int .i64 p))] ?_ rfl rfl trivial ?_
  · simp [Sy.denAll, SV.den, C.den, Sy.Env.exts, Sy.Env.withRow]
  · have hplt : p < ds.length := (List.getElem?_eq_some_iff.1 hp).1
    obtain ⟨x0, hx0⟩ : ∃ x0, ds[0]? = some x0 := ⟨ds[0], List.getElem?_eq_getElem (by omega)⟩
    ((repeat' ((conv => whnf);(first|refine zA ?_|(refine zI ?_ ?_<;> intro hh<;> first|(exfalso;omega)|skip)|(refine zl ?_ ?_<;> intro hh)|refine zu ?_|exact Sy.fin_val fun e=>rfl)));(all_goals (try conv => whnf)))
    have hz1 : ((ds.map encU).set 0 (Sy.splice (encU x0) 0 [Value.int .u64 pv]))[p]? = some (encU pv) := by
      show ((ds.map encU).set 0 (encU pv))[p]? = _
      by_cases h : p = 0
      · subst h; rw [List.getElem?_set_self (by simpa using hplt)]
      · rw [List.getElem?_set_ne (fun e => h e.symm), List.getElem?_map, hp]; rfl
    have hs1 : ((ds.map encU).set 0 (Sy.splice (encU x0) 0 [Value.int .u64 pv])).set p (Sy.splice (encU pv) 0 [Value.int .u64 x0]) = ((ds.set 0 pv).set p x0).map encU := by
      rw [List.map_set, List.map_set]; rfl
    refine Sy.cut_sem (Sy.cut_inv Sy.tab_ok (fun _ : Unit => []) (fun _ => [(0, .row 25 1 ds.length (.vs (((ds.set 0 pv).set p x0).map encU)))]) (fun _ => True) ?_ (fun _ _ => ?_))
    · refine Sy.draw_go [0] (by kernel_rfl) ?_
      intro e0
      conv => whnf
      refine zt 0 rfl ?_
      conv => whnf
      refine zt 1 rfl ?_
      conv => whnf
      refine zt 2 rfl ?_
      conv => whnf
      refine zt 3 rfl ?_
      conv => whnf
      refine zt 4 rfl ?_
      conv => whnf
      refine zt 5 rfl ?_
      conv => whnf
      refine zt 8 rfl ?_
      conv => whnf
      refine zt 9 rfl ?_
      conv => whnf
      focus
        refine zd1 [6, 10] (zx rfl ?_ (zx rfl ?_ zy))
        focus
          conv => whnf
          refine Sy.idx_nat (by omega) ?_
          conv => whnf
          refine ⟨(by repeat' ((conv => whnf);first|exact trivial|(refine And.intro ?_ ?_)|rfl)), ?_⟩
          focus
            refine zd1 [7, 10] (zx rfl ?_ (zx rfl ?_ zy))
            focus
              conv => whnf
              refine Sy.el_map pv hp ?_
              conv => whnf
              refine ⟨(by repeat' ((conv => whnf);first|exact trivial|(refine And.intro ?_ ?_)|rfl)), ?_⟩
              refine zd1 [10] (zx rfl ?_ zy)
              conv => whnf
              refine Sy.idx_nat (by omega) ?_
              conv => whnf
              refine ⟨(by repeat' ((conv => whnf);first|exact trivial|(refine And.intro ?_ ?_)|rfl)), ?_⟩
              refine zd1 [11] (zx rfl ?_ zy)
              conv => whnf
              refine Sy.el_map x0 hx0 ?_
              conv => whnf
              refine ⟨(by repeat' ((conv => whnf);first|exact trivial|(refine And.intro ?_ ?_)|rfl)), ?_⟩
              refine zd1 [12] (zx rfl ?_ zy)
              conv => whnf
              refine Sy.idx_nat (by omega) ?_
              conv => whnf
              refine ⟨(by repeat' ((conv => whnf);first|exact trivial|(refine And.intro ?_ ?_)|rfl)), ?_⟩
              refine zd1 [13] (zx rfl ?_ zy)
              conv => whnf
              refine Sy.el_map x0 hx0 ?_
              conv => whnf
              refine ⟨(by repeat' ((conv => whnf);first|exact trivial|(refine And.intro ?_ ?_)|rfl)), ?_⟩
              refine zd1 [14] (zx rfl ?_ zy)
              conv => whnf
              refine Sy.idx_nat (by omega) ?_
              conv => whnf
              refine ⟨(by repeat' ((conv => whnf);first|exact trivial|(refine And.intro ?_ ?_)|rfl)), ?_⟩
              refine zd1 [15] (zx rfl ?_ zy)
              conv => whnf
              refine Sy.el_of (encU pv) hz1 ?_
              conv => whnf
              refine ⟨(by repeat' ((conv => whnf);first|exact trivial|(refine And.intro ?_ ?_)|rfl)), ?_⟩
              refine zw ?_
              refine ⟨(), trivial, ?_⟩
              rw [hs1]
              ((repeat' (first|((conv => whnf);done)|((try conv => whnf);first|exact trivial|(refine And.intro ?_ ?_)|rfl|exact fun _ _ _ h=>h|exact fun _ _ _ _=>trivial)));(all_goals (try conv => whnf)))
            rotate_right
            focus
              conv => whnf
              refine Sy.idx_nat (by omega) ?_
              conv => whnf
              refine ⟨(by repeat' ((conv => whnf);first|exact trivial|(refine And.intro ?_ ?_)|rfl)), ?_⟩
              focus
                refine zd1 [7, 11] (zx rfl ?_ (zx rfl ?_ zy))
                focus
                  conv => whnf
                  refine Sy.el_map pv hp ?_
                  conv => whnf
                  refine ⟨(by repeat' ((conv => whnf);first|exact trivial|(refine And.intro ?_ ?_)|rfl)), ?_⟩
                  refine zd1 [11] (zx rfl ?_ zy)
                  conv => whnf
                  refine Sy.el_map x0 hx0 ?_
                  conv => whnf
                  refine ⟨(by repeat' ((conv => whnf);first|exact trivial|(refine And.intro ?_ ?_)|rfl)), ?_⟩
                  refine zd1 [12] (zx rfl ?_ zy)
                  conv => whnf
                  refine Sy.idx_nat (by omega) ?_
                  conv => whnf
                  refine ⟨(by repeat' ((conv => whnf);first|exact trivial|(refine And.intro ?_ ?_)|rfl)), ?_⟩
                  refine zd1 [13] (zx rfl ?_ zy)
                  conv => whnf
                  refine Sy.el_map x0 hx0 ?_
                  conv => whnf
                  refine ⟨(by repeat' ((conv => whnf);first|exact trivial|(refine And.intro ?_ ?_)|rfl)), ?_⟩
                  refine zd1 [14] (zx rfl ?_ zy)
                  conv => whnf
                  refine Sy.idx_nat (by omega) ?_
                  conv => whnf
                  refine ⟨(by repeat' ((conv => whnf);first|exact trivial|(refine And.intro ?_ ?_)|rfl)), ?_⟩
                  refine zd1 [15] (zx rfl ?_ zy)
                  conv => whnf
                  refine Sy.el_of (encU pv) hz1 ?_
                  conv => whnf
                  refine ⟨(by repeat' ((conv => whnf);first|exact trivial|(refine And.intro ?_ ?_)|rfl)), ?_⟩
                  refine zw ?_
                  refine ⟨(), trivial, ?_⟩
                  rw [hs1]
                  ((repeat' (first|((conv => whnf);done)|((try conv => whnf);first|exact trivial|(refine And.intro ?_ ?_)|rfl|exact fun _ _ _ h=>h|exact fun _ _ _ _=>trivial)));(all_goals (try conv => whnf)))
                rotate_right
                focus
                  conv => whnf
                  refine Sy.el_map x0 hx0 ?_
                  conv => whnf
                  refine ⟨(by repeat' ((conv => whnf);first|exact trivial|(refine And.intro ?_ ?_)|rfl)), ?_⟩
                  refine zd1 [7] (zx rfl ?_ zy)
                  conv => whnf
                  refine Sy.el_map pv hp ?_
                  conv => whnf
                  refine ⟨(by repeat' ((conv => whnf);first|exact trivial|(refine And.intro ?_ ?_)|rfl)), ?_⟩
                  refine zd1 [12] (zx rfl ?_ zy)
                  conv => whnf
                  refine Sy.idx_nat (by omega) ?_
                  conv => whnf
                  refine ⟨(by repeat' ((conv => whnf);first|exact trivial|(refine And.intro ?_ ?_)|rfl)), ?_⟩
                  refine zd1 [13] (zx rfl ?_ zy)
                  conv => whnf
                  refine Sy.el_map x0 hx0 ?_
                  conv => whnf
                  refine ⟨(by repeat' ((conv => whnf);first|exact trivial|(refine And.intro ?_ ?_)|rfl)), ?_⟩
                  refine zd1 [14] (zx rfl ?_ zy)
                  conv => whnf
                  refine Sy.idx_nat (by omega) ?_
                  conv => whnf
                  refine ⟨(by repeat' ((conv => whnf);first|exact trivial|(refine And.intro ?_ ?_)|rfl)), ?_⟩
                  refine zd1 [15] (zx rfl ?_ zy)
                  conv => whnf
                  refine Sy.el_of (encU pv) hz1 ?_
                  conv => whnf
                  refine ⟨(by repeat' ((conv => whnf);first|exact trivial|(refine And.intro ?_ ?_)|rfl)), ?_⟩
                  refine zw ?_
                  refine ⟨(), trivial, ?_⟩
                  rw [hs1]
                  ((repeat' (first|((conv => whnf);done)|((try conv => whnf);first|exact trivial|(refine And.intro ?_ ?_)|rfl|exact fun _ _ _ h=>h|exact fun _ _ _ _=>trivial)));(all_goals (try conv => whnf)))
        rotate_right
        focus
          conv => whnf
          refine Sy.idx_nat (by omega) ?_
          conv => whnf
          refine ⟨(by repeat' ((conv => whnf);first|exact trivial|(refine And.intro ?_ ?_)|rfl)), ?_⟩
          focus
            refine zd1 [6, 11] (zx rfl ?_ (zx rfl ?_ zy))
            focus
              conv => whnf
              refine Sy.idx_nat (by omega) ?_
              conv => whnf
              refine ⟨(by repeat' ((conv => whnf);first|exact trivial|(refine And.intro ?_ ?_)|rfl)), ?_⟩
              focus
                refine zd1 [7, 11] (zx rfl ?_ (zx rfl ?_ zy))
                focus
                  conv => whnf
                  refine Sy.el_map pv hp ?_
                  conv => whnf
                  refine ⟨(by repeat' ((conv => whnf);first|exact trivial|(refine And.intro ?_ ?_)|rfl)), ?_⟩
                  refine zd1 [11] (zx rfl ?_ zy)
                  conv => whnf
                  refine Sy.el_map x0 hx0 ?_
                  conv => whnf
                  refine ⟨(by repeat' ((conv => whnf);first|exact trivial|(refine And.intro ?_ ?_)|rfl)), ?_⟩
                  refine zd1 [12] (zx rfl ?_ zy)
                  conv => whnf
                  refine Sy.idx_nat (by omega) ?_
                  conv => whnf
                  refine ⟨(by repeat' ((conv => whnf);first|exact trivial|(refine And.intro ?_ ?_)|rfl)), ?_⟩
                  refine zd1 [13] (zx rfl ?_ zy)
                  conv => whnf
                  refine Sy.el_map x0 hx0 ?_
                  conv => whnf
                  refine ⟨(by repeat' ((conv => whnf);first|exact trivial|(refine And.intro ?_ ?_)|rfl)), ?_⟩
                  refine zd1 [14] (zx rfl ?_ zy)
                  conv => whnf
                  refine Sy.idx_nat (by omega) ?_
                  conv => whnf
                  refine ⟨(by repeat' ((conv => whnf);first|exact trivial|(refine And.intro ?_ ?_)|rfl)), ?_⟩
                  refine zd1 [15] (zx rfl ?_ zy)
                  conv => whnf
                  refine Sy.el_of (encU pv) hz1 ?_
                  conv => whnf
                  refine ⟨(by repeat' ((conv => whnf);first|exact trivial|(refine And.intro ?_ ?_)|rfl)), ?_⟩
                  refine zw ?_
                  refine ⟨(), trivial, ?_⟩
                  rw [hs1]
                  ((repeat' (first|((conv => whnf);done)|((try conv => whnf);first|exact trivial|(refine And.intro ?_ ?_)|rfl|exact fun _ _ _ h=>h|exact fun _ _ _ _=>trivial)));(all_goals (try conv => whnf)))
                rotate_right
                focus
                  conv => whnf
                  refine Sy.el_map x0 hx0 ?_
                  conv => whnf
                  refine ⟨(by repeat' ((conv => whnf);first|exact trivial|(refine And.intro ?_ ?_)|rfl)), ?_⟩
                  refine zd1 [7] (zx rfl ?_ zy)
                  conv => whnf
                  refine Sy.el_map pv hp ?_
                  conv => whnf
                  refine ⟨(by repeat' ((conv => whnf);first|exact trivial|(refine And.intro ?_ ?_)|rfl)), ?_⟩
                  refine zd1 [12] (zx rfl ?_ zy)
                  conv => whnf
                  refine Sy.idx_nat (by omega) ?_
                  conv => whnf
                  refine ⟨(by repeat' ((conv => whnf);first|exact trivial|(refine And.intro ?_ ?_)|rfl)), ?_⟩
                  refine zd1 [13] (zx rfl ?_ zy)
                  conv => whnf
                  refine Sy.el_map x0 hx0 ?_
                  conv => whnf
                  refine ⟨(by repeat' ((conv => whnf);first|exact trivial|(refine And.intro ?_ ?_)|rfl)), ?_⟩
                  refine zd1 [14] (zx rfl ?_ zy)
                  conv => whnf
                  refine Sy.idx_nat (by omega) ?_
                  conv => whnf
                  refine ⟨(by repeat' ((conv => whnf);first|exact trivial|(refine And.intro ?_ ?_)|rfl)), ?_⟩
                  refine zd1 [15] (zx rfl ?_ zy)
                  conv => whnf
                  refine Sy.el_of (encU pv) hz1 ?_
                  conv => whnf
                  refine ⟨(by repeat' ((conv => whnf);first|exact trivial|(refine And.intro ?_ ?_)|rfl)), ?_⟩
                  refine zw ?_
                  refine ⟨(), trivial, ?_⟩
                  rw [hs1]
                  ((repeat' (first|((conv => whnf);done)|((try conv => whnf);first|exact trivial|(refine And.intro ?_ ?_)|rfl|exact fun _ _ _ h=>h|exact fun _ _ _ _=>trivial)));(all_goals (try conv => whnf)))
            rotate_right
            focus
              conv => whnf
              refine Sy.el_map x0 hx0 ?_
              conv => whnf
              refine ⟨(by repeat' ((conv => whnf);first|exact trivial|(refine And.intro ?_ ?_)|rfl)), ?_⟩
              refine zd1 [6] (zx rfl ?_ zy)
              conv => whnf
              refine Sy.idx_nat (by omega) ?_
              conv => whnf
              refine ⟨(by repeat' ((conv => whnf);first|exact trivial|(refine And.intro ?_ ?_)|rfl)), ?_⟩
              refine zd1 [7] (zx rfl ?_ zy)
              conv => whnf
              refine Sy.el_map pv hp ?_
              conv => whnf
              refine ⟨(by repeat' ((conv => whnf);first|exact trivial|(refine And.intro ?_ ?_)|rfl)), ?_⟩
              refine zd1 [12] (zx rfl ?_ zy)
              conv => whnf
              refine Sy.idx_nat (by omega) ?_
              conv => whnf
              refine ⟨(by repeat' ((conv => whnf);first|exact trivial|(refine And.intro ?_ ?_)|rfl)), ?_⟩
              refine zd1 [13] (zx rfl ?_ zy)
              conv => whnf
              refine Sy.el_map x0 hx0 ?_
              conv => whnf
              refine ⟨(by repeat' ((conv => whnf);first|exact trivial|(refine And.intro ?_ ?_)|rfl)), ?_⟩
              refine zd1 [14] (zx rfl ?_ zy)
              conv => whnf
              refine Sy.idx_nat (by omega) ?_
              conv => whnf
              refine ⟨(by repeat' ((conv => whnf);first|exact trivial|(refine And.intro ?_ ?_)|rfl)), ?_⟩
              refine zd1 [15] (zx rfl ?_ zy)
              conv => whnf
              refine Sy.el_of (encU pv) hz1 ?_
              conv => whnf
              refine ⟨(by repeat' ((conv => whnf);first|exact trivial|(refine And.intro ?_ ?_)|rfl)), ?_⟩
              refine zw ?_
              refine ⟨(), trivial, ?_⟩
              rw [hs1]
              ((repeat' (first|((conv => whnf);done)|((try conv => whnf);first|exact trivial|(refine And.intro ?_ ?_)|rfl|exact fun _ _ _ h=>h|exact fun _ _ _ _=>trivial)));(all_goals (try conv => whnf)))
    · have hP := parting_start hp hx0 h2
      have hXl : ((ds.set 0 pv).set p x0).length = ds.length := by simp
      generalize (ds.set 0 pv).set p x0 = X at *
      clear hz1 hs1 hx0
      ((repeat' ((conv => whnf);(first|refine zA ?_|(refine zI ?_ ?_<;> intro hh<;> first|(exfalso;omega)|skip)|(refine zl ?_ ?_<;> intro hh)|refine zq ?_|refine zv ?_|refine zu ?_|exact Sy.fin_val fun e=>rfl)));(all_goals (try conv => whnf)))
      refine Sy.loop_inv Sy.tab_ok (fun i : Nat => [(10, .c (.v (.int .i64 i))), (11, .c (.v (.int .i64 (ds.length - 1 : Nat))))]) (fun _ => []) (fun i => Parting ds X pv i (ds.length - 1)) (fun i => ds.length - i) 1 hP ?_ (fun i hP => ?_)
      · ((repeat' (first|((conv => whnf);done)|((try conv => whnf);first|exact trivial|(refine And.intro ?_ ?_)|rfl|exact fun _ _ _ h=>h|exact fun _ _ _ _=>trivial)));(all_goals (try conv => whnf)))
        all_goals exact congrArg (Value.int .i64) (by omega)
      · by_cases hij : i ≤ ds.length - 1
        · obtain ⟨u, hu⟩ : ∃ u, X[i]? = some u := ⟨X[i], List.getElem?_eq_getElem (by omega)⟩
          have hd : decide ((i : Int) ≤ ((ds.length - 1 : Nat) : Int)) = true := decide_eq_true (by omega)
          have h0 := hP.at_
          ((repeat' ((conv => whnf);(first|refine zA ?_|(refine zI ?_ ?_<;> intro hh<;> first|(exfalso;omega)|skip)|(refine zl ?_ ?_<;> intro hh)|refine zq ?_|refine zv ?_|refine zu ?_|exact Sy.fin_val fun e=>rfl)));(all_goals (try conv => whnf)))
          all_goals (refine Sy.draw_go [] (by kernel_rfl) ?_; intro e0; conv => whnf)
          all_goals (refine zt 0 rfl ?_)
          all_goals (conv => whnf)
          all_goals (refine zt 1 rfl ?_)
          all_goals (conv => whnf)
          all_goals (refine zt 2 rfl ?_)
          all_goals ((conv => whnf);(repeat' ((first|refine zA ?_|(refine zI ?_ ?_<;> intro hh<;> first|(exfalso;omega)|skip)|(refine zl ?_ ?_<;> intro hh)|refine zq ?_|refine zv ?_|refine zu ?_|exact Sy.fin_val fun e=>rfl);(try conv => whnf))))
          all_goals (refine zt 3 rfl ?_)
          all_goals (conv => whnf)
          all_goals (refine zt 4 rfl ?_)
          all_goals ((conv => whnf);(repeat' ((first|refine zA ?_|(refine zI ?_ ?_<;> intro hh<;> first|(exfalso;omega)|skip)|(refine zl ?_ ?_<;> intro hh)|refine zq ?_|refine zv ?_|refine zu ?_|exact Sy.fin_val fun e=>rfl);(try conv => whnf))))
          all_goals (refine zt 5 rfl ?_)
          all_goals ((conv => whnf);(repeat' ((first|refine zA ?_|(refine zI ?_ ?_<;> intro hh<;> first|(exfalso;omega)|skip)|(refine zl ?_ ?_<;> intro hh)|refine zq ?_|refine zv ?_|refine zu ?_|exact Sy.fin_val fun e=>rfl);(try conv => whnf))))
          all_goals (refine zt 6 rfl ?_)
          all_goals ((conv => whnf);(repeat' ((first|refine zA ?_|(refine zI ?_ ?_<;> intro hh<;> first|(exfalso;omega)|skip)|(refine zl ?_ ?_<;> intro hh)|refine zq ?_|refine zv ?_|refine zu ?_|exact Sy.fin_val fun e=>rfl);(try conv => whnf))))
          all_goals (refine zt 7 rfl ?_)
          all_goals ((conv => whnf);(repeat' ((first|refine zA ?_|(refine zI ?_ ?_<;> intro hh<;> first|(exfalso;omega)|skip)|(refine zl ?_ ?_<;> intro hh)|refine zq ?_|refine zv ?_|refine zu ?_|exact Sy.fin_val fun e=>rfl);(try conv => whnf))))
          all_goals (refine Sy.el_map u hu ?_)
          all_goals (conv => whnf)
          all_goals (refine zt 8 rfl ?_)
          all_goals ((conv => whnf);(repeat' ((first|refine zA ?_|(refine zI ?_ ?_<;> intro hh<;> first|(exfalso;omega)|skip)|(refine zl ?_ ?_<;> intro hh)|refine zq ?_|refine zv ?_|refine zu ?_|exact Sy.fin_val fun e=>rfl);(try conv => whnf))))
          all_goals (refine zt 9 rfl ?_)
          all_goals ((conv => whnf);(repeat' ((first|refine zA ?_|(refine zI ?_ ?_<;> intro hh<;> first|(exfalso;omega)|skip)|(refine zl ?_ ?_<;> intro hh)|refine zq ?_|refine zv ?_|refine zu ?_|exact Sy.fin_val fun e=>rfl);(try conv => whnf))))
          all_goals (refine zt 10 rfl ?_)
          all_goals ((conv => whnf);(repeat' ((first|refine zA ?_|(refine zI ?_ ?_<;> intro hh<;> first|(exfalso;omega)|skip)|(refine zl ?_ ?_<;> intro hh)|refine zq ?_|refine zv ?_|refine zu ?_|exact Sy.fin_val fun e=>rfl);(try conv => whnf))))
          all_goals (refine zt 11 rfl ?_)
          all_goals ((conv => whnf);(repeat' ((first|refine zA ?_|(refine zI ?_ ?_<;> intro hh<;> first|(exfalso;omega)|skip)|(refine zl ?_ ?_<;> intro hh)|refine zq ?_|refine zv ?_|refine zu ?_|exact Sy.fin_val fun e=>rfl);(try conv => whnf))))
          all_goals (refine Sy.el_map pv h0 ?_)
          all_goals (conv => whnf)
          all_goals (refine zd1 [12] (zx rfl ?_ zy))
          all_goals (conv => whnf)
          all_goals ((refine zA ?_;conv => whnf))
          all_goals (refine Sy.call_val (.c (.v (.bool (decide (u < pv))))) Try.call65 rfl (fun e a w' h => lessU_any u pv w') ?_)
          all_goals (refine ⟨(by repeat' ((conv => whnf);first|exact trivial|(refine And.intro ?_ ?_)|rfl)), ?_⟩)
          all_goals (refine zt 13 rfl ?_)
          all_goals ((conv => whnf);(repeat' ((first|refine zA ?_|(refine zI ?_ ?_<;> intro hh<;> first|(exfalso;omega)|skip)|(refine zl ?_ ?_<;> intro hh)|refine zq ?_|refine zv ?_|refine zu ?_|exact Sy.fin_val fun e=>rfl);(try conv => whnf))))
          all_goals (refine zw ?_)
          all_goals (((repeat' ((conv => whnf);(first|refine zA ?_|(refine zI ?_ ?_<;> intro hh<;> first|(exfalso;omega)|skip)|(refine zl ?_ ?_<;> intro hh)|refine zq ?_|refine zv ?_|refine zu ?_|exact Sy.fin_val fun e=>rfl)));(all_goals (try conv => whnf))))
          · refine ⟨i + 1, hP.up hij hu (by assumption), by omega, ?_⟩
            ((repeat' (first|((conv => whnf);done)|((try conv => whnf);first|exact trivial|(refine And.intro ?_ ?_)|rfl|exact fun _ _ _ h=>h|exact fun _ _ _ _=>trivial)));(all_goals (try conv => whnf)))
          · clear hd
            refine Sy.loop_inv Sy.tab_ok (fun j : Nat => [(10, .c (.v (.int .i64 i))), (11, .c (.v (.int .i64 j)))]) (fun _ => []) (fun j => Parting ds X pv i j) (fun j => j) (ds.length - 1) hP ?_ (fun j hQ => ?_)
            · ((repeat' (first|((conv => whnf);done)|((try conv => whnf);first|exact trivial|(refine And.intro ?_ ?_)|rfl|exact fun _ _ _ h=>h|exact fun _ _ _ _=>trivial)));(all_goals (try conv => whnf)))
            · have hone := hQ.one
              have hjl := hQ.lt
              have hle := hQ.le
              obtain ⟨t, ht⟩ : ∃ t, X[j]? = some t := ⟨X[j], List.getElem?_eq_getElem (by omega)⟩
              by_cases hij2 : i ≤ j
              · have hd : decide ((i : Int) ≤ (j : Int)) = true := decide_eq_true (by omega)
                ((repeat' ((conv => whnf);(first|refine zA ?_|(refine zI ?_ ?_<;> intro hh<;> first|(exfalso;omega)|skip)|(refine zl ?_ ?_<;> intro hh)|refine zq ?_|refine zv ?_|refine zu ?_|exact Sy.fin_val fun e=>rfl)));(all_goals (try conv => whnf)))
                all_goals (refine Sy.draw_go [] (by kernel_rfl) ?_; intro e0; conv => whnf)
                all_goals (refine zt 0 rfl ?_)
                all_goals (conv => whnf)
                all_goals (refine zt 1 rfl ?_)
                all_goals (conv => whnf)
                all_goals (refine zt 2 rfl ?_)
                all_goals ((conv => whnf);(repeat' ((first|refine zA ?_|(refine zI ?_ ?_<;> intro hh<;> first|(exfalso;omega)|skip)|(refine zl ?_ ?_<;> intro hh)|refine zq ?_|refine zv ?_|refine zu ?_|exact Sy.fin_val fun e=>rfl);(try conv => whnf))))
                all_goals (refine zt 3 rfl ?_)
                all_goals (conv => whnf)
                all_goals (refine zt 4 rfl ?_)
                all_goals ((conv => whnf);(repeat' ((first|refine zA ?_|(refine zI ?_ ?_<;> intro hh<;> first|(exfalso;omega)|skip)|(refine zl ?_ ?_<;> intro hh)|refine zq ?_|refine zv ?_|refine zu ?_|exact Sy.fin_val fun e=>rfl);(try conv => whnf))))
                all_goals (refine zt 5 rfl ?_)
                all_goals ((conv => whnf);(repeat' ((first|refine zA ?_|(refine zI ?_ ?_<;> intro hh<;> first|(exfalso;omega)|skip)|(refine zl ?_ ?_<;> intro hh)|refine zq ?_|refine zv ?_|refine zu ?_|exact Sy.fin_val fun e=>rfl);(try conv => whnf))))
                all_goals (refine zt 6 rfl ?_)
                all_goals ((conv => whnf);(repeat' ((first|refine zA ?_|(refine zI ?_ ?_<;> intro hh<;> first|(exfalso;omega)|skip)|(refine zl ?_ ?_<;> intro hh)|refine zq ?_|refine zv ?_|refine zu ?_|exact Sy.fin_val fun e=>rfl);(try conv => whnf))))
                all_goals (refine zt 7 rfl ?_)
                all_goals ((conv => whnf);(repeat' ((first|refine zA ?_|(refine zI ?_ ?_<;> intro hh<;> first|(exfalso;omega)|skip)|(refine zl ?_ ?_<;> intro hh)|refine zq ?_|refine zv ?_|refine zu ?_|exact Sy.fin_val fun e=>rfl);(try conv => whnf))))
                all_goals (refine Sy.el_map t ht ?_)
                all_goals (conv => whnf)
                all_goals (refine zt 8 rfl ?_)
                all_goals ((conv => whnf);(repeat' ((first|refine zA ?_|(refine zI ?_ ?_<;> intro hh<;> first|(exfalso;omega)|skip)|(refine zl ?_ ?_<;> intro hh)|refine zq ?_|refine zv ?_|refine zu ?_|exact Sy.fin_val fun e=>rfl);(try conv => whnf))))
                all_goals (refine zt 9 rfl ?_)
                all_goals ((conv => whnf);(repeat' ((first|refine zA ?_|(refine zI ?_ ?_<;> intro hh<;> first|(exfalso;omega)|skip)|(refine zl ?_ ?_<;> intro hh)|refine zq ?_|refine zv ?_|refine zu ?_|exact Sy.fin_val fun e=>rfl);(try conv => whnf))))
                all_goals (refine zt 10 rfl ?_)
                all_goals ((conv => whnf);(repeat' ((first|refine zA ?_|(refine zI ?_ ?_<;> intro hh<;> first|(exfalso;omega)|skip)|(refine zl ?_ ?_<;> intro hh)|refine zq ?_|refine zv ?_|refine zu ?_|exact Sy.fin_val fun e=>rfl);(try conv => whnf))))
                all_goals (refine zt 11 rfl ?_)
                all_goals ((conv => whnf);(repeat' ((first|refine zA ?_|(refine zI ?_ ?_<;> intro hh<;> first|(exfalso;omega)|skip)|(refine zl ?_ ?_<;> intro hh)|refine zq ?_|refine zv ?_|refine zu ?_|exact Sy.fin_val fun e=>rfl);(try conv => whnf))))
                all_goals (refine Sy.el_map pv h0 ?_)
                all_goals (conv => whnf)
                all_goals (refine zd1 [12] (zx rfl ?_ zy))
                all_goals (conv => whnf)
                all_goals ((refine zA ?_;conv => whnf))
                all_goals (refine Sy.call_val (.c (.v (.bool (decide (t < pv))))) Try.call65 rfl (fun e a w' h => lessU_any t pv w') ?_)
                all_goals (refine ⟨(by repeat' ((conv => whnf);first|exact trivial|(refine And.intro ?_ ?_)|rfl)), ?_⟩)
                all_goals (refine zt 13 rfl ?_)
                all_goals ((conv => whnf);(repeat' ((first|refine zA ?_|(refine zI ?_ ?_<;> intro hh<;> first|(exfalso;omega)|skip)|(refine zl ?_ ?_<;> intro hh)|refine zq ?_|refine zv ?_|refine zu ?_|exact Sy.fin_val fun e=>rfl);(try conv => whnf))))
                all_goals (refine zt 14 rfl ?_)
                all_goals ((conv => whnf);(repeat' ((first|refine zA ?_|(refine zI ?_ ?_<;> intro hh<;> first|(exfalso;omega)|skip)|(refine zl ?_ ?_<;> intro hh)|refine zq ?_|refine zv ?_|refine zu ?_|exact Sy.fin_val fun e=>rfl);(try conv => whnf))))
                all_goals (refine zw ?_)
                all_goals (((repeat' ((conv => whnf);(first|refine zA ?_|(refine zI ?_ ?_<;> intro hh<;> first|(exfalso;omega)|skip)|(refine zl ?_ ?_<;> intro hh)|refine zu ?_|exact Sy.fin_val fun e=>rfl)));(all_goals (try conv => whnf))))
                · have hsw := hQ.swap hij2 hu ht (by omega) (by assumption)
                  have hz : ((X.map encU).set i (Sy.splice (encU u) 0 [Value.int .u64 t]))[j]? = some (encU t) := set_at ht (by omega) (fun _ => rfl)
                  have hs : ((X.map encU).set i (Sy.splice (encU u) 0 [Value.int .u64 t])).set j (Sy.splice (encU t) 0 [Value.int .u64 u]) = ((X.set i t).set j u).map encU := set_two X _ _ _ _
                  refine Sy.cut_sem (Sy.cut_inv Sy.tab_ok (fun _ : Unit => []) (fun _ => [(0, .row 25 1 ds.length (.vs (((X.set i t).set j u).map encU)))]) (fun _ => True) ?_ (fun _ _ => ?_))
                  · refine Sy.draw_go [0] (by kernel_rfl) ?_
                    intro e0
                    conv => whnf
                    refine zt 0 rfl ?_
                    conv => whnf
                    refine zt 1 rfl ?_
                    conv => whnf
                    refine zt 2 rfl ?_
                    conv => whnf
                    refine zt 3 rfl ?_
                    conv => whnf
                    refine zt 4 rfl ?_
                    conv => whnf
                    refine zt 5 rfl ?_
                    conv => whnf
                    refine zt 8 rfl ?_
                    conv => whnf
                    refine zt 9 rfl ?_
                    conv => whnf
                    focus
                      refine zd1 [6, 10] (zx rfl ?_ (zx rfl ?_ zy))
                      focus
                        conv => whnf
                        refine Sy.idx_nat (by omega) ?_
                        conv => whnf
                        refine ⟨(by repeat' ((conv => whnf);first|exact trivial|(refine And.intro ?_ ?_)|rfl)), ?_⟩
                        focus
                          refine zd1 [7, 10] (zx rfl ?_ (zx rfl ?_ zy))
                          focus
                            conv => whnf
                            refine Sy.el_map t ht ?_
                            conv => whnf
                            refine ⟨(by repeat' ((conv => whnf);first|exact trivial|(refine And.intro ?_ ?_)|rfl)), ?_⟩
                            refine zd1 [10] (zx rfl ?_ zy)
                            conv => whnf
                            refine Sy.idx_nat (by omega) ?_
                            conv => whnf
                            refine ⟨(by repeat' ((conv => whnf);first|exact trivial|(refine And.intro ?_ ?_)|rfl)), ?_⟩
                            refine zd1 [11] (zx rfl ?_ zy)
                            conv => whnf
                            refine Sy.el_map u hu ?_
                            conv => whnf
                            refine ⟨(by repeat' ((conv => whnf);first|exact trivial|(refine And.intro ?_ ?_)|rfl)), ?_⟩
                            refine zd1 [12] (zx rfl ?_ zy)
                            conv => whnf
                            refine Sy.idx_nat (by omega) ?_
                            conv => whnf
                            refine ⟨(by repeat' ((conv => whnf);first|exact trivial|(refine And.intro ?_ ?_)|rfl)), ?_⟩
                            refine zd1 [13] (zx rfl ?_ zy)
                            conv => whnf
                            refine Sy.el_map u hu ?_
                            conv => whnf
                            refine ⟨(by repeat' ((conv => whnf);first|exact trivial|(refine And.intro ?_ ?_)|rfl)), ?_⟩
                            refine zd1 [14] (zx rfl ?_ zy)
                            conv => whnf
                            refine Sy.idx_nat (by omega) ?_
                            conv => whnf
                            refine ⟨(by repeat' ((conv => whnf);first|exact trivial|(refine And.intro ?_ ?_)|rfl)), ?_⟩
                            refine zd1 [15] (zx rfl ?_ zy)
                            conv => whnf
                            refine Sy.el_of (encU t) hz ?_
                            conv => whnf
                            refine ⟨(by repeat' ((conv => whnf);first|exact trivial|(refine And.intro ?_ ?_)|rfl)), ?_⟩
                            refine zw ?_
                            refine ⟨(), trivial, ?_⟩
                            rw [hs]
                            ((repeat' (first|((conv => whnf);done)|((try conv => whnf);first|exact trivial|(refine And.intro ?_ ?_)|rfl|exact fun _ _ _ h=>h|exact fun _ _ _ _=>trivial)));(all_goals (try conv => whnf)))
                          rotate_right
                          focus
                            conv => whnf
                            refine Sy.idx_nat (by omega) ?_
                            conv => whnf
                            refine ⟨(by repeat' ((conv => whnf);first|exact trivial|(refine And.intro ?_ ?_)|rfl)), ?_⟩
                            focus
                              refine zd1 [7, 11] (zx rfl ?_ (zx rfl ?_ zy))
                              focus
                                conv => whnf
                                refine Sy.el_map t ht ?_
                                conv => whnf
                                refine ⟨(by repeat' ((conv => whnf);first|exact trivial|(refine And.intro ?_ ?_)|rfl)), ?_⟩
                                refine zd1 [11] (zx rfl ?_ zy)
                                conv => whnf
                                refine Sy.el_map u hu ?_
                                conv => whnf
                                refine ⟨(by repeat' ((conv => whnf);first|exact trivial|(refine And.intro ?_ ?_)|rfl)), ?_⟩
                                refine zd1 [12] (zx rfl ?_ zy)
                                conv => whnf
                                refine Sy.idx_nat (by omega) ?_
                                conv => whnf
                                refine ⟨(by repeat' ((conv => whnf);first|exact trivial|(refine And.intro ?_ ?_)|rfl)), ?_⟩
                                refine zd1 [13] (zx rfl ?_ zy)
                                conv => whnf
                                refine Sy.el_map u hu ?_
                                conv => whnf
                                refine ⟨(by repeat' ((conv => whnf);first|exact trivial|(refine And.intro ?_ ?_)|rfl)), ?_⟩
                                refine zd1 [14] (zx rfl ?_ zy)
                                conv => whnf
                                refine Sy.idx_nat (by omega) ?_
                                conv => whnf
                                refine ⟨(by repeat' ((conv => whnf);first|exact trivial|(refine And.intro ?_ ?_)|rfl)), ?_⟩
                                refine zd1 [15] (zx rfl ?_ zy)
                                conv => whnf
                                refine Sy.el_of (encU t) hz ?_
                                conv => whnf
                                refine ⟨(by repeat' ((conv => whnf);first|exact trivial|(refine And.intro ?_ ?_)|rfl)), ?_⟩
                                refine zw ?_
                                refine ⟨(), trivial, ?_⟩
                                rw [hs]
                                ((repeat' (first|((conv => whnf);done)|((try conv => whnf);first|exact trivial|(refine And.intro ?_ ?_)|rfl|exact fun _ _ _ h=>h|exact fun _ _ _ _=>trivial)));(all_goals (try conv => whnf)))
                              rotate_right
                              focus
                                conv => whnf
                                refine Sy.el_map u hu ?_
                                conv => whnf
                                refine ⟨(by repeat' ((conv => whnf);first|exact trivial|(refine And.intro ?_ ?_)|rfl)), ?_⟩
                                refine zd1 [7] (zx rfl ?_ zy)
                                conv => whnf
                                refine Sy.el_map t ht ?_
                                conv => whnf
                                refine ⟨(by repeat' ((conv => whnf);first|exact trivial|(refine And.intro ?_ ?_)|rfl)), ?_⟩
                                refine zd1 [12] (zx rfl ?_ zy)
                                conv => whnf
                                refine Sy.idx_nat (by omega) ?_
                                conv => whnf
                                refine ⟨(by repeat' ((conv => whnf);first|exact trivial|(refine And.intro ?_ ?_)|rfl)), ?_⟩
                                refine zd1 [13] (zx rfl ?_ zy)
                                conv => whnf
                                refine Sy.el_map u hu ?_
                                conv => whnf
                                refine ⟨(by repeat' ((conv => whnf);first|exact trivial|(refine And.intro ?_ ?_)|rfl)), ?_⟩
                                refine zd1 [14] (zx rfl ?_ zy)
                                conv => whnf
                                refine Sy.idx_nat (by omega) ?_
                                conv => whnf
                                refine ⟨(by repeat' ((conv => whnf);first|exact trivial|(refine And.intro ?_ ?_)|rfl)), ?_⟩
                                refine zd1 [15] (zx rfl ?_ zy)
                                conv => whnf
                                refine Sy.el_of (encU t) hz ?_
                                conv => whnf
                                refine ⟨(by repeat' ((conv => whnf);first|exact trivial|(refine And.intro ?_ ?_)|rfl)), ?_⟩
                                refine zw ?_
                                refine ⟨(), trivial, ?_⟩
                                rw [hs]
                                ((repeat' (first|((conv => whnf);done)|((try conv => whnf);first|exact trivial|(refine And.intro ?_ ?_)|rfl|exact fun _ _ _ h=>h|exact fun _ _ _ _=>trivial)));(all_goals (try conv => whnf)))
                      rotate_right
                      focus
                        conv => whnf
                        refine Sy.idx_nat (by omega) ?_
                        conv => whnf
                        refine ⟨(by repeat' ((conv => whnf);first|exact trivial|(refine And.intro ?_ ?_)|rfl)), ?_⟩
                        focus
                          refine zd1 [6, 11] (zx rfl ?_ (zx rfl ?_ zy))
                          focus
                            conv => whnf
                            refine Sy.idx_nat (by omega) ?_
                            conv => whnf
                            refine ⟨(by repeat' ((conv => whnf);first|exact trivial|(refine And.intro ?_ ?_)|rfl)), ?_⟩
                            focus
                              refine zd1 [7, 11] (zx rfl ?_ (zx rfl ?_ zy))
                              focus
                                conv => whnf
                                refine Sy.el_map t ht ?_
                                conv => whnf
                                refine ⟨(by repeat' ((conv => whnf);first|exact trivial|(refine And.intro ?_ ?_)|rfl)), ?_⟩
                                refine zd1 [11] (zx rfl ?_ zy)
                                conv => whnf
                                refine Sy.el_map u hu ?_
                                conv => whnf
                                refine ⟨(by repeat' ((conv => whnf);first|exact trivial|(refine And.intro ?_ ?_)|rfl)), ?_⟩
                                refine zd1 [12] (zx rfl ?_ zy)
                                conv => whnf
                                refine Sy.idx_nat (by omega) ?_
                                conv => whnf
                                refine ⟨(by repeat' ((conv => whnf);first|exact trivial|(refine And.intro ?_ ?_)|rfl)), ?_⟩
                                refine zd1 [13] (zx rfl ?_ zy)
                                conv => whnf
                                refine Sy.el_map u hu ?_
                                conv => whnf
                                refine ⟨(by repeat' ((conv => whnf);first|exact trivial|(refine And.intro ?_ ?_)|rfl)), ?_⟩
                                refine zd1 [14] (zx rfl ?_ zy)
                                conv => whnf
                                refine Sy.idx_nat (by omega) ?_
                                conv => whnf
                                refine ⟨(by repeat' ((conv => whnf);first|exact trivial|(refine And.intro ?_ ?_)|rfl)), ?_⟩
                                refine zd1 [15] (zx rfl ?_ zy)
                                conv => whnf
                                refine Sy.el_of (encU t) hz ?_
                                conv => whnf
                                refine ⟨(by repeat' ((conv => whnf);first|exact trivial|(refine And.intro ?_ ?_)|rfl)), ?_⟩
                                refine zw ?_
                                refine ⟨(), trivial, ?_⟩
                                rw [hs]
                                ((repeat' (first|((conv => whnf);done)|((try conv => whnf);first|exact trivial|(refine And.intro ?_ ?_)|rfl|exact fun _ _ _ h=>h|exact fun _ _ _ _=>trivial)));(all_goals (try conv => whnf)))
                              rotate_right
                              focus
                                conv => whnf
                                refine Sy.el_map u hu ?_
                                conv => whnf
                                refine ⟨(by repeat' ((conv => whnf);first|exact trivial|(refine And.intro ?_ ?_)|rfl)), ?_⟩
                                refine zd1 [7] (zx rfl ?_ zy)
                                conv => whnf
                                refine Sy.el_map t ht ?_
                                conv => whnf
                                refine ⟨(by repeat' ((conv => whnf);first|exact trivial|(refine And.intro ?_ ?_)|rfl)), ?_⟩
                                refine zd1 [12] (zx rfl ?_ zy)
                                conv => whnf
                                refine Sy.idx_nat (by omega) ?_
                                conv => whnf
                                refine ⟨(by repeat' ((conv => whnf);first|exact trivial|(refine And.intro ?_ ?_)|rfl)), ?_⟩
                                refine zd1 [13] (zx rfl ?_ zy)
                                conv => whnf
                                refine Sy.el_map u hu ?_
                                conv => whnf
                                refine ⟨(by repeat' ((conv => whnf);first|exact trivial|(refine And.intro ?_ ?_)|rfl)), ?_⟩
                                refine zd1 [14] (zx rfl ?_ zy)
                                conv => whnf
                                refine Sy.idx_nat (by omega) ?_
                                conv => whnf
                                refine ⟨(by repeat' ((conv => whnf);first|exact trivial|(refine And.intro ?_ ?_)|rfl)), ?_⟩
                                refine zd1 [15] (zx rfl ?_ zy)
                                conv => whnf
                                refine Sy.el_of (encU t) hz ?_
                                conv => whnf
                                refine ⟨(by repeat' ((conv => whnf);first|exact trivial|(refine And.intro ?_ ?_)|rfl)), ?_⟩
                                refine zw ?_
                                refine ⟨(), trivial, ?_⟩
                                rw [hs]
                                ((repeat' (first|((conv => whnf);done)|((try conv => whnf);first|exact trivial|(refine And.intro ?_ ?_)|rfl|exact fun _ _ _ h=>h|exact fun _ _ _ _=>trivial)));(all_goals (try conv => whnf)))
                          rotate_right
                          focus
                            conv => whnf
                            refine Sy.el_map u hu ?_
                            conv => whnf
                            refine ⟨(by repeat' ((conv => whnf);first|exact trivial|(refine And.intro ?_ ?_)|rfl)), ?_⟩
                            refine zd1 [6] (zx rfl ?_ zy)
                            conv => whnf
                            refine Sy.idx_nat (by omega) ?_
                            conv => whnf
                            refine ⟨(by repeat' ((conv => whnf);first|exact trivial|(refine And.intro ?_ ?_)|rfl)), ?_⟩
                            refine zd1 [7] (zx rfl ?_ zy)
                            conv => whnf
                            refine Sy.el_map t ht ?_
                            conv => whnf
                            refine ⟨(by repeat' ((conv => whnf);first|exact trivial|(refine And.intro ?_ ?_)|rfl)), ?_⟩
                            refine zd1 [12] (zx rfl ?_ zy)
                            conv => whnf
                            refine Sy.idx_nat (by omega) ?_
                            conv => whnf
                            refine ⟨(by repeat' ((conv => whnf);first|exact trivial|(refine And.intro ?_ ?_)|rfl)), ?_⟩
                            refine zd1 [13] (zx rfl ?_ zy)
                            conv => whnf
                            refine Sy.el_map u hu ?_
                            conv => whnf
                            refine ⟨(by repeat' ((conv => whnf);first|exact trivial|(refine And.intro ?_ ?_)|rfl)), ?_⟩
                            refine zd1 [14] (zx rfl ?_ zy)
                            conv => whnf
                            refine Sy.idx_nat (by omega) ?_
                            conv => whnf
                            refine ⟨(by repeat' ((conv => whnf);first|exact trivial|(refine And.intro ?_ ?_)|rfl)), ?_⟩
                            refine zd1 [15] (zx rfl ?_ zy)
                            conv => whnf
                            refine Sy.el_of (encU t) hz ?_
                            conv => whnf
                            refine ⟨(by repeat' ((conv => whnf);first|exact trivial|(refine And.intro ?_ ?_)|rfl)), ?_⟩
                            refine zw ?_
                            refine ⟨(), trivial, ?_⟩
                            rw [hs]
                            ((repeat' (first|((conv => whnf);done)|((try conv => whnf);first|exact trivial|(refine And.intro ?_ ?_)|rfl|exact fun _ _ _ h=>h|exact fun _ _ _ _=>trivial)));(all_goals (try conv => whnf)))
                  · ((repeat' ((conv => whnf);(first|refine zA ?_|(refine zI ?_ ?_<;> intro hh<;> first|(exfalso;omega)|skip)|(refine zl ?_ ?_<;> intro hh)|refine zq ?_|refine zv ?_|refine zu ?_|exact Sy.fin_val fun e=>rfl)));(all_goals (try conv => whnf)))
                    refine Sy.loop_inv Sy.tab_ok (fun q : Nat × Nat × List Int => [(10, .c (.v (.int .i64 q.1))), (11, .c (.v (.int .i64 q.2.1)))]) (fun q => [(0, .row 25 1 ds.length (.vs (q.2.2.map encU)))]) (fun q => Parting ds q.2.2 pv q.1 q.2.1) (fun q => q.2.1 + 1 - q.1) (i + 1, j - 1, (X.set i t).set j u) hsw.2 ?_ (fun q hR => ?_)
                    · ((repeat' (first|((conv => whnf);done)|((try conv => whnf);first|exact trivial|(refine And.intro ?_ ?_)|rfl|exact fun _ _ _ h=>h|exact fun _ _ _ _=>trivial)));(all_goals (try conv => whnf)))
                      all_goals exact congrArg (Value.int .i64) (by dsimp only; omega)
                    · obtain ⟨i1, j1, Y⟩ := q
                      dsimp only at hR
                      clear hP hQ hu ht h0 hd hsw
                      have h0 := hR.at_
                      have hYl : Y.length = ds.length := hR.perm.length_eq
                      ((repeat' ((conv => whnf);(first|refine zA ?_|(refine zI ?_ ?_<;> intro hh<;> first|(exfalso;omega)|skip)|(refine zl ?_ ?_<;> intro hh)|refine zq ?_|refine zv ?_|refine zu ?_|exact Sy.fin_val fun e=>rfl)));(all_goals (try conv => whnf)))
                      refine Sy.loop_inv Sy.tab_ok (fun i2 : Nat => [(10, .c (.v (.int .i64 i2))), (11, .c (.v (.int .i64 j1)))]) (fun _ => []) (fun i2 => Parting ds Y pv i2 j1 ∧ i1 ≤ i2) (fun i2 => ds.length - i2) i1 ⟨hR, Nat.le_refl _⟩ ?_ (fun i2 hP => ?_)
                      · ((repeat' (first|((conv => whnf);done)|((try conv => whnf);first|exact trivial|(refine And.intro ?_ ?_)|rfl|exact fun _ _ _ h=>h|exact fun _ _ _ _=>trivial)));(all_goals (try conv => whnf)))
                      · obtain ⟨hP, hi12⟩ := hP
                        have hjl := hP.lt
                        have hone := hP.one
                        have hle := hP.le
                        by_cases hij : i2 ≤ j1
                        · obtain ⟨u, hu⟩ : ∃ u, Y[i2]? = some u := ⟨Y[i2], List.getElem?_eq_getElem (by omega)⟩
                          have hd : decide ((i2 : Int) ≤ (j1 : Int)) = true := decide_eq_true (by omega)
                          ((repeat' ((conv => whnf);(first|refine zA ?_|(refine zI ?_ ?_<;> intro hh<;> first|(exfalso;omega)|skip)|(refine zl ?_ ?_<;> intro hh)|refine zq ?_|refine zv ?_|refine zu ?_|exact Sy.fin_val fun e=>rfl)));(all_goals (try conv => whnf)))
                          all_goals (refine Sy.draw_go [] (by kernel_rfl) ?_; intro e0; conv => whnf)
                          all_goals (refine zt 0 rfl ?_)
                          all_goals (conv => whnf)
                          all_goals (refine zt 1 rfl ?_)
                          all_goals (conv => whnf)
                          all_goals (refine zt 2 rfl ?_)
                          all_goals ((conv => whnf);(repeat' ((first|refine zA ?_|(refine zI ?_ ?_<;> intro hh<;> first|(exfalso;omega)|skip)|(refine zl ?_ ?_<;> intro hh)|refine zq ?_|refine zv ?_|refine zu ?_|exact Sy.fin_val fun e=>rfl);(try conv => whnf))))
                          all_goals (refine zt 3 rfl ?_)
                          all_goals (conv => whnf)
                          all_goals (refine zt 4 rfl ?_)
                          all_goals ((conv => whnf);(repeat' ((first|refine zA ?_|(refine zI ?_ ?_<;> intro hh<;> first|(exfalso;omega)|skip)|(refine zl ?_ ?_<;> intro hh)|refine zq ?_|refine zv ?_|refine zu ?_|exact Sy.fin_val fun e=>rfl);(try conv => whnf))))
                          all_goals (refine zt 5 rfl ?_)
                          all_goals ((conv => whnf);(repeat' ((first|refine zA ?_|(refine zI ?_ ?_<;> intro hh<;> first|(exfalso;omega)|skip)|(refine zl ?_ ?_<;> intro hh)|refine zq ?_|refine zv ?_|refine zu ?_|exact Sy.fin_val fun e=>rfl);(try conv => whnf))))
                          all_goals (refine zt 6 rfl ?_)
                          all_goals ((conv => whnf);(repeat' ((first|refine zA ?_|(refine zI ?_ ?_<;> intro hh<;> first|(exfalso;omega)|skip)|(refine zl ?_ ?_<;> intro hh)|refine zq ?_|refine zv ?_|refine zu ?_|exact Sy.fin_val fun e=>rfl);(try conv => whnf))))
                          all_goals (refine zt 7 rfl ?_)
                          all_goals ((conv => whnf);(repeat' ((first|refine zA ?_|(refine zI ?_ ?_<;> intro hh<;> first|(exfalso;omega)|skip)|(refine zl ?_ ?_<;> intro hh)|refine zq ?_|refine zv ?_|refine zu ?_|exact Sy.fin_val fun e=>rfl);(try conv => whnf))))
                          all_goals (refine Sy.el_map u hu ?_)
                          all_goals (conv => whnf)
                          all_goals (refine zt 8 rfl ?_)
                          all_goals ((conv => whnf);(repeat' ((first|refine zA ?_|(refine zI ?_ ?_<;> intro hh<;> first|(exfalso;omega)|skip)|(refine zl ?_ ?_<;> intro hh)|refine zq ?_|refine zv ?_|refine zu ?_|exact Sy.fin_val fun e=>rfl);(try conv => whnf))))
                          all_goals (refine zt 9 rfl ?_)
                          all_goals ((conv => whnf);(repeat' ((first|refine zA ?_|(refine zI ?_ ?_<;> intro hh<;> first|(exfalso;omega)|skip)|(refine zl ?_ ?_<;> intro hh)|refine zq ?_|refine zv ?_|refine zu ?_|exact Sy.fin_val fun e=>rfl);(try conv => whnf))))
                          all_goals (refine zt 10 rfl ?_)
                          all_goals ((conv => whnf);(repeat' ((first|refine zA ?_|(refine zI ?_ ?_<;> intro hh<;> first|(exfalso;omega)|skip)|(refine zl ?_ ?_<;> intro hh)|refine zq ?_|refine zv ?_|refine zu ?_|exact Sy.fin_val fun e=>rfl);(try conv => whnf))))
                          all_goals (refine zt 11 rfl ?_)
                          all_goals ((conv => whnf);(repeat' ((first|refine zA ?_|(refine zI ?_ ?_<;> intro hh<;> first|(exfalso;omega)|skip)|(refine zl ?_ ?_<;> intro hh)|refine zq ?_|refine zv ?_|refine zu ?_|exact Sy.fin_val fun e=>rfl);(try conv => whnf))))
                          all_goals (refine Sy.el_map pv h0 ?_)
                          all_goals (conv => whnf)
                          all_goals (refine zd1 [12] (zx rfl ?_ zy))
                          all_goals (conv => whnf)
                          all_goals ((refine zA ?_;conv => whnf))
                          all_goals (refine Sy.call_val (.c (.v (.bool (decide (u < pv))))) Try.call65 rfl (fun e a w' h => lessU_any u pv w') ?_)
                          all_goals (refine ⟨(by repeat' ((conv => whnf);first|exact trivial|(refine And.intro ?_ ?_)|rfl)), ?_⟩)
                          all_goals (refine zt 13 rfl ?_)
                          all_goals ((conv => whnf);(repeat' ((first|refine zA ?_|(refine zI ?_ ?_<;> intro hh<;> first|(exfalso;omega)|skip)|(refine zl ?_ ?_<;> intro hh)|refine zq ?_|refine zv ?_|refine zu ?_|exact Sy.fin_val fun e=>rfl);(try conv => whnf))))
                          all_goals (refine zw ?_)
                          all_goals (((repeat' ((conv => whnf);(first|refine zA ?_|(refine zI ?_ ?_<;> intro hh<;> first|(exfalso;omega)|skip)|(refine zl ?_ ?_<;> intro hh)|refine zq ?_|refine zv ?_|refine zu ?_|exact Sy.fin_val fun e=>rfl)));(all_goals (try conv => whnf))))
                          · refine ⟨i2 + 1, ⟨hP.up hij hu (by assumption), by omega⟩, by omega, ?_⟩
                            ((repeat' (first|((conv => whnf);done)|((try conv => whnf);first|exact trivial|(refine And.intro ?_ ?_)|rfl|exact fun _ _ _ h=>h|exact fun _ _ _ _=>trivial)));(all_goals (try conv => whnf)))
                          · clear hd
                            refine Sy.loop_inv Sy.tab_ok (fun j2 : Nat => [(10, .c (.v (.int .i64 i2))), (11, .c (.v (.int .i64 j2)))]) (fun _ => []) (fun j2 => Parting ds Y pv i2 j2 ∧ j2 ≤ j1) (fun j2 => j2) j1 ⟨hP, Nat.le_refl _⟩ ?_ (fun j2 hQ => ?_)
                            · ((repeat' (first|((conv => whnf);done)|((try conv => whnf);first|exact trivial|(refine And.intro ?_ ?_)|rfl|exact fun _ _ _ h=>h|exact fun _ _ _ _=>trivial)));(all_goals (try conv => whnf)))
                            · obtain ⟨hQ, hj12⟩ := hQ
                              have hjl2 := hQ.lt
                              have hle2 := hQ.le
                              obtain ⟨t, ht⟩ : ∃ t, Y[j2]? = some t := ⟨Y[j2], List.getElem?_eq_getElem (by omega)⟩
                              by_cases hij2 : i2 ≤ j2
                              · have hd : decide ((i2 : Int) ≤ (j2 : Int)) = true := decide_eq_true (by omega)
                                ((repeat' ((conv => whnf);(first|refine zA ?_|(refine zI ?_ ?_<;> intro hh<;> first|(exfalso;omega)|skip)|(refine zl ?_ ?_<;> intro hh)|refine zq ?_|refine zv ?_|refine zu ?_|exact Sy.fin_val fun e=>rfl)));(all_goals (try conv => whnf)))
                                all_goals (refine Sy.draw_go [] (by kernel_rfl) ?_; intro e0; conv => whnf)
                                all_goals (refine zt 0 rfl ?_)
                                all_goals (conv => whnf)
                                all_goals (refine zt 1 rfl ?_)
                                all_goals (conv => whnf)
                                all_goals (refine zt 2 rfl ?_)
                                all_goals ((conv => whnf);(repeat' ((first|refine zA ?_|(refine zI ?_ ?_<;> intro hh<;> first|(exfalso;omega)|skip)|(refine zl ?_ ?_<;> intro hh)|refine zq ?_|refine zv ?_|refine zu ?_|exact Sy.fin_val fun e=>rfl);(try conv => whnf))))
                                all_goals (refine zt 3 rfl ?_)
                                all_goals (conv => whnf)
                                all_goals (refine zt 4 rfl ?_)
                                all_goals ((conv => whnf);(repeat' ((first|refine zA ?_|(refine zI ?_ ?_<;> intro hh<;> first|(exfalso;omega)|skip)|(refine zl ?_ ?_<;> intro hh)|refine zq ?_|refine zv ?_|refine zu ?_|exact Sy.fin_val fun e=>rfl);(try conv => whnf))))
                                all_goals (refine zt 5 rfl ?_)
                                all_goals ((conv => whnf);(repeat' ((first|refine zA ?_|(refine zI ?_ ?_<;> intro hh<;> first|(exfalso;omega)|skip)|(refine zl ?_ ?_<;> intro hh)|refine zq ?_|refine zv ?_|refine zu ?_|exact Sy.fin_val fun e=>rfl);(try conv => whnf))))
                                all_goals (refine zt 6 rfl ?_)
                                all_goals ((conv => whnf);(repeat' ((first|refine zA ?_|(refine zI ?_ ?_<;> intro hh<;> first|(exfalso;omega)|skip)|(refine zl ?_ ?_<;> intro hh)|refine zq ?_|refine zv ?_|refine zu ?_|exact Sy.fin_val fun e=>rfl);(try conv => whnf))))
                                all_goals (refine zt 7 rfl ?_)
                                all_goals ((conv => whnf);(repeat' ((first|refine zA ?_|(refine zI ?_ ?_<;> intro hh<;> first|(exfalso;omega)|skip)|(refine zl ?_ ?_<;> intro hh)|refine zq ?_|refine zv ?_|refine zu ?_|exact Sy.fin_val fun e=>rfl);(try conv => whnf))))
                                all_goals (refine Sy.el_map t ht ?_)
                                all_goals (conv => whnf)
                                all_goals (refine zt 8 rfl ?_)
                                all_goals ((conv => whnf);(repeat' ((first|refine zA ?_|(refine zI ?_ ?_<;> intro hh<;> first|(exfalso;omega)|skip)|(refine zl ?_ ?_<;> intro hh)|refine zq ?_|refine zv ?_|refine zu ?_|exact Sy.fin_val fun e=>rfl);(try conv => whnf))))
                                all_goals (refine zt 9 rfl ?_)
                                all_goals ((conv => whnf);(repeat' ((first|refine zA ?_|(refine zI ?_ ?_<;> intro hh<;> first|(exfalso;omega)|skip)|(refine zl ?_ ?_<;> intro hh)|refine zq ?_|refine zv ?_|refine zu ?_|exact Sy.fin_val fun e=>rfl);(try conv => whnf))))
                                all_goals (refine zt 10 rfl ?_)
                                all_goals ((conv => whnf);(repeat' ((first|refine zA ?_|(refine zI ?_ ?_<;> intro hh<;> first|(exfalso;omega)|skip)|(refine zl ?_ ?_<;> intro hh)|refine zq ?_|refine zv ?_|refine zu ?_|exact Sy.fin_val fun e=>rfl);(try conv => whnf))))
                                all_goals (refine zt 11 rfl ?_)
                                all_goals ((conv => whnf);(repeat' ((first|refine zA ?_|(refine zI ?_ ?_<;> intro hh<;> first|(exfalso;omega)|skip)|(refine zl ?_ ?_<;> intro hh)|refine zq ?_|refine zv ?_|refine zu ?_|exact Sy.fin_val fun e=>rfl);(try conv => whnf))))
                                all_goals (refine Sy.el_map pv h0 ?_)
                                all_goals (conv => whnf)
                                all_goals (refine zd1 [12] (zx rfl ?_ zy))
                                all_goals (conv => whnf)
                                all_goals ((refine zA ?_;conv => whnf))
                                all_goals (refine Sy.call_val (.c (.v (.bool (decide (t < pv))))) Try.call65 rfl (fun e a w' h => lessU_any t pv w') ?_)
                                all_goals (refine ⟨(by repeat' ((conv => whnf);first|exact trivial|(refine And.intro ?_ ?_)|rfl)), ?_⟩)
                                all_goals (refine zt 13 rfl ?_)
                                all_goals ((conv => whnf);(repeat' ((first|refine zA ?_|(refine zI ?_ ?_<;> intro hh<;> first|(exfalso;omega)|skip)|(refine zl ?_ ?_<;> intro hh)|refine zq ?_|refine zv ?_|refine zu ?_|exact Sy.fin_val fun e=>rfl);(try conv => whnf))))
                                all_goals (refine zt 14 rfl ?_)
                                all_goals ((conv => whnf);(repeat' ((first|refine zA ?_|(refine zI ?_ ?_<;> intro hh<;> first|(exfalso;omega)|skip)|(refine zl ?_ ?_<;> intro hh)|refine zq ?_|refine zv ?_|refine zu ?_|exact Sy.fin_val fun e=>rfl);(try conv => whnf))))
                                all_goals (refine zw ?_)
                                all_goals (((repeat' ((conv => whnf);(first|refine zA ?_|(refine zI ?_ ?_<;> intro hh<;> first|(exfalso;omega)|skip)|(refine zl ?_ ?_<;> intro hh)|refine zq ?_|refine zv ?_|refine zu ?_|exact Sy.fin_val fun e=>rfl)));(all_goals (try conv => whnf))))
                                · have hsw := hQ.swap hij2 hu ht (by omega) (by assumption)
                                  have hz : ((Y.map encU).set i2 (Sy.splice (encU u) 0 [Value.int .u64 t]))[j2]? = some (encU t) := set_at ht (by omega) (fun _ => rfl)
                                  have hs : ((Y.map encU).set i2 (Sy.splice (encU u) 0 [Value.int .u64 t])).set j2 (Sy.splice (encU t) 0 [Value.int .u64 u]) = ((Y.set i2 t).set j2 u).map encU := set_two Y _ _ _ _
                                  refine Sy.draw_go [0] (by kernel_rfl) ?_
                                  intro e0
                                  conv => whnf
                                  refine zt 0 rfl ?_
                                  conv => whnf
                                  refine zt 1 rfl ?_
                                  conv => whnf
                                  refine zt 2 rfl ?_
                                  conv => whnf
                                  refine zt 3 rfl ?_
                                  conv => whnf
                                  refine zt 4 rfl ?_
                                  conv => whnf
                                  refine zt 5 rfl ?_
                                  conv => whnf
                                  refine zt 8 rfl ?_
                                  conv => whnf
                                  refine zt 9 rfl ?_
                                  conv => whnf
                                  focus
                                    refine zd1 [6, 10] (zx rfl ?_ (zx rfl ?_ zy))
                                    focus
                                      conv => whnf
                                      refine Sy.idx_nat (by omega) ?_
                                      conv => whnf
                                      refine ⟨(by repeat' ((conv => whnf);first|exact trivial|(refine And.intro ?_ ?_)|rfl)), ?_⟩
                                      focus
                                        refine zd1 [7, 10] (zx rfl ?_ (zx rfl ?_ zy))
                                        focus
                                          conv => whnf
                                          refine Sy.el_map t ht ?_
                                          conv => whnf
                                          refine ⟨(by repeat' ((conv => whnf);first|exact trivial|(refine And.intro ?_ ?_)|rfl)), ?_⟩
                                          refine zd1 [10] (zx rfl ?_ zy)
                                          conv => whnf
                                          refine Sy.idx_nat (by omega) ?_
                                          conv => whnf
                                          refine ⟨(by repeat' ((conv => whnf);first|exact trivial|(refine And.intro ?_ ?_)|rfl)), ?_⟩
                                          refine zd1 [11] (zx rfl ?_ zy)
                                          conv => whnf
                                          refine Sy.el_map u hu ?_
                                          conv => whnf
                                          refine ⟨(by repeat' ((conv => whnf);first|exact trivial|(refine And.intro ?_ ?_)|rfl)), ?_⟩
                                          refine zd1 [12] (zx rfl ?_ zy)
                                          conv => whnf
                                          refine Sy.idx_nat (by omega) ?_
                                          conv => whnf
                                          refine ⟨(by repeat' ((conv => whnf);first|exact trivial|(refine And.intro ?_ ?_)|rfl)), ?_⟩
                                          refine zd1 [13] (zx rfl ?_ zy)
                                          conv => whnf
                                          refine Sy.el_map u hu ?_
                                          conv => whnf
                                          refine ⟨(by repeat' ((conv => whnf);first|exact trivial|(refine And.intro ?_ ?_)|rfl)), ?_⟩
                                          refine zd1 [14] (zx rfl ?_ zy)
                                          conv => whnf
                                          refine Sy.idx_nat (by omega) ?_
                                          conv => whnf
                                          refine ⟨(by repeat' ((conv => whnf);first|exact trivial|(refine And.intro ?_ ?_)|rfl)), ?_⟩
                                          refine zd1 [15] (zx rfl ?_ zy)
                                          conv => whnf
                                          refine Sy.el_of (encU t) hz ?_
                                          conv => whnf
                                          refine ⟨(by repeat' ((conv => whnf);first|exact trivial|(refine And.intro ?_ ?_)|rfl)), ?_⟩
                                          refine zw ?_
                                          ((repeat' ((conv => whnf);(first|refine zA ?_|(refine zI ?_ ?_<;> intro hh<;> first|(exfalso;omega)|skip)|(refine zl ?_ ?_<;> intro hh)|refine zq ?_|refine zv ?_|refine zu ?_|exact Sy.fin_val fun e=>rfl)));(all_goals (try conv => whnf)))
                                          refine ⟨(i2 + 1, j2 - 1, (Y.set i2 t).set j2 u), hsw.2, by dsimp only; omega, ?_⟩
                                          rw [hs]
                                          ((repeat' (first|((conv => whnf);done)|((try conv => whnf);first|exact trivial|(refine And.intro ?_ ?_)|rfl|exact fun _ _ _ h=>h|exact fun _ _ _ _=>trivial)));(all_goals (try conv => whnf)))
                                          all_goals exact congrArg (Value.int .i64) (by dsimp only; omega)
                                        rotate_right
                                        focus
                                          conv => whnf
                                          refine Sy.idx_nat (by omega) ?_
                                          conv => whnf
                                          refine ⟨(by repeat' ((conv => whnf);first|exact trivial|(refine And.intro ?_ ?_)|rfl)), ?_⟩
                                          focus
                                            refine zd1 [7, 11] (zx rfl ?_ (zx rfl ?_ zy))
                                            focus
                                              conv => whnf
                                              refine Sy.el_map t ht ?_
                                              conv => whnf
                                              refine ⟨(by repeat' ((conv => whnf);first|exact trivial|(refine And.intro ?_ ?_)|rfl)), ?_⟩
                                              refine zd1 [11] (zx rfl ?_ zy)
                                              conv => whnf
                                              refine Sy.el_map u hu ?_
                                              conv => whnf
                                              refine ⟨(by repeat' ((conv => whnf);first|exact trivial|(refine And.intro ?_ ?_)|rfl)), ?_⟩
                                              refine zd1 [12] (zx rfl ?_ zy)
                                              conv => whnf
                                              refine Sy.idx_nat (by omega) ?_
                                              conv => whnf
                                              refine ⟨(by repeat' ((conv => whnf);first|exact trivial|(refine And.intro ?_ ?_)|rfl)), ?_⟩
                                              refine zd1 [13] (zx rfl ?_ zy)
                                              conv => whnf
                                              refine Sy.el_map u hu ?_
                                              conv => whnf
                                              refine ⟨(by repeat' ((conv => whnf);first|exact trivial|(refine And.intro ?_ ?_)|rfl)), ?_⟩
                                              refine zd1 [14] (zx rfl ?_ zy)
                                              conv => whnf
                                              refine Sy.idx_nat (by omega) ?_
                                              conv => whnf
                                              refine ⟨(by repeat' ((conv => whnf);first|exact trivial|(refine And.intro ?_ ?_)|rfl)), ?_⟩
                                              refine zd1 [15] (zx rfl ?_ zy)
                                              conv => whnf
                                              refine Sy.el_of (encU t) hz ?_
                                              conv => whnf
                                              refine ⟨(by repeat' ((conv => whnf);first|exact trivial|(refine And.intro ?_ ?_)|rfl)), ?_⟩
                                              refine zw ?_
                                              ((repeat' ((conv => whnf);(first|refine zA ?_|(refine zI ?_ ?_<;> intro hh<;> first|(exfalso;omega)|skip)|(refine zl ?_ ?_<;> intro hh)|refine zq ?_|refine zv ?_|refine zu ?_|exact Sy.fin_val fun e=>rfl)));(all_goals (try conv => whnf)))
                                              refine ⟨(i2 + 1, j2 - 1, (Y.set i2 t).set j2 u), hsw.2, by dsimp only; omega, ?_⟩
                                              rw [hs]
                                              ((repeat' (first|((conv => whnf);done)|((try conv => whnf);first|exact trivial|(refine And.intro ?_ ?_)|rfl|exact fun _ _ _ h=>h|exact fun _ _ _ _=>trivial)));(all_goals (try conv => whnf)))
                                              all_goals exact congrArg (Value.int .i64) (by dsimp only; omega)
                                            rotate_right
                                            focus
                                              conv => whnf
                                              refine Sy.el_map u hu ?_
                                              conv => whnf
                                              refine ⟨(by repeat' ((conv => whnf);first|exact trivial|(refine And.intro ?_ ?_)|rfl)), ?_⟩
                                              refine zd1 [7] (zx rfl ?_ zy)
                                              conv => whnf
                                              refine Sy.el_map t ht ?_
                                              conv => whnf
                                              refine ⟨(by repeat' ((conv => whnf);first|exact trivial|(refine And.intro ?_ ?_)|rfl)), ?_⟩
                                              refine zd1 [12] (zx rfl ?_ zy)
                                              conv => whnf
                                              refine Sy.idx_nat (by omega) ?_
                                              conv => whnf
                                              refine ⟨(by repeat' ((conv => whnf);first|exact trivial|(refine And.intro ?_ ?_)|rfl)), ?_⟩
                                              refine zd1 [13] (zx rfl ?_ zy)
                                              conv => whnf
                                              refine Sy.el_map u hu ?_
                                              conv => whnf
                                              refine ⟨(by repeat' ((conv => whnf);first|exact trivial|(refine And.intro ?_ ?_)|rfl)), ?_⟩
                                              refine zd1 [14] (zx rfl ?_ zy)
                                              conv => whnf
                                              refine Sy.idx_nat (by omega) ?_
                                              conv => whnf
                                              refine ⟨(by repeat' ((conv => whnf);first|exact trivial|(refine And.intro ?_ ?_)|rfl)), ?_⟩
                                              refine zd1 [15] (zx rfl ?_ zy)
                                              conv => whnf
                                              refine Sy.el_of (encU t) hz ?_
                                              conv => whnf
                                              refine ⟨(by repeat' ((conv => whnf);first|exact trivial|(refine And.intro ?_ ?_)|rfl)), ?_⟩
                                              refine zw ?_
                                              ((repeat' ((conv => whnf);(first|refine zA ?_|(refine zI ?_ ?_<;> intro hh<;> first|(exfalso;omega)|skip)|(refine zl ?_ ?_<;> intro hh)|refine zq ?_|refine zv ?_|refine zu ?_|exact Sy.fin_val fun e=>rfl)));(all_goals (try conv => whnf)))
                                              refine ⟨(i2 + 1, j2 - 1, (Y.set i2 t).set j2 u), hsw.2, by dsimp only; omega, ?_⟩
                                              rw [hs]
                                              ((repeat' (first|((conv => whnf);done)|((try conv => whnf);first|exact trivial|(refine And.intro ?_ ?_)|rfl|exact fun _ _ _ h=>h|exact fun _ _ _ _=>trivial)));(all_goals (try conv => whnf)))
                                              all_goals exact congrArg (Value.int .i64) (by dsimp only; omega)
                                    rotate_right
                                    focus
                                      conv => whnf
                                      refine Sy.idx_nat (by omega) ?_
                                      conv => whnf
                                      refine ⟨(by repeat' ((conv => whnf);first|exact trivial|(refine And.intro ?_ ?_)|rfl)), ?_⟩
                                      focus
                                        refine zd1 [6, 11] (zx rfl ?_ (zx rfl ?_ zy))
                                        focus
                                          conv => whnf
                                          refine Sy.idx_nat (by omega) ?_
                                          conv => whnf
                                          refine ⟨(by repeat' ((conv => whnf);first|exact trivial|(refine And.intro ?_ ?_)|rfl)), ?_⟩
                                          focus
                                            refine zd1 [7, 11] (zx rfl ?_ (zx rfl ?_ zy))
                                            focus
                                              conv => whnf
                                              refine Sy.el_map t ht ?_
                                              conv => whnf
                                              refine ⟨(by repeat' ((conv => whnf);first|exact trivial|(refine And.intro ?_ ?_)|rfl)), ?_⟩
                                              refine zd1 [11] (zx rfl ?_ zy)
                                              conv => whnf
                                              refine Sy.el_map u hu ?_
                                              conv => whnf
                                              refine ⟨(by repeat' ((conv => whnf);first|exact trivial|(refine And.intro ?_ ?_)|rfl)), ?_⟩
                                              refine zd1 [12] (zx rfl ?_ zy)
                                              conv => whnf
                                              refine Sy.idx_nat (by omega) ?_
                                              conv => whnf
                                              refine ⟨(by repeat' ((conv => whnf);first|exact trivial|(refine And.intro ?_ ?_)|rfl)), ?_⟩
                                              refine zd1 [13] (zx rfl ?_ zy)
                                              conv => whnf
                                              refine Sy.el_map u hu ?_
                                              conv => whnf
                                              refine ⟨(by repeat' ((conv => whnf);first|exact trivial|(refine And.intro ?_ ?_)|rfl)), ?_⟩
                                              refine zd1 [14] (zx rfl ?_ zy)
                                              conv => whnf
                                              refine Sy.idx_nat (by omega) ?_
                                              conv => whnf
                                              refine ⟨(by repeat' ((conv => whnf);first|exact trivial|(refine And.intro ?_ ?_)|rfl)), ?_⟩
                                              refine zd1 [15] (zx rfl ?_ zy)
                                              conv => whnf
                                              refine Sy.el_of (encU t) hz ?_
                                              conv => whnf
                                              refine ⟨(by repeat' ((conv => whnf);first|exact trivial|(refine And.intro ?_ ?_)|rfl)), ?_⟩
                                              refine zw ?_
                                              ((repeat' ((conv => whnf);(first|refine zA ?_|(refine zI ?_ ?_<;> intro hh<;> first|(exfalso;omega)|skip)|(refine zl ?_ ?_<;> intro hh)|refine zq ?_|refine zv ?_|refine zu ?_|exact Sy.fin_val fun e=>rfl)));(all_goals (try conv => whnf)))
                                              refine ⟨(i2 + 1, j2 - 1, (Y.set i2 t).set j2 u), hsw.2, by dsimp only; omega, ?_⟩
                                              rw [hs]
                                              ((repeat' (first|((conv => whnf);done)|((try conv => whnf);first|exact trivial|(refine And.intro ?_ ?_)|rfl|exact fun _ _ _ h=>h|exact fun _ _ _ _=>trivial)));(all_goals (try conv => whnf)))
                                              all_goals exact congrArg (Value.int .i64) (by dsimp only; omega)
                                            rotate_right
                                            focus
                                              conv => whnf
                                              refine Sy.el_map u hu ?_
                                              conv => whnf
                                              refine ⟨(by repeat' ((conv => whnf);first|exact trivial|(refine And.intro ?_ ?_)|rfl)), ?_⟩
                                              refine zd1 [7] (zx rfl ?_ zy)
                                              conv => whnf
                                              refine Sy.el_map t ht ?_
                                              conv => whnf
                                              refine ⟨(by repeat' ((conv => whnf);first|exact trivial|(refine And.intro ?_ ?_)|rfl)), ?_⟩
                                              refine zd1 [12] (zx rfl ?_ zy)
                                              conv => whnf
                                              refine Sy.idx_nat (by omega) ?_
                                              conv => whnf
                                              refine ⟨(by repeat' ((conv => whnf);first|exact trivial|(refine And.intro ?_ ?_)|rfl)), ?_⟩
                                              refine zd1 [13] (zx rfl ?_ zy)
                                              conv => whnf
                                              refine Sy.el_map u hu ?_
                                              conv => whnf
                                              refine ⟨(by repeat' ((conv => whnf);first|exact trivial|(refine And.intro ?_ ?_)|rfl)), ?_⟩
                                              refine zd1 [14] (zx rfl ?_ zy)
                                              conv => whnf
                                              refine Sy.idx_nat (by omega) ?_
                                              conv => whnf
                                              refine ⟨(by repeat' ((conv => whnf);first|exact trivial|(refine And.intro ?_ ?_)|rfl)), ?_⟩
                                              refine zd1 [15] (zx rfl ?_ zy)
                                              conv => whnf
                                              refine Sy.el_of (encU t) hz ?_
                                              conv => whnf
                                              refine ⟨(by repeat' ((conv => whnf);first|exact trivial|(refine And.intro ?_ ?_)|rfl)), ?_⟩
                                              refine zw ?_
                                              ((repeat' ((conv => whnf);(first|refine zA ?_|(refine zI ?_ ?_<;> intro hh<;> first|(exfalso;omega)|skip)|(refine zl ?_ ?_<;> intro hh)|refine zq ?_|refine zv ?_|refine zu ?_|exact Sy.fin_val fun e=>rfl)));(all_goals (try conv => whnf)))
                                              refine ⟨(i2 + 1, j2 - 1, (Y.set i2 t).set j2 u), hsw.2, by dsimp only; omega, ?_⟩
                                              rw [hs]
                                              ((repeat' (first|((conv => whnf);done)|((try conv => whnf);first|exact trivial|(refine And.intro ?_ ?_)|rfl|exact fun _ _ _ h=>h|exact fun _ _ _ _=>trivial)));(all_goals (try conv => whnf)))
                                              all_goals exact congrArg (Value.int .i64) (by dsimp only; omega)
                                        rotate_right
                                        focus
                                          conv => whnf
                                          refine Sy.el_map u hu ?_
                                          conv => whnf
                                          refine ⟨(by repeat' ((conv => whnf);first|exact trivial|(refine And.intro ?_ ?_)|rfl)), ?_⟩
                                          refine zd1 [6] (zx rfl ?_ zy)
                                          conv => whnf
                                          refine Sy.idx_nat (by omega) ?_
                                          conv => whnf
                                          refine ⟨(by repeat' ((conv => whnf);first|exact trivial|(refine And.intro ?_ ?_)|rfl)), ?_⟩
                                          refine zd1 [7] (zx rfl ?_ zy)
                                          conv => whnf
                                          refine Sy.el_map t ht ?_
                                          conv => whnf
                                          refine ⟨(by repeat' ((conv => whnf);first|exact trivial|(refine And.intro ?_ ?_)|rfl)), ?_⟩
                                          refine zd1 [12] (zx rfl ?_ zy)
                                          conv => whnf
                                          refine Sy.idx_nat (by omega) ?_
                                          conv => whnf
                                          refine ⟨(by repeat' ((conv => whnf);first|exact trivial|(refine And.intro ?_ ?_)|rfl)), ?_⟩
                                          refine zd1 [13] (zx rfl ?_ zy)
                                          conv => whnf
                                          refine Sy.el_map u hu ?_
                                          conv => whnf
                                          refine ⟨(by repeat' ((conv => whnf);first|exact trivial|(refine And.intro ?_ ?_)|rfl)), ?_⟩
                                          refine zd1 [14] (zx rfl ?_ zy)
                                          conv => whnf
                                          refine Sy.idx_nat (by omega) ?_
                                          conv => whnf
                                          refine ⟨(by repeat' ((conv => whnf);first|exact trivial|(refine And.intro ?_ ?_)|rfl)), ?_⟩
                                          refine zd1 [15] (zx rfl ?_ zy)
                                          conv => whnf
                                          refine Sy.el_of (encU t) hz ?_
                                          conv => whnf
                                          refine ⟨(by repeat' ((conv => whnf);first|exact trivial|(refine And.intro ?_ ?_)|rfl)), ?_⟩
                                          refine zw ?_
                                          ((repeat' ((conv => whnf);(first|refine zA ?_|(refine zI ?_ ?_<;> intro hh<;> first|(exfalso;omega)|skip)|(refine zl ?_ ?_<;> intro hh)|refine zq ?_|refine zv ?_|refine zu ?_|exact Sy.fin_val fun e=>rfl)));(all_goals (try conv => whnf)))
                                          refine ⟨(i2 + 1, j2 - 1, (Y.set i2 t).set j2 u), hsw.2, by dsimp only; omega, ?_⟩
                                          rw [hs]
                                          ((repeat' (first|((conv => whnf);done)|((try conv => whnf);first|exact trivial|(refine And.intro ?_ ?_)|rfl|exact fun _ _ _ h=>h|exact fun _ _ _ _=>trivial)));(all_goals (try conv => whnf)))
                                          all_goals exact congrArg (Value.int .i64) (by dsimp only; omega)
                                · refine ⟨j2 - 1, ⟨hQ.down hij2 ht (by omega), by omega⟩, by omega, ?_⟩
                                  ((repeat' (first|((conv => whnf);done)|((try conv => whnf);first|exact trivial|(refine And.intro ?_ ?_)|rfl|exact fun _ _ _ h=>h|exact fun _ _ _ _=>trivial)));(all_goals (try conv => whnf)))
                                  all_goals exact congrArg (Value.int .i64) (by omega)
                              · have hd : decide ((i2 : Int) ≤ (j2 : Int)) = false := decide_eq_false (by omega)
                                ((repeat' ((conv => whnf);(first|refine zA ?_|(refine zI ?_ ?_<;> intro hh<;> first|(exfalso;omega)|skip)|(refine zl ?_ ?_<;> intro hh)|refine zq ?_|refine zv ?_|refine zu ?_|exact Sy.fin_val fun e=>rfl)));(all_goals (try conv => whnf)))
                                all_goals (refine Sy.draw_go [] (by kernel_rfl) ?_; intro e0; conv => whnf)
                                all_goals (refine zt 0 rfl ?_)
                                all_goals (conv => whnf)
                                all_goals (refine zt 1 rfl ?_)
                                all_goals (conv => whnf)
                                all_goals (refine zt 2 rfl ?_)
                                all_goals ((conv => whnf);(repeat' ((first|refine zA ?_|(refine zI ?_ ?_<;> intro hh<;> first|(exfalso;omega)|skip)|(refine zl ?_ ?_<;> intro hh)|refine zq ?_|refine zv ?_|refine zu ?_|exact Sy.fin_val fun e=>rfl);(try conv => whnf))))
                                all_goals (refine zt 3 rfl ?_)
                                all_goals (conv => whnf)
                                all_goals (refine zt 4 rfl ?_)
                                all_goals ((conv => whnf);(repeat' ((first|refine zA ?_|(refine zI ?_ ?_<;> intro hh<;> first|(exfalso;omega)|skip)|(refine zl ?_ ?_<;> intro hh)|refine zq ?_|refine zv ?_|refine zu ?_|exact Sy.fin_val fun e=>rfl);(try conv => whnf))))
                                all_goals (refine zt 5 rfl ?_)
                                all_goals ((conv => whnf);(repeat' ((first|refine zA ?_|(refine zI ?_ ?_<;> intro hh<;> first|(exfalso;omega)|skip)|(refine zl ?_ ?_<;> intro hh)|refine zq ?_|refine zv ?_|refine zu ?_|exact Sy.fin_val fun e=>rfl);(try conv => whnf))))
                                all_goals (refine zt 6 rfl ?_)
                                all_goals ((conv => whnf);(repeat' ((first|refine zA ?_|(refine zI ?_ ?_<;> intro hh<;> first|(exfalso;omega)|skip)|(refine zl ?_ ?_<;> intro hh)|refine zq ?_|refine zv ?_|refine zu ?_|exact Sy.fin_val fun e=>rfl);(try conv => whnf))))
                                all_goals (refine zt 7 rfl ?_)
                                all_goals ((conv => whnf);(repeat' ((first|refine zA ?_|(refine zI ?_ ?_<;> intro hh<;> first|(exfalso;omega)|skip)|(refine zl ?_ ?_<;> intro hh)|refine zq ?_|refine zv ?_|refine zu ?_|exact Sy.fin_val fun e=>rfl);(try conv => whnf))))
                                all_goals (refine zt 8 rfl ?_)
                                all_goals ((conv => whnf);(repeat' ((first|refine zA ?_|(refine zI ?_ ?_<;> intro hh<;> first|(exfalso;omega)|skip)|(refine zl ?_ ?_<;> intro hh)|refine zq ?_|refine zv ?_|refine zu ?_|exact Sy.fin_val fun e=>rfl);(try conv => whnf))))
                                all_goals (refine zt 9 rfl ?_)
                                all_goals ((conv => whnf);(repeat' ((first|refine zA ?_|(refine zI ?_ ?_<;> intro hh<;> first|(exfalso;omega)|skip)|(refine zl ?_ ?_<;> intro hh)|refine zq ?_|refine zv ?_|refine zu ?_|exact Sy.fin_val fun e=>rfl);(try conv => whnf))))
                                all_goals (refine zt 10 rfl ?_)
                                all_goals ((conv => whnf);(repeat' ((first|refine zA ?_|(refine zI ?_ ?_<;> intro hh<;> first|(exfalso;omega)|skip)|(refine zl ?_ ?_<;> intro hh)|refine zq ?_|refine zv ?_|refine zu ?_|exact Sy.fin_val fun e=>rfl);(try conv => whnf))))
                                all_goals (refine zt 11 rfl ?_)
                                all_goals ((conv => whnf);(repeat' ((first|refine zA ?_|(refine zI ?_ ?_<;> intro hh<;> first|(exfalso;omega)|skip)|(refine zl ?_ ?_<;> intro hh)|refine zq ?_|refine zv ?_|refine zu ?_|exact Sy.fin_val fun e=>rfl);(try conv => whnf))))
                                all_goals (refine zd1 [12] (zx rfl ?_ zy))
                                all_goals (conv => whnf)
                                all_goals ((refine zA ?_;conv => whnf))
                                all_goals (skip)
                                all_goals (refine ⟨(by repeat' ((conv => whnf);first|exact trivial|(refine And.intro ?_ ?_)|rfl)), ?_⟩)
                                all_goals (refine zt 13 rfl ?_)
                                all_goals ((conv => whnf);(repeat' ((first|refine zA ?_|(refine zI ?_ ?_<;> intro hh<;> first|(exfalso;omega)|skip)|(refine zl ?_ ?_<;> intro hh)|refine zq ?_|refine zv ?_|refine zu ?_|exact Sy.fin_val fun e=>rfl);(try conv => whnf))))
                                all_goals (refine zt 14 rfl ?_)
                                all_goals ((conv => whnf);(repeat' ((first|refine zA ?_|(refine zI ?_ ?_<;> intro hh<;> first|(exfalso;omega)|skip)|(refine zl ?_ ?_<;> intro hh)|refine zq ?_|refine zv ?_|refine zu ?_|exact Sy.fin_val fun e=>rfl);(try conv => whnf))))
                                all_goals (refine zw ?_)
                                all_goals (((repeat' ((conv => whnf);(first|refine zA ?_|(refine zI ?_ ?_<;> intro hh<;> first|(exfalso;omega)|skip)|(refine zl ?_ ?_<;> intro hh)|refine zq ?_|refine zv ?_|refine zu ?_|exact Sy.fin_val fun e=>rfl)));(all_goals (try conv => whnf))))
                                have hz : ((Y.map encU).set (j2) (Sy.splice (encU t) 0 [Value.int .u64 pv]))[0]? = some (encU pv) := set_at h0 (by omega) (fun _ => rfl)
                                have hs : ((Y.map encU).set (j2) (Sy.splice (encU t) 0 [Value.int .u64 pv])).set 0 (Sy.splice (encU pv) 0 [Value.int .u64 t]) = ((Y.set (j2) pv).set 0 t).map encU := set_two Y _ _ _ _
                                have hdn := Parting.done hQ (by omega) ht
                                refine Sy.draw_go [0] (by kernel_rfl) ?_
                                intro e0
                                conv => whnf
                                refine zt 0 rfl ?_
                                conv => whnf
                                refine zt 1 rfl ?_
                                conv => whnf
                                refine zt 2 rfl ?_
                                conv => whnf
                                refine zt 3 rfl ?_
                                conv => whnf
                                refine zt 4 rfl ?_
                                conv => whnf
                                refine zt 5 rfl ?_
                                conv => whnf
                                refine zt 8 rfl ?_
                                conv => whnf
                                refine zt 9 rfl ?_
                                conv => whnf
                                focus
                                  refine zd1 [6, 10] (zx rfl ?_ (zx rfl ?_ zy))
                                  focus
                                    conv => whnf
                                    refine Sy.idx_nat (by omega) ?_
                                    conv => whnf
                                    refine ⟨(by repeat' ((conv => whnf);first|exact trivial|(refine And.intro ?_ ?_)|rfl)), ?_⟩
                                    focus
                                      refine zd1 [7, 10] (zx rfl ?_ (zx rfl ?_ zy))
                                      focus
                                        conv => whnf
                                        refine Sy.el_map pv h0 ?_
                                        conv => whnf
                                        refine ⟨(by repeat' ((conv => whnf);first|exact trivial|(refine And.intro ?_ ?_)|rfl)), ?_⟩
                                        refine zd1 [10] (zx rfl ?_ zy)
                                        conv => whnf
                                        refine Sy.idx_nat (by omega) ?_
                                        conv => whnf
                                        refine ⟨(by repeat' ((conv => whnf);first|exact trivial|(refine And.intro ?_ ?_)|rfl)), ?_⟩
                                        refine zd1 [11] (zx rfl ?_ zy)
                                        conv => whnf
                                        refine Sy.el_map t ht ?_
                                        conv => whnf
                                        refine ⟨(by repeat' ((conv => whnf);first|exact trivial|(refine And.intro ?_ ?_)|rfl)), ?_⟩
                                        refine zd1 [12] (zx rfl ?_ zy)
                                        conv => whnf
                                        refine Sy.idx_nat (by omega) ?_
                                        conv => whnf
                                        refine ⟨(by repeat' ((conv => whnf);first|exact trivial|(refine And.intro ?_ ?_)|rfl)), ?_⟩
                                        refine zd1 [13] (zx rfl ?_ zy)
                                        conv => whnf
                                        refine Sy.el_map t ht ?_
                                        conv => whnf
                                        refine ⟨(by repeat' ((conv => whnf);first|exact trivial|(refine And.intro ?_ ?_)|rfl)), ?_⟩
                                        refine zd1 [14] (zx rfl ?_ zy)
                                        conv => whnf
                                        refine Sy.idx_nat (by omega) ?_
                                        conv => whnf
                                        refine ⟨(by repeat' ((conv => whnf);first|exact trivial|(refine And.intro ?_ ?_)|rfl)), ?_⟩
                                        refine zd1 [15] (zx rfl ?_ zy)
                                        conv => whnf
                                        refine Sy.el_of (encU pv) hz ?_
                                        conv => whnf
                                        refine ⟨(by repeat' ((conv => whnf);first|exact trivial|(refine And.intro ?_ ?_)|rfl)), ?_⟩
                                        refine zw ?_
                                        ((repeat' ((conv => whnf);(first|refine zA ?_|(refine zI ?_ ?_<;> intro hh<;> first|(exfalso;omega)|skip)|(refine zl ?_ ?_<;> intro hh)|refine zq ?_|refine zv ?_|refine zu ?_|exact Sy.fin_val fun e=>rfl)));(all_goals (try conv => whnf)))
                                        exact Sy.fin_mutx (((Y.set (j2) pv).set 0 t), j2, false) hdn (by show some (Blk.row 25 1 ds.length (.vs _)) = _; rw [hs]) (fun e => rfl)
                                      rotate_right
                                      focus
                                        conv => whnf
                                        refine Sy.idx_nat (by omega) ?_
                                        conv => whnf
                                        refine ⟨(by repeat' ((conv => whnf);first|exact trivial|(refine And.intro ?_ ?_)|rfl)), ?_⟩
                                        focus
                                          refine zd1 [7, 11] (zx rfl ?_ (zx rfl ?_ zy))
                                          focus
                                            conv => whnf
                                            refine Sy.el_map pv h0 ?_
                                            conv => whnf
                                            refine ⟨(by repeat' ((conv => whnf);first|exact trivial|(refine And.intro ?_ ?_)|rfl)), ?_⟩
                                            refine zd1 [11] (zx rfl ?_ zy)
                                            conv => whnf
                                            refine Sy.el_map t ht ?_
                                            conv => whnf
                                            refine ⟨(by repeat' ((conv => whnf);first|exact trivial|(refine And.intro ?_ ?_)|rfl)), ?_⟩
                                            refine zd1 [12] (zx rfl ?_ zy)
                                            conv => whnf
                                            refine Sy.idx_nat (by omega) ?_
                                            conv => whnf
                                            refine ⟨(by repeat' ((conv => whnf);first|exact trivial|(refine And.intro ?_ ?_)|rfl)), ?_⟩
                                            refine zd1 [13] (zx rfl ?_ zy)
                                            conv => whnf
                                            refine Sy.el_map t ht ?_
                                            conv => whnf
                                            refine ⟨(by repeat' ((conv => whnf);first|exact trivial|(refine And.intro ?_ ?_)|rfl)), ?_⟩
                                            refine zd1 [14] (zx rfl ?_ zy)
                                            conv => whnf
                                            refine Sy.idx_nat (by omega) ?_
                                            conv => whnf
                                            refine ⟨(by repeat' ((conv => whnf);first|exact trivial|(refine And.intro ?_ ?_)|rfl)), ?_⟩
                                            refine zd1 [15] (zx rfl ?_ zy)
                                            conv => whnf
                                            refine Sy.el_of (encU pv) hz ?_
                                            conv => whnf
                                            refine ⟨(by repeat' ((conv => whnf);first|exact trivial|(refine And.intro ?_ ?_)|rfl)), ?_⟩
                                            refine zw ?_
                                            ((repeat' ((conv => whnf);(first|refine zA ?_|(refine zI ?_ ?_<;> intro hh<;> first|(exfalso;omega)|skip)|(refine zl ?_ ?_<;> intro hh)|refine zq ?_|refine zv ?_|refine zu ?_|exact Sy.fin_val fun e=>rfl)));(all_goals (try conv => whnf)))
                                            exact Sy.fin_mutx (((Y.set (j2) pv).set 0 t), j2, false) hdn (by show some (Blk.row 25 1 ds.length (.vs _)) = _; rw [hs]) (fun e => rfl)
                                          rotate_right
                                          focus
                                            conv => whnf
                                            refine Sy.el_map t ht ?_
                                            conv => whnf
                                            refine ⟨(by repeat' ((conv => whnf);first|exact trivial|(refine And.intro ?_ ?_)|rfl)), ?_⟩
                                            refine zd1 [7] (zx rfl ?_ zy)
                                            conv => whnf
                                            refine Sy.el_map pv h0 ?_
                                            conv => whnf
                                            refine ⟨(by repeat' ((conv => whnf);first|exact trivial|(refine And.intro ?_ ?_)|rfl)), ?_⟩
                                            refine zd1 [12] (zx rfl ?_ zy)
                                            conv => whnf
                                            refine Sy.idx_nat (by omega) ?_
                                            conv => whnf
                                            refine ⟨(by repeat' ((conv => whnf);first|exact trivial|(refine And.intro ?_ ?_)|rfl)), ?_⟩
                                            refine zd1 [13] (zx rfl ?_ zy)
                                            conv => whnf
                                            refine Sy.el_map t ht ?_
                                            conv => whnf
                                            refine ⟨(by repeat' ((conv => whnf);first|exact trivial|(refine And.intro ?_ ?_)|rfl)), ?_⟩
                                            refine zd1 [14] (zx rfl ?_ zy)
                                            conv => whnf
                                            refine Sy.idx_nat (by omega) ?_
                                            conv => whnf
                                            refine ⟨(by repeat' ((conv => whnf);first|exact trivial|(refine And.intro ?_ ?_)|rfl)), ?_⟩
                                            refine zd1 [15] (zx rfl ?_ zy)
                                            conv => whnf
                                            refine Sy.el_of (encU pv) hz ?_
                                            conv => whnf
                                            refine ⟨(by repeat' ((conv => whnf);first|exact trivial|(refine And.intro ?_ ?_)|rfl)), ?_⟩
                                            refine zw ?_
                                            ((repeat' ((conv => whnf);(first|refine zA ?_|(refine zI ?_ ?_<;> intro hh<;> first|(exfalso;omega)|skip)|(refine zl ?_ ?_<;> intro hh)|refine zq ?_|refine zv ?_|refine zu ?_|exact Sy.fin_val fun e=>rfl)));(all_goals (try conv => whnf)))
                                            exact Sy.fin_mutx (((Y.set (j2) pv).set 0 t), j2, false) hdn (by show some (Blk.row 25 1 ds.length (.vs _)) = _; rw [hs]) (fun e => rfl)
                                  rotate_right
                                  focus
                                    conv => whnf
                                    refine Sy.idx_nat (by omega) ?_
                                    conv => whnf
                                    refine ⟨(by repeat' ((conv => whnf);first|exact trivial|(refine And.intro ?_ ?_)|rfl)), ?_⟩
                                    focus
                                      refine zd1 [6, 11] (zx rfl ?_ (zx rfl ?_ zy))
                                      focus
                                        conv => whnf
                                        refine Sy.idx_nat (by omega) ?_
                                        conv => whnf
                                        refine ⟨(by repeat' ((conv => whnf);first|exact trivial|(refine And.intro ?_ ?_)|rfl)), ?_⟩
                                        focus
                                          refine zd1 [7, 11] (zx rfl ?_ (zx rfl ?_ zy))
                                          focus
                                            conv => whnf
                                            refine Sy.el_map pv h0 ?_
                                            conv => whnf
                                            refine ⟨(by repeat' ((conv => whnf);first|exact trivial|(refine And.intro ?_ ?_)|rfl)), ?_⟩
                                            refine zd1 [11] (zx rfl ?_ zy)
                                            conv => whnf
                                            refine Sy.el_map t ht ?_
                                            conv => whnf
                                            refine ⟨(by repeat' ((conv => whnf);first|exact trivial|(refine And.intro ?_ ?_)|rfl)), ?_⟩
                                            refine zd1 [12] (zx rfl ?_ zy)
                                            conv => whnf
                                            refine Sy.idx_nat (by omega) ?_
                                            conv => whnf
                                            refine ⟨(by repeat' ((conv => whnf);first|exact trivial|(refine And.intro ?_ ?_)|rfl)), ?_⟩
                                            refine zd1 [13] (zx rfl ?_ zy)
                                            conv => whnf
                                            refine Sy.el_map t ht ?_
                                            conv => whnf
                                            refine ⟨(by repeat' ((conv => whnf);first|exact trivial|(refine And.intro ?_ ?_)|rfl)), ?_⟩
                                            refine zd1 [14] (zx rfl ?_ zy)
                                            conv => whnf
                                            refine Sy.idx_nat (by omega) ?_
                                            conv => whnf
                                            refine ⟨(by repeat' ((conv => whnf);first|exact trivial|(refine And.intro ?_ ?_)|rfl)), ?_⟩
                                            refine zd1 [15] (zx rfl ?_ zy)
                                            conv => whnf
                                            refine Sy.el_of (encU pv) hz ?_
                                            conv => whnf
                                            refine ⟨(by repeat' ((conv => whnf);first|exact trivial|(refine And.intro ?_ ?_)|rfl)), ?_⟩
                                            refine zw ?_
                                            ((repeat' ((conv => whnf);(first|refine zA ?_|(refine zI ?_ ?_<;> intro hh<;> first|(exfalso;omega)|skip)|(refine zl ?_ ?_<;> intro hh)|refine zq ?_|refine zv ?_|refine zu ?_|exact Sy.fin_val fun e=>rfl)));(all_goals (try conv => whnf)))
                                            exact Sy.fin_mutx (((Y.set (j2) pv).set 0 t), j2, false) hdn (by show some (Blk.row 25 1 ds.length (.vs _)) = _; rw [hs]) (fun e => rfl)
                                          rotate_right
                                          focus
                                            conv => whnf
                                            refine Sy.el_map t ht ?_
                                            conv => whnf
                                            refine ⟨(by repeat' ((conv => whnf);first|exact trivial|(refine And.intro ?_ ?_)|rfl)), ?_⟩
                                            refine zd1 [7] (zx rfl ?_ zy)
                                            conv => whnf
                                            refine Sy.el_map pv h0 ?_
                                            conv => whnf
                                            refine ⟨(by repeat' ((conv => whnf);first|exact trivial|(refine And.intro ?_ ?_)|rfl)), ?_⟩
                                            refine zd1 [12] (zx rfl ?_ zy)
                                            conv => whnf
                                            refine Sy.idx_nat (by omega) ?_
                                            conv => whnf
                                            refine ⟨(by repeat' ((conv => whnf);first|exact trivial|(refine And.intro ?_ ?_)|rfl)), ?_⟩
                                            refine zd1 [13] (zx rfl ?_ zy)
                                            conv => whnf
                                            refine Sy.el_map t ht ?_
                                            conv => whnf
                                            refine ⟨(by repeat' ((conv => whnf);first|exact trivial|(refine And.intro ?_ ?_)|rfl)), ?_⟩
                                            refine zd1 [14] (zx rfl ?_ zy)
                                            conv => whnf
                                            refine Sy.idx_nat (by omega) ?_
                                            conv => whnf
                                            refine ⟨(by repeat' ((conv => whnf);first|exact trivial|(refine And.intro ?_ ?_)|rfl)), ?_⟩
                                            refine zd1 [15] (zx rfl ?_ zy)
                                            conv => whnf
                                            refine Sy.el_of (encU pv) hz ?_
                                            conv => whnf
                                            refine ⟨(by repeat' ((conv => whnf);first|exact trivial|(refine And.intro ?_ ?_)|rfl)), ?_⟩
                                            refine zw ?_
                                            ((repeat' ((conv => whnf);(first|refine zA ?_|(refine zI ?_ ?_<;> intro hh<;> first|(exfalso;omega)|skip)|(refine zl ?_ ?_<;> intro hh)|refine zq ?_|refine zv ?_|refine zu ?_|exact Sy.fin_val fun e=>rfl)));(all_goals (try conv => whnf)))
                                            exact Sy.fin_mutx (((Y.set (j2) pv).set 0 t), j2, false) hdn (by show some (Blk.row 25 1 ds.length (.vs _)) = _; rw [hs]) (fun e => rfl)
                                      rotate_right
                                      focus
                                        conv => whnf
                                        refine Sy.el_map t ht ?_
                                        conv => whnf
                                        refine ⟨(by repeat' ((conv => whnf);first|exact trivial|(refine And.intro ?_ ?_)|rfl)), ?_⟩
                                        refine zd1 [6] (zx rfl ?_ zy)
                                        conv => whnf
                                        refine Sy.idx_nat (by omega) ?_
                                        conv => whnf
                                        refine ⟨(by repeat' ((conv => whnf);first|exact trivial|(refine And.intro ?_ ?_)|rfl)), ?_⟩
                                        refine zd1 [7] (zx rfl ?_ zy)
                                        conv => whnf
                                        refine Sy.el_map pv h0 ?_
                                        conv => whnf
                                        refine ⟨(by repeat' ((conv => whnf);first|exact trivial|(refine And.intro ?_ ?_)|rfl)), ?_⟩
                                        refine zd1 [12] (zx rfl ?_ zy)
                                        conv => whnf
                                        refine Sy.idx_nat (by omega) ?_
                                        conv => whnf
                                        refine ⟨(by repeat' ((conv => whnf);first|exact trivial|(refine And.intro ?_ ?_)|rfl)), ?_⟩
                                        refine zd1 [13] (zx rfl ?_ zy)
                                        conv => whnf
                                        refine Sy.el_map t ht ?_
                                        conv => whnf
                                        refine ⟨(by repeat' ((conv => whnf);first|exact trivial|(refine And.intro ?_ ?_)|rfl)), ?_⟩
                                        refine zd1 [14] (zx rfl ?_ zy)
                                        conv => whnf
                                        refine Sy.idx_nat (by omega) ?_
                                        conv => whnf
                                        refine ⟨(by repeat' ((conv => whnf);first|exact trivial|(refine And.intro ?_ ?_)|rfl)), ?_⟩
                                        refine zd1 [15] (zx rfl ?_ zy)
                                        conv => whnf
                                        refine Sy.el_of (encU pv) hz ?_
                                        conv => whnf
                                        refine ⟨(by repeat' ((conv => whnf);first|exact trivial|(refine And.intro ?_ ?_)|rfl)), ?_⟩
                                        refine zw ?_
                                        ((repeat' ((conv => whnf);(first|refine zA ?_|(refine zI ?_ ?_<;> intro hh<;> first|(exfalso;omega)|skip)|(refine zl ?_ ?_<;> intro hh)|refine zq ?_|refine zv ?_|refine zu ?_|exact Sy.fin_val fun e=>rfl)));(all_goals (try conv => whnf)))
                                        exact Sy.fin_mutx (((Y.set (j2) pv).set 0 t), j2, false) hdn (by show some (Blk.row 25 1 ds.length (.vs _)) = _; rw [hs]) (fun e => rfl)
                        · have hd : decide ((i2 : Int) ≤ (j1 : Int)) = false := decide_eq_false (by omega)
                          ((repeat' ((conv => whnf);(first|refine zA ?_|(refine zI ?_ ?_<;> intro hh<;> first|(exfalso;omega)|skip)|(refine zl ?_ ?_<;> intro hh)|refine zq ?_|refine zv ?_|refine zu ?_|exact Sy.fin_val fun e=>rfl)));(all_goals (try conv => whnf)))
                          all_goals (refine Sy.draw_go [] (by kernel_rfl) ?_; intro e0; conv => whnf)
                          all_goals (refine zt 0 rfl ?_)
                          all_goals (conv => whnf)
                          all_goals (refine zt 1 rfl ?_)
                          all_goals (conv => whnf)
                          all_goals (refine zt 2 rfl ?_)
                          all_goals ((conv => whnf);(repeat' ((first|refine zA ?_|(refine zI ?_ ?_<;> intro hh<;> first|(exfalso;omega)|skip)|(refine zl ?_ ?_<;> intro hh)|refine zq ?_|refine zv ?_|refine zu ?_|exact Sy.fin_val fun e=>rfl);(try conv => whnf))))
                          all_goals (refine zt 3 rfl ?_)
                          all_goals (conv => whnf)
                          all_goals (refine zt 4 rfl ?_)
                          all_goals ((conv => whnf);(repeat' ((first|refine zA ?_|(refine zI ?_ ?_<;> intro hh<;> first|(exfalso;omega)|skip)|(refine zl ?_ ?_<;> intro hh)|refine zq ?_|refine zv ?_|refine zu ?_|exact Sy.fin_val fun e=>rfl);(try conv => whnf))))
                          all_goals (refine zt 5 rfl ?_)
                          all_goals ((conv => whnf);(repeat' ((first|refine zA ?_|(refine zI ?_ ?_<;> intro hh<;> first|(exfalso;omega)|skip)|(refine zl ?_ ?_<;> intro hh)|refine zq ?_|refine zv ?_|refine zu ?_|exact Sy.fin_val fun e=>rfl);(try conv => whnf))))
                          all_goals (refine zt 6 rfl ?_)
                          all_goals ((conv => whnf);(repeat' ((first|refine zA ?_|(refine zI ?_ ?_<;> intro hh<;> first|(exfalso;omega)|skip)|(refine zl ?_ ?_<;> intro hh)|refine zq ?_|refine zv ?_|refine zu ?_|exact Sy.fin_val fun e=>rfl);(try conv => whnf))))
                          all_goals (refine zt 7 rfl ?_)
                          all_goals ((conv => whnf);(repeat' ((first|refine zA ?_|(refine zI ?_ ?_<;> intro hh<;> first|(exfalso;omega)|skip)|(refine zl ?_ ?_<;> intro hh)|refine zq ?_|refine zv ?_|refine zu ?_|exact Sy.fin_val fun e=>rfl);(try conv => whnf))))
                          all_goals (refine zt 8 rfl ?_)
                          all_goals ((conv => whnf);(repeat' ((first|refine zA ?_|(refine zI ?_ ?_<;> intro hh<;> first|(exfalso;omega)|skip)|(refine zl ?_ ?_<;> intro hh)|refine zq ?_|refine zv ?_|refine zu ?_|exact Sy.fin_val fun e=>rfl);(try conv => whnf))))
                          all_goals (refine zt 9 rfl ?_)
                          all_goals ((conv => whnf);(repeat' ((first|refine zA ?_|(refine zI ?_ ?_<;> intro hh<;> first|(exfalso;omega)|skip)|(refine zl ?_ ?_<;> intro hh)|refine zq ?_|refine zv ?_|refine zu ?_|exact Sy.fin_val fun e=>rfl);(try conv => whnf))))
                          all_goals (refine zt 10 rfl ?_)
                          all_goals ((conv => whnf);(repeat' ((first|refine zA ?_|(refine zI ?_ ?_<;> intro hh<;> first|(exfalso;omega)|skip)|(refine zl ?_ ?_<;> intro hh)|refine zq ?_|refine zv ?_|refine zu ?_|exact Sy.fin_val fun e=>rfl);(try conv => whnf))))
                          all_goals (refine zt 11 rfl ?_)
                          all_goals ((conv => whnf);(repeat' ((first|refine zA ?_|(refine zI ?_ ?_<;> intro hh<;> first|(exfalso;omega)|skip)|(refine zl ?_ ?_<;> intro hh)|refine zq ?_|refine zv ?_|refine zu ?_|exact Sy.fin_val fun e=>rfl);(try conv => whnf))))
                          all_goals (refine zd1 [12] (zx rfl ?_ zy))
                          all_goals (conv => whnf)
                          all_goals ((refine zA ?_;conv => whnf))
                          all_goals (skip)
                          all_goals (refine ⟨(by repeat' ((conv => whnf);first|exact trivial|(refine And.intro ?_ ?_)|rfl)), ?_⟩)
                          all_goals (refine zt 13 rfl ?_)
                          all_goals ((conv => whnf);(repeat' ((first|refine zA ?_|(refine zI ?_ ?_<;> intro hh<;> first|(exfalso;omega)|skip)|(refine zl ?_ ?_<;> intro hh)|refine zq ?_|refine zv ?_|refine zu ?_|exact Sy.fin_val fun e=>rfl);(try conv => whnf))))
                          all_goals (refine zw ?_)
                          all_goals (((repeat' ((conv => whnf);(first|refine zA ?_|(refine zI ?_ ?_<;> intro hh<;> first|(exfalso;omega)|skip)|(refine zl ?_ ?_<;> intro hh)|refine zq ?_|refine zv ?_|refine zu ?_|exact Sy.fin_val fun e=>rfl)));(all_goals (try conv => whnf))))
                          obtain ⟨t, ht⟩ : ∃ t, Y[j1]? = some t := ⟨Y[j1], List.getElem?_eq_getElem (by omega)⟩
                          refine Sy.loop_rounds 1 (Sy.loop_round Sy.tab_ok ?_)
                          ((repeat' ((conv => whnf);(first|refine zA ?_|(refine zI ?_ ?_<;> intro hh<;> first|(exfalso;omega)|skip)|(refine zl ?_ ?_<;> intro hh)|refine zq ?_|refine zv ?_|refine zu ?_|exact Sy.fin_val fun e=>rfl)));(all_goals (try conv => whnf)))
                          all_goals (refine Sy.draw_go [] (by kernel_rfl) ?_; intro e0; conv => whnf)
                          all_goals (refine zt 0 rfl ?_)
                          all_goals (conv => whnf)
                          all_goals (refine zt 1 rfl ?_)
                          all_goals (conv => whnf)
                          all_goals (refine zt 2 rfl ?_)
                          all_goals ((conv => whnf);(repeat' ((first|refine zA ?_|(refine zI ?_ ?_<;> intro hh<;> first|(exfalso;omega)|skip)|(refine zl ?_ ?_<;> intro hh)|refine zq ?_|refine zv ?_|refine zu ?_|exact Sy.fin_val fun e=>rfl);(try conv => whnf))))
                          all_goals (refine zt 3 rfl ?_)
                          all_goals (conv => whnf)
                          all_goals (refine zt 4 rfl ?_)
                          all_goals ((conv => whnf);(repeat' ((first|refine zA ?_|(refine zI ?_ ?_<;> intro hh<;> first|(exfalso;omega)|skip)|(refine zl ?_ ?_<;> intro hh)|refine zq ?_|refine zv ?_|refine zu ?_|exact Sy.fin_val fun e=>rfl);(try conv => whnf))))
                          all_goals (refine zt 5 rfl ?_)
                          all_goals ((conv => whnf);(repeat' ((first|refine zA ?_|(refine zI ?_ ?_<;> intro hh<;> first|(exfalso;omega)|skip)|(refine zl ?_ ?_<;> intro hh)|refine zq ?_|refine zv ?_|refine zu ?_|exact Sy.fin_val fun e=>rfl);(try conv => whnf))))
                          all_goals (refine zt 6 rfl ?_)
                          all_goals ((conv => whnf);(repeat' ((first|refine zA ?_|(refine zI ?_ ?_<;> intro hh<;> first|(exfalso;omega)|skip)|(refine zl ?_ ?_<;> intro hh)|refine zq ?_|refine zv ?_|refine zu ?_|exact Sy.fin_val fun e=>rfl);(try conv => whnf))))
                          all_goals (refine zt 7 rfl ?_)
                          all_goals ((conv => whnf);(repeat' ((first|refine zA ?_|(refine zI ?_ ?_<;> intro hh<;> first|(exfalso;omega)|skip)|(refine zl ?_ ?_<;> intro hh)|refine zq ?_|refine zv ?_|refine zu ?_|exact Sy.fin_val fun e=>rfl);(try conv => whnf))))
                          all_goals (refine zt 8 rfl ?_)
                          all_goals ((conv => whnf);(repeat' ((first|refine zA ?_|(refine zI ?_ ?_<;> intro hh<;> first|(exfalso;omega)|skip)|(refine zl ?_ ?_<;> intro hh)|refine zq ?_|refine zv ?_|refine zu ?_|exact Sy.fin_val fun e=>rfl);(try conv => whnf))))
                          all_goals (refine zt 9 rfl ?_)
                          all_goals ((conv => whnf);(repeat' ((first|refine zA ?_|(refine zI ?_ ?_<;> intro hh<;> first|(exfalso;omega)|skip)|(refine zl ?_ ?_<;> intro hh)|refine zq ?_|refine zv ?_|refine zu ?_|exact Sy.fin_val fun e=>rfl);(try conv => whnf))))
                          all_goals (refine zt 10 rfl ?_)
                          all_goals ((conv => whnf);(repeat' ((first|refine zA ?_|(refine zI ?_ ?_<;> intro hh<;> first|(exfalso;omega)|skip)|(refine zl ?_ ?_<;> intro hh)|refine zq ?_|refine zv ?_|refine zu ?_|exact Sy.fin_val fun e=>rfl);(try conv => whnf))))
                          all_goals (refine zt 11 rfl ?_)
                          all_goals ((conv => whnf);(repeat' ((first|refine zA ?_|(refine zI ?_ ?_<;> intro hh<;> first|(exfalso;omega)|skip)|(refine zl ?_ ?_<;> intro hh)|refine zq ?_|refine zv ?_|refine zu ?_|exact Sy.fin_val fun e=>rfl);(try conv => whnf))))
                          all_goals (refine zd1 [12] (zx rfl ?_ zy))
                          all_goals (conv => whnf)
                          all_goals ((refine zA ?_;conv => whnf))
                          all_goals (skip)
                          all_goals (refine ⟨(by repeat' ((conv => whnf);first|exact trivial|(refine And.intro ?_ ?_)|rfl)), ?_⟩)
                          all_goals (refine zt 13 rfl ?_)
                          all_goals ((conv => whnf);(repeat' ((first|refine zA ?_|(refine zI ?_ ?_<;> intro hh<;> first|(exfalso;omega)|skip)|(refine zl ?_ ?_<;> intro hh)|refine zq ?_|refine zv ?_|refine zu ?_|exact Sy.fin_val fun e=>rfl);(try conv => whnf))))
                          all_goals (refine zt 14 rfl ?_)
                          all_goals ((conv => whnf);(repeat' ((first|refine zA ?_|(refine zI ?_ ?_<;> intro hh<;> first|(exfalso;omega)|skip)|(refine zl ?_ ?_<;> intro hh)|refine zq ?_|refine zv ?_|refine zu ?_|exact Sy.fin_val fun e=>rfl);(try conv => whnf))))
                          all_goals (refine zw ?_)
                          all_goals (((repeat' ((conv => whnf);(first|refine zA ?_|(refine zI ?_ ?_<;> intro hh<;> first|(exfalso;omega)|skip)|(refine zl ?_ ?_<;> intro hh)|refine zq ?_|refine zv ?_|refine zu ?_|exact Sy.fin_val fun e=>rfl)));(all_goals (try conv => whnf))))
                          have hz : ((Y.map encU).set (j1) (Sy.splice (encU t) 0 [Value.int .u64 pv]))[0]? = some (encU pv) := set_at h0 (by omega) (fun _ => rfl)
                          have hs : ((Y.map encU).set (j1) (Sy.splice (encU t) 0 [Value.int .u64 pv])).set 0 (Sy.splice (encU pv) 0 [Value.int .u64 t]) = ((Y.set (j1) pv).set 0 t).map encU := set_two Y _ _ _ _
                          have hdn := Parting.done hP (by omega) ht
                          refine Sy.draw_go [0] (by kernel_rfl) ?_
                          intro e0
                          conv => whnf
                          refine zt 0 rfl ?_
                          conv => whnf
                          refine zt 1 rfl ?_
                          conv => whnf
                          refine zt 2 rfl ?_
                          conv => whnf
                          refine zt 3 rfl ?_
                          conv => whnf
                          refine zt 4 rfl ?_
                          conv => whnf
                          refine zt 5 rfl ?_
                          conv => whnf
                          refine zt 8 rfl ?_
                          conv => whnf
                          refine zt 9 rfl ?_
                          conv => whnf
                          focus
                            refine zd1 [6, 10] (zx rfl ?_ (zx rfl ?_ zy))
                            focus
                              conv => whnf
                              refine Sy.idx_nat (by omega) ?_
                              conv => whnf
                              refine ⟨(by repeat' ((conv => whnf);first|exact trivial|(refine And.intro ?_ ?_)|rfl)), ?_⟩
                              focus
                                refine zd1 [7, 10] (zx rfl ?_ (zx rfl ?_ zy))
                                focus
                                  conv => whnf
                                  refine Sy.el_map pv h0 ?_
                                  conv => whnf
                                  refine ⟨(by repeat' ((conv => whnf);first|exact trivial|(refine And.intro ?_ ?_)|rfl)), ?_⟩
                                  refine zd1 [10] (zx rfl ?_ zy)
                                  conv => whnf
                                  refine Sy.idx_nat (by omega) ?_
                                  conv => whnf
                                  refine ⟨(by repeat' ((conv => whnf);first|exact trivial|(refine And.intro ?_ ?_)|rfl)), ?_⟩
                                  refine zd1 [11] (zx rfl ?_ zy)
                                  conv => whnf
                                  refine Sy.el_map t ht ?_
                                  conv => whnf
                                  refine ⟨(by repeat' ((conv => whnf);first|exact trivial|(refine And.intro ?_ ?_)|rfl)), ?_⟩
                                  refine zd1 [12] (zx rfl ?_ zy)
                                  conv => whnf
                                  refine Sy.idx_nat (by omega) ?_
                                  conv => whnf
                                  refine ⟨(by repeat' ((conv => whnf);first|exact trivial|(refine And.intro ?_ ?_)|rfl)), ?_⟩
                                  refine zd1 [13] (zx rfl ?_ zy)
                                  conv => whnf
                                  refine Sy.el_map t ht ?_
                                  conv => whnf
                                  refine ⟨(by repeat' ((conv => whnf);first|exact trivial|(refine And.intro ?_ ?_)|rfl)), ?_⟩
                                  refine zd1 [14] (zx rfl ?_ zy)
                                  conv => whnf
                                  refine Sy.idx_nat (by omega) ?_
                                  conv => whnf
                                  refine ⟨(by repeat' ((conv => whnf);first|exact trivial|(refine And.intro ?_ ?_)|rfl)), ?_⟩
                                  refine zd1 [15] (zx rfl ?_ zy)
                                  conv => whnf
                                  refine Sy.el_of (encU pv) hz ?_
                                  conv => whnf
                                  refine ⟨(by repeat' ((conv => whnf);first|exact trivial|(refine And.intro ?_ ?_)|rfl)), ?_⟩
                                  refine zw ?_
                                  ((repeat' ((conv => whnf);(first|refine zA ?_|(refine zI ?_ ?_<;> intro hh<;> first|(exfalso;omega)|skip)|(refine zl ?_ ?_<;> intro hh)|refine zq ?_|refine zv ?_|refine zu ?_|exact Sy.fin_val fun e=>rfl)));(all_goals (try conv => whnf)))
                                  exact Sy.fin_mutx (((Y.set (j1) pv).set 0 t), j1, false) hdn (by show some (Blk.row 25 1 ds.length (.vs _)) = _; rw [hs]) (fun e => rfl)
                                rotate_right
                                focus
                                  conv => whnf
                                  refine Sy.idx_nat (by omega) ?_
                                  conv => whnf
                                  refine ⟨(by repeat' ((conv => whnf);first|exact trivial|(refine And.intro ?_ ?_)|rfl)), ?_⟩
                                  focus
                                    refine zd1 [7, 11] (zx rfl ?_ (zx rfl ?_ zy))
                                    focus
                                      conv => whnf
                                      refine Sy.el_map pv h0 ?_
                                      conv => whnf
                                      refine ⟨(by repeat' ((conv => whnf);first|exact trivial|(refine And.intro ?_ ?_)|rfl)), ?_⟩
                                      refine zd1 [11] (zx rfl ?_ zy)
                                      conv => whnf
                                      refine Sy.el_map t ht ?_
                                      conv => whnf
                                      refine ⟨(by repeat' ((conv => whnf);first|exact trivial|(refine And.intro ?_ ?_)|rfl)), ?_⟩
                                      refine zd1 [12] (zx rfl ?_ zy)
                                      conv => whnf
                                      refine Sy.idx_nat (by omega) ?_
                                      conv => whnf
                                      refine ⟨(by repeat' ((conv => whnf);first|exact trivial|(refine And.intro ?_ ?_)|rfl)), ?_⟩
                                      refine zd1 [13] (zx rfl ?_ zy)
                                      conv => whnf
                                      refine Sy.el_map t ht ?_
                                      conv => whnf
                                      refine ⟨(by repeat' ((conv => whnf);first|exact trivial|(refine And.intro ?_ ?_)|rfl)), ?_⟩
                                      refine zd1 [14] (zx rfl ?_ zy)
                                      conv => whnf
                                      refine Sy.idx_nat (by omega) ?_
                                      conv => whnf
                                      refine ⟨(by repeat' ((conv => whnf);first|exact trivial|(refine And.intro ?_ ?_)|rfl)), ?_⟩
                                      refine zd1 [15] (zx rfl ?_ zy)
                                      conv => whnf
                                      refine Sy.el_of (encU pv) hz ?_
                                      conv => whnf
                                      refine ⟨(by repeat' ((conv => whnf);first|exact trivial|(refine And.intro ?_ ?_)|rfl)), ?_⟩
                                      refine zw ?_
                                      ((repeat' ((conv => whnf);(first|refine zA ?_|(refine zI ?_ ?_<;> intro hh<;> first|(exfalso;omega)|skip)|(refine zl ?_ ?_<;> intro hh)|refine zq ?_|refine zv ?_|refine zu ?_|exact Sy.fin_val fun e=>rfl)));(all_goals (try conv => whnf)))
                                      exact Sy.fin_mutx (((Y.set (j1) pv).set 0 t), j1, false) hdn (by show some (Blk.row 25 1 ds.length (.vs _)) = _; rw [hs]) (fun e => rfl)
                                    rotate_right
                                    focus
                                      conv => whnf
                                      refine Sy.el_map t ht ?_
                                      conv => whnf
                                      refine ⟨(by repeat' ((conv => whnf);first|exact trivial|(refine And.intro ?_ ?_)|rfl)), ?_⟩
                                      refine zd1 [7] (zx rfl ?_ zy)
                                      conv => whnf
                                      refine Sy.el_map pv h0 ?_
                                      conv => whnf
                                      refine ⟨(by repeat' ((conv => whnf);first|exact trivial|(refine And.intro ?_ ?_)|rfl)), ?_⟩
                                      refine zd1 [12] (zx rfl ?_ zy)
                                      conv => whnf
                                      refine Sy.idx_nat (by omega) ?_
                                      conv => whnf
                                      refine ⟨(by repeat' ((conv => whnf);first|exact trivial|(refine And.intro ?_ ?_)|rfl)), ?_⟩
                                      refine zd1 [13] (zx rfl ?_ zy)
                                      conv => whnf
                                      refine Sy.el_map t ht ?_
                                      conv => whnf
                                      refine ⟨(by repeat' ((conv => whnf);first|exact trivial|(refine And.intro ?_ ?_)|rfl)), ?_⟩
                                      refine zd1 [14] (zx rfl ?_ zy)
                                      conv => whnf
                                      refine Sy.idx_nat (by omega) ?_
                                      conv => whnf
                                      refine ⟨(by repeat' ((conv => whnf);first|exact trivial|(refine And.intro ?_ ?_)|rfl)), ?_⟩
                                      refine zd1 [15] (zx rfl ?_ zy)
                                      conv => whnf
                                      refine Sy.el_of (encU pv) hz ?_
                                      conv => whnf
                                      refine ⟨(by repeat' ((conv => whnf);first|exact trivial|(refine And.intro ?_ ?_)|rfl)), ?_⟩
                                      refine zw ?_
                                      ((repeat' ((conv => whnf);(first|refine zA ?_|(refine zI ?_ ?_<;> intro hh<;> first|(exfalso;omega)|skip)|(refine zl ?_ ?_<;> intro hh)|refine zq ?_|refine zv ?_|refine zu ?_|exact Sy.fin_val fun e=>rfl)));(all_goals (try conv => whnf)))
                                      exact Sy.fin_mutx (((Y.set (j1) pv).set 0 t), j1, false) hdn (by show some (Blk.row 25 1 ds.length (.vs _)) = _; rw [hs]) (fun e => rfl)
                            rotate_right
                            focus
                              conv => whnf
                              refine Sy.idx_nat (by omega) ?_
                              conv => whnf
                              refine ⟨(by repeat' ((conv => whnf);first|exact trivial|(refine And.intro ?_ ?_)|rfl)), ?_⟩
                              focus
                                refine zd1 [6, 11] (zx rfl ?_ (zx rfl ?_ zy))
                                focus
                                  conv => whnf
                                  refine Sy.idx_nat (by omega) ?_
                                  conv => whnf
                                  refine ⟨(by repeat' ((conv => whnf);first|exact trivial|(refine And.intro ?_ ?_)|rfl)), ?_⟩
                                  focus
                                    refine zd1 [7, 11] (zx rfl ?_ (zx rfl ?_ zy))
                                    focus
                                      conv => whnf
                                      refine Sy.el_map pv h0 ?_
                                      conv => whnf
                                      refine ⟨(by repeat' ((conv => whnf);first|exact trivial|(refine And.intro ?_ ?_)|rfl)), ?_⟩
                                      refine zd1 [11] (zx rfl ?_ zy)
                                      conv => whnf
                                      refine Sy.el_map t ht ?_
                                      conv => whnf
                                      refine ⟨(by repeat' ((conv => whnf);first|exact trivial|(refine And.intro ?_ ?_)|rfl)), ?_⟩
                                      refine zd1 [12] (zx rfl ?_ zy)
                                      conv => whnf
                                      refine Sy.idx_nat (by omega) ?_
                                      conv => whnf
                                      refine ⟨(by repeat' ((conv => whnf);first|exact trivial|(refine And.intro ?_ ?_)|rfl)), ?_⟩
                                      refine zd1 [13] (zx rfl ?_ zy)
                                      conv => whnf
                                      refine Sy.el_map t ht ?_
                                      conv => whnf
                                      refine ⟨(by repeat' ((conv => whnf);first|exact trivial|(refine And.intro ?_ ?_)|rfl)), ?_⟩
                                      refine zd1 [14] (zx rfl ?_ zy)
                                      conv => whnf
                                      refine Sy.idx_nat (by omega) ?_
                                      conv => whnf
                                      refine ⟨(by repeat' ((conv => whnf);first|exact trivial|(refine And.intro ?_ ?_)|rfl)), ?_⟩
                                      refine zd1 [15] (zx rfl ?_ zy)
                                      conv => whnf
                                      refine Sy.el_of (encU pv) hz ?_
                                      conv => whnf
                                      refine ⟨(by repeat' ((conv => whnf);first|exact trivial|(refine And.intro ?_ ?_)|rfl)), ?_⟩
                                      refine zw ?_
                                      ((repeat' ((conv => whnf);(first|refine zA ?_|(refine zI ?_ ?_<;> intro hh<;> first|(exfalso;omega)|skip)|(refine zl ?_ ?_<;> intro hh)|refine zq ?_|refine zv ?_|refine zu ?_|exact Sy.fin_val fun e=>rfl)));(all_goals (try conv => whnf)))
                                      exact Sy.fin_mutx (((Y.set (j1) pv).set 0 t), j1, false) hdn (by show some (Blk.row 25 1 ds.length (.vs _)) = _; rw [hs]) (fun e => rfl)
                                    rotate_right
                                    focus
                                      conv => whnf
                                      refine Sy.el_map t ht ?_
                                      conv => whnf
                                      refine ⟨(by repeat' ((conv => whnf);first|exact trivial|(refine And.intro ?_ ?_)|rfl)), ?_⟩
                                      refine zd1 [7] (zx rfl ?_ zy)
                                      conv => whnf
                                      refine Sy.el_map pv h0 ?_
                                      conv => whnf
                                      refine ⟨(by repeat' ((conv => whnf);first|exact trivial|(refine And.intro ?_ ?_)|rfl)), ?_⟩
                                      refine zd1 [12] (zx rfl ?_ zy)
                                      conv => whnf
                                      refine Sy.idx_nat (by omega) ?_
                                      conv => whnf
                                      refine ⟨(by repeat' ((conv => whnf);first|exact trivial|(refine And.intro ?_ ?_)|rfl)), ?_⟩
                                      refine zd1 [13] (zx rfl ?_ zy)
                                      conv => whnf
                                      refine Sy.el_map t ht ?_
                                      conv => whnf
                                      refine ⟨(by repeat' ((conv => whnf);first|exact trivial|(refine And.intro ?_ ?_)|rfl)), ?_⟩
                                      refine zd1 [14] (zx rfl ?_ zy)
                                      conv => whnf
                                      refine Sy.idx_nat (by omega) ?_
                                      conv => whnf
                                      refine ⟨(by repeat' ((conv => whnf);first|exact trivial|(refine And.intro ?_ ?_)|rfl)), ?_⟩
                                      refine zd1 [15] (zx rfl ?_ zy)
                                      conv => whnf
                                      refine Sy.el_of (encU pv) hz ?_
                                      conv => whnf
                                      refine ⟨(by repeat' ((conv => whnf);first|exact trivial|(refine And.intro ?_ ?_)|rfl)), ?_⟩
                                      refine zw ?_
                                      ((repeat' ((conv => whnf);(first|refine zA ?_|(refine zI ?_ ?_<;> intro hh<;> first|(exfalso;omega)|skip)|(refine zl ?_ ?_<;> intro hh)|refine zq ?_|refine zv ?_|refine zu ?_|exact Sy.fin_val fun e=>rfl)));(all_goals (try conv => whnf)))
                                      exact Sy.fin_mutx (((Y.set (j1) pv).set 0 t), j1, false) hdn (by show some (Blk.row 25 1 ds.length (.vs _)) = _; rw [hs]) (fun e => rfl)
                                rotate_right
                                focus
                                  conv => whnf
                                  refine Sy.el_map t ht ?_
                                  conv => whnf
                                  refine ⟨(by repeat' ((conv => whnf);first|exact trivial|(refine And.intro ?_ ?_)|rfl)), ?_⟩
                                  refine zd1 [6] (zx rfl ?_ zy)
                                  conv => whnf
                                  refine Sy.idx_nat (by omega) ?_
                                  conv => whnf
                                  refine ⟨(by repeat' ((conv => whnf);first|exact trivial|(refine And.intro ?_ ?_)|rfl)), ?_⟩
                                  refine zd1 [7] (zx rfl ?_ zy)
                                  conv => whnf
                                  refine Sy.el_map pv h0 ?_
                                  conv => whnf
                                  refine ⟨(by repeat' ((conv => whnf);first|exact trivial|(refine And.intro ?_ ?_)|rfl)), ?_⟩
                                  refine zd1 [12] (zx rfl ?_ zy)
                                  conv => whnf
                                  refine Sy.idx_nat (by omega) ?_
                                  conv => whnf
                                  refine ⟨(by repeat' ((conv => whnf);first|exact trivial|(refine And.intro ?_ ?_)|rfl)), ?_⟩
                                  refine zd1 [13] (zx rfl ?_ zy)
                                  conv => whnf
                                  refine Sy.el_map t ht ?_
                                  conv => whnf
                                  refine ⟨(by repeat' ((conv => whnf);first|exact trivial|(refine And.intro ?_ ?_)|rfl)), ?_⟩
                                  refine zd1 [14] (zx rfl ?_ zy)
                                  conv => whnf
                                  refine Sy.idx_nat (by omega) ?_
                                  conv => whnf
                                  refine ⟨(by repeat' ((conv => whnf);first|exact trivial|(refine And.intro ?_ ?_)|rfl)), ?_⟩
                                  refine zd1 [15] (zx rfl ?_ zy)
                                  conv => whnf
                                  refine Sy.el_of (encU pv) hz ?_
                                  conv => whnf
                                  refine ⟨(by repeat' ((conv => whnf);first|exact trivial|(refine And.intro ?_ ?_)|rfl)), ?_⟩
                                  refine zw ?_
                                  ((repeat' ((conv => whnf);(first|refine zA ?_|(refine zI ?_ ?_<;> intro hh<;> first|(exfalso;omega)|skip)|(refine zl ?_ ?_<;> intro hh)|refine zq ?_|refine zv ?_|refine zu ?_|exact Sy.fin_val fun e=>rfl)));(all_goals (try conv => whnf)))
                                  exact Sy.fin_mutx (((Y.set (j1) pv).set 0 t), j1, false) hdn (by show some (Blk.row 25 1 ds.length (.vs _)) = _; rw [hs]) (fun e => rfl)
                · refine ⟨j - 1, hQ.down hij2 ht (by omega), by omega, ?_⟩
                  ((repeat' (first|((conv => whnf);done)|((try conv => whnf);first|exact trivial|(refine And.intro ?_ ?_)|rfl|exact fun _ _ _ h=>h|exact fun _ _ _ _=>trivial)));(all_goals (try conv => whnf)))
                  all_goals exact congrArg (Value.int .i64) (by omega)
              · have hd : decide ((i : Int) ≤ (j : Int)) = false := decide_eq_false (by omega)
                ((repeat' ((conv => whnf);(first|refine zA ?_|(refine zI ?_ ?_<;> intro hh<;> first|(exfalso;omega)|skip)|(refine zl ?_ ?_<;> intro hh)|refine zq ?_|refine zv ?_|refine zu ?_|exact Sy.fin_val fun e=>rfl)));(all_goals (try conv => whnf)))
                all_goals (refine Sy.draw_go [] (by kernel_rfl) ?_; intro e0; conv => whnf)
                all_goals (refine zt 0 rfl ?_)
                all_goals (conv => whnf)
                all_goals (refine zt 1 rfl ?_)
                all_goals (conv => whnf)
                all_goals (refine zt 2 rfl ?_)
                all_goals ((conv => whnf);(repeat' ((first|refine zA ?_|(refine zI ?_ ?_<;> intro hh<;> first|(exfalso;omega)|skip)|(refine zl ?_ ?_<;> intro hh)|refine zq ?_|refine zv ?_|refine zu ?_|exact Sy.fin_val fun e=>rfl);(try conv => whnf))))
                all_goals (refine zt 3 rfl ?_)
                all_goals (conv => whnf)
                all_goals (refine zt 4 rfl ?_)
                all_goals ((conv => whnf);(repeat' ((first|refine zA ?_|(refine zI ?_ ?_<;> intro hh<;> first|(exfalso;omega)|skip)|(refine zl ?_ ?_<;> intro hh)|refine zq ?_|refine zv ?_|refine zu ?_|exact Sy.fin_val fun e=>rfl);(try conv => whnf))))
                all_goals (refine zt 5 rfl ?_)
                all_goals ((conv => whnf);(repeat' ((first|refine zA ?_|(refine zI ?_ ?_<;> intro hh<;> first|(exfalso;omega)|skip)|(refine zl ?_ ?_<;> intro hh)|refine zq ?_|refine zv ?_|refine zu ?_|exact Sy.fin_val fun e=>rfl);(try conv => whnf))))
                all_goals (refine zt 6 rfl ?_)
                all_goals ((conv => whnf);(repeat' ((first|refine zA ?_|(refine zI ?_ ?_<;> intro hh<;> first|(exfalso;omega)|skip)|(refine zl ?_ ?_<;> intro hh)|refine zq ?_|refine zv ?_|refine zu ?_|exact Sy.fin_val fun e=>rfl);(try conv => whnf))))
                all_goals (refine zt 7 rfl ?_)
                all_goals ((conv => whnf);(repeat' ((first|refine zA ?_|(refine zI ?_ ?_<;> intro hh<;> first|(exfalso;omega)|skip)|(refine zl ?_ ?_<;> intro hh)|refine zq ?_|refine zv ?_|refine zu ?_|exact Sy.fin_val fun e=>rfl);(try conv => whnf))))
                all_goals (refine zt 8 rfl ?_)
                all_goals ((conv => whnf);(repeat' ((first|refine zA ?_|(refine zI ?_ ?_<;> intro hh<;> first|(exfalso;omega)|skip)|(refine zl ?_ ?_<;> intro hh)|refine zq ?_|refine zv ?_|refine zu ?_|exact Sy.fin_val fun e=>rfl);(try conv => whnf))))
                all_goals (refine zt 9 rfl ?_)
                all_goals ((conv => whnf);(repeat' ((first|refine zA ?_|(refine zI ?_ ?_<;> intro hh<;> first|(exfalso;omega)|skip)|(refine zl ?_ ?_<;> intro hh)|refine zq ?_|refine zv ?_|refine zu ?_|exact Sy.fin_val fun e=>rfl);(try conv => whnf))))
                all_goals (refine zt 10 rfl ?_)
                all_goals ((conv => whnf);(repeat' ((first|refine zA ?_|(refine zI ?_ ?_<;> intro hh<;> first|(exfalso;omega)|skip)|(refine zl ?_ ?_<;> intro hh)|refine zq ?_|refine zv ?_|refine zu ?_|exact Sy.fin_val fun e=>rfl);(try conv => whnf))))
                all_goals (refine zt 11 rfl ?_)
                all_goals ((conv => whnf);(repeat' ((first|refine zA ?_|(refine zI ?_ ?_<;> intro hh<;> first|(exfalso;omega)|skip)|(refine zl ?_ ?_<;> intro hh)|refine zq ?_|refine zv ?_|refine zu ?_|exact Sy.fin_val fun e=>rfl);(try conv => whnf))))
                all_goals (refine zd1 [12] (zx rfl ?_ zy))
                all_goals (conv => whnf)
                all_goals ((refine zA ?_;conv => whnf))
                all_goals (skip)
                all_goals (refine ⟨(by repeat' ((conv => whnf);first|exact trivial|(refine And.intro ?_ ?_)|rfl)), ?_⟩)
                all_goals (refine zt 13 rfl ?_)
                all_goals ((conv => whnf);(repeat' ((first|refine zA ?_|(refine zI ?_ ?_<;> intro hh<;> first|(exfalso;omega)|skip)|(refine zl ?_ ?_<;> intro hh)|refine zq ?_|refine zv ?_|refine zu ?_|exact Sy.fin_val fun e=>rfl);(try conv => whnf))))
                all_goals (refine zt 14 rfl ?_)
                all_goals ((conv => whnf);(repeat' ((first|refine zA ?_|(refine zI ?_ ?_<;> intro hh<;> first|(exfalso;omega)|skip)|(refine zl ?_ ?_<;> intro hh)|refine zq ?_|refine zv ?_|refine zu ?_|exact Sy.fin_val fun e=>rfl);(try conv => whnf))))
                all_goals (refine zw ?_)
                all_goals (((repeat' ((conv => whnf);(first|refine zA ?_|(refine zI ?_ ?_<;> intro hh<;> first|(exfalso;omega)|skip)|(refine zl ?_ ?_<;> intro hh)|refine zq ?_|refine zv ?_|refine zu ?_|exact Sy.fin_val fun e=>rfl)));(all_goals (try conv => whnf))))
                have hz : ((X.map encU).set (j) (Sy.splice (encU t) 0 [Value.int .u64 pv]))[0]? = some (encU pv) := set_at h0 (by omega) (fun _ => rfl)
                have hs : ((X.map encU).set (j) (Sy.splice (encU t) 0 [Value.int .u64 pv])).set 0 (Sy.splice (encU pv) 0 [Value.int .u64 t]) = ((X.set (j) pv).set 0 t).map encU := set_two X _ _ _ _
                have hdn := Parting.done hQ (by omega) ht
                refine Sy.draw_go [0] (by kernel_rfl) ?_
                intro e0
                conv => whnf
                refine zt 0 rfl ?_
                conv => whnf
                refine zt 1 rfl ?_
                conv => whnf
                refine zt 2 rfl ?_
                conv => whnf
                refine zt 3 rfl ?_
                conv => whnf
                refine zt 4 rfl ?_
                conv => whnf
                refine zt 5 rfl ?_
                conv => whnf
                refine zt 8 rfl ?_
                conv => whnf
                refine zt 9 rfl ?_
                conv => whnf
                focus
                  refine zd1 [6, 10] (zx rfl ?_ (zx rfl ?_ zy))
                  focus
                    conv => whnf
                    refine Sy.idx_nat (by omega) ?_
                    conv => whnf
                    refine ⟨(by repeat' ((conv => whnf);first|exact trivial|(refine And.intro ?_ ?_)|rfl)), ?_⟩
                    focus
                      refine zd1 [7, 10] (zx rfl ?_ (zx rfl ?_ zy))
                      focus
                        conv => whnf
                        refine Sy.el_map pv h0 ?_
                        conv => whnf
                        refine ⟨(by repeat' ((conv => whnf);first|exact trivial|(refine And.intro ?_ ?_)|rfl)), ?_⟩
                        refine zd1 [10] (zx rfl ?_ zy)
                        conv => whnf
                        refine Sy.idx_nat (by omega) ?_
                        conv => whnf
                        refine ⟨(by repeat' ((conv => whnf);first|exact trivial|(refine And.intro ?_ ?_)|rfl)), ?_⟩
                        refine zd1 [11] (zx rfl ?_ zy)
                        conv => whnf
                        refine Sy.el_map t ht ?_
                        conv => whnf
                        refine ⟨(by repeat' ((conv => whnf);first|exact trivial|(refine And.intro ?_ ?_)|rfl)), ?_⟩
                        refine zd1 [12] (zx rfl ?_ zy)
                        conv => whnf
                        refine Sy.idx_nat (by omega) ?_
                        conv => whnf
                        refine ⟨(by repeat' ((conv => whnf);first|exact trivial|(refine And.intro ?_ ?_)|rfl)), ?_⟩
                        refine zd1 [13] (zx rfl ?_ zy)
                        conv => whnf
                        refine Sy.el_map t ht ?_
                        conv => whnf
                        refine ⟨(by repeat' ((conv => whnf);first|exact trivial|(refine And.intro ?_ ?_)|rfl)), ?_⟩
                        refine zd1 [14] (zx rfl ?_ zy)
                        conv => whnf
                        refine Sy.idx_nat (by omega) ?_
                        conv => whnf
                        refine ⟨(by repeat' ((conv => whnf);first|exact trivial|(refine And.intro ?_ ?_)|rfl)), ?_⟩
                        refine zd1 [15] (zx rfl ?_ zy)
                        conv => whnf
                        refine Sy.el_of (encU pv) hz ?_
                        conv => whnf
                        refine ⟨(by repeat' ((conv => whnf);first|exact trivial|(refine And.intro ?_ ?_)|rfl)), ?_⟩
                        refine zw ?_
                        ((repeat' ((conv => whnf);(first|refine zA ?_|(refine zI ?_ ?_<;> intro hh<;> first|(exfalso;omega)|skip)|(refine zl ?_ ?_<;> intro hh)|refine zq ?_|refine zv ?_|refine zu ?_|exact Sy.fin_val fun e=>rfl)));(all_goals (try conv => whnf)))
                        exact Sy.fin_mutx (((X.set (j) pv).set 0 t), j, true) hdn (by show some (Blk.row 25 1 ds.length (.vs _)) = _; rw [hs]) (fun e => rfl)
                      rotate_right
                      focus
                        conv => whnf
                        refine Sy.idx_nat (by omega) ?_
                        conv => whnf
                        refine ⟨(by repeat' ((conv => whnf);first|exact trivial|(refine And.intro ?_ ?_)|rfl)), ?_⟩
                        focus
                          refine zd1 [7, 11] (zx rfl ?_ (zx rfl ?_ zy))
                          focus
                            conv => whnf
                            refine Sy.el_map pv h0 ?_
                            conv => whnf
                            refine ⟨(by repeat' ((conv => whnf);first|exact trivial|(refine And.intro ?_ ?_)|rfl)), ?_⟩
                            refine zd1 [11] (zx rfl ?_ zy)
                            conv => whnf
                            refine Sy.el_map t ht ?_
                            conv => whnf
                            refine ⟨(by repeat' ((conv => whnf);first|exact trivial|(refine And.intro ?_ ?_)|rfl)), ?_⟩
                            refine zd1 [12] (zx rfl ?_ zy)
                            conv => whnf
                            refine Sy.idx_nat (by omega) ?_
                            conv => whnf
                            refine ⟨(by repeat' ((conv => whnf);first|exact trivial|(refine And.intro ?_ ?_)|rfl)), ?_⟩
                            refine zd1 [13] (zx rfl ?_ zy)
                            conv => whnf
                            refine Sy.el_map t ht ?_
                            conv => whnf
                            refine ⟨(by repeat' ((conv => whnf);first|exact trivial|(refine And.intro ?_ ?_)|rfl)), ?_⟩
                            refine zd1 [14] (zx rfl ?_ zy)
                            conv => whnf
                            refine Sy.idx_nat (by omega) ?_
                            conv => whnf
                            refine ⟨(by repeat' ((conv => whnf);first|exact trivial|(refine And.intro ?_ ?_)|rfl)), ?_⟩
                            refine zd1 [15] (zx rfl ?_ zy)
                            conv => whnf
                            refine Sy.el_of (encU pv) hz ?_
                            conv => whnf
                            refine ⟨(by repeat' ((conv => whnf);first|exact trivial|(refine And.intro ?_ ?_)|rfl)), ?_⟩
                            refine zw ?_
                            ((repeat' ((conv => whnf);(first|refine zA ?_|(refine zI ?_ ?_<;> intro hh<;> first|(exfalso;omega)|skip)|(refine zl ?_ ?_<;> intro hh)|refine zq ?_|refine zv ?_|refine zu ?_|exact Sy.fin_val fun e=>rfl)));(all_goals (try conv => whnf)))
                            exact Sy.fin_mutx (((X.set (j) pv).set 0 t), j, true) hdn (by show some (Blk.row 25 1 ds.length (.vs _)) = _; rw [hs]) (fun e => rfl)
                          rotate_right
                          focus
                            conv => whnf
                            refine Sy.el_map t ht ?_
                            conv => whnf
                            refine ⟨(by repeat' ((conv => whnf);first|exact trivial|(refine And.intro ?_ ?_)|rfl)), ?_⟩
                            refine zd1 [7] (zx rfl ?_ zy)
                            conv => whnf
                            refine Sy.el_map pv h0 ?_
                            conv => whnf
                            refine ⟨(by repeat' ((conv => whnf);first|exact trivial|(refine And.intro ?_ ?_)|rfl)), ?_⟩
                            refine zd1 [12] (zx rfl ?_ zy)
                            conv => whnf
                            refine Sy.idx_nat (by omega) ?_
                            conv => whnf
                            refine ⟨(by repeat' ((conv => whnf);first|exact trivial|(refine And.intro ?_ ?_)|rfl)), ?_⟩
                            refine zd1 [13] (zx rfl ?_ zy)
                            conv => whnf
                            refine Sy.el_map t ht ?_
                            conv => whnf
                            refine ⟨(by repeat' ((conv => whnf);first|exact trivial|(refine And.intro ?_ ?_)|rfl)), ?_⟩
                            refine zd1 [14] (zx rfl ?_ zy)
                            conv => whnf
                            refine Sy.idx_nat (by omega) ?_
                            conv => whnf
                            refine ⟨(by repeat' ((conv => whnf);first|exact trivial|(refine And.intro ?_ ?_)|rfl)), ?_⟩
                            refine zd1 [15] (zx rfl ?_ zy)
                            conv => whnf
                            refine Sy.el_of (encU pv) hz ?_
                            conv => whnf
                            refine ⟨(by repeat' ((conv => whnf);first|exact trivial|(refine And.intro ?_ ?_)|rfl)), ?_⟩
                            refine zw ?_
                            ((repeat' ((conv => whnf);(first|refine zA ?_|(refine zI ?_ ?_<;> intro hh<;> first|(exfalso;omega)|skip)|(refine zl ?_ ?_<;> intro hh)|refine zq ?_|refine zv ?_|refine zu ?_|exact Sy.fin_val fun e=>rfl)));(all_goals (try conv => whnf)))
                            exact Sy.fin_mutx (((X.set (j) pv).set 0 t), j, true) hdn (by show some (Blk.row 25 1 ds.length (.vs _)) = _; rw [hs]) (fun e => rfl)
                  rotate_right
                  focus
                    conv => whnf
                    refine Sy.idx_nat (by omega) ?_
                    conv => whnf
                    refine ⟨(by repeat' ((conv => whnf);first|exact trivial|(refine And.intro ?_ ?_)|rfl)), ?_⟩
                    focus
                      refine zd1 [6, 11] (zx rfl ?_ (zx rfl ?_ zy))
                      focus
                        conv => whnf
                        refine Sy.idx_nat (by omega) ?_
                        conv => whnf
                        refine ⟨(by repeat' ((conv => whnf);first|exact trivial|(refine And.intro ?_ ?_)|rfl)), ?_⟩
                        focus
                          refine zd1 [7, 11] (zx rfl ?_ (zx rfl ?_ zy))
                          focus
                            conv => whnf
                            refine Sy.el_map pv h0 ?_
                            conv => whnf
                            refine ⟨(by repeat' ((conv => whnf);first|exact trivial|(refine And.intro ?_ ?_)|rfl)), ?_⟩
                            refine zd1 [11] (zx rfl ?_ zy)
                            conv => whnf
                            refine Sy.el_map t ht ?_
                            conv => whnf
                            refine ⟨(by repeat' ((conv => whnf);first|exact trivial|(refine And.intro ?_ ?_)|rfl)), ?_⟩
                            refine zd1 [12] (zx rfl ?_ zy)
                            conv => whnf
                            refine Sy.idx_nat (by omega) ?_
                            conv => whnf
                            refine ⟨(by repeat' ((conv => whnf);first|exact trivial|(refine And.intro ?_ ?_)|rfl)), ?_⟩
                            refine zd1 [13] (zx rfl ?_ zy)
                            conv => whnf
                            refine Sy.el_map t ht ?_
                            conv => whnf
                            refine ⟨(by repeat' ((conv => whnf);first|exact trivial|(refine And.intro ?_ ?_)|rfl)), ?_⟩
                            refine zd1 [14] (zx rfl ?_ zy)
                            conv => whnf
                            refine Sy.idx_nat (by omega) ?_
                            conv => whnf
                            refine ⟨(by repeat' ((conv => whnf);first|exact trivial|(refine And.intro ?_ ?_)|rfl)), ?_⟩
                            refine zd1 [15] (zx rfl ?_ zy)
                            conv => whnf
                            refine Sy.el_of (encU pv) hz ?_
                            conv => whnf
                            refine ⟨(by repeat' ((conv => whnf);first|exact trivial|(refine And.intro ?_ ?_)|rfl)), ?_⟩
                            refine zw ?_
                            ((repeat' ((conv => whnf);(first|refine zA ?_|(refine zI ?_ ?_<;> intro hh<;> first|(exfalso;omega)|skip)|(refine zl ?_ ?_<;> intro hh)|refine zq ?_|refine zv ?_|refine zu ?_|exact Sy.fin_val fun e=>rfl)));(all_goals (try conv => whnf)))
                            exact Sy.fin_mutx (((X.set (j) pv).set 0 t), j, true) hdn (by show some (Blk.row 25 1 ds.length (.vs _)) = _; rw [hs]) (fun e => rfl)
                          rotate_right
                          focus
                            conv => whnf
                            refine Sy.el_map t ht ?_
                            conv => whnf
                            refine ⟨(by repeat' ((conv => whnf);first|exact trivial|(refine And.intro ?_ ?_)|rfl)), ?_⟩
                            refine zd1 [7] (zx rfl ?_ zy)
                            conv => whnf
                            refine Sy.el_map pv h0 ?_
                            conv => whnf
                            refine ⟨(by repeat' ((conv => whnf);first|exact trivial|(refine And.intro ?_ ?_)|rfl)), ?_⟩
                            refine zd1 [12] (zx rfl ?_ zy)
                            conv => whnf
                            refine Sy.idx_nat (by omega) ?_
                            conv => whnf
                            refine ⟨(by repeat' ((conv => whnf);first|exact trivial|(refine And.intro ?_ ?_)|rfl)), ?_⟩
                            refine zd1 [13] (zx rfl ?_ zy)
                            conv => whnf
                            refine Sy.el_map t ht ?_
                            conv => whnf
                            refine ⟨(by repeat' ((conv => whnf);first|exact trivial|(refine And.intro ?_ ?_)|rfl)), ?_⟩
                            refine zd1 [14] (zx rfl ?_ zy)
                            conv => whnf
                            refine Sy.idx_nat (by omega) ?_
                            conv => whnf
                            refine ⟨(by repeat' ((conv => whnf);first|exact trivial|(refine And.intro ?_ ?_)|rfl)), ?_⟩
                            refine zd1 [15] (zx rfl ?_ zy)
                            conv => whnf
                            refine Sy.el_of (encU pv) hz ?_
                            conv => whnf
                            refine ⟨(by repeat' ((conv => whnf);first|exact trivial|(refine And.intro ?_ ?_)|rfl)), ?_⟩
                            refine zw ?_
                            ((repeat' ((conv => whnf);(first|refine zA ?_|(refine zI ?_ ?_<;> intro hh<;> first|(exfalso;omega)|skip)|(refine zl ?_ ?_<;> intro hh)|refine zq ?_|refine zv ?_|refine zu ?_|exact Sy.fin_val fun e=>rfl)));(all_goals (try conv => whnf)))
                            exact Sy.fin_mutx (((X.set (j) pv).set 0 t), j, true) hdn (by show some (Blk.row 25 1 ds.length (.vs _)) = _; rw [hs]) (fun e => rfl)
                      rotate_right
                      focus
                        conv => whnf
                        refine Sy.el_map t ht ?_
                        conv => whnf
                        refine ⟨(by repeat' ((conv => whnf);first|exact trivial|(refine And.intro ?_ ?_)|rfl)), ?_⟩
                        refine zd1 [6] (zx rfl ?_ zy)
                        conv => whnf
                        refine Sy.idx_nat (by omega) ?_
                        conv => whnf
                        refine ⟨(by repeat' ((conv => whnf);first|exact trivial|(refine And.intro ?_ ?_)|rfl)), ?_⟩
                        refine zd1 [7] (zx rfl ?_ zy)
                        conv => whnf
                        refine Sy.el_map pv h0 ?_
                        conv => whnf
                        refine ⟨(by repeat' ((conv => whnf);first|exact trivial|(refine And.intro ?_ ?_)|rfl)), ?_⟩
                        refine zd1 [12] (zx rfl ?_ zy)
                        conv => whnf
                        refine Sy.idx_nat (by omega) ?_
                        conv => whnf
                        refine ⟨(by repeat' ((conv => whnf);first|exact trivial|(refine And.intro ?_ ?_)|rfl)), ?_⟩
                        refine zd1 [13] (zx rfl ?_ zy)
                        conv => whnf
                        refine Sy.el_map t ht ?_
                        conv => whnf
                        refine ⟨(by repeat' ((conv => whnf);first|exact trivial|(refine And.intro ?_ ?_)|rfl)), ?_⟩
                        refine zd1 [14] (zx rfl ?_ zy)
                        conv => whnf
                        refine Sy.idx_nat (by omega) ?_
                        conv => whnf
                        refine ⟨(by repeat' ((conv => whnf);first|exact trivial|(refine And.intro ?_ ?_)|rfl)), ?_⟩
                        refine zd1 [15] (zx rfl ?_ zy)
                        conv => whnf
                        refine Sy.el_of (encU pv) hz ?_
                        conv => whnf
                        refine ⟨(by repeat' ((conv => whnf);first|exact trivial|(refine And.intro ?_ ?_)|rfl)), ?_⟩
                        refine zw ?_
                        ((repeat' ((conv => whnf);(first|refine zA ?_|(refine zI ?_ ?_<;> intro hh<;> first|(exfalso;omega)|skip)|(refine zl ?_ ?_<;> intro hh)|refine zq ?_|refine zv ?_|refine zu ?_|exact Sy.fin_val fun e=>rfl)));(all_goals (try conv => whnf)))
                        exact Sy.fin_mutx (((X.set (j) pv).set 0 t), j, true) hdn (by show some (Blk.row 25 1 ds.length (.vs _)) = _; rw [hs]) (fun e => rfl)
        · have hd : decide ((i : Int) ≤ ((ds.length - 1 : Nat) : Int)) = false := decide_eq_false (by omega)
          have h0 := hP.at_
          have hle := hP.le
          ((repeat' ((conv => whnf);(first|refine zA ?_|(refine zI ?_ ?_<;> intro hh<;> first|(exfalso;omega)|skip)|(refine zl ?_ ?_<;> intro hh)|refine zq ?_|refine zv ?_|refine zu ?_|exact Sy.fin_val fun e=>rfl)));(all_goals (try conv => whnf)))
          all_goals (refine Sy.draw_go [] (by kernel_rfl) ?_; intro e0; conv => whnf)
          all_goals (refine zt 0 rfl ?_)
          all_goals (conv => whnf)
          all_goals (refine zt 1 rfl ?_)
          all_goals (conv => whnf)
          all_goals (refine zt 2 rfl ?_)
          all_goals ((conv => whnf);(repeat' ((first|refine zA ?_|(refine zI ?_ ?_<;> intro hh<;> first|(exfalso;omega)|skip)|(refine zl ?_ ?_<;> intro hh)|refine zq ?_|refine zv ?_|refine zu ?_|exact Sy.fin_val fun e=>rfl);(try conv => whnf))))
          all_goals (refine zt 3 rfl ?_)
          all_goals (conv => whnf)
          all_goals (refine zt 4 rfl ?_)
          all_goals ((conv => whnf);(repeat' ((first|refine zA ?_|(refine zI ?_ ?_<;> intro hh<;> first|(exfalso;omega)|skip)|(refine zl ?_ ?_<;> intro hh)|refine zq ?_|refine zv ?_|refine zu ?_|exact Sy.fin_val fun e=>rfl);(try conv => whnf))))
          all_goals (refine zt 5 rfl ?_)
          all_goals ((conv => whnf);(repeat' ((first|refine zA ?_|(refine zI ?_ ?_<;> intro hh<;> first|(exfalso;omega)|skip)|(refine zl ?_ ?_<;> intro hh)|refine zq ?_|refine zv ?_|refine zu ?_|exact Sy.fin_val fun e=>rfl);(try conv => whnf))))
          all_goals (refine zt 6 rfl ?_)
          all_goals ((conv => whnf);(repeat' ((first|refine zA ?_|(refine zI ?_ ?_<;> intro hh<;> first|(exfalso;omega)|skip)|(refine zl ?_ ?_<;> intro hh)|refine zq ?_|refine zv ?_|refine zu ?_|exact Sy.fin_val fun e=>rfl);(try conv => whnf))))
          all_goals (refine zt 7 rfl ?_)
          all_goals ((conv => whnf);(repeat' ((first|refine zA ?_|(refine zI ?_ ?_<;> intro hh<;> first|(exfalso;omega)|skip)|(refine zl ?_ ?_<;> intro hh)|refine zq ?_|refine zv ?_|refine zu ?_|exact Sy.fin_val fun e=>rfl);(try conv => whnf))))
          all_goals (refine zt 8 rfl ?_)
          all_goals ((conv => whnf);(repeat' ((first|refine zA ?_|(refine zI ?_ ?_<;> intro hh<;> first|(exfalso;omega)|skip)|(refine zl ?_ ?_<;> intro hh)|refine zq ?_|refine zv ?_|refine zu ?_|exact Sy.fin_val fun e=>rfl);(try conv => whnf))))
          all_goals (refine zt 9 rfl ?_)
          all_goals ((conv => whnf);(repeat' ((first|refine zA ?_|(refine zI ?_ ?_<;> intro hh<;> first|(exfalso;omega)|skip)|(refine zl ?_ ?_<;> intro hh)|refine zq ?_|refine zv ?_|refine zu ?_|exact Sy.fin_val fun e=>rfl);(try conv => whnf))))
          all_goals (refine zt 10 rfl ?_)
          all_goals ((conv => whnf);(repeat' ((first|refine zA ?_|(refine zI ?_ ?_<;> intro hh<;> first|(exfalso;omega)|skip)|(refine zl ?_ ?_<;> intro hh)|refine zq ?_|refine zv ?_|refine zu ?_|exact Sy.fin_val fun e=>rfl);(try conv => whnf))))
          all_goals (refine zt 11 rfl ?_)
          all_goals ((conv => whnf);(repeat' ((first|refine zA ?_|(refine zI ?_ ?_<;> intro hh<;> first|(exfalso;omega)|skip)|(refine zl ?_ ?_<;> intro hh)|refine zq ?_|refine zv ?_|refine zu ?_|exact Sy.fin_val fun e=>rfl);(try conv => whnf))))
          all_goals (refine zd1 [12] (zx rfl ?_ zy))
          all_goals (conv => whnf)
          all_goals ((refine zA ?_;conv => whnf))
          all_goals (skip)
          all_goals (refine ⟨(by repeat' ((conv => whnf);first|exact trivial|(refine And.intro ?_ ?_)|rfl)), ?_⟩)
          all_goals (refine zt 13 rfl ?_)
          all_goals ((conv => whnf);(repeat' ((first|refine zA ?_|(refine zI ?_ ?_<;> intro hh<;> first|(exfalso;omega)|skip)|(refine zl ?_ ?_<;> intro hh)|refine zq ?_|refine zv ?_|refine zu ?_|exact Sy.fin_val fun e=>rfl);(try conv => whnf))))
          all_goals (refine zw ?_)
          all_goals (((repeat' ((conv => whnf);(first|refine zA ?_|(refine zI ?_ ?_<;> intro hh<;> first|(exfalso;omega)|skip)|(refine zl ?_ ?_<;> intro hh)|refine zq ?_|refine zv ?_|refine zu ?_|exact Sy.fin_val fun e=>rfl)));(all_goals (try conv => whnf))))
          obtain ⟨t, ht⟩ : ∃ t, X[(ds.length - 1)]? = some t := ⟨X[(ds.length - 1)], List.getElem?_eq_getElem (by omega)⟩
          refine Sy.loop_rounds 1 (Sy.loop_round Sy.tab_ok ?_)
          ((repeat' ((conv => whnf);(first|refine zA ?_|(refine zI ?_ ?_<;> intro hh<;> first|(exfalso;omega)|skip)|(refine zl ?_ ?_<;> intro hh)|refine zq ?_|refine zv ?_|refine zu ?_|exact Sy.fin_val fun e=>rfl)));(all_goals (try conv => whnf)))
          all_goals (refine Sy.draw_go [] (by kernel_rfl) ?_; intro e0; conv => whnf)
          all_goals (refine zt 0 rfl ?_)
          all_goals (conv => whnf)
          all_goals (refine zt 1 rfl ?_)
          all_goals (conv => whnf)
          all_goals (refine zt 2 rfl ?_)
          all_goals ((conv => whnf);(repeat' ((first|refine zA ?_|(refine zI ?_ ?_<;> intro hh<;> first|(exfalso;omega)|skip)|(refine zl ?_ ?_<;> intro hh)|refine zq ?_|refine zv ?_|refine zu ?_|exact Sy.fin_val fun e=>rfl);(try conv => whnf))))
          all_goals (refine zt 3 rfl ?_)
          all_goals (conv => whnf)
          all_goals (refine zt 4 rfl ?_)
          all_goals ((conv => whnf);(repeat' ((first|refine zA ?_|(refine zI ?_ ?_<;> intro hh<;> first|(exfalso;omega)|skip)|(refine zl ?_ ?_<;> intro hh)|refine zq ?_|refine zv ?_|refine zu ?_|exact Sy.fin_val fun e=>rfl);(try conv => whnf))))
          all_goals (refine zt 5 rfl ?_)
          all_goals ((conv => whnf);(repeat' ((first|refine zA ?_|(refine zI ?_ ?_<;> intro hh<;> first|(exfalso;omega)|skip)|(refine zl ?_ ?_<;> intro hh)|refine zq ?_|refine zv ?_|refine zu ?_|exact Sy.fin_val fun e=>rfl);(try conv => whnf))))
          all_goals (refine zt 6 rfl ?_)
          all_goals ((conv => whnf);(repeat' ((first|refine zA ?_|(refine zI ?_ ?_<;> intro hh<;> first|(exfalso;omega)|skip)|(refine zl ?_ ?_<;> intro hh)|refine zq ?_|refine zv ?_|refine zu ?_|exact Sy.fin_val fun e=>rfl);(try conv => whnf))))
          all_goals (refine zt 7 rfl ?_)
          all_goals ((conv => whnf);(repeat' ((first|refine zA ?_|(refine zI ?_ ?_<;> intro hh<;> first|(exfalso;omega)|skip)|(refine zl ?_ ?_<;> intro hh)|refine zq ?_|refine zv ?_|refine zu ?_|exact Sy.fin_val fun e=>rfl);(try conv => whnf))))
          all_goals (refine zt 8 rfl ?_)
          all_goals ((conv => whnf);(repeat' ((first|refine zA ?_|(refine zI ?_ ?_<;> intro hh<;> first|(exfalso;omega)|skip)|(refine zl ?_ ?_<;> intro hh)|refine zq ?_|refine zv ?_|refine zu ?_|exact Sy.fin_val fun e=>rfl);(try conv => whnf))))
          all_goals (refine zt 9 rfl ?_)
          all_goals ((conv => whnf);(repeat' ((first|refine zA ?_|(refine zI ?_ ?_<;> intro hh<;> first|(exfalso;omega)|skip)|(refine zl ?_ ?_<;> intro hh)|refine zq ?_|refine zv ?_|refine zu ?_|exact Sy.fin_val fun e=>rfl);(try conv => whnf))))
          all_goals (refine zt 10 rfl ?_)
          all_goals ((conv => whnf);(repeat' ((first|refine zA ?_|(refine zI ?_ ?_<;> intro hh<;> first|(exfalso;omega)|skip)|(refine zl ?_ ?_<;> intro hh)|refine zq ?_|refine zv ?_|refine zu ?_|exact Sy.fin_val fun e=>rfl);(try conv => whnf))))
          all_goals (refine zt 11 rfl ?_)
          all_goals ((conv => whnf);(repeat' ((first|refine zA ?_|(refine zI ?_ ?_<;> intro hh<;> first|(exfalso;omega)|skip)|(refine zl ?_ ?_<;> intro hh)|refine zq ?_|refine zv ?_|refine zu ?_|exact Sy.fin_val fun e=>rfl);(try conv => whnf))))
          all_goals (refine zd1 [12] (zx rfl ?_ zy))
          all_goals (conv => whnf)
          all_goals ((refine zA ?_;conv => whnf))
          all_goals (skip)
          all_goals (refine ⟨(by repeat' ((conv => whnf);first|exact trivial|(refine And.intro ?_ ?_)|rfl)), ?_⟩)
          all_goals (refine zt 13 rfl ?_)
          all_goals ((conv => whnf);(repeat' ((first|refine zA ?_|(refine zI ?_ ?_<;> intro hh<;> first|(exfalso;omega)|skip)|(refine zl ?_ ?_<;> intro hh)|refine zq ?_|refine zv ?_|refine zu ?_|exact Sy.fin_val fun e=>rfl);(try conv => whnf))))
          all_goals (refine zt 14 rfl ?_)
          all_goals ((conv => whnf);(repeat' ((first|refine zA ?_|(refine zI ?_ ?_<;> intro hh<;> first|(exfalso;omega)|skip)|(refine zl ?_ ?_<;> intro hh)|refine zq ?_|refine zv ?_|refine zu ?_|exact Sy.fin_val fun e=>rfl);(try conv => whnf))))
          all_goals (refine zw ?_)
          all_goals (((repeat' ((conv => whnf);(first|refine zA ?_|(refine zI ?_ ?_<;> intro hh<;> first|(exfalso;omega)|skip)|(refine zl ?_ ?_<;> intro hh)|refine zq ?_|refine zv ?_|refine zu ?_|exact Sy.fin_val fun e=>rfl)));(all_goals (try conv => whnf))))
          have hz : ((X.map encU).set ((ds.length - 1)) (Sy.splice (encU t) 0 [Value.int .u64 pv]))[0]? = some (encU pv) := set_at h0 (by omega) (fun _ => rfl)
          have hs : ((X.map encU).set ((ds.length - 1)) (Sy.splice (encU t) 0 [Value.int .u64 pv])).set 0 (Sy.splice (encU pv) 0 [Value.int .u64 t]) = ((X.set ((ds.length - 1)) pv).set 0 t).map encU := set_two X _ _ _ _
          have hdn := Parting.done hP (by omega) ht
          refine Sy.draw_go [0] (by kernel_rfl) ?_
          intro e0
          conv => whnf
          refine zt 0 rfl ?_
          conv => whnf
          refine zt 1 rfl ?_
          conv => whnf
          refine zt 2 rfl ?_
          conv => whnf
          refine zt 3 rfl ?_
          conv => whnf
          refine zt 4 rfl ?_
          conv => whnf
          refine zt 5 rfl ?_
          conv => whnf
          refine zt 8 rfl ?_
          conv => whnf
          refine zt 9 rfl ?_
          conv => whnf
          focus
            refine zd1 [6, 10] (zx rfl ?_ (zx rfl ?_ zy))
            focus
              conv => whnf
              refine Sy.idx_nat (by omega) ?_
              conv => whnf
              refine ⟨(by repeat' ((conv => whnf);first|exact trivial|(refine And.intro ?_ ?_)|rfl)), ?_⟩
              focus
                refine zd1 [7, 10] (zx rfl ?_ (zx rfl ?_ zy))
                focus
                  conv => whnf
                  refine Sy.el_map pv h0 ?_
                  conv => whnf
                  refine ⟨(by repeat' ((conv => whnf);first|exact trivial|(refine And.intro ?_ ?_)|rfl)), ?_⟩
                  refine zd1 [10] (zx rfl ?_ zy)
                  conv => whnf
                  refine Sy.idx_nat (by omega) ?_
                  conv => whnf
                  refine ⟨(by repeat' ((conv => whnf);first|exact trivial|(refine And.intro ?_ ?_)|rfl)), ?_⟩
                  refine zd1 [11] (zx rfl ?_ zy)
                  conv => whnf
                  refine Sy.el_map t ht ?_
                  conv => whnf
                  refine ⟨(by repeat' ((conv => whnf);first|exact trivial|(refine And.intro ?_ ?_)|rfl)), ?_⟩
                  refine zd1 [12] (zx rfl ?_ zy)
                  conv => whnf
                  refine Sy.idx_nat (by omega) ?_
                  conv => whnf
                  refine ⟨(by repeat' ((conv => whnf);first|exact trivial|(refine And.intro ?_ ?_)|rfl)), ?_⟩
                  refine zd1 [13] (zx rfl ?_ zy)
                  conv => whnf
                  refine Sy.el_map t ht ?_
                  conv => whnf
                  refine ⟨(by repeat' ((conv => whnf);first|exact trivial|(refine And.intro ?_ ?_)|rfl)), ?_⟩
                  refine zd1 [14] (zx rfl ?_ zy)
                  conv => whnf
                  refine Sy.idx_nat (by omega) ?_
                  conv => whnf
                  refine ⟨(by repeat' ((conv => whnf);first|exact trivial|(refine And.intro ?_ ?_)|rfl)), ?_⟩
                  refine zd1 [15] (zx rfl ?_ zy)
                  conv => whnf
                  refine Sy.el_of (encU pv) hz ?_
                  conv => whnf
                  refine ⟨(by repeat' ((conv => whnf);first|exact trivial|(refine And.intro ?_ ?_)|rfl)), ?_⟩
                  refine zw ?_
                  ((repeat' ((conv => whnf);(first|refine zA ?_|(refine zI ?_ ?_<;> intro hh<;> first|(exfalso;omega)|skip)|(refine zl ?_ ?_<;> intro hh)|refine zq ?_|refine zv ?_|refine zu ?_|exact Sy.fin_val fun e=>rfl)));(all_goals (try conv => whnf)))
                  exact Sy.fin_mutx (((X.set ((ds.length - 1)) pv).set 0 t), (ds.length - 1), true) hdn (by show some (Blk.row 25 1 ds.length (.vs _)) = _; rw [hs]) (fun e => rfl)
                rotate_right
                focus
                  conv => whnf
                  refine Sy.idx_nat (by omega) ?_
                  conv => whnf
                  refine ⟨(by repeat' ((conv => whnf);first|exact trivial|(refine And.intro ?_ ?_)|rfl)), ?_⟩
                  focus
                    refine zd1 [7, 11] (zx rfl ?_ (zx rfl ?_ zy))
                    focus
                      conv => whnf
                      refine Sy.el_map pv h0 ?_
                      conv => whnf
                      refine ⟨(by repeat' ((conv => whnf);first|exact trivial|(refine And.intro ?_ ?_)|rfl)), ?_⟩
                      refine zd1 [11] (zx rfl ?_ zy)
                      conv => whnf
                      refine Sy.el_map t ht ?_
                      conv => whnf
                      refine ⟨(by repeat' ((conv => whnf);first|exact trivial|(refine And.intro ?_ ?_)|rfl)), ?_⟩
                      refine zd1 [12] (zx rfl ?_ zy)
                      conv => whnf
                      refine Sy.idx_nat (by omega) ?_
                      conv => whnf
                      refine ⟨(by repeat' ((conv => whnf);first|exact trivial|(refine And.intro ?_ ?_)|rfl)), ?_⟩
                      refine zd1 [13] (zx rfl ?_ zy)
                      conv => whnf
                      refine Sy.el_map t ht ?_
                      conv => whnf
                      refine ⟨(by repeat' ((conv => whnf);first|exact trivial|(refine And.intro ?_ ?_)|rfl)), ?_⟩
                      refine zd1 [14] (zx rfl ?_ zy)
                      conv => whnf
                      refine Sy.idx_nat (by omega) ?_
                      conv => whnf
                      refine ⟨(by repeat' ((conv => whnf);first|exact trivial|(refine And.intro ?_ ?_)|rfl)), ?_⟩
                      refine zd1 [15] (zx rfl ?_ zy)
                      conv => whnf
                      refine Sy.el_of (encU pv) hz ?_
                      conv => whnf
                      refine ⟨(by repeat' ((conv => whnf);first|exact trivial|(refine And.intro ?_ ?_)|rfl)), ?_⟩
                      refine zw ?_
                      ((repeat' ((conv => whnf);(first|refine zA ?_|(refine zI ?_ ?_<;> intro hh<;> first|(exfalso;omega)|skip)|(refine zl ?_ ?_<;> intro hh)|refine zq ?_|refine zv ?_|refine zu ?_|exact Sy.fin_val fun e=>rfl)));(all_goals (try conv => whnf)))
                      exact Sy.fin_mutx (((X.set ((ds.length - 1)) pv).set 0 t), (ds.length - 1), true) hdn (by show some (Blk.row 25 1 ds.length (.vs _)) = _; rw [hs]) (fun e => rfl)
                    rotate_right
                    focus
                      conv => whnf
                      refine Sy.el_map t ht ?_
                      conv => whnf
                      refine ⟨(by repeat' ((conv => whnf);first|exact trivial|(refine And.intro ?_ ?_)|rfl)), ?_⟩
                      refine zd1 [7] (zx rfl ?_ zy)
                      conv => whnf
                      refine Sy.el_map pv h0 ?_
                      conv => whnf
                      refine ⟨(by repeat' ((conv => whnf);first|exact trivial|(refine And.intro ?_ ?_)|rfl)), ?_⟩
                      refine zd1 [12] (zx rfl ?_ zy)
                      conv => whnf
                      refine Sy.idx_nat (by omega) ?_
                      conv => whnf
                      refine ⟨(by repeat' ((conv => whnf);first|exact trivial|(refine And.intro ?_ ?_)|rfl)), ?_⟩
                      refine zd1 [13] (zx rfl ?_ zy)
                      conv => whnf
                      refine Sy.el_map t ht ?_
                      conv => whnf
                      refine ⟨(by repeat' ((conv => whnf);first|exact trivial|(refine And.intro ?_ ?_)|rfl)), ?_⟩
                      refine zd1 [14] (zx rfl ?_ zy)
                      conv => whnf
                      refine Sy.idx_nat (by omega) ?_
                      conv => whnf
                      refine ⟨(by repeat' ((conv => whnf);first|exact trivial|(refine And.intro ?_ ?_)|rfl)), ?_⟩
                      refine zd1 [15] (zx rfl ?_ zy)
                      conv => whnf
                      refine Sy.el_of (encU pv) hz ?_
                      conv => whnf
                      refine ⟨(by repeat' ((conv => whnf);first|exact trivial|(refine And.intro ?_ ?_)|rfl)), ?_⟩
                      refine zw ?_
                      ((repeat' ((conv => whnf);(first|refine zA ?_|(refine zI ?_ ?_<;> intro hh<;> first|(exfalso;omega)|skip)|(refine zl ?_ ?_<;> intro hh)|refine zq ?_|refine zv ?_|refine zu ?_|exact Sy.fin_val fun e=>rfl)));(all_goals (try conv => whnf)))
                      exact Sy.fin_mutx (((X.set ((ds.length - 1)) pv).set 0 t), (ds.length - 1), true) hdn (by show some (Blk.row 25 1 ds.length (.vs _)) = _; rw [hs]) (fun e => rfl)
            rotate_right
            focus
              conv => whnf
              refine Sy.idx_nat (by omega) ?_
              conv => whnf
              refine ⟨(by repeat' ((conv => whnf);first|exact trivial|(refine And.intro ?_ ?_)|rfl)), ?_⟩
              focus
                refine zd1 [6, 11] (zx rfl ?_ (zx rfl ?_ zy))
                focus
                  conv => whnf
                  refine Sy.idx_nat (by omega) ?_
                  conv => whnf
                  refine ⟨(by repeat' ((conv => whnf);first|exact trivial|(refine And.intro ?_ ?_)|rfl)), ?_⟩
                  focus
                    refine zd1 [7, 11] (zx rfl ?_ (zx rfl ?_ zy))
                    focus
                      conv => whnf
                      refine Sy.el_map pv h0 ?_
                      conv => whnf
                      refine ⟨(by repeat' ((conv => whnf);first|exact trivial|(refine And.intro ?_ ?_)|rfl)), ?_⟩
                      refine zd1 [11] (zx rfl ?_ zy)
                      conv => whnf
                      refine Sy.el_map t ht ?_
                      conv => whnf
                      refine ⟨(by repeat' ((conv => whnf);first|exact trivial|(refine And.intro ?_ ?_)|rfl)), ?_⟩
                      refine zd1 [12] (zx rfl ?_ zy)
                      conv => whnf
                      refine Sy.idx_nat (by omega) ?_
                      conv => whnf
                      refine ⟨(by repeat' ((conv => whnf);first|exact trivial|(refine And.intro ?_ ?_)|rfl)), ?_⟩
                      refine zd1 [13] (zx rfl ?_ zy)
                      conv => whnf
                      refine Sy.el_map t ht ?_
                      conv => whnf
                      refine ⟨(by repeat' ((conv => whnf);first|exact trivial|(refine And.intro ?_ ?_)|rfl)), ?_⟩
                      refine zd1 [14] (zx rfl ?_ zy)
                      conv => whnf
                      refine Sy.idx_nat (by omega) ?_
                      conv => whnf
                      refine ⟨(by repeat' ((conv => whnf);first|exact trivial|(refine And.intro ?_ ?_)|rfl)), ?_⟩
                      refine zd1 [15] (zx rfl ?_ zy)
                      conv => whnf
                      refine Sy.el_of (encU pv) hz ?_
                      conv => whnf
                      refine ⟨(by repeat' ((conv => whnf);first|exact trivial|(refine And.intro ?_ ?_)|rfl)), ?_⟩
                      refine zw ?_
                      ((repeat' ((conv => whnf);(first|refine zA ?_|(refine zI ?_ ?_<;> intro hh<;> first|(exfalso;omega)|skip)|(refine zl ?_ ?_<;> intro hh)|refine zq ?_|refine zv ?_|refine zu ?_|exact Sy.fin_val fun e=>rfl)));(all_goals (try conv => whnf)))
                      exact Sy.fin_mutx (((X.set ((ds.length - 1)) pv).set 0 t), (ds.length - 1), true) hdn (by show some (Blk.row 25 1 ds.length (.vs _)) = _; rw [hs]) (fun e => rfl)
                    rotate_right
                    focus
                      conv => whnf
                      refine Sy.el_map t ht ?_
                      conv => whnf
                      refine ⟨(by repeat' ((conv => whnf);first|exact trivial|(refine And.intro ?_ ?_)|rfl)), ?_⟩
                      refine zd1 [7] (zx rfl ?_ zy)
                      conv => whnf
                      refine Sy.el_map pv h0 ?_
                      conv => whnf
                      refine ⟨(by repeat' ((conv => whnf);first|exact trivial|(refine And.intro ?_ ?_)|rfl)), ?_⟩
                      refine zd1 [12] (zx rfl ?_ zy)
                      conv => whnf
                      refine Sy.idx_nat (by omega) ?_
                      conv => whnf
                      refine ⟨(by repeat' ((conv => whnf);first|exact trivial|(refine And.intro ?_ ?_)|rfl)), ?_⟩
                      refine zd1 [13] (zx rfl ?_ zy)
                      conv => whnf
                      refine Sy.el_map t ht ?_
                      conv => whnf
                      refine ⟨(by repeat' ((conv => whnf);first|exact trivial|(refine And.intro ?_ ?_)|rfl)), ?_⟩
                      refine zd1 [14] (zx rfl ?_ zy)
                      conv => whnf
                      refine Sy.idx_nat (by omega) ?_
                      conv => whnf
                      refine ⟨(by repeat' ((conv => whnf);first|exact trivial|(refine And.intro ?_ ?_)|rfl)), ?_⟩
                      refine zd1 [15] (zx rfl ?_ zy)
                      conv => whnf
                      refine Sy.el_of (encU pv) hz ?_
                      conv => whnf
                      refine ⟨(by repeat' ((conv => whnf);first|exact trivial|(refine And.intro ?_ ?_)|rfl)), ?_⟩
                      refine zw ?_
                      ((repeat' ((conv => whnf);(first|refine zA ?_|(refine zI ?_ ?_<;> intro hh<;> first|(exfalso;omega)|skip)|(refine zl ?_ ?_<;> intro hh)|refine zq ?_|refine zv ?_|refine zu ?_|exact Sy.fin_val fun e=>rfl)));(all_goals (try conv => whnf)))
                      exact Sy.fin_mutx (((X.set ((ds.length - 1)) pv).set 0 t), (ds.length - 1), true) hdn (by show some (Blk.row 25 1 ds.length (.vs _)) = _; rw [hs]) (fun e => rfl)
                rotate_right
                focus
                  conv => whnf
                  refine Sy.el_map t ht ?_
                  conv => whnf
                  refine ⟨(by repeat' ((conv => whnf);first|exact trivial|(refine And.intro ?_ ?_)|rfl)), ?_⟩
                  refine zd1 [6] (zx rfl ?_ zy)
                  conv => whnf
                  refine Sy.idx_nat (by omega) ?_
                  conv => whnf
                  refine ⟨(by repeat' ((conv => whnf);first|exact trivial|(refine And.intro ?_ ?_)|rfl)), ?_⟩
                  refine zd1 [7] (zx rfl ?_ zy)
                  conv => whnf
                  refine Sy.el_map pv h0 ?_
                  conv => whnf
                  refine ⟨(by repeat' ((conv => whnf);first|exact trivial|(refine And.intro ?_ ?_)|rfl)), ?_⟩
                  refine zd1 [12] (zx rfl ?_ zy)
                  conv => whnf
                  refine Sy.idx_nat (by omega) ?_
                  conv => whnf
                  refine ⟨(by repeat' ((conv => whnf);first|exact trivial|(refine And.intro ?_ ?_)|rfl)), ?_⟩
                  refine zd1 [13] (zx rfl ?_ zy)
                  conv => whnf
                  refine Sy.el_map t ht ?_
                  conv => whnf
                  refine ⟨(by repeat' ((conv => whnf);first|exact trivial|(refine And.intro ?_ ?_)|rfl)), ?_⟩
                  refine zd1 [14] (zx rfl ?_ zy)
                  conv => whnf
                  refine Sy.idx_nat (by omega) ?_
                  conv => whnf
                  refine ⟨(by repeat' ((conv => whnf);first|exact trivial|(refine And.intro ?_ ?_)|rfl)), ?_⟩
                  refine zd1 [15] (zx rfl ?_ zy)
                  conv => whnf
                  refine Sy.el_of (encU pv) hz ?_
                  conv => whnf
                  refine ⟨(by repeat' ((conv => whnf);first|exact trivial|(refine And.intro ?_ ?_)|rfl)), ?_⟩
                  refine zw ?_
                  ((repeat' ((conv => whnf);(first|refine zA ?_|(refine zI ?_ ?_<;> intro hh<;> first|(exfalso;omega)|skip)|(refine zl ?_ ?_<;> intro hh)|refine zq ?_|refine zv ?_|refine zu ?_|exact Sy.fin_val fun e=>rfl)));(all_goals (try conv => whnf)))
                  exact Sy.fin_mutx (((X.set ((ds.length - 1)) pv).set 0 t), (ds.length - 1), true) hdn (by show some (Blk.row 25 1 ds.length (.vs _)) = _; rw [hs]) (fun e => rfl)
end Go.Proofs.Ytkmdmjnbjoakbaa
