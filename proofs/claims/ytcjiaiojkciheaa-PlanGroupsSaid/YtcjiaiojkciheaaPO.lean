/- Plan: the document's Chans. -/
import Derived.Test.YtcjiaiojkciheaaPN
import Derived.Test.YtcjiaiojkciheaaPD
namespace Go.Proofs.Ytcjiaiojkciheaa
open Go Go.RowKit
open Sy (C SV V1 Blk St XD Els)
set_option maxRecDepth 10000

theorem com_nil {g : List Opr} {a b : Nat × Nat} (ha : widN g a.1 < 4 ∧ a.2 < 3) (hb : widN g b.1 < 4 ∧ b.2 < 3) : bothOf g a b = 0 ↔ (comN g a b 8).length = 0 := by
  have h := both_nil _ ha.1 _ ha.2 _ hb.1 _ hb.2
  unfold bothOf comN
  rw [List.length_map, h]
  exact List.length_eq_zero_iff.symm
attribute [local irreducible] subN comN chN
set_option maxHeartbeats 2000000 in
theorem rchans_any (v : Value) (gl : List OpV) (w : World) (hr : GOk (fun b => b < w.heap.size) w v gl) (hlen : gl.length ≤ 100) (hg : goodTo (opsOf gl) gl.length) :
    Calls Try.prog 28 #[.agg #[v]] w (Sy.RetRows Sy.noRow (fun _ : Unit => True) (fun _ => [⟨58, 2, (chansL (opsOf gl)).length, (chansL (opsOf gl)).map encS⟩]) (fun _ vs => vs.headD undef) w) := by
  have hol := opsOf_len gl
  have hg' : goodTo (opsOf gl) (opsOf gl).length := by rw [hol]; exact hg
  have hLlen := subsL_len hg'
  rw [hol] at hLlen
  obtain ⟨L, hL⟩ : ∃ L, L = subsL (opsOf gl) := ⟨_, rfl⟩
  have hmem : ∀ s ∈ L, s.1 < gl.length ∧ s.2 < widN (opsOf gl) s.1 ∧ widN (opsOf gl) s.1 ≤ 3 := fun s hs => by
    rw [hL] at hs
    have h1 := subsL_mem hg' hs
    have h2 := widN_good hg' h1.1 (List.getElem?_eq_getElem h1.1)
    exact ⟨by omega, h1.2, h2.2.2⟩
  have hch : chansL (opsOf gl) = chN (opsOf gl) L L.length 0 := by rw [hL]; rfl
  rw [hch]
  rw [← hL] at hLlen
  refine Sy.calls_of Sy.lv28 Sy.tab_ok Try.func28 rfl _ Try.ntmps28 [⟨v, 5, gl.length, gl.map encOV⟩] [.agg [.row 0]] rfl rfl rfl ⟨hr.1, trivial⟩ ?_
  ((repeat' ((conv => whnf);(first|refine z1 ?_|refine z2 ?_|refine z3 ?_|refine z4 ?_|refine z5 ?_|refine z6 ?_|refine z7 ?_|refine z8 ?_|refine z9 ?_|refine za ?_|refine zb ?_|refine zc ?_|refine zd ?_|refine ze ?_|refine zf ?_|refine zg ?_|refine zh ?_|((first|refine zi ?_ ?_|refine zj ?_ ?_|refine zk ?_ ?_)<;> intro hh <;> first|(exfalso;omega)|skip)|(refine zl ?_ ?_<;> intro hh)|refine zm ?_|refine zn ?_|refine zo ?_|refine zp ?_|refine zq ?_|refine zv ?_|refine zr ?_|refine zs _ rfl ?_|exact Sy.fin_val (fun e=>rfl))));(all_goals (try conv => whnf)))
  refine Sy.call_r1 ⟨43, 2, (subsL (opsOf gl)).length, (subsL (opsOf gl)).map encS⟩ (fun j => .c (.row j)) Try.call15 (fun e a w' h => rsubs_any (e.rv 0) gl w' ⟨Sy.row_reads h (.inr rfl), fun o ho => Sy.later_in h (hr.2 o ho)⟩ hlen hg) ?_
  rw [← hL]
  ((repeat' ((conv => whnf);(first|refine z1 ?_|refine z2 ?_|refine z3 ?_|refine z4 ?_|refine z5 ?_|refine z6 ?_|refine z7 ?_|refine z8 ?_|refine z9 ?_|refine za ?_|refine zb ?_|refine zc ?_|refine zd ?_|refine ze ?_|refine zf ?_|refine zg ?_|refine zh ?_|((first|refine zi ?_ ?_|refine zj ?_ ?_|refine zk ?_ ?_)<;> intro hh <;> first|(exfalso;omega)|skip)|(refine zl ?_ ?_<;> intro hh)|refine zm ?_|refine zn ?_|refine zo ?_|refine zp ?_|refine zq ?_|refine zv ?_|refine zr ?_|refine zs _ rfl ?_|exact Sy.fin_val (fun e=>rfl))));(all_goals (try conv => whnf)))
  refine Sy.sem_subF (Sy.sub_row 3 58 2 rfl) ?_
  conv => whnf
  refine Sy.loop_inv Sy.tab_ok (fun i : Nat => [(5, .c (.v (.int .i64 i))), (3, .c (.row 3))]) (fun i => [(3, .row 58 2 (chN (opsOf gl) L i 0).length (.vs ((chN (opsOf gl) L i 0).map encS)))]) (fun i => i ≤ L.length) (fun i => L.length - i) 0 (Nat.zero_le _) ?_ (fun i hi => ?_)
  · rw [chN_zero]
    ((repeat' (first|((conv => whnf);done)|((try conv => whnf);first|exact trivial|(refine And.intro ?_ ?_)|rfl|exact fun _ _ _ h=>h|exact fun _ _ _ _=>trivial)));(all_goals (try conv => whnf)))
  · ((repeat' ((conv => whnf);(first|refine z1 ?_|refine z2 ?_|refine z3 ?_|refine z4 ?_|refine z5 ?_|refine z6 ?_|refine z7 ?_|refine z8 ?_|refine z9 ?_|refine za ?_|refine zb ?_|refine zc ?_|refine zd ?_|refine ze ?_|refine zf ?_|refine zg ?_|refine zh ?_|((first|refine zi ?_ ?_|refine zj ?_ ?_|refine zk ?_ ?_)<;> intro hh <;> first|(exfalso;omega)|skip)|(refine zl ?_ ?_<;> intro hh)|refine zm ?_|refine zn ?_|refine zo ?_|refine zp ?_|refine zq ?_|refine zv ?_|refine zr ?_|refine zs _ rfl ?_|exact Sy.fin_val (fun e=>rfl))));(all_goals (try conv => whnf)))
    · have hlt : i < L.length := by omega
      have hgi := List.getElem?_eq_getElem hlt
      have hmi := hmem _ (List.getElem_mem hlt)
      generalize L[i] = a at *
      refine Sy.loop_inv Sy.tab_ok (fun j : Nat => [(6, .c (.v (.int .i64 j))), (3, .c (.row 3))]) (fun j => [(3, .row 58 2 (chN (opsOf gl) L i j).length (.vs ((chN (opsOf gl) L i j).map encS)))]) (fun j => j ≤ L.length) (fun j => L.length - j) 0 (Nat.zero_le _) ?_ (fun j hj => ?_)
      · ((repeat' (first|((conv => whnf);done)|((try conv => whnf);first|exact trivial|(refine And.intro ?_ ?_)|rfl|exact fun _ _ _ h=>h|exact fun _ _ _ _=>trivial)));(all_goals (try conv => whnf)))
      · have hcl := chN_len (opsOf gl) L i j
        have hcj := chN_j (opsOf gl) L i j
        have hLL : i * L.length ≤ 300 * 300 := Nat.mul_le_mul (by omega) (by omega)
        ((repeat' ((conv => whnf);(first|refine z1 ?_|refine z2 ?_|refine z3 ?_|refine z4 ?_|refine z5 ?_|refine z6 ?_|refine z7 ?_|refine z8 ?_|refine z9 ?_|refine za ?_|refine zb ?_|refine zc ?_|refine zd ?_|refine ze ?_|refine zf ?_|refine zg ?_|refine zh ?_|((first|refine zi ?_ ?_|refine zj ?_ ?_|refine zk ?_ ?_)<;> intro hh <;> first|(exfalso;omega)|skip)|(refine zl ?_ ?_<;> intro hh)|refine zm ?_|refine zn ?_|refine zo ?_|refine zp ?_|refine zq ?_|refine zv ?_|refine zr ?_|refine zs _ rfl ?_|exact Sy.fin_val (fun e=>rfl))));(all_goals (try conv => whnf)))
        · have hlj : j < L.length := by omega
          have hgj := List.getElem?_eq_getElem hlj
          have hmj := hmem _ (List.getElem_mem hlj)
          generalize L[j] = b at *
          have hlk := linkAt_of (opsOf gl) hgi hgj
          have hcn := com_nil (g := opsOf gl) (a := a) (b := b) (by omega) (by omega)
          have hcl2 := comN_len (opsOf gl) a b 8
          cases hrd : readsB (opsOf gl) b.1 a.1
          · have hl0 : linkAt (opsOf gl) L i j = false := by rw [hlk]; unfold linkB; rw [hrd, Bool.and_false]
            rw [hl0, if_neg (by simp), List.append_nil] at hcj
            refine Sy.draw_go [] (by kernel_rfl) ?_
            intro e0
            conv => whnf
            refine zt 0 rfl ?_
            conv => whnf
            refine zt 1 rfl ?_
            conv => whnf
            refine zt 2 rfl ?_
            conv => whnf
            refine zt 3 rfl ?_
            (conv => whnf);(repeat' ((first|refine z1 ?_|refine z2 ?_|refine z3 ?_|refine z4 ?_|refine z5 ?_|refine z6 ?_|refine z7 ?_|refine z8 ?_|refine z9 ?_|refine za ?_|refine zb ?_|refine zc ?_|refine zd ?_|refine ze ?_|refine zf ?_|refine zg ?_|refine zh ?_|((first|refine zi ?_ ?_|refine zj ?_ ?_|refine zk ?_ ?_)<;> intro hh <;> first|(exfalso;omega)|skip)|(refine zl ?_ ?_<;> intro hh)|refine zm ?_|refine zn ?_|refine zo ?_|refine zp ?_|refine zq ?_|refine zv ?_|refine zr ?_|refine zs _ rfl ?_|refine zu ?_|exact Sy.fin_val (fun e=>rfl));(try conv => whnf)))
            refine zt 4 rfl ?_
            conv => whnf
            refine zt 5 rfl ?_
            conv => whnf
            refine Sy.el_map b hgj ?_
            conv => whnf
            conv => whnf
            refine zt 6 rfl ?_
            conv => whnf
            refine zt 7 rfl ?_
            conv => whnf
            refine zt 8 rfl ?_
            (conv => whnf);(repeat' ((first|refine z1 ?_|refine z2 ?_|refine z3 ?_|refine z4 ?_|refine z5 ?_|refine z6 ?_|refine z7 ?_|refine z8 ?_|refine z9 ?_|refine za ?_|refine zb ?_|refine zc ?_|refine zd ?_|refine ze ?_|refine zf ?_|refine zg ?_|refine zh ?_|((first|refine zi ?_ ?_|refine zj ?_ ?_|refine zk ?_ ?_)<;> intro hh <;> first|(exfalso;omega)|skip)|(refine zl ?_ ?_<;> intro hh)|refine zm ?_|refine zn ?_|refine zo ?_|refine zp ?_|refine zq ?_|refine zv ?_|refine zr ?_|refine zs _ rfl ?_|refine zu ?_|exact Sy.fin_val (fun e=>rfl));(try conv => whnf)))
            refine zt 9 rfl ?_
            conv => whnf
            refine zt 10 rfl ?_
            conv => whnf
            refine Sy.el_map a hgi ?_
            conv => whnf
            conv => whnf
            refine zd1 [11] (zx rfl ?_ zy)
            conv => whnf
            refine Sy.call_val (.c (.v (.bool false))) Try.call60 rfl (fun e x w' h => by have := reads_any (e.rv 0) gl b.1 a.1 w' ⟨Sy.row_reads h (.inr rfl), fun o ho => Sy.later_in h (hr.2 o ho)⟩ hmj.1; rw [hrd] at this; exact this) ?_
            conv => whnf
            refine ⟨(by repeat' ((conv => whnf);first|exact trivial|(refine And.intro ?_ ?_)|rfl)), ?_⟩
            refine zt 12 rfl ?_
            conv => whnf
            refine zt 13 rfl ?_
            (conv => whnf);(repeat' ((first|refine z1 ?_|refine z2 ?_|refine z3 ?_|refine z4 ?_|refine z5 ?_|refine z6 ?_|refine z7 ?_|refine z8 ?_|refine z9 ?_|refine za ?_|refine zb ?_|refine zc ?_|refine zd ?_|refine ze ?_|refine zf ?_|refine zg ?_|refine zh ?_|((first|refine zi ?_ ?_|refine zj ?_ ?_|refine zk ?_ ?_)<;> intro hh <;> first|(exfalso;omega)|skip)|(refine zl ?_ ?_<;> intro hh)|refine zm ?_|refine zn ?_|refine zo ?_|refine zp ?_|refine zq ?_|refine zv ?_|refine zr ?_|refine zs _ rfl ?_|refine zu ?_|exact Sy.fin_val (fun e=>rfl));(try conv => whnf)))
            refine zt 14 rfl ?_
            (conv => whnf);(repeat' ((first|refine z1 ?_|refine z2 ?_|refine z3 ?_|refine z4 ?_|refine z5 ?_|refine z6 ?_|refine z7 ?_|refine z8 ?_|refine z9 ?_|refine za ?_|refine zb ?_|refine zc ?_|refine zd ?_|refine ze ?_|refine zf ?_|refine zg ?_|refine zh ?_|((first|refine zi ?_ ?_|refine zj ?_ ?_|refine zk ?_ ?_)<;> intro hh <;> first|(exfalso;omega)|skip)|(refine zl ?_ ?_<;> intro hh)|refine zm ?_|refine zn ?_|refine zo ?_|refine zp ?_|refine zq ?_|refine zv ?_|refine zr ?_|refine zs _ rfl ?_|refine zu ?_|exact Sy.fin_val (fun e=>rfl));(try conv => whnf)))
            refine zt 15 rfl ?_
            (conv => whnf);(repeat' ((first|refine z1 ?_|refine z2 ?_|refine z3 ?_|refine z4 ?_|refine z5 ?_|refine z6 ?_|refine z7 ?_|refine z8 ?_|refine z9 ?_|refine za ?_|refine zb ?_|refine zc ?_|refine zd ?_|refine ze ?_|refine zf ?_|refine zg ?_|refine zh ?_|((first|refine zi ?_ ?_|refine zj ?_ ?_|refine zk ?_ ?_)<;> intro hh <;> first|(exfalso;omega)|skip)|(refine zl ?_ ?_<;> intro hh)|refine zm ?_|refine zn ?_|refine zo ?_|refine zp ?_|refine zq ?_|refine zv ?_|refine zr ?_|refine zs _ rfl ?_|refine zu ?_|exact Sy.fin_val (fun e=>rfl));(try conv => whnf)))
            refine zt 16 rfl ?_
            (conv => whnf);(repeat' ((first|refine z1 ?_|refine z2 ?_|refine z3 ?_|refine z4 ?_|refine z5 ?_|refine z6 ?_|refine z7 ?_|refine z8 ?_|refine z9 ?_|refine za ?_|refine zb ?_|refine zc ?_|refine zd ?_|refine ze ?_|refine zf ?_|refine zg ?_|refine zh ?_|((first|refine zi ?_ ?_|refine zj ?_ ?_|refine zk ?_ ?_)<;> intro hh <;> first|(exfalso;omega)|skip)|(refine zl ?_ ?_<;> intro hh)|refine zm ?_|refine zn ?_|refine zo ?_|refine zp ?_|refine zq ?_|refine zv ?_|refine zr ?_|refine zs _ rfl ?_|refine zu ?_|exact Sy.fin_val (fun e=>rfl));(try conv => whnf)))
            refine zt 17 rfl ?_
            (conv => whnf);(repeat' ((first|refine z1 ?_|refine z2 ?_|refine z3 ?_|refine z4 ?_|refine z5 ?_|refine z6 ?_|refine z7 ?_|refine z8 ?_|refine z9 ?_|refine za ?_|refine zb ?_|refine zc ?_|refine zd ?_|refine ze ?_|refine zf ?_|refine zg ?_|refine zh ?_|((first|refine zi ?_ ?_|refine zj ?_ ?_|refine zk ?_ ?_)<;> intro hh <;> first|(exfalso;omega)|skip)|(refine zl ?_ ?_<;> intro hh)|refine zm ?_|refine zn ?_|refine zo ?_|refine zp ?_|refine zq ?_|refine zv ?_|refine zr ?_|refine zs _ rfl ?_|refine zu ?_|exact Sy.fin_val (fun e=>rfl));(try conv => whnf)))
            refine zt 18 rfl ?_
            (conv => whnf);(repeat' ((first|refine z1 ?_|refine z2 ?_|refine z3 ?_|refine z4 ?_|refine z5 ?_|refine z6 ?_|refine z7 ?_|refine z8 ?_|refine z9 ?_|refine za ?_|refine zb ?_|refine zc ?_|refine zd ?_|refine ze ?_|refine zf ?_|refine zg ?_|refine zh ?_|((first|refine zi ?_ ?_|refine zj ?_ ?_|refine zk ?_ ?_)<;> intro hh <;> first|(exfalso;omega)|skip)|(refine zl ?_ ?_<;> intro hh)|refine zm ?_|refine zn ?_|refine zo ?_|refine zp ?_|refine zq ?_|refine zv ?_|refine zr ?_|refine zs _ rfl ?_|refine zu ?_|exact Sy.fin_val (fun e=>rfl));(try conv => whnf)))
            refine zt 19 rfl ?_
            (conv => whnf);(repeat' ((first|refine z1 ?_|refine z2 ?_|refine z3 ?_|refine z4 ?_|refine z5 ?_|refine z6 ?_|refine z7 ?_|refine z8 ?_|refine z9 ?_|refine za ?_|refine zb ?_|refine zc ?_|refine zd ?_|refine ze ?_|refine zf ?_|refine zg ?_|refine zh ?_|((first|refine zi ?_ ?_|refine zj ?_ ?_|refine zk ?_ ?_)<;> intro hh <;> first|(exfalso;omega)|skip)|(refine zl ?_ ?_<;> intro hh)|refine zm ?_|refine zn ?_|refine zo ?_|refine zp ?_|refine zq ?_|refine zv ?_|refine zr ?_|refine zs _ rfl ?_|refine zu ?_|exact Sy.fin_val (fun e=>rfl));(try conv => whnf)))
            refine zt 20 rfl ?_
            (conv => whnf);(repeat' ((first|refine z1 ?_|refine z2 ?_|refine z3 ?_|refine z4 ?_|refine z5 ?_|refine z6 ?_|refine z7 ?_|refine z8 ?_|refine z9 ?_|refine za ?_|refine zb ?_|refine zc ?_|refine zd ?_|refine ze ?_|refine zf ?_|refine zg ?_|refine zh ?_|((first|refine zi ?_ ?_|refine zj ?_ ?_|refine zk ?_ ?_)<;> intro hh <;> first|(exfalso;omega)|skip)|(refine zl ?_ ?_<;> intro hh)|refine zm ?_|refine zn ?_|refine zo ?_|refine zp ?_|refine zq ?_|refine zv ?_|refine zr ?_|refine zs _ rfl ?_|refine zu ?_|exact Sy.fin_val (fun e=>rfl));(try conv => whnf)))
            refine zt 21 rfl ?_
            (conv => whnf);(repeat' ((first|refine z1 ?_|refine z2 ?_|refine z3 ?_|refine z4 ?_|refine z5 ?_|refine z6 ?_|refine z7 ?_|refine z8 ?_|refine z9 ?_|refine za ?_|refine zb ?_|refine zc ?_|refine zd ?_|refine ze ?_|refine zf ?_|refine zg ?_|refine zh ?_|((first|refine zi ?_ ?_|refine zj ?_ ?_|refine zk ?_ ?_)<;> intro hh <;> first|(exfalso;omega)|skip)|(refine zl ?_ ?_<;> intro hh)|refine zm ?_|refine zn ?_|refine zo ?_|refine zp ?_|refine zq ?_|refine zv ?_|refine zr ?_|refine zs _ rfl ?_|refine zu ?_|exact Sy.fin_val (fun e=>rfl));(try conv => whnf)))
            refine zd1 [22] (zx rfl ?_ zy)
            conv => whnf
            ((first|refine z1 ?_|refine z2 ?_|refine z3 ?_|refine z4 ?_);conv => whnf)
            refine ⟨(by repeat' ((conv => whnf);first|exact trivial|(refine And.intro ?_ ?_)|rfl)), ?_⟩
            refine zd1 [23] (zx rfl ?_ zy)
            conv => whnf
            ((first|refine z1 ?_|refine z2 ?_|refine z3 ?_|refine z4 ?_);conv => whnf)
            refine ⟨(by repeat' ((conv => whnf);first|exact trivial|(refine And.intro ?_ ?_)|rfl)), ?_⟩
            refine zt 24 rfl ?_
            (conv => whnf);(repeat' ((first|refine z1 ?_|refine z2 ?_|refine z3 ?_|refine z4 ?_|refine z5 ?_|refine z6 ?_|refine z7 ?_|refine z8 ?_|refine z9 ?_|refine za ?_|refine zb ?_|refine zc ?_|refine zd ?_|refine ze ?_|refine zf ?_|refine zg ?_|refine zh ?_|((first|refine zi ?_ ?_|refine zj ?_ ?_|refine zk ?_ ?_)<;> intro hh <;> first|(exfalso;omega)|skip)|(refine zl ?_ ?_<;> intro hh)|refine zm ?_|refine zn ?_|refine zo ?_|refine zp ?_|refine zq ?_|refine zv ?_|refine zr ?_|refine zs _ rfl ?_|refine zu ?_|exact Sy.fin_val (fun e=>rfl));(try conv => whnf)))
            refine zt 25 rfl ?_
            (conv => whnf);(repeat' ((first|refine z1 ?_|refine z2 ?_|refine z3 ?_|refine z4 ?_|refine z5 ?_|refine z6 ?_|refine z7 ?_|refine z8 ?_|refine z9 ?_|refine za ?_|refine zb ?_|refine zc ?_|refine zd ?_|refine ze ?_|refine zf ?_|refine zg ?_|refine zh ?_|((first|refine zi ?_ ?_|refine zj ?_ ?_|refine zk ?_ ?_)<;> intro hh <;> first|(exfalso;omega)|skip)|(refine zl ?_ ?_<;> intro hh)|refine zm ?_|refine zn ?_|refine zo ?_|refine zp ?_|refine zq ?_|refine zv ?_|refine zr ?_|refine zs _ rfl ?_|refine zu ?_|exact Sy.fin_val (fun e=>rfl));(try conv => whnf)))
            refine zw ?_
            skip
            all_goals (((repeat' ((conv => whnf);(first|refine z1 ?_|refine z2 ?_|refine z3 ?_|refine z4 ?_|refine z5 ?_|refine z6 ?_|refine z7 ?_|refine z8 ?_|refine z9 ?_|refine za ?_|refine zb ?_|refine zc ?_|refine zd ?_|refine ze ?_|refine zf ?_|refine zg ?_|refine zh ?_|((first|refine zi ?_ ?_|refine zj ?_ ?_|refine zk ?_ ?_)<;> intro hh <;> first|(exfalso;omega)|skip)|(refine zl ?_ ?_<;> intro hh)|refine zm ?_|refine zn ?_|refine zo ?_|refine zp ?_|refine zq ?_|refine zv ?_|refine zr ?_|refine zs _ rfl ?_|exact Sy.fin_val (fun e=>rfl))));(all_goals (try conv => whnf))))
            all_goals (refine ⟨j + 1, by omega, by omega, ?_⟩)
            all_goals (rw [hcj])
            all_goals (((repeat' (first|((conv => whnf);done)|((try conv => whnf);first|exact trivial|(refine And.intro ?_ ?_)|rfl|exact fun _ _ _ h=>h|exact fun _ _ _ _=>trivial)));(all_goals (try conv => whnf))))
          · by_cases hb0 : bothOf (opsOf gl) a b = 0
            · have hl0 : linkAt (opsOf gl) L i j = false := by rw [hlk]; unfold linkB; rw [hb0]; rfl
              rw [hl0, if_neg (by simp), List.append_nil] at hcj
              have hc0 := hcn.1 hb0
              refine Sy.draw_go [] (by kernel_rfl) ?_
              intro e0
              conv => whnf
              refine zt 0 rfl ?_
              conv => whnf
              refine zt 1 rfl ?_
              conv => whnf
              refine zt 2 rfl ?_
              conv => whnf
              refine zt 3 rfl ?_
              (conv => whnf);(repeat' ((first|refine z1 ?_|refine z2 ?_|refine z3 ?_|refine z4 ?_|refine z5 ?_|refine z6 ?_|refine z7 ?_|refine z8 ?_|refine z9 ?_|refine za ?_|refine zb ?_|refine zc ?_|refine zd ?_|refine ze ?_|refine zf ?_|refine zg ?_|refine zh ?_|((first|refine zi ?_ ?_|refine zj ?_ ?_|refine zk ?_ ?_)<;> intro hh <;> first|(exfalso;omega)|skip)|(refine zl ?_ ?_<;> intro hh)|refine zm ?_|refine zn ?_|refine zo ?_|refine zp ?_|refine zq ?_|refine zv ?_|refine zr ?_|refine zs _ rfl ?_|refine zu ?_|exact Sy.fin_val (fun e=>rfl));(try conv => whnf)))
              refine zt 4 rfl ?_
              conv => whnf
              refine zt 5 rfl ?_
              conv => whnf
              refine Sy.el_map b hgj ?_
              conv => whnf
              conv => whnf
              refine zt 6 rfl ?_
              conv => whnf
              refine zt 7 rfl ?_
              conv => whnf
              refine zt 8 rfl ?_
              (conv => whnf);(repeat' ((first|refine z1 ?_|refine z2 ?_|refine z3 ?_|refine z4 ?_|refine z5 ?_|refine z6 ?_|refine z7 ?_|refine z8 ?_|refine z9 ?_|refine za ?_|refine zb ?_|refine zc ?_|refine zd ?_|refine ze ?_|refine zf ?_|refine zg ?_|refine zh ?_|((first|refine zi ?_ ?_|refine zj ?_ ?_|refine zk ?_ ?_)<;> intro hh <;> first|(exfalso;omega)|skip)|(refine zl ?_ ?_<;> intro hh)|refine zm ?_|refine zn ?_|refine zo ?_|refine zp ?_|refine zq ?_|refine zv ?_|refine zr ?_|refine zs _ rfl ?_|refine zu ?_|exact Sy.fin_val (fun e=>rfl));(try conv => whnf)))
              refine zt 9 rfl ?_
              conv => whnf
              refine zt 10 rfl ?_
              conv => whnf
              refine Sy.el_map a hgi ?_
              conv => whnf
              conv => whnf
              refine zd1 [11] (zx rfl ?_ zy)
              conv => whnf
              refine Sy.call_val (.c (.v (.bool true))) Try.call60 rfl (fun e x w' h => by have := reads_any (e.rv 0) gl b.1 a.1 w' ⟨Sy.row_reads h (.inr rfl), fun o ho => Sy.later_in h (hr.2 o ho)⟩ hmj.1; rw [hrd] at this; exact this) ?_
              conv => whnf
              refine ⟨(by repeat' ((conv => whnf);first|exact trivial|(refine And.intro ?_ ?_)|rfl)), ?_⟩
              refine zt 12 rfl ?_
              conv => whnf
              refine zt 13 rfl ?_
              (conv => whnf);(repeat' ((first|refine z1 ?_|refine z2 ?_|refine z3 ?_|refine z4 ?_|refine z5 ?_|refine z6 ?_|refine z7 ?_|refine z8 ?_|refine z9 ?_|refine za ?_|refine zb ?_|refine zc ?_|refine zd ?_|refine ze ?_|refine zf ?_|refine zg ?_|refine zh ?_|((first|refine zi ?_ ?_|refine zj ?_ ?_|refine zk ?_ ?_)<;> intro hh <;> first|(exfalso;omega)|skip)|(refine zl ?_ ?_<;> intro hh)|refine zm ?_|refine zn ?_|refine zo ?_|refine zp ?_|refine zq ?_|refine zv ?_|refine zr ?_|refine zs _ rfl ?_|refine zu ?_|exact Sy.fin_val (fun e=>rfl));(try conv => whnf)))
              refine zt 14 rfl ?_
              (conv => whnf);(repeat' ((first|refine z1 ?_|refine z2 ?_|refine z3 ?_|refine z4 ?_|refine z5 ?_|refine z6 ?_|refine z7 ?_|refine z8 ?_|refine z9 ?_|refine za ?_|refine zb ?_|refine zc ?_|refine zd ?_|refine ze ?_|refine zf ?_|refine zg ?_|refine zh ?_|((first|refine zi ?_ ?_|refine zj ?_ ?_|refine zk ?_ ?_)<;> intro hh <;> first|(exfalso;omega)|skip)|(refine zl ?_ ?_<;> intro hh)|refine zm ?_|refine zn ?_|refine zo ?_|refine zp ?_|refine zq ?_|refine zv ?_|refine zr ?_|refine zs _ rfl ?_|refine zu ?_|exact Sy.fin_val (fun e=>rfl));(try conv => whnf)))
              refine zt 15 rfl ?_
              (conv => whnf);(repeat' ((first|refine z1 ?_|refine z2 ?_|refine z3 ?_|refine z4 ?_|refine z5 ?_|refine z6 ?_|refine z7 ?_|refine z8 ?_|refine z9 ?_|refine za ?_|refine zb ?_|refine zc ?_|refine zd ?_|refine ze ?_|refine zf ?_|refine zg ?_|refine zh ?_|((first|refine zi ?_ ?_|refine zj ?_ ?_|refine zk ?_ ?_)<;> intro hh <;> first|(exfalso;omega)|skip)|(refine zl ?_ ?_<;> intro hh)|refine zm ?_|refine zn ?_|refine zo ?_|refine zp ?_|refine zq ?_|refine zv ?_|refine zr ?_|refine zs _ rfl ?_|refine zu ?_|exact Sy.fin_val (fun e=>rfl));(try conv => whnf)))
              refine zt 16 rfl ?_
              (conv => whnf);(repeat' ((first|refine z1 ?_|refine z2 ?_|refine z3 ?_|refine z4 ?_|refine z5 ?_|refine z6 ?_|refine z7 ?_|refine z8 ?_|refine z9 ?_|refine za ?_|refine zb ?_|refine zc ?_|refine zd ?_|refine ze ?_|refine zf ?_|refine zg ?_|refine zh ?_|((first|refine zi ?_ ?_|refine zj ?_ ?_|refine zk ?_ ?_)<;> intro hh <;> first|(exfalso;omega)|skip)|(refine zl ?_ ?_<;> intro hh)|refine zm ?_|refine zn ?_|refine zo ?_|refine zp ?_|refine zq ?_|refine zv ?_|refine zr ?_|refine zs _ rfl ?_|refine zu ?_|exact Sy.fin_val (fun e=>rfl));(try conv => whnf)))
              refine zt 17 rfl ?_
              (conv => whnf);(repeat' ((first|refine z1 ?_|refine z2 ?_|refine z3 ?_|refine z4 ?_|refine z5 ?_|refine z6 ?_|refine z7 ?_|refine z8 ?_|refine z9 ?_|refine za ?_|refine zb ?_|refine zc ?_|refine zd ?_|refine ze ?_|refine zf ?_|refine zg ?_|refine zh ?_|((first|refine zi ?_ ?_|refine zj ?_ ?_|refine zk ?_ ?_)<;> intro hh <;> first|(exfalso;omega)|skip)|(refine zl ?_ ?_<;> intro hh)|refine zm ?_|refine zn ?_|refine zo ?_|refine zp ?_|refine zq ?_|refine zv ?_|refine zr ?_|refine zs _ rfl ?_|refine zu ?_|exact Sy.fin_val (fun e=>rfl));(try conv => whnf)))
              refine Sy.el_map a hgi ?_
              conv => whnf
              conv => whnf
              refine zt 18 rfl ?_
              (conv => whnf);(repeat' ((first|refine z1 ?_|refine z2 ?_|refine z3 ?_|refine z4 ?_|refine z5 ?_|refine z6 ?_|refine z7 ?_|refine z8 ?_|refine z9 ?_|refine za ?_|refine zb ?_|refine zc ?_|refine zd ?_|refine ze ?_|refine zf ?_|refine zg ?_|refine zh ?_|((first|refine zi ?_ ?_|refine zj ?_ ?_|refine zk ?_ ?_)<;> intro hh <;> first|(exfalso;omega)|skip)|(refine zl ?_ ?_<;> intro hh)|refine zm ?_|refine zn ?_|refine zo ?_|refine zp ?_|refine zq ?_|refine zv ?_|refine zr ?_|refine zs _ rfl ?_|refine zu ?_|exact Sy.fin_val (fun e=>rfl));(try conv => whnf)))
              refine zt 19 rfl ?_
              (conv => whnf);(repeat' ((first|refine z1 ?_|refine z2 ?_|refine z3 ?_|refine z4 ?_|refine z5 ?_|refine z6 ?_|refine z7 ?_|refine z8 ?_|refine z9 ?_|refine za ?_|refine zb ?_|refine zc ?_|refine zd ?_|refine ze ?_|refine zf ?_|refine zg ?_|refine zh ?_|((first|refine zi ?_ ?_|refine zj ?_ ?_|refine zk ?_ ?_)<;> intro hh <;> first|(exfalso;omega)|skip)|(refine zl ?_ ?_<;> intro hh)|refine zm ?_|refine zn ?_|refine zo ?_|refine zp ?_|refine zq ?_|refine zv ?_|refine zr ?_|refine zs _ rfl ?_|refine zu ?_|exact Sy.fin_val (fun e=>rfl));(try conv => whnf)))
              refine zt 20 rfl ?_
              (conv => whnf);(repeat' ((first|refine z1 ?_|refine z2 ?_|refine z3 ?_|refine z4 ?_|refine z5 ?_|refine z6 ?_|refine z7 ?_|refine z8 ?_|refine z9 ?_|refine za ?_|refine zb ?_|refine zc ?_|refine zd ?_|refine ze ?_|refine zf ?_|refine zg ?_|refine zh ?_|((first|refine zi ?_ ?_|refine zj ?_ ?_|refine zk ?_ ?_)<;> intro hh <;> first|(exfalso;omega)|skip)|(refine zl ?_ ?_<;> intro hh)|refine zm ?_|refine zn ?_|refine zo ?_|refine zp ?_|refine zq ?_|refine zv ?_|refine zr ?_|refine zs _ rfl ?_|refine zu ?_|exact Sy.fin_val (fun e=>rfl));(try conv => whnf)))
              refine zt 21 rfl ?_
              (conv => whnf);(repeat' ((first|refine z1 ?_|refine z2 ?_|refine z3 ?_|refine z4 ?_|refine z5 ?_|refine z6 ?_|refine z7 ?_|refine z8 ?_|refine z9 ?_|refine za ?_|refine zb ?_|refine zc ?_|refine zd ?_|refine ze ?_|refine zf ?_|refine zg ?_|refine zh ?_|((first|refine zi ?_ ?_|refine zj ?_ ?_|refine zk ?_ ?_)<;> intro hh <;> first|(exfalso;omega)|skip)|(refine zl ?_ ?_<;> intro hh)|refine zm ?_|refine zn ?_|refine zo ?_|refine zp ?_|refine zq ?_|refine zv ?_|refine zr ?_|refine zs _ rfl ?_|refine zu ?_|exact Sy.fin_val (fun e=>rfl));(try conv => whnf)))
              refine Sy.el_map b hgj ?_
              conv => whnf
              conv => whnf
              refine zd1 [22] (zx rfl ?_ zy)
              conv => whnf
              ((first|refine z1 ?_|refine z2 ?_|refine z3 ?_|refine z4 ?_);conv => whnf)
              refine Sy.call_r1 ⟨3, 1, (comN (opsOf gl) a b 8).length, (comN (opsOf gl) a b 8).map encI⟩ (fun j => .c (.row j)) Try.call33 (fun e x w' h => common_any (e.rv 0) gl a b w' ⟨Sy.row_reads h (.inr rfl), fun o ho => Sy.later_in h (hr.2 o ho)⟩ hlen hg hmi.1 hmj.1) ?_
              conv => whnf
              refine ⟨(by repeat' ((conv => whnf);first|exact trivial|(refine And.intro ?_ ?_)|rfl)), ?_⟩
              refine zd1 [23] (zx rfl ?_ zy)
              conv => whnf
              ((first|refine z1 ?_|refine z2 ?_|refine z3 ?_|refine z4 ?_);conv => whnf)
              refine ⟨(by repeat' ((conv => whnf);first|exact trivial|(refine And.intro ?_ ?_)|rfl)), ?_⟩
              refine zt 24 rfl ?_
              (conv => whnf);(repeat' ((first|refine z1 ?_|refine z2 ?_|refine z3 ?_|refine z4 ?_|refine z5 ?_|refine z6 ?_|refine z7 ?_|refine z8 ?_|refine z9 ?_|refine za ?_|refine zb ?_|refine zc ?_|refine zd ?_|refine ze ?_|refine zf ?_|refine zg ?_|refine zh ?_|((first|refine zi ?_ ?_|refine zj ?_ ?_|refine zk ?_ ?_)<;> intro hh <;> first|(exfalso;omega)|skip)|(refine zl ?_ ?_<;> intro hh)|refine zm ?_|refine zn ?_|refine zo ?_|refine zp ?_|refine zq ?_|refine zv ?_|refine zr ?_|refine zs _ rfl ?_|refine zu ?_|exact Sy.fin_val (fun e=>rfl));(try conv => whnf)))
              refine zt 25 rfl ?_
              (conv => whnf);(repeat' ((first|refine z1 ?_|refine z2 ?_|refine z3 ?_|refine z4 ?_|refine z5 ?_|refine z6 ?_|refine z7 ?_|refine z8 ?_|refine z9 ?_|refine za ?_|refine zb ?_|refine zc ?_|refine zd ?_|refine ze ?_|refine zf ?_|refine zg ?_|refine zh ?_|((first|refine zi ?_ ?_|refine zj ?_ ?_|refine zk ?_ ?_)<;> intro hh <;> first|(exfalso;omega)|skip)|(refine zl ?_ ?_<;> intro hh)|refine zm ?_|refine zn ?_|refine zo ?_|refine zp ?_|refine zq ?_|refine zv ?_|refine zr ?_|refine zs _ rfl ?_|refine zu ?_|exact Sy.fin_val (fun e=>rfl));(try conv => whnf)))
              refine zw ?_
              skip
              all_goals (((repeat' ((conv => whnf);(first|refine z1 ?_|refine z2 ?_|refine z3 ?_|refine z4 ?_|refine z5 ?_|refine z6 ?_|refine z7 ?_|refine z8 ?_|refine z9 ?_|refine za ?_|refine zb ?_|refine zc ?_|refine zd ?_|refine ze ?_|refine zf ?_|refine zg ?_|refine zh ?_|((first|refine zi ?_ ?_|refine zj ?_ ?_|refine zk ?_ ?_)<;> intro hh <;> first|(exfalso;omega)|skip)|(refine zl ?_ ?_<;> intro hh)|refine zm ?_|refine zn ?_|refine zo ?_|refine zp ?_|refine zq ?_|refine zv ?_|refine zr ?_|refine zs _ rfl ?_|exact Sy.fin_val (fun e=>rfl))));(all_goals (try conv => whnf))))
              all_goals (refine ⟨j + 1, by omega, by omega, ?_⟩)
              all_goals (rw [hcj])
              all_goals (((repeat' (first|((conv => whnf);done)|((try conv => whnf);first|exact trivial|(refine And.intro ?_ ?_)|rfl|exact fun _ _ _ h=>h|exact fun _ _ _ _=>trivial)));(all_goals (try conv => whnf))))
            · have hl1 : linkAt (opsOf gl) L i j = true := by rw [hlk]; unfold linkB; rw [hrd, bne_iff_ne.2 hb0]; rfl
              rw [hl1, if_pos rfl] at hcj
              have hc0 : ¬ (comN (opsOf gl) a b 8).length = 0 := fun h => hb0 (hcn.2 h)
              refine Sy.draw_go [] (by kernel_rfl) ?_
              intro e0
              conv => whnf
              refine zt 0 rfl ?_
              conv => whnf
              refine zt 1 rfl ?_
              conv => whnf
              refine zt 2 rfl ?_
              conv => whnf
              refine zt 3 rfl ?_
              (conv => whnf);(repeat' ((first|refine z1 ?_|refine z2 ?_|refine z3 ?_|refine z4 ?_|refine z5 ?_|refine z6 ?_|refine z7 ?_|refine z8 ?_|refine z9 ?_|refine za ?_|refine zb ?_|refine zc ?_|refine zd ?_|refine ze ?_|refine zf ?_|refine zg ?_|refine zh ?_|((first|refine zi ?_ ?_|refine zj ?_ ?_|refine zk ?_ ?_)<;> intro hh <;> first|(exfalso;omega)|skip)|(refine zl ?_ ?_<;> intro hh)|refine zm ?_|refine zn ?_|refine zo ?_|refine zp ?_|refine zq ?_|refine zv ?_|refine zr ?_|refine zs _ rfl ?_|refine zu ?_|exact Sy.fin_val (fun e=>rfl));(try conv => whnf)))
              refine zt 4 rfl ?_
              conv => whnf
              refine zt 5 rfl ?_
              conv => whnf
              refine Sy.el_map b hgj ?_
              conv => whnf
              conv => whnf
              refine zt 6 rfl ?_
              conv => whnf
              refine zt 7 rfl ?_
              conv => whnf
              refine zt 8 rfl ?_
              (conv => whnf);(repeat' ((first|refine z1 ?_|refine z2 ?_|refine z3 ?_|refine z4 ?_|refine z5 ?_|refine z6 ?_|refine z7 ?_|refine z8 ?_|refine z9 ?_|refine za ?_|refine zb ?_|refine zc ?_|refine zd ?_|refine ze ?_|refine zf ?_|refine zg ?_|refine zh ?_|((first|refine zi ?_ ?_|refine zj ?_ ?_|refine zk ?_ ?_)<;> intro hh <;> first|(exfalso;omega)|skip)|(refine zl ?_ ?_<;> intro hh)|refine zm ?_|refine zn ?_|refine zo ?_|refine zp ?_|refine zq ?_|refine zv ?_|refine zr ?_|refine zs _ rfl ?_|refine zu ?_|exact Sy.fin_val (fun e=>rfl));(try conv => whnf)))
              refine zt 9 rfl ?_
              conv => whnf
              refine zt 10 rfl ?_
              conv => whnf
              refine Sy.el_map a hgi ?_
              conv => whnf
              conv => whnf
              refine zd1 [11] (zx rfl ?_ zy)
              conv => whnf
              refine Sy.call_val (.c (.v (.bool true))) Try.call60 rfl (fun e x w' h => by have := reads_any (e.rv 0) gl b.1 a.1 w' ⟨Sy.row_reads h (.inr rfl), fun o ho => Sy.later_in h (hr.2 o ho)⟩ hmj.1; rw [hrd] at this; exact this) ?_
              conv => whnf
              refine ⟨(by repeat' ((conv => whnf);first|exact trivial|(refine And.intro ?_ ?_)|rfl)), ?_⟩
              refine zt 12 rfl ?_
              conv => whnf
              refine zt 13 rfl ?_
              (conv => whnf);(repeat' ((first|refine z1 ?_|refine z2 ?_|refine z3 ?_|refine z4 ?_|refine z5 ?_|refine z6 ?_|refine z7 ?_|refine z8 ?_|refine z9 ?_|refine za ?_|refine zb ?_|refine zc ?_|refine zd ?_|refine ze ?_|refine zf ?_|refine zg ?_|refine zh ?_|((first|refine zi ?_ ?_|refine zj ?_ ?_|refine zk ?_ ?_)<;> intro hh <;> first|(exfalso;omega)|skip)|(refine zl ?_ ?_<;> intro hh)|refine zm ?_|refine zn ?_|refine zo ?_|refine zp ?_|refine zq ?_|refine zv ?_|refine zr ?_|refine zs _ rfl ?_|refine zu ?_|exact Sy.fin_val (fun e=>rfl));(try conv => whnf)))
              refine zt 14 rfl ?_
              (conv => whnf);(repeat' ((first|refine z1 ?_|refine z2 ?_|refine z3 ?_|refine z4 ?_|refine z5 ?_|refine z6 ?_|refine z7 ?_|refine z8 ?_|refine z9 ?_|refine za ?_|refine zb ?_|refine zc ?_|refine zd ?_|refine ze ?_|refine zf ?_|refine zg ?_|refine zh ?_|((first|refine zi ?_ ?_|refine zj ?_ ?_|refine zk ?_ ?_)<;> intro hh <;> first|(exfalso;omega)|skip)|(refine zl ?_ ?_<;> intro hh)|refine zm ?_|refine zn ?_|refine zo ?_|refine zp ?_|refine zq ?_|refine zv ?_|refine zr ?_|refine zs _ rfl ?_|refine zu ?_|exact Sy.fin_val (fun e=>rfl));(try conv => whnf)))
              refine zt 15 rfl ?_
              (conv => whnf);(repeat' ((first|refine z1 ?_|refine z2 ?_|refine z3 ?_|refine z4 ?_|refine z5 ?_|refine z6 ?_|refine z7 ?_|refine z8 ?_|refine z9 ?_|refine za ?_|refine zb ?_|refine zc ?_|refine zd ?_|refine ze ?_|refine zf ?_|refine zg ?_|refine zh ?_|((first|refine zi ?_ ?_|refine zj ?_ ?_|refine zk ?_ ?_)<;> intro hh <;> first|(exfalso;omega)|skip)|(refine zl ?_ ?_<;> intro hh)|refine zm ?_|refine zn ?_|refine zo ?_|refine zp ?_|refine zq ?_|refine zv ?_|refine zr ?_|refine zs _ rfl ?_|refine zu ?_|exact Sy.fin_val (fun e=>rfl));(try conv => whnf)))
              refine zt 16 rfl ?_
              (conv => whnf);(repeat' ((first|refine z1 ?_|refine z2 ?_|refine z3 ?_|refine z4 ?_|refine z5 ?_|refine z6 ?_|refine z7 ?_|refine z8 ?_|refine z9 ?_|refine za ?_|refine zb ?_|refine zc ?_|refine zd ?_|refine ze ?_|refine zf ?_|refine zg ?_|refine zh ?_|((first|refine zi ?_ ?_|refine zj ?_ ?_|refine zk ?_ ?_)<;> intro hh <;> first|(exfalso;omega)|skip)|(refine zl ?_ ?_<;> intro hh)|refine zm ?_|refine zn ?_|refine zo ?_|refine zp ?_|refine zq ?_|refine zv ?_|refine zr ?_|refine zs _ rfl ?_|refine zu ?_|exact Sy.fin_val (fun e=>rfl));(try conv => whnf)))
              refine zt 17 rfl ?_
              (conv => whnf);(repeat' ((first|refine z1 ?_|refine z2 ?_|refine z3 ?_|refine z4 ?_|refine z5 ?_|refine z6 ?_|refine z7 ?_|refine z8 ?_|refine z9 ?_|refine za ?_|refine zb ?_|refine zc ?_|refine zd ?_|refine ze ?_|refine zf ?_|refine zg ?_|refine zh ?_|((first|refine zi ?_ ?_|refine zj ?_ ?_|refine zk ?_ ?_)<;> intro hh <;> first|(exfalso;omega)|skip)|(refine zl ?_ ?_<;> intro hh)|refine zm ?_|refine zn ?_|refine zo ?_|refine zp ?_|refine zq ?_|refine zv ?_|refine zr ?_|refine zs _ rfl ?_|refine zu ?_|exact Sy.fin_val (fun e=>rfl));(try conv => whnf)))
              refine Sy.el_map a hgi ?_
              conv => whnf
              conv => whnf
              refine zt 18 rfl ?_
              (conv => whnf);(repeat' ((first|refine z1 ?_|refine z2 ?_|refine z3 ?_|refine z4 ?_|refine z5 ?_|refine z6 ?_|refine z7 ?_|refine z8 ?_|refine z9 ?_|refine za ?_|refine zb ?_|refine zc ?_|refine zd ?_|refine ze ?_|refine zf ?_|refine zg ?_|refine zh ?_|((first|refine zi ?_ ?_|refine zj ?_ ?_|refine zk ?_ ?_)<;> intro hh <;> first|(exfalso;omega)|skip)|(refine zl ?_ ?_<;> intro hh)|refine zm ?_|refine zn ?_|refine zo ?_|refine zp ?_|refine zq ?_|refine zv ?_|refine zr ?_|refine zs _ rfl ?_|refine zu ?_|exact Sy.fin_val (fun e=>rfl));(try conv => whnf)))
              refine zt 19 rfl ?_
              (conv => whnf);(repeat' ((first|refine z1 ?_|refine z2 ?_|refine z3 ?_|refine z4 ?_|refine z5 ?_|refine z6 ?_|refine z7 ?_|refine z8 ?_|refine z9 ?_|refine za ?_|refine zb ?_|refine zc ?_|refine zd ?_|refine ze ?_|refine zf ?_|refine zg ?_|refine zh ?_|((first|refine zi ?_ ?_|refine zj ?_ ?_|refine zk ?_ ?_)<;> intro hh <;> first|(exfalso;omega)|skip)|(refine zl ?_ ?_<;> intro hh)|refine zm ?_|refine zn ?_|refine zo ?_|refine zp ?_|refine zq ?_|refine zv ?_|refine zr ?_|refine zs _ rfl ?_|refine zu ?_|exact Sy.fin_val (fun e=>rfl));(try conv => whnf)))
              refine zt 20 rfl ?_
              (conv => whnf);(repeat' ((first|refine z1 ?_|refine z2 ?_|refine z3 ?_|refine z4 ?_|refine z5 ?_|refine z6 ?_|refine z7 ?_|refine z8 ?_|refine z9 ?_|refine za ?_|refine zb ?_|refine zc ?_|refine zd ?_|refine ze ?_|refine zf ?_|refine zg ?_|refine zh ?_|((first|refine zi ?_ ?_|refine zj ?_ ?_|refine zk ?_ ?_)<;> intro hh <;> first|(exfalso;omega)|skip)|(refine zl ?_ ?_<;> intro hh)|refine zm ?_|refine zn ?_|refine zo ?_|refine zp ?_|refine zq ?_|refine zv ?_|refine zr ?_|refine zs _ rfl ?_|refine zu ?_|exact Sy.fin_val (fun e=>rfl));(try conv => whnf)))
              refine zt 21 rfl ?_
              (conv => whnf);(repeat' ((first|refine z1 ?_|refine z2 ?_|refine z3 ?_|refine z4 ?_|refine z5 ?_|refine z6 ?_|refine z7 ?_|refine z8 ?_|refine z9 ?_|refine za ?_|refine zb ?_|refine zc ?_|refine zd ?_|refine ze ?_|refine zf ?_|refine zg ?_|refine zh ?_|((first|refine zi ?_ ?_|refine zj ?_ ?_|refine zk ?_ ?_)<;> intro hh <;> first|(exfalso;omega)|skip)|(refine zl ?_ ?_<;> intro hh)|refine zm ?_|refine zn ?_|refine zo ?_|refine zp ?_|refine zq ?_|refine zv ?_|refine zr ?_|refine zs _ rfl ?_|refine zu ?_|exact Sy.fin_val (fun e=>rfl));(try conv => whnf)))
              refine Sy.el_map b hgj ?_
              conv => whnf
              conv => whnf
              refine zd1 [22] (zx rfl ?_ zy)
              conv => whnf
              ((first|refine z1 ?_|refine z2 ?_|refine z3 ?_|refine z4 ?_);conv => whnf)
              refine Sy.call_r1 ⟨3, 1, (comN (opsOf gl) a b 8).length, (comN (opsOf gl) a b 8).map encI⟩ (fun j => .c (.row j)) Try.call33 (fun e x w' h => common_any (e.rv 0) gl a b w' ⟨Sy.row_reads h (.inr rfl), fun o ho => Sy.later_in h (hr.2 o ho)⟩ hlen hg hmi.1 hmj.1) ?_
              conv => whnf
              refine ⟨(by repeat' ((conv => whnf);first|exact trivial|(refine And.intro ?_ ?_)|rfl)), ?_⟩
              refine zd1 [23] (zx rfl ?_ zy)
              conv => whnf
              ((first|refine z1 ?_|refine z2 ?_|refine z3 ?_|refine z4 ?_);conv => whnf)
              refine ⟨(by repeat' ((conv => whnf);first|exact trivial|(refine And.intro ?_ ?_)|rfl)), ?_⟩
              refine zt 24 rfl ?_
              (conv => whnf);(repeat' ((first|refine z1 ?_|refine z2 ?_|refine z3 ?_|refine z4 ?_|refine z5 ?_|refine z6 ?_|refine z7 ?_|refine z8 ?_|refine z9 ?_|refine za ?_|refine zb ?_|refine zc ?_|refine zd ?_|refine ze ?_|refine zf ?_|refine zg ?_|refine zh ?_|((first|refine zi ?_ ?_|refine zj ?_ ?_|refine zk ?_ ?_)<;> intro hh <;> first|(exfalso;omega)|skip)|(refine zl ?_ ?_<;> intro hh)|refine zm ?_|refine zn ?_|refine zo ?_|refine zp ?_|refine zq ?_|refine zv ?_|refine zr ?_|refine zs _ rfl ?_|refine zu ?_|exact Sy.fin_val (fun e=>rfl));(try conv => whnf)))
              refine zt 25 rfl ?_
              (conv => whnf);(repeat' ((first|refine z1 ?_|refine z2 ?_|refine z3 ?_|refine z4 ?_|refine z5 ?_|refine z6 ?_|refine z7 ?_|refine z8 ?_|refine z9 ?_|refine za ?_|refine zb ?_|refine zc ?_|refine zd ?_|refine ze ?_|refine zf ?_|refine zg ?_|refine zh ?_|((first|refine zi ?_ ?_|refine zj ?_ ?_|refine zk ?_ ?_)<;> intro hh <;> first|(exfalso;omega)|skip)|(refine zl ?_ ?_<;> intro hh)|refine zm ?_|refine zn ?_|refine zo ?_|refine zp ?_|refine zq ?_|refine zv ?_|refine zr ?_|refine zs _ rfl ?_|refine zu ?_|exact Sy.fin_val (fun e=>rfl));(try conv => whnf)))
              refine zw ?_
              skip
              all_goals (((repeat' ((conv => whnf);(first|refine z1 ?_|refine z2 ?_|refine z3 ?_|refine z4 ?_|refine z5 ?_|refine z6 ?_|refine z7 ?_|refine z8 ?_|refine z9 ?_|refine za ?_|refine zb ?_|refine zc ?_|refine zd ?_|refine ze ?_|refine zf ?_|refine zg ?_|refine zh ?_|((first|refine zi ?_ ?_|refine zj ?_ ?_|refine zk ?_ ?_)<;> intro hh <;> first|(exfalso;omega)|skip)|(refine zl ?_ ?_<;> intro hh)|refine zm ?_|refine zn ?_|refine zo ?_|refine zp ?_|refine zq ?_|refine zv ?_|refine zr ?_|refine zs _ rfl ?_|exact Sy.fin_val (fun e=>rfl))));(all_goals (try conv => whnf))))
              all_goals (refine Sy.need_of (by show ((chN (opsOf gl) L i j).length + 1) * 16 ≤ _ ∧ _; omega) ?_)
              all_goals (((repeat' ((conv => whnf);(first|refine z1 ?_|refine z2 ?_|refine z3 ?_|refine z4 ?_|refine z5 ?_|refine z6 ?_|refine z7 ?_|refine z8 ?_|refine z9 ?_|refine za ?_|refine zb ?_|refine zc ?_|refine zd ?_|refine ze ?_|refine zf ?_|refine zg ?_|refine zh ?_|((first|refine zi ?_ ?_|refine zj ?_ ?_|refine zk ?_ ?_)<;> intro hh <;> first|(exfalso;omega)|skip)|(refine zl ?_ ?_<;> intro hh)|refine zm ?_|refine zn ?_|refine zo ?_|refine zp ?_|refine zq ?_|refine zv ?_|refine zr ?_|refine zs _ rfl ?_|exact Sy.fin_val (fun e=>rfl))));(all_goals (try conv => whnf))))
              have es : (chN (opsOf gl) L i j).map encS ++ [[Value.int .i64 (i : Int), Value.int .i64 (j : Int)]] = (chN (opsOf gl) L i (j + 1)).map encS := by rw [hcj, List.map_append]; rfl
              have el : (chN (opsOf gl) L i j).length + 1 = (chN (opsOf gl) L i (j + 1)).length := by rw [hcj, List.length_append]; rfl
              all_goals (rw [es, el])
              all_goals (refine ⟨j + 1, by omega, by omega, ?_⟩)
              all_goals (((repeat' (first|((conv => whnf);done)|((try conv => whnf);first|exact trivial|(refine And.intro ?_ ?_)|rfl|exact fun _ _ _ h=>h|exact fun _ _ _ _=>trivial)));(all_goals (try conv => whnf))))
        · have e : j = L.length := by omega
          subst e
          ((repeat' ((conv => whnf);(first|refine z1 ?_|refine z2 ?_|refine z3 ?_|refine z4 ?_|refine z5 ?_|refine z6 ?_|refine z7 ?_|refine z8 ?_|refine z9 ?_|refine za ?_|refine zb ?_|refine zc ?_|refine zd ?_|refine ze ?_|refine zf ?_|refine zg ?_|refine zh ?_|((first|refine zi ?_ ?_|refine zj ?_ ?_|refine zk ?_ ?_)<;> intro hh <;> first|(exfalso;omega)|skip)|(refine zl ?_ ?_<;> intro hh)|refine zm ?_|refine zn ?_|refine zo ?_|refine zp ?_|refine zq ?_|refine zv ?_|refine zr ?_|refine zs _ rfl ?_|exact Sy.fin_val (fun e=>rfl))));(all_goals (try conv => whnf)))
          refine ⟨i + 1, by omega, by omega, ?_⟩
          rw [chN_i]
          ((repeat' (first|((conv => whnf);done)|((try conv => whnf);first|exact trivial|(refine And.intro ?_ ?_)|rfl|exact fun _ _ _ h=>h|exact fun _ _ _ _=>trivial)));(all_goals (try conv => whnf)))
    · have e : i = L.length := by omega
      subst e
      exact Sy.fin_r1 (.row 3) rfl
end Go.Proofs.Ytcjiaiojkciheaa
