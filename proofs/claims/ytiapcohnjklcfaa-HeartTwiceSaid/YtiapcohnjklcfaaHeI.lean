/- Heart: slices.Delete of one pulse; Drop. -/
import Derived.Test.YtiapcohnjklcfaaHeH
namespace Go.Proofs.Ytiapcohnjklcfaa
open Go Go.RowKit
open Sy (C SV V1 Blk St XD Els)
set_option maxRecDepth 10000
attribute [local irreducible] okN okH ok0 chkE

theorem map_eraseIdx {α β : Type} (f : α → β) (l : List α) (i : Nat) : (l.eraseIdx i).map f = (l.map f).eraseIdx i := by
  rw [List.eraseIdx_eq_take_drop_succ, List.eraseIdx_eq_take_drop_succ, List.map_append, List.map_take, List.map_drop]
theorem del_mid {M : List (List Value)} {n i : Nat} (hM : M.length = n) (hi : i < n) (R Q : List (List Value)) :
    List.take (n - 1) (List.take (0 + (n - 1)) (List.take (i - 0) M ++ (List.take (n - (i + 1)) (List.drop (0 + (i + 1)) M) ++ R)) ++ Q) = M.eraseIdx i := by
  rw [List.eraseIdx_eq_take_drop_succ, Nat.sub_zero, Nat.zero_add, Nat.zero_add]
  have h1 : List.take (n - (i + 1)) (List.drop (i + 1) M) = List.drop (i + 1) M := List.take_of_length_le (by rw [List.length_drop]; omega)
  rw [h1, ← List.append_assoc, List.take_append_of_le_length (l₁ := List.take i M ++ List.drop (i + 1) M) (by simp; omega), List.take_append_of_le_length (by simp; omega), List.take_take, Nat.min_self]
  exact List.take_of_length_le (by simp; omega)
theorem del_end {M : List (List Value)} {n i : Nat} (hM : M.length = n) (hi : i + 1 = n) (R Q : List (List Value)) :
    List.take (n - 1) (List.take (0 + (n - 1)) (List.take (i - 0) M ++ R) ++ Q) = M.eraseIdx i := by
  rw [List.eraseIdx_eq_take_drop_succ, Nat.sub_zero, Nat.zero_add, show n - 1 = i by omega, List.drop_eq_nil_of_le (show M.length ≤ i + 1 by omega), List.append_nil]
  rw [List.take_append_of_le_length (by simp; omega), List.take_append_of_le_length (by simp; omega), List.take_take, List.take_take, Nat.min_self, Nat.min_self]
theorem delete_any (v : Value) (ps : List Pulse) (i : Nat) (w : World) (hown : Sy.OwnE w 51 3 v ps.length (ps.map encP)) (hi : i < ps.length) (hb : ps.length ≤ 1000000) :
    Calls Try.prog 56 #[v, .int .i64 i, .int .i64 (i + 1 : Nat)] w (Sy.RetRows v (fun _ : Unit => True) (fun _ => [⟨51, 3, ps.length - 1, (ps.eraseIdx i).map encP⟩]) (fun _ vs => vs.headD undef) w) := by
  rcases hown.2.2 with ⟨A, hv, hn⟩ | ⟨g, cap, hv, hB⟩
  · exfalso; omega
  · subst hv
    refine Sy.calls_buf Sy.lv56 Sy.tab_ok Try.func56 rfl _ Try.ntmps56 g cap 51 3 ps.length (ps.map encP) hB [] [.c (.sl 0 0 ps.length), .c (.v (.int .i64 i)), .c (.v (.int .i64 (i + 1 : Nat)))] ?_ rfl rfl trivial ?_
    · simp [Sy.denAll, SV.den, C.den, Sy.Env.exts, Sy.Env.withRow, Sy.Env.withBuf, Addr.add]
    · have hcap : ps.length ≤ cap := by have := hB.2.1; rwa [List.length_map] at this
      ((repeat' ((conv => whnf);(first|refine z1 ?_|refine z2 ?_|refine z3 ?_|refine z4 ?_|refine z5 ?_|refine z6 ?_|refine z7 ?_|refine z8 ?_|refine z9 ?_|refine za ?_|refine zb ?_|refine zc ?_|refine zd ?_|refine ze ?_|refine zf ?_|refine zg ?_|refine zh ?_|((first|refine zi ?_ ?_|refine zj ?_ ?_|refine zk ?_ ?_)<;> intro hh <;> first|(exfalso;omega)|skip)|(refine zl ?_ ?_<;> intro hh)|refine zm ?_|refine zn ?_|refine zo ?_|refine zp ?_|refine zq ?_|refine zr ?_|refine zs _ rfl ?_|refine zu ?_|exact Sy.fin_val (fun e=>rfl))));(all_goals (try conv => whnf)))
      refine Sy.need_of ⟨by omega, by omega, by omega, by omega⟩ ?_
      ((repeat' ((conv => whnf);(first|refine z1 ?_|refine z2 ?_|refine z3 ?_|refine z4 ?_|refine z5 ?_|refine z6 ?_|refine z7 ?_|refine z8 ?_|refine z9 ?_|refine za ?_|refine zb ?_|refine zc ?_|refine zd ?_|refine ze ?_|refine zf ?_|refine zg ?_|refine zh ?_|((first|refine zi ?_ ?_|refine zj ?_ ?_|refine zk ?_ ?_)<;> intro hh <;> first|(exfalso;omega)|skip)|(refine zl ?_ ?_<;> intro hh)|refine zm ?_|refine zn ?_|refine zo ?_|refine zp ?_|refine zq ?_|refine zr ?_|refine zs _ rfl ?_|refine zu ?_|exact Sy.fin_val (fun e=>rfl))));(all_goals (try conv => whnf)))
      by_cases hlast : i + 1 < cap
      · refine Sy.draw_go [0] (by kernel_rfl) ?_
        intro e0
        conv => whnf
        refine zt 0 rfl ?_
        conv => whnf
        refine zt 1 rfl ?_
        conv => whnf
        refine zt 3 rfl ?_
        conv => whnf
        refine zt 4 rfl ?_
        conv => whnf
        focus
          refine zd1 [2, 5] (zx rfl ?_ (zx rfl ?_ zy))
          focus
            conv => whnf
            refine Sy.sli_nat (lo := 0) ⟨by omega, by omega⟩ ?_
            conv => whnf
            refine Sy.br_dec (fun hh => ?_) (fun hh => by exfalso; omega)
            conv => whnf
            refine Sy.rev_in (by show 0 + i ≤ (ps.map encP).length; rw [List.length_map]; omega) ?_
            conv => whnf
            refine ⟨(by repeat' ((conv => whnf);first|exact trivial|(refine And.intro ?_ ?_)|rfl)), ?_⟩
            refine zd1 [5] (zx rfl ?_ zy)
            conv => whnf
            refine Sy.sli_nat ⟨by omega, by omega⟩ ?_
            conv => whnf
            refine Sy.br_dec (fun hh => ?_) (fun hh => by exfalso; omega)
            conv => whnf
            refine Sy.rev_in (by show 0 + ps.length ≤ (ps.map encP).length; rw [List.length_map]; omega) ?_
            conv => whnf
            refine ⟨(by repeat' ((conv => whnf);first|exact trivial|(refine And.intro ?_ ?_)|rfl)), ?_⟩
            refine zd1 [6] (zx rfl ?_ zy)
            conv => whnf
            refine Sy.need_of (by show 0 + (i + 1) + (ps.length - (i + 1)) ≤ (ps.map encP).length; rw [List.length_map]; omega) ?_
            conv => whnf
            refine Sy.need_of (by show i - 0 ≤ (ps.map encP).length; rw [List.length_map]; omega) ?_
            conv => whnf
            refine Sy.br_dec (fun hh => ?_) (fun hh => by exfalso; omega)
            conv => whnf
            refine ⟨(by repeat' ((conv => whnf);first|exact trivial|(refine And.intro ?_ ?_)|rfl)), ?_⟩
            refine zt 7 rfl ?_
            conv => whnf
            refine zw ?_
            ((repeat' ((conv => whnf);(first|refine z1 ?_|refine z2 ?_|refine z3 ?_|refine z4 ?_|refine z5 ?_|refine z6 ?_|refine z7 ?_|refine z8 ?_|refine z9 ?_|refine za ?_|refine zb ?_|refine zc ?_|refine zd ?_|refine ze ?_|refine zf ?_|refine zg ?_|refine zh ?_|((first|refine zi ?_ ?_|refine zj ?_ ?_|refine zk ?_ ?_)<;> intro hh <;> first|(exfalso;omega)|skip)|(refine zl ?_ ?_<;> intro hh)|refine zm ?_|refine zn ?_|refine zo ?_|refine zp ?_|refine zq ?_|refine zr ?_|refine zs _ rfl ?_|refine zu ?_|exact Sy.fin_val (fun e=>rfl))));(all_goals (try conv => whnf)))
            refine Sy.sli_eq (ps.length - 1) ps.length (by omega) rfl ⟨by omega, by omega⟩ ?_
            conv => whnf
            refine Sy.br_dec (fun hh => ?_) (fun hh => by exfalso; omega)
            conv => whnf
            refine Sy.rev_in (by show _ ≤ List.length (_ ++ (_ ++ _)); simp only [List.length_append, List.length_take, List.length_drop, List.length_map]; omega) ?_
            ((repeat' ((conv => whnf);(first|refine z1 ?_|refine z2 ?_|refine z3 ?_|refine z4 ?_|refine z5 ?_|refine z6 ?_|refine z7 ?_|refine z8 ?_|refine z9 ?_|refine za ?_|refine zb ?_|refine zc ?_|refine zd ?_|refine ze ?_|refine zf ?_|refine zg ?_|refine zh ?_|((first|refine zi ?_ ?_|refine zj ?_ ?_|refine zk ?_ ?_)<;> intro hh <;> first|(exfalso;omega)|skip)|(refine zl ?_ ?_<;> intro hh)|refine zm ?_|refine zn ?_|refine zo ?_|refine zp ?_|refine zq ?_|refine zr ?_|refine zs _ rfl ?_|refine zu ?_|exact Sy.fin_val (fun e=>rfl))));(all_goals (try conv => whnf)))
            refine Sy.need_of (by show _ ≤ List.length _; (try simp only [List.length_append, List.length_take, List.length_drop, List.length_map, List.length_replicate, List.length_cons, List.length_nil]); omega) ?_
            ((repeat' ((conv => whnf);(first|refine z1 ?_|refine z2 ?_|refine z3 ?_|refine z4 ?_|refine z5 ?_|refine z6 ?_|refine z7 ?_|refine z8 ?_|refine z9 ?_|refine za ?_|refine zb ?_|refine zc ?_|refine zd ?_|refine ze ?_|refine zf ?_|refine zg ?_|refine zh ?_|((first|refine zi ?_ ?_|refine zj ?_ ?_|refine zk ?_ ?_)<;> intro hh <;> first|(exfalso;omega)|skip)|(refine zl ?_ ?_<;> intro hh)|refine zm ?_|refine zn ?_|refine zo ?_|refine zp ?_|refine zq ?_|refine zr ?_|refine zs _ rfl ?_|refine zu ?_|exact Sy.fin_val (fun e=>rfl))));(all_goals (try conv => whnf)))
            refine Sy.fin_buf () trivial rfl (by show _ ≤ List.length _; (try simp only [List.length_append, List.length_take, List.length_drop, List.length_map, List.length_replicate, List.length_cons, List.length_nil]); omega) (by rw [show i - 0 + (ps.length - (i + 1)) = ps.length - 1 by omega]; rfl) (ys := (ps.eraseIdx i).map encP) (fun e => ?_)
            rw [show i - 0 + (ps.length - (i + 1)) = ps.length - 1 by omega, map_eraseIdx]
            exact del_mid (by simp) hi _ _
          rotate_right
          focus
            conv => whnf
            refine Sy.sli_nat ⟨by omega, by omega⟩ ?_
            conv => whnf
            refine Sy.br_dec (fun hh => ?_) (fun hh => by exfalso; omega)
            conv => whnf
            refine Sy.rev_in (by show 0 + ps.length ≤ (ps.map encP).length; rw [List.length_map]; omega) ?_
            conv => whnf
            refine ⟨(by repeat' ((conv => whnf);first|exact trivial|(refine And.intro ?_ ?_)|rfl)), ?_⟩
            refine zd1 [2] (zx rfl ?_ zy)
            conv => whnf
            refine Sy.sli_nat (lo := 0) ⟨by omega, by omega⟩ ?_
            conv => whnf
            refine Sy.br_dec (fun hh => ?_) (fun hh => by exfalso; omega)
            conv => whnf
            refine Sy.rev_in (by show 0 + i ≤ (ps.map encP).length; rw [List.length_map]; omega) ?_
            conv => whnf
            refine ⟨(by repeat' ((conv => whnf);first|exact trivial|(refine And.intro ?_ ?_)|rfl)), ?_⟩
            refine zd1 [6] (zx rfl ?_ zy)
            conv => whnf
            refine Sy.need_of (by show 0 + (i + 1) + (ps.length - (i + 1)) ≤ (ps.map encP).length; rw [List.length_map]; omega) ?_
            conv => whnf
            refine Sy.need_of (by show i - 0 ≤ (ps.map encP).length; rw [List.length_map]; omega) ?_
            conv => whnf
            refine Sy.br_dec (fun hh => ?_) (fun hh => by exfalso; omega)
            conv => whnf
            refine ⟨(by repeat' ((conv => whnf);first|exact trivial|(refine And.intro ?_ ?_)|rfl)), ?_⟩
            refine zt 7 rfl ?_
            conv => whnf
            refine zw ?_
            ((repeat' ((conv => whnf);(first|refine z1 ?_|refine z2 ?_|refine z3 ?_|refine z4 ?_|refine z5 ?_|refine z6 ?_|refine z7 ?_|refine z8 ?_|refine z9 ?_|refine za ?_|refine zb ?_|refine zc ?_|refine zd ?_|refine ze ?_|refine zf ?_|refine zg ?_|refine zh ?_|((first|refine zi ?_ ?_|refine zj ?_ ?_|refine zk ?_ ?_)<;> intro hh <;> first|(exfalso;omega)|skip)|(refine zl ?_ ?_<;> intro hh)|refine zm ?_|refine zn ?_|refine zo ?_|refine zp ?_|refine zq ?_|refine zr ?_|refine zs _ rfl ?_|refine zu ?_|exact Sy.fin_val (fun e=>rfl))));(all_goals (try conv => whnf)))
            refine Sy.sli_eq (ps.length - 1) ps.length (by omega) rfl ⟨by omega, by omega⟩ ?_
            conv => whnf
            refine Sy.br_dec (fun hh => ?_) (fun hh => by exfalso; omega)
            conv => whnf
            refine Sy.rev_in (by show _ ≤ List.length (_ ++ (_ ++ _)); simp only [List.length_append, List.length_take, List.length_drop, List.length_map]; omega) ?_
            ((repeat' ((conv => whnf);(first|refine z1 ?_|refine z2 ?_|refine z3 ?_|refine z4 ?_|refine z5 ?_|refine z6 ?_|refine z7 ?_|refine z8 ?_|refine z9 ?_|refine za ?_|refine zb ?_|refine zc ?_|refine zd ?_|refine ze ?_|refine zf ?_|refine zg ?_|refine zh ?_|((first|refine zi ?_ ?_|refine zj ?_ ?_|refine zk ?_ ?_)<;> intro hh <;> first|(exfalso;omega)|skip)|(refine zl ?_ ?_<;> intro hh)|refine zm ?_|refine zn ?_|refine zo ?_|refine zp ?_|refine zq ?_|refine zr ?_|refine zs _ rfl ?_|refine zu ?_|exact Sy.fin_val (fun e=>rfl))));(all_goals (try conv => whnf)))
            refine Sy.need_of (by show _ ≤ List.length _; (try simp only [List.length_append, List.length_take, List.length_drop, List.length_map, List.length_replicate, List.length_cons, List.length_nil]); omega) ?_
            ((repeat' ((conv => whnf);(first|refine z1 ?_|refine z2 ?_|refine z3 ?_|refine z4 ?_|refine z5 ?_|refine z6 ?_|refine z7 ?_|refine z8 ?_|refine z9 ?_|refine za ?_|refine zb ?_|refine zc ?_|refine zd ?_|refine ze ?_|refine zf ?_|refine zg ?_|refine zh ?_|((first|refine zi ?_ ?_|refine zj ?_ ?_|refine zk ?_ ?_)<;> intro hh <;> first|(exfalso;omega)|skip)|(refine zl ?_ ?_<;> intro hh)|refine zm ?_|refine zn ?_|refine zo ?_|refine zp ?_|refine zq ?_|refine zr ?_|refine zs _ rfl ?_|refine zu ?_|exact Sy.fin_val (fun e=>rfl))));(all_goals (try conv => whnf)))
            refine Sy.fin_buf () trivial rfl (by show _ ≤ List.length _; (try simp only [List.length_append, List.length_take, List.length_drop, List.length_map, List.length_replicate, List.length_cons, List.length_nil]); omega) (by rw [show i - 0 + (ps.length - (i + 1)) = ps.length - 1 by omega]; rfl) (ys := (ps.eraseIdx i).map encP) (fun e => ?_)
            rw [show i - 0 + (ps.length - (i + 1)) = ps.length - 1 by omega, map_eraseIdx]
            exact del_mid (by simp) hi _ _
      · have hcn : cap = ps.length := by omega
        have hin : i + 1 = ps.length := by omega
        refine Sy.draw_go [0] (by kernel_rfl) ?_
        intro e0
        conv => whnf
        refine zt 0 rfl ?_
        conv => whnf
        refine zt 1 rfl ?_
        conv => whnf
        refine zt 3 rfl ?_
        conv => whnf
        refine zt 4 rfl ?_
        conv => whnf
        focus
          refine zd1 [2, 5] (zx rfl ?_ (zx rfl ?_ zy))
          focus
            conv => whnf
            refine Sy.sli_nat (lo := 0) ⟨by omega, by omega⟩ ?_
            conv => whnf
            refine Sy.br_dec (fun hh => ?_) (fun hh => by exfalso; omega)
            conv => whnf
            refine Sy.rev_in (by show 0 + i ≤ (ps.map encP).length; rw [List.length_map]; omega) ?_
            conv => whnf
            refine ⟨(by repeat' ((conv => whnf);first|exact trivial|(refine And.intro ?_ ?_)|rfl)), ?_⟩
            refine zd1 [5] (zx rfl ?_ zy)
            conv => whnf
            refine Sy.sli_nat ⟨by omega, by omega⟩ ?_
            conv => whnf
            refine Sy.br_dec (fun hh => by exfalso; omega) (fun hh => ?_)
            conv => whnf
            refine ⟨(by repeat' ((conv => whnf);first|exact trivial|(refine And.intro ?_ ?_)|rfl)), ?_⟩
            refine zd1 [6] (zx rfl ?_ zy)
            conv => whnf
            refine Sy.need_of (by show _ ≤ List.length _; (try simp only [List.length_append, List.length_take, List.length_drop, List.length_map, List.length_replicate, List.length_cons, List.length_nil]); omega) ?_
            conv => whnf
            refine Sy.br_dec (fun hh => ?_) (fun hh => by exfalso; omega)
            conv => whnf
            refine ⟨(by repeat' ((conv => whnf);first|exact trivial|(refine And.intro ?_ ?_)|rfl)), ?_⟩
            refine zt 7 rfl ?_
            conv => whnf
            refine zw ?_
            ((repeat' ((conv => whnf);(first|refine z1 ?_|refine z2 ?_|refine z3 ?_|refine z4 ?_|refine z5 ?_|refine z6 ?_|refine z7 ?_|refine z8 ?_|refine z9 ?_|refine za ?_|refine zb ?_|refine zc ?_|refine zd ?_|refine ze ?_|refine zf ?_|refine zg ?_|refine zh ?_|((first|refine zi ?_ ?_|refine zj ?_ ?_|refine zk ?_ ?_)<;> intro hh <;> first|(exfalso;omega)|skip)|(refine zl ?_ ?_<;> intro hh)|refine zm ?_|refine zn ?_|refine zo ?_|refine zp ?_|refine zq ?_|refine zr ?_|refine zs _ rfl ?_|refine zu ?_|exact Sy.fin_val (fun e=>rfl))));(all_goals (try conv => whnf)))
            refine Sy.sli_eq (ps.length - 1) ps.length (by omega) rfl ⟨by omega, by omega⟩ ?_
            conv => whnf
            refine Sy.br_dec (fun hh => ?_) (fun hh => by exfalso; omega)
            conv => whnf
            refine Sy.rev_in (by show _ ≤ List.length _; (try simp only [List.length_append, List.length_take, List.length_drop, List.length_map, List.length_replicate, List.length_cons, List.length_nil]); omega) ?_
            ((repeat' ((conv => whnf);(first|refine z1 ?_|refine z2 ?_|refine z3 ?_|refine z4 ?_|refine z5 ?_|refine z6 ?_|refine z7 ?_|refine z8 ?_|refine z9 ?_|refine za ?_|refine zb ?_|refine zc ?_|refine zd ?_|refine ze ?_|refine zf ?_|refine zg ?_|refine zh ?_|((first|refine zi ?_ ?_|refine zj ?_ ?_|refine zk ?_ ?_)<;> intro hh <;> first|(exfalso;omega)|skip)|(refine zl ?_ ?_<;> intro hh)|refine zm ?_|refine zn ?_|refine zo ?_|refine zp ?_|refine zq ?_|refine zr ?_|refine zs _ rfl ?_|refine zu ?_|exact Sy.fin_val (fun e=>rfl))));(all_goals (try conv => whnf)))
            refine Sy.need_of (by show _ ≤ List.length _; (try simp only [List.length_append, List.length_take, List.length_drop, List.length_map, List.length_replicate, List.length_cons, List.length_nil]); omega) ?_
            ((repeat' ((conv => whnf);(first|refine z1 ?_|refine z2 ?_|refine z3 ?_|refine z4 ?_|refine z5 ?_|refine z6 ?_|refine z7 ?_|refine z8 ?_|refine z9 ?_|refine za ?_|refine zb ?_|refine zc ?_|refine zd ?_|refine ze ?_|refine zf ?_|refine zg ?_|refine zh ?_|((first|refine zi ?_ ?_|refine zj ?_ ?_|refine zk ?_ ?_)<;> intro hh <;> first|(exfalso;omega)|skip)|(refine zl ?_ ?_<;> intro hh)|refine zm ?_|refine zn ?_|refine zo ?_|refine zp ?_|refine zq ?_|refine zr ?_|refine zs _ rfl ?_|refine zu ?_|exact Sy.fin_val (fun e=>rfl))));(all_goals (try conv => whnf)))
            refine Sy.fin_buf () trivial rfl (by show _ ≤ List.length _; (try simp only [List.length_append, List.length_take, List.length_drop, List.length_map, List.length_replicate, List.length_cons, List.length_nil]); omega) (by rw [show i - 0 + 0 = ps.length - 1 by omega]; rfl) (ys := (ps.eraseIdx i).map encP) (fun e => ?_)
            rw [show i - 0 + 0 = ps.length - 1 by omega, map_eraseIdx]
            exact del_end (by simp) hin _ _
          rotate_right
          focus
            conv => whnf
            refine Sy.sli_nat ⟨by omega, by omega⟩ ?_
            conv => whnf
            refine Sy.br_dec (fun hh => by exfalso; omega) (fun hh => ?_)
            conv => whnf
            refine ⟨(by repeat' ((conv => whnf);first|exact trivial|(refine And.intro ?_ ?_)|rfl)), ?_⟩
            refine zd1 [2] (zx rfl ?_ zy)
            conv => whnf
            refine Sy.sli_nat (lo := 0) ⟨by omega, by omega⟩ ?_
            conv => whnf
            refine Sy.br_dec (fun hh => ?_) (fun hh => by exfalso; omega)
            conv => whnf
            refine Sy.rev_in (by show 0 + i ≤ (ps.map encP).length; rw [List.length_map]; omega) ?_
            conv => whnf
            refine ⟨(by repeat' ((conv => whnf);first|exact trivial|(refine And.intro ?_ ?_)|rfl)), ?_⟩
            refine zd1 [6] (zx rfl ?_ zy)
            conv => whnf
            refine Sy.need_of (by show _ ≤ List.length _; (try simp only [List.length_append, List.length_take, List.length_drop, List.length_map, List.length_replicate, List.length_cons, List.length_nil]); omega) ?_
            conv => whnf
            refine Sy.br_dec (fun hh => ?_) (fun hh => by exfalso; omega)
            conv => whnf
            refine ⟨(by repeat' ((conv => whnf);first|exact trivial|(refine And.intro ?_ ?_)|rfl)), ?_⟩
            refine zt 7 rfl ?_
            conv => whnf
            refine zw ?_
            ((repeat' ((conv => whnf);(first|refine z1 ?_|refine z2 ?_|refine z3 ?_|refine z4 ?_|refine z5 ?_|refine z6 ?_|refine z7 ?_|refine z8 ?_|refine z9 ?_|refine za ?_|refine zb ?_|refine zc ?_|refine zd ?_|refine ze ?_|refine zf ?_|refine zg ?_|refine zh ?_|((first|refine zi ?_ ?_|refine zj ?_ ?_|refine zk ?_ ?_)<;> intro hh <;> first|(exfalso;omega)|skip)|(refine zl ?_ ?_<;> intro hh)|refine zm ?_|refine zn ?_|refine zo ?_|refine zp ?_|refine zq ?_|refine zr ?_|refine zs _ rfl ?_|refine zu ?_|exact Sy.fin_val (fun e=>rfl))));(all_goals (try conv => whnf)))
            refine Sy.sli_eq (ps.length - 1) ps.length (by omega) rfl ⟨by omega, by omega⟩ ?_
            conv => whnf
            refine Sy.br_dec (fun hh => ?_) (fun hh => by exfalso; omega)
            conv => whnf
            refine Sy.rev_in (by show _ ≤ List.length _; (try simp only [List.length_append, List.length_take, List.length_drop, List.length_map, List.length_replicate, List.length_cons, List.length_nil]); omega) ?_
            ((repeat' ((conv => whnf);(first|refine z1 ?_|refine z2 ?_|refine z3 ?_|refine z4 ?_|refine z5 ?_|refine z6 ?_|refine z7 ?_|refine z8 ?_|refine z9 ?_|refine za ?_|refine zb ?_|refine zc ?_|refine zd ?_|refine ze ?_|refine zf ?_|refine zg ?_|refine zh ?_|((first|refine zi ?_ ?_|refine zj ?_ ?_|refine zk ?_ ?_)<;> intro hh <;> first|(exfalso;omega)|skip)|(refine zl ?_ ?_<;> intro hh)|refine zm ?_|refine zn ?_|refine zo ?_|refine zp ?_|refine zq ?_|refine zr ?_|refine zs _ rfl ?_|refine zu ?_|exact Sy.fin_val (fun e=>rfl))));(all_goals (try conv => whnf)))
            refine Sy.need_of (by show _ ≤ List.length _; (try simp only [List.length_append, List.length_take, List.length_drop, List.length_map, List.length_replicate, List.length_cons, List.length_nil]); omega) ?_
            ((repeat' ((conv => whnf);(first|refine z1 ?_|refine z2 ?_|refine z3 ?_|refine z4 ?_|refine z5 ?_|refine z6 ?_|refine z7 ?_|refine z8 ?_|refine z9 ?_|refine za ?_|refine zb ?_|refine zc ?_|refine zd ?_|refine ze ?_|refine zf ?_|refine zg ?_|refine zh ?_|((first|refine zi ?_ ?_|refine zj ?_ ?_|refine zk ?_ ?_)<;> intro hh <;> first|(exfalso;omega)|skip)|(refine zl ?_ ?_<;> intro hh)|refine zm ?_|refine zn ?_|refine zo ?_|refine zp ?_|refine zq ?_|refine zr ?_|refine zs _ rfl ?_|refine zu ?_|exact Sy.fin_val (fun e=>rfl))));(all_goals (try conv => whnf)))
            refine Sy.fin_buf () trivial rfl (by show _ ≤ List.length _; (try simp only [List.length_append, List.length_take, List.length_drop, List.length_map, List.length_replicate, List.length_cons, List.length_nil]); omega) (by rw [show i - 0 + 0 = ps.length - 1 by omega]; rfl) (ys := (ps.eraseIdx i).map encP) (fun e => ?_)
            rw [show i - 0 + 0 = ps.length - 1 by omega, map_eraseIdx]
            exact del_end (by simp) hin _ _

def hasW (k : Int) (ps : List Pulse) : Bool := ps.any fun p => p.worker == k
def dropL (k : Int) (ps : List Pulse) : List Pulse := ps.filter fun p => !(p.worker == k)
def dropV (now span : Int) (ps : List Pulse) (k : Int) : HS × Int :=
  if okH now span ps = true then (if hasW k ps = true then (⟨now, span, dropL k ps⟩, 0) else (hs0, 4)) else (hs0, 360)
theorem drop_there {k : Int} : ∀ {ps : List Pulse} {i : Nat} {p : Pulse}, ps[i]? = some p → p.worker = k → (∀ m q, m ≠ i → ps[m]? = some q → q.worker ≠ k) → ps.eraseIdx i = dropL k ps
  | [], i, p, hp, _, _ => by simp at hp
  | q :: r, 0, p, hp, he, hn => by
    have hq : q = p := by simpa using hp
    subst hq
    have : r.filter (fun p => !(p.worker == k)) = r := by
      rw [List.filter_eq_self]
      intro p hp
      obtain ⟨m, hm⟩ := List.mem_iff_getElem?.1 hp
      simpa using hn (m + 1) p (by omega) (by simpa using hm)
    simp [dropL, he, this]
  | q :: r, i + 1, p, hp, he, hn => by
    have h0 := hn 0 q (by omega) rfl
    have := drop_there (ps := r) (i := i) (p := p) (by simpa using hp) he (fun m q hm hq => hn (m + 1) q (by omega) (by simpa using hq))
    simp [dropL, List.eraseIdx_cons_succ, this, h0]
theorem has_there {k : Int} {ps : List Pulse} {i : Nat} {p : Pulse} (hp : ps[i]? = some p) (he : p.worker = k) : hasW k ps = true := by
  rw [hasW, List.any_eq_true]; exact ⟨p, List.mem_of_getElem? hp, by simpa using he⟩
theorem has_not {k : Int} {ps : List Pulse} (h : ∀ (m : Nat) p, ps[m]? = some p → p.worker ≠ k) : ¬ hasW k ps = true := by
  rw [hasW, List.any_eq_true]
  rintro ⟨p, hp, he⟩
  obtain ⟨m, hm⟩ := List.mem_iff_getElem?.1 hp
  exact h m p hm (by simpa using he)
/-- What a search says, whatever is sought. -/
theorem srch_not {ps : List Pulse} {k : Int} {i : Nat} {there : Bool} (hw : Wks ps) (h : srchP ps k (i, there)) (ht : there = false) : ∀ (m : Nat) p, ps[m]? = some p → p.worker ≠ k := by
  intro m p hp he
  obtain ⟨h1, h2, h3⟩ := h
  have h0 := hw m m p p hp hp (Nat.le_refl _)
  obtain ⟨h3, h4⟩ := h3 (by omega) (by omega)
  simp only at h1 h2 h3 h4
  by_cases hm : m < i
  · have := h3 m p hm hp; omega
  · have hi : i < ps.length := by have := (List.getElem?_eq_some_iff.1 hp).1; omega
    have hq := List.getElem?_eq_getElem hi
    have h5 := h4 i _ (Nat.le_refl _) hq
    by_cases hmi : m = i
    · subst hmi
      have := h2.2 ⟨p, hp, he⟩
      rw [ht] at this; cases this
    · have h6 := hw i m _ p hq hp (by omega)
      omega
theorem wks_other {ps : List Pulse} (hw : Wks ps) {i : Nat} {p : Pulse} (hp : ps[i]? = some p) : ∀ m q, m ≠ i → ps[m]? = some q → q.worker ≠ p.worker := by
  intro m q hm hq
  rcases Nat.lt_or_ge m i with h | h
  · have := hw m i q p hq hp (by omega); omega
  · have := hw i m p q hp hq h; omega
theorem drop_any (now span : Int) (v : Value) (ps : List Pulse) (k : Int) (w : World) (hn : I64 now) (hk : I64 k) (hr : XD.ok (fun b => b < w.heap.size) w ⟨v, 3, ps.length, ps.map encP⟩) :
    Calls Try.prog 38 #[.agg #[.int .i64 now, .int .i64 span, v], .int .i64 k] w (Sy.RetRows Sy.noRow (fun _ : Unit => True) (fun _ => [rowH (dropV now span ps k).1])
      (fun _ vs => .tuple #[valH (dropV now span ps k).1 (vs.headD undef), .int .i64 (dropV now span ps k).2]) w) := by
  have hl := ok_len hr
  refine Sy.calls_of Sy.lv38 Sy.tab_ok Try.func38 rfl _ Try.ntmps38 [⟨v, 3, ps.length, ps.map encP⟩] [.agg [.v (.int .i64 now), .v (.int .i64 span), .row 0], .c (.v (.int .i64 k))] rfl rfl rfl ⟨hr, trivial⟩ ?_
  ((repeat' ((conv => whnf);(first|refine z1 ?_|refine z2 ?_|refine z3 ?_|refine z4 ?_|refine z5 ?_|refine z6 ?_|refine z7 ?_|refine z8 ?_|refine z9 ?_|refine za ?_|refine zb ?_|refine zc ?_|refine zd ?_|refine ze ?_|refine zf ?_|refine zg ?_|refine zh ?_|((first|refine zi ?_ ?_|refine zj ?_ ?_|refine zk ?_ ?_)<;> intro hh <;> first|(exfalso;omega)|skip)|(refine zl ?_ ?_<;> intro hh)|refine zm ?_|refine zn ?_|refine zo ?_|refine zp ?_|refine zq ?_|refine zr ?_|refine zs _ rfl ?_|refine zu ?_|exact Sy.fin_val (fun e=>rfl))));(all_goals (try conv => whnf)))
  refine Sy.call_in Sy.lv31 Sy.tab_ok Try.func31 rfl _ Try.ntmps31 Try.call31 rfl (fun _ => ?_)
  ((repeat' ((conv => whnf);(first|refine z1 ?_|refine z2 ?_|refine z3 ?_|refine z4 ?_|refine z5 ?_|refine z6 ?_|refine z7 ?_|refine z8 ?_|refine z9 ?_|refine za ?_|refine zb ?_|refine zc ?_|refine zd ?_|refine ze ?_|refine zf ?_|refine zg ?_|refine zh ?_|((first|refine zi ?_ ?_|refine zj ?_ ?_|refine zk ?_ ?_)<;> intro hh <;> first|(exfalso;omega)|skip)|(refine zl ?_ ?_<;> intro hh)|refine zm ?_|refine zn ?_|refine zo ?_|refine zp ?_|refine zq ?_|refine zr ?_|refine zs _ rfl ?_|refine zu ?_|exact Sy.fin_val (fun e=>rfl))));(all_goals (try conv => whnf)))
  refine Sy.call_val (.c (.v (.int .i64 (chkE now span ps)))) Try.call22 rfl (fun e a w' h => check_any now span _ ps w' hn (Sy.row_reads h (.inr rfl))) ?_
  by_cases hok : okH now span ps = true
  · have hb := okH_len now span ps hok
    have hwk := okH_wks now span ps hok
    have eV : dropV now span ps k = if hasW k ps = true then (⟨now, span, dropL k ps⟩, 0) else (hs0, 4) := by rw [dropV, if_pos hok]
    rw [show chkE now span ps = 0 by unfold chkE; rw [if_pos hok]]
    ((repeat' ((conv => whnf);(first|refine z1 ?_|refine z2 ?_|refine z3 ?_|refine z4 ?_|refine z5 ?_|refine z6 ?_|refine z7 ?_|refine z8 ?_|refine z9 ?_|refine za ?_|refine zb ?_|refine zc ?_|refine zd ?_|refine ze ?_|refine zf ?_|refine zg ?_|refine zh ?_|((first|refine zi ?_ ?_|refine zj ?_ ?_|refine zk ?_ ?_)<;> intro hh <;> first|(exfalso;omega)|skip)|(refine zl ?_ ?_<;> intro hh)|refine zm ?_|refine zn ?_|refine zo ?_|refine zp ?_|refine zq ?_|refine zr ?_|refine zs _ rfl ?_|refine zu ?_|exact Sy.fin_val (fun e=>rfl))));(all_goals (try conv => whnf)))
    refine Sy.call_rows none (fun _ : Unit => True) (fun _ => [⟨51, 3, ps.length, ps.map encP⟩]) (fun _ => .c (.row 7)) Try.call49 (fun j hj => by cases hj) (fun _ _ => rfl)
      (fun e a w' h => Sy.rows_one (clone_any _ ps w' (Sy.row_reads (k := 0) h (.inr rfl)) (by omega)) (fun x u => rfl)) (fun _ _ => ?_)
    ((repeat' ((conv => whnf);(first|refine z1 ?_|refine z2 ?_|refine z3 ?_|refine z4 ?_|refine z5 ?_|refine z6 ?_|refine z7 ?_|refine z8 ?_|refine z9 ?_|refine za ?_|refine zb ?_|refine zc ?_|refine zd ?_|refine ze ?_|refine zf ?_|refine zg ?_|refine zh ?_|((first|refine zi ?_ ?_|refine zj ?_ ?_|refine zk ?_ ?_)<;> intro hh <;> first|(exfalso;omega)|skip)|(refine zl ?_ ?_<;> intro hh)|refine zm ?_|refine zn ?_|refine zo ?_|refine zp ?_|refine zq ?_|refine zr ?_|refine zs _ rfl ?_|refine zu ?_|exact Sy.fin_val (fun e=>rfl))));(all_goals (try conv => whnf)))
    refine Sy.call_in Sy.lv55 Sy.tab_ok Try.func55 rfl _ Try.ntmps55 Try.call55 rfl (fun _ => ?_)
    ((repeat' ((conv => whnf);(first|refine z1 ?_|refine z2 ?_|refine z3 ?_|refine z4 ?_|refine z5 ?_|refine z6 ?_|refine z7 ?_|refine z8 ?_|refine z9 ?_|refine za ?_|refine zb ?_|refine zc ?_|refine zd ?_|refine ze ?_|refine zf ?_|refine zg ?_|refine zh ?_|((first|refine zi ?_ ?_|refine zj ?_ ?_|refine zk ?_ ?_)<;> intro hh <;> first|(exfalso;omega)|skip)|(refine zl ?_ ?_<;> intro hh)|refine zm ?_|refine zn ?_|refine zo ?_|refine zp ?_|refine zq ?_|refine zr ?_|refine zs _ rfl ?_|refine zu ?_|exact Sy.fin_val (fun e=>rfl))));(all_goals (try conv => whnf)))
    refine Sy.call_in Sy.lv33 Sy.tab_ok Try.func33 rfl _ Try.ntmps33 Try.call33 rfl (fun _ => ?_)
    ((repeat' ((conv => whnf);(first|refine z1 ?_|refine z2 ?_|refine z3 ?_|refine z4 ?_|refine z5 ?_|refine z6 ?_|refine z7 ?_|refine z8 ?_|refine z9 ?_|refine za ?_|refine zb ?_|refine zc ?_|refine zd ?_|refine ze ?_|refine zf ?_|refine zg ?_|refine zh ?_|((first|refine zi ?_ ?_|refine zj ?_ ?_|refine zk ?_ ?_)<;> intro hh <;> first|(exfalso;omega)|skip)|(refine zl ?_ ?_<;> intro hh)|refine zm ?_|refine zn ?_|refine zo ?_|refine zp ?_|refine zq ?_|refine zr ?_|refine zs _ rfl ?_|refine zu ?_|exact Sy.fin_val (fun e=>rfl))));(all_goals (try conv => whnf)))
    refine Sy.call_ex (srchP ps k) (fun x => .tup [.c (.v (.int .i64 x.1)), .c (.v (.bool x.2))]) Try.call50 (fun _ _ => rfl)
      (fun e a w' h => srch_any _ ps k w' (Sy.row_reads (k := 7) h (.inl ⟨_, rfl⟩)) hwk hk hb) (fun x hx => ?_)
    obtain ⟨i, there⟩ := x
    ((repeat' ((conv => whnf);(first|refine z1 ?_|refine z2 ?_|refine z3 ?_|refine z4 ?_|refine z5 ?_|refine z6 ?_|refine z7 ?_|refine z8 ?_|refine z9 ?_|refine za ?_|refine zb ?_|refine zc ?_|refine zd ?_|refine ze ?_|refine zf ?_|refine zg ?_|refine zh ?_|((first|refine zi ?_ ?_|refine zj ?_ ?_|refine zk ?_ ?_)<;> intro hh <;> first|(exfalso;omega)|skip)|(refine zl ?_ ?_<;> intro hh)|refine zm ?_|refine zn ?_|refine zo ?_|refine zp ?_|refine zq ?_|refine zr ?_|refine zs _ rfl ?_|refine zu ?_|exact Sy.fin_val (fun e=>rfl))));(all_goals (try conv => whnf)))
    · obtain ⟨p, hp, hpk⟩ := hx.2.1.1 (by assumption)
      simp only at hp
      have hi : i < ps.length := (List.getElem?_eq_some_iff.1 hp).1
      rw [if_pos (has_there hp hpk)] at eV
      rw [eV, ← drop_there hp hpk (fun m q hm hq => by have := wks_other hwk hp m q hm hq; rwa [hpk] at this)]
      refine Sy.ar_eq (y := ((i + 1 : Nat) : Int)) (by simp only; omega) (by omega) ?_
      ((repeat' ((conv => whnf);(first|refine z1 ?_|refine z2 ?_|refine z3 ?_|refine z4 ?_|refine z5 ?_|refine z6 ?_|refine z7 ?_|refine z8 ?_|refine z9 ?_|refine za ?_|refine zb ?_|refine zc ?_|refine zd ?_|refine ze ?_|refine zf ?_|refine zg ?_|refine zh ?_|((first|refine zi ?_ ?_|refine zj ?_ ?_|refine zk ?_ ?_)<;> intro hh <;> first|(exfalso;omega)|skip)|(refine zl ?_ ?_<;> intro hh)|refine zm ?_|refine zn ?_|refine zo ?_|refine zp ?_|refine zq ?_|refine zr ?_|refine zs _ rfl ?_|refine zu ?_|exact Sy.fin_val (fun e=>rfl))));(all_goals (try conv => whnf)))
      refine Sy.call_rows (some 7) (fun _ : Unit => True) (fun _ => [⟨51, 3, ps.length - 1, (ps.eraseIdx i).map encP⟩]) (fun _ => .c (.row 8)) Try.call56 (fun j hj => by cases hj; exact ⟨_, _, _, _, rfl⟩) (fun _ _ => rfl)
        (fun e a w' h => Sy.rows_one (delete_any _ ps i w' (h.hp 7 _ rfl).1 hi (by omega)) (fun x u => rfl)) (fun _ _ => ?_)
      ((repeat' ((conv => whnf);(first|refine z1 ?_|refine z2 ?_|refine z3 ?_|refine z4 ?_|refine z5 ?_|refine z6 ?_|refine z7 ?_|refine z8 ?_|refine z9 ?_|refine za ?_|refine zb ?_|refine zc ?_|refine zd ?_|refine ze ?_|refine zf ?_|refine zg ?_|refine zh ?_|((first|refine zi ?_ ?_|refine zj ?_ ?_|refine zk ?_ ?_)<;> intro hh <;> first|(exfalso;omega)|skip)|(refine zl ?_ ?_<;> intro hh)|refine zm ?_|refine zn ?_|refine zo ?_|refine zp ?_|refine zq ?_|refine zr ?_|refine zs _ rfl ?_|refine zu ?_|exact Sy.fin_val (fun e=>rfl))));(all_goals (try conv => whnf)))
      refine Sy.fin_rows () trivial [.row 8] ⟨?_, (by intro j hj; cases hj), trivial⟩ (fun e => rfl)
      show some (Blk.row 51 3 (ps.length - 1) (Els.vs ((ps.eraseIdx i).map encP))) = some (.row 51 3 (ps.eraseIdx i).length (.vs ((ps.eraseIdx i).map encP)))
      rw [List.length_eraseIdx_of_lt hi]
    · rw [if_neg (has_not (srch_not hwk hx (by assumption)))] at eV
      rw [eV]
      exact Sy.fin_rows () trivial [.v (.slice none 0 0)] ⟨⟨rfl, rfl⟩, (by intro j hj; cases hj), trivial⟩ (fun e => rfl)
  · rw [show chkE now span ps = 360 by unfold chkE; rw [if_neg hok]]
    have eV : dropV now span ps k = (hs0, 360) := by rw [dropV, if_neg hok]
    rw [eV]
    ((repeat' ((conv => whnf);(first|refine z1 ?_|refine z2 ?_|refine z3 ?_|refine z4 ?_|refine z5 ?_|refine z6 ?_|refine z7 ?_|refine z8 ?_|refine z9 ?_|refine za ?_|refine zb ?_|refine zc ?_|refine zd ?_|refine ze ?_|refine zf ?_|refine zg ?_|refine zh ?_|((first|refine zi ?_ ?_|refine zj ?_ ?_|refine zk ?_ ?_)<;> intro hh <;> first|(exfalso;omega)|skip)|(refine zl ?_ ?_<;> intro hh)|refine zm ?_|refine zn ?_|refine zo ?_|refine zp ?_|refine zq ?_|refine zr ?_|refine zs _ rfl ?_|refine zu ?_|exact Sy.fin_val (fun e=>rfl))));(all_goals (try conv => whnf)))
    exact Sy.fin_rows () trivial [.v (.slice none 0 0)] ⟨⟨rfl, rfl⟩, (by intro j hj; cases hj), trivial⟩ (fun e => rfl)
end Go.Proofs.Ytiapcohnjklcfaa
