/- Snap: slices.Insert of one row of a table. Written by a program of mine (gen_snins.py). -/
import Derived.Test.YtmahldelmbhjfaaGreatSnA
import Derived.Lib.Overlaps
import Derived.Laws.Externs
namespace Go.Proofs.YtmahldelmbhjfaaGreat.Sn
open Go Go.RowKit
open Sy (C SV V1 Blk St XD Els)
set_option maxRecDepth 10000

def insK (ps : List Kc) (i : Nat) (y : Kc) : List Kc := ps.take i ++ y :: ps.drop i
theorem insK_end (ps : List Kc) (i : Nat) (y : Kc) (h : i = ps.length) : (insK ps i y).map encK = ps.map encK ++ [encK y] := by
  subst h
  simp [insK]
theorem insK_len {ps : List Kc} {i : Nat} (y : Kc) (h : i ≤ ps.length) : (insK ps i y).length = ps.length + 1 := by
  unfold insK
  rw [List.length_append, List.length_cons, List.length_take, List.length_drop]; omega
theorem ins_grown {M : List (List Value)} {n i : Nat} {y z : List Value} (hM : M.length = n) (hi : i ≤ n) (Z L1 : List (List Value)) (hZ : Z = List.take (i - 0) M ++ List.replicate (n + 1 - i) z) (h1 : L1 = List.take (0 + i) Z ++ (List.take 1 [y] ++ List.drop (0 + i + 1) Z)) (R : List (List Value)) :
    List.take (n + 1) (List.take (0 + (i + 1)) L1 ++ (List.take (n - i) (List.take (n - i) (List.drop (0 + i) M)) ++ R)) = List.take i M ++ y :: List.drop i M := by
  have hl : (List.take i M).length = i := by rw [List.length_take]; omega
  have a1 : List.take (0 + i) Z = List.take i M := by rw [hZ, Nat.zero_add, Nat.sub_zero, List.take_append_of_le_length (by omega), List.take_take, Nat.min_self]
  have a2 : List.take (0 + (i + 1)) L1 = List.take i M ++ [y] := by
    rw [h1, a1, Nat.zero_add, ← List.append_assoc]
    rw [List.take_append_of_le_length (by simp; omega)]
    exact List.take_of_length_le (by simp; omega)
  have a3 : List.take (n - i) (List.take (n - i) (List.drop (0 + i) M)) = List.drop i M := by
    rw [List.take_take, Nat.min_self, Nat.zero_add]
    exact List.take_of_length_le (by simp; omega)
  rw [a2, a3, ← List.append_assoc, List.take_append_of_le_length (by simp; omega)]
  rw [List.take_of_length_le (by simp; omega)]
  simp
theorem ins_place {M sp : List (List Value)} {n i : Nat} {y : List Value} (hM : M.length = n) (hi : i ≤ n) (hlt : i + 1 ≤ (M ++ sp).length) (X : List (List Value)) (hX : X = M ++ sp) (X1 : List (List Value))
    (R : List (List Value)) (h1 : X1 = List.take (0 + 0 + (i + 1)) X ++ (List.take (n + 1 - (i + 1)) (List.take (n + 1 - i) (List.drop (0 + 0 + i) X)) ++ R)) (R' : List (List Value)) (hR' : R' = List.drop (0 + 0 + i + 1) X1) :
    List.take (n + 1) (List.take (0 + 0 + i) X1 ++ (List.take 1 [y] ++ R')) = List.take i M ++ y :: List.drop i M := by
  have hX0 : i ≤ X.length := by rw [hX, List.length_append]; omega
  have a1 : List.take (0 + 0 + (i + 1)) X1 = List.take (i + 1) X1 := by rw [show 0 + 0 + (i + 1) = i + 1 by omega]
  have hlM : (List.take i M).length = i := by rw [List.length_take]; omega
  have hti : List.take i X = List.take i M := by rw [hX, List.take_append_of_le_length (by omega)]
  have hmid : List.take (n + 1 - (i + 1)) (List.take (n + 1 - i) (List.drop (0 + 0 + i) X)) = List.drop i M := by
    rw [List.take_take, Nat.min_eq_left (by omega), show 0 + 0 + i = i by omega, hX, List.drop_append_of_le_length (by omega), List.take_append_of_le_length (by rw [List.length_drop]; omega)]
    exact List.take_of_length_le (by rw [List.length_drop]; omega)
  rw [hmid, show 0 + 0 + (i + 1) = i + 1 by omega] at h1
  have hl2 : (List.take (i + 1) X).length = min (i + 1) X.length := by rw [List.length_take]
  have ht : List.take (0 + 0 + i) X1 = List.take i M := by
    rw [show 0 + 0 + i = i by omega, h1, List.take_append_of_le_length (by rw [hl2]; omega), List.take_take, Nat.min_eq_left (by omega), hti]
  rw [ht, hR']
  have hlen : i + 1 ≤ X.length := by rw [hX]; exact hlt
  · have hd : List.drop (0 + 0 + i + 1) X1 = List.drop i M ++ R := by
      rw [show 0 + 0 + i + 1 = i + 1 by omega, h1, List.drop_append_of_le_length (by rw [hl2]; omega), List.drop_eq_nil_of_le (by rw [hl2]; omega), List.nil_append]
    rw [hd]
    rw [← List.append_assoc, ← List.append_assoc]
    rw [List.take_append_of_le_length (by simp; omega), List.take_of_length_le (by simp; omega)]
    simp
theorem ovlK (w : World) (gu g nu cu off lb cb : Nat) (xu xg : Array Value) (hu : w.heap[gu]? = some (.cells xu 46 (0, 0))) (hg : w.heap[g]? = some (.cells xg 46 (0, 0))) (hne : gu ≠ g) (hz : 0 < xg.size) :
    (callFunc 107 #[.slice (some ⟨gu, 0, none⟩) nu cu, .slice (some ⟨g, off, none⟩) lb cb]).run Tryz.prog w = .ok (.value (.bool false)) w := by
  have hti := Sy.tab_ok.at (t := 28) rfl
  have hte := Sy.tab_ok.at (t := 46) rfl
  obtain ⟨j, hj, h0, h1, h2⟩ := info_parts hte.2.1
  rw [run_callFunc_extern (e := Extern.SlicesOverlaps.overlaps #[28, 28] #[4]) Tryz.func107 (by kernel_rfl) (by kernel_rfl) (by kernel_rfl) (by kernel_rfl),
    Lib.run_overlaps_apart w 28 4 46 hti.1 4 (fun w => by simp [sizeOf, typeInfo, hj, h1]; rfl) ⟨gu, 0, none⟩ ⟨g, off, none⟩ nu cu lb cb hne 46 46 xu.size xg.size (by simp [World.shape?, hu]) (by simp [World.shape?, hg]) (by omega) (by simp [World.frozen?, hu]) (by simp [World.frozen?, hu])]
  rfl
theorem insertK_any (v u : Value) (ps : List Kc) (i : Nat) (y : Kc) (w : World) (hown : Sy.OwnE w 46 4 v ps.length (ps.map encK)) (hu1 : Sy.OwnE w 46 4 u 1 [encK y]) (hu2 : ∀ b, Sy.rfoot u b → ¬ Sy.rfoot v b) (hi : i ≤ ps.length) (hb : ps.length ≤ 1000000) :
    Calls Tryz.prog 96 #[v, .int .i64 i, u] w (Sy.RetRows v (fun _ : Unit => True) (fun _ => [⟨46, 4, ps.length + 1, (insK ps i y).map encK⟩]) (fun _ vs => vs.headD undef) w) := by
  have hu : XD.ok (fun b => b < w.heap.size ∧ ¬ Sy.rfoot v b) w ⟨u, 4, 1, [encK y]⟩ := Sy.XD.ok.mono hu1.reads fun b hb => ⟨hb.1, hu2 b hb.2⟩
  rcases hown.2.2 with ⟨A, hv, hn⟩ | ⟨g, cap, hv, hB⟩
  · refine Sy.calls_row Sy.lv96 Sy.tab_ok Tryz.func96 rfl _ Tryz.ntmps96 v 46 4 ps.length (ps.map encK) hown [⟨u, 4, 1, [encK y]⟩] [.c (.row 0), .c (.v (.int .i64 i)), .c (.row 1)] rfl rfl rfl ⟨hu, trivial⟩ ?_
    have hi0 : i = 0 := by omega
    ((repeat' ((conv => whnf);(first|refine zA ?_|(refine zI ?_ ?_<;> intro hh<;> first|(exfalso;omega)|skip)|(refine zl ?_ ?_<;> intro hh)|refine zq ?_|refine zv ?_|refine zu ?_|exact Sy.fin_val fun e=>rfl)));(all_goals (try conv => whnf)))
    refine Sy.sli_nat ⟨hi, Nat.le_refl _⟩ ?_
    ((repeat' ((conv => whnf);(first|refine zA ?_|(refine zI ?_ ?_<;> intro hh<;> first|(exfalso;omega)|skip)|(refine zl ?_ ?_<;> intro hh)|refine zq ?_|refine zv ?_|refine zu ?_|exact Sy.fin_val fun e=>rfl)));(all_goals (try conv => whnf)))
    refine Sy.need_app 32 rfl ⟨by omega, by omega⟩ ?_
    ((repeat' ((conv => whnf);(first|refine zA ?_|(refine zI ?_ ?_<;> intro hh<;> first|(exfalso;omega)|skip)|(refine zl ?_ ?_<;> intro hh)|refine zq ?_|refine zv ?_|refine zu ?_|exact Sy.fin_val fun e=>rfl)));(all_goals (try conv => whnf)))
    refine Sy.fin_rows' () trivial [.row 3] ⟨?_, (by intro j hj; cases hj), trivial⟩ (fun e => rfl)
    rw [insK_end _ _ _ (by omega)]
    rfl
  · subst hv
    refine Sy.calls_buf Sy.lv96 Sy.tab_ok Tryz.func96 rfl _ Tryz.ntmps96 g cap 46 4 ps.length (ps.map encK) hB [⟨u, 4, 1, [encK y]⟩] [.c (.sl 0 0 ps.length), .c (.v (.int .i64 i)), .c (.row 1)] ?_ rfl rfl ⟨hu, trivial⟩ ?_
    · simp [Sy.denAll, SV.den, C.den, Sy.Env.exts, Sy.Env.withRow, Sy.Env.withBuf, Addr.add]
    · have e1 : List.take ps.length (ps.map encK) = ps.map encK := List.take_of_length_le (by simp)
      have e2 : List.drop (ps.length + 1) (ps.map encK) = [] := List.drop_eq_nil_of_le (by simp)
      have hcap : ps.length ≤ cap := by have := hB.2.1; rwa [List.length_map] at this
      ((repeat' ((conv => whnf);(first|refine zA ?_|(refine zI ?_ ?_<;> intro hh<;> first|(exfalso;omega)|skip)|(refine zl ?_ ?_<;> intro hh)|refine zq ?_|refine zv ?_|refine zu ?_|exact Sy.fin_val fun e=>rfl)));(all_goals (try conv => whnf)))
      refine Sy.sli_nat ⟨hi, by omega⟩ ?_
      conv => whnf
      refine Sy.br_dec (fun h1 => ?_) (fun h1 => ?_)
      · conv => whnf
        refine Sy.rev_in (by show 0 + ps.length ≤ (ps.map encK).length; rw [List.length_map]; omega) ?_
        ((repeat' ((conv => whnf);(first|refine zA ?_|(refine zI ?_ ?_<;> intro hh<;> first|(exfalso;omega)|skip)|(refine zl ?_ ?_<;> intro hh)|refine zq ?_|refine zv ?_|refine zu ?_|exact Sy.fin_val fun e=>rfl)));(all_goals (try conv => whnf)))
        · refine Sy.need_of (by show ps.length ≤ (ps.map encK).length; rw [List.length_map]; omega) ?_
          conv => whnf
          refine Sy.br_dec (fun h2 => ?_) (fun h2 => ?_)
          · ((repeat' ((conv => whnf);(first|refine zA ?_|(refine zI ?_ ?_<;> intro hh<;> first|(exfalso;omega)|skip)|(refine zl ?_ ?_<;> intro hh)|refine zq ?_|refine zv ?_|refine zu ?_|exact Sy.fin_val fun e=>rfl)));(all_goals (try conv => whnf)))
            refine Sy.fin_buf () trivial rfl ?_ rfl (fun e => ?_)
            · show ps.length + 1 ≤ (List.take ps.length (ps.map encK) ++ ([encK y] ++ List.drop (ps.length + 1) (ps.map encK))).length
              rw [e1, e2]; simp
            · show List.take (ps.length + 1) (List.take ps.length (ps.map encK) ++ ([encK y] ++ List.drop (ps.length + 1) (ps.map encK))) = _
              rw [insK_end _ _ _ (by omega), e1, e2, List.append_nil]
              exact List.take_of_length_le (by simp)
          · ((repeat' ((conv => whnf);(first|refine zA ?_|(refine zI ?_ ?_<;> intro hh<;> first|(exfalso;omega)|skip)|(refine zl ?_ ?_<;> intro hh)|refine zq ?_|refine zv ?_|refine zu ?_|exact Sy.fin_val fun e=>rfl)));(all_goals (try conv => whnf)))
            refine Sy.need_app 32 rfl ⟨by omega, by omega⟩ (fun cap' hc1 hc2 => ?_)
            ((repeat' ((conv => whnf);(first|refine zA ?_|(refine zI ?_ ?_<;> intro hh<;> first|(exfalso;omega)|skip)|(refine zl ?_ ?_<;> intro hh)|refine zq ?_|refine zv ?_|refine zu ?_|exact Sy.fin_val fun e=>rfl)));(all_goals (try conv => whnf)))
            refine Sy.fin_buf () trivial rfl ?_ rfl (fun e => ?_)
            · show ps.length + 1 ≤ (List.take ps.length (ps.map encK) ++ [encK y]).length
              rw [e1]; simp
            · show List.take (ps.length + 1) (List.take ps.length (ps.map encK) ++ [encK y]) = _
              rw [insK_end _ _ _ (by omega), e1]
              exact List.take_of_length_le (by simp)
        · refine Sy.sli_nat (lo := 0) ⟨by omega, by omega⟩ ?_
          ((repeat' ((conv => whnf);(first|refine zA ?_|(refine zI ?_ ?_<;> intro hh<;> first|(exfalso;omega)|skip)|(refine zl ?_ ?_<;> intro hh)|refine zq ?_|refine zv ?_|refine zu ?_|exact Sy.fin_val fun e=>rfl)));(all_goals (try conv => whnf)))
          refine Sy.rev_in (by show 0 + i ≤ (ps.map encK).length; rw [List.length_map]; omega) ?_
          ((repeat' ((conv => whnf);(first|refine zA ?_|(refine zI ?_ ?_<;> intro hh<;> first|(exfalso;omega)|skip)|(refine zl ?_ ?_<;> intro hh)|refine zq ?_|refine zv ?_|refine zu ?_|exact Sy.fin_val fun e=>rfl)));(all_goals (try conv => whnf)))
          refine Sy.cnt_eq (ps.length + 1 - i) (by omega) (by omega) ?_
          refine Sy.need_of ⟨by show i - 0 ≤ (ps.map encK).length; rw [List.length_map]; omega, by omega, by show (i - 0 + (ps.length + 1 - i)) * 32 ≤ _; omega, by omega⟩ (fun cap' hc1 hc2 => ?_)
          have hc1 : ps.length + 1 ≤ cap' := by omega
          ((repeat' ((conv => whnf);(first|refine zA ?_|(refine zI ?_ ?_<;> intro hh<;> first|(exfalso;omega)|skip)|(refine zl ?_ ?_<;> intro hh)|refine zq ?_|refine zv ?_|refine zu ?_|exact Sy.fin_val fun e=>rfl)));(all_goals (try conv => whnf)))
          refine Sy.sli_eq i (ps.length + 1) rfl (by omega) ⟨by omega, by omega⟩ ?_
          conv => whnf
          refine Sy.br_dec (fun hh => ?_) (fun hh => by exfalso; omega)
          conv => whnf
          refine Sy.rev_in (by show 0 + (ps.length + 1) ≤ (List.take (i - 0) (ps.map encK) ++ List.replicate (ps.length + 1 - i) (Sy.zeroE Sy.ti46)).length; rw [List.length_append, List.length_take, List.length_map, List.length_replicate]; omega) ?_
          ((repeat' ((conv => whnf);(first|refine zA ?_|(refine zI ?_ ?_<;> intro hh<;> first|(exfalso;omega)|skip)|(refine zl ?_ ?_<;> intro hh)|refine zq ?_|refine zv ?_|refine zu ?_|exact Sy.fin_val fun e=>rfl)));(all_goals (try conv => whnf)))
          refine Sy.need_of (by show 0 + i + (ps.length + 1 - i) ≤ (List.take (i - 0) (ps.map encK) ++ List.replicate (ps.length + 1 - i) (Sy.zeroE Sy.ti46)).length; rw [List.length_append, List.length_take, List.length_map, List.length_replicate]; omega) ?_
          refine Sy.cop_left (by omega) ?_
          ((repeat' ((conv => whnf);(first|refine zA ?_|(refine zI ?_ ?_<;> intro hh<;> first|(exfalso;omega)|skip)|(refine zl ?_ ?_<;> intro hh)|refine zq ?_|refine zv ?_|refine zu ?_|exact Sy.fin_val fun e=>rfl)));(all_goals (try conv => whnf)))
          refine Sy.draw_go [2] (by kernel_rfl) ?_
          intro e0
          conv => whnf
          refine zt 0 rfl ?_
          conv => whnf
          refine zt 1 rfl ?_
          conv => whnf
          refine zt 2 rfl ?_
          conv => whnf
          refine zt 3 rfl ?_
          (conv => whnf);(repeat' ((first|refine zA ?_|(refine zI ?_ ?_<;> intro hh<;> first|(exfalso;omega)|skip)|(refine zl ?_ ?_<;> intro hh)|refine zq ?_|refine zv ?_|refine zu ?_|exact Sy.fin_val fun e=>rfl);(try conv => whnf)))
          refine zt 5 rfl ?_
          conv => whnf
          refine zt 6 rfl ?_
          conv => whnf
          focus
            refine zd1 [4, 7] (zx rfl ?_ (zx rfl ?_ zy))
            focus
              conv => whnf
              refine Sy.sli_eq (i + 1) (ps.length + 1) rfl (by omega) ⟨by omega, by omega⟩ ?_
              conv => whnf
              refine Sy.br_dec (fun hh => ?_) (fun hh => by exfalso; omega)
              conv => whnf
              refine Sy.rev_in (by show 0 + (ps.length + 1) ≤ List.length (_ ++ (_ ++ _)); simp only [List.length_append, List.length_take, List.length_drop, List.length_map, List.length_replicate, List.length_cons, List.length_nil]; omega) ?_
              conv => whnf
              refine ⟨(by repeat' ((conv => whnf);first|exact trivial|(refine And.intro ?_ ?_)|rfl)), ?_⟩
              refine zd1 [7] (zx rfl ?_ zy)
              conv => whnf
              refine Sy.sli_nat ⟨hi, by omega⟩ ?_
              conv => whnf
              refine Sy.br_dec (fun hh => ?_) (fun hh => by exfalso; omega)
              conv => whnf
              refine Sy.rev_in (by show 0 + ps.length ≤ (ps.map encK).length; rw [List.length_map]; omega) ?_
              conv => whnf
              refine ⟨(by repeat' ((conv => whnf);first|exact trivial|(refine And.intro ?_ ?_)|rfl)), ?_⟩
              refine zd1 [8] (zx rfl ?_ zy)
              conv => whnf
              refine Sy.need_of (by show 0 + i + (ps.length - i) ≤ (ps.map encK).length; rw [List.length_map]; omega) ?_
              conv => whnf
              refine Sy.need_of (by show 0 + (i + 1) + (ps.length + 1 - (i + 1)) ≤ List.length (_ ++ (_ ++ _)); simp only [List.length_append, List.length_take, List.length_drop, List.length_map, List.length_replicate, List.length_cons, List.length_nil]; omega) ?_
              refine Sy.cop_left (by omega) ?_
              conv => whnf
              refine ⟨(by repeat' ((conv => whnf);first|exact trivial|(refine And.intro ?_ ?_)|rfl)), ?_⟩
              refine zw ?_
              all_goals (((repeat' ((conv => whnf);(first|refine zA ?_|(refine zI ?_ ?_<;> intro hh<;> first|(exfalso;omega)|skip)|(refine zl ?_ ?_<;> intro hh)|refine zq ?_|refine zv ?_|refine zu ?_|exact Sy.fin_val fun e=>rfl)));(all_goals (try conv => whnf))))
              refine Sy.fin_buf () trivial rfl ?_ (ys := (insK ps i y).map encK) (by rw [show i - 0 + (ps.length + 1 - i) = ps.length + 1 by omega]; rfl) (fun e => ?_)
              · show _ ≤ List.length (_ ++ (_ ++ _))
                simp only [List.length_append, List.length_take, List.length_drop, List.length_map, List.length_replicate, List.length_cons, List.length_nil]; omega
              · rw [show i - 0 + (ps.length + 1 - i) = ps.length + 1 by omega, show (insK ps i y).map encK = List.take i (ps.map encK) ++ encK y :: List.drop i (ps.map encK) by simp [insK, List.map_take, List.map_drop]]
                exact ins_grown (by simp) hi _ _ rfl rfl _
            rotate_right
            focus
              conv => whnf
              refine Sy.sli_nat ⟨hi, by omega⟩ ?_
              conv => whnf
              refine Sy.br_dec (fun hh => ?_) (fun hh => by exfalso; omega)
              conv => whnf
              refine Sy.rev_in (by show 0 + ps.length ≤ (ps.map encK).length; rw [List.length_map]; omega) ?_
              conv => whnf
              refine ⟨(by repeat' ((conv => whnf);first|exact trivial|(refine And.intro ?_ ?_)|rfl)), ?_⟩
              refine zd1 [4] (zx rfl ?_ zy)
              conv => whnf
              refine Sy.sli_eq (i + 1) (ps.length + 1) rfl (by omega) ⟨by omega, by omega⟩ ?_
              conv => whnf
              refine Sy.br_dec (fun hh => ?_) (fun hh => by exfalso; omega)
              conv => whnf
              refine Sy.rev_in (by show 0 + (ps.length + 1) ≤ List.length (_ ++ (_ ++ _)); simp only [List.length_append, List.length_take, List.length_drop, List.length_map, List.length_replicate, List.length_cons, List.length_nil]; omega) ?_
              conv => whnf
              refine ⟨(by repeat' ((conv => whnf);first|exact trivial|(refine And.intro ?_ ?_)|rfl)), ?_⟩
              refine zd1 [8] (zx rfl ?_ zy)
              conv => whnf
              refine Sy.need_of (by show 0 + i + (ps.length - i) ≤ (ps.map encK).length; rw [List.length_map]; omega) ?_
              conv => whnf
              refine Sy.need_of (by show 0 + (i + 1) + (ps.length + 1 - (i + 1)) ≤ List.length (_ ++ (_ ++ _)); simp only [List.length_append, List.length_take, List.length_drop, List.length_map, List.length_replicate, List.length_cons, List.length_nil]; omega) ?_
              refine Sy.cop_left (by omega) ?_
              conv => whnf
              refine ⟨(by repeat' ((conv => whnf);first|exact trivial|(refine And.intro ?_ ?_)|rfl)), ?_⟩
              refine zw ?_
              all_goals (((repeat' ((conv => whnf);(first|refine zA ?_|(refine zI ?_ ?_<;> intro hh<;> first|(exfalso;omega)|skip)|(refine zl ?_ ?_<;> intro hh)|refine zq ?_|refine zv ?_|refine zu ?_|exact Sy.fin_val fun e=>rfl)));(all_goals (try conv => whnf))))
              refine Sy.fin_buf () trivial rfl ?_ (ys := (insK ps i y).map encK) (by rw [show i - 0 + (ps.length + 1 - i) = ps.length + 1 by omega]; rfl) (fun e => ?_)
              · show _ ≤ List.length (_ ++ (_ ++ _))
                simp only [List.length_append, List.length_take, List.length_drop, List.length_map, List.length_replicate, List.length_cons, List.length_nil]; omega
              · rw [show i - 0 + (ps.length + 1 - i) = ps.length + 1 by omega, show (insK ps i y).map encK = List.take i (ps.map encK) ++ encK y :: List.drop i (ps.map encK) by simp [insK, List.map_take, List.map_drop]]
                exact ins_grown (by simp) hi _ _ rfl rfl _
        · refine Sy.sli_eq 0 (ps.length + 1) rfl (by omega) ⟨by omega, by omega⟩ ?_
          conv => whnf
          refine Sy.br_dec (fun hh => ?_) (fun hh => by exfalso; omega)
          conv => whnf
          refine Sy.rev_out (by omega) (fun sp hs1 hs2 => ?_)
          ((repeat' ((conv => whnf);(first|refine zA ?_|(refine zI ?_ ?_<;> intro hh<;> first|(exfalso;omega)|skip)|(refine zl ?_ ?_<;> intro hh)|refine zq ?_|refine zv ?_|refine zu ?_|exact Sy.fin_val fun e=>rfl)));(all_goals (try conv => whnf)))
          refine Sy.sli_eq (i + 1) (ps.length + 1) rfl rfl ⟨by omega, by omega⟩ ?_
          ((repeat' ((conv => whnf);(first|refine zA ?_|(refine zI ?_ ?_<;> intro hh<;> first|(exfalso;omega)|skip)|(refine zl ?_ ?_<;> intro hh)|refine zq ?_|refine zv ?_|refine zu ?_|exact Sy.fin_val fun e=>rfl)));(all_goals (try conv => whnf)))
          refine Sy.rev_in (by show 0 + 0 + (ps.length + 1) ≤ (ps.map encK ++ sp).length; rw [List.length_append, List.length_map, hs1]; show _ ≤ ps.length + (cap - (ps.map encK).length); rw [List.length_map]; omega) ?_
          ((repeat' ((conv => whnf);(first|refine zA ?_|(refine zI ?_ ?_<;> intro hh<;> first|(exfalso;omega)|skip)|(refine zl ?_ ?_<;> intro hh)|refine zq ?_|refine zv ?_|refine zu ?_|exact Sy.fin_val fun e=>rfl)));(all_goals (try conv => whnf)))
          have hsl : (ps.map encK ++ sp).length = cap := by
            have h5 : (Els.vs (List.map encK ps)).len = ps.length := by show (List.map encK ps).length = _; simp
            rw [h5] at hs1
            rw [List.length_append, List.length_map, hs1]; omega
          have hcap2 : ps.length + 1 ≤ cap := by omega
          refine Sy.call_ext (.c (.v (.bool false))) rfl (fun e a w' hR => ?_) ?_
          · obtain ⟨hb0, hb1, hb2, hb3⟩ := hR.hp 0 _ rfl
            have hE := (hR.es 1 (by show 1 < 2; decide)).2.1
            have hE : e.rv 1 = u := hE
            have hD := (hR.es 0 (by show 0 < 2; decide)).1
            have hD : e.ad 0 = g := hD
            rcases hu1.2.2 with ⟨A, _, h0⟩ | ⟨gu, cu, hgu, hBu⟩
            · exact absurd h0 (by decide)
            · obtain ⟨_, _, _, hc0, xu, hxu, _⟩ := hBu
              have hfu : Sy.rfoot u gu := ⟨_, _, _, hgu, hc0, rfl⟩
              have hft : Sy.rfoot (.slice (some ⟨g, 0, none⟩) ps.length cap) g := ⟨_, _, _, rfl, by omega, rfl⟩
              have hne : gu ≠ g := fun h => by subst h; exact hu2 _ hfu hft
              have hxu' := (hR.bel.block gu (Array.getElem?_eq_some_iff.1 hxu).1 (hu2 _ hfu)).trans hxu
              obtain ⟨_, _, _, hc1, xg, hxg, hxs, _⟩ := hb0
              rw [hD] at hxg hb3
              have e3 : (⟨g, 0, none⟩ : Addr).add ((0 + 0 + (i + 1)) * e.es 0) = ⟨g, (0 + 0 + (i + 1)) * e.es 0, none⟩ := Sy.addr_mid _ _
              simp only [Sy.denAll, List.map_cons, List.map_nil, SV.den, C.den, hE, hb3, e3]
              rw [hgu]
              exact ovlK w' gu g _ _ _ _ _ xu xg hxu' hxg hne (by rw [hxs]; omega)
          ((repeat' ((conv => whnf);(first|refine zA ?_|(refine zI ?_ ?_<;> intro hh<;> first|(exfalso;omega)|skip)|(refine zl ?_ ?_<;> intro hh)|refine zq ?_|refine zv ?_|refine zu ?_|exact Sy.fin_val fun e=>rfl)));(all_goals (try conv => whnf)))
          refine Sy.draw_go [0] (by kernel_rfl) ?_
          intro e0
          conv => whnf
          refine zt 0 rfl ?_
          conv => whnf
          refine zt 1 rfl ?_
          conv => whnf
          refine zt 2 rfl ?_
          conv => whnf
          refine zt 3 rfl ?_
          (conv => whnf);(repeat' ((first|refine zA ?_|(refine zI ?_ ?_<;> intro hh<;> first|(exfalso;omega)|skip)|(refine zl ?_ ?_<;> intro hh)|refine zq ?_|refine zv ?_|refine zu ?_|exact Sy.fin_val fun e=>rfl);(try conv => whnf)))
          refine zt 5 rfl ?_
          conv => whnf
          refine zt 6 rfl ?_
          conv => whnf
          focus
            refine zd1 [4, 7] (zx rfl ?_ (zx rfl ?_ zy))
            focus
              conv => whnf
              refine Sy.sli_eq (i + 1) (ps.length + 1) rfl rfl ⟨by omega, by omega⟩ ?_
              conv => whnf
              refine Sy.br_dec (fun hh => ?_) (fun hh => by exfalso; omega)
              conv => whnf
              refine Sy.rev_in (by show 0 + 0 + (ps.length + 1) ≤ (ps.map encK ++ sp).length; omega) ?_
              conv => whnf
              refine ⟨(by repeat' ((conv => whnf);first|exact trivial|(refine And.intro ?_ ?_)|rfl)), ?_⟩
              refine zd1 [7] (zx rfl ?_ zy)
              conv => whnf
              refine Sy.sli_eq i (ps.length + 1) rfl rfl ⟨by omega, by omega⟩ ?_
              conv => whnf
              refine Sy.br_dec (fun hh => ?_) (fun hh => by exfalso; omega)
              conv => whnf
              refine Sy.rev_in (by show 0 + 0 + (ps.length + 1) ≤ (ps.map encK ++ sp).length; omega) ?_
              conv => whnf
              refine ⟨(by repeat' ((conv => whnf);first|exact trivial|(refine And.intro ?_ ?_)|rfl)), ?_⟩
              refine zd1 [8] (zx rfl ?_ zy)
              conv => whnf
              refine Sy.need_of (by show 0 + 0 + i + (ps.length + 1 - i) ≤ (ps.map encK ++ sp).length; omega) ?_
              conv => whnf
              refine Sy.need_of (by show 0 + 0 + (i + 1) + (ps.length + 1 - (i + 1)) ≤ (ps.map encK ++ sp).length; omega) ?_
              refine Sy.cop_right (by omega) ?_
              conv => whnf
              refine ⟨(by repeat' ((conv => whnf);first|exact trivial|(refine And.intro ?_ ?_)|rfl)), ?_⟩
              refine zw ?_
              all_goals (((repeat' ((conv => whnf);(first|refine zA ?_|(refine zI ?_ ?_<;> intro hh<;> first|(exfalso;omega)|skip)|(refine zl ?_ ?_<;> intro hh)|refine zq ?_|refine zv ?_|refine zu ?_|exact Sy.fin_val fun e=>rfl)));(all_goals (try conv => whnf))))
              refine Sy.sli_eq i (ps.length + 1) rfl rfl ⟨by omega, by omega⟩ ?_
              conv => whnf
              refine Sy.br_dec (fun hh => ?_) (fun hh => by exfalso; omega)
              conv => whnf
              refine Sy.rev_in (by show 0 + 0 + (ps.length + 1) ≤ List.length (_ ++ (_ ++ _)); (try simp only [List.length_append, List.length_take, List.length_drop, List.length_map] at *); omega) ?_
              ((repeat' ((conv => whnf);(first|refine zA ?_|(refine zI ?_ ?_<;> intro hh<;> first|(exfalso;omega)|skip)|(refine zl ?_ ?_<;> intro hh)|refine zq ?_|refine zv ?_|refine zu ?_|exact Sy.fin_val fun e=>rfl)));(all_goals (try conv => whnf)))
              refine Sy.need_of (by show 0 + 0 + i + (ps.length + 1 - i) ≤ List.length (_ ++ (_ ++ _)); (try simp only [List.length_append, List.length_take, List.length_drop, List.length_map] at *); omega) ?_
              refine Sy.cop_left (by omega) ?_
              ((repeat' ((conv => whnf);(first|refine zA ?_|(refine zI ?_ ?_<;> intro hh<;> first|(exfalso;omega)|skip)|(refine zl ?_ ?_<;> intro hh)|refine zq ?_|refine zv ?_|refine zu ?_|exact Sy.fin_val fun e=>rfl)));(all_goals (try conv => whnf)))
              refine Sy.fin_buf () trivial rfl ?_ (ys := (insK ps i y).map encK) (by rw [show ps.length + 1 - 0 = ps.length + 1 by omega]) (fun e => ?_)
              · show _ ≤ List.length (_ ++ (_ ++ _))
                simp only [List.length_append, List.length_take, List.length_drop, List.length_map, List.length_cons, List.length_nil] at *; try omega
              · rw [show ps.length + 1 - 0 = ps.length + 1 by omega, show (insK ps i y).map encK = List.take i (ps.map encK) ++ encK y :: List.drop i (ps.map encK) by simp [insK, List.map_take, List.map_drop]]
                exact ins_place (M := ps.map encK) (sp := sp) (by simp) hi (by omega) _ rfl _ _ rfl _ rfl
            rotate_right
            focus
              conv => whnf
              refine Sy.sli_eq i (ps.length + 1) rfl rfl ⟨by omega, by omega⟩ ?_
              conv => whnf
              refine Sy.br_dec (fun hh => ?_) (fun hh => by exfalso; omega)
              conv => whnf
              refine Sy.rev_in (by show 0 + 0 + (ps.length + 1) ≤ (ps.map encK ++ sp).length; omega) ?_
              conv => whnf
              refine ⟨(by repeat' ((conv => whnf);first|exact trivial|(refine And.intro ?_ ?_)|rfl)), ?_⟩
              refine zd1 [4] (zx rfl ?_ zy)
              conv => whnf
              refine Sy.sli_eq (i + 1) (ps.length + 1) rfl rfl ⟨by omega, by omega⟩ ?_
              conv => whnf
              refine Sy.br_dec (fun hh => ?_) (fun hh => by exfalso; omega)
              conv => whnf
              refine Sy.rev_in (by show 0 + 0 + (ps.length + 1) ≤ (ps.map encK ++ sp).length; omega) ?_
              conv => whnf
              refine ⟨(by repeat' ((conv => whnf);first|exact trivial|(refine And.intro ?_ ?_)|rfl)), ?_⟩
              refine zd1 [8] (zx rfl ?_ zy)
              conv => whnf
              refine Sy.need_of (by show 0 + 0 + i + (ps.length + 1 - i) ≤ (ps.map encK ++ sp).length; omega) ?_
              conv => whnf
              refine Sy.need_of (by show 0 + 0 + (i + 1) + (ps.length + 1 - (i + 1)) ≤ (ps.map encK ++ sp).length; omega) ?_
              refine Sy.cop_right (by omega) ?_
              conv => whnf
              refine ⟨(by repeat' ((conv => whnf);first|exact trivial|(refine And.intro ?_ ?_)|rfl)), ?_⟩
              refine zw ?_
              all_goals (((repeat' ((conv => whnf);(first|refine zA ?_|(refine zI ?_ ?_<;> intro hh<;> first|(exfalso;omega)|skip)|(refine zl ?_ ?_<;> intro hh)|refine zq ?_|refine zv ?_|refine zu ?_|exact Sy.fin_val fun e=>rfl)));(all_goals (try conv => whnf))))
              refine Sy.sli_eq i (ps.length + 1) rfl rfl ⟨by omega, by omega⟩ ?_
              conv => whnf
              refine Sy.br_dec (fun hh => ?_) (fun hh => by exfalso; omega)
              conv => whnf
              refine Sy.rev_in (by show 0 + 0 + (ps.length + 1) ≤ List.length (_ ++ (_ ++ _)); (try simp only [List.length_append, List.length_take, List.length_drop, List.length_map] at *); omega) ?_
              ((repeat' ((conv => whnf);(first|refine zA ?_|(refine zI ?_ ?_<;> intro hh<;> first|(exfalso;omega)|skip)|(refine zl ?_ ?_<;> intro hh)|refine zq ?_|refine zv ?_|refine zu ?_|exact Sy.fin_val fun e=>rfl)));(all_goals (try conv => whnf)))
              refine Sy.need_of (by show 0 + 0 + i + (ps.length + 1 - i) ≤ List.length (_ ++ (_ ++ _)); (try simp only [List.length_append, List.length_take, List.length_drop, List.length_map] at *); omega) ?_
              refine Sy.cop_left (by omega) ?_
              ((repeat' ((conv => whnf);(first|refine zA ?_|(refine zI ?_ ?_<;> intro hh<;> first|(exfalso;omega)|skip)|(refine zl ?_ ?_<;> intro hh)|refine zq ?_|refine zv ?_|refine zu ?_|exact Sy.fin_val fun e=>rfl)));(all_goals (try conv => whnf)))
              refine Sy.fin_buf () trivial rfl ?_ (ys := (insK ps i y).map encK) (by rw [show ps.length + 1 - 0 = ps.length + 1 by omega]) (fun e => ?_)
              · show _ ≤ List.length (_ ++ (_ ++ _))
                simp only [List.length_append, List.length_take, List.length_drop, List.length_map, List.length_cons, List.length_nil] at *; try omega
              · rw [show ps.length + 1 - 0 = ps.length + 1 by omega, show (insK ps i y).map encK = List.take i (ps.map encK) ++ encK y :: List.drop i (ps.map encK) by simp [insK, List.map_take, List.map_drop]]
                exact ins_place (M := ps.map encK) (sp := sp) (by simp) hi (by omega) _ rfl _ _ rfl _ rfl
      · ((repeat' ((conv => whnf);(first|refine zA ?_|(refine zI ?_ ?_<;> intro hh<;> first|(exfalso;omega)|skip)|(refine zl ?_ ?_<;> intro hh)|refine zq ?_|refine zv ?_|refine zu ?_|exact Sy.fin_val fun e=>rfl)));(all_goals (try conv => whnf)))
        refine Sy.need_of (by show ps.length ≤ (ps.map encK).length; rw [List.length_map]; omega) ?_
        conv => whnf
        refine Sy.br_dec (fun hh => by exfalso; omega) (fun hh => ?_)
        ((repeat' ((conv => whnf);(first|refine zA ?_|(refine zI ?_ ?_<;> intro hh<;> first|(exfalso;omega)|skip)|(refine zl ?_ ?_<;> intro hh)|refine zq ?_|refine zv ?_|refine zu ?_|exact Sy.fin_val fun e=>rfl)));(all_goals (try conv => whnf)))
        refine Sy.need_app 32 rfl ⟨by omega, by omega⟩ (fun cap' hc1 hc2 => ?_)
        ((repeat' ((conv => whnf);(first|refine zA ?_|(refine zI ?_ ?_<;> intro hh<;> first|(exfalso;omega)|skip)|(refine zl ?_ ?_<;> intro hh)|refine zq ?_|refine zv ?_|refine zu ?_|exact Sy.fin_val fun e=>rfl)));(all_goals (try conv => whnf)))
        refine Sy.fin_buf () trivial rfl ?_ rfl (fun e => ?_)
        · show ps.length + 1 ≤ (List.take ps.length (ps.map encK) ++ [encK y]).length
          rw [e1]; simp
        · show List.take (ps.length + 1) (List.take ps.length (ps.map encK) ++ [encK y]) = _
          rw [insK_end _ _ _ (by omega), e1]
          exact List.take_of_length_le (by simp)
end Go.Proofs.YtmahldelmbhjfaaGreat.Sn
