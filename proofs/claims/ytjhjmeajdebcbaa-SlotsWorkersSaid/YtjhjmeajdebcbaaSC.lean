/- Slots: slices.Insert of one place (written by wip/tools/gen_slots.py) -/
import Derived.Test.YtjhjmeajdebcbaaSSpec
import Derived.Lib.Overlaps
import Derived.Laws.Externs
namespace Go.Proofs.Ytjhjmeajdebcbaa
open Go Go.RowKit
open Sy (C SV V1 Blk St XD Els)
set_option maxRecDepth 10000

theorem ovlP (w : World) (gu g nu cu off lb cb : Nat) (xu xg : Array Value) (hu : w.heap[gu]? = some (.cells xu 67 (0, 0))) (hg : w.heap[g]? = some (.cells xg 67 (0, 0))) (hne : gu ≠ g) (hz : 0 < xg.size) :
    (callFunc 76 #[.slice (some ⟨gu, 0, none⟩) nu cu, .slice (some ⟨g, off, none⟩) lb cb]).run Try.prog w = .ok (.value (.bool false)) w := by
  have hti := Sy.tab_ok.at (t := 24) rfl
  have hte := Sy.tab_ok.at (t := 67) rfl
  obtain ⟨j, hj, h0, h1, h2⟩ := info_parts hte.2.1
  rw [run_callFunc_extern (e := Extern.SlicesOverlaps.overlaps #[24, 24] #[4]) Try.func76 (by kernel_rfl) (by kernel_rfl) (by kernel_rfl) (by kernel_rfl),
    Lib.run_overlaps_apart w 24 4 67 hti.1 2 (fun w => by simp [sizeOf, typeInfo, hj, h1]; rfl) ⟨gu, 0, none⟩ ⟨g, off, none⟩ nu cu lb cb hne 67 67 xu.size xg.size (by simp [World.shape?, hu]) (by simp [World.shape?, hg]) (by omega) (by simp [World.frozen?, hu]) (by simp [World.frozen?, hu])]
  rfl
theorem insertP_any (v u : Value) (ps : List (Int × Int)) (i : Nat) (y : Int × Int) (w : World) (hown : Sy.OwnE w 67 2 v ps.length (ps.map enc2)) (hu1 : Sy.OwnE w 67 2 u 1 [enc2 y]) (hu2 : ∀ b, Sy.rfoot u b → ¬ Sy.rfoot v b) (hi : i ≤ ps.length) (hb : ps.length ≤ 1000000) :
    Calls Try.prog 48 #[v, .int .i64 i, u] w (Sy.RetRows v (fun _ : Unit => True) (fun _ => [⟨67, 2, ps.length + 1, (insL ps i y).map enc2⟩]) (fun _ vs => vs.headD undef) w) := by
  have hu : XD.ok (fun b => b < w.heap.size ∧ ¬ Sy.rfoot v b) w ⟨u, 2, 1, [enc2 y]⟩ := Sy.XD.ok.mono hu1.reads fun b hb => ⟨hb.1, hu2 b hb.2⟩
  rcases hown.2.2 with ⟨A, hv, hn⟩ | ⟨g, cap, hv, hB⟩
  · refine Sy.calls_row Sy.lv48 Sy.tab_ok Try.func48 rfl _ Try.ntmps48 v 67 2 ps.length (ps.map enc2) hown [⟨u, 2, 1, [enc2 y]⟩] [.c (.row 0), .c (.v (.int .i64 i)), .c (.row 1)] rfl rfl rfl ⟨hu, trivial⟩ ?_
    have hi0 : i = 0 := by omega
    ((repeat' ((conv => whnf);(first|refine zA ?_|(refine zI ?_ ?_<;> intro hh<;> first|(exfalso;omega)|skip)|(refine zl ?_ ?_<;> intro hh)|refine zq ?_|refine zv ?_|refine zu ?_|exact Sy.fin_val fun e=>rfl)));(all_goals (try conv => whnf)))
    refine Sy.sli_nat ⟨hi, Nat.le_refl _⟩ ?_
    ((repeat' ((conv => whnf);(first|refine zA ?_|(refine zI ?_ ?_<;> intro hh<;> first|(exfalso;omega)|skip)|(refine zl ?_ ?_<;> intro hh)|refine zq ?_|refine zv ?_|refine zu ?_|exact Sy.fin_val fun e=>rfl)));(all_goals (try conv => whnf)))
    refine Sy.need_app 16 rfl ⟨by omega, by omega⟩ ?_
    ((repeat' ((conv => whnf);(first|refine zA ?_|(refine zI ?_ ?_<;> intro hh<;> first|(exfalso;omega)|skip)|(refine zl ?_ ?_<;> intro hh)|refine zq ?_|refine zv ?_|refine zu ?_|exact Sy.fin_val fun e=>rfl)));(all_goals (try conv => whnf)))
    refine Sy.fin_rows' () trivial [.row 3] ⟨?_, (by intro j hj; cases hj), trivial⟩ (fun e => rfl)
    rw [insL_end _ _ _ (by omega)]
    rfl
  · subst hv
    refine Sy.calls_buf Sy.lv48 Sy.tab_ok Try.func48 rfl _ Try.ntmps48 g cap 67 2 ps.length (ps.map enc2) hB [⟨u, 2, 1, [enc2 y]⟩] [.c (.sl 0 0 ps.length), .c (.v (.int .i64 i)), .c (.row 1)] ?_ rfl rfl ⟨hu, trivial⟩ ?_
    · simp [Sy.denAll, SV.den, C.den, Sy.Env.exts, Sy.Env.withRow, Sy.Env.withBuf, Addr.add]
    · have e1 : List.take ps.length (ps.map enc2) = ps.map enc2 := List.take_of_length_le (by simp)
      have e2 : List.drop (ps.length + 1) (ps.map enc2) = [] := List.drop_eq_nil_of_le (by simp)
      have hcap : ps.length ≤ cap := by have := hB.2.1; rwa [List.length_map] at this
      ((repeat' ((conv => whnf);(first|refine zA ?_|(refine zI ?_ ?_<;> intro hh<;> first|(exfalso;omega)|skip)|(refine zl ?_ ?_<;> intro hh)|refine zq ?_|refine zv ?_|refine zu ?_|exact Sy.fin_val fun e=>rfl)));(all_goals (try conv => whnf)))
      refine Sy.sli_nat ⟨hi, by omega⟩ ?_
      conv => whnf
      refine Sy.br_dec (fun h1 => ?_) (fun h1 => ?_)
      · conv => whnf
        refine Sy.rev_in (by show 0 + ps.length ≤ (ps.map enc2).length; rw [List.length_map]; omega) ?_
        ((repeat' ((conv => whnf);(first|refine zA ?_|(refine zI ?_ ?_<;> intro hh<;> first|(exfalso;omega)|skip)|(refine zl ?_ ?_<;> intro hh)|refine zq ?_|refine zv ?_|refine zu ?_|exact Sy.fin_val fun e=>rfl)));(all_goals (try conv => whnf)))
        · refine Sy.need_of (by show ps.length ≤ (ps.map enc2).length; rw [List.length_map]; omega) ?_
          conv => whnf
          refine Sy.br_dec (fun h2 => ?_) (fun h2 => ?_)
          · ((repeat' ((conv => whnf);(first|refine zA ?_|(refine zI ?_ ?_<;> intro hh<;> first|(exfalso;omega)|skip)|(refine zl ?_ ?_<;> intro hh)|refine zq ?_|refine zv ?_|refine zu ?_|exact Sy.fin_val fun e=>rfl)));(all_goals (try conv => whnf)))
            refine Sy.fin_buf () trivial rfl ?_ rfl (fun e => ?_)
            · show ps.length + 1 ≤ (List.take ps.length (ps.map enc2) ++ ([enc2 y] ++ List.drop (ps.length + 1) (ps.map enc2))).length
              rw [e1, e2]; simp
            · show List.take (ps.length + 1) (List.take ps.length (ps.map enc2) ++ ([enc2 y] ++ List.drop (ps.length + 1) (ps.map enc2))) = _
              rw [insL_end _ _ _ (by omega), e1, e2, List.append_nil]
              exact List.take_of_length_le (by simp)
          · ((repeat' ((conv => whnf);(first|refine zA ?_|(refine zI ?_ ?_<;> intro hh<;> first|(exfalso;omega)|skip)|(refine zl ?_ ?_<;> intro hh)|refine zq ?_|refine zv ?_|refine zu ?_|exact Sy.fin_val fun e=>rfl)));(all_goals (try conv => whnf)))
            refine Sy.need_app 16 rfl ⟨by omega, by omega⟩ (fun cap' hc1 hc2 => ?_)
            ((repeat' ((conv => whnf);(first|refine zA ?_|(refine zI ?_ ?_<;> intro hh<;> first|(exfalso;omega)|skip)|(refine zl ?_ ?_<;> intro hh)|refine zq ?_|refine zv ?_|refine zu ?_|exact Sy.fin_val fun e=>rfl)));(all_goals (try conv => whnf)))
            refine Sy.fin_buf () trivial rfl ?_ rfl (fun e => ?_)
            · show ps.length + 1 ≤ (List.take ps.length (ps.map enc2) ++ [enc2 y]).length
              rw [e1]; simp
            · show List.take (ps.length + 1) (List.take ps.length (ps.map enc2) ++ [enc2 y]) = _
              rw [insL_end _ _ _ (by omega), e1]
              exact List.take_of_length_le (by simp)
        · refine Sy.sli_nat (lo := 0) ⟨by omega, by omega⟩ ?_
          ((repeat' ((conv => whnf);(first|refine zA ?_|(refine zI ?_ ?_<;> intro hh<;> first|(exfalso;omega)|skip)|(refine zl ?_ ?_<;> intro hh)|refine zq ?_|refine zv ?_|refine zu ?_|exact Sy.fin_val fun e=>rfl)));(all_goals (try conv => whnf)))
          refine Sy.rev_in (by show 0 + i ≤ (ps.map enc2).length; rw [List.length_map]; omega) ?_
          ((repeat' ((conv => whnf);(first|refine zA ?_|(refine zI ?_ ?_<;> intro hh<;> first|(exfalso;omega)|skip)|(refine zl ?_ ?_<;> intro hh)|refine zq ?_|refine zv ?_|refine zu ?_|exact Sy.fin_val fun e=>rfl)));(all_goals (try conv => whnf)))
          refine Sy.cnt_eq (ps.length + 1 - i) (by omega) (by omega) ?_
          refine Sy.need_of ⟨by show i - 0 ≤ (ps.map enc2).length; rw [List.length_map]; omega, by omega, by show (i - 0 + (ps.length + 1 - i)) * 16 ≤ _; omega, by omega⟩ (fun cap' hc1 hc2 => ?_)
          have hc1 : ps.length + 1 ≤ cap' := by omega
          ((repeat' ((conv => whnf);(first|refine zA ?_|(refine zI ?_ ?_<;> intro hh<;> first|(exfalso;omega)|skip)|(refine zl ?_ ?_<;> intro hh)|refine zq ?_|refine zv ?_|refine zu ?_|exact Sy.fin_val fun e=>rfl)));(all_goals (try conv => whnf)))
          refine Sy.sli_eq i (ps.length + 1) rfl (by omega) ⟨by omega, by omega⟩ ?_
          conv => whnf
          refine Sy.br_dec (fun hh => ?_) (fun hh => by exfalso; omega)
          conv => whnf
          refine Sy.rev_in (by show 0 + (ps.length + 1) ≤ (List.take (i - 0) (ps.map enc2) ++ List.replicate (ps.length + 1 - i) (Sy.zeroE Sy.ti67)).length; rw [List.length_append, List.length_take, List.length_map, List.length_replicate]; omega) ?_
          ((repeat' ((conv => whnf);(first|refine zA ?_|(refine zI ?_ ?_<;> intro hh<;> first|(exfalso;omega)|skip)|(refine zl ?_ ?_<;> intro hh)|refine zq ?_|refine zv ?_|refine zu ?_|exact Sy.fin_val fun e=>rfl)));(all_goals (try conv => whnf)))
          refine Sy.need_of (by show 0 + i + (ps.length + 1 - i) ≤ (List.take (i - 0) (ps.map enc2) ++ List.replicate (ps.length + 1 - i) (Sy.zeroE Sy.ti67)).length; rw [List.length_append, List.length_take, List.length_map, List.length_replicate]; omega) ?_
          refine Sy.cop_left (by omega) ?_
          ((repeat' ((conv => whnf);(first|refine zA ?_|(refine zI ?_ ?_<;> intro hh<;> first|(exfalso;omega)|skip)|(refine zl ?_ ?_<;> intro hh)|refine zq ?_|refine zv ?_|refine zu ?_|exact Sy.fin_val fun e=>rfl)));(all_goals (try conv => whnf)))
          refine Sy.draw_go [2] (by kernel_rfl) ?_
          intro e0
          conv => whnf
          refine zt 0 rfl ?_
          conv => whnf
          refine zt 1 rfl ?_
          conv => whnf
          refine zt 2 rfl ?_
          conv => whnf
          refine zt 3 rfl ?_
          (conv => whnf);(repeat' ((first|refine zA ?_|(refine zI ?_ ?_<;> intro hh<;> first|(exfalso;omega)|skip)|(refine zl ?_ ?_<;> intro hh)|refine zq ?_|refine zv ?_|refine zu ?_|exact Sy.fin_val fun e=>rfl);(try conv => whnf)))
          refine zt 5 rfl ?_
          conv => whnf
          refine zt 6 rfl ?_
          conv => whnf
          focus
            refine zd1 [4, 7] (zx rfl ?_ (zx rfl ?_ zy))
            focus
              conv => whnf
              refine Sy.sli_eq (i + 1) (ps.length + 1) rfl (by omega) ⟨by omega, by omega⟩ ?_
              conv => whnf
              refine Sy.br_dec (fun hh => ?_) (fun hh => by exfalso; omega)
              conv => whnf
              refine Sy.rev_in (by show 0 + (ps.length + 1) ≤ List.length (_ ++ (_ ++ _)); simp only [List.length_append, List.length_take, List.length_drop, List.length_map, List.length_replicate, List.length_cons, List.length_nil]; omega) ?_
              conv => whnf
              refine ⟨(by repeat' ((conv => whnf);first|exact trivial|(refine And.intro ?_ ?_)|rfl)), ?_⟩
              refine zd1 [7] (zx rfl ?_ zy)
              conv => whnf
              refine Sy.sli_nat ⟨hi, by omega⟩ ?_
              conv => whnf
              refine Sy.br_dec (fun hh => ?_) (fun hh => by exfalso; omega)
              conv => whnf
              refine Sy.rev_in (by show 0 + ps.length ≤ (ps.map enc2).length; rw [List.length_map]; omega) ?_
              conv => whnf
              refine ⟨(by repeat' ((conv => whnf);first|exact trivial|(refine And.intro ?_ ?_)|rfl)), ?_⟩
              refine zd1 [8] (zx rfl ?_ zy)
              conv => whnf
              refine Sy.need_of (by show 0 + i + (ps.length - i) ≤ (ps.map enc2).length; rw [List.length_map]; omega) ?_
              conv => whnf
              refine Sy.need_of (by show 0 + (i + 1) + (ps.length + 1 - (i + 1)) ≤ List.length (_ ++ (_ ++ _)); simp only [List.length_append, List.length_take, List.length_drop, List.length_map, List.length_replicate, List.length_cons, List.length_nil]; omega) ?_
              refine Sy.cop_left (by omega) ?_
              conv => whnf
              refine ⟨(by repeat' ((conv => whnf);first|exact trivial|(refine And.intro ?_ ?_)|rfl)), ?_⟩
              refine zw ?_
              all_goals (((repeat' ((conv => whnf);(first|refine zA ?_|(refine zI ?_ ?_<;> intro hh<;> first|(exfalso;omega)|skip)|(refine zl ?_ ?_<;> intro hh)|refine zq ?_|refine zv ?_|refine zu ?_|exact Sy.fin_val fun e=>rfl)));(all_goals (try conv => whnf))))
              refine Sy.fin_buf () trivial rfl ?_ (ys := (insL ps i y).map enc2) (by rw [show i - 0 + (ps.length + 1 - i) = ps.length + 1 by omega]; rfl) (fun e => ?_)
              · show _ ≤ List.length (_ ++ (_ ++ _))
                simp only [List.length_append, List.length_take, List.length_drop, List.length_map, List.length_replicate, List.length_cons, List.length_nil]; omega
              · rw [show i - 0 + (ps.length + 1 - i) = ps.length + 1 by omega, show (insL ps i y).map enc2 = List.take i (ps.map enc2) ++ enc2 y :: List.drop i (ps.map enc2) by simp [insL, List.map_take, List.map_drop]]
                exact ins_grown (by simp) hi _ _ rfl rfl _
            rotate_right
            focus
              conv => whnf
              refine Sy.sli_nat ⟨hi, by omega⟩ ?_
              conv => whnf
              refine Sy.br_dec (fun hh => ?_) (fun hh => by exfalso; omega)
              conv => whnf
              refine Sy.rev_in (by show 0 + ps.length ≤ (ps.map enc2).length; rw [List.length_map]; omega) ?_
              conv => whnf
              refine ⟨(by repeat' ((conv => whnf);first|exact trivial|(refine And.intro ?_ ?_)|rfl)), ?_⟩
              refine zd1 [4] (zx rfl ?_ zy)
              conv => whnf
              refine Sy.sli_eq (i + 1) (ps.length + 1) rfl (by omega) ⟨by omega, by omega⟩ ?_
              conv => whnf
              refine Sy.br_dec (fun hh => ?_) (fun hh => by exfalso; omega)
              conv => whnf
              refine Sy.rev_in (by show 0 + (ps.length + 1) ≤ List.length (_ ++ (_ ++ _)); simp only [List.length_append, List.length_take, List.length_drop, List.length_map, List.length_replicate, List.length_cons, List.length_nil]; omega) ?_
              conv => whnf
              refine ⟨(by repeat' ((conv => whnf);first|exact trivial|(refine And.intro ?_ ?_)|rfl)), ?_⟩
              refine zd1 [8] (zx rfl ?_ zy)
              conv => whnf
              refine Sy.need_of (by show 0 + i + (ps.length - i) ≤ (ps.map enc2).length; rw [List.length_map]; omega) ?_
              conv => whnf
              refine Sy.need_of (by show 0 + (i + 1) + (ps.length + 1 - (i + 1)) ≤ List.length (_ ++ (_ ++ _)); simp only [List.length_append, List.length_take, List.length_drop, List.length_map, List.length_replicate, List.length_cons, List.length_nil]; omega) ?_
              refine Sy.cop_left (by omega) ?_
              conv => whnf
              refine ⟨(by repeat' ((conv => whnf);first|exact trivial|(refine And.intro ?_ ?_)|rfl)), ?_⟩
              refine zw ?_
              all_goals (((repeat' ((conv => whnf);(first|refine zA ?_|(refine zI ?_ ?_<;> intro hh<;> first|(exfalso;omega)|skip)|(refine zl ?_ ?_<;> intro hh)|refine zq ?_|refine zv ?_|refine zu ?_|exact Sy.fin_val fun e=>rfl)));(all_goals (try conv => whnf))))
              refine Sy.fin_buf () trivial rfl ?_ (ys := (insL ps i y).map enc2) (by rw [show i - 0 + (ps.length + 1 - i) = ps.length + 1 by omega]; rfl) (fun e => ?_)
              · show _ ≤ List.length (_ ++ (_ ++ _))
                simp only [List.length_append, List.length_take, List.length_drop, List.length_map, List.length_replicate, List.length_cons, List.length_nil]; omega
              · rw [show i - 0 + (ps.length + 1 - i) = ps.length + 1 by omega, show (insL ps i y).map enc2 = List.take i (ps.map enc2) ++ enc2 y :: List.drop i (ps.map enc2) by simp [insL, List.map_take, List.map_drop]]
                exact ins_grown (by simp) hi _ _ rfl rfl _
        · refine Sy.sli_eq 0 (ps.length + 1) rfl (by omega) ⟨by omega, by omega⟩ ?_
          conv => whnf
          refine Sy.br_dec (fun hh => ?_) (fun hh => by exfalso; omega)
          conv => whnf
          refine Sy.rev_out (by omega) (fun sp hs1 hs2 => ?_)
          ((repeat' ((conv => whnf);(first|refine zA ?_|(refine zI ?_ ?_<;> intro hh<;> first|(exfalso;omega)|skip)|(refine zl ?_ ?_<;> intro hh)|refine zq ?_|refine zv ?_|refine zu ?_|exact Sy.fin_val fun e=>rfl)));(all_goals (try conv => whnf)))
          refine Sy.sli_eq (i + 1) (ps.length + 1) rfl rfl ⟨by omega, by omega⟩ ?_
          ((repeat' ((conv => whnf);(first|refine zA ?_|(refine zI ?_ ?_<;> intro hh<;> first|(exfalso;omega)|skip)|(refine zl ?_ ?_<;> intro hh)|refine zq ?_|refine zv ?_|refine zu ?_|exact Sy.fin_val fun e=>rfl)));(all_goals (try conv => whnf)))
          refine Sy.rev_in (by show 0 + 0 + (ps.length + 1) ≤ (ps.map enc2 ++ sp).length; rw [List.length_append, List.length_map, hs1]; show _ ≤ ps.length + (cap - (ps.map enc2).length); rw [List.length_map]; omega) ?_
          ((repeat' ((conv => whnf);(first|refine zA ?_|(refine zI ?_ ?_<;> intro hh<;> first|(exfalso;omega)|skip)|(refine zl ?_ ?_<;> intro hh)|refine zq ?_|refine zv ?_|refine zu ?_|exact Sy.fin_val fun e=>rfl)));(all_goals (try conv => whnf)))
          have hsl : (ps.map enc2 ++ sp).length = cap := by
            have h5 : (Els.vs (List.map enc2 ps)).len = ps.length := by show (List.map enc2 ps).length = _; simp
            rw [h5] at hs1
            rw [List.length_append, List.length_map, hs1]; omega
          have hcap2 : ps.length + 1 ≤ cap := by omega
          refine Sy.call_ext (.c (.v (.bool false))) rfl (fun e a w' hR => ?_) ?_
          · obtain ⟨hb0, hb1, hb2, hb3⟩ := hR.hp 0 _ rfl
            have hE := (hR.es 1 (by show 1 < 2; decide)).2.1
            have hE : e.rv 1 = u := hE
            have hD := (hR.es 0 (by show 0 < 2; decide)).1
            have hD : e.ad 0 = g := hD
            rcases hu1.2.2 with ⟨A, _, h0⟩ | ⟨gu, cu, hgu, hBu⟩
            · exact absurd h0 (by decide)
            · obtain ⟨_, _, _, hc0, xu, hxu, _⟩ := hBu
              have hfu : Sy.rfoot u gu := ⟨_, _, _, hgu, hc0, rfl⟩
              have hft : Sy.rfoot (.slice (some ⟨g, 0, none⟩) ps.length cap) g := ⟨_, _, _, rfl, by omega, rfl⟩
              have hne : gu ≠ g := fun h => by subst h; exact hu2 _ hfu hft
              have hxu' := (hR.bel.block gu (Array.getElem?_eq_some_iff.1 hxu).1 (hu2 _ hfu)).trans hxu
              obtain ⟨_, _, _, hc1, xg, hxg, hxs, _⟩ := hb0
              rw [hD] at hxg hb3
              have e3 : (⟨g, 0, none⟩ : Addr).add ((0 + 0 + (i + 1)) * e.es 0) = ⟨g, (0 + 0 + (i + 1)) * e.es 0, none⟩ := Sy.addr_mid _ _
              simp only [Sy.denAll, List.map_cons, List.map_nil, SV.den, C.den, hE, hb3, e3]
              rw [hgu]
              exact ovlP w' gu g _ _ _ _ _ xu xg hxu' hxg hne (by rw [hxs]; omega)
          ((repeat' ((conv => whnf);(first|refine zA ?_|(refine zI ?_ ?_<;> intro hh<;> first|(exfalso;omega)|skip)|(refine zl ?_ ?_<;> intro hh)|refine zq ?_|refine zv ?_|refine zu ?_|exact Sy.fin_val fun e=>rfl)));(all_goals (try conv => whnf)))
          refine Sy.draw_go [0] (by kernel_rfl) ?_
          intro e0
          conv => whnf
          refine zt 0 rfl ?_
          conv => whnf
          refine zt 1 rfl ?_
          conv => whnf
          refine zt 2 rfl ?_
          conv => whnf
          refine zt 3 rfl ?_
          (conv => whnf);(repeat' ((first|refine zA ?_|(refine zI ?_ ?_<;> intro hh<;> first|(exfalso;omega)|skip)|(refine zl ?_ ?_<;> intro hh)|refine zq ?_|refine zv ?_|refine zu ?_|exact Sy.fin_val fun e=>rfl);(try conv => whnf)))
          refine zt 5 rfl ?_
          conv => whnf
          refine zt 6 rfl ?_
          conv => whnf
          focus
            refine zd1 [4, 7] (zx rfl ?_ (zx rfl ?_ zy))
            focus
              conv => whnf
              refine Sy.sli_eq (i + 1) (ps.length + 1) rfl rfl ⟨by omega, by omega⟩ ?_
              conv => whnf
              refine Sy.br_dec (fun hh => ?_) (fun hh => by exfalso; omega)
              conv => whnf
              refine Sy.rev_in (by show 0 + 0 + (ps.length + 1) ≤ (ps.map enc2 ++ sp).length; omega) ?_
              conv => whnf
              refine ⟨(by repeat' ((conv => whnf);first|exact trivial|(refine And.intro ?_ ?_)|rfl)), ?_⟩
              refine zd1 [7] (zx rfl ?_ zy)
              conv => whnf
              refine Sy.sli_eq i (ps.length + 1) rfl rfl ⟨by omega, by omega⟩ ?_
              conv => whnf
              refine Sy.br_dec (fun hh => ?_) (fun hh => by exfalso; omega)
              conv => whnf
              refine Sy.rev_in (by show 0 + 0 + (ps.length + 1) ≤ (ps.map enc2 ++ sp).length; omega) ?_
              conv => whnf
              refine ⟨(by repeat' ((conv => whnf);first|exact trivial|(refine And.intro ?_ ?_)|rfl)), ?_⟩
              refine zd1 [8] (zx rfl ?_ zy)
              conv => whnf
              refine Sy.need_of (by show 0 + 0 + i + (ps.length + 1 - i) ≤ (ps.map enc2 ++ sp).length; omega) ?_
              conv => whnf
              refine Sy.need_of (by show 0 + 0 + (i + 1) + (ps.length + 1 - (i + 1)) ≤ (ps.map enc2 ++ sp).length; omega) ?_
              refine Sy.cop_right (by omega) ?_
              conv => whnf
              refine ⟨(by repeat' ((conv => whnf);first|exact trivial|(refine And.intro ?_ ?_)|rfl)), ?_⟩
              refine zw ?_
              all_goals (((repeat' ((conv => whnf);(first|refine zA ?_|(refine zI ?_ ?_<;> intro hh<;> first|(exfalso;omega)|skip)|(refine zl ?_ ?_<;> intro hh)|refine zq ?_|refine zv ?_|refine zu ?_|exact Sy.fin_val fun e=>rfl)));(all_goals (try conv => whnf))))
              refine Sy.sli_eq i (ps.length + 1) rfl rfl ⟨by omega, by omega⟩ ?_
              conv => whnf
              refine Sy.br_dec (fun hh => ?_) (fun hh => by exfalso; omega)
              conv => whnf
              refine Sy.rev_in (by show 0 + 0 + (ps.length + 1) ≤ List.length (_ ++ (_ ++ _)); (try simp only [List.length_append, List.length_take, List.length_drop, List.length_map] at *); omega) ?_
              ((repeat' ((conv => whnf);(first|refine zA ?_|(refine zI ?_ ?_<;> intro hh<;> first|(exfalso;omega)|skip)|(refine zl ?_ ?_<;> intro hh)|refine zq ?_|refine zv ?_|refine zu ?_|exact Sy.fin_val fun e=>rfl)));(all_goals (try conv => whnf)))
              refine Sy.need_of (by show 0 + 0 + i + (ps.length + 1 - i) ≤ List.length (_ ++ (_ ++ _)); (try simp only [List.length_append, List.length_take, List.length_drop, List.length_map] at *); omega) ?_
              refine Sy.cop_left (by omega) ?_
              ((repeat' ((conv => whnf);(first|refine zA ?_|(refine zI ?_ ?_<;> intro hh<;> first|(exfalso;omega)|skip)|(refine zl ?_ ?_<;> intro hh)|refine zq ?_|refine zv ?_|refine zu ?_|exact Sy.fin_val fun e=>rfl)));(all_goals (try conv => whnf)))
              refine Sy.fin_buf () trivial rfl ?_ (ys := (insL ps i y).map enc2) (by rw [show ps.length + 1 - 0 = ps.length + 1 by omega]) (fun e => ?_)
              · show _ ≤ List.length (_ ++ (_ ++ _))
                simp only [List.length_append, List.length_take, List.length_drop, List.length_map, List.length_cons, List.length_nil] at *; try omega
              · rw [show ps.length + 1 - 0 = ps.length + 1 by omega, show (insL ps i y).map enc2 = List.take i (ps.map enc2) ++ enc2 y :: List.drop i (ps.map enc2) by simp [insL, List.map_take, List.map_drop]]
                exact ins_place (M := ps.map enc2) (sp := sp) (by simp) hi (by omega) _ rfl _ _ rfl _ rfl
            rotate_right
            focus
              conv => whnf
              refine Sy.sli_eq i (ps.length + 1) rfl rfl ⟨by omega, by omega⟩ ?_
              conv => whnf
              refine Sy.br_dec (fun hh => ?_) (fun hh => by exfalso; omega)
              conv => whnf
              refine Sy.rev_in (by show 0 + 0 + (ps.length + 1) ≤ (ps.map enc2 ++ sp).length; omega) ?_
              conv => whnf
              refine ⟨(by repeat' ((conv => whnf);first|exact trivial|(refine And.intro ?_ ?_)|rfl)), ?_⟩
              refine zd1 [4] (zx rfl ?_ zy)
              conv => whnf
              refine Sy.sli_eq (i + 1) (ps.length + 1) rfl rfl ⟨by omega, by omega⟩ ?_
              conv => whnf
              refine Sy.br_dec (fun hh => ?_) (fun hh => by exfalso; omega)
              conv => whnf
              refine Sy.rev_in (by show 0 + 0 + (ps.length + 1) ≤ (ps.map enc2 ++ sp).length; omega) ?_
              conv => whnf
              refine ⟨(by repeat' ((conv => whnf);first|exact trivial|(refine And.intro ?_ ?_)|rfl)), ?_⟩
              refine zd1 [8] (zx rfl ?_ zy)
              conv => whnf
              refine Sy.need_of (by show 0 + 0 + i + (ps.length + 1 - i) ≤ (ps.map enc2 ++ sp).length; omega) ?_
              conv => whnf
              refine Sy.need_of (by show 0 + 0 + (i + 1) + (ps.length + 1 - (i + 1)) ≤ (ps.map enc2 ++ sp).length; omega) ?_
              refine Sy.cop_right (by omega) ?_
              conv => whnf
              refine ⟨(by repeat' ((conv => whnf);first|exact trivial|(refine And.intro ?_ ?_)|rfl)), ?_⟩
              refine zw ?_
              all_goals (((repeat' ((conv => whnf);(first|refine zA ?_|(refine zI ?_ ?_<;> intro hh<;> first|(exfalso;omega)|skip)|(refine zl ?_ ?_<;> intro hh)|refine zq ?_|refine zv ?_|refine zu ?_|exact Sy.fin_val fun e=>rfl)));(all_goals (try conv => whnf))))
              refine Sy.sli_eq i (ps.length + 1) rfl rfl ⟨by omega, by omega⟩ ?_
              conv => whnf
              refine Sy.br_dec (fun hh => ?_) (fun hh => by exfalso; omega)
              conv => whnf
              refine Sy.rev_in (by show 0 + 0 + (ps.length + 1) ≤ List.length (_ ++ (_ ++ _)); (try simp only [List.length_append, List.length_take, List.length_drop, List.length_map] at *); omega) ?_
              ((repeat' ((conv => whnf);(first|refine zA ?_|(refine zI ?_ ?_<;> intro hh<;> first|(exfalso;omega)|skip)|(refine zl ?_ ?_<;> intro hh)|refine zq ?_|refine zv ?_|refine zu ?_|exact Sy.fin_val fun e=>rfl)));(all_goals (try conv => whnf)))
              refine Sy.need_of (by show 0 + 0 + i + (ps.length + 1 - i) ≤ List.length (_ ++ (_ ++ _)); (try simp only [List.length_append, List.length_take, List.length_drop, List.length_map] at *); omega) ?_
              refine Sy.cop_left (by omega) ?_
              ((repeat' ((conv => whnf);(first|refine zA ?_|(refine zI ?_ ?_<;> intro hh<;> first|(exfalso;omega)|skip)|(refine zl ?_ ?_<;> intro hh)|refine zq ?_|refine zv ?_|refine zu ?_|exact Sy.fin_val fun e=>rfl)));(all_goals (try conv => whnf)))
              refine Sy.fin_buf () trivial rfl ?_ (ys := (insL ps i y).map enc2) (by rw [show ps.length + 1 - 0 = ps.length + 1 by omega]) (fun e => ?_)
              · show _ ≤ List.length (_ ++ (_ ++ _))
                simp only [List.length_append, List.length_take, List.length_drop, List.length_map, List.length_cons, List.length_nil] at *; try omega
              · rw [show ps.length + 1 - 0 = ps.length + 1 by omega, show (insL ps i y).map enc2 = List.take i (ps.map enc2) ++ enc2 y :: List.drop i (ps.map enc2) by simp [insL, List.map_take, List.map_drop]]
                exact ins_place (M := ps.map enc2) (sp := sp) (by simp) hi (by omega) _ rfl _ _ rfl _ rfl
      · ((repeat' ((conv => whnf);(first|refine zA ?_|(refine zI ?_ ?_<;> intro hh<;> first|(exfalso;omega)|skip)|(refine zl ?_ ?_<;> intro hh)|refine zq ?_|refine zv ?_|refine zu ?_|exact Sy.fin_val fun e=>rfl)));(all_goals (try conv => whnf)))
        refine Sy.need_of (by show ps.length ≤ (ps.map enc2).length; rw [List.length_map]; omega) ?_
        conv => whnf
        refine Sy.br_dec (fun hh => by exfalso; omega) (fun hh => ?_)
        ((repeat' ((conv => whnf);(first|refine zA ?_|(refine zI ?_ ?_<;> intro hh<;> first|(exfalso;omega)|skip)|(refine zl ?_ ?_<;> intro hh)|refine zq ?_|refine zv ?_|refine zu ?_|exact Sy.fin_val fun e=>rfl)));(all_goals (try conv => whnf)))
        refine Sy.need_app 16 rfl ⟨by omega, by omega⟩ (fun cap' hc1 hc2 => ?_)
        ((repeat' ((conv => whnf);(first|refine zA ?_|(refine zI ?_ ?_<;> intro hh<;> first|(exfalso;omega)|skip)|(refine zl ?_ ?_<;> intro hh)|refine zq ?_|refine zv ?_|refine zu ?_|exact Sy.fin_val fun e=>rfl)));(all_goals (try conv => whnf)))
        refine Sy.fin_buf () trivial rfl ?_ rfl (fun e => ?_)
        · show ps.length + 1 ≤ (List.take ps.length (ps.map enc2) ++ [enc2 y]).length
          rw [e1]; simp
        · show List.take (ps.length + 1) (List.take ps.length (ps.map enc2) ++ [enc2 y]) = _
          rw [insL_end _ _ _ (by omega), e1]
          exact List.take_of_length_le (by simp)
end Go.Proofs.Ytjhjmeajdebcbaa
