/- Region: regions. -/
import Derived.Test.YthmcknchkecciaaRA
namespace Go.Proofs.Ythmcknchkecciaa
open Go Go.RowKit
open Sy (C SV V1 Blk St XD Els)
set_option maxRecDepth 10000

def regsN (g : List Opr) (m : Nat) : List Int := (List.range m).map fun x => (regOf g x : Int)
theorem regsN_succ (g : List Opr) (m : Nat) : regsN g (m + 1) = regsN g m ++ [(regOf g m : Int)] := by unfold regsN; rw [List.range_succ, List.map_append]; rfl
theorem regsN_len (g : List Opr) (m : Nat) : (regsN g m).length = m := by simp [regsN]
theorem regsN_get (g : List Opr) {m i : Nat} (h : i < m) : (regsN g m)[i]? = some (regOf g i : Int) := by unfold regsN; rw [List.getElem?_map, List.getElem?_range h]; rfl
/-- The places, the first m numbered. -/
def initR (n m : Nat) : List (List Value) := (List.range n).map fun i => [Value.pointer none, .int .i64 (if i < m then (i : Int) else 0)]
theorem initR_zero (n : Nat) : List.replicate n [Value.pointer none, .int .i64 0] = initR n 0 := by
  unfold initR
  apply List.ext_getElem?
  intro i
  by_cases hi : i < n
  · rw [List.getElem?_replicate, if_pos hi, List.getElem?_map, List.getElem?_range hi]; rfl
  · rw [List.getElem?_eq_none (by simp; omega), List.getElem?_eq_none (by simp; omega)]
theorem initR_len (n m : Nat) : (initR n m).length = n := by simp [initR]
theorem initR_get {n m i : Nat} (h : i < n) : (initR n m)[i]? = some [Value.pointer none, .int .i64 (if i < m then (i : Int) else 0)] := by unfold initR; rw [List.getElem?_map, List.getElem?_range h]; rfl
theorem initR_set {n m : Nat} (h : m < n) : (initR n m).set m [Value.pointer none, .int .i64 (m : Int)] = initR n (m + 1) := by
  apply List.ext_getElem?
  intro i
  by_cases hi : i = m
  · subst hi
    rw [List.getElem?_set_self (by rw [initR_len]; exact h), initR_get h, if_pos (by omega)]
  · rw [List.getElem?_set_ne (by omega)]
    by_cases hn : i < n
    · rw [initR_get hn, initR_get hn]
      by_cases h1 : i < m
      · rw [if_pos h1, if_pos (by omega)]
      · rw [if_neg h1, if_neg (by omega)]
    · rw [List.getElem?_eq_none (by rw [initR_len]; omega), List.getElem?_eq_none (by rw [initR_len]; omega)]
def numsR (n : Nat) : List (List Value) := (List.range n).map fun i : Nat => [Value.int .i64 (i : Int)]
theorem initR_end (n : Nat) : initR n n = (numsR n).map fun x => Value.pointer none :: x := by
  unfold initR numsR
  rw [List.map_map]
  refine List.map_congr_left fun i hi => ?_
  rw [if_pos (List.mem_range.1 hi)]
  rfl
theorem numsR_nodes (n : Nat) : ((numsR n).map fun x => ((none : Option Nat), x)) = nodes n (fun _ => none) := by
  unfold numsR nodes
  rw [List.map_map]
  rfl
attribute [local irreducible] regOf
set_option maxHeartbeats 4000000 in
theorem regions_any (v : Value) (gl : List OpV) (w : World) (hr : GOk (fun b => b < w.heap.size) w v gl) (hlen : gl.length ≤ 100) (hg : goodTo (opsOf gl) gl.length) :
    Calls Try.prog 37 #[.agg #[v]] w (Sy.RetRows Sy.noRow (fun _ : Unit => True) (fun _ => [⟨3, 1, gl.length, (regsN (opsOf gl) gl.length).map encI⟩]) (fun _ vs => vs.headD undef) w) := by
  have hol := opsOf_len gl
  refine Sy.calls_of Sy.lv37 Sy.tab_ok Try.func37 rfl _ Try.ntmps37 [⟨v, 5, gl.length, gl.map encOV⟩] [.agg [.row 0]] rfl rfl rfl ⟨hr.1, trivial⟩ ?_
  ((repeat' ((conv => whnf);(first|refine zA ?_|(refine zI ?_ ?_<;> intro hh<;> first|(exfalso;omega)|skip)|(refine zl ?_ ?_<;> intro hh)|refine zq ?_|refine zv ?_|exact Sy.fin_val fun e=>rfl)));(all_goals (try conv => whnf)))
  refine Sy.mk_nat ⟨by omega, by show (16 : Int) * _ ≤ _; omega, by omega⟩ ?_
  ((repeat' ((conv => whnf);(first|refine zA ?_|(refine zI ?_ ?_<;> intro hh<;> first|(exfalso;omega)|skip)|(refine zl ?_ ?_<;> intro hh)|refine zq ?_|refine zv ?_|exact Sy.fin_val fun e=>rfl)));(all_goals (try conv => whnf)))
  rw [show List.replicate gl.length (Sy.zeroE Sy.ti84) = initR gl.length 0 from initR_zero _]
  refine Sy.loop_inv Sy.tab_ok (fun m : Nat => [(17, .c (.v (.int .i64 m)))]) (fun m => [(2, .row 84 2 gl.length (.vs (initR gl.length m)))]) (fun m => m ≤ gl.length) (fun m => gl.length - m) 0 (Nat.zero_le _) ?_ (fun m hm => ?_)
  · ((repeat' (first|((conv => whnf);done)|((try conv => whnf);first|exact trivial|(refine And.intro ?_ ?_)|rfl|exact fun _ _ _ h=>h|exact fun _ _ _ _=>trivial)));(all_goals (try conv => whnf)))
  · ((repeat' ((conv => whnf);(first|refine zA ?_|(refine zI ?_ ?_<;> intro hh<;> first|(exfalso;omega)|skip)|(refine zl ?_ ?_<;> intro hh)|refine zq ?_|refine zv ?_|exact Sy.fin_val fun e=>rfl)));(all_goals (try conv => whnf)))
    · have hlt : m < gl.length := by omega
      refine Sy.el_of _ (initR_get hlt) ?_
      ((repeat' ((conv => whnf);(first|refine zA ?_|(refine zI ?_ ?_<;> intro hh<;> first|(exfalso;omega)|skip)|(refine zl ?_ ?_<;> intro hh)|refine zq ?_|refine zv ?_|exact Sy.fin_val fun e=>rfl)));(all_goals (try conv => whnf)))
      rw [show (initR gl.length m).set m (Sy.splice [Value.pointer none, .int .i64 (if m < m then (m : Int) else 0)] 1 [.int .i64 (m : Int)]) = initR gl.length (m + 1) from initR_set hlt]
      refine ⟨m + 1, by omega, by omega, ?_⟩
      ((repeat' (first|((conv => whnf);done)|((try conv => whnf);first|exact trivial|(refine And.intro ?_ ?_)|rfl|exact fun _ _ _ h=>h|exact fun _ _ _ _=>trivial)));(all_goals (try conv => whnf)))
    · have e : m = gl.length := by omega
      subst e
      rw [initR_end]
      refine Sy.sem_subF (Sy.sub_ns 2 84 2 gl.length _ (numsR gl.length) rfl rfl) ?_
      conv => whnf
      rw [numsR_nodes]
      refine Sy.loop_inv Sy.tab_ok (fun x : Nat × (Nat → Option Nat) => [(29, .c (.v (.int .i64 x.1)))]) (fun x => [(2, .row 84 2 gl.length (.ns 2 (nodes gl.length x.2)))]) (fun x => x.1 ≤ gl.length ∧ RootOk x.2 (hangs id (edgeN (opsOf gl) x.1 0))) (fun x => gl.length - x.1) (0, fun _ => none) ⟨Nat.zero_le _, RootOk.start⟩ ?_ (fun x hx => ?_)
      · ((repeat' (first|((conv => whnf);done)|((try conv => whnf);first|exact trivial|(refine And.intro ?_ ?_)|rfl|exact fun _ _ _ h=>h|exact fun _ _ _ _=>trivial)));(all_goals (try conv => whnf)))
      · obtain ⟨i, ps⟩ := x
        obtain ⟨hi, hps⟩ := hx
        dsimp only at hi hps ⊢
        ((repeat' ((conv => whnf);(first|refine zA ?_|(refine zI ?_ ?_<;> intro hh<;> first|(exfalso;omega)|skip)|(refine zl ?_ ?_<;> intro hh)|refine zq ?_|refine zv ?_|exact Sy.fin_val fun e=>rfl)));(all_goals (try conv => whnf)))
        · have hlt : i < gl.length := by omega
          have hgi := List.getElem?_eq_getElem hlt
          generalize gl[i] = o at *
          have hgo := opsOf_get hgi
          have hoo := hr.at hgi
          have ha := hg i o.op hlt hgo
          have hil := rises_len ha.2.2.1
          refine Sy.el_map o hgi ?_
          ((repeat' ((conv => whnf);(first|refine zA ?_|(refine zI ?_ ?_<;> intro hh<;> first|(exfalso;omega)|skip)|(refine zl ?_ ?_<;> intro hh)|refine zq ?_|refine zv ?_|exact Sy.fin_val fun e=>rfl)));(all_goals (try conv => whnf)))
          refine open_x _ _ _ (hoo) (fun _ h => h) ?_
          ((repeat' ((conv => whnf);(first|refine zA ?_|(refine zI ?_ ?_<;> intro hh<;> first|(exfalso;omega)|skip)|(refine zl ?_ ?_<;> intro hh)|refine zq ?_|refine zv ?_|exact Sy.fin_val fun e=>rfl)));(all_goals (try conv => whnf)))
          refine Sy.loop_inv Sy.tab_ok (fun x : Nat × (Nat → Option Nat) => [(37, .c (.v (.int .i64 x.1)))]) (fun x => [(2, .row 84 2 gl.length (.ns 2 (nodes gl.length x.2)))]) (fun x => x.1 ≤ o.op.ins.length ∧ RootOk x.2 (hangs id (edgeN (opsOf gl) i x.1))) (fun x => o.op.ins.length - x.1) (0, ps) ⟨Nat.zero_le _, hps⟩ ?_ (fun x hx => ?_)
          · ((repeat' (first|((conv => whnf);done)|((try conv => whnf);first|exact trivial|(refine And.intro ?_ ?_)|rfl|exact fun _ _ _ h=>h|exact fun _ _ _ _=>trivial)));(all_goals (try conv => whnf)))
          · obtain ⟨k, qs⟩ := x
            obtain ⟨hk, hqs⟩ := hx
            dsimp only at hk hqs ⊢
            ((repeat' ((conv => whnf);(first|refine zA ?_|(refine zI ?_ ?_<;> intro hh<;> first|(exfalso;omega)|skip)|(refine zl ?_ ?_<;> intro hh)|refine zq ?_|refine zv ?_|exact Sy.fin_val fun e=>rfl)));(all_goals (try conv => whnf)))
            · have hlk : k < o.op.ins.length := by omega
              have hgk := List.getElem?_eq_getElem hlk
              have hkb := alone_ins ha _ (List.getElem_mem hlk)
              generalize o.op.ins[k] = x at *
              refine Sy.el_map x hgk ?_
              ((repeat' ((conv => whnf);(first|refine zA ?_|(refine zI ?_ ?_<;> intro hh<;> first|(exfalso;omega)|skip)|(refine zl ?_ ?_<;> intro hh)|refine zq ?_|refine zv ?_|exact Sy.fin_val fun e=>rfl)));(all_goals (try conv => whnf)))
              refine Sy.draw_go [2] (by kernel_rfl) ?_
              intro e0
              conv => whnf
              refine zt 0 rfl ?_
              conv => whnf
              refine zt 1 rfl ?_
              conv => whnf
              refine zt 3 rfl ?_
              conv => whnf
              refine zt 4 rfl ?_
              conv => whnf
              focus
                refine zd1 [2, 5] (zx rfl ?_ (zx rfl ?_ zy))
                focus
                  conv => whnf
                  refine Sy.idx_nat hlt ?_
                  conv => whnf
                  refine ⟨(by repeat' ((conv => whnf);first|exact trivial|(refine And.intro ?_ ?_)|rfl)), ?_⟩
                  refine zd1 [5] (zx rfl ?_ zy)
                  conv => whnf
                  refine Sy.idx_in (by omega) (by omega) ?_
                  conv => whnf
                  refine ⟨(by repeat' ((conv => whnf);first|exact trivial|(refine And.intro ?_ ?_)|rfl)), ?_⟩
                  refine zd1 [6] (zx rfl ?_ zy)
                  conv => whnf
                  refine Sy.call_own (hang_does (n := gl.length) (a := i) (b := x.toNat) hqs hlt (by omega)) Try.call52 ?_
                  ((conv => whnf);(refine And.intro ?_ (And.intro ?_ (And.intro ?_ (And.intro ?_ ?_))));(all_goals ((repeat' (first|((conv => whnf);done)|((try conv => whnf);first|exact trivial|(refine And.intro ?_ ?_)|rfl|exact fun _ _ _ h=>h|exact fun _ _ _ _=>trivial)));(all_goals (try conv => whnf))));rotate_right)
                  intro _ _ _
                  conv => whnf
                  refine ⟨(by repeat' ((conv => whnf);first|exact trivial|(refine And.intro ?_ ?_)|rfl)), ?_⟩
                  refine zw ?_
                  skip
                rotate_right
                focus
                  conv => whnf
                  refine Sy.idx_in (by omega) (by omega) ?_
                  conv => whnf
                  refine ⟨(by repeat' ((conv => whnf);first|exact trivial|(refine And.intro ?_ ?_)|rfl)), ?_⟩
                  refine zd1 [2] (zx rfl ?_ zy)
                  conv => whnf
                  refine Sy.idx_nat hlt ?_
                  conv => whnf
                  refine ⟨(by repeat' ((conv => whnf);first|exact trivial|(refine And.intro ?_ ?_)|rfl)), ?_⟩
                  refine zd1 [6] (zx rfl ?_ zy)
                  conv => whnf
                  refine Sy.call_own (hang_does (n := gl.length) (a := i) (b := x.toNat) hqs hlt (by omega)) Try.call52 ?_
                  ((conv => whnf);(refine And.intro ?_ (And.intro ?_ (And.intro ?_ (And.intro ?_ ?_))));(all_goals ((repeat' (first|((conv => whnf);done)|((try conv => whnf);first|exact trivial|(refine And.intro ?_ ?_)|rfl|exact fun _ _ _ h=>h|exact fun _ _ _ _=>trivial)));(all_goals (try conv => whnf))));rotate_right)
                  intro _ _ _
                  conv => whnf
                  refine ⟨(by repeat' ((conv => whnf);first|exact trivial|(refine And.intro ?_ ?_)|rfl)), ?_⟩
                  refine zw ?_
                  skip
              all_goals (((repeat' ((conv => whnf);(first|refine zA ?_|(refine zI ?_ ?_<;> intro hh<;> first|(exfalso;omega)|skip)|(refine zl ?_ ?_<;> intro hh)|refine zq ?_|refine zv ?_|exact Sy.fin_val fun e=>rfl)));(all_goals (try conv => whnf))))
              all_goals (
                refine ⟨(k + 1, hungP qs (hangs id (edgeN (opsOf gl) i k)) i x.toNat), ⟨by dsimp only; omega, by
                  dsimp only
                  rw [edgeN_k hgo hgk, hangs_snoc]
                  exact hung_ok hqs i x.toNat⟩, by dsimp only; omega, ?_⟩
                dsimp only
                ((repeat' (first|((conv => whnf);done)|((try conv => whnf);first|exact trivial|(refine And.intro ?_ ?_)|rfl|exact fun _ _ _ h=>h|exact fun _ _ _ _=>trivial)));(all_goals (try conv => whnf))))
            · have e : k = o.op.ins.length := by omega
              refine ⟨(i + 1, qs), ⟨by dsimp only; omega, by dsimp only; rw [edgeN_i hgo, ← e]; exact hqs⟩, by dsimp only; omega, ?_⟩
              dsimp only
              ((repeat' (first|((conv => whnf);done)|((try conv => whnf);first|exact trivial|(refine And.intro ?_ ?_)|rfl|exact fun _ _ _ h=>h|exact fun _ _ _ _=>trivial)));(all_goals (try conv => whnf)))
        · have e : i = gl.length := by omega
          subst e
          have hrf : hangs id (edgeN (opsOf gl) gl.length 0) = regOf (opsOf gl) := by funext x; unfold regOf edgesL; rw [hol]
          rw [hrf] at hps
          refine Sy.sem_subF (Sy.sub_row 9 3 1 rfl) ?_
          conv => whnf
          refine Sy.loop_inv Sy.tab_ok (fun m : Nat => [(52, .c (.v (.int .i64 m))), (9, .c (.row 3))]) (fun m => [(3, .row 3 1 (regsN (opsOf gl) m).length (.vs ((regsN (opsOf gl) m).map encI)))]) (fun m => m ≤ gl.length) (fun m => gl.length - m) 0 (Nat.zero_le _) ?_ (fun m hm => ?_)
          · rw [show regsN (opsOf gl) 0 = [] from rfl]
            ((repeat' (first|((conv => whnf);done)|((try conv => whnf);first|exact trivial|(refine And.intro ?_ ?_)|rfl|exact fun _ _ _ h=>h|exact fun _ _ _ _=>trivial)));(all_goals (try conv => whnf)))
          · have hrl := regsN_len (opsOf gl) m
            ((repeat' ((conv => whnf);(first|refine zA ?_|(refine zI ?_ ?_<;> intro hh<;> first|(exfalso;omega)|skip)|(refine zl ?_ ?_<;> intro hh)|refine zq ?_|refine zv ?_|exact Sy.fin_val fun e=>rfl)));(all_goals (try conv => whnf)))
            · have hlt : m < gl.length := by omega
              have hle := hps.le m
              refine Sy.call_own (root_does (n := gl.length) (i := m) hps hlt) Try.call53 ?_
              ((conv => whnf);(refine And.intro ?_ (And.intro ?_ (And.intro ?_ (And.intro ?_ ?_))));(all_goals ((repeat' (first|((conv => whnf);done)|((try conv => whnf);first|exact trivial|(refine And.intro ?_ ?_)|rfl|exact fun _ _ _ h=>h|exact fun _ _ _ _=>trivial)));(all_goals (try conv => whnf))));rotate_right)
              intro _ _ _
              ((repeat' ((conv => whnf);(first|refine zA ?_|(refine zI ?_ ?_<;> intro hh<;> first|(exfalso;omega)|skip)|(refine zl ?_ ?_<;> intro hh)|refine zq ?_|refine zv ?_|exact Sy.fin_val fun e=>rfl)));(all_goals (try conv => whnf)))
              refine Sy.eln_of _ (nodes_get ps (show regOf (opsOf gl) m < gl.length by omega)) ?_
              ((repeat' ((conv => whnf);(first|refine zA ?_|(refine zI ?_ ?_<;> intro hh<;> first|(exfalso;omega)|skip)|(refine zl ?_ ?_<;> intro hh)|refine zq ?_|refine zv ?_|exact Sy.fin_val fun e=>rfl)));(all_goals (try conv => whnf)))
              refine Sy.need_of (by show ((regsN (opsOf gl) m).length + 1) * 8 ≤ _ ∧ _; omega) ?_
              ((repeat' ((conv => whnf);(first|refine zA ?_|(refine zI ?_ ?_<;> intro hh<;> first|(exfalso;omega)|skip)|(refine zl ?_ ?_<;> intro hh)|refine zq ?_|refine zv ?_|exact Sy.fin_val fun e=>rfl)));(all_goals (try conv => whnf)))
              have es : (regsN (opsOf gl) m).map encI ++ [[Value.int .i64 (regOf (opsOf gl) m : Int)]] = (regsN (opsOf gl) (m + 1)).map encI := by rw [regsN_succ, List.map_append]; rfl
              have el : (regsN (opsOf gl) m).length + 1 = (regsN (opsOf gl) (m + 1)).length := by rw [regsN_len, regsN_len]
              rw [es, el]
              refine ⟨m + 1, by omega, by omega, ?_⟩
              ((repeat' (first|((conv => whnf);done)|((try conv => whnf);first|exact trivial|(refine And.intro ?_ ?_)|rfl|exact fun _ _ _ h=>h|exact fun _ _ _ _=>trivial)));(all_goals (try conv => whnf)))
            · have e : m = gl.length := by omega
              subst e
              rw [regsN_len]
              exact Sy.fin_r1 (.row 3) rfl
end Go.Proofs.Ythmcknchkecciaa
