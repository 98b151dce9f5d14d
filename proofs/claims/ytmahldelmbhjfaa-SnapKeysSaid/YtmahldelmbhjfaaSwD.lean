/- Snap: the parts of a whole for another width, twice; are snapshots the same. -/
import Derived.Test.YtmahldelmbhjfaaSwA
import Derived.Test.YtmahldelmbhjfaaSwC
import Derived.Test.YtmahldelmbhjfaaSnW
import Derived.Test.YtmahldelmbhjfaaSnF
namespace Go.Proofs.Ytmahldelmbhjfaa
open Go Go.RowKit
open Sy (C SV V1 Blk St XD Els)
set_option maxRecDepth 10000

theorem part_mem (n : Nat) (s : SnV) (i m : Int) (w : World) (hn : n ≤ w.heap.size) (hr : SOk (fun b => b < w.heap.size) w s) (hl : tblB s.sn.rows = true) (hsh : shareP i m) :
    Calls Try.prog 44 #[.agg (encS s).toArray, .int .i64 i, .int .i64 m] w (Sy.RetMem (fun (x : One) G w' => SOk (fun b => G b ∧ n ≤ b) w' ⟨partS s.sn i m, x.v, .slice none 0 0⟩) (fun x => .agg (encS ⟨partS s.sn i m, x.v, .slice none 0 0⟩).toArray) w) :=
  (mem_r1 n hn (part1_any s i m w hr hl hsh)).mono fun _ _ ⟨x, hE, hb, h1⟩ => ⟨x, hE, hb, h1, nil_ok⟩
theorem rpart_mem (n : Nat) (s : SnV) (i m : Int) (w : World) (hn : n ≤ w.heap.size) (hr : SOk (fun b => b < w.heap.size) w s) (hE : partE s.sn i m = 0) :
    Calls Try.prog 16 #[.agg (encS s).toArray, .int .i64 i, .int .i64 m] w (Sy.RetMem (fun (x : One) G w' => SOk (fun b => G b ∧ n ≤ b) w' ⟨partS s.sn i m, x.v, .slice none 0 0⟩) (fun x => .tuple #[.agg (encS ⟨partS s.sn i m, x.v, .slice none 0 0⟩).toArray, .int .i64 0]) w) := by
  have h := mem_r1 n hn (rpart_any s i m w hr)
  rw [hE, show partV s.sn i m = partS s.sn i m from if_pos hE] at h
  exact h.mono fun _ _ ⟨x, hE, hb, h1⟩ => ⟨x, hE, hb, h1, nil_ok⟩
/-- The parts of a whole. -/
def partsL (s : Sn) (m : Nat) (k : Nat) : List Sn := (List.range k).map fun i : Nat => partS s (i : Int) (m : Int)
theorem partsL_succ (s : Sn) (m k : Nat) : partsL s m (k + 1) = partsL s m k ++ [partS s (k : Int) (m : Int)] := by
  unfold partsL
  rw [List.range_succ, List.map_append]; rfl
theorem partsL_len (s : Sn) (m k : Nat) : (partsL s m k).length = k := by
  unfold partsL
  rw [List.length_map, List.length_range]
def rescE (l : List Sn) (m : Int) : Int := if wholeE l = 0 then (if 1 ≤ m ∧ m ≤ 3 then 0 else 2) else wholeE l
def rescV (l : List Sn) (m : Int) : List Sn := if rescE l m = 0 then partsL (wholeS l) m.toNat m.toNat else []
theorem whole_zero {l : List Sn} (h : wholeE l = 0) : (∀ s ∈ l, rightP s) ∧ partsP l ∧ namesB (txsW l) = true := by
  unfold wholeE at h
  split at h
  · rename_i h1
    split at h
    · rename_i h2
      split at h
      · rename_i h3
        exact ⟨h1, h2, h3⟩
      · exact absurd h (by decide)
    · exact absurd h (by decide)
  · exact absurd h (by decide)
theorem win_upto {L : List Sn} {op : Int} (hall : ∀ s ∈ L, rightP s) (hp : ∀ n s, L[n]? = some s → partP op L.length n s) : ∀ n, n ≤ L.length → ∃ r, WInv L op L.length n r
  | 0, _ => ⟨_, win_zero L op⟩
  | n + 1, hn => by
    obtain ⟨r, h⟩ := win_upto hall hp n (by omega)
    have hs := List.getElem?_eq_getElem (show n < L.length by omega)
    exact ⟨_, win_step (r' := fun g => r g + (L[n]).offs g) h hs (hall _ (List.getElem_mem _)) (hp n _ hs) (win_add h (hall _ (List.getElem_mem _)) (hp n _ hs) fun _ => rfl)⟩
theorem whole_win {L : List Sn} (h : wholeE L = 0) : ∃ s0, L[0]? = some s0 ∧ (1 ≤ L.length ∧ L.length ≤ 3) ∧ (wholeS L).op = s0.op ∧ (∀ n s, L[n]? = some s → partP s0.op L.length n s) ∧ WInv L s0.op L.length L.length (offW L) := by
  obtain ⟨hall, hps, hnm⟩ := whole_zero h
  cases hL : L with
  | nil => rw [hL] at hps; exact hps.elim
  | cons s0 l =>
    rw [← hL]
    have h0 : L[0]? = some s0 := by rw [hL]; rfl
    have hp : ∀ n s, L[n]? = some s → partP s0.op L.length n s := fun n s hs => parts_get h0 hs hps
    have hsh := (hall s0 (List.mem_of_getElem? h0)).2.1
    have hw := (hp 0 s0 h0).2.2
    unfold shareP at hsh
    have hl3 : 1 ≤ L.length ∧ L.length ≤ 3 := by omega
    obtain ⟨r, hr⟩ := win_upto hall hp L.length (Nat.le_refl _)
    have he := (win_end hr hl3 (fun s hs => by rw [h0] at hs; rw [← Option.some.inj hs])).2
    rw [he] at hr
    exact ⟨s0, h0, hl3, by unfold wholeS; rw [hL], hp, hr⟩
theorem take_all {α : Type} (l : List α) : l.take l.length = l := List.take_length
theorem whole_right {L : List Sn} (h : wholeE L = 0) : rightP (wholeS L) := by
  obtain ⟨hall, hps, hnm⟩ := whole_zero h
  obtain ⟨s0, h0, hl3, hop, hp, hw⟩ := whole_win h
  have hr0 := hall s0 (List.mem_of_getElem? h0)
  have hrows := hw.rows
  rw [take_all] at hrows
  refine ⟨by rw [hop]; exact hr0.1, by show shareP 0 1; unfold shareP; omega, rows_tbl hrows, hnm, fun x hx => ?_, fun g => ?_⟩
  · have := (hrows.1 x hx).1
    unfold recP at this
    show x.key % 8 * 1 / 8 = 0
    omega
  · have := win_bound hw hall g
    refine ⟨this.1, this.2, fun _ => ?_⟩
    show (g.val : Int) * 1 / 8 = 0
    omega
theorem whole_part {L : List Sn} (h : wholeE L = 0) {i m : Int} (hsh : shareP i m) : partE (wholeS L) i m = 0 := by
  unfold partE
  rw [if_pos (whole_right h), if_pos (show (wholeS L).wid = 1 from rfl), if_pos hsh]
attribute [local irreducible] ownW tblB namesB rightP wholeS wholeE partsL
set_option maxHeartbeats 4000000 in
theorem resc_any (k : Nat) (v : Value) (ls : List SnV) (m : Int) (w : World) (hk : k ≤ w.heap.size) (hr : SsOk (fun b => b < w.heap.size) w v ls) :
    Calls Try.prog 22 #[v, .int .i64 m] w (Sy.RetMem (fun (x : SlV) G w' => snsOf x.ls = rescV (snsOf ls) m ∧ SsOk (fun b => G b ∧ k ≤ b) w' x.v x.ls) (fun x => .tuple #[x.v, .int .i64 (rescE (snsOf ls) m)]) w) := by
  have hl := ok_len hr.1
  have hbad : ∀ e, rescE (snsOf ls) m = e → e ≠ 0 → rescV (snsOf ls) m = [] := fun e h1 h2 => if_neg (by rw [h1]; exact h2)
  refine Sy.calls_of Sy.lv22 Sy.tab_ok Try.func22 rfl _ Try.ntmps22 [⟨v, 14, ls.length, ls.map encS⟩] [.c (.row 0), .c (.v (.int .i64 m))] rfl rfl rfl ⟨hr.1, trivial⟩ ?_
  obtain ⟨V, hV⟩ : ∃ V, V = wholeV (snsOf ls) := ⟨_, rfl⟩
  obtain ⟨E, hE⟩ : ∃ E, E = wholeE (snsOf ls) := ⟨_, rfl⟩
  ((repeat' ((conv => whnf);(first|refine zA ?_|(refine zI ?_ ?_<;> intro hh<;> first|(exfalso;omega)|skip)|(refine zl ?_ ?_<;> intro hh)|refine zq ?_|refine zv ?_|refine zu ?_|exact Sy.fin_val fun e=>rfl)));(all_goals (try conv => whnf)))
  refine Sy.call_r2f (v := fun _ vs => retS V E vs) ⟨73, 4, V.rows.length, V.rows.map encK⟩ ⟨89, 3, V.txs.length, V.txs.map encT⟩ (fun k => .tup [.agg (cellS V (.row k) (.row (k + 1))), .c (.v (.int .i64 E))]) Try.call19 (fun e a w' h => by
    rw [hV, hE]
    exact whole_any _ ls w' ⟨Sy.row_reads h (.inr rfl), fun s hs => ⟨Sy.later_in h (hr.2 s hs).rows, Sy.later_in h (hr.2 s hs).txs⟩⟩) ?_
  by_cases hE0 : E = 0
  · have hz : wholeE (snsOf ls) = 0 := by rw [← hE]; exact hE0
    by_cases hm : 1 ≤ m ∧ m ≤ 3
    · have hrE : rescE (snsOf ls) m = 0 := by unfold rescE; rw [if_pos hz, if_pos hm]
      have hVS : V = wholeS (snsOf ls) := by rw [hV]; exact if_pos hz
      have hrV : rescV (snsOf ls) m = partsL V m.toNat m.toNat := by rw [hVS]; exact if_pos hrE
      have htb : tblB V.rows = true := by
        rw [hVS]
        have := whole_right hz
        unfold rightP at this
        exact this.2.2.1
      rw [hrE]
      ((repeat' ((conv => whnf);(first|refine zA ?_|(refine zI ?_ ?_<;> intro hh<;> first|(exfalso;omega)|skip)|(refine zl ?_ ?_<;> intro hh)|refine zq ?_|refine zv ?_|refine zu ?_|exact Sy.fin_val fun e=>rfl)));(all_goals (try conv => whnf)))
      refine Sy.sem_subF (Sy.sub_row 8 33 14 rfl) ?_
      conv => whnf
      refine Sy.loop_learn Sy.tab_ok (fun x : Nat × List SnV × (Nat → Prop) × (World → Prop) => [(25, .c (.v (.int .i64 x.1))), (8, .c (.row 4))]) (fun x => [(4, .row 33 14 x.2.1.length (.vs (x.2.1.map encS)))]) (fun x => x.2.2.1) (fun x => x.2.2.2)
        (fun x => (x.1 : Int) ≤ m ∧ snsOf x.2.1 = partsL V m.toNat x.1 ∧ (∀ b, b < w.heap.size → x.2.2.1 b) ∧ ∀ w', x.2.2.2 w' → ∀ s ∈ x.2.1, SOk (fun b => x.2.2.1 b ∧ w.heap.size ≤ b) w' s) (fun x => m.toNat - x.1) (0, [], fun b => b < w.heap.size ∧ ¬ (fun _ : Nat => False) b, fun _ => True)
        ⟨by dsimp only; omega, by unfold partsL; rfl, fun _ h => ⟨h, fun h => h⟩, fun _ _ s hs => by cases hs⟩ ?_ (fun x hx => ?_)
      · ((repeat' (first|((conv => whnf);done)|((try conv => whnf);first|exact trivial|(refine And.intro ?_ ?_)|rfl|exact fun _ _ _ h=>h|exact fun _ _ _ _=>trivial)));(all_goals (try conv => whnf)))
      · obtain ⟨n, os, F, E'⟩ := x
        obtain ⟨hn, hos, hF, hE'⟩ := hx
        dsimp only at hn hos hF hE' ⊢
        have hol : os.length = n := by
          have := congrArg List.length hos
          rw [sns_len, partsL_len] at this
          exact this
        by_cases hlt : (n : Int) < m
        · have hsh : shareP (n : Int) m := by unfold shareP; omega
          have hss := partsL_succ V m.toNat n
          rw [Int.toNat_of_nonneg (by omega)] at hss
          ((repeat' ((conv => whnf);(first|refine zA ?_|(refine zI ?_ ?_<;> intro hh<;> first|(exfalso;omega)|skip)|(refine zl ?_ ?_<;> intro hh)|refine zq ?_|refine zv ?_|refine zu ?_|exact Sy.fin_val fun e=>rfl)));(all_goals (try conv => whnf)))
          refine Sy.call_mem (fun (x : One) G w' => SOk (fun b => G b ∧ w.heap.size ≤ b) w' ⟨partS V n m, x.v, .slice none 0 0⟩) (fun x => .agg (cellS (partS V n m) (.v x.v) (.v (.slice none 0 0)))) Try.call44 (fun x => cellS_lt _ x.h rfl) (fun x G G' w1 w2 h hG hk => h.keep (fun b hb => ⟨hG b hb.1, hb.2⟩) fun b hb => hk b hb.1) (fun e a w' h => part_mem w.heap.size ⟨V, e.rv 1, e.rv 2⟩ n m w' h.bel.size ⟨Sy.row_reads h (.inl ⟨_, rfl⟩), Sy.row_reads h (.inl ⟨_, rfl⟩)⟩ htb hsh) (fun x G => ?_)
          ((repeat' ((conv => whnf);(first|refine zA ?_|(refine zI ?_ ?_<;> intro hh<;> first|(exfalso;omega)|skip)|(refine zl ?_ ?_<;> intro hh)|refine zq ?_|refine zv ?_|refine zu ?_|exact Sy.fin_val fun e=>rfl)));(all_goals (try conv => whnf)))
          refine Sy.need_app 144 rfl ⟨by omega, by omega⟩ ?_
          ((repeat' ((conv => whnf);(first|refine zA ?_|(refine zI ?_ ?_<;> intro hh<;> first|(exfalso;omega)|skip)|(refine zl ?_ ?_<;> intro hh)|refine zq ?_|refine zv ?_|refine zu ?_|exact Sy.fin_val fun e=>rfl)));(all_goals (try conv => whnf)))
          refine' ⟨(n + 1, os ++ [⟨partS V n m, x.v, .slice none 0 0⟩], _, _), ?c1, ?c2, ?c3⟩
          case c3 =>
            dsimp only
            ((repeat' (first|((conv => whnf);done)|((try conv => whnf);first|exact trivial|(refine And.intro ?_ ?_)|rfl|exact fun _ _ _ h=>h|exact fun _ _ _ _=>trivial)));(all_goals (try conv => whnf)))
            all_goals simp [encS]
          case c2 => dsimp only; omega
          case c1 =>
            refine ⟨by dsimp only; omega, ?_, fun b hb => .inl (hF b hb), fun w' hw p hp => ?_⟩
            · dsimp only
              rw [hss, ← hos]
              unfold snsOf
              rw [List.map_append]; rfl
            · rcases List.mem_append.1 hp with hp | hp
              · exact (hE' w' hw.1 p hp).mono fun b hb => ⟨.inl hb.1, hb.2⟩
              · rw [List.mem_singleton.1 hp]
                exact hw.2
        · have e : n = m.toNat := by omega
          rw [e, ← hrV] at hos
          ((repeat' ((conv => whnf);(first|refine zA ?_|(refine zI ?_ ?_<;> intro hh<;> first|(exfalso;omega)|skip)|(refine zl ?_ ?_<;> intro hh)|refine zq ?_|refine zv ?_|refine zu ?_|exact Sy.fin_val fun e=>rfl)));(all_goals (try conv => whnf)))
          refine fin_freezeg (fun u => .tup [.c (.v u), .c (.v (.int .i64 0))]) 4 33 14 os.length (os.map encS) rfl (fun e => rfl) (fun y G hG hy => ?_)
          refine fin_mem (⟨y, os, hy⟩ : SlV) (fun e => rfl) fun w' hs hw hlt => ⟨hos, XD.ok.mono hw.2.1 fun b hb => ?_, fun p hp => (hE' w' hw.1 p hp).mono fun b hb => ?_⟩
          · have h1 := Nat.le_of_not_lt fun hlt => hG b hb (hF b hlt)
            exact ⟨⟨h1, hlt b (.inr hb)⟩, Nat.le_trans hk h1⟩
          · exact ⟨⟨hb.2, hlt b (.inl hb.1)⟩, Nat.le_trans hk hb.2⟩
    · have hrE : rescE (snsOf ls) m = 2 := by unfold rescE; rw [if_pos hz, if_neg hm]
      rw [hrE]
      ((repeat' ((conv => whnf);(first|refine zA ?_|(refine zI ?_ ?_<;> intro hh<;> first|(exfalso;omega)|skip)|(refine zl ?_ ?_<;> intro hh)|refine zq ?_|refine zv ?_|refine zu ?_|exact Sy.fin_val fun e=>rfl)));(all_goals (try conv => whnf)))
      all_goals first | (exfalso; omega) | skip
      all_goals exact fin_mem (⟨.slice none 0 0, [], rfl⟩ : SlV) (fun e => rfl) fun w' hs hw hlt => ⟨by rw [hbad 2 hrE (by decide)]; rfl, nil_ok, fun p hp => by cases hp⟩
  · have hrE : rescE (snsOf ls) m = E := by unfold rescE; rw [← hE, if_neg hE0]
    rw [hrE]
    ((repeat' ((conv => whnf);(first|refine zA ?_|(refine zI ?_ ?_<;> intro hh<;> first|(exfalso;omega)|skip)|(refine zl ?_ ?_<;> intro hh)|refine zq ?_|refine zv ?_|refine zu ?_|exact Sy.fin_val fun e=>rfl)));(all_goals (try conv => whnf)))
    exact fin_mem (⟨.slice none 0 0, [], rfl⟩ : SlV) (fun e => rfl) fun w' hs hw hlt => ⟨by rw [hbad E hrE hE0]; rfl, nil_ok, fun p hp => by cases hp⟩
theorem tupS_lt {n : Nat} (s : Sn) {u t : Value} (hu : u.oneCell' = true) (ht : t.oneCell' = true) : SV.lt n (.tup [.agg (cellS s (.v u) (.v t)), .c (.v (.int .i64 0))]) = true := by
  have h : V1.lt n (.agg (cellS s (.v u) (.v t))) = true := cellS_lt (n := n) s hu ht
  simp only [SV.lt, Sy.ltAll1, h]
  rfl
set_option maxHeartbeats 4000000 in
theorem rresc_any (k : Nat) (v : Value) (ls : List SnV) (m : Int) (w : World) (hk : k ≤ w.heap.size) (hr : SsOk (fun b => b < w.heap.size) w v ls) :
    Calls Try.prog 23 #[v, .int .i64 m] w (Sy.RetMem (fun (x : SlV) G w' => snsOf x.ls = rescV (snsOf ls) m ∧ SsOk (fun b => G b ∧ k ≤ b) w' x.v x.ls) (fun x => .tuple #[x.v, .int .i64 (rescE (snsOf ls) m)]) w) := by
  have hl := ok_len hr.1
  have hbad : ∀ e, rescE (snsOf ls) m = e → e ≠ 0 → rescV (snsOf ls) m = [] := fun e h1 h2 => if_neg (by rw [h1]; exact h2)
  refine Sy.calls_of Sy.lv23 Sy.tab_ok Try.func23 rfl _ Try.ntmps23 [⟨v, 14, ls.length, ls.map encS⟩] [.c (.row 0), .c (.v (.int .i64 m))] rfl rfl rfl ⟨hr.1, trivial⟩ ?_
  obtain ⟨V, hV⟩ : ∃ V, V = wholeV (snsOf ls) := ⟨_, rfl⟩
  obtain ⟨E, hE⟩ : ∃ E, E = wholeE (snsOf ls) := ⟨_, rfl⟩
  ((repeat' ((conv => whnf);(first|refine zA ?_|(refine zI ?_ ?_<;> intro hh<;> first|(exfalso;omega)|skip)|(refine zl ?_ ?_<;> intro hh)|refine zq ?_|refine zv ?_|refine zu ?_|exact Sy.fin_val fun e=>rfl)));(all_goals (try conv => whnf)))
  refine Sy.call_r2f (v := fun _ vs => retS V E vs) ⟨73, 4, V.rows.length, V.rows.map encK⟩ ⟨89, 3, V.txs.length, V.txs.map encT⟩ (fun k => .tup [.agg (cellS V (.row k) (.row (k + 1))), .c (.v (.int .i64 E))]) Try.call20 (fun e a w' h => by
    rw [hV, hE]
    exact rwhole_any _ ls w' ⟨Sy.row_reads h (.inr rfl), fun s hs => ⟨Sy.later_in h (hr.2 s hs).rows, Sy.later_in h (hr.2 s hs).txs⟩⟩) ?_
  by_cases hE0 : E = 0
  · have hz : wholeE (snsOf ls) = 0 := by rw [← hE]; exact hE0
    by_cases hm : 1 ≤ m ∧ m ≤ 3
    · have hrE : rescE (snsOf ls) m = 0 := by unfold rescE; rw [if_pos hz, if_pos hm]
      have hVS : V = wholeS (snsOf ls) := by rw [hV]; exact if_pos hz
      have hrV : rescV (snsOf ls) m = partsL V m.toNat m.toNat := by rw [hVS]; exact if_pos hrE
      rw [hrE]
      ((repeat' ((conv => whnf);(first|refine zA ?_|(refine zI ?_ ?_<;> intro hh<;> first|(exfalso;omega)|skip)|(refine zl ?_ ?_<;> intro hh)|refine zq ?_|refine zv ?_|refine zu ?_|exact Sy.fin_val fun e=>rfl)));(all_goals (try conv => whnf)))
      refine Sy.sem_subF (Sy.sub_row 8 33 14 rfl) ?_
      conv => whnf
      refine Sy.loop_learn Sy.tab_ok (fun x : Nat × List SnV × (Nat → Prop) × (World → Prop) => [(27, .c (.v (.int .i64 x.1))), (8, .c (.row 4))]) (fun x => [(4, .row 33 14 x.2.1.length (.vs (x.2.1.map encS)))]) (fun x => x.2.2.1) (fun x => x.2.2.2)
        (fun x => (x.1 : Int) ≤ m ∧ snsOf x.2.1 = partsL V m.toNat x.1 ∧ (∀ b, b < w.heap.size → x.2.2.1 b) ∧ ∀ w', x.2.2.2 w' → ∀ s ∈ x.2.1, SOk (fun b => x.2.2.1 b ∧ w.heap.size ≤ b) w' s) (fun x => m.toNat - x.1) (0, [], fun b => b < w.heap.size ∧ ¬ (fun _ : Nat => False) b, fun _ => True)
        ⟨by dsimp only; omega, by unfold partsL; rfl, fun _ h => ⟨h, fun h => h⟩, fun _ _ s hs => by cases hs⟩ ?_ (fun x hx => ?_)
      · ((repeat' (first|((conv => whnf);done)|((try conv => whnf);first|exact trivial|(refine And.intro ?_ ?_)|rfl|exact fun _ _ _ h=>h|exact fun _ _ _ _=>trivial)));(all_goals (try conv => whnf)))
      · obtain ⟨n, os, F, E'⟩ := x
        obtain ⟨hn, hos, hF, hE'⟩ := hx
        dsimp only at hn hos hF hE' ⊢
        have hol : os.length = n := by
          have := congrArg List.length hos
          rw [sns_len, partsL_len] at this
          exact this
        by_cases hlt : (n : Int) < m
        · have hsh : shareP (n : Int) m := by unfold shareP; omega
          have hss := partsL_succ V m.toNat n
          rw [Int.toNat_of_nonneg (by omega)] at hss
          ((repeat' ((conv => whnf);(first|refine zA ?_|(refine zI ?_ ?_<;> intro hh<;> first|(exfalso;omega)|skip)|(refine zl ?_ ?_<;> intro hh)|refine zq ?_|refine zv ?_|refine zu ?_|exact Sy.fin_val fun e=>rfl)));(all_goals (try conv => whnf)))
          refine Sy.call_mem (fun (x : One) G w' => SOk (fun b => G b ∧ w.heap.size ≤ b) w' ⟨partS V n m, x.v, .slice none 0 0⟩) (fun x => .tup [.agg (cellS (partS V n m) (.v x.v) (.v (.slice none 0 0))), .c (.v (.int .i64 0))]) Try.call16 (fun x => tupS_lt _ x.h rfl) (fun x G G' w1 w2 h hG hk => h.keep (fun b hb => ⟨hG b hb.1, hb.2⟩) fun b hb => hk b hb.1) (fun e a w' h => rpart_mem w.heap.size ⟨V, e.rv 1, e.rv 2⟩ n m w' h.bel.size ⟨Sy.row_reads h (.inl ⟨_, rfl⟩), Sy.row_reads h (.inl ⟨_, rfl⟩)⟩ (by rw [hVS]; exact whole_part hz hsh)) (fun x G => ?_)
          ((repeat' ((conv => whnf);(first|refine zA ?_|(refine zI ?_ ?_<;> intro hh<;> first|(exfalso;omega)|skip)|(refine zl ?_ ?_<;> intro hh)|refine zq ?_|refine zv ?_|refine zu ?_|exact Sy.fin_val fun e=>rfl)));(all_goals (try conv => whnf)))
          refine Sy.need_app 144 rfl ⟨by omega, by omega⟩ ?_
          ((repeat' ((conv => whnf);(first|refine zA ?_|(refine zI ?_ ?_<;> intro hh<;> first|(exfalso;omega)|skip)|(refine zl ?_ ?_<;> intro hh)|refine zq ?_|refine zv ?_|refine zu ?_|exact Sy.fin_val fun e=>rfl)));(all_goals (try conv => whnf)))
          refine' ⟨(n + 1, os ++ [⟨partS V n m, x.v, .slice none 0 0⟩], _, _), ?c1, ?c2, ?c3⟩
          case c3 =>
            dsimp only
            ((repeat' (first|((conv => whnf);done)|((try conv => whnf);first|exact trivial|(refine And.intro ?_ ?_)|rfl|exact fun _ _ _ h=>h|exact fun _ _ _ _=>trivial)));(all_goals (try conv => whnf)))
            all_goals simp [encS]
          case c2 => dsimp only; omega
          case c1 =>
            refine ⟨by dsimp only; omega, ?_, fun b hb => .inl (hF b hb), fun w' hw p hp => ?_⟩
            · dsimp only
              rw [hss, ← hos]
              unfold snsOf
              rw [List.map_append]; rfl
            · rcases List.mem_append.1 hp with hp | hp
              · exact (hE' w' hw.1 p hp).mono fun b hb => ⟨.inl hb.1, hb.2⟩
              · rw [List.mem_singleton.1 hp]
                exact hw.2
        · have e : n = m.toNat := by omega
          rw [e, ← hrV] at hos
          ((repeat' ((conv => whnf);(first|refine zA ?_|(refine zI ?_ ?_<;> intro hh<;> first|(exfalso;omega)|skip)|(refine zl ?_ ?_<;> intro hh)|refine zq ?_|refine zv ?_|refine zu ?_|exact Sy.fin_val fun e=>rfl)));(all_goals (try conv => whnf)))
          refine fin_freezeg (fun u => .tup [.c (.v u), .c (.v (.int .i64 0))]) 4 33 14 os.length (os.map encS) rfl (fun e => rfl) (fun y G hG hy => ?_)
          refine fin_mem (⟨y, os, hy⟩ : SlV) (fun e => rfl) fun w' hs hw hlt => ⟨hos, XD.ok.mono hw.2.1 fun b hb => ?_, fun p hp => (hE' w' hw.1 p hp).mono fun b hb => ?_⟩
          · have h1 := Nat.le_of_not_lt fun hlt => hG b hb (hF b hlt)
            exact ⟨⟨h1, hlt b (.inr hb)⟩, Nat.le_trans hk h1⟩
          · exact ⟨⟨hb.2, hlt b (.inl hb.1)⟩, Nat.le_trans hk hb.2⟩
    · have hrE : rescE (snsOf ls) m = 2 := by unfold rescE; rw [if_pos hz, if_neg hm]
      rw [hrE]
      ((repeat' ((conv => whnf);(first|refine zA ?_|(refine zI ?_ ?_<;> intro hh<;> first|(exfalso;omega)|skip)|(refine zl ?_ ?_<;> intro hh)|refine zq ?_|refine zv ?_|refine zu ?_|exact Sy.fin_val fun e=>rfl)));(all_goals (try conv => whnf)))
      all_goals first | (exfalso; omega) | skip
      all_goals exact fin_mem (⟨.slice none 0 0, [], rfl⟩ : SlV) (fun e => rfl) fun w' hs hw hlt => ⟨by rw [hbad 2 hrE (by decide)]; rfl, nil_ok, fun p hp => by cases hp⟩
  · have hrE : rescE (snsOf ls) m = E := by unfold rescE; rw [← hE, if_neg hE0]
    rw [hrE]
    ((repeat' ((conv => whnf);(first|refine zA ?_|(refine zI ?_ ?_<;> intro hh<;> first|(exfalso;omega)|skip)|(refine zl ?_ ?_<;> intro hh)|refine zq ?_|refine zv ?_|refine zu ?_|exact Sy.fin_val fun e=>rfl)));(all_goals (try conv => whnf)))
    exact fin_mem (⟨.slice none 0 0, [], rfl⟩ : SlV) (fun e => rfl) fun w' hs hw hlt => ⟨by rw [hbad E hrE hE0]; rfl, nil_ok, fun p hp => by cases hp⟩
end Go.Proofs.Ytmahldelmbhjfaa
