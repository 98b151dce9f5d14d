/- Snap: the law Bytes. -/
import Derived.Test.YtmahldelmbhjfaaSdI
import Derived.Test.YtmahldelmbhjfaaSdH
import Derived.Test.YtmahldelmbhjfaaSwA
import Derived.Test.YtmahldelmbhjfaaSnF
import Derived.Test.YtmahldelmbhjfaaSnP
namespace Go.Proofs.Ytmahldelmbhjfaa
open Go Go.RowKit
open Sy (C SV V1 Blk St XD Els)
set_option maxRecDepth 10000

theorem bytesOk.app {a b : List Int} (ha : bytesOk a) (hb : bytesOk b) : bytesOk (a ++ b) := fun x hx => (List.mem_append.1 hx).elim (ha x) (hb x)
theorem b8_ok (x : Int) : 0 ≤ b8 x ∧ b8 x < 256 := by rw [b8_eq]; omega
theorem beN_ok (x : Int) : ∀ n, bytesOk (beN x n)
  | 0 => fun _ h => by cases h
  | n + 1 => fun y hy => by
    rw [beN] at hy
    rcases List.mem_cons.1 hy with rfl | hy
    · exact b8_ok _
    · exact beN_ok x n y hy
theorem flat_ok {α : Type} {f : α → List Int} (h : ∀ x, bytesOk (f x)) (l : List α) : bytesOk (l.map f).flatten := fun y hy => by
  obtain ⟨c, hc, hyc⟩ := List.mem_flatten.1 hy
  obtain ⟨x, _, rfl⟩ := List.mem_map.1 hc
  exact h x y hyc
theorem two_ok (x y : Int) : bytesOk [b8 x, b8 y] := fun z hz => by
  simp only [List.mem_cons, List.not_mem_nil, or_false] at hz
  rcases hz with rfl | rfl <;> exact b8_ok _
theorem kBs_ok (x : Kc) : bytesOk (kBs x) := ((two_ok _ _).app (beN_ok _ _)).app (beN_ok _ _)
theorem one_ok (x : Int) : bytesOk [b8 x] := fun z hz => by rw [List.mem_singleton.1 hz]; exact b8_ok _
theorem nBs_ok (x : Tx) : bytesOk (nBs x) := ((one_ok _).app (beN_ok _ _)).app (beN_ok _ _)
theorem oN_ok (o : Fin 8 → Int) (n : Nat) : bytesOk (oN o n) := fun y hy => by
  obtain ⟨k, _, rfl⟩ := List.mem_map.1 hy
  exact b8_ok _
theorem sBs_ok (s : Sn) : bytesOk (sBs s) := by
  unfold sBs sN hBs tBs tN
  refine ((bytesOk.app (bytesOk.app ?_ ?_) (oN_ok _ _)).app (one_ok _)).app (flat_ok nBs_ok _)
  · intro z hz
    simp only [List.mem_cons, List.not_mem_nil, or_false] at hz
    rcases hz with rfl | rfl | rfl | rfl
    · exact b8_ok _
    · exact b8_ok _
    · exact b8_ok _
    · split <;> decide
  · exact (beN_ok _ _).app (flat_ok kBs_ok _)
/-- Rows of bytes. -/
def encR (p : Value × List Int) : List Value := [p.1]
def RsOk (w : World) (v : Value) (rs : List (Value × List Int)) : Prop := XD.ok (fun b => b < w.heap.size) w ⟨v, 1, rs.length, rs.map encR⟩ ∧ ∀ p ∈ rs, XD.ok (fun b => b < w.heap.size) w ⟨p.1, 1, p.2.length, p.2.map encB⟩ ∧ bytesOk p.2
theorem short_ok (s : Sn) : (shortS s).rows.length ≤ 257 ∧ (shortS s).txs.length ≤ 25 := by
  show (s.rows.take 257).length ≤ 257 ∧ (s.txs.take 25).length ≤ 25
  rw [List.length_take, List.length_take]; omega
theorem open_in0 {X : Sy.Cx} {S : St} {v : Value} {K : St → SV → Prop} (esz n : Nat) (xs : List (List Value)) (h : XD.ok (fun b => b < X.w0.heap.size) X.w0 ⟨v, esz, n, xs⟩) (ho : ∀ b, ¬ X.own b) (hk : K (S.new (.ext esz n (.vs xs))) (.c (.row S.nx))) : Sy.openP X S v K :=
  Sy.open_in esz n xs (h.1.keep (fun b hb => ⟨hb, ho b⟩) (fun _ _ => rfl)) h.2 hk
theorem encV_neg {s : Sn} (h : ¬ rightP s) : encV s = [] := if_neg h
attribute [local irreducible] ownW tblB namesB rightP sBs encV chkE sdE sdV shortS
set_option maxHeartbeats 8000000 in
theorem lbytes_any (v u : Value) (ls : List SnV) (rs : List (Value × List Int)) (w : World) (hr : SsOk (fun b => b < w.heap.size) w v ls) (hv : RsOk w u rs) :
    Calls Try.prog 8 #[v, u] w (Sy.Ret (.bool true) w) := by
  have hl := ok_len hr.1
  have hnl := ok_len hv.1
  refine Sy.calls_of Sy.lv8 Sy.tab_ok Try.func8 rfl _ Try.ntmps8 [⟨v, 14, ls.length, ls.map encS⟩, ⟨u, 1, rs.length, rs.map encR⟩] [.c (.row 0), .c (.row 1)] rfl rfl rfl ⟨hr.1, hv.1, trivial⟩ ?_
  ((repeat' ((conv => whnf);(first|refine zA ?_|(refine zI ?_ ?_<;> intro hh<;> first|(exfalso;omega)|skip)|(refine zl ?_ ?_<;> intro hh)|refine zq ?_|refine zv ?_|exact Sy.fin_val fun e=>rfl)));(all_goals (try conv => whnf)))
  refine Sy.call_val (.c (.v (.bool true))) Try.call10 rfl (fun e a w' h => wakes_any w') ?_
  ((repeat' ((conv => whnf);(first|refine zA ?_|(refine zI ?_ ?_<;> intro hh<;> first|(exfalso;omega)|skip)|(refine zl ?_ ?_<;> intro hh)|refine zq ?_|refine zv ?_|exact Sy.fin_val fun e=>rfl)));(all_goals (try conv => whnf)))
  refine Sy.loop_inv Sy.tab_ok (fun n : Nat => [(22, .c (.v (.int .i64 n)))]) (fun _ => []) (fun n => n ≤ ls.length) (fun n => ls.length - n) 0 (Nat.zero_le _) ?_ (fun n hn => ?_)
  · ((repeat' (first|((conv => whnf);done)|((try conv => whnf);first|exact trivial|(refine And.intro ?_ ?_)|rfl|exact fun _ _ _ h=>h|exact fun _ _ _ _=>trivial)));(all_goals (try conv => whnf)))
  · have second : True := trivial
    by_cases hlt : n < ls.length
    · have hg := List.getElem?_eq_getElem hlt
      have hxm := List.getElem_mem hlt
      generalize ls[n] = s at *
      have hsr := hr.2 s hxm
      obtain ⟨sn, a, t⟩ := s
      by_cases h6 : n = 6
      · ((repeat' ((conv => whnf);(first|refine zA ?_|(refine zI ?_ ?_<;> intro hh<;> first|(exfalso;omega)|skip)|(refine zl ?_ ?_<;> intro hh)|refine zq ?_|refine zv ?_|exact Sy.fin_val fun e=>rfl)));(all_goals (try conv => whnf)))
        refine Sy.el_map _ hg ?_
        ((repeat' ((conv => whnf);(first|refine zA ?_|(refine zI ?_ ?_<;> intro hh<;> first|(exfalso;omega)|skip)|(refine zl ?_ ?_<;> intro hh)|refine zq ?_|refine zv ?_|exact Sy.fin_val fun e=>rfl)));(all_goals (try conv => whnf)))
        refine Sy.loop_inv Sy.tab_ok (fun n : Nat => [(66, .c (.v (.int .i64 n)))]) (fun _ => []) (fun n => n ≤ rs.length) (fun n => rs.length - n) 0 (Nat.zero_le _) ?_ (fun n hn => ?_)
        · ((repeat' (first|((conv => whnf);done)|((try conv => whnf);first|exact trivial|(refine And.intro ?_ ?_)|rfl|exact fun _ _ _ h=>h|exact fun _ _ _ _=>trivial)));(all_goals (try conv => whnf)))
        · by_cases hlt : n < rs.length
          · have hg := List.getElem?_eq_getElem hlt
            have hxm := List.getElem_mem hlt
            generalize rs[n] = p at *
            obtain ⟨hp, hp8⟩ := hv.2 p hxm
            have hpl := ok_len hp
            by_cases h8 : n = 8
            · ((repeat' ((conv => whnf);(first|refine zA ?_|(refine zI ?_ ?_<;> intro hh<;> first|(exfalso;omega)|skip)|(refine zl ?_ ?_<;> intro hh)|refine zq ?_|refine zv ?_|refine zu ?_|exact Sy.fin_val fun e=>rfl)));(all_goals (try conv => whnf)))
              refine Sy.el_map p hg ?_
              ((repeat' ((conv => whnf);(first|refine zA ?_|(refine zI ?_ ?_<;> intro hh<;> first|(exfalso;omega)|skip)|(refine zl ?_ ?_<;> intro hh)|refine zq ?_|refine zv ?_|refine zu ?_|exact Sy.fin_val fun e=>rfl)));(all_goals (try conv => whnf)))
              done
            · obtain ⟨m, hm⟩ : ∃ m, m = min p.2.length 6000 := ⟨_, rfl⟩
              have hmin : Sy.minI (p.2.length : Int) 6000 = (m : Int) := by unfold Sy.minI; split <;> omega
              obtain ⟨b, hb⟩ : ∃ b, b = p.2.take 6000 := ⟨_, rfl⟩
              have hbl : b.length = m := by rw [hb, List.length_take]; omega
              have b8 : bytesOk b := by rw [hb]; exact hp8.take _
              obtain ⟨V, hV⟩ : ∃ V, V = sdV b := ⟨_, rfl⟩
              obtain ⟨E, hE⟩ : ∃ E, E = sdE b := ⟨_, rfl⟩
              have hsl : List.take (m - 0) (List.drop 0 (p.2.map encB)) = b.map encB ∧ m - 0 = b.length := by
                rw [hbl, Nat.sub_zero, List.drop_zero, ← List.map_take, hb]
                refine ⟨?_, rfl⟩
                congr 1
                rcases Nat.le_total p.2.length 6000 with h | h
                · rw [hm, Nat.min_eq_left h, List.take_length, List.take_of_length_le h]
                · rw [hm, Nat.min_eq_right h]
              ((repeat' ((conv => whnf);(first|refine zA ?_|(refine zI ?_ ?_<;> intro hh<;> first|(exfalso;omega)|skip)|(refine zl ?_ ?_<;> intro hh)|refine zq ?_|refine zv ?_|exact Sy.fin_val fun e=>rfl)));(all_goals (try conv => whnf)))
              refine Sy.el_map p hg ?_
              ((repeat' ((conv => whnf);(first|refine zA ?_|(refine zI ?_ ?_<;> intro hh<;> first|(exfalso;omega)|skip)|(refine zl ?_ ?_<;> intro hh)|refine zq ?_|refine zv ?_|exact Sy.fin_val fun e=>rfl)));(all_goals (try conv => whnf)))
              refine open_in0 1 p.2.length (p.2.map encB) hp (fun _ h => h) ?_
              ((repeat' ((conv => whnf);(first|refine zA ?_|(refine zI ?_ ?_<;> intro hh<;> first|(exfalso;omega)|skip)|(refine zl ?_ ?_<;> intro hh)|refine zq ?_|refine zv ?_|exact Sy.fin_val fun e=>rfl)));(all_goals (try conv => whnf)))
              refine Sy.sli_eq 0 m rfl hmin ⟨by omega, by omega⟩ ?_
              conv => whnf
              rw [hsl.1, hsl.2]
              ((repeat' ((conv => whnf);(first|refine zA ?_|(refine zI ?_ ?_<;> intro hh<;> first|(exfalso;omega)|skip)|(refine zl ?_ ?_<;> intro hh)|refine zq ?_|refine zv ?_|exact Sy.fin_val fun e=>rfl)));(all_goals (try conv => whnf)))
              refine Sy.need_of (by show (0 + b.length) * 1 ≤ _ ∧ _; omega) ?_
              ((repeat' ((conv => whnf);(first|refine zA ?_|(refine zI ?_ ?_<;> intro hh<;> first|(exfalso;omega)|skip)|(refine zl ?_ ?_<;> intro hh)|refine zq ?_|refine zv ?_|exact Sy.fin_val fun e=>rfl)));(all_goals (try conv => whnf)))
              rw [Nat.zero_add b.length]
              refine Sy.call_r2f (v := fun _ vs => retS V E vs) ⟨73, 4, V.rows.length, V.rows.map encK⟩ ⟨89, 3, V.txs.length, V.txs.map encT⟩ (fun k => .tup [.agg (cellS V (.row k) (.row (k + 1))), .c (.v (.int .i64 E))]) Try.call31 (fun e a w' h => by
                rw [hV, hE]
                exact sdec_any _ b w' (Sy.row_reads h (.inl ⟨_, rfl⟩)) b8 (by omega)) ?_
              ((repeat' ((conv => whnf);(first|refine zA ?_|(refine zI ?_ ?_<;> intro hh<;> first|(exfalso;omega)|skip)|(refine zl ?_ ?_<;> intro hh)|refine zq ?_|refine zv ?_|exact Sy.fin_val fun e=>rfl)));(all_goals (try conv => whnf)))
              refine Sy.need_of (by show (0 + b.length) * 1 ≤ _ ∧ _; omega) ?_
              ((repeat' ((conv => whnf);(first|refine zA ?_|(refine zI ?_ ?_<;> intro hh<;> first|(exfalso;omega)|skip)|(refine zl ?_ ?_<;> intro hh)|refine zq ?_|refine zv ?_|exact Sy.fin_val fun e=>rfl)));(all_goals (try conv => whnf)))
              rw [Nat.zero_add b.length]
              refine Sy.call_r2f (v := fun _ vs => retS V E vs) ⟨73, 4, V.rows.length, V.rows.map encK⟩ ⟨89, 3, V.txs.length, V.txs.map encT⟩ (fun k => .tup [.agg (cellS V (.row k) (.row (k + 1))), .c (.v (.int .i64 E))]) Try.call32 (fun e a w' h => by
                rw [hV, hE]
                exact rsdec_any _ b w' (Sy.row_reads h (.inl ⟨_, rfl⟩)) b8 (by omega)) ?_
              ((repeat' ((conv => whnf);(first|refine zA ?_|(refine zI ?_ ?_<;> intro hh<;> first|(exfalso;omega)|skip)|(refine zl ?_ ?_<;> intro hh)|refine zq ?_|refine zv ?_|exact Sy.fin_val fun e=>rfl)));(all_goals (try conv => whnf)))
              refine Sy.call_val (.c (.v (.bool true))) Try.call13 rfl (fun e a w' h => by
                have := rsame_any ⟨V, e.rv 7, e.rv 8⟩ ⟨V, e.rv 12, e.rv 13⟩ w' ⟨Sy.row_reads h (.inl ⟨_, rfl⟩), Sy.row_reads h (.inl ⟨_, rfl⟩)⟩ ⟨Sy.row_reads h (.inl ⟨_, rfl⟩), Sy.row_reads h (.inl ⟨_, rfl⟩)⟩
                rw [decide_eq_true rfl] at this; exact this) ?_
              ((repeat' ((conv => whnf);(first|refine zA ?_|(refine zI ?_ ?_<;> intro hh<;> first|(exfalso;omega)|skip)|(refine zl ?_ ?_<;> intro hh)|refine zq ?_|refine zv ?_|exact Sy.fin_val fun e=>rfl)));(all_goals (try conv => whnf)))
              refine ⟨n + 1, by omega, by omega, ?_⟩
              ((repeat' (first|((conv => whnf);done)|((try conv => whnf);first|exact trivial|(refine And.intro ?_ ?_)|rfl|exact fun _ _ _ h=>h|exact fun _ _ _ _=>trivial)));(all_goals (try conv => whnf)))
          · ((repeat' ((conv => whnf);(first|refine zA ?_|(refine zI ?_ ?_<;> intro hh<;> first|(exfalso;omega)|skip)|(refine zl ?_ ?_<;> intro hh)|refine zq ?_|refine zv ?_|refine zu ?_|exact Sy.fin_val fun e=>rfl)));(all_goals (try conv => whnf)))
            done
      · have hso := short_ok sn
        have hsh := fun w' h => short_any ⟨sn, a, t⟩ w' h
        dsimp only at hsh
        generalize shortS sn = S at *
        ((repeat' ((conv => whnf);(first|refine zA ?_|(refine zI ?_ ?_<;> intro hh<;> first|(exfalso;omega)|skip)|(refine zl ?_ ?_<;> intro hh)|refine zq ?_|refine zv ?_|exact Sy.fin_val fun e=>rfl)));(all_goals (try conv => whnf)))
        refine Sy.el_map _ hg ?_
        ((repeat' ((conv => whnf);(first|refine zA ?_|(refine zI ?_ ?_<;> intro hh<;> first|(exfalso;omega)|skip)|(refine zl ?_ ?_<;> intro hh)|refine zq ?_|refine zv ?_|exact Sy.fin_val fun e=>rfl)));(all_goals (try conv => whnf)))
        refine Sy.call_r2f (v := fun _ vs => retA S vs) ⟨73, 4, S.rows.length, S.rows.map encK⟩ ⟨89, 3, S.txs.length, S.txs.map encT⟩ (fun k => .agg (cellS S (.row k) (.row (k + 1)))) Try.call14 (fun e a' w' h => hsh w' ⟨Sy.later_in h hsr.rows, Sy.later_in h hsr.txs⟩) ?_
        ((repeat' ((conv => whnf);(first|refine zA ?_|(refine zI ?_ ?_<;> intro hh<;> first|(exfalso;omega)|skip)|(refine zl ?_ ?_<;> intro hh)|refine zq ?_|refine zv ?_|exact Sy.fin_val fun e=>rfl)));(all_goals (try conv => whnf)))
        refine Sy.call_r1 (v := fun _ vs => .tuple #[vs.headD undef, .int .i64 (chkE S)]) ⟨5, 1, (encV S).length, (encV S).map encB⟩ (fun j => .tup [.c (.row j), .c (.v (.int .i64 (chkE S)))]) Try.call28 (fun e a' w' h => enc_any ⟨S, e.rv 3, e.rv 4⟩ w' ⟨Sy.row_reads h (.inl ⟨_, rfl⟩), Sy.row_reads h (.inl ⟨_, rfl⟩)⟩) ?_
        ((repeat' ((conv => whnf);(first|refine zA ?_|(refine zI ?_ ?_<;> intro hh<;> first|(exfalso;omega)|skip)|(refine zl ?_ ?_<;> intro hh)|refine zq ?_|refine zv ?_|exact Sy.fin_val fun e=>rfl)));(all_goals (try conv => whnf)))
        refine Sy.call_val (.c (.v (.bool (decide (rightP S))))) Try.call12 rfl (fun e a' w' h => right_any ⟨S, e.rv 3, e.rv 4⟩ w' ⟨Sy.row_reads h (.inl ⟨_, rfl⟩), Sy.row_reads h (.inl ⟨_, rfl⟩)⟩) ?_
        by_cases hrt : rightP S
        · rw [chkE_pos hrt, encV_pos hrt, decide_eq_true hrt]
          ((repeat' ((conv => whnf);(first|refine zA ?_|(refine zI ?_ ?_<;> intro hh<;> first|(exfalso;omega)|skip)|(refine zl ?_ ?_<;> intro hh)|refine zq ?_|refine zv ?_|exact Sy.fin_val fun e=>rfl)));(all_goals (try conv => whnf)))
          refine Sy.call_r1 (v := fun _ vs => vs.headD undef) ⟨5, 1, (sBs S).length, (sBs S).map encB⟩ (fun j => .c (.row j)) Try.call30 (fun e a' w' h => rsbytes_any ⟨S, e.rv 3, e.rv 4⟩ w' ⟨Sy.row_reads h (.inl ⟨_, rfl⟩), Sy.row_reads h (.inl ⟨_, rfl⟩)⟩ hrt) ?_
          ((repeat' ((conv => whnf);(first|refine zA ?_|(refine zI ?_ ?_<;> intro hh<;> first|(exfalso;omega)|skip)|(refine zl ?_ ?_<;> intro hh)|refine zq ?_|refine zv ?_|exact Sy.fin_val fun e=>rfl)));(all_goals (try conv => whnf)))
          refine Sy.call_val (.c (.v (.bool true))) Try.call29 rfl (fun e a' w' h => by
            have := bytesEq_any (e.rv 6) (e.rv 7) (sBs S) (sBs S) w' (Sy.row_reads h (.inl ⟨_, rfl⟩)) (Sy.row_reads h (.inl ⟨_, rfl⟩)) (sBs_ok S) (sBs_ok S)
            rw [decide_eq_true rfl] at this; exact this) ?_
          ((repeat' ((conv => whnf);(first|refine zA ?_|(refine zI ?_ ?_<;> intro hh<;> first|(exfalso;omega)|skip)|(refine zl ?_ ?_<;> intro hh)|refine zq ?_|refine zv ?_|exact Sy.fin_val fun e=>rfl)));(all_goals (try conv => whnf)))
          refine ⟨n + 1, by omega, by omega, ?_⟩
          ((repeat' (first|((conv => whnf);done)|((try conv => whnf);first|exact trivial|(refine And.intro ?_ ?_)|rfl|exact fun _ _ _ h=>h|exact fun _ _ _ _=>trivial)));(all_goals (try conv => whnf)))
        · rw [chkE_neg hrt, encV_neg hrt, decide_eq_false hrt]
          ((repeat' ((conv => whnf);(first|refine zA ?_|(refine zI ?_ ?_<;> intro hh<;> first|(exfalso;omega)|skip)|(refine zl ?_ ?_<;> intro hh)|refine zq ?_|refine zv ?_|exact Sy.fin_val fun e=>rfl)));(all_goals (try conv => whnf)))
          refine ⟨n + 1, by omega, by omega, ?_⟩
          ((repeat' (first|((conv => whnf);done)|((try conv => whnf);first|exact trivial|(refine And.intro ?_ ?_)|rfl|exact fun _ _ _ h=>h|exact fun _ _ _ _=>trivial)));(all_goals (try conv => whnf)))
    · ((repeat' ((conv => whnf);(first|refine zA ?_|(refine zI ?_ ?_<;> intro hh<;> first|(exfalso;omega)|skip)|(refine zl ?_ ?_<;> intro hh)|refine zq ?_|refine zv ?_|exact Sy.fin_val fun e=>rfl)));(all_goals (try conv => whnf)))
      refine Sy.loop_inv Sy.tab_ok (fun n : Nat => [(66, .c (.v (.int .i64 n)))]) (fun _ => []) (fun n => n ≤ rs.length) (fun n => rs.length - n) 0 (Nat.zero_le _) ?_ (fun n hn => ?_)
      · ((repeat' (first|((conv => whnf);done)|((try conv => whnf);first|exact trivial|(refine And.intro ?_ ?_)|rfl|exact fun _ _ _ h=>h|exact fun _ _ _ _=>trivial)));(all_goals (try conv => whnf)))
      · by_cases hlt : n < rs.length
        · have hg := List.getElem?_eq_getElem hlt
          have hxm := List.getElem_mem hlt
          generalize rs[n] = p at *
          obtain ⟨hp, hp8⟩ := hv.2 p hxm
          have hpl := ok_len hp
          by_cases h8 : n = 8
          · ((repeat' ((conv => whnf);(first|refine zA ?_|(refine zI ?_ ?_<;> intro hh<;> first|(exfalso;omega)|skip)|(refine zl ?_ ?_<;> intro hh)|refine zq ?_|refine zv ?_|refine zu ?_|exact Sy.fin_val fun e=>rfl)));(all_goals (try conv => whnf)))
            refine Sy.el_map p hg ?_
            ((repeat' ((conv => whnf);(first|refine zA ?_|(refine zI ?_ ?_<;> intro hh<;> first|(exfalso;omega)|skip)|(refine zl ?_ ?_<;> intro hh)|refine zq ?_|refine zv ?_|refine zu ?_|exact Sy.fin_val fun e=>rfl)));(all_goals (try conv => whnf)))
            done
          · obtain ⟨m, hm⟩ : ∃ m, m = min p.2.length 6000 := ⟨_, rfl⟩
            have hmin : Sy.minI (p.2.length : Int) 6000 = (m : Int) := by unfold Sy.minI; split <;> omega
            obtain ⟨b, hb⟩ : ∃ b, b = p.2.take 6000 := ⟨_, rfl⟩
            have hbl : b.length = m := by rw [hb, List.length_take]; omega
            have b8 : bytesOk b := by rw [hb]; exact hp8.take _
            obtain ⟨V, hV⟩ : ∃ V, V = sdV b := ⟨_, rfl⟩
            obtain ⟨E, hE⟩ : ∃ E, E = sdE b := ⟨_, rfl⟩
            have hsl : List.take (m - 0) (List.drop 0 (p.2.map encB)) = b.map encB ∧ m - 0 = b.length := by
              rw [hbl, Nat.sub_zero, List.drop_zero, ← List.map_take, hb]
              refine ⟨?_, rfl⟩
              congr 1
              rcases Nat.le_total p.2.length 6000 with h | h
              · rw [hm, Nat.min_eq_left h, List.take_length, List.take_of_length_le h]
              · rw [hm, Nat.min_eq_right h]
            ((repeat' ((conv => whnf);(first|refine zA ?_|(refine zI ?_ ?_<;> intro hh<;> first|(exfalso;omega)|skip)|(refine zl ?_ ?_<;> intro hh)|refine zq ?_|refine zv ?_|exact Sy.fin_val fun e=>rfl)));(all_goals (try conv => whnf)))
            refine Sy.el_map p hg ?_
            ((repeat' ((conv => whnf);(first|refine zA ?_|(refine zI ?_ ?_<;> intro hh<;> first|(exfalso;omega)|skip)|(refine zl ?_ ?_<;> intro hh)|refine zq ?_|refine zv ?_|exact Sy.fin_val fun e=>rfl)));(all_goals (try conv => whnf)))
            refine open_in0 1 p.2.length (p.2.map encB) hp (fun _ h => h) ?_
            ((repeat' ((conv => whnf);(first|refine zA ?_|(refine zI ?_ ?_<;> intro hh<;> first|(exfalso;omega)|skip)|(refine zl ?_ ?_<;> intro hh)|refine zq ?_|refine zv ?_|exact Sy.fin_val fun e=>rfl)));(all_goals (try conv => whnf)))
            refine Sy.sli_eq 0 m rfl hmin ⟨by omega, by omega⟩ ?_
            conv => whnf
            rw [hsl.1, hsl.2]
            ((repeat' ((conv => whnf);(first|refine zA ?_|(refine zI ?_ ?_<;> intro hh<;> first|(exfalso;omega)|skip)|(refine zl ?_ ?_<;> intro hh)|refine zq ?_|refine zv ?_|exact Sy.fin_val fun e=>rfl)));(all_goals (try conv => whnf)))
            refine Sy.need_of (by show (0 + b.length) * 1 ≤ _ ∧ _; omega) ?_
            ((repeat' ((conv => whnf);(first|refine zA ?_|(refine zI ?_ ?_<;> intro hh<;> first|(exfalso;omega)|skip)|(refine zl ?_ ?_<;> intro hh)|refine zq ?_|refine zv ?_|exact Sy.fin_val fun e=>rfl)));(all_goals (try conv => whnf)))
            rw [Nat.zero_add b.length]
            refine Sy.call_r2f (v := fun _ vs => retS V E vs) ⟨73, 4, V.rows.length, V.rows.map encK⟩ ⟨89, 3, V.txs.length, V.txs.map encT⟩ (fun k => .tup [.agg (cellS V (.row k) (.row (k + 1))), .c (.v (.int .i64 E))]) Try.call31 (fun e a w' h => by
              rw [hV, hE]
              exact sdec_any _ b w' (Sy.row_reads h (.inl ⟨_, rfl⟩)) b8 (by omega)) ?_
            ((repeat' ((conv => whnf);(first|refine zA ?_|(refine zI ?_ ?_<;> intro hh<;> first|(exfalso;omega)|skip)|(refine zl ?_ ?_<;> intro hh)|refine zq ?_|refine zv ?_|exact Sy.fin_val fun e=>rfl)));(all_goals (try conv => whnf)))
            refine Sy.need_of (by show (0 + b.length) * 1 ≤ _ ∧ _; omega) ?_
            ((repeat' ((conv => whnf);(first|refine zA ?_|(refine zI ?_ ?_<;> intro hh<;> first|(exfalso;omega)|skip)|(refine zl ?_ ?_<;> intro hh)|refine zq ?_|refine zv ?_|exact Sy.fin_val fun e=>rfl)));(all_goals (try conv => whnf)))
            rw [Nat.zero_add b.length]
            refine Sy.call_r2f (v := fun _ vs => retS V E vs) ⟨73, 4, V.rows.length, V.rows.map encK⟩ ⟨89, 3, V.txs.length, V.txs.map encT⟩ (fun k => .tup [.agg (cellS V (.row k) (.row (k + 1))), .c (.v (.int .i64 E))]) Try.call32 (fun e a w' h => by
              rw [hV, hE]
              exact rsdec_any _ b w' (Sy.row_reads h (.inl ⟨_, rfl⟩)) b8 (by omega)) ?_
            ((repeat' ((conv => whnf);(first|refine zA ?_|(refine zI ?_ ?_<;> intro hh<;> first|(exfalso;omega)|skip)|(refine zl ?_ ?_<;> intro hh)|refine zq ?_|refine zv ?_|exact Sy.fin_val fun e=>rfl)));(all_goals (try conv => whnf)))
            refine Sy.call_val (.c (.v (.bool true))) Try.call13 rfl (fun e a w' h => by
              have := rsame_any ⟨V, e.rv 6, e.rv 7⟩ ⟨V, e.rv 11, e.rv 12⟩ w' ⟨Sy.row_reads h (.inl ⟨_, rfl⟩), Sy.row_reads h (.inl ⟨_, rfl⟩)⟩ ⟨Sy.row_reads h (.inl ⟨_, rfl⟩), Sy.row_reads h (.inl ⟨_, rfl⟩)⟩
              rw [decide_eq_true rfl] at this; exact this) ?_
            ((repeat' ((conv => whnf);(first|refine zA ?_|(refine zI ?_ ?_<;> intro hh<;> first|(exfalso;omega)|skip)|(refine zl ?_ ?_<;> intro hh)|refine zq ?_|refine zv ?_|exact Sy.fin_val fun e=>rfl)));(all_goals (try conv => whnf)))
            refine ⟨n + 1, by omega, by omega, ?_⟩
            ((repeat' (first|((conv => whnf);done)|((try conv => whnf);first|exact trivial|(refine And.intro ?_ ?_)|rfl|exact fun _ _ _ h=>h|exact fun _ _ _ _=>trivial)));(all_goals (try conv => whnf)))
        · ((repeat' ((conv => whnf);(first|refine zA ?_|(refine zI ?_ ?_<;> intro hh<;> first|(exfalso;omega)|skip)|(refine zl ?_ ?_<;> intro hh)|refine zq ?_|refine zv ?_|refine zu ?_|exact Sy.fin_val fun e=>rfl)));(all_goals (try conv => whnf)))
          done
end Go.Proofs.Ytmahldelmbhjfaa
