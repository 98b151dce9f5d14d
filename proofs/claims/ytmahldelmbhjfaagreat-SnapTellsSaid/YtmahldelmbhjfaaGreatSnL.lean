/- Snap: the whole of parts. -/
import Derived.Test.YtmahldelmbhjfaaGreatSnK
namespace Go.Proofs.YtmahldelmbhjfaaGreat.Sn
open Go Go.RowKit
open Sy (C SV V1 Blk St XD Els)
set_option maxRecDepth 10000

/-- Snapshots are read. -/
def SsOk (F : Nat → Prop) (w : World) (v : Value) (ls : List SnV) : Prop := XD.ok F w ⟨v, 14, ls.length, ls.map encS⟩ ∧ ∀ s ∈ ls, SOk F w s
def snsOf (ls : List SnV) : List Sn := ls.map (·.sn)
def sn0 : Sn := ⟨0, 0, 0, false, [], fun _ => 0, []⟩
/-- Are these the parts of a whole, one by one? -/
def partP (op : Int) (len : Nat) (i : Nat) (s : Sn) : Prop := s.op = op ∧ s.idx = (i : Int) ∧ s.wid = (len : Int)
instance (op : Int) (len i : Nat) (s : Sn) : Decidable (partP op len i s) := by unfold partP; infer_instance
def partsP (l : List Sn) : Prop := match l with
  | [] => False
  | s0 :: _ => ∀ i, (h : i < l.length) → partP s0.op l.length i l[i]
instance (l : List Sn) : Decidable (partsP l) := by
  cases l with
  | nil => exact isFalse fun h => h
  | cons s l => unfold partsP; infer_instance
def rowsW (l : List Sn) : List Kc := (l.map (·.rows)).foldl joinK []
def txsW (l : List Sn) : List Tx := (l.map (·.txs)).flatten
def finW (l : List Sn) : Bool := l.all (·.fin)
/-- A whole's offset: that of the part whose the group is. -/
def offW (l : List Sn) (g : Fin 8) : Int := match l[(ownW (g.val : Int) l.length).toNat]? with
  | some s => s.offs g
  | none => 0
def wholeS (l : List Sn) : Sn := ⟨match l with | [] => 0 | s :: _ => s.op, 0, 1, finW l, rowsW l, offW l, txsW l⟩
def wholeE (l : List Sn) : Int := if ∀ s ∈ l, rightP s then (if partsP l then (if namesB (txsW l) = true then 0 else 281) else 281) else 280
def wholeV (l : List Sn) : Sn := if wholeE l = 0 then wholeS l else sn0
/-- A snapshot that comes back, its slices being those. -/
def retS (s : Sn) (e : Int) (vs : List Value) : Value := .tuple #[.agg #[.int .i64 s.op, .int .i64 s.idx, .int .i64 s.wid, .bool s.fin, vs.headD undef, .int .i64 (s.offs 0), .int .i64 (s.offs 1), .int .i64 (s.offs 2), .int .i64 (s.offs 3), .int .i64 (s.offs 4), .int .i64 (s.offs 5), .int .i64 (s.offs 6), .int .i64 (s.offs 7), (vs.drop 1).headD undef], .int .i64 e]
theorem ownW_lt {g len : Int} (hg : 0 ≤ g ∧ g < 8) (hl : 1 ≤ len ∧ len ≤ 3) : 0 ≤ ownW g len ∧ ownW g len < len := by
  unfold ownW
  have h1 : len = 1 ∨ len = 2 ∨ len = 3 := by omega
  rcases h1 with rfl | rfl | rfl <;> omega
/-- What holds after n parts. -/
structure WInv (L : List Sn) (op : Int) (len n : Nat) (r : Fin 8 → Int) : Prop where
  le : n ≤ len
  part : ∀ i s, i < n → L[i]? = some s → partP op len i s
  rows : RowsOk (rowsW (L.take n))
  own : ∀ y ∈ rowsW (L.take n), ownW (y.key % 8) len < n
  txs : (txsW (L.take n)).length ≤ 24 * n
  offs : ∀ g : Fin 8, (ownW (g.val : Int) len < n → r g = offW L g) ∧ ((n : Int) ≤ ownW (g.val : Int) len → r g = 0)
theorem ownW_nn {g len : Int} (hg : 0 ≤ g) (hl : 0 ≤ len) : 0 ≤ ownW g len := Int.ediv_nonneg (Int.mul_nonneg hg hl) (by decide)
theorem win_zero (L : List Sn) (op : Int) : WInv L op L.length 0 fun _ => 0 :=
  { le := Nat.zero_le _, part := fun i s h => absurd h (Nat.not_lt_zero _), rows := ⟨fun x hx => (by cases hx), List.Pairwise.nil⟩, own := fun y hy => (by cases hy), txs := Nat.zero_le _,
    offs := fun g => ⟨fun h => (by have := ownW_nn (g := (g.val : Int)) (len := (L.length : Int)) (by omega) (by omega); omega), fun _ => rfl⟩ }
theorem right_rows {s : Sn} (h : rightP s) : RowsOk s.rows ∧ ∀ x ∈ s.rows, ownW (x.key % 8) s.wid = s.idx := ⟨tbl_rows h.2.2.1, h.2.2.2.2.1⟩
theorem names_len {l : List Tx} (h : namesB l = true) : l.length ≤ 24 := by
  unfold namesB at h
  simp only [Bool.and_eq_true, decide_eq_true_eq] at h
  exact h.2
theorem kn_key {x y : Kc} (hx : recP x.src x.key) (hy : recP y.src y.key) (h : kn x = kn y) : x.key = y.key := by
  unfold recP at hx hy
  unfold kn at h
  omega
theorem win_apart {L : List Sn} {op : Int} {n : Nat} {r : Fin 8 → Int} {s : Sn} (h : WInv L op L.length n r) (hr : rightP s) (hp : partP op L.length n s) : apartK (rowsW (L.take n)) s.rows := fun x hx y hy he => by
  obtain ⟨h1, h2⟩ := right_rows hr
  have h3 := h.own y hy
  have h4 := h2 x hx
  rw [kn_key (h.rows.1 y hy).1 (h1.1 x hx).1 he] at h3
  rw [hp.2.1, hp.2.2] at h4
  omega
theorem rowsW_succ {L : List Sn} {n : Nat} {s : Sn} (h : L[n]? = some s) : rowsW (L.take (n + 1)) = joinK (rowsW (L.take n)) s.rows ∧ txsW (L.take (n + 1)) = txsW (L.take n) ++ s.txs ∧ finW (L.take (n + 1)) = (finW (L.take n) && s.fin) := by
  obtain ⟨hn, he⟩ := List.getElem?_eq_some_iff.1 h
  rw [List.take_succ_eq_append_getElem hn, he]
  unfold rowsW txsW finW
  refine ⟨?_, ?_, ?_⟩
  · rw [List.map_append, List.foldl_append]; rfl
  · rw [List.map_append, List.flatten_append]; simp
  · rw [List.all_append]; simp
theorem win_step {L : List Sn} {op : Int} {n : Nat} {r r' : Fin 8 → Int} {s : Sn} (h : WInv L op L.length n r) (hs : L[n]? = some s) (hr : rightP s) (hp : partP op L.length n s) (ho : overP (ownL n L.length) (ownL n L.length).length s.offs r r') : WInv L op L.length (n + 1) r' := by
  obtain ⟨h1, h2⟩ := right_rows hr
  obtain ⟨e1, e2, e3⟩ := rowsW_succ hs
  have hj := join_ok h.rows h1 (win_apart h hr hp)
  have hn := (List.getElem?_eq_some_iff.1 hs).1
  refine ⟨hn, fun i t hi ht => ?_, by rw [e1]; exact hj.1, fun y hy => ?_, ?_, fun g => ?_⟩
  · rcases Nat.lt_succ_iff_lt_or_eq.1 hi with hi | rfl
    · exact h.part i t hi ht
    · rw [hs] at ht; cases ht; exact hp
  · rw [e1] at hy
    rcases (hj.2 y).1 hy with hy | hy
    · have := h.own y hy; omega
    · have := h2 y hy
      rw [hp.2.1, hp.2.2] at this
      omega
  · rw [e2, List.length_append]
    have := h.txs
    have := names_len hr.2.2.2.1
    omega
  · have hmem : (g.val : Int) ∈ (ownL (n : Int) L.length).take (ownL (n : Int) L.length).length ↔ ownW (g.val : Int) L.length = n := by
      rw [List.take_length, ownL_mem]
      exact ⟨fun h => h.2, fun h => ⟨by omega, h⟩⟩
    by_cases hg : ownW (g.val : Int) L.length = n
    · have h3 := (ho g).1 (hmem.2 hg)
      refine ⟨fun _ => ?_, fun h => by omega⟩
      rw [h3]
      unfold offW
      rw [hg, Int.toNat_natCast, hs]
    · have h3 := (ho g).2 (fun h => hg (hmem.1 h))
      rw [h3]
      exact ⟨fun hlt => (h.offs g).1 (by omega), fun hle => (h.offs g).2 (by omega)⟩
theorem win_end {L : List Sn} {op : Int} {r : Fin 8 → Int} (h : WInv L op L.length L.length r) (hl : 1 ≤ L.length ∧ L.length ≤ 3) (h0 : ∀ s, L[0]? = some s → s.op = op) : partsP L ∧ r = offW L := by
  constructor
  · cases L with
    | nil => exact absurd hl.1 (by decide)
    | cons s l =>
      intro i hi
      have := h.part i _ hi (List.getElem?_eq_getElem hi)
      rw [h0 s rfl]
      exact this
  · funext g
    exact (h.offs g).1 (by
      have := (ownW_lt (g := (g.val : Int)) (by omega) (len := L.length) (by omega)).2
      omega)
/-- A cell that holds a slice that came in is opened. -/
theorem open_c {X : Sy.Cx} {S : St} {c : Code} {Q : Exit → St → Prop} (k o esz n : Nat) (xs : List (List Value)) {ty : Nat} {cs : List C} {u : Value} (hk : Sy.get S.H k = some (.cells ty cs)) (ho : cs[o]? = some (.v u)) (h : XD.ok (fun b => b < X.w0.heap.size) X.w0 ⟨u, esz, n, xs⟩) (hown : ∀ b, ¬ X.own b)
    (hc : St.forceAll { S with H := (k, .cells ty (cs.set o (.row S.nx))) :: (S.nx, .ext esz n (.vs xs)) :: S.H, nx := S.nx + 1 } fun S' => Sy.semP X c S' Q) : Sy.semP X c S Q :=
  Sy.sem_subF (Sy.sub_open k o esz n xs hk ho (Sy.reads_w0 (h.1.keep (fun b hb => ⟨hb, hown b⟩) (fun _ _ => rfl))) h.2) hc
attribute [local irreducible] ownW tblB namesB rightP
set_option maxHeartbeats 8000000 in
theorem whole_any (v : Value) (ls : List SnV) (w : World) (hr : SsOk (fun b => b < w.heap.size) w v ls) :
    Calls Tryz.prog 14 #[v] w (Sy.RetRows Sy.noRow (fun _ : Unit => True) (fun _ => [⟨46, 4, (wholeV (snsOf ls)).rows.length, (wholeV (snsOf ls)).rows.map encK⟩, ⟨80, 3, (wholeV (snsOf ls)).txs.length, (wholeV (snsOf ls)).txs.map encT⟩]) (fun _ vs => retS (wholeV (snsOf ls)) (wholeE (snsOf ls)) vs) w) := by
  have hl := ok_len hr.1
  have hsl : (snsOf ls).length = ls.length := List.length_map _
  refine Sy.calls_of Sy.lv14 Sy.tab_ok Tryz.func14 rfl _ Tryz.ntmps14 [⟨v, 14, ls.length, ls.map encS⟩] [.c (.row 0)] rfl rfl rfl ⟨hr.1, trivial⟩ ?_
  ((repeat' ((conv => whnf);(first|refine zA ?_|(refine zI ?_ ?_<;> intro hh<;> first|(exfalso;omega)|skip)|(refine zl ?_ ?_<;> intro hh)|refine zq ?_|refine zv ?_|exact Sy.fin_val fun e=>rfl)));(all_goals (try conv => whnf)))
  refine Sy.call_in Sy.lv39 Sy.tab_ok Tryz.func39 rfl _ Tryz.ntmps39 Tryz.call39 rfl (fun _ => ?_)
  ((repeat' ((conv => whnf);(first|refine zA ?_|(refine zI ?_ ?_<;> intro hh<;> first|(exfalso;omega)|skip)|(refine zl ?_ ?_<;> intro hh)|refine zq ?_|refine zv ?_|exact Sy.fin_val fun e=>rfl)));(all_goals (try conv => whnf)))
  refine Sy.call_in Sy.lv68 Sy.tab_ok Tryz.func68 rfl _ Tryz.ntmps68 Tryz.call68 rfl (fun _ => ?_)
  ((repeat' ((conv => whnf);(first|refine zA ?_|(refine zI ?_ ?_<;> intro hh<;> first|(exfalso;omega)|skip)|(refine zl ?_ ?_<;> intro hh)|refine zq ?_|refine zv ?_|exact Sy.fin_val fun e=>rfl)));(all_goals (try conv => whnf)))
  refine Sy.loop_inv Sy.tab_ok (fun n : Nat => [(8, .c (.v (.int .i64 n)))]) (fun _ => []) (fun n => n ≤ ls.length ∧ ∀ s ∈ ls.take n, rightP s.sn) (fun n => ls.length - n) 0 ⟨Nat.zero_le _, fun x hx => by rw [List.take_zero] at hx; cases hx⟩ ?_ (fun n hn => ?_)
  · ((repeat' (first|((conv => whnf);done)|((try conv => whnf);first|exact trivial|(refine And.intro ?_ ?_)|rfl|exact fun _ _ _ h=>h|exact fun _ _ _ _=>trivial)));(all_goals (try conv => whnf)))
  · obtain ⟨hn, ha⟩ := hn
    by_cases hlt : n < ls.length
    · have hg := List.getElem?_eq_getElem hlt
      have hsn : ls.take (n + 1) = ls.take n ++ [ls[n]] := List.take_succ_eq_append_getElem hlt
      have hxm := List.getElem_mem hlt
      generalize ls[n] = s at *
      ((repeat' ((conv => whnf);(first|refine zA ?_|(refine zI ?_ ?_<;> intro hh<;> first|(exfalso;omega)|skip)|(refine zl ?_ ?_<;> intro hh)|refine zq ?_|refine zv ?_|exact Sy.fin_val fun e=>rfl)));(all_goals (try conv => whnf)))
      refine Sy.el_map s hg ?_
      ((repeat' ((conv => whnf);(first|refine zA ?_|(refine zI ?_ ?_<;> intro hh<;> first|(exfalso;omega)|skip)|(refine zl ?_ ?_<;> intro hh)|refine zq ?_|refine zv ?_|exact Sy.fin_val fun e=>rfl)));(all_goals (try conv => whnf)))
      refine Sy.call_in Sy.lv40 Sy.tab_ok Tryz.func40 rfl _ Tryz.ntmps40 Tryz.call40 rfl (fun _ => ?_)
      ((repeat' ((conv => whnf);(first|refine zA ?_|(refine zI ?_ ?_<;> intro hh<;> first|(exfalso;omega)|skip)|(refine zl ?_ ?_<;> intro hh)|refine zq ?_|refine zv ?_|exact Sy.fin_val fun e=>rfl)));(all_goals (try conv => whnf)))
      refine Sy.call_val (.c (.v (.int .i64 (chkE s.sn)))) Tryz.call8 rfl (fun e a w' h => check_any s w' ⟨Sy.later_in h (hr.2 s hxm).rows, Sy.later_in h (hr.2 s hxm).txs⟩) ?_
      by_cases hrt : rightP s.sn
      · rw [show chkE s.sn = 0 from if_pos hrt]
        ((repeat' ((conv => whnf);(first|refine zA ?_|(refine zI ?_ ?_<;> intro hh<;> first|(exfalso;omega)|skip)|(refine zl ?_ ?_<;> intro hh)|refine zq ?_|refine zv ?_|exact Sy.fin_val fun e=>rfl)));(all_goals (try conv => whnf)))
        refine ⟨n + 1, ⟨by omega, fun y hy => ?_⟩, by omega, ?_⟩
        · rw [hsn] at hy
          rcases List.mem_append.1 hy with hy | hy
          · exact ha y hy
          · rw [List.mem_singleton.1 hy]; exact hrt
        · ((repeat' (first|((conv => whnf);done)|((try conv => whnf);first|exact trivial|(refine And.intro ?_ ?_)|rfl|exact fun _ _ _ h=>h|exact fun _ _ _ _=>trivial)));(all_goals (try conv => whnf)))
      · rw [show chkE s.sn = 280 from if_neg hrt]
        have hE : wholeE (snsOf ls) = 280 := if_neg fun h => hrt (h _ (List.mem_map.2 ⟨s, hxm, rfl⟩))
        have hV : wholeV (snsOf ls) = sn0 := by unfold wholeV; rw [hE]; rfl
        rw [hE, hV]
        ((repeat' ((conv => whnf);(first|refine zA ?_|(refine zI ?_ ?_<;> intro hh<;> first|(exfalso;omega)|skip)|(refine zl ?_ ?_<;> intro hh)|refine zq ?_|refine zv ?_|exact Sy.fin_val fun e=>rfl)));(all_goals (try conv => whnf)))
        exact Sy.fin_r2 (.v (.slice none 0 0)) (.v (.slice none 0 0)) ⟨rfl, rfl⟩ ⟨rfl, rfl⟩ (by decide) (fun e => rfl)
    · have e : n = ls.length := by omega
      subst e
      rw [List.take_length] at ha
      have hall : ∀ s ∈ snsOf ls, rightP s := fun s hs => by
        obtain ⟨x, hx, rfl⟩ := List.mem_map.1 hs
        exact ha x hx
      by_cases h0 : ls.length = 0
      · have hE : wholeE (snsOf ls) = 281 := by
          unfold wholeE
          rw [if_pos hall, if_neg]
          intro h
          have : ls = [] := List.length_eq_zero_iff.1 h0
          subst this
          exact h
        have hV : wholeV (snsOf ls) = sn0 := by unfold wholeV; rw [hE]; rfl
        rw [hE, hV]
        ((repeat' ((conv => whnf);(first|refine zA ?_|(refine zI ?_ ?_<;> intro hh<;> first|(exfalso;omega)|skip)|(refine zl ?_ ?_<;> intro hh)|refine zq ?_|refine zv ?_|exact Sy.fin_val fun e=>rfl)));(all_goals (try conv => whnf)))
        exact Sy.fin_r2 (.v (.slice none 0 0)) (.v (.slice none 0 0)) ⟨rfl, rfl⟩ ⟨rfl, rfl⟩ (by decide) (fun e => rfl)
      · have hg0 := List.getElem?_eq_getElem (show 0 < ls.length by omega)
        generalize ls[0] = s0 at *
        have hs0 : (snsOf ls)[0]? = some s0.sn := by unfold snsOf; rw [List.getElem?_map, hg0]; rfl
        ((repeat' ((conv => whnf);(first|refine zA ?_|(refine zI ?_ ?_<;> intro hh<;> first|(exfalso;omega)|skip)|(refine zl ?_ ?_<;> intro hh)|refine zq ?_|refine zv ?_|exact Sy.fin_val fun e=>rfl)));(all_goals (try conv => whnf)))
        refine Sy.el_map s0 hg0 ?_
        ((repeat' ((conv => whnf);(first|refine zA ?_|(refine zI ?_ ?_<;> intro hh<;> first|(exfalso;omega)|skip)|(refine zl ?_ ?_<;> intro hh)|refine zq ?_|refine zv ?_|exact Sy.fin_val fun e=>rfl)));(all_goals (try conv => whnf)))
        refine Sy.sem_subF (Sy.sub_rowc 2 4 46 4 rfl rfl) ?_
        conv => whnf
        refine Sy.sem_subF (Sy.sub_rowc 2 13 80 3 rfl rfl) ?_
        conv => whnf
        refine Sy.loop_inv Sy.tab_ok (fun x : Nat × (Fin 8 → Int) => [(24, .c (.v (.int .i64 x.1)))]) (fun x => [(2, .cells 35 [.v (.int .i64 s0.sn.op), .v (.int .i64 0), .v (.int .i64 1), .v (.bool (finW ((snsOf ls).take x.1))), .row 3, .v (.int .i64 (x.2 0)), .v (.int .i64 (x.2 1)), .v (.int .i64 (x.2 2)), .v (.int .i64 (x.2 3)), .v (.int .i64 (x.2 4)), .v (.int .i64 (x.2 5)), .v (.int .i64 (x.2 6)), .v (.int .i64 (x.2 7)), .row 4]), (3, .row 46 4 (rowsW ((snsOf ls).take x.1)).length (.vs ((rowsW ((snsOf ls).take x.1)).map encK))), (4, .row 80 3 (txsW ((snsOf ls).take x.1)).length (.vs ((txsW ((snsOf ls).take x.1)).map encT)))])
          (fun x => WInv (snsOf ls) s0.sn.op (snsOf ls).length x.1 x.2) (fun x => ls.length - x.1) (0, fun _ => 0) (win_zero _ _) ?_ (fun x hx => ?_)
        · rw [show rowsW ((snsOf ls).take 0) = [] from rfl, show txsW ((snsOf ls).take 0) = [] from rfl, show finW ((snsOf ls).take 0) = true from rfl]
          ((repeat' (first|((conv => whnf);done)|((try conv => whnf);first|exact trivial|(refine And.intro ?_ ?_)|rfl|exact fun _ _ _ h=>h|exact fun _ _ _ _=>trivial)));(all_goals (try conv => whnf)))
        · obtain ⟨n, r⟩ := x
          have hn := hx.le
          dsimp only at hx hn ⊢
          by_cases hlt : n < ls.length
          · have hg := List.getElem?_eq_getElem hlt
            have hxm := List.getElem_mem hlt
            generalize ls[n] = s at *
            have hsn : (snsOf ls)[n]? = some s.sn := by unfold snsOf; rw [List.getElem?_map, hg]; rfl
            have hrt := ha s hxm
            have hsr := hr.2 s hxm
            have htx := names_len (by unfold rightP at hrt; exact hrt.2.2.2.1)
            have htl := hx.txs
            obtain ⟨hnr, hnt, hnf⟩ := rowsW_succ hsn
            ((repeat' ((conv => whnf);(first|refine zA ?_|(refine zI ?_ ?_<;> intro hh<;> first|(exfalso;omega)|skip)|(refine zl ?_ ?_<;> intro hh)|refine zq ?_|refine zv ?_|exact Sy.fin_val fun e=>rfl)));(all_goals (try conv => whnf)))
            refine Sy.el_map s hg ?_
            ((repeat' ((conv => whnf);(first|refine zA ?_|(refine zI ?_ ?_<;> intro hh<;> first|(exfalso;omega)|skip)|(refine zl ?_ ?_<;> intro hh)|exact Sy.fin_val fun e=>rfl)));(all_goals (try conv => whnf)))
            by_cases hp : partP s0.sn.op (snsOf ls).length n s.sn
            · have hjn := join_ok hx.rows (right_rows hrt).1 (win_apart hx hrt hp)
              have hap := win_apart hx hrt hp
              have hws := fun r' h => win_step (r' := r') hx hsn hrt hp h
              obtain ⟨p1, p2, p3⟩ := hp
              have hsh : shareP s.sn.idx s.sn.wid := by unfold rightP at hrt; exact hrt.2.1
              have hp3 : n < 3 ∧ ls.length ≤ 3 := by
                unfold shareP at hsh
                rw [hsl] at p3
                omega
              refine Sy.cut_sem (Sy.seq_go Sy.tab_ok ?_)
              refine open_c 5 4 4 s.sn.rows.length (s.sn.rows.map encK) rfl rfl hsr.rows (fun _ h => h) ?_
              conv => whnf
              refine open_c 5 13 3 s.sn.txs.length (s.sn.txs.map encT) rfl rfl hsr.txs (fun _ h => h) ?_
              conv => whnf
              refine Sy.region_go Sy.tab_ok ?_
              ((repeat' ((conv => whnf);(first|refine zA ?_|(refine zI ?_ ?_<;> intro hh<;> first|(exfalso;omega)|skip)|(refine zl ?_ ?_<;> intro hh)|refine zq ?_|refine zv ?_|exact Sy.fin_val fun e=>rfl)));(all_goals (try conv => whnf)))
              refine Sy.call_r1 ⟨46, 4, (joinK (rowsW ((snsOf ls).take n)) s.sn.rows).length, (joinK (rowsW ((snsOf ls).take n)) s.sn.rows).map encK⟩ (fun j => .tup [.agg [.row j], .c (.v (.int .i64 0))]) Tryz.call41 (fun e a w' h => join_any (e.rv 3) (e.rv 6) (rowsW ((snsOf ls).take n)) s.sn.rows w' (Sy.row_reads h (.inl ⟨_, rfl⟩)) (Sy.row_reads h (.inr rfl)) hx.rows (right_rows hrt).1 hap) ?_
              ((repeat' ((conv => whnf);(first|refine zA ?_|(refine zI ?_ ?_<;> intro hh<;> first|(exfalso;omega)|skip)|(refine zl ?_ ?_<;> intro hh)|refine zq ?_|refine zv ?_|exact Sy.fin_val fun e=>rfl)));(all_goals (try conv => whnf)))
              have htl2 : (txsW ((snsOf ls).take n)).length + s.sn.txs.length ≤ 100 := by omega
              refine Sy.meet1 10 [] [] [(2, .cells 35 [.v (.int .i64 s0.sn.op), .v (.int .i64 0), .v (.int .i64 1), .v (.bool (finW ((snsOf ls).take (n + 1)))), .row 8, .v (.int .i64 (r 0)), .v (.int .i64 (r 1)), .v (.int .i64 (r 2)), .v (.int .i64 (r 3)), .v (.int .i64 (r 4)), .v (.int .i64 (r 5)), .v (.int .i64 (r 6)), .v (.int .i64 (r 7)), .row 4]), (4, .row 80 3 (txsW ((snsOf ls).take (n + 1))).length (.vs ((txsW ((snsOf ls).take (n + 1))).map encT)))] Sy.tab_ok rfl ?_ ?_
              · rw [hnf, hnt]
                cases hfw : finW ((snsOf ls).take n)
                all_goals
                  refine Sy.draw_go [2,4] (by kernel_rfl) ?_
                  intro e0
                  conv => whnf
                  refine zt 0 rfl ?_
                  conv => whnf
                  refine zt 1 rfl ?_
                  conv => whnf
                  refine zt 7 rfl ?_
                  conv => whnf
                  refine zt 9 rfl ?_
                  conv => whnf
                  refine zt 10 rfl ?_
                  conv => whnf
                  focus
                    refine zd1 [2, 8] (zx rfl ?_ (zx rfl ?_ zy))
                    focus
                      conv => whnf
                      refine ⟨(by repeat' ((conv => whnf);first|exact trivial|(refine And.intro ?_ ?_)|rfl)), ?_⟩
                      refine zt 3 rfl ?_
                      conv => whnf
                      refine zt 4 rfl ?_
                      (conv => whnf);(repeat' ((first|refine zA ?_|(refine zI ?_ ?_<;> intro hh<;> first|(exfalso;omega)|skip)|(refine zl ?_ ?_<;> intro hh)|refine zq ?_|refine zv ?_|refine zu ?_|exact Sy.fin_val fun e=>rfl);(try conv => whnf)))
                      refine zt 5 rfl ?_
                      (conv => whnf);(repeat' ((first|refine zA ?_|(refine zI ?_ ?_<;> intro hh<;> first|(exfalso;omega)|skip)|(refine zl ?_ ?_<;> intro hh)|refine zq ?_|refine zv ?_|refine zu ?_|exact Sy.fin_val fun e=>rfl);(try conv => whnf)))
                      refine zt 6 rfl ?_
                      (conv => whnf);(repeat' ((first|refine zA ?_|(refine zI ?_ ?_<;> intro hh<;> first|(exfalso;omega)|skip)|(refine zl ?_ ?_<;> intro hh)|refine zq ?_|refine zv ?_|refine zu ?_|exact Sy.fin_val fun e=>rfl);(try conv => whnf)))
                      refine zd1 [8] (zx rfl ?_ zy)
                      conv => whnf
                      refine ⟨(by repeat' ((conv => whnf);first|exact trivial|(refine And.intro ?_ ?_)|rfl)), ?_⟩
                      refine zt 12 rfl ?_
                      conv => whnf
                      refine zd1 [11] (zx rfl ?_ zy)
                      conv => whnf
                      refine Sy.need_app 24 rfl ⟨by omega, by omega⟩ ?_
                      conv => whnf
                      refine ⟨(by repeat' ((conv => whnf);first|exact trivial|(refine And.intro ?_ ?_)|rfl)), ?_⟩
                      refine zd1 [13] (zx rfl ?_ zy)
                      conv => whnf
                      refine ⟨(by repeat' ((conv => whnf);first|exact trivial|(refine And.intro ?_ ?_)|rfl)), ?_⟩
                      refine zt 14 rfl ?_
                      conv => whnf
                      refine zd1 [15] (zx rfl ?_ zy)
                      conv => whnf
                      refine ⟨(by repeat' ((conv => whnf);first|exact trivial|(refine And.intro ?_ ?_)|rfl)), ?_⟩
                      refine zt 16 rfl ?_
                      conv => whnf
                      refine zd1 [17] (zx rfl ?_ zy)
                      conv => whnf
                      refine ⟨(by repeat' ((conv => whnf);first|exact trivial|(refine And.intro ?_ ?_)|rfl)), ?_⟩
                      refine zw ?_
                      skip
                    rotate_right
                    focus
                      conv => whnf
                      refine ⟨(by repeat' ((conv => whnf);first|exact trivial|(refine And.intro ?_ ?_)|rfl)), ?_⟩
                      refine zd1 [2] (zx rfl ?_ zy)
                      conv => whnf
                      refine ⟨(by repeat' ((conv => whnf);first|exact trivial|(refine And.intro ?_ ?_)|rfl)), ?_⟩
                      refine zt 3 rfl ?_
                      conv => whnf
                      refine zt 4 rfl ?_
                      (conv => whnf);(repeat' ((first|refine zA ?_|(refine zI ?_ ?_<;> intro hh<;> first|(exfalso;omega)|skip)|(refine zl ?_ ?_<;> intro hh)|refine zq ?_|refine zv ?_|refine zu ?_|exact Sy.fin_val fun e=>rfl);(try conv => whnf)))
                      refine zt 5 rfl ?_
                      (conv => whnf);(repeat' ((first|refine zA ?_|(refine zI ?_ ?_<;> intro hh<;> first|(exfalso;omega)|skip)|(refine zl ?_ ?_<;> intro hh)|refine zq ?_|refine zv ?_|refine zu ?_|exact Sy.fin_val fun e=>rfl);(try conv => whnf)))
                      refine zt 6 rfl ?_
                      (conv => whnf);(repeat' ((first|refine zA ?_|(refine zI ?_ ?_<;> intro hh<;> first|(exfalso;omega)|skip)|(refine zl ?_ ?_<;> intro hh)|refine zq ?_|refine zv ?_|refine zu ?_|exact Sy.fin_val fun e=>rfl);(try conv => whnf)))
                      refine zt 12 rfl ?_
                      conv => whnf
                      refine zd1 [11] (zx rfl ?_ zy)
                      conv => whnf
                      refine Sy.need_app 24 rfl ⟨by omega, by omega⟩ ?_
                      conv => whnf
                      refine ⟨(by repeat' ((conv => whnf);first|exact trivial|(refine And.intro ?_ ?_)|rfl)), ?_⟩
                      refine zd1 [13] (zx rfl ?_ zy)
                      conv => whnf
                      refine ⟨(by repeat' ((conv => whnf);first|exact trivial|(refine And.intro ?_ ?_)|rfl)), ?_⟩
                      refine zt 14 rfl ?_
                      conv => whnf
                      refine zd1 [15] (zx rfl ?_ zy)
                      conv => whnf
                      refine ⟨(by repeat' ((conv => whnf);first|exact trivial|(refine And.intro ?_ ?_)|rfl)), ?_⟩
                      refine zt 16 rfl ?_
                      conv => whnf
                      refine zd1 [17] (zx rfl ?_ zy)
                      conv => whnf
                      refine ⟨(by repeat' ((conv => whnf);first|exact trivial|(refine And.intro ?_ ?_)|rfl)), ?_⟩
                      refine zw ?_
                      skip
                  all_goals (((repeat' (first|((conv => whnf);done)|((try conv => whnf);first|exact trivial|(refine And.intro ?_ ?_)|rfl|exact fun _ _ _ h=>h|exact fun _ _ _ _=>trivial)));(all_goals (try conv => whnf))))
                  all_goals first | rfl | simp
              · conv => whnf
                ((repeat' ((conv => whnf);(first|refine zA ?_|(refine zI ?_ ?_<;> intro hh<;> first|(exfalso;omega)|skip)|(refine zl ?_ ?_<;> intro hh)|refine zq ?_|refine zv ?_|exact Sy.fin_val fun e=>rfl)));(all_goals (try conv => whnf)))
                refine Sy.call_in Sy.lv27 Sy.tab_ok Tryz.func27 rfl _ Tryz.ntmps27 Tryz.call27 rfl (fun _ => ?_)
                ((repeat' ((conv => whnf);(first|refine zA ?_|(refine zI ?_ ?_<;> intro hh<;> first|(exfalso;omega)|skip)|(refine zl ?_ ?_<;> intro hh)|refine zq ?_|refine zv ?_|exact Sy.fin_val fun e=>rfl)));(all_goals (try conv => whnf)))
                refine Sy.call_r1 ⟨3, 1, (ownF s.sn.idx s.sn.wid).length, (ownF s.sn.idx s.sn.wid).map encI⟩ (fun j => .tup [.c (.row j), .c (.v (.int .i64 (ownE s.sn.idx s.sn.wid)))]) Tryz.call22 (fun e a w' h => owned_any s.sn.idx s.sn.wid w') ?_
                have hF : ownF s.sn.idx s.sn.wid = ownL s.sn.idx s.sn.wid := if_pos hsh
                have hEo : ownE s.sn.idx s.sn.wid = 0 := if_pos hsh
                have hol : (ownL s.sn.idx s.sn.wid).length ≤ 8 := ownN_len s.sn.idx s.sn.wid 8
                rw [hEo, hF]
                ((repeat' ((conv => whnf);(first|refine zA ?_|(refine zI ?_ ?_<;> intro hh<;> first|(exfalso;omega)|skip)|(refine zl ?_ ?_<;> intro hh)|refine zq ?_|refine zv ?_|exact Sy.fin_val fun e=>rfl)));(all_goals (try conv => whnf)))
                refine Sy.call_in Sy.lv62 Sy.tab_ok Tryz.func62 rfl _ Tryz.ntmps62 Tryz.call62 rfl (fun _ => ?_)
                ((repeat' ((conv => whnf);(first|refine zA ?_|(refine zI ?_ ?_<;> intro hh<;> first|(exfalso;omega)|skip)|(refine zl ?_ ?_<;> intro hh)|refine zq ?_|refine zv ?_|exact Sy.fin_val fun e=>rfl)));(all_goals (try conv => whnf)))
                refine Sy.sem_range Sy.lv82 Sy.tab_ok _ rfl rfl Tryz.func82 rfl Tryz.ntmps82 Tryz.call82 rfl (fun _ _ => ?_)
                ((repeat' ((conv => whnf);(first|refine zA ?_|(refine zI ?_ ?_<;> intro hh<;> first|(exfalso;omega)|skip)|(refine zl ?_ ?_<;> intro hh)|refine zq ?_|refine zv ?_|exact Sy.fin_val fun e=>rfl)));(all_goals (try conv => whnf)))
                have hlist : ownL (n : Int) (snsOf ls).length = ownL s.sn.idx s.sn.wid := by rw [p2, p3]
                rw [hlist] at hws
                generalize ownL s.sn.idx s.sn.wid = G at *
                have hGn : G.Nodup := by rw [← hlist]; exact ownL_nodup _ _
                have hGm : ∀ x ∈ G, 0 ≤ x ∧ x < 8 := fun x hx => by rw [← hlist] at hx; exact (ownL_mem.1 hx).1
                refine Sy.loop_inv Sy.tab_ok (fun x : Nat × (Fin 8 → Int) => [(7, .c (.v (.int .i64 x.1)))]) (fun x => [(2, .cells 35 [.v (.int .i64 s0.sn.op), .v (.int .i64 0), .v (.int .i64 1), .v (.bool (finW ((snsOf ls).take (n + 1)))), .row 8, .v (.int .i64 (x.2 0)), .v (.int .i64 (x.2 1)), .v (.int .i64 (x.2 2)), .v (.int .i64 (x.2 3)), .v (.int .i64 (x.2 4)), .v (.int .i64 (x.2 5)), .v (.int .i64 (x.2 6)), .v (.int .i64 (x.2 7)), .row 4])]) (fun x => x.1 ≤ G.length ∧ overP G x.1 s.sn.offs r x.2) (fun x => G.length - x.1) (0, r) ⟨Nat.zero_le _, over_zero _ _ _⟩ ?_ (fun x hx2 => ?_)
                · ((repeat' (first|((conv => whnf);done)|((try conv => whnf);first|exact trivial|(refine And.intro ?_ ?_)|rfl|exact fun _ _ _ h=>h|exact fun _ _ _ _=>trivial)));(all_goals (try conv => whnf)))
                · obtain ⟨j, r'⟩ := x
                  obtain ⟨hj, hov⟩ := hx2
                  dsimp only at hj hov ⊢
                  by_cases hlt2 : j < G.length
                  · have hg2 := List.getElem?_eq_getElem hlt2
                    generalize G[j] = x at *
                    have hxm2 := hGm x (List.mem_of_getElem? hg2)
                    have hgv := gI_val hxm2
                    have hst := over_step hov hg2 hxm2
                    generalize gI x = g at *
                    have hgx : x = (g.val : Int) := hgv.symm
                    clear hgv hov
                    ((repeat' ((conv => whnf);(first|refine zA ?_|(refine zI ?_ ?_<;> intro hh<;> first|(exfalso;omega)|skip)|(refine zl ?_ ?_<;> intro hh)|refine zq ?_|refine zv ?_|exact Sy.fin_val fun e=>rfl)));(all_goals (try conv => whnf)))
                    refine Sy.el_map x hg2 ?_
                    ((repeat' ((conv => whnf);(first|refine zA ?_|(refine zI ?_ ?_<;> intro hh<;> first|(exfalso;omega)|skip)|(refine zl ?_ ?_<;> intro hh)|refine zq ?_|refine zv ?_|exact Sy.fin_val fun e=>rfl)));(all_goals (try conv => whnf)))
                    induction g, x, hgx using fin8x
                    all_goals
                      refine Sy.yield_in Sy.tab_ok rfl rfl rfl rfl rfl (fun _ => ?_)
                      ((repeat' ((conv => whnf);(first|refine zA ?_|(refine zI ?_ ?_<;> intro hh<;> first|(exfalso;omega)|skip)|(refine zl ?_ ?_<;> intro hh)|refine zq ?_|refine zv ?_|exact Sy.fin_val fun e=>rfl)));(all_goals (try conv => whnf)))
                      refine ⟨(j + 1, _), ⟨by dsimp only; omega, hst⟩, by dsimp only; omega, ?_⟩
                      dsimp only
                      ((repeat' (first|((conv => whnf);done)|((try conv => whnf);first|exact trivial|(refine And.intro ?_ ?_)|rfl|exact fun _ _ _ h=>h|exact fun _ _ _ _=>trivial)));(all_goals (try conv => whnf)))
                  · have e : j = G.length := by omega
                    subst e
                    have hnew := hws r' hov
                    ((repeat' ((conv => whnf);(first|refine zA ?_|(refine zI ?_ ?_<;> intro hh<;> first|(exfalso;omega)|skip)|(refine zl ?_ ?_<;> intro hh)|refine zq ?_|refine zv ?_|exact Sy.fin_val fun e=>rfl)));(all_goals (try conv => whnf)))
                    refine ⟨(n + 1, r'), hnew, by dsimp only; omega, ?_⟩
                    dsimp only
                    rw [hnr]
                    ((repeat' (first|((conv => whnf);done)|((try conv => whnf);first|exact trivial|(refine And.intro ?_ ?_)|rfl|exact fun _ _ _ h=>h|exact fun _ _ _ _=>trivial)));(all_goals (try conv => whnf)))
            · have hE : wholeE (snsOf ls) = 281 := by
                unfold wholeE
                rw [if_pos hall, if_neg]
                intro h
                cases hL : snsOf ls with
                | nil => rw [hL] at hsn; cases hsn
                | cons t l =>
                  rw [hL] at h hs0 hsn hp
                  have ht : t = s0.sn := Option.some.inj hs0
                  have hnl := (List.getElem?_eq_some_iff.1 hsn).1
                  have h1 := h n hnl
                  rw [(List.getElem?_eq_some_iff.1 hsn).2, ht] at h1
                  exact hp h1
              have hV : wholeV (snsOf ls) = sn0 := by unfold wholeV; rw [hE]; rfl
              unfold partP at hp
              rw [hsl] at hp
              rw [hE, hV]
              ((repeat' ((conv => whnf);(first|refine zA ?_|(refine zI ?_ ?_<;> intro hh<;> first|(exfalso;omega)|skip)|(refine zl ?_ ?_<;> intro hh)|refine zq ?_|refine zv ?_|exact Sy.fin_val fun e=>rfl)));(all_goals (try conv => whnf)))
              all_goals first | (exfalso; omega) | exact Sy.fin_r2 (.v (.slice none 0 0)) (.v (.slice none 0 0)) ⟨rfl, rfl⟩ ⟨rfl, rfl⟩ (by decide) (fun e => rfl)
          · have e : n = (snsOf ls).length := by omega
            have hp0 := hx.part 0 s0.sn (by omega) hs0
            have hr0 := hall s0.sn (List.mem_of_getElem? hs0)
            have hlen3 : 1 ≤ (snsOf ls).length ∧ (snsOf ls).length ≤ 3 := by
              have hsh : shareP s0.sn.idx s0.sn.wid := by unfold rightP at hr0; exact hr0.2.1
              have := hp0.2.2
              unfold shareP at hsh
              omega
            rw [e] at hx
            obtain ⟨hps, hro⟩ := win_end hx hlen3 (fun s hs => by rw [hs0] at hs; rw [← Option.some.inj hs])
            rw [e, List.take_length, hro]
            have hE : wholeE (snsOf ls) = if namesB (txsW (snsOf ls)) = true then 0 else 281 := by
              unfold wholeE
              rw [if_pos hall, if_pos hps]
            ((repeat' ((conv => whnf);(first|refine zA ?_|(refine zI ?_ ?_<;> intro hh<;> first|(exfalso;omega)|skip)|(refine zl ?_ ?_<;> intro hh)|refine zq ?_|refine zv ?_|exact Sy.fin_val fun e=>rfl)));(all_goals (try conv => whnf)))
            refine Sy.call_val (.c (.v (.bool (namesB (txsW (snsOf ls)))))) Tryz.call24 rfl (fun e a w' h => named_any (e.rv 4) (txsW (snsOf ls)) w' (Sy.row_reads h (.inl ⟨_, rfl⟩))) ?_
            by_cases hnm : namesB (txsW (snsOf ls)) = true
            · rw [if_pos hnm] at hE
              have hV : wholeV (snsOf ls) = wholeS (snsOf ls) := if_pos hE
              have hop : (wholeS (snsOf ls)).op = s0.sn.op := by
                unfold wholeS
                cases hL : snsOf ls with
                | nil => rw [hL] at hs0; cases hs0
                | cons t l =>
                  rw [hL] at hs0
                  have ht : t = s0.sn := Option.some.inj hs0
                  show t.op = _
                  rw [ht]
              rw [hE, hV, hnm]
              ((repeat' ((conv => whnf);(first|refine zA ?_|(refine zI ?_ ?_<;> intro hh<;> first|(exfalso;omega)|skip)|(refine zl ?_ ?_<;> intro hh)|refine zq ?_|refine zv ?_|exact Sy.fin_val fun e=>rfl)));(all_goals (try conv => whnf)))
              exact Sy.fin_r2 (.row 3) (.row 4) rfl rfl (by decide) (fun e => by unfold retS; rw [hop]; rfl)
            · rw [if_neg hnm] at hE
              have hV : wholeV (snsOf ls) = sn0 := by unfold wholeV; rw [hE]; rfl
              rw [hE, hV, show namesB (txsW (snsOf ls)) = false by simpa using hnm]
              ((repeat' ((conv => whnf);(first|refine zA ?_|(refine zI ?_ ?_<;> intro hh<;> first|(exfalso;omega)|skip)|(refine zl ?_ ?_<;> intro hh)|refine zq ?_|refine zv ?_|exact Sy.fin_val fun e=>rfl)));(all_goals (try conv => whnf)))
              exact Sy.fin_r2 (.v (.slice none 0 0)) (.v (.slice none 0 0)) ⟨rfl, rfl⟩ ⟨rfl, rfl⟩ (by decide) (fun e => rfl)
end Go.Proofs.YtmahldelmbhjfaaGreat.Sn
