/- Snap: bytes lead back, as plain Lean. -/
import Derived.Test.YtgkkpefpbfadoaaGreatAk42
namespace Go.Proofs.YtgkkpefpbfadoaaGreat.Sn
set_option maxRecDepth 10000
def InK (x : Kc) : Prop := (-9223372036854775808 ≤ x.cnt ∧ x.cnt ≤ 9223372036854775807) ∧ (-9223372036854775808 ≤ x.sum ∧ x.sum ≤ 9223372036854775807)
theorem num_beN : ∀ (n : Nat) {x : Int}, 0 ≤ x ∧ x < 256 ^ n → num (beN x n) = x
 |0, x, h => by
  have : x < 1 := h.2
  have e : x = 0 := by omega
  subst e; rfl
 |n + 1, x, h => by
  rw [beN_succ x h.1, num_snoc]
  have e : x.fdiv 256 = x / 256 := Int.fdiv_eq_ediv_of_nonneg _ (by decide)
  have h2 := h.2
  rw [Int.pow_succ] at h2
  rw [e, num_beN n ⟨by omega, by omega⟩, b8_eq]
  omega
theorem i64_u64 {x : Int} (h : -9223372036854775808 ≤ x ∧ x ≤ 9223372036854775807) : IntKind.i64.wrap (u64w x) = x ∧ 0 ≤ u64w x ∧ u64w x < 256 ^ 8 := by
 have e : (256 : Int) ^ 8 = 18446744073709551616 := by decide
 rw [e]
 unfold u64w
 rw [IntKind.wrap_i64, IntKind.wrap_u64]
 omega
theorem take_app {α : Type} {a b : List α} {n : Nat} (h : a.length = n) : (a ++ b).take n = a := by rw [← h, List.take_left']; rfl
theorem drop_app {α : Type} {a b : List α} {n : Nat} (h : a.length = n) : (a ++ b).drop n = b := by rw [← h, List.drop_left']; rfl
theorem num_one {x : Int} (h : 0 ≤ x ∧ x < 256) : num [b8 x] = x := by
 rw [b8_of h]
 show 0 * 256 + x = x
 omega
theorem kOf_kBs {x : Kc} (h : recP x.src x.key) (hi : InK x) (r : List Int) : kOf (kBs x ++ r) = x := by
 unfold recP at h
 have e1 := i64_u64 hi.1
 have e2 := i64_u64 hi.2
 have l1 := beN_len (u64w x.cnt) 8
 have l2 := beN_len (u64w x.sum) 8
 have s0 : kBs x ++ r = [b8 x.src] ++ ([b8 x.key] ++ (beN (u64w x.cnt) 8 ++ (beN (u64w x.sum) 8 ++ r))) := by unfold kBs; simp
 have d1 : (kBs x ++ r).drop 1 = [b8 x.key] ++ (beN (u64w x.cnt) 8 ++ (beN (u64w x.sum) 8 ++ r)) := by rw [s0]; rfl
 have d2 : (kBs x ++ r).drop 2 = beN (u64w x.cnt) 8 ++ (beN (u64w x.sum) 8 ++ r) := by rw [s0]; rfl
 have d10 : (kBs x ++ r).drop 10 = beN (u64w x.sum) 8 ++ r := by
  rw [show 10 = 2 + 8 from rfl, ← List.drop_drop, d2, drop_app l1]
 unfold kOf
 rw [d1, d2, d10, take_app l1, take_app l2, num_beN 8 e1.2, num_beN 8 e2.2, e1.1, e2.1, s0, take_app (n := 1) (a := [b8 x.src]) rfl, take_app (n := 1) (a := [b8 x.key]) rfl, num_one (by omega), num_one (by omega)]
theorem nOf_nBs {x : Tx} (h : okN x) (r : List Int) : nOf (nBs x ++ r) = x := by
 unfold okN at h
 have l1 := beN_len x.att 4
 have l2 := beN_len x.ser 4
 have e : (256 : Int) ^ 4 = 4294967296 := by decide
 have s0 : nBs x ++ r = [b8 x.sink] ++ (beN x.att 4 ++ (beN x.ser 4 ++ r)) := by unfold nBs; simp
 have d1 : (nBs x ++ r).drop 1 = beN x.att 4 ++ (beN x.ser 4 ++ r) := by rw [s0]; rfl
 have d5 : (nBs x ++ r).drop 5 = beN x.ser 4 ++ r := by
  rw [show 5 = 1 + 4 from rfl, ← List.drop_drop, d1, drop_app l1]
 unfold nOf
 rw [d1, d5, take_app l1, take_app l2, num_beN 4 (by rw [e]; omega), num_beN 4 (by rw [e]; omega), s0, take_app (n := 1) (a := [b8 x.sink]) rfl, num_one (by omega)]
theorem ksOf_flat {p : List Int} {o : Nat} (ho : p.length = o) : ∀ {l : List Kc}, (∀ x ∈ l, recP x.src x.key ∧ InK x) → ∀ r, ksOf (p ++ ((l.map kBs).flatten ++ r)) o l.length = l := by
 intro l
 induction l using snoc_ind with
 | h0 => intro _ _; unfold ksOf; rfl
 |h l x ih =>
  intro h r
  have hx := h x (List.mem_append_right _ (List.mem_singleton.2 rfl))
  have hl : ∀ y ∈ l, recP y.src y.key ∧ InK y := fun y hy => h y (List.mem_append_left _ hy)
  have hlen : ∀ l : List Kc, ((l.map kBs).flatten).length = 18 * l.length := fun l => by
   induction l with
   | nil => rfl
   | cons y l ih => rw [List.map_cons, List.flatten_cons, List.length_append, kBs_len, ih, List.length_cons]; omega
  have e : p ++ (((l ++ [x]).map kBs).flatten ++ r) = p ++ ((l.map kBs).flatten ++ (kBs x ++ r)) := by
   rw [List.map_append, List.flatten_append]; simp
  rw [e, List.length_append, List.length_singleton, ksOf_succ, ih hl]
  congr 2
  rw [← List.append_assoc, drop_app (by rw [List.length_append, ho, hlen])]
  exact kOf_kBs hx.1 hx.2 r
theorem nsOf_flat {p : List Int} {o : Nat} (ho : p.length = o) : ∀ {l : List Tx}, (∀ x ∈ l, okN x) → ∀ r, nsOf (p ++ ((l.map nBs).flatten ++ r)) o l.length = l := by
 intro l
 induction l using snoc_ind with
 | h0 => intro _ _; unfold nsOf; rfl
 |h l x ih =>
  intro h r
  have hx := h x (List.mem_append_right _ (List.mem_singleton.2 rfl))
  have hl : ∀ y ∈ l, okN y := fun y hy => h y (List.mem_append_left _ hy)
  have hlen : ∀ l : List Tx, ((l.map nBs).flatten).length = 9 * l.length := fun l => by
   induction l with
   | nil => rfl
   | cons y l ih => rw [List.map_cons, List.flatten_cons, List.length_append, nBs_len, ih, List.length_cons]; omega
  have e : p ++ (((l ++ [x]).map nBs).flatten ++ r) = p ++ ((l.map nBs).flatten ++ (nBs x ++ r)) := by
   rw [List.map_append, List.flatten_append]; simp
  rw [e, List.length_append, List.length_singleton, nsOf_succ, ih hl]
  congr 2
  rw [← List.append_assoc, drop_app (by rw [List.length_append, ho, hlen])]
  exact nOf_nBs hx r
theorem numAt_app {p q r : List Int} {o n : Nat} (ho : p.length = o) (hq : q.length = n) : numAt (p ++ (q ++ r)) o n = num q := by
 unfold numAt
 rw [drop_app ho, take_app hq]
theorem back {s : Sn} (h : rightP s) (hi : ∀ x ∈ s.rows, InK x) : endS (sBs s) = 6 + 18 * s.rows.length ∧ ntx (sBs s) = s.txs.length ∧ snOf (sBs s) = s ∧ numAt (sBs s) 3 1 ≤ 1 := by
 obtain ⟨hop, hsh, htb, hnm, _, hoff⟩ := h
 have hln := rows_len (tbl_rows htb)
 have hlt := names_len hnm
 unfold shareP at hsh
 have hrec := fun x hx => (tbl_rows htb).1 x hx
 have htx : ∀ x ∈ s.txs, okN x := fun x hx => of_decide_eq_true (chain_ok (show chain okT ltT none s.txs = true by unfold namesB at hnm; simp only [Bool.and_eq_true] at hnm; exact hnm.1) x hx)
 have e2 : (256 : Int) ^ 2 = 65536 := by decide
 obtain ⟨K, hK⟩ : ∃ K, K = (s.rows.map kBs).flatten := ⟨_, rfl⟩
 obtain ⟨T, hT⟩ : ∃ T, T = (s.txs.map nBs).flatten := ⟨_, rfl⟩
 have hKl : K.length = 18 * s.rows.length := by
  have := tN_len s.rows s.rows.length (Nat.le_refl _)
  unfold tN at this
  rw [List.take_length, ← hK, List.length_append, beN_len] at this
  omega
 have hb : sBs s = [b8 s.op] ++ ([b8 s.idx] ++ ([b8 s.wid] ++ ([if s.fin = true then 1 else 0] ++ (beN s.rows.length 2 ++ (K ++ (oN s.offs 8 ++ ([b8 s.txs.length] ++ T))))))) := by
  unfold sBs sN hBs tBs tN
  rw [List.take_length, List.take_length, ← hK, ← hT]
  simp
 have l2 := beN_len (s.rows.length : Int) 2
 have l8 := oN_len s.offs 8
 have c4 : cntAt (sBs s) 4 = s.rows.length := by
  unfold cntAt
  rw [show sBs s = ([b8 s.op] ++ ([b8 s.idx] ++ ([b8 s.wid] ++ [if s.fin = true then 1 else 0]))) ++ (beN s.rows.length 2 ++ (K ++ (oN s.offs 8 ++ ([b8 s.txs.length] ++ T)))) by rw [hb]; simp, numAt_app (o := 4) (n := 2) rfl l2, num_beN 2 ⟨by omega, by rw [e2]; omega⟩]
  omega
 have hend : endS (sBs s) = 6 + 18 * s.rows.length := by unfold endS; rw [c4]
 have n3 : numAt (sBs s) 3 1 = if s.fin = true then 1 else 0 := by
  rw [show sBs s = ([b8 s.op] ++ ([b8 s.idx] ++ [b8 s.wid])) ++ ([if s.fin = true then 1 else 0] ++ (beN s.rows.length 2 ++ (K ++ (oN s.offs 8 ++ ([b8 s.txs.length] ++ T))))) by rw [hb]; simp, numAt_app (o := 3) (n := 1) rfl rfl]
  show 0 * 256 + _ = _
  omega
 have P1 : sBs s = ([b8 s.op] ++ ([b8 s.idx] ++ ([b8 s.wid] ++ ([if s.fin = true then 1 else 0] ++ (beN s.rows.length 2 ++ K))))) ++ (oN s.offs 8 ++ ([b8 s.txs.length] ++ T)) := by rw [hb]; simp
 have P1l : ([b8 s.op] ++ ([b8 s.idx] ++ ([b8 s.wid] ++ ([if s.fin = true then 1 else 0] ++ (beN s.rows.length 2 ++ K))))).length = 6 + 18 * s.rows.length := by
  simp only [List.length_append, List.length_cons, List.length_nil, l2, hKl]; omega
 have P2 : sBs s = ([b8 s.op] ++ ([b8 s.idx] ++ ([b8 s.wid] ++ ([if s.fin = true then 1 else 0] ++ (beN s.rows.length 2 ++ (K ++ oN s.offs 8)))))) ++ ([b8 s.txs.length] ++ T) := by rw [hb]; simp
 have P2l : ([b8 s.op] ++ ([b8 s.idx] ++ ([b8 s.wid] ++ ([if s.fin = true then 1 else 0] ++ (beN s.rows.length 2 ++ (K ++ oN s.offs 8)))))).length = 6 + 18 * s.rows.length + 8 := by
  simp only [List.length_append, List.length_cons, List.length_nil, l2, hKl, l8]; omega
 have hnt : ntx (sBs s) = s.txs.length := by
  unfold ntx
  rw [hend]
  have := numAt_app (q := [b8 s.txs.length]) (r := T) (n := 1) P2l rfl
  rw [← P2, num_one (by omega)] at this
  rw [this]; omega
 have n0 : numAt (sBs s) 0 1 = s.op := by
  rw [hb, show ([b8 s.op] ++ ([b8 s.idx] ++ ([b8 s.wid] ++ ([if s.fin = true then 1 else 0] ++ (beN s.rows.length 2 ++ (K ++ (oN s.offs 8 ++ ([b8 s.txs.length] ++ T)))))))) = [] ++ ([b8 s.op] ++ ([b8 s.idx] ++ ([b8 s.wid] ++ ([if s.fin = true then 1 else 0] ++ (beN s.rows.length 2 ++ (K ++ (oN s.offs 8 ++ ([b8 s.txs.length] ++ T)))))))) from rfl, numAt_app (o := 0) (n := 1) rfl rfl, num_one (by omega)]
 have n1 : numAt (sBs s) 1 1 = s.idx := by rw [hb, numAt_app (o := 1) (n := 1) rfl rfl, num_one (by omega)]
 have n2 : numAt (sBs s) 2 1 = s.wid := by
  rw [show sBs s = ([b8 s.op] ++ [b8 s.idx]) ++ ([b8 s.wid] ++ ([if s.fin = true then 1 else 0] ++ (beN s.rows.length 2 ++ (K ++ (oN s.offs 8 ++ ([b8 s.txs.length] ++ T)))))) by rw [hb]; simp, numAt_app (o := 2) (n := 1) rfl rfl, num_one (by omega)]
 have hks : ksOf (sBs s) 6 s.rows.length = s.rows := by
  rw [show sBs s = ([b8 s.op] ++ ([b8 s.idx] ++ ([b8 s.wid] ++ ([if s.fin = true then 1 else 0] ++ beN s.rows.length 2)))) ++ (K ++ (oN s.offs 8 ++ ([b8 s.txs.length] ++ T))) by rw [hb]; simp, hK]
  exact ksOf_flat (by simp only [List.length_append, List.length_cons, List.length_nil, l2]) (fun x hx => ⟨(hrec x hx).1, hi x hx⟩) _
 have hns : nsOf (sBs s) (6 + 18 * s.rows.length + 9) s.txs.length = s.txs := by
  have P3 : sBs s = (([b8 s.op] ++ ([b8 s.idx] ++ ([b8 s.wid] ++ ([if s.fin = true then 1 else 0] ++ (beN s.rows.length 2 ++ (K ++ oN s.offs 8)))))) ++ [b8 s.txs.length]) ++ (T ++ []) := by rw [hb]; simp
  rw [P3, hT]
  exact nsOf_flat (by rw [List.length_append, P2l]; rfl) htx []
 have hof : (fun g : Fin 8 => numAt (sBs s) (6 + 18 * s.rows.length + g.val) 1) = s.offs := by
  funext g
  have hg : (oN s.offs 8)[g.val]? = some (b8 (s.offs g)) := by
   unfold oN
   rw [List.getElem?_map, List.getElem?_range g.isLt]
   show some (b8 (s.offs (gI (g.val : Int)))) = _
   rw [show gI (g.val : Int) = g from Fin.ext (by have := gI_val (x := (g.val : Int)) (by omega); omega)]
  have ho := hoff g
  unfold offP at ho
  rw [b8_of (by omega)] at hg
  refine numAt_one ?_
  rw [P1, List.getElem?_append_right (by rw [P1l]; omega), P1l, show 6 + 18 * s.rows.length + g.val - (6 + 18 * s.rows.length) = g.val by omega, List.getElem?_append_left (by rw [l8]; exact g.isLt)]
  exact hg
 refine ⟨hend, hnt, ?_, by rw [n3]; split <;> decide⟩
 rw [snOf_mk c4.symm hend hnt.symm, n0, n1, n2, n3, hks, hns, hof]
 cases s with
 | mk op idx wid fin rows offs txs => cases fin <;> rfl
theorem sBs_len (s : Sn) : (sBs s).length = 15 + 18 * s.rows.length + 9 * s.txs.length := sN_len s _ (Nat.le_refl _)
theorem back_dec {s : Sn} (h : rightP s) (hi : ∀ x ∈ s.rows, InK x) : sdE (sBs s) = 0 ∧ sdV (sBs s) = s := by
 obtain ⟨h1, h2, h3, h4⟩ := back h hi
 have hl := sBs_len s
 have hE : sdE (sBs s) = 0 := by
  unfold sdE
  rw [if_neg (by omega), h1, h2, if_neg (by omega), if_pos ⟨h4, by omega, by rw [h3]; exact h⟩]
 exact ⟨hE, by rw [sdV_pos hE, h3]⟩
end Go.Proofs.YtgkkpefpbfadoaaGreat.Sn
