/- Short names for the rules of the symbolic executor that every walk uses. -/
import Derived.Test.YtmahldelmbhjfaaGreatLive
import Derived.Test.YtmahldelmbhjfaaGreatSyF
namespace Go.Proofs.YtmahldelmbhjfaaGreat
open Go Sy
theorem z1 {A B : Prop} (h : A) : brP true A B := brT h
theorem z2 {A B : Prop} (h : B) : brP false A B := brF h
theorem z3 {b : Bool} {A B : Prop} (h : A) (e : b = true := by assumption) : brP b A B := br_pos e h
theorem z4 {b : Bool} {A B : Prop} (h : B) (e : b = false := by assumption) : brP b A B := br_neg e h
theorem z5 {b : Bool} {A B : Prop} (h : brP b B A) : brP (true != b) A B := br_bneT h
theorem z6 {b : Bool} {A B : Prop} (h : brP b A B) : brP (false != b) A B := br_bneF h
theorem z7 {b : Bool} {A B : Prop} (h : brP b B A) : brP (b != true) A B := br_bneT' h
theorem z8 {b : Bool} {A B : Prop} (h : brP b A B) : brP (b != false) A B := br_bneF' h
theorem z9 {b : Bool} {A B : Prop} (h : brP b B A) : brP (!b) A B := br_not h
theorem za {b c : Bool} {A B : Prop} (h : brP b (brP c A B) B) : brP (b && c) A B := br_and h
theorem zb {l : List UInt8} {A B : Prop} (h : A) : brP (l == l) A B := br_lself h
theorem zc {p : Prop} [Decidable p] {A B : Prop} (h : A) (hp : p := by assumption) : brP (decide p) A B := br_dT hp h
theorem zd {p : Prop} [Decidable p] {A B : Prop} (h : B) (hp : ¬ p := by assumption) : brP (decide p) A B := br_dF hp h
theorem ze {x y : Int} {A B : Prop} (h : A) (hp : x = y := by assumption) : brP (x == y) A B := br_eT hp h
theorem zf {x y : Int} {A B : Prop} (h : B) (hp : x ≠ y := by assumption) : brP (x == y) A B := br_eF hp h
theorem zg {x y : Int} {A B : Prop} (h : A) (hp : x ≠ y := by assumption) : brP (x != y) A B := br_nT hp h
theorem zh {x y : Int} {A B : Prop} (h : B) (hp : x = y := by assumption) : brP (x != y) A B := br_nF hp h
theorem zi {p : Prop} [Decidable p] {A B : Prop} (h : p → A) (h' : ¬ p → B) : brP (decide p) A B := br_dec h h'
theorem zj {x y : Int} {A B : Prop} (h : x = y → A) (h' : x ≠ y → B) : brP (x == y) A B := br_eq h h'
theorem zk {x y : Int} {A B : Prop} (h : x ≠ y → A) (h' : x = y → B) : brP (x != y) A B := br_ne h h'
theorem zl {b : Bool} {A B : Prop} (h : b = true → A) (h' : b = false → B) : brP b A B := br_split h h'
theorem zm {x : Int} {K : Int → Prop} (h : K x) (hx : -9223372036854775808 ≤ x ∧ x ≤ 9223372036854775807 := by omega) : arP .i64 x K := ar_in hx h
theorem zn {i n : Nat} {K : Nat → Prop} (h : K i) (h1 : i < n := by omega) : idxP (i : Int) n K := idx_nat h1 h
theorem zo {i : Int} {n : Nat} {K : Nat → Prop} (h : K i.toNat) (h0 : 0 ≤ i := by omega) (h1 : i < n := by omega) : idxP i n K := idx_in h0 h1 h
/-- One step of a walk that asks nothing. -/
theorem zA {G R : Prop} (h : R) (e : R → G := by first | exact Sy.brT | exact Sy.brF | exact Sy.br_pos (by assumption) | exact Sy.br_neg (by assumption) | exact Sy.br_bneT | exact Sy.br_bneF | exact Sy.br_bneT' | exact Sy.br_bneF' | exact Sy.br_not | exact Sy.br_and | exact Sy.br_lself | exact Sy.br_dT (by assumption) | exact Sy.br_dF (by assumption) | exact Sy.br_eT (by assumption) | exact Sy.br_eF (by assumption) | exact Sy.br_nT (by assumption) | exact Sy.br_nF (by assumption) | exact Sy.ar_in (by omega) | exact Sy.idx_nat (by omega) | exact Sy.idx_in (by omega) (by omega) | exact Sy.seq_go Sy.tab_ok | exact Sy.block_go Sy.tab_ok | exact Sy.cond_go Sy.tab_ok _ rfl) : G := e h
/-- One step of a walk that has two ways. -/
theorem zI {G R R' : Prop} (h : R) (h' : R') (e : R → R' → G := by first | exact Sy.br_dec | exact Sy.br_eq | exact Sy.br_ne) : G := e h h'
section
variable {X : Cx} {S : St} {x y p q : Code} {Q : Exit → St → Prop}
theorem zp (hx : semP X x S (then_ Q fun S' => xcode X y S' Q)) (hT : TabOk X.P X.T := by exact Sy.tab_ok) : semP X (.seq x y) S Q := seq_go hT hx
theorem zq {id : Nat} {ops : Array Oper} (hx : xops X id ops.toList ops.toList S fun S' => xcode X y S' Q) (hT : TabOk X.P X.T := by exact Sy.tab_ok) : cutP X (.region id ops false) y S Q := cut_go hT hx
theorem zv {id : Nat} {ops : Array Oper} (hx : semP X (.region id ops true) S (then_ Q fun S' => xcode X y S' Q)) (hT : TabOk X.P X.T := by exact Sy.tab_ok) : cutP X (.region id ops true) y S Q := cut_sem (seq_go hT hx)
theorem zr {id : Nat} (hp : xcode X p S (inBlk id Q)) (hT : TabOk X.P X.T := by exact Sy.tab_ok) : semP X (.block id p) S Q := block_go hT hp
theorem zs {c : Operand} (t : Bool) (hc : S.ev c = some (.c (.v (.bool t)))) (hb : brP t (xcode X p S Q) (xcode X q S Q)) (hT : TabOk X.P X.T := by exact Sy.tab_ok) : semP X (.cond c p q) S Q := cond_go hT t hc hb
theorem zu {v : Value} {K : St → SV → Prop} (h : K S (.c (.v v))) : openP X S v K := open_skip h
/-- One operation of a drawn region is taken: what it yields, it yields whenever it comes. -/
theorem zt {ops : List Oper} {n0 : Nat} {e0 : Env} {keep : List (Nat × Blk)} {fuel : Nat} {listed : Array Bool} {K : St → Prop} (i : Nat) {o : Oper} (hi : ops[i]? = some o)
    (hx : xvg X ops o (S.onlyH keep) fun v => St.force (S.put o.dst v) fun S' => drwP X ops n0 e0 keep fuel (listed.setIfInBounds i true) S' K)
    (hT : TabOk X.P X.T := by exact Sy.tab_ok) (hsel : (Region.noSelect ops.toArray && noDefer ops) = true := by kernel_rfl) (hf : Region.free .any ops.toArray listed i = true := by kernel_rfl) (hr : (Region.ready .any ops.toArray listed).contains i = true := by kernel_rfl) : drwP X ops n0 e0 keep (fuel + 1) listed S K :=
  drw_take hT i hi hsel hf hr hx
theorem zd1 {ops : List Oper} {n0 : Nat} {e0 : Env} {keep : List (Nat × Blk)} {fuel : Nat} {listed : Array Bool} {K : St → Prop} (rs : List Nat)
    (hx : AllR ops (fun i o => xguard (X.at n0 e0) ops o S fun S' => St.force S' fun S' => KeepL S'.H keep ∧ drwP X ops n0 e0 keep fuel (listed.setIfInBounds i true) S' K) rs)
    (hT : TabOk X.P X.T := by exact Sy.tab_ok) (hr : Region.ready .any ops.toArray listed = rs := by kernel_rfl) (hne : rs.isEmpty = false := by rfl) : drwP X ops n0 e0 keep (fuel + 1) listed S K :=
  drw_ready hT rs hr hne hx
theorem zw {ops : List Oper} {n0 : Nat} {e0 : Env} {keep : List (Nat × Blk)} {fuel : Nat} {listed : Array Bool} {K : St → Prop} (hk : K S) (hr : Region.ready .any ops.toArray listed = [] := by kernel_rfl) : drwP X ops n0 e0 keep fuel listed S K := drw_done hr hk
theorem zy {ops : List Oper} {p : Nat → Oper → Prop} : AllR ops p [] := allR_nil
theorem zx {ops : List Oper} {p : Nat → Oper → Prop} {i : Nat} {r : List Nat} {o : Oper} (ho : ops[i]? = some o) (h : p i o) (hr : AllR ops p r) : AllR ops p (i :: r) := allR_cons o ho h hr
end
end Go.Proofs.YtmahldelmbhjfaaGreat
