/- Job: maps whose keys are jobs. -/
import Derived.Test.YtbajgjbgkpcapaaEnc
import Derived.Test.YtbajgjbgkpcapaaSyH
import Derived.Test.YtbajgjbgkpcapaaAb
namespace Go.Proofs.Ytbajgjbgkpcapaa
open Go Go.RowKit
open Sy (C SV V1 Blk St XD Els)
set_option maxRecDepth 10000

structure Jb where
  s : Int
  f : Int
  m : Int
deriving DecidableEq
def encJ (a : Jb) : List Value := [.int .i64 a.s, .int .i64 a.f, .int .i64 a.m]
def keyJ (a : Jb) : Value := .agg #[.int .i64 a.s, .int .i64 a.f, .int .i64 a.m]
def eqB (a b : Jb) : Bool := a.s == b.s && (a.f == b.f && a.m == b.m)
theorem eqB_iff (a b : Jb) : eqB a b = decide (a = b) := by
  obtain ⟨a1, a2, a3⟩ := a
  obtain ⟨b1, b2, b3⟩ := b
  unfold eqB
  rw [Bool.eq_iff_iff]
  simp
theorem equal_job (a b : Jb) (w : World) : (Op.equal 23 (keyJ a) (keyJ b)).run Try.prog w = .ok (decide (a = b)) w := by
  rw [← eqB_iff]
  exact Sy.eqV_ok Sy.tab_ok 3 9997 23 (encJ a) (encJ b) (eqB a b) Sy.ti23 rfl rfl w
theorem check_job (a : Jb) (b : Bool) (w : World) : (Instr.checkKey b 10000 23 (keyJ a)).run Try.prog w = .ok () w := by
  have h1 : ∀ n t (v : Value) w, Try.prog.underlying t = some (.int .i64) → (Instr.checkKey b (n + 1) t v).run Try.prog w = .ok () w := fun n t v w hu => by
    unfold Instr.checkKey
    simp [run_underlying hu]
  have hp : ∀ (o : Nat) (v : Value) w, o + 1 ≤ 3 → ([.int .i64 a.s, .int .i64 a.f, .int .i64 a.m] : List Value)[o]? = some v → (part 3 #[.int .i64 a.s, .int .i64 a.f, .int .i64 a.m] o).run Try.prog w = .ok v w := fun o v w ho hv => by
    obtain ⟨_, j, hj, _, hs, _⟩ := Sy.TabOk.get Sy.tab_ok (show Sy.get Sy.tab 3 = some Sy.ti3 from rfl)
    have hs1 : j.size = 1 := hs
    have := Sy.run_part (P := Try.prog) (t := 3) (xs := [.int .i64 a.s, .int .i64 a.f, .int .i64 a.m]) (o := o) Try.underlying3 hj (fun _ => hs1) (by rw [hs1]; exact ho) w
    rw [this, hs1]
    have hl : (([.int .i64 a.s, .int .i64 a.f, .int .i64 a.m] : List Value).drop o).take 1 = [v] := by
      obtain ⟨h1, h2⟩ := List.getElem?_eq_some_iff.1 hv
      rw [List.drop_eq_getElem_cons h1, h2]; rfl
    rw [hl]; rfl
  show (Instr.checkKey b (9999 + 1) 23 (keyJ a)).run Try.prog w = .ok () w
  unfold Instr.checkKey
  have h2 : ∀ v w, (Instr.checkKey b 9999 3 v).run Try.prog w = .ok () w := fun v w => h1 9998 _ _ _ Try.underlying3
  simp [run_underlying Try.underlying23, keyJ, hp 0 (.int .i64 a.s) _ (by decide) rfl, hp 1 (.int .i64 a.f) _ (by decide) rfl, hp 2 (.int .i64 a.m) _ (by decide) rfl, h2]
/-- Entries at jobs. -/
def mpJ (l : List Jb) : List (Value × Value) := l.map fun j => (keyJ j, .bool true)
theorem find_job (l : List Jb) (x : Jb) : Sy.FindIs Try.prog 23 (keyJ x) (mpJ l) ((l.findIdx? (fun z => decide (x = z))).map fun i => (i, .bool true)) := by
  refine ⟨fun en hen w => ?_, fun i v hr => ?_⟩
  · have key : ∀ (l : List Jb) (en : List MapEntry) (j : Nat), en.map (fun z => (z.key, z.val)) = mpJ l → (Instr.findAsking 23 (keyJ x) en j).run Try.prog w = .ok ((l.findIdx? (fun z => decide (x = z))).map fun i => (j + i, .bool true)) w := by
      intro l
      induction l with
      | nil =>
        intro en j h
        cases en with
        | nil => simp [Instr.findAsking]
        | cons => simp [mpJ] at h
      | cons z l ih =>
        intro en j h
        cases en with
        | nil => simp [mpJ] at h
        | cons y en =>
          simp only [mpJ, List.map_cons, List.cons.injEq, Prod.mk.injEq] at h
          obtain ⟨⟨h1, h2⟩, h3⟩ := h
          have := ih en (j + 1) h3
          unfold Instr.findAsking
          rw [h1, h2]
          simp only [Sem.run_bind, equal_job, Result.andThen_ok]
          by_cases hz : x = z
          · simp [hz, List.findIdx?_cons]
          · simp only [hz, decide_false, Bool.false_eq_true, if_false, this, List.findIdx?_cons]
            cases l.findIdx? (fun z => decide (x = z)) with
            | none => rfl
            | some i => simp [Nat.add_assoc, Nat.add_comm 1 i]
    have h0 := key l en 0 hen
    cases en with
    | nil =>
      have : l = [] := by cases l with
        | nil => rfl
        | cons => simp [mpJ] at hen
      subst this
      simp [Instr.findKey, run_underlying Try.underlying23, Instr.findNow]
    | cons y en =>
      simp [Instr.findKey, run_underlying Try.underlying23, Instr.findNow, Instr.sameNow, h0]
  · obtain ⟨i', hf, he⟩ := Option.map_eq_some_iff.1 hr
    injection he with e1 e2
    subst e1 e2
    obtain ⟨h1, h2, _⟩ := List.findIdx?_eq_some_iff_getElem.1 hf
    have h2 : x = l[i'] := of_decide_eq_true h2
    refine ⟨keyJ l[i'], by unfold mpJ; rw [List.getElem?_map, List.getElem?_eq_getElem h1]; rfl, ?_⟩
    rw [← h2]
    simp [keyJ, Instr.sameBits]
theorem j_hit {K : Option (Nat × Value) → Prop} {l : List Jb} {x : Jb} (hm : x ∈ l) (hk : ∀ i, l[i]? = some x → K (some (i, .bool true))) : Sy.findP Try.prog 23 (keyJ x) (mpJ l) K := by
  have hs : (l.findIdx? (fun z => decide (x = z))).isSome := by
    rw [List.findIdx?_isSome, List.any_eq_true]
    exact ⟨x, hm, decide_eq_true rfl⟩
  obtain ⟨i, hi⟩ := Option.isSome_iff_exists.1 hs
  obtain ⟨h1, h2, _⟩ := List.findIdx?_eq_some_iff_getElem.1 hi
  have h2 : x = l[i] := of_decide_eq_true h2
  have hf := find_job l x
  rw [hi] at hf
  exact ⟨_, fun b w => check_job x b w, hf, hk i (by rw [List.getElem?_eq_getElem h1, h2])⟩
theorem j_miss {K : Option (Nat × Value) → Prop} {l : List Jb} {x : Jb} (hm : x ∉ l) (hk : K none) : Sy.findP Try.prog 23 (keyJ x) (mpJ l) K := by
  have hf := find_job l x
  have hn : l.findIdx? (fun z => decide (x = z)) = none := List.findIdx?_eq_none_iff.2 fun z hz => decide_eq_false fun e : x = z => hm (by rw [e]; exact hz)
  rw [hn] at hf
  exact ⟨_, fun b w => check_job x b w, hf, hk⟩
theorem j_miss0 {K : Option (Nat × Value) → Prop} {x : Jb} (hk : K none) : Sy.findP Try.prog 23 (keyJ x) [] K := j_miss (l := []) (fun h => by cases h) hk
theorem mpJ_first (x : Jb) : Sy.setEs [] (keyJ x) (.bool true) none = mpJ [x] := rfl
theorem mpJ_len (l : List Jb) : (mpJ l).length = l.length := by unfold mpJ; rw [List.length_map]
theorem mpJ_add (l : List Jb) (x : Jb) : Sy.setEs (mpJ l) (keyJ x) (.bool true) none = mpJ (l ++ [x]) := by
  unfold mpJ Sy.setEs; rw [List.map_append]; rfl
theorem mpJ_at {l : List Jb} {i : Nat} {kv v : Value} (h : (mpJ l)[i]? = some (kv, v)) : ∃ c, l[i]? = some c ∧ kv = keyJ c ∧ v = .bool true := by
  unfold mpJ at h
  rw [List.getElem?_map] at h
  obtain ⟨c, hc, he⟩ := Option.map_eq_some_iff.1 h
  exact ⟨c, hc, (congrArg Prod.fst he).symm, (congrArg Prod.snd he).symm⟩
/-- What a range over such a map comes to. -/
theorem ent_job {H : List (Nat × Blk)} {g : Nat} {st : List Nat} {cl : Nat} {i : Nat} {K : Sy.V1 → Value → Prop} (j : Nat) (l : List Jb) (hH : Sy.get H j = some (.mp (mpJ l) (Sy.itQ g st cl))) (hk : ∀ c, l[i]? = some c → K (.agg [.v (.int .i64 c.s), .v (.int .i64 c.f), .v (.int .i64 c.m)]) (.bool true)) : Sy.entP H g st cl i K :=
  ⟨j, mpJ l, hH, fun kv v hz => by
    obtain ⟨c, hc, rfl, rfl⟩ := mpJ_at hz
    exact ⟨.agg [.v (.int .i64 c.s), .v (.int .i64 c.f), .v (.int .i64 c.m)], fun _ => rfl, fun _ => rfl, hk c hc⟩⟩
theorem nxt_job {H : List (Nat × Blk)} {g : Nat} {st : List Nat} {cl : Nat} {left : List Nat} {K : Option (Nat × Sy.V1 × Value) → Prop} (j : Nat) (l : List Jb) (hH : Sy.get H j = some (.mp (mpJ l) (Sy.itQ g st cl))) (h0 : left = [] → K none)
    (hk : ∀ (i : Nat) (c : Jb), i ∈ left → l[i]? = some c → K (some (i, .agg [.v (.int .i64 c.s), .v (.int .i64 c.f), .v (.int .i64 c.m)], .bool true))) : Sy.nxtP H g st cl left K :=
  ⟨j, mpJ l, hH, h0, fun i kv v hi hz => by
    obtain ⟨c, hc, rfl, rfl⟩ := mpJ_at hz
    exact ⟨.agg [.v (.int .i64 c.s), .v (.int .i64 c.f), .v (.int .i64 c.m)], fun _ => rfl, fun _ => rfl, hk i c hi hc⟩⟩
end Go.Proofs.Ytbajgjbgkpcapaa
