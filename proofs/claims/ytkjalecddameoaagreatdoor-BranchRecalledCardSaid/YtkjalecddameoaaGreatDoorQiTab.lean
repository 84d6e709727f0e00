/- Tables of the functions that the laws of plays call. -/
import Derived.Test.YtkjalecddameoaaGreatDoorQiRef
set_option linter.all false
namespace Go.Pv
open Go Go.RowKit Go.Proofs
set_option maxRecDepth 200000
set_option maxHeartbeats 8000000
def c21 : List PV → List Box → Option (PRes × List Box)
 | [], sg => some (.ret (.bool true), sg)
 | _, _ => none
theorem zOk_of {α : Type} {z : Z} {g : α → PV} {l : List α} (h : z = .n → l = []) : zOk z (l.map g) = true := by
 cases z with
 | n => rw [h rfl]; rfl
 | a => rfl
 | f => rfl
def c23 : List PV → List Box → Option (PRes × List Box)
 | [v], sg => match decSt v with
  | some s => some (.ret (playsR s), sg)
  | none => none
 | _, _ => none
theorem c23_ok : ConOk Tryz.prog 23 c23 := ConOk.of0 (ent Tryz.func23 rfl) fun args sg r sg' h => by
 unfold c23 at h
 split at h <;> try (cases h; done)
 split at h <;> cases h
 rename_i s h1
 obtain ⟨rfl, hok⟩ := decSt_inv h1
 exact ⟨_, rfl, rfl, by rw [ltBL_cons, ltB_st]; rfl, Plays_23 s hok⟩
def c56 : List PV → List Box → Option (PRes × List Box)
 | [v], sg => match decSt v with
  | some s => some (.ret (checkR s), sg)
  | none => none
 | _, _ => none
theorem c56_ok : ConOk Tryz.prog 56 c56 := ConOk.of0 (ent Tryz.func56 rfl) fun args sg r sg' h => by
 unfold c56 at h
 split at h <;> try (cases h; done)
 split at h <;> cases h
 rename_i s h1
 obtain ⟨rfl, hok⟩ := decSt_inv h1
 exact ⟨_, rfl, rfl, by rw [ltBL_cons, ltB_st]; rfl, Check_56 s hok⟩
def c26 : List PV → List Box → Option (PRes × List Box)
 | [v], sg => match decSt v with
  | some s => some (.ret (surelyR s), sg)
  | none => none
 | _, _ => none
theorem c26_ok : ConOk Tryz.prog 26 c26 := ConOk.of0 (ent Tryz.func26 rfl) fun args sg r sg' h => by
 unfold c26 at h
 split at h <;> try (cases h; done)
 split at h <;> cases h
 rename_i s h1
 obtain ⟨rfl, hok⟩ := decSt_inv h1
 exact ⟨_, rfl, rfl, by rw [ltBL_cons, ltB_st]; rfl, Surely_26 s hok⟩
def c24 : List PV → List Box → Option (PRes × List Box)
 | [v, w], sg => match decSt v, decIs1 w with
  | some s, some p => some (.ret (waysR s p), sg)
  | _, _ => none
 | _, _ => none
theorem c24_ok : ConOk Tryz.prog 24 c24 := ConOk.of0 (ent Tryz.func24 rfl) fun args sg r sg' h => by
 unfold c24 at h
 split at h <;> try (cases h; done)
 split at h <;> cases h
 rename_i s p h1 h2
 obtain ⟨rfl, hok⟩ := decSt_inv h1
 obtain ⟨z, rfl, hz⟩ := decIs1_inv h2
 exact ⟨_, rfl, rfl, by rw [ltBL_cons, ltB_st, ltBL_cons, ltB_isl]; rfl, Ways_24 s hok z p (zOk_of hz)⟩
def c25 : List PV → List Box → Option (PRes × List Box)
 | [v, w], sg => match decSt v, decIs1 w with
  | some s, some p => some (.ret (rulesR s p), sg)
  | _, _ => none
 | _, _ => none
theorem c25_ok : ConOk Tryz.prog 25 c25 := ConOk.of0 (ent Tryz.func25 rfl) fun args sg r sg' h => by
 unfold c25 at h
 split at h <;> try (cases h; done)
 split at h <;> cases h
 rename_i s p h1 h2
 obtain ⟨rfl, hok⟩ := decSt_inv h1
 obtain ⟨z, rfl, hz⟩ := decIs1_inv h2
 exact ⟨_, rfl, rfl, by rw [ltBL_cons, ltB_st, ltBL_cons, ltB_isl]; rfl, Rules_25 s hok z p (zOk_of hz)⟩
def c35 : List PV → List Box → Option (PRes × List Box)
 | [v, w], sg => match decSt v, decIs1 w with
  | some s, some p => if s.story = true ∧ p.length ≤ 100000 then some (.ret (ii ((ofB (ders s.e s.sc s.rl) p).length : Nat)), sg) else none
  | _, _ => none
 | _, _ => none
theorem c35_ok : ConOk Tryz.prog 35 c35 := ConOk.of0 (ent Tryz.func35 rfl) fun args sg r sg' h => by
 unfold c35 at h
 split at h <;> try (cases h; done)
 split at h <;> try (cases h; done)
 rename_i s p h1 h2
 split at h <;> cases h
 rename_i hc
 obtain ⟨rfl, hok⟩ := decSt_inv h1
 obtain ⟨z, rfl, hz⟩ := decIs1_inv h2
 exact ⟨_, rfl, rfl, by rw [ltBL_cons, ltB_st, ltBL_cons, ltB_isl]; rfl, RWays_35 s hok hc.1 z p (zOk_of hz) hc.2⟩
def c36 : List PV → List Box → Option (PRes × List Box)
 | [v, w], sg => match decSt v, decIs1 w with
  | some s, some p => if s.story = true ∧ p.length ≤ 100000 then some (.ret (rrulesR (ders s.e s.sc s.rl) p), sg) else none
  | _, _ => none
 | _, _ => none
theorem c36_ok : ConOk Tryz.prog 36 c36 := ConOk.of0 (ent Tryz.func36 rfl) fun args sg r sg' h => by
 unfold c36 at h
 split at h <;> try (cases h; done)
 split at h <;> try (cases h; done)
 rename_i s p h1 h2
 split at h <;> cases h
 rename_i hc
 obtain ⟨rfl, hok⟩ := decSt_inv h1
 obtain ⟨z, rfl, hz⟩ := decIs1_inv h2
 exact ⟨_, rfl, rfl, by rw [ltBL_cons, ltB_st, ltBL_cons, ltB_isl]; rfl, RRules_36 s hok hc.1 z p (zOk_of hz) hc.2⟩
def c34 : List PV → List Box → Option (PRes × List Box)
 | [v, w, .int .i64 a], sg => match decSt v, decIs1 w with
  | some s, some p => if s.sc.length ≤ 1000 ∧ p.length ≤ 100000 then some (.ret (.bool (areB s.sc.length p a)), sg) else none
  | _, _ => none
 | _, _ => none
theorem c34_ok : ConOk Tryz.prog 34 c34 := ConOk.of0 (ent Tryz.func34 rfl) fun args sg r sg' h => by
 unfold c34 at h
 split at h <;> try (cases h; done)
 split at h <;> try (cases h; done)
 rename_i s p h1 h2
 split at h <;> cases h
 rename_i hc
 obtain ⟨rfl, hok⟩ := decSt_inv h1
 obtain ⟨z, rfl, hz⟩ := decIs1_inv h2
 exact ⟨_, rfl, rfl, by rw [ltBL_cons, ltB_st, ltBL_cons, ltB_isl]; rfl, List_34 s z p _ hz hc.2 hc.1⟩
def c33 : List PV → List Box → Option (PRes × List Box)
 | [v, w], sg => match decSt v, decSls w with
  | some s, some ps => if (1 ≤ s.sc.length ∧ s.sc.length ≤ 1000) ∧ decide (ps = []) = false ∧ ps.length ≤ 1000 ∧ (ps.all fun p => decide (p.length ≤ 1000)) = true then some (.ret (.sl .a ((wordsB s.sc.length ps).map ii)), sg) else none
  | _, _ => none
 | _, _ => none
theorem c33_ok : ConOk Tryz.prog 33 c33 := ConOk.of0 (ent Tryz.func33 rfl) fun args sg r sg' h => by
 unfold c33 at h
 split at h <;> try (cases h; done)
 split at h <;> try (cases h; done)
 rename_i s ps h1 h2
 split at h <;> cases h
 rename_i hc
 obtain ⟨rfl, hok⟩ := decSt_inv h1
 obtain ⟨z, rfl, hz⟩ := decSls_inv h2
 exact ⟨_, rfl, rfl, by rw [ltBL_cons, ltB_st, ltBL_cons, ltB_slxs]; rfl, RWords_33 s hc.1.1 hc.1.2 z ps hz (of_decide_eq_false hc.2.1) hc.2.2.1 fun p hp => of_decide_eq_true (List.all_eq_true.1 hc.2.2.2 p hp)⟩
theorem plays_all {s : Sty} (hst : s.story = true) (k : Nat) (hk : 10 ≤ k) : ((playsB s.e s.sc s.rl).all fun p => decide (p.length ≤ k)) = true := List.all_eq_true.2 fun p hp => decide_eq_true (by have := (Sty.story_ok hst).plays_fine p hp; omega)
end Go.Pv
