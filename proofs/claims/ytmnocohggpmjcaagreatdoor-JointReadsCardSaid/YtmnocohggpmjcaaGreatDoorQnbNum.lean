/- Contracts: sure, number, told, the program's. -/
import Derived.Laws.RangeAny
import Derived.Laws.RangeString
import Derived.Test.YtmnocohggpmjcaaGreatDoorQnaText
import Derived.Test.YtmnocohggpmjcaaGreatDoorQlDrw
import Derived.Test.YtmnocohggpmjcaaGreatDoorQlLoop
set_option linter.all false
namespace Go.Pv
open Go Go.RowKit Go.Proofs
set_option maxRecDepth 200000
set_option maxHeartbeats 8000000
theorem cpv_i32 (n : Int) (h1 : -2147483648 ≤ n) (h2 : n ≤ 2147483647) : cpv (.int .i32 n) = some (.int .i32 n) := by
  have hw : (Lit.int .i32 n).wf = true := by simp [Lit.wf, IntKind.min, IntKind.max, IntKind.signed, IntKind.bits]; omega
  simp [cpv, zpv, hw]
attribute [go_sem] nextC TyD.ifc cpv_i32
/-- A contract whose call leaves the boxes alone, or panics, out of the call where there are none. -/
theorem ConOk.of0P {P : Program} {f : FuncId} {c : List PV → List Box → Option (PRes × List Box)} (he : Enters P f) (h : ∀ args sg r sg', c args sg = some (r, sg') → sg' = sg ∧ ltBL 0 args = true ∧ CallOk P f args [] r []) : ConOk P f c := by
  intro args sg r sg' e
  obtain ⟨rfl, hl, hc⟩ := h args sg r sg' e
  cases r with
  | ret v => exact ⟨he, hc.frame (lt_of_ltBL 0 args hl) sg', SameLoops.refl _⟩
  | pan v => exact ⟨he, hc.framePan (lt_of_ltBL 0 args hl) sg', SameLoops.refl _⟩
/-- What is given up with. -/
def noneV (w : List UInt8) : PV := .iface 194 (.agg [.str w])
theorem sure_ok (w : List UInt8) : CallOk Tryz.prog 155 [.bool true, .str w] [] (.ret (.tuple [])) [] := by
  refine CallOk.of0 hTT Tryz.func155 rfl rfl ?_
  repeat (first | (with_reducible (first | apply wA | apply wB | apply wC | apply wD | apply wE | apply wF | apply wG | apply wH | apply wI | apply wJ | apply wK | apply wL | apply wM | apply wN | apply wO | apply wP | apply wQ rfl | apply wR | apply wS | apply wT | apply wU)) | ((with_reducible (first | apply wV | apply wW | apply wX | (apply wY [] hTT cf0_ok noM_ok mixed; (focus kernel_rfl)))); (focus (simp only [Tryz.f155, go_sem]; with_reducible rfl))) | (with_reducible refine wZ hTT cf0_ok noM_ok ?_) | (with_reducible refine wa ?_; refine And.intro ?_ ?_; (focus kernel_rfl)))
  exact ⟨rfl, rfl, _, rfl, rfl⟩
theorem sure_no (w : List UInt8) : CallOk Tryz.prog 155 [.bool false, .str w] [] (.pan (noneV w)) [] := by
  refine CallOk.ofPan Tryz.func155 rfl rfl ?_ (lt_of_closed (noneV w) rfl)
  repeat (first | (with_reducible (first | apply wA | apply wB | apply wC | apply wD | apply wE | apply wF | apply wG | apply wH | apply wI | apply wJ | apply wK | apply wL | apply wM | apply wN | apply wO | apply wP | apply wQ rfl | apply wR | apply wS | apply wT | apply wU)) | ((with_reducible (first | apply wV | apply wW | apply wX | (apply wY [] hTT cf0_ok noM_ok mixed; (focus kernel_rfl)))); (focus (simp only [Tryz.f155, go_sem]; with_reducible rfl))) | (with_reducible refine wZ hTT cf0_ok noM_ok ?_) | (with_reducible refine wa ?_; refine And.intro ?_ ?_; (focus kernel_rfl)))
  refine RegQ.stop (v := noneV w) (by simp only [go_sem]; rfl) ?_
  repeat (first | (with_reducible (first | apply wA | apply wB | apply wC | apply wD | apply wE | apply wF | apply wG | apply wH | apply wI | apply wJ | apply wK | apply wL | apply wM | apply wN | apply wO | apply wP | apply wQ rfl | apply wR | apply wS | apply wT | apply wU)) | ((with_reducible (first | apply wV | apply wW | apply wX | (apply wY [] hTT cf0_ok noM_ok mixed; (focus kernel_rfl)))); (focus (simp only [Tryz.f155, go_sem]; with_reducible rfl))) | (with_reducible refine wZ hTT cf0_ok noM_ok ?_) | (with_reducible refine wa ?_; refine And.intro ?_ ?_; (focus kernel_rfl)))
  exact ⟨rfl, rfl⟩
def sureR (b : Bool) (w : List UInt8) : PRes := if b = true then .ret (.tuple []) else .pan (noneV w)
def c155 : List PV → List Box → Option (PRes × List Box)
  | [.bool b, .str w], sg => some (sureR b w, sg)
  | _, _ => none
theorem c155_ok : ConOk Tryz.prog 155 c155 := ConOk.of0P (ent Tryz.func155 rfl) fun args sg r sg' h => by
  unfold c155 at h
  split at h <;> cases h
  rename_i b w
  refine ⟨rfl, rfl, ?_⟩
  unfold sureR
  cases b
  · exact sure_no _
  · exact sure_ok _
theorem HasPrefix_221 (w : List UInt8) (hw : w.length ≤ 100000) : CallOk Tryz.prog 221 [.str w, .str [45]] [] (.ret (.bool (negW w))) [] := by
  refine CallOk.of0 hTT Tryz.func221 rfl rfl ?_
  cases hw0 : w.head? with
  | none =>
    obtain rfl : w = [] := List.head?_eq_none_iff.1 hw0
    have h01 : ¬ (1 : Int) ≤ ((0 : Nat) : Int) := by decide
    repeat (first | (with_reducible (first | apply wA | apply wB | apply wC | apply wD | apply wE | apply wF | apply wG | apply wH | apply wI | apply wJ | apply wK | apply wL | apply wM | apply wN | apply wO | apply wP | apply wQ rfl | apply wR | apply wS | apply wT | apply wU)) | ((with_reducible (first | apply wV | apply wW | apply wX | (apply wY [] hTT cf0_ok noM_ok mixed; (focus kernel_rfl)))); (focus (simp only [Tryz.f221, ge_iff_le, h01, List.length_nil, go_sem]; with_reducible rfl))) | (with_reducible refine wZ hTT cf0_ok noM_ok ?_) | (with_reducible refine wa ?_; refine And.intro ?_ ?_; (focus kernel_rfl)))
    exact ⟨rfl, rfl, _, rfl, rfl⟩
  | some b =>
  have hlen : 1 ≤ w.length := by cases w with | nil => cases hw0 | cons => simp
  have hl1 : (1 : Int) ≤ (w.length : Nat) := by omega
  have hsl : w.take 1 = [b] := by
    cases w with
    | nil => cases hw0
    | cons x r => cases hw0; rfl
  have hn : negW w = (([b] : List UInt8) == [45]) := by
    unfold negW
    rw [hw0]
    by_cases hb : b = 45
    · subst hb; rfl
    · rw [Bool.eq_iff_iff]; simp [hb]
  rw [hn]
  repeat (first | (with_reducible (first | apply wA | apply wB | apply wC | apply wD | apply wE | apply wF | apply wG | apply wH | apply wI | apply wJ | apply wK | apply wL | apply wM | apply wN | apply wO | apply wP | apply wQ rfl | apply wR | apply wS | apply wT | apply wU)) | ((with_reducible (first | apply wV | apply wW | apply wX | (apply wY [] hTT cf0_ok noM_ok mixed; (focus kernel_rfl)))); (focus (simp only [Tryz.f221, hl1, hsl, ge_iff_le, go_sem]; with_reducible rfl))) | (with_reducible refine wZ hTT cf0_ok noM_ok ?_) | (with_reducible refine wa ?_; refine And.intro ?_ ?_; (focus kernel_rfl)))
  exact ⟨rfl, rfl, _, rfl, rfl⟩
def c221 : List PV → List Box → Option (PRes × List Box)
  | [.str w, .str p], sg => if p = [45] ∧ w.length ≤ 100000 then some (.ret (.bool (negW w)), sg) else none
  | _, _ => none
theorem c221_ok : ConOk Tryz.prog 221 c221 := ConOk.of0 (ent Tryz.func221 rfl) fun args sg r sg' h => by
  unfold c221 at h
  split at h <;> try (cases h; done)
  split at h <;> cases h
  rename_i hc
  obtain ⟨rfl, hc⟩ := hc
  exact ⟨_, rfl, rfl, rfl, HasPrefix_221 _ hc⟩
def cfNg1 : CallF := cfAdd cf0 221 c221
theorem cfNg1_ok : CallFOk Tryz.prog cfNg1 := cfAdd_ok cf0_ok c221_ok
theorem tail_cut {α : Type} (w : List α) : (w.drop 1).take (w.length - 1) = w.tail := by
  rw [List.take_of_length_le (by simp), List.drop_one]
theorem neg_len {w : List UInt8} (h : negW w = true) : 1 ≤ w.length := by
  unfold negW at h
  cases w with
  | nil => cases h
  | cons => simp
theorem TrimPrefix_210 (w : List UInt8) (hw : w.length ≤ 100000) : CallOk Tryz.prog 210 [.str w, .str [45]] [] (.ret (.str (magW w))) [] := by
  refine CallOk.of0 hTT Tryz.func210 rfl rfl ?_
  unfold magW
  cases hn : negW w
  · rw [if_neg (by simp)]
    repeat (first | (with_reducible (first | apply wA | apply wB | apply wC | apply wD | apply wE | apply wF | apply wG | apply wH | apply wI | apply wJ | apply wK | apply wL | apply wM | apply wN | apply wO | apply wP | apply wQ rfl | apply wR | apply wS | apply wT | apply wU)) | ((with_reducible (first | apply wV | apply wW | apply wX | (apply wY [] hTT cfNg1_ok noM_ok mixed; (focus kernel_rfl)))); (focus (simp only [Tryz.f210, cfNg1, c221, hn, hw, go_sem]; with_reducible rfl))) | (with_reducible refine wZ hTT cfNg1_ok noM_ok ?_) | (with_reducible refine wa ?_; refine And.intro ?_ ?_; (focus kernel_rfl)))
    exact ⟨rfl, rfl, _, rfl, rfl⟩
  · have hl := neg_len hn
    have hl1 : (1 : Int) ≤ (w.length : Nat) := by omega
    have hsl := tail_cut w
    rw [if_pos rfl, ← hsl]
    repeat (first | (with_reducible (first | apply wA | apply wB | apply wC | apply wD | apply wE | apply wF | apply wG | apply wH | apply wI | apply wJ | apply wK | apply wL | apply wM | apply wN | apply wO | apply wP | apply wQ rfl | apply wR | apply wS | apply wT | apply wU)) | ((with_reducible (first | apply wV | apply wW | apply wX | (apply wY [] hTT cfNg1_ok noM_ok mixed; (focus kernel_rfl)))); (focus (simp only [Tryz.f210, cfNg1, c221, hn, hw, hl1, go_sem]; with_reducible rfl))) | (with_reducible refine wZ hTT cfNg1_ok noM_ok ?_) | (with_reducible refine wa ?_; refine And.intro ?_ ?_; (focus kernel_rfl)))
    exact ⟨rfl, rfl, _, rfl, rfl⟩
def c210 : List PV → List Box → Option (PRes × List Box)
  | [.str w, .str p], sg => if p = [45] ∧ w.length ≤ 100000 then some (.ret (.str (magW w)), sg) else none
  | _, _ => none
theorem c210_ok : ConOk Tryz.prog 210 c210 := ConOk.of0 (ent Tryz.func210 rfl) fun args sg r sg' h => by
  unfold c210 at h
  split at h <;> try (cases h; done)
  split at h <;> cases h
  rename_i hc
  obtain ⟨rfl, hc⟩ := hc
  exact ⟨_, rfl, rfl, rfl, TrimPrefix_210 _ hc⟩
def cfNg2 : CallF := cfAdd cf0 210 c210
theorem cfNg2_ok : CallFOk Tryz.prog cfNg2 := cfAdd_ok cf0_ok c210_ok
theorem TrimPrefix_194 (w : List UInt8) (hw : w.length ≤ 100000) : CallOk Tryz.prog 194 [.str w, .str [45]] [] (.ret (.str (magW w))) [] := by
  refine CallOk.of0 hTT Tryz.func194 rfl rfl ?_
  repeat (first | (with_reducible (first | apply wA | apply wB | apply wC | apply wD | apply wE | apply wF | apply wG | apply wH | apply wI | apply wJ | apply wK | apply wL | apply wM | apply wN | apply wO | apply wP | apply wQ rfl | apply wR | apply wS | apply wT | apply wU)) | ((with_reducible (first | apply wV | apply wW | apply wX | (apply wY [] hTT cfNg2_ok noM_ok mixed; (focus kernel_rfl)))); (focus (simp only [Tryz.f194, cfNg2, c210, hw, go_sem]; with_reducible rfl))) | (with_reducible refine wZ hTT cfNg2_ok noM_ok ?_) | (with_reducible refine wa ?_; refine And.intro ?_ ?_; (focus kernel_rfl)))
  exact ⟨rfl, rfl, _, rfl, rfl⟩
def c194 : List PV → List Box → Option (PRes × List Box)
  | [.str w, .str p], sg => if p = [45] ∧ w.length ≤ 100000 then some (.ret (.str (magW w)), sg) else none
  | _, _ => none
theorem c194_ok : ConOk Tryz.prog 194 c194 := ConOk.of0 (ent Tryz.func194 rfl) fun args sg r sg' h => by
  unfold c194 at h
  split at h <;> try (cases h; done)
  split at h <;> cases h
  rename_i hc
  obtain ⟨rfl, hc⟩ := hc
  exact ⟨_, rfl, rfl, rfl, TrimPrefix_194 _ hc⟩
theorem dec_dig {m : List UInt8} {i : Nat} {b : UInt8} (hb : m[i]? = some b) : (isDig b = true → Utf8.decode ⟨m.toArray⟩ i = (b.toNat, 1)) ∧ (((48 : Int) ≤ ((Utf8.decode ⟨m.toArray⟩ i).1 : Nat) ∧ (((Utf8.decode ⟨m.toArray⟩ i).1 : Nat) : Int) ≤ 57) ↔ isDig b = true) ∧ (Utf8.decode ⟨m.toArray⟩ i).1 ≤ 2147483647 := by
  have hlt := (List.getElem?_eq_some_iff.1 hb).1
  have hs : i < (⟨m.toArray⟩ : ByteArray).size := by simpa [ByteArray.size] using hlt
  have hg : (⟨m.toArray⟩ : ByteArray)[i]'hs = b := by
    have := (List.getElem?_eq_some_iff.1 hb).2
    show (m.toArray)[i]'(by simpa using hlt) = b
    simpa using this
  have hle := decode_le ⟨m.toArray⟩ i
  by_cases ha : b.toNat < 128
  · have hd := decode_ascii ⟨m.toArray⟩ i hs (by rw [hg]; exact ha)
    rw [hg] at hd
    rw [hd]
    refine ⟨fun _ => rfl, ?_, by show b.toNat ≤ _; omega⟩
    rw [isDig_iff]
    constructor
    · rintro ⟨h1, h2⟩
      have h1 : (48 : Int) ≤ (b.toNat : Nat) := h1
      have h2 : ((b.toNat : Nat) : Int) ≤ 57 := h2
      omega
    · rintro ⟨h1, h2⟩
      exact ⟨by show (48 : Int) ≤ (b.toNat : Nat); omega, by show ((b.toNat : Nat) : Int) ≤ 57; omega⟩
  · have hd := (decode_high ⟨m.toArray⟩ i hs (by rw [hg]; omega)).1
    refine ⟨fun h => ?_, ?_, hle⟩
    · have := (isDig_iff.1 h).2; omega
    · rw [isDig_iff]
      omega
def numR (w : List UInt8) : PRes := if (num2 w).2 = true then .ret (ii (num2 w).1) else .pan (noneV w)
def numQ (w : List UInt8) (o : Out) (st' : St) : Prop :=
  if (num2 w).2 = true then o.ends = true ∧ sameLoopsC [] st'.sg = true ∧ ∃ v', resC TT st' Tryz.f176.results = some v' ∧ leaveC 0 v' st'.sg = (ii (num2 w).1, [])
  else o = .panic (noneV w) ∧ sameLoopsC [] st'.sg = true
def cfNg : CallF := cfAdd (cfAdd (cfAdd cf0 152 c152) 155 c155) 194 c194
theorem cfNg_ok : CallFOk Tryz.prog cfNg := cfAdd_ok (cfAdd_ok (cfAdd_ok cf0_ok c152_ok) c155_ok) c194_ok
theorem number_run (w : List UInt8) (hw : w.length ≤ 100000) (c : Code) (hc : Tryz.f176.body = some c) : RunQ Tryz.prog c ⟨argT 0 [.str w], 51, []⟩ (numQ w) := by
  obtain rfl := Option.some.inj (show some _ = some c from hc)
  clear hc
  have hml : (magW w).length ≤ w.length := by unfold magW; split <;> simp
  repeat (first | (with_reducible (first | apply wA | apply wB | apply wC | apply wD | apply wE | apply wF | apply wG | apply wH | apply wI | apply wJ | apply wK | apply wL | apply wM | apply wN | apply wO | apply wP | apply wQ rfl | apply wR | apply wS | apply wT | apply wU)) | ((with_reducible (first | apply wV | apply wW | apply wX | (apply wY [] hTT cfNg_ok noM_ok mixed; (focus kernel_rfl)))); (focus (simp only [Tryz.f176, cfNg, c194, hw, go_sem]; with_reducible rfl))) | (with_reducible refine wZ hTT cfNg_ok noM_ok ?_) | (with_reducible refine wa ?_; refine And.intro ?_ ?_; (focus kernel_rfl)))
  refine RunQ.keep [10, 4, 3, 2, 0] (by simp only [go_sem]; rfl) ?_
  have hN : ∀ n, digA 0 (magW w) = some n → 1 ≤ (magW w).length → (magW w).length ≤ 2 → num2 w = (sgnW w n, itoaF (sgnW w n) == w) := fun n h h1 h2 => by
    unfold num2
    rw [if_neg (by omega), h]
  have hF : (∀ n, digA 0 (magW w) = some n → (magW w).length = 0 ∨ 2 < (magW w).length) → (num2 w).2 = false := fun h => by
    unfold num2
    split
    · rfl
    · rename_i hc
      cases hd : digA 0 (magW w) with
      | none => rfl
      | some n => exact absurd (h n hd) hc
  have hneg : negW w = true → (magW w).length + 1 = w.length := fun h => by
    have := neg_len h
    unfold magW
    rw [if_pos h, List.length_tail]
    omega
  have hpos : negW w = false → magW w = w := fun h => by unfold magW; rw [h]; rfl
  generalize hm : magW w = m at hml hN hF hneg hpos ⊢
  refine RunQ.loop (fun i s' => ∃ n : Nat, digA 0 m = digA n (m.drop i) ∧ (i ≠ 0 → m.length ≤ 2) ∧ n < 10 ^ i ∧ s' = ⟨[(10, .bp 0 0), (4, ii n), (3, .str m), (2, ii 0), (0, .str w)], 51, [.sit m i]⟩) m.length ⟨0, rfl, fun h => absurd rfl h, by decide, rfl⟩ ?_
  rintro i _ hi ⟨n, hd, hi2, hn, rfl⟩
  by_cases hlt : i < m.length
  · obtain ⟨b, hb⟩ : ∃ b, m[i]? = some b := ⟨_, List.getElem?_eq_getElem hlt⟩
    obtain ⟨d1, d2, d3⟩ := dec_dig hb
    have hwf : (Lit.int .i32 (((Utf8.decode ⟨m.toArray⟩ i).1 : Nat) : Int)).wf = true := by
      have h0 : (0 : Int) ≤ ((Utf8.decode ⟨m.toArray⟩ i).1 : Nat) := Int.natCast_nonneg _
      have h1 : (((Utf8.decode ⟨m.toArray⟩ i).1 : Nat) : Int) ≤ 2147483647 := by omega
      generalize (((Utf8.decode ⟨m.toArray⟩ i).1 : Nat) : Int) = x at h0 h1
      simp [Lit.wf, IntKind.min, IntKind.max, IntKind.signed, IntKind.bits]
      omega
    have hpm : i ≤ maxLen := by unfold maxLen; omega
    rw [drop_get hb] at hd
    by_cases hg : isDig b = true ∧ m.length ≤ 2
    · obtain ⟨g1, g2⟩ := hg
      have hdec := d1 g1
      obtain ⟨e1, e2⟩ := isDig_iff.1 g1
      have e1' : (48 : Int) ≤ ((b.toNat : Nat) : Int) := by omega
      have e2' : ((b.toNat : Nat) : Int) ≤ 57 := by omega
      have g2' : (m.length : Int) ≤ 2 := by omega
      rw [hdec] at hwf
      have hwf : (Lit.int .i32 ((b.toNat : Nat) : Int)).wf = true := hwf
      have hd : digA 0 m = digA (10 * n + (b.toNat - 48)) (m.drop (i + 1)) := by
        rw [hd, digA, if_pos g1]
      have hn9 : n < 100 := by
        have : 10 ^ i ≤ 10 ^ 2 := Nat.pow_le_pow_right (by decide) (by omega)
        omega
      have w1 : IntKind.i64.wrap (10 * (n : Int)) = ((10 * n : Nat) : Int) := (wrap_id (by omega) (by omega)).trans (by omega)
      have w2 : IntKind.i32.wrap (((b.toNat : Nat) : Int) - 48) = ((b.toNat - 48 : Nat) : Int) := by
        rw [show ((b.toNat : Nat) : Int) - 48 = ((b.toNat - 48 : Nat) : Int) by omega]
        exact IntWalk.i32_in _ ⟨by omega, by omega⟩
      have w3 : IntKind.i64.wrap ((b.toNat - 48 : Nat) : Int) = ((b.toNat - 48 : Nat) : Int) := wrap_id (by omega) (by omega)
      have w4 : IntKind.i64.wrap (((10 * n : Nat) : Int) + ((b.toNat - 48 : Nat) : Int)) = ((10 * n + (b.toNat - 48) : Nat) : Int) := (wrap_id (by omega) (by omega)).trans (by omega)
      have hlow : 10 * n + (b.toNat - 48) < 10 ^ (i + 1) := by rw [Nat.pow_succ]; omega
      generalize b.toNat - 48 = q at w2 w3 w4 hd hlow
      generalize 10 * n = p at w1 w4 hd hlow
      repeat (first | (with_reducible (first | apply wA | apply wB | apply wC | apply wD | apply wE | apply wF | apply wG | apply wH | apply wI | apply wJ | apply wK | apply wL | apply wM | apply wN | apply wO | apply wP | apply wQ rfl | apply wR | apply wS | apply wT | apply wU)) | ((with_reducible (first | apply wV | apply wW | apply wX | (apply wY [] hTT cfNg_ok noM_ok mixed; (focus kernel_rfl)))); (focus (simp only [Tryz.f176, cfNg, c155, sureR, hlt, hdec, hwf, hpm, e1', e2', g2', w1, w2, w3, w4, ge_iff_le, go_sem]; with_reducible rfl))) | (with_reducible refine wZ hTT cfNg_ok noM_ok ?_) | (with_reducible refine wa ?_; refine And.intro ?_ ?_; (focus kernel_rfl)))
      refine roundQ.t 1 [10, 4, 3, 2, 0] hlt (by simp only [go_sem]) ⟨p + q, hd, fun _ => g2, hlow, by simp only [go_sem]⟩
    · have hno : (num2 w).2 = false := hF fun k hk => by
        rcases Nat.lt_or_ge 2 m.length with h | h
        · exact .inr h
        · exfalso
          have hnd : isDig b = false := by
            cases hx : isDig b
            · rfl
            · exact absurd ⟨hx, h⟩ hg
          rw [hd, digA, if_neg (by rw [hnd]; simp)] at hk
          cases hk
      have hQ : numQ w = fun o st' => o = .panic (noneV w) ∧ sameLoopsC [] st'.sg = true := by funext o st'; unfold numQ; rw [if_neg (by rw [hno]; simp)]
      rw [hQ]
      generalize hdc : (Utf8.decode ⟨m.toArray⟩ i) = dc at d1 d2 d3 hwf
      obtain ⟨rn, wd⟩ := dc
      have d2 : ((48 : Int) ≤ (rn : Nat) ∧ ((rn : Nat) : Int) ≤ 57) ↔ isDig b = true := d2
      have hwf : (Lit.int .i32 ((rn : Nat) : Int)).wf = true := hwf
      by_cases c1 : (48 : Int) ≤ (rn : Nat)
      · by_cases c2 : ((rn : Nat) : Int) ≤ 57
        · have c3 : ¬ (m.length : Int) ≤ 2 := fun h => hg ⟨d2.1 ⟨c1, c2⟩, by omega⟩
          repeat (first | (with_reducible (first | apply wA | apply wB | apply wC | apply wD | apply wE | apply wF | apply wG | apply wH | apply wI | apply wJ | apply wK | apply wL | apply wM | apply wN | apply wO | apply wP | apply wQ rfl | apply wR | apply wS | apply wT | apply wU)) | ((with_reducible (first | apply wV | apply wW | apply wX | (apply wY [] hTT cfNg_ok noM_ok mixed; (focus kernel_rfl)))); (focus (simp only [Tryz.f176, cfNg, c155, sureR, hlt, hdc, hwf, hpm, c1, c2, c3, ge_iff_le, go_sem]; with_reducible rfl))) | (with_reducible refine wZ hTT cfNg_ok noM_ok ?_) | (with_reducible refine wa ?_; refine And.intro ?_ ?_; (focus kernel_rfl)))
          refine RegQ.stop (v := noneV w) (by simp only [cfNg, c155, sureR, go_sem]; rfl) ?_
          repeat (first | (with_reducible (first | apply wA | apply wB | apply wC | apply wD | apply wE | apply wF | apply wG | apply wH | apply wI | apply wJ | apply wK | apply wL | apply wM | apply wN | apply wO | apply wP | apply wQ rfl | apply wR | apply wS | apply wT | apply wU)) | ((with_reducible (first | apply wV | apply wW | apply wX | (apply wY [] hTT cfNg_ok noM_ok mixed; (focus kernel_rfl)))); (focus (simp only [Tryz.f176, go_sem]; with_reducible rfl))) | (with_reducible refine wZ hTT cfNg_ok noM_ok ?_) | (with_reducible refine wa ?_; refine And.intro ?_ ?_; (focus kernel_rfl)))
          exact ⟨rfl, rfl⟩
        · repeat (first | (with_reducible (first | apply wA | apply wB | apply wC | apply wD | apply wE | apply wF | apply wG | apply wH | apply wI | apply wJ | apply wK | apply wL | apply wM | apply wN | apply wO | apply wP | apply wQ rfl | apply wR | apply wS | apply wT | apply wU)) | ((with_reducible (first | apply wV | apply wW | apply wX | (apply wY [] hTT cfNg_ok noM_ok mixed; (focus kernel_rfl)))); (focus (simp only [Tryz.f176, cfNg, c155, sureR, hlt, hdc, hwf, hpm, c1, c2, ge_iff_le, go_sem]; with_reducible rfl))) | (with_reducible refine wZ hTT cfNg_ok noM_ok ?_) | (with_reducible refine wa ?_; refine And.intro ?_ ?_; (focus kernel_rfl)))
          refine RegQ.stop (v := noneV w) (by simp only [cfNg, c155, sureR, go_sem]; rfl) ?_
          repeat (first | (with_reducible (first | apply wA | apply wB | apply wC | apply wD | apply wE | apply wF | apply wG | apply wH | apply wI | apply wJ | apply wK | apply wL | apply wM | apply wN | apply wO | apply wP | apply wQ rfl | apply wR | apply wS | apply wT | apply wU)) | ((with_reducible (first | apply wV | apply wW | apply wX | (apply wY [] hTT cfNg_ok noM_ok mixed; (focus kernel_rfl)))); (focus (simp only [Tryz.f176, go_sem]; with_reducible rfl))) | (with_reducible refine wZ hTT cfNg_ok noM_ok ?_) | (with_reducible refine wa ?_; refine And.intro ?_ ?_; (focus kernel_rfl)))
          exact ⟨rfl, rfl⟩
      · repeat (first | (with_reducible (first | apply wA | apply wB | apply wC | apply wD | apply wE | apply wF | apply wG | apply wH | apply wI | apply wJ | apply wK | apply wL | apply wM | apply wN | apply wO | apply wP | apply wQ rfl | apply wR | apply wS | apply wT | apply wU)) | ((with_reducible (first | apply wV | apply wW | apply wX | (apply wY [] hTT cfNg_ok noM_ok mixed; (focus kernel_rfl)))); (focus (simp only [Tryz.f176, cfNg, c155, sureR, hlt, hdc, hwf, hpm, c1, ge_iff_le, go_sem]; with_reducible rfl))) | (with_reducible refine wZ hTT cfNg_ok noM_ok ?_) | (with_reducible refine wa ?_; refine And.intro ?_ ?_; (focus kernel_rfl)))
        refine RegQ.stop (v := noneV w) (by simp only [cfNg, c155, sureR, go_sem]; rfl) ?_
        repeat (first | (with_reducible (first | apply wA | apply wB | apply wC | apply wD | apply wE | apply wF | apply wG | apply wH | apply wI | apply wJ | apply wK | apply wL | apply wM | apply wN | apply wO | apply wP | apply wQ rfl | apply wR | apply wS | apply wT | apply wU)) | ((with_reducible (first | apply wV | apply wW | apply wX | (apply wY [] hTT cfNg_ok noM_ok mixed; (focus kernel_rfl)))); (focus (simp only [Tryz.f176, go_sem]; with_reducible rfl))) | (with_reducible refine wZ hTT cfNg_ok noM_ok ?_) | (with_reducible refine wa ?_; refine And.intro ?_ ?_; (focus kernel_rfl)))
        exact ⟨rfl, rfl⟩
  · obtain rfl : i = m.length := by omega
    rw [List.drop_length] at hd
    have hd : digA 0 m = some n := hd
    have hn10 : n < 100 ∨ 2 < m.length := by
      rcases Nat.lt_or_ge 2 m.length with h | h
      · exact .inr h
      · have : 10 ^ m.length ≤ 10 ^ 2 := Nat.pow_le_pow_right (by decide) h
        exact .inl (by omega)
    by_cases h0 : m.length = 0
    · have hno : (num2 w).2 = false := hF fun k hk => .inl h0
      have hQ : numQ w = fun o st' => o = .panic (noneV w) ∧ sameLoopsC [] st'.sg = true := by funext o st'; unfold numQ; rw [if_neg (by rw [hno]; simp)]
      rw [hQ]
      obtain rfl : m = [] := List.length_eq_zero_iff.1 h0
      obtain rfl : 0 = n := Option.some.inj (show some 0 = some n from hd)
      have hne : ((([] : List UInt8) != []) : Bool) = false := rfl
      have w0 : IntKind.i64.wrap (-((0 : Nat) : Int)) = ((0 : Nat) : Int) := wrap_id (by decide) (by decide)
      have hz0 : ((0 : Nat) : Int) = 0 := rfl
      cases hng : negW w
      · obtain rfl := hpos hng
        have hl1 : ¬ ((0 : Nat) : Int) < ((0 : Nat) : Int) := Int.lt_irrefl _
        repeat (first | (with_reducible (first | apply wA | apply wB | apply wC | apply wD | apply wE | apply wF | apply wG | apply wH | apply wI | apply wJ | apply wK | apply wL | apply wM | apply wN | apply wO | apply wP | apply wQ rfl | apply wR | apply wS | apply wT | apply wU)) | ((with_reducible (first | apply wV | apply wW | apply wX | (apply wY [] hTT cfNg_ok noM_ok mixed; (focus kernel_rfl)))); (focus (simp only [Tryz.f176, cfNg, c155, sureR, hl1, Nat.lt_irrefl, hne, List.length_nil, go_sem]; with_reducible rfl))) | (with_reducible refine wZ hTT cfNg_ok noM_ok ?_) | (with_reducible refine wa ?_; refine And.intro ?_ ?_; (focus kernel_rfl)))
        refine RegQ.stop (v := noneV []) (by simp only [cfNg, c155, sureR, go_sem]; rfl) ?_
        repeat (first | (with_reducible (first | apply wA | apply wB | apply wC | apply wD | apply wE | apply wF | apply wG | apply wH | apply wI | apply wJ | apply wK | apply wL | apply wM | apply wN | apply wO | apply wP | apply wQ rfl | apply wR | apply wS | apply wT | apply wU)) | ((with_reducible (first | apply wV | apply wW | apply wX | (apply wY [] hTT cfNg_ok noM_ok mixed; (focus kernel_rfl)))); (focus (simp only [Tryz.f176, go_sem]; with_reducible rfl))) | (with_reducible refine wZ hTT cfNg_ok noM_ok ?_) | (with_reducible refine wa ?_; refine And.intro ?_ ?_; (focus kernel_rfl)))
        exact ⟨rfl, rfl⟩
      · have hl := hneg hng
        have hl1 : (0 : Int) < ((w.length : Nat) : Int) := by rw [← hl]; decide
        repeat (first | (with_reducible (first | apply wA | apply wB | apply wC | apply wD | apply wE | apply wF | apply wG | apply wH | apply wI | apply wJ | apply wK | apply wL | apply wM | apply wN | apply wO | apply wP | apply wQ rfl | apply wR | apply wS | apply wT | apply wU)) | ((with_reducible (first | apply wV | apply wW | apply wX | (apply wY [] hTT cfNg_ok noM_ok mixed; (focus kernel_rfl)))); (focus (simp only [Tryz.f176, cfNg, c155, sureR, hl1, Nat.lt_irrefl, hne, w0, hz0, List.length_nil, go_sem]; with_reducible rfl))) | (with_reducible refine wZ hTT cfNg_ok noM_ok ?_) | (with_reducible refine wa ?_; refine And.intro ?_ ?_; (focus kernel_rfl)))
        refine RegQ.stop (v := noneV w) (by simp only [cfNg, c155, sureR, go_sem]; rfl) ?_
        repeat (first | (with_reducible (first | apply wA | apply wB | apply wC | apply wD | apply wE | apply wF | apply wG | apply wH | apply wI | apply wJ | apply wK | apply wL | apply wM | apply wN | apply wO | apply wP | apply wQ rfl | apply wR | apply wS | apply wT | apply wU)) | ((with_reducible (first | apply wV | apply wW | apply wX | (apply wY [] hTT cfNg_ok noM_ok mixed; (focus kernel_rfl)))); (focus (simp only [Tryz.f176, go_sem]; with_reducible rfl))) | (with_reducible refine wZ hTT cfNg_ok noM_ok ?_) | (with_reducible refine wa ?_; refine And.intro ?_ ?_; (focus kernel_rfl)))
        exact ⟨rfl, rfl⟩
    · have h2 := hi2 h0
      have hs := hN n hd (by omega) h2
      have hn9 : n < 100 := hn10.resolve_right (by omega)
      have hne : ((m != []) : Bool) = true := by
        cases m with
        | nil => exact absurd rfl h0
        | cons => rfl
      have hne' : (m == []) = false := by
        cases m with
        | nil => exact absurd rfl h0
        | cons => rfl
      have hirr : ¬ m.length < m.length := Nat.lt_irrefl _
      have hsm : (sgnW w n).natAbs < 1000000 := by unfold sgnW; split <;> omega
      have hil := itoa_len 5 _ hsm (Nat.le_refl _)
      have p3 : (itoaF (sgnW w n)).length ≤ maxLen := by unfold maxLen; omega
      have p1 : -9223372036854775808 ≤ sgnW w n := by omega
      have p2 : sgnW w n ≤ 9223372036854775807 := by omega
      have hsv : (negW w = true → IntKind.i64.wrap (0 - (n : Int)) = sgnW w n) ∧ (negW w = false → (n : Int) = sgnW w n) := by
        unfold sgnW
        refine ⟨fun h => ?_, fun h => ?_⟩
        · rw [if_pos h, Int.zero_sub]; exact wrap_id (by omega) (by omega)
        · rw [h]; rfl
      have hQ : numQ w = fun o st' => if (itoaF (sgnW w n) == w) = true then o.ends = true ∧ sameLoopsC [] st'.sg = true ∧ ∃ v', resC TT st' Tryz.f176.results = some v' ∧ leaveC 0 v' st'.sg = (ii (sgnW w n), []) else o = .panic (noneV w) ∧ sameLoopsC [] st'.sg = true := by
        funext o st'
        unfold numQ
        rw [hs]
      rw [hQ]
      cases hng : negW w
      · have hx := hsv.2 hng
        have hl1 : ¬ ((m.length : Nat) : Int) < ((w.length : Nat) : Int) := by rw [hpos hng]; exact Int.lt_irrefl _
        rw [hx]
        generalize sgnW w n = x at p1 p2 p3 ⊢
        cases hit : (itoaF x == w)
        · simp only [Bool.false_eq_true, ↓reduceIte]
          repeat (first | (with_reducible (first | apply wA | apply wB | apply wC | apply wD | apply wE | apply wF | apply wG | apply wH | apply wI | apply wJ | apply wK | apply wL | apply wM | apply wN | apply wO | apply wP | apply wQ rfl | apply wR | apply wS | apply wT | apply wU)) | ((with_reducible (first | apply wV | apply wW | apply wX | (apply wY [] hTT cfNg_ok noM_ok mixed; (focus kernel_rfl)))); (focus (simp only [Tryz.f176, cfNg, c155, c152, sureR, hl1, hirr, hne, hne', p1, p2, p3, hit, go_sem]; with_reducible rfl))) | (with_reducible refine wZ hTT cfNg_ok noM_ok ?_) | (with_reducible refine wa ?_; refine And.intro ?_ ?_; (focus kernel_rfl)))
          refine RegQ.stop (v := noneV w) (by simp only [cfNg, c155, sureR, go_sem]; rfl) ?_
          repeat (first | (with_reducible (first | apply wA | apply wB | apply wC | apply wD | apply wE | apply wF | apply wG | apply wH | apply wI | apply wJ | apply wK | apply wL | apply wM | apply wN | apply wO | apply wP | apply wQ rfl | apply wR | apply wS | apply wT | apply wU)) | ((with_reducible (first | apply wV | apply wW | apply wX | (apply wY [] hTT cfNg_ok noM_ok mixed; (focus kernel_rfl)))); (focus (simp only [Tryz.f176, go_sem]; with_reducible rfl))) | (with_reducible refine wZ hTT cfNg_ok noM_ok ?_) | (with_reducible refine wa ?_; refine And.intro ?_ ?_; (focus kernel_rfl)))
          exact ⟨rfl, rfl⟩
        · simp only [↓reduceIte]
          repeat (first | (with_reducible (first | apply wA | apply wB | apply wC | apply wD | apply wE | apply wF | apply wG | apply wH | apply wI | apply wJ | apply wK | apply wL | apply wM | apply wN | apply wO | apply wP | apply wQ rfl | apply wR | apply wS | apply wT | apply wU)) | ((with_reducible (first | apply wV | apply wW | apply wX | (apply wY [] hTT cfNg_ok noM_ok mixed; (focus kernel_rfl)))); (focus (simp only [Tryz.f176, cfNg, c155, c152, sureR, hl1, hirr, hne, hne', p1, p2, p3, hit, go_sem]; with_reducible rfl))) | (with_reducible refine wZ hTT cfNg_ok noM_ok ?_) | (with_reducible refine wa ?_; refine And.intro ?_ ?_; (focus kernel_rfl)))
          exact ⟨rfl, rfl, _, rfl, rfl⟩
      · have hx := hsv.1 hng
        have hl1 : ((m.length : Nat) : Int) < ((w.length : Nat) : Int) := by have := hneg hng; omega
        generalize sgnW w n = x at hx p1 p2 p3 ⊢
        cases hit : (itoaF x == w)
        · simp only [Bool.false_eq_true, ↓reduceIte]
          repeat (first | (with_reducible (first | apply wA | apply wB | apply wC | apply wD | apply wE | apply wF | apply wG | apply wH | apply wI | apply wJ | apply wK | apply wL | apply wM | apply wN | apply wO | apply wP | apply wQ rfl | apply wR | apply wS | apply wT | apply wU)) | ((with_reducible (first | apply wV | apply wW | apply wX | (apply wY [] hTT cfNg_ok noM_ok mixed; (focus kernel_rfl)))); (focus (simp only [Tryz.f176, cfNg, c155, c152, sureR, hl1, hirr, hne, hne', hx, p1, p2, p3, hit, go_sem]; with_reducible rfl))) | (with_reducible refine wZ hTT cfNg_ok noM_ok ?_) | (with_reducible refine wa ?_; refine And.intro ?_ ?_; (focus kernel_rfl)))
          refine RegQ.stop (v := noneV w) (by simp only [cfNg, c155, sureR, go_sem]; rfl) ?_
          repeat (first | (with_reducible (first | apply wA | apply wB | apply wC | apply wD | apply wE | apply wF | apply wG | apply wH | apply wI | apply wJ | apply wK | apply wL | apply wM | apply wN | apply wO | apply wP | apply wQ rfl | apply wR | apply wS | apply wT | apply wU)) | ((with_reducible (first | apply wV | apply wW | apply wX | (apply wY [] hTT cfNg_ok noM_ok mixed; (focus kernel_rfl)))); (focus (simp only [Tryz.f176, go_sem]; with_reducible rfl))) | (with_reducible refine wZ hTT cfNg_ok noM_ok ?_) | (with_reducible refine wa ?_; refine And.intro ?_ ?_; (focus kernel_rfl)))
          exact ⟨rfl, rfl⟩
        · simp only [↓reduceIte]
          repeat (first | (with_reducible (first | apply wA | apply wB | apply wC | apply wD | apply wE | apply wF | apply wG | apply wH | apply wI | apply wJ | apply wK | apply wL | apply wM | apply wN | apply wO | apply wP | apply wQ rfl | apply wR | apply wS | apply wT | apply wU)) | ((with_reducible (first | apply wV | apply wW | apply wX | (apply wY [] hTT cfNg_ok noM_ok mixed; (focus kernel_rfl)))); (focus (simp only [Tryz.f176, cfNg, c155, c152, sureR, hl1, hirr, hne, hne', hx, p1, p2, p3, hit, go_sem]; with_reducible rfl))) | (with_reducible refine wZ hTT cfNg_ok noM_ok ?_) | (with_reducible refine wa ?_; refine And.intro ?_ ?_; (focus kernel_rfl)))
          exact ⟨rfl, rfl, _, rfl, rfl⟩
theorem number_176 (w : List UInt8) (hw : w.length ≤ 100000) : CallOk Tryz.prog 176 [.str w] [] (numR w) [] := by
  have h := number_run w hw _ rfl
  unfold numR
  cases hx : (num2 w).2
  · rw [if_neg (by simp)]
    refine CallOk.ofPan Tryz.func176 rfl rfl ?_ (lt_of_closed (noneV w) rfl)
    have hQ : numQ w = fun o st' => o = .panic (noneV w) ∧ sameLoopsC [] st'.sg = true := by funext o st'; unfold numQ; rw [if_neg (by rw [hx]; simp)]
    rw [hQ] at h
    exact h
  · rw [if_pos rfl]
    refine CallOk.of0 hTT Tryz.func176 rfl rfl ?_
    have hQ : numQ w = fun o st' => o.ends = true ∧ sameLoopsC [] st'.sg = true ∧ ∃ v', resC TT st' Tryz.f176.results = some v' ∧ leaveC 0 v' st'.sg = (ii (num2 w).1, []) := by funext o st'; unfold numQ; rw [if_pos hx]
    rw [hQ] at h
    exact h
def c176 : List PV → List Box → Option (PRes × List Box)
  | [.str w], sg => if w.length ≤ 100000 then some (numR w, sg) else none
  | _, _ => none
theorem c176_ok : ConOk Tryz.prog 176 c176 := ConOk.of0P (ent Tryz.func176 rfl) fun args sg r sg' h => by
  unfold c176 at h
  split at h <;> try (cases h; done)
  split at h <;> cases h
  rename_i hc
  exact ⟨rfl, rfl, number_176 _ hc⟩
end Go.Pv
namespace Go.Pv
open Go Go.RowKit Go.Proofs
set_option maxRecDepth 200000
set_option maxHeartbeats 8000000
def c154s : List PV → List Box → Option (PRes × List Box)
  | [.str s, .str [c]], sg => if s.length ≤ 100000 then some (.ret (.sl .f ((splF c s).map PV.str)), sg) else none
  | _, _ => none
theorem c154s_ok : ConOk Tryz.prog 154 c154s := fun args sg r sg' h => by
  unfold c154s at h
  split at h <;> try (cases h; done)
  split at h <;> cases h
  rename_i s c hc
  refine ⟨ent Tryz.func154 rfl, ?_, SameLoops.refl _⟩
  have hl := splF_len c s
  rw [← lib_split]
  rw [← lib_split] at hl
  exact Split_154 (by omega) (Nat.le_refl _) (List.all_eq_true.2 fun x hx => Nat.ble_eq_true_of_le (by rw [lib_split] at hx; have := splF_each hx; unfold maxLen; omega)) (by unfold maxLen; omega)
def toldR (word : List UInt8) (many : Nat) (row : List UInt8) : PRes := match toldE word many row with
  | .ok l => .ret (.sl .a (l.map ii))
  | .error e => .pan (noneV e)
def toldQ (word : List UInt8) (many : Nat) (row : List UInt8) (o : Out) (st' : St) : Prop := match toldE word many row with
  | .ok l => o.ends = true ∧ sameLoopsC [] st'.sg = true ∧ ∃ v', resC TT st' Tryz.f156.results = some v' ∧ leaveC0 0 v' st'.sg = (.sl .a (l.map ii), [])
  | .error e => o = .panic (noneV e) ∧ sameLoopsC [] st'.sg = true
def cfNt : CallF := cfAdd (cfAdd (cfAdd cf0 154 c154s) 155 c155) 176 c176
theorem cfNt_ok : CallFOk Tryz.prog cfNt := cfAdd_ok (cfAdd_ok (cfAdd_ok cf0_ok c154s_ok) c155_ok) c176_ok
theorem told_run (word row : List UInt8) (many : Nat) (hm : many ≤ 100) (hm1 : 1 ≤ many) (hr : row.length ≤ 100000) (c : Code) (hc : Tryz.f156.body = some c) :
    RunQ Tryz.prog c ⟨argT 0 [.str row, .str word, ii many], 43, []⟩ (toldQ word many row) := by
  obtain rfl := Option.some.inj (show some _ = some c from hc)
  clear hc
  have e1 : IntKind.i64.wrap ((many : Int) + 1) = ((many + 1 : Nat) : Int) := wrap_id (by omega) (by omega)
  have hW := splF_len 32 row
  have hWe : ∀ x ∈ splF 32 row, x.length ≤ 100000 := fun x hx => by have := splF_each hx; omega
  have hE : ∀ W, splF 32 row = W → toldE word many row = (if W.length = many + 1 ∧ W.head? = some word then toldE.numsE W.tail else .error row) := fun W h => by rw [← h]; rfl
  generalize hWW : splF 32 row = W at hW hWe
  have hE := hE W hWW
  have bad : (¬ (W.length = many + 1 ∧ W.head? = some word)) → toldQ word many row = fun o st' => o = .panic (noneV row) ∧ sameLoopsC [] st'.sg = true := fun h => by
    funext o st'
    unfold toldQ
    rw [hE, if_neg h]
  obtain ⟨w0, ws, rfl⟩ : ∃ w0 ws, W = w0 :: ws := by
    cases W with
    | nil => simp at hW
    | cons w0 ws => exact ⟨w0, ws, rfl⟩
  have hx0 : ((w0 :: ws).map PV.str)[0]? = some (.str w0) := rfl
  have hsl : (((w0 :: ws).map PV.str).drop 1).take ((w0 :: ws).length - 1) = ws.map PV.str := by
    rw [List.map_cons, List.drop_succ_cons, List.drop_zero]
    exact List.take_of_length_le (by simp)
  have hall : ∀ (B : List (List UInt8)), (B.map PV.str).all (fun y => y.cells.length == 1) = true := fun B => by rw [List.all_map]; exact List.all_eq_true.2 fun _ _ => rfl
  have hall' := hall (w0 :: ws)
  have hl1 : (1 : Int) ≤ (((w0 :: ws).length : Nat) : Int) := by rw [List.length_cons]; omega
  have hwsl : (w0 :: ws).length = ws.length + 1 := rfl
  generalize hWg : w0 :: ws = W at hx0 hsl hall' hl1 hW hWe bad hE hWW hwsl
  by_cases hlen : W.length = many + 1
  case neg =>
    have hb := bad fun h => hlen h.1
    have hle : (((W.length : Nat) : Int) == ((many + 1 : Nat) : Int)) = false := by rw [beq_eq_false_iff_ne]; omega
    rw [hb]
    repeat (first | (with_reducible (first | apply wA | apply wB | apply wC | apply wD | apply wE | apply wF | apply wG | apply wH | apply wI | apply wJ | apply wK | apply wL | apply wM | apply wN | apply wO | apply wP | apply wQ rfl | apply wR | apply wS | apply wT | apply wU)) | ((with_reducible (first | apply wV | apply wW | apply wX | (apply wY [] hTT cfNt_ok noM_ok mixed; (focus kernel_rfl)))); (focus (simp only [Tryz.f156, cfNt, c154s, c155, sureR, hr, hWW, e1, hle, List.length_map, go_sem]; with_reducible rfl))) | (with_reducible refine wZ hTT cfNt_ok noM_ok ?_) | (with_reducible refine wa ?_; refine And.intro ?_ ?_; (focus kernel_rfl)))
    refine RegQ.stop (v := noneV row) (by simp only [cfNt, c155, sureR, go_sem]; rfl) ?_
    repeat (first | (with_reducible (first | apply wA | apply wB | apply wC | apply wD | apply wE | apply wF | apply wG | apply wH | apply wI | apply wJ | apply wK | apply wL | apply wM | apply wN | apply wO | apply wP | apply wQ rfl | apply wR | apply wS | apply wT | apply wU)) | ((with_reducible (first | apply wV | apply wW | apply wX | (apply wY [] hTT cfNt_ok noM_ok mixed; (focus kernel_rfl)))); (focus (simp only [Tryz.f156, go_sem]; with_reducible rfl))) | (with_reducible refine wZ hTT cfNt_ok noM_ok ?_) | (with_reducible refine wa ?_; refine And.intro ?_ ?_; (focus kernel_rfl)))
    exact ⟨rfl, rfl⟩
  have hle : (((W.length : Nat) : Int) == ((many + 1 : Nat) : Int)) = true := by rw [hlen]; exact beq_self_eq_true _
  have hl0 : (0 : Int) < (((W.length : Nat) : Int)) := by omega
  have hhd : W.head? = some w0 := by rw [← hWg]; rfl
  have htl : W.tail = ws := by rw [← hWg]; rfl
  cases hw0 : (w0 == word)
  · have hb := bad fun h => by
      rw [hhd] at h
      have := Option.some.inj h.2
      rw [this, beq_self_eq_true] at hw0
      cases hw0
    rw [hb]
    repeat (first | (with_reducible (first | apply wA | apply wB | apply wC | apply wD | apply wE | apply wF | apply wG | apply wH | apply wI | apply wJ | apply wK | apply wL | apply wM | apply wN | apply wO | apply wP | apply wQ rfl | apply wR | apply wS | apply wT | apply wU)) | ((with_reducible (first | apply wV | apply wW | apply wX | (apply wY [] hTT cfNt_ok noM_ok mixed; (focus kernel_rfl)))); (focus (simp only [Tryz.f156, cfNt, c154s, c155, sureR, hr, hWW, e1, hle, hl0, hx0, hw0, List.length_map, go_sem]; with_reducible rfl))) | (with_reducible refine wZ hTT cfNt_ok noM_ok ?_) | (with_reducible refine wa ?_; refine And.intro ?_ ?_; (focus kernel_rfl)))
    refine RegQ.stop (v := noneV row) (by simp only [cfNt, c155, sureR, go_sem]; rfl) ?_
    repeat (first | (with_reducible (first | apply wA | apply wB | apply wC | apply wD | apply wE | apply wF | apply wG | apply wH | apply wI | apply wJ | apply wK | apply wL | apply wM | apply wN | apply wO | apply wP | apply wQ rfl | apply wR | apply wS | apply wT | apply wU)) | ((with_reducible (first | apply wV | apply wW | apply wX | (apply wY [] hTT cfNt_ok noM_ok mixed; (focus kernel_rfl)))); (focus (simp only [Tryz.f156, go_sem]; with_reducible rfl))) | (with_reducible refine wZ hTT cfNt_ok noM_ok ?_) | (with_reducible refine wa ?_; refine And.intro ?_ ?_; (focus kernel_rfl)))
    exact ⟨rfl, rfl⟩
  have hwd : w0 = word := eq_of_beq hw0
  rw [if_pos ⟨hlen, by rw [hhd, hwd]⟩, htl] at hE
  have hws : ∀ x ∈ ws, x.length ≤ 100000 := fun x hx => hWe x (by rw [← hWg]; exact List.mem_cons_of_mem _ hx)
  have hwn : ws.length = many := by omega
  simp only [PV.cells] at hall'
  repeat (first | (with_reducible (first | apply wA | apply wB | apply wC | apply wD | apply wE | apply wF | apply wG | apply wH | apply wI | apply wJ | apply wK | apply wL | apply wM | apply wN | apply wO | apply wP | apply wQ rfl | apply wR | apply wS | apply wT | apply wU)) | ((with_reducible (first | apply wV | apply wW | apply wX | (apply wY [] hTT cfNt_ok noM_ok mixed; (focus kernel_rfl)))); (focus (simp only [Tryz.f156, cfNt, c154s, c155, sureR, hr, hWW, e1, hle, hl0, hl1, hx0, hw0, hsl, hall', List.length_map, go_sem]; with_reducible rfl))) | (with_reducible refine wZ hTT cfNt_ok noM_ok ?_) | (with_reducible refine wa ?_; refine And.intro ?_ ?_; (focus kernel_rfl)))
  refine RunQ.keep [31, 30, 29, 8] (by simp only [go_sem]; rfl) ?_
  refine RunQ.nilRow 8 3 1 (by simp only [go_sem]) (by simp only [go_sem]; rfl) (by simp only [go_sem]; rfl) ?_
  have hT : toldQ word many row = fun o st' => (match toldE.numsE ws with
    | .ok l => o.ends = true ∧ sameLoopsC [] st'.sg = true ∧ ∃ v', resC TT st' Tryz.f156.results = some v' ∧ leaveC0 0 v' st'.sg = (.sl .a (l.map ii), [])
    | .error e => o = .panic (noneV e) ∧ sameLoopsC [] st'.sg = true) := by
    funext o st'
    unfold toldQ
    rw [hE]
  rw [hT]
  clear hT hE bad hsl hx0 hall' hWe hWW hW
  refine RunQ.loop (fun i s' => ∃ l : List Int, (toldE.numsE ws = match toldE.numsE (ws.drop i) with
      | .ok r => .ok (l ++ r)
      | .error e => .error e) ∧ l.length = i ∧ s' = ⟨[(31, ii i), (30, ii ws.length), (29, .sl .a (ws.map PV.str)), (8, .ms 0 i)], 43, [.row (decide (i = 0)) 3 1 (l.map ii) false]⟩) ws.length ⟨[], by rw [List.drop_zero]; cases toldE.numsE ws <;> rfl, rfl, rfl⟩ ?_
  rintro i _ hi ⟨l, hm, hl, rfl⟩
  by_cases hlt : i < ws.length
  · obtain ⟨x, hx⟩ : ∃ x, ws[i]? = some x := ⟨_, List.getElem?_eq_getElem hlt⟩
    have hx' : (ws.map PV.str)[i]? = some (.str x) := by rw [List.getElem?_map, hx]; rfl
    have hlt' : (i : Int) < ws.length := by omega
    have e4 : IntKind.i64.wrap ((i : Int) + 1) = ((i + 1 : Nat) : Int) := wrap_id (by omega) (by omega)
    have hxl := hws x (List.mem_of_getElem? hx)
    have l1 : i + 1 ≤ maxLen := by unfold maxLen; omega
    have l2 : (i + 1) * 8 ≤ 140737488355328 := by omega
    have hd1 : decide (i + 1 = 0) = false := by simp
    rw [drop_get hx] at hm
    cases h2 : (num2 x).2
    · have hR : numR x = .pan (noneV x) := by unfold numR; rw [h2]; rfl
      have hN : numW x = none := by unfold numW; rw [h2]; rfl
      have hm : toldE.numsE ws = .error x := by
        rw [hm, toldE.numsE, hN]
      rw [hm]
      dsimp only
      repeat (first | (with_reducible (first | apply wA | apply wB | apply wC | apply wD | apply wE | apply wF | apply wG | apply wH | apply wI | apply wJ | apply wK | apply wL | apply wM | apply wN | apply wO | apply wP | apply wQ rfl | apply wR | apply wS | apply wT | apply wU)) | ((with_reducible (first | apply wV | apply wW | apply wX | (apply wY [] hTT cfNt_ok noM_ok mixed; (focus kernel_rfl)))); (focus (simp only [Tryz.f156, cfNt, c176, hlt', hx', hxl, hR, List.length_map, go_sem]; with_reducible rfl))) | (with_reducible refine wZ hTT cfNt_ok noM_ok ?_) | (with_reducible refine wa ?_; refine And.intro ?_ ?_; (focus kernel_rfl)))
      refine RegQ.stop (v := noneV x) (by simp only [cfNt, c176, hxl, hR, go_sem]; rfl) ?_
      repeat (first | (with_reducible (first | apply wA | apply wB | apply wC | apply wD | apply wE | apply wF | apply wG | apply wH | apply wI | apply wJ | apply wK | apply wL | apply wM | apply wN | apply wO | apply wP | apply wQ rfl | apply wR | apply wS | apply wT | apply wU)) | ((with_reducible (first | apply wV | apply wW | apply wX | (apply wY [] hTT cfNt_ok noM_ok mixed; (focus kernel_rfl)))); (focus (simp only [Tryz.f156, go_sem]; with_reducible rfl))) | (with_reducible refine wZ hTT cfNt_ok noM_ok ?_) | (with_reducible refine wa ?_; refine And.intro ?_ ?_; (focus kernel_rfl)))
      exact ⟨rfl, rfl⟩
    · have hR : numR x = .ret (ii (num2 x).1) := by unfold numR; rw [h2]; rfl
      have hN : numW x = some (num2 x).1 := by unfold numW; rw [h2]; rfl
      have hm : toldE.numsE ws = match toldE.numsE (ws.drop (i + 1)) with
          | .ok r => .ok ((l ++ [(num2 x).1]) ++ r)
          | .error e => .error e := by
        rw [hm, toldE.numsE, hN]
        dsimp only
        cases toldE.numsE (ws.drop (i + 1)) with
        | ok r => simp
        | error e => rfl
      generalize (num2 x).1 = n at hR hm
      repeat (first | (with_reducible (first | apply wA | apply wB | apply wC | apply wD | apply wE | apply wF | apply wG | apply wH | apply wI | apply wJ | apply wK | apply wL | apply wM | apply wN | apply wO | apply wP | apply wQ rfl | apply wR | apply wS | apply wT | apply wU)) | ((with_reducible (first | apply wV | apply wW | apply wX | (apply wY [] hTT cfNt_ok noM_ok mixed; (focus kernel_rfl)))); (focus (simp only [Tryz.f156, cfNt, c176, hlt', hx', hxl, hR, e4, hl, l1, l2, List.length_map, go_sem]; with_reducible rfl))) | (with_reducible refine wZ hTT cfNt_ok noM_ok ?_) | (with_reducible refine wa ?_; refine And.intro ?_ ?_; (focus kernel_rfl)))
      refine roundQ.t 1 [31, 30, 29, 8] hlt (by simp only [ltB_strs, ltB_is, ltBL_append, go_sem]) ⟨l ++ [n], hm, by simp [hl], by rw [List.map_append]; simp only [hd1, go_sem]⟩
  · have hlt' : ¬ (i : Int) < ws.length := by omega
    obtain rfl : i = ws.length := by omega
    rw [List.drop_length] at hm
    have hm : toldE.numsE ws = .ok l := by rw [hm]; simp [toldE.numsE]
    rw [hm]
    dsimp only
    have hz : decide (ws.length = 0) = false := decide_eq_false (by omega)
    rw [hz]
    repeat (first | (with_reducible (first | apply wA | apply wB | apply wC | apply wD | apply wE | apply wF | apply wG | apply wH | apply wI | apply wJ | apply wK | apply wL | apply wM | apply wN | apply wO | apply wP | apply wQ rfl | apply wR | apply wS | apply wT | apply wU)) | ((with_reducible (first | apply wV | apply wW | apply wX | (apply wY [] hTT cfNt_ok noM_ok mixed; (focus kernel_rfl)))); (focus (simp only [Tryz.f156, hlt', List.length_map, go_sem]; with_reducible rfl))) | (with_reducible refine wZ hTT cfNt_ok noM_ok ?_) | (with_reducible refine wa ?_; refine And.intro ?_ ?_; (focus kernel_rfl)))
    exact ⟨rfl, rfl, _, rfl, leave_row (id := 0) (z := false) (frz := false) rfl (closedL_map (fun _ => rfl) _) (by rw [List.length_map, hl])⟩
theorem told_156 (word row : List UInt8) (many : Nat) (hm : many ≤ 100) (hm1 : 1 ≤ many) (hr : row.length ≤ 100000) : CallOk Tryz.prog 156 [.str row, .str word, ii many] [] (toldR word many row) [] := by
  have h := told_run word row many hm hm1 hr _ rfl
  unfold toldR
  cases hx : toldE word many row with
  | error e =>
    refine CallOk.ofPan Tryz.func156 rfl rfl ?_ (lt_of_closed (noneV e) rfl)
    have hQ : toldQ word many row = fun o st' => o = .panic (noneV e) ∧ sameLoopsC [] st'.sg = true := by funext o st'; unfold toldQ; rw [hx]
    rw [hQ] at h
    exact h
  | ok l =>
    refine CallOk.ofF hTT Tryz.func156 rfl rfl ?_
    have hQ : toldQ word many row = fun o st' => o.ends = true ∧ sameLoopsC [] st'.sg = true ∧ ∃ v', resC TT st' Tryz.f156.results = some v' ∧ leaveC0 0 v' st'.sg = (.sl .a (l.map ii), []) := by funext o st'; unfold toldQ; rw [hx]
    rw [hQ] at h
    exact h
def c156 : List PV → List Box → Option (PRes × List Box)
  | [.str row, .str word, .int .i64 k], sg => if 1 ≤ k ∧ k ≤ 100 ∧ row.length ≤ 100000 then some (toldR word k.toNat row, sg) else none
  | _, _ => none
theorem c156_ok : ConOk Tryz.prog 156 c156 := ConOk.of0P (ent Tryz.func156 rfl) fun args sg r sg' h => by
  unfold c156 at h
  split at h <;> try (cases h; done)
  split at h <;> cases h
  rename_i row word k hc
  have e : ((k.toNat : Nat) : Int) = k := by omega
  have := told_156 word row k.toNat (by omega) (by omega) hc.2.2
  rw [e] at this
  exact ⟨rfl, rfl, this⟩
end Go.Pv
