/- Contracts: what is staged, what is right, wider fields, which pose comes first, whether a pose is fine. -/
import Derived.Test.YtmnocohggpmjcaaGreatDoorQnB
import Derived.Test.YtmnocohggpmjcaaGreatDoorQgEnds
set_option linter.all false
namespace Go.Pv
open Go Go.RowKit Go.Proofs
set_option maxRecDepth 10000
set_option maxHeartbeats 4000000
def stagedG (ls : List Lb) (g : Stg) : Bool := decide (ls.length ≤ 7) && decide (g.hs.length ≤ 4) && decide (g.rs.length ≤ 4)
theorem staged_41 (s : Int) (z zh zr : Z) (ls : List Lb) (g : Stg) (hzo : zOk z (ls.map encLb) = true) :
    CallOk Tryz.prog 41 [.agg [ii s, .sl z (ls.map encLb)], encStg zh zr g] [] (.ret (.bool (stagedG ls g))) [] := by
  refine CallOk.of0 hTT Tryz.func41 rfl rfl ?_
  have hd := decFig_enc s z ls hzo
  unfold encStg stagedG
  by_cases a0 : ls.length ≤ 7
  case neg =>
    repeat (first | (with_reducible (first | apply wA | apply wB | apply wC | apply wD | apply wE | apply wF | apply wG | apply wH | apply wI | apply wJ | apply wK | apply wL | apply wM | apply wN | apply wO | apply wP | apply wQ rfl | apply wR | apply wS | apply wT | apply wU)) | ((with_reducible (first | apply wV | apply wW | apply wX | (apply wY [] hTT cfS_ok noM_ok mixed; (focus kernel_rfl)))); (focus (simp only [Tryz.f41, cfS, c25, hd, a0, go_sem]; with_reducible rfl))) | (with_reducible refine wZ hTT cfS_ok noM_ok ?_) | (with_reducible refine wa ?_; refine And.intro ?_ ?_; (focus kernel_rfl)))
    exact ⟨rfl, rfl, _, rfl, by simp [a0]; rfl⟩
  by_cases a1 : g.hs.length ≤ 4
  case neg =>
    have a1' : ¬ (g.hs.length : Int) ≤ 4 := by omega
    repeat (first | (with_reducible (first | apply wA | apply wB | apply wC | apply wD | apply wE | apply wF | apply wG | apply wH | apply wI | apply wJ | apply wK | apply wL | apply wM | apply wN | apply wO | apply wP | apply wQ rfl | apply wR | apply wS | apply wT | apply wU)) | ((with_reducible (first | apply wV | apply wW | apply wX | (apply wY [] hTT cfS_ok noM_ok mixed; (focus kernel_rfl)))); (focus (simp only [Tryz.f41, cfS, c25, hd, a0, a1', go_sem]; with_reducible rfl))) | (with_reducible refine wZ hTT cfS_ok noM_ok ?_) | (with_reducible refine wa ?_; refine And.intro ?_ ?_; (focus kernel_rfl)))
    exact ⟨rfl, rfl, _, rfl, by simp [a1]; rfl⟩
  have a1' : (g.hs.length : Int) ≤ 4 := by omega
  by_cases a2 : g.rs.length ≤ 4
  · have a2' : (g.rs.length : Int) ≤ 4 := by omega
    repeat (first | (with_reducible (first | apply wA | apply wB | apply wC | apply wD | apply wE | apply wF | apply wG | apply wH | apply wI | apply wJ | apply wK | apply wL | apply wM | apply wN | apply wO | apply wP | apply wQ rfl | apply wR | apply wS | apply wT | apply wU)) | ((with_reducible (first | apply wV | apply wW | apply wX | (apply wY [] hTT cfS_ok noM_ok mixed; (focus kernel_rfl)))); (focus (simp only [Tryz.f41, cfS, c25, hd, a0, a1', a2', go_sem]; with_reducible rfl))) | (with_reducible refine wZ hTT cfS_ok noM_ok ?_) | (with_reducible refine wa ?_; refine And.intro ?_ ?_; (focus kernel_rfl)))
    exact ⟨rfl, rfl, _, rfl, by simp [a0, a1, a2]; rfl⟩
  · have a2' : ¬ (g.rs.length : Int) ≤ 4 := by omega
    repeat (first | (with_reducible (first | apply wA | apply wB | apply wC | apply wD | apply wE | apply wF | apply wG | apply wH | apply wI | apply wJ | apply wK | apply wL | apply wM | apply wN | apply wO | apply wP | apply wQ rfl | apply wR | apply wS | apply wT | apply wU)) | ((with_reducible (first | apply wV | apply wW | apply wX | (apply wY [] hTT cfS_ok noM_ok mixed; (focus kernel_rfl)))); (focus (simp only [Tryz.f41, cfS, c25, hd, a0, a1', a2', go_sem]; with_reducible rfl))) | (with_reducible refine wZ hTT cfS_ok noM_ok ?_) | (with_reducible refine wa ?_; refine And.intro ?_ ?_; (focus kernel_rfl)))
    exact ⟨rfl, rfl, _, rfl, by simp [a2]; rfl⟩
def c41 : List PV → List Box → Option (PRes × List Box)
  | [v, w], sg => match decFig v, decStg w with
    | some (_, ls), some g => some (.ret (.bool (stagedG ls g)), sg)
    | _, _ => none
  | _, _ => none
theorem c41_ok : ConOk Tryz.prog 41 c41 := ConOk.of0 (ent Tryz.func41 rfl) fun args sg r sg' h => by
  unfold c41 at h
  split at h <;> try (cases h; done)
  split at h <;> cases h
  rename_i h1 h2
  obtain ⟨z, rfl, hz⟩ := decFig_inv h1
  obtain ⟨zh, zr, rfl, hh, hr⟩ := decStg_inv h2
  exact ⟨_, rfl, rfl, by rw [ltBL_cons, ltB_fig, ltBL_cons, ltB_stg]; rfl, staged_41 _ _ _ _ _ _ (zOk_n' hz)⟩
def cfR : CallF := cfAdd (cfAdd (cfAdd cfS 41 c41) 26 c85) 101 c96
theorem cfR_ok : CallFOk Tryz.prog cfR := cfAdd_ok (cfAdd_ok (cfAdd_ok cfS_ok c41_ok) c26_ok) c101_ok
def rightG (s : Int) (ls : List Lb) (g : Stg) : Bool := stagedG ls g && figB s ls && stgG ls g
theorem right_43 (s : Int) (z zh zr : Z) (ls : List Lb) (g : Stg) (hzo : zOk z (ls.map encLb) = true) (hh : zOk zh (g.hs.map encFld) = true) (hr : zOk zr (g.rs.map ii) = true) :
    CallOk Tryz.prog 43 [.agg [ii s, .sl z (ls.map encLb)], encStg zh zr g] [] (.ret (.bool (rightG s ls g))) [] := by
  refine CallOk.of0 hTT Tryz.func43 rfl rfl ?_
  have hd := decFig_enc s z ls hzo
  have hd2 := decStg_enc hh hr
  unfold encStg at hd2 ⊢
  unfold rightG
  cases a0 : stagedG ls g
  · repeat (first | (with_reducible (first | apply wA | apply wB | apply wC | apply wD | apply wE | apply wF | apply wG | apply wH | apply wI | apply wJ | apply wK | apply wL | apply wM | apply wN | apply wO | apply wP | apply wQ rfl | apply wR | apply wS | apply wT | apply wU)) | ((with_reducible (first | apply wV | apply wW | apply wX | (apply wY [] hTT cfR_ok noM_ok mixed; (focus kernel_rfl)))); (focus (simp only [Tryz.f43, cfR, c41, hd, hd2, a0, go_sem]; with_reducible rfl))) | (with_reducible refine wZ hTT cfR_ok noM_ok ?_) | (with_reducible refine wa ?_; refine And.intro ?_ ?_; (focus kernel_rfl)))
    exact ⟨rfl, rfl, _, rfl, rfl⟩
  have hs : ls.length ≤ maxLen := by unfold stagedG at a0; simp at a0; unfold maxLen; omega
  cases a1 : figB s ls
  · repeat (first | (with_reducible (first | apply wA | apply wB | apply wC | apply wD | apply wE | apply wF | apply wG | apply wH | apply wI | apply wJ | apply wK | apply wL | apply wM | apply wN | apply wO | apply wP | apply wQ rfl | apply wR | apply wS | apply wT | apply wU)) | ((with_reducible (first | apply wV | apply wW | apply wX | (apply wY [] hTT cfR_ok noM_ok mixed; (focus kernel_rfl)))); (focus (simp only [Tryz.f43, cfR, c41, c85, hd, hd2, a0, a1, go_sem]; with_reducible rfl))) | (with_reducible refine wZ hTT cfR_ok noM_ok ?_) | (with_reducible refine wa ?_; refine And.intro ?_ ?_; (focus kernel_rfl)))
    exact ⟨rfl, rfl, _, rfl, rfl⟩
  · repeat (first | (with_reducible (first | apply wA | apply wB | apply wC | apply wD | apply wE | apply wF | apply wG | apply wH | apply wI | apply wJ | apply wK | apply wL | apply wM | apply wN | apply wO | apply wP | apply wQ rfl | apply wR | apply wS | apply wT | apply wU)) | ((with_reducible (first | apply wV | apply wW | apply wX | (apply wY [] hTT cfR_ok noM_ok mixed; (focus kernel_rfl)))); (focus (simp only [Tryz.f43, cfR, c41, c85, c96, hd, hd2, a0, a1, hs, go_sem]; with_reducible rfl))) | (with_reducible refine wZ hTT cfR_ok noM_ok ?_) | (with_reducible refine wa ?_; refine And.intro ?_ ?_; (focus kernel_rfl)))
    exact ⟨rfl, rfl, _, rfl, rfl⟩
def c43 : List PV → List Box → Option (PRes × List Box)
  | [v, w], sg => match decFig v, decStg w with
    | some (s, ls), some g => some (.ret (.bool (rightG s ls g)), sg)
    | _, _ => none
  | _, _ => none
theorem c43_ok : ConOk Tryz.prog 43 c43 := ConOk.of0 (ent Tryz.func43 rfl) fun args sg r sg' h => by
  unfold c43 at h
  split at h <;> try (cases h; done)
  split at h <;> cases h
  rename_i h1 h2
  obtain ⟨z, rfl, hz⟩ := decFig_inv h1
  obtain ⟨zh, zr, rfl, hh, hr⟩ := decStg_inv h2
  exact ⟨_, rfl, rfl, by rw [ltBL_cons, ltB_fig, ltBL_cons, ltB_stg]; rfl, right_43 _ _ _ _ _ _ (zOk_n' hz) hh hr⟩
theorem mx (n : Int) : (if n > -1000 then n else -1000) = max (-1000) n := by omega
end Go.Pv
namespace Go.Pv
open Go Go.RowKit Go.Proofs
set_option maxRecDepth 10000
set_option maxHeartbeats 4000000
/-- Whether a list comes before another one. -/
def befG : List Int → List Int → Bool
  | [], b => decide (0 < b.length)
  | _ :: _, [] => false
  | x :: a, y :: b => if x = y then befG a b else decide (x < y)
theorem befG_cc (x y : Int) (a b : List Int) : befG (x :: a) (y :: b) = if x = y then befG a b else decide (x < y) := rfl
theorem Before_66 (za zb : Z) (a b : List Int) (ha : za = .n → a = []) (hb : zb = .n → b = []) (hs : a.length ≤ maxLen) : CallOk Tryz.prog 66 [.sl za (a.map ii), .sl zb (b.map ii)] [] (.ret (.bool (befG a b))) [] := by
  refine CallOk.of0 hTT Tryz.func66 rfl rfl ?_
  unfold maxLen at hs
  repeat (first | (with_reducible (first | apply wA | apply wB | apply wC | apply wD | apply wE | apply wF | apply wG | apply wH | apply wI | apply wJ | apply wK | apply wL | apply wM | apply wN | apply wO | apply wP | apply wQ rfl | apply wR | apply wS | apply wT | apply wU)) | ((with_reducible (first | apply wV | apply wW | apply wX | (apply wY [] hTT cf0_ok noM_ok mixed; (focus kernel_rfl)))); (focus (simp only [Tryz.f66, go_sem]; with_reducible rfl))) | (with_reducible refine wZ hTT cf0_ok noM_ok ?_) | (with_reducible refine wa ?_; refine And.intro ?_ ?_; (focus kernel_rfl)))
  refine RunQ.keep [5, 4, 1, 0] (by simp only [go_sem]; rfl) ?_
  refine RunQ.loop (fun i s' => befG a b = befG (a.drop i) (b.drop i) ∧ i ≤ b.length ∧ s' = ⟨[(5, ii i), (4, .bool false), (0, .sl za (a.map ii)), (1, .sl zb (b.map ii))], 41, []⟩) a.length ⟨rfl, Nat.zero_le _, rfl⟩ ?_
  rintro i _ hi ⟨hm, hib, rfl⟩
  by_cases hlt : i < a.length
  · obtain ⟨x, hx⟩ : ∃ x, a[i]? = some x := ⟨_, List.getElem?_eq_getElem hlt⟩
    have hx' : (a.map ii)[i]? = some (ii x) := map_get hx
    have hlt' : (i : Int) < a.length := by omega
    have hza' : za ≠ .n := fun e => by rw [ha e] at hlt; simp at hlt
    have e4 : IntKind.i64.wrap ((i : Int) + 1) = ((i + 1 : Nat) : Int) := wrap_id (by omega) (by omega)
    by_cases hlb : i < b.length
    · obtain ⟨y, hy⟩ : ∃ y, b[i]? = some y := ⟨_, List.getElem?_eq_getElem hlb⟩
      have hy' : (b.map ii)[i]? = some (ii y) := map_get hy
      have hlb' : (i : Int) < b.length := by omega
      have hzb' : zb ≠ .n := fun e => by rw [hb e] at hlb; simp at hlb
      by_cases hxy : x = y
      · have h1 : (x != y) = false := by simp [hxy]
        repeat (first | (with_reducible (first | apply wA | apply wB | apply wC | apply wD | apply wE | apply wF | apply wG | apply wH | apply wI | apply wJ | apply wK | apply wL | apply wM | apply wN | apply wO | apply wP | apply wQ rfl | apply wR | apply wS | apply wT | apply wU)) | ((with_reducible (first | apply wV | apply wW | apply wX | (apply wY [] hTT cf0_ok noM_ok mixed; (focus kernel_rfl)))); (focus (simp only [Tryz.f66, hx', hy', hlt', hlb', hza', hzb', e4, h1, go_sem]; with_reducible rfl))) | (with_reducible refine wZ hTT cf0_ok noM_ok ?_) | (with_reducible refine wa ?_; refine And.intro ?_ ?_; (focus kernel_rfl)))
        refine roundQ.t 0 [5, 4, 0, 1] hlt (by simp only [ltB_is, go_sem]) ⟨by rw [hm, drop_get hx, drop_get hy, befG_cc, if_pos hxy], by omega, by simp only [go_sem]⟩
      · have h1 : (x != y) = true := by simp [hxy]
        repeat (first | (with_reducible (first | apply wA | apply wB | apply wC | apply wD | apply wE | apply wF | apply wG | apply wH | apply wI | apply wJ | apply wK | apply wL | apply wM | apply wN | apply wO | apply wP | apply wQ rfl | apply wR | apply wS | apply wT | apply wU)) | ((with_reducible (first | apply wV | apply wW | apply wX | (apply wY [] hTT cf0_ok noM_ok mixed; (focus kernel_rfl)))); (focus (simp only [Tryz.f66, hx', hy', hlt', hlb', hza', hzb', e4, h1, go_sem]; with_reducible rfl))) | (with_reducible refine wZ hTT cf0_ok noM_ok ?_) | (with_reducible refine wa ?_; refine And.intro ?_ ?_; (focus kernel_rfl)))
        refine ⟨rfl, rfl, _, rfl, ?_⟩
        rw [hm, drop_get hx, drop_get hy, befG_cc, if_neg hxy]
        rfl
    · have hlb' : ¬ (i : Int) < b.length := by omega
      have hll : ¬ (a.length : Int) < b.length := by omega
      have hnb : b.drop i = [] := List.drop_eq_nil_of_le (by omega)
      repeat (first | (with_reducible (first | apply wA | apply wB | apply wC | apply wD | apply wE | apply wF | apply wG | apply wH | apply wI | apply wJ | apply wK | apply wL | apply wM | apply wN | apply wO | apply wP | apply wQ rfl | apply wR | apply wS | apply wT | apply wU)) | ((with_reducible (first | apply wV | apply wW | apply wX | (apply wY [] hTT cf0_ok noM_ok mixed; (focus kernel_rfl)))); (focus (simp only [Tryz.f66, hlt', hlb', hll, go_sem]; with_reducible rfl))) | (with_reducible refine wZ hTT cf0_ok noM_ok ?_) | (with_reducible refine wa ?_; refine And.intro ?_ ?_; (focus kernel_rfl)))
      refine ⟨rfl, rfl, _, rfl, ?_⟩
      rw [hm, drop_get hx, hnb]; rfl
  · have hlt' : ¬ (i : Int) < a.length := by omega
    obtain rfl : i = a.length := by omega
    have hnil : a.drop a.length = [] := List.drop_eq_nil_of_le (by omega)
    by_cases hll : a.length < b.length
    · have hll' : (a.length : Int) < b.length := by omega
      repeat (first | (with_reducible (first | apply wA | apply wB | apply wC | apply wD | apply wE | apply wF | apply wG | apply wH | apply wI | apply wJ | apply wK | apply wL | apply wM | apply wN | apply wO | apply wP | apply wQ rfl | apply wR | apply wS | apply wT | apply wU)) | ((with_reducible (first | apply wV | apply wW | apply wX | (apply wY [] hTT cf0_ok noM_ok mixed; (focus kernel_rfl)))); (focus (simp only [Tryz.f66, hlt', hll', go_sem]; with_reducible rfl))) | (with_reducible refine wZ hTT cf0_ok noM_ok ?_) | (with_reducible refine wa ?_; refine And.intro ?_ ?_; (focus kernel_rfl)))
      refine ⟨rfl, rfl, _, rfl, ?_⟩
      rw [hm, hnil]
      unfold befG
      rw [decide_eq_true (by simp; omega)]; rfl
    · have hll' : ¬ (a.length : Int) < b.length := by omega
      repeat (first | (with_reducible (first | apply wA | apply wB | apply wC | apply wD | apply wE | apply wF | apply wG | apply wH | apply wI | apply wJ | apply wK | apply wL | apply wM | apply wN | apply wO | apply wP | apply wQ rfl | apply wR | apply wS | apply wT | apply wU)) | ((with_reducible (first | apply wV | apply wW | apply wX | (apply wY [] hTT cf0_ok noM_ok mixed; (focus kernel_rfl)))); (focus (simp only [Tryz.f66, hlt', hll', go_sem]; with_reducible rfl))) | (with_reducible refine wZ hTT cf0_ok noM_ok ?_) | (with_reducible refine wa ?_; refine And.intro ?_ ?_; (focus kernel_rfl)))
      refine ⟨rfl, rfl, _, rfl, ?_⟩
      rw [hm, hnil]
      unfold befG
      rw [decide_eq_false (by simp; omega)]; rfl
def c66 : List PV → List Box → Option (PRes × List Box)
  | [v, w], sg => match decIs1 v, decIs1 w with
    | some a, some b => if a.length ≤ maxLen then some (.ret (.bool (befG a b)), sg) else none
    | _, _ => none
  | _, _ => none
theorem c66_ok : ConOk Tryz.prog 66 c66 := ConOk.of0 (ent Tryz.func66 rfl) fun args sg r sg' h => by
  unfold c66 at h
  split at h <;> try (cases h; done)
  split at h <;> try (cases h; done)
  rename_i h1 h2
  split at h <;> cases h
  rename_i hc
  obtain ⟨za, rfl, ha⟩ := decIs1_inv h1
  obtain ⟨zb, rfl, hb⟩ := decIs1_inv h2
  exact ⟨_, rfl, rfl, by rw [ltBL_cons, ltB_isl, ltBL_cons, ltB_isl]; rfl, Before_66 _ _ _ _ ha hb hc⟩
/-- Whether a pose is fine on a stage. -/
def finG (s : Int) (ls : List Lb) (g : Stg) (ps : List Int) : Bool :=
  match g.hs, g.rs with
  | [h0, h1], [r0, r1] => fineG s ls ps g.e h0 h1 ((ends s ls ps).getD r0.toNat (0, 0)) ((ends s ls ps).getD r1.toNat (0, 0))
  | _, _ => false
/-- What a right stage has. -/
structure StgIn (s : Int) (ls : List Lb) (g : Stg) (h0 h1 : Fld) (r0 r1 : Int) : Prop where
  hs : g.hs = [h0, h1]
  rs : g.rs = [r0, r1]
  e : fldB g.e = true
  a : fldB h0 = true
  b : fldB h1 = true
  l0 : 0 ≤ r0 ∧ r0 < ls.length
  l1 : 0 ≤ r1 ∧ r1 < ls.length
  ne : r0 ≠ r1
theorem stgIn {s : Int} {ls : List Lb} {g : Stg} (h : stgG ls g = true) : ∃ h0 h1 r0 r1, StgIn s ls g h0 h1 r0 r1 := by
  unfold stgG at h
  split at h
  · rename_i h0 h1 r0 r1 e1 e2
    simp only [Bool.and_eq_true, limbG, inB, decide_eq_true_eq, bne_iff_ne] at h
    obtain ⟨⟨⟨⟨⟨a, b⟩, c⟩, d⟩, e⟩, f⟩ := h
    exact ⟨h0, h1, r0, r1, e1, e2, a, b, c, by omega, by omega, f⟩
  · cases h
theorem ends_ln {s : Int} {ls : List Lb} {ps : List Int} (hf : figB s ls = true) (hp : poseG ls ps = true) : (ends s ls ps).length = ls.length := (ends_at hf hp).lo
theorem ends_get {s : Int} {ls : List Lb} {ps : List Int} (hf : figB s ls = true) (hp : poseG ls ps = true) {r : Int} (h : 0 ≤ r ∧ r < ls.length) : (ends s ls ps)[r.toNat]? = some ((ends s ls ps).getD r.toNat (0, 0)) := by
  have hl := ends_ln hf hp
  have hlt : r.toNat < (ends s ls ps).length := by omega
  rw [List.getD_eq_getElem?_getD, List.getElem?_eq_getElem hlt]; rfl
theorem fig_len {s : Int} {ls : List Lb} (hf : figB s ls = true) : 1 ≤ ls.length ∧ ls.length ≤ 5 := by
  obtain ⟨_, _, h1, h2, _⟩ := fig_limbs hf
  omega
theorem finG_in {s : Int} {ls : List Lb} {g : Stg} {h0 h1 : Fld} {r0 r1 : Int} (H : StgIn s ls g h0 h1 r0 r1) (ps : List Int) : finG s ls g ps = fineG s ls ps g.e h0 h1 ((ends s ls ps).getD r0.toNat (0, 0)) ((ends s ls ps).getD r1.toNat (0, 0)) := by
  unfold finG
  rw [H.hs, H.rs]
end Go.Pv
