/- Contracts: Ends, hangs, field. -/
import Derived.Test.YtmnocohggpmjcaaGreatDoorQkPlain
import Derived.Test.YtmnocohggpmjcaaGreatDoorQgEnds
set_option linter.all false
namespace Go.Pv
open Go Go.RowKit Go.Proofs
set_option maxRecDepth 10000
set_option maxHeartbeats 4000000

def cfQ : CallF := cfAdd (cfAdd (cfAdd cfD 85 c85) 86 c86) 87 c87
theorem cfQ_ok : CallFOk Tryz.prog cfQ := cfAdd_ok (cfAdd_ok (cfAdd_ok cfD_ok c85_ok) c86_ok) c87_ok

def endsR (s : Int) (ls : List Lb) (ps : List Int) : PV :=
  match figB s ls && poseG ls ps with
  | true => .tuple [.sl .a ((ends s ls ps).map encPl), ii 0]
  | false => .tuple [.sl .n [], ii 2]

theorem ends_len {s : Int} {ls : List Lb} {ps : List Int} (hf : figB s ls = true) (hp : poseG ls ps = true) : (ends s ls ps).length = ls.length := (ends_at hf hp).lo
theorem Ends_30 (s : Int) (z zp : Z) (ls : List Lb) (ps : List Int) (hzo : zOk z (ls.map encLb) = true) (hp : zOk zp (ps.map ii) = true) :
    CallOk Tryz.prog 30 [.agg [ii s, .sl z (ls.map encLb)], .sl zp (ps.map ii)] [] (.ret (endsR s ls ps)) [] := by
  refine CallOk.ofF hTT Tryz.func30 rfl rfl ?_
  have hd := decFig_enc s z ls hzo
  have hd2 := decIs1_enc hp
  unfold endsR
  cases a1 : figB s ls
  · repeat (first | (with_reducible (first | refine wA ?_ | refine wB ?_ | refine wC ?_ | refine wD ?_ | refine wE ?_ | refine wF ?_ | refine wG ?_ | refine wH ?_ | refine wI ?_ | refine wJ ?_ | refine wK ?_ | refine wL ?_ | refine wM ?_ | refine wN ?_ | refine wO ?_ | refine wP ?_ | refine wQ rfl ?_ | refine wR ?_ | refine wS ?_ | refine wT ?_ | refine wU ?_)) | ((with_reducible (first | apply wV | apply wW | apply wX | (apply wY [] hTT cfQ_ok noM_ok mixed; (focus kernel_rfl)))); (focus (simp only [Tryz.f30, cfQ, c85, hd, a1, go_sem]; rfl))) | (with_reducible refine wZ hTT cfQ_ok noM_ok ?_) | (with_reducible refine wa ?_; refine And.intro ?_ ?_; (focus kernel_rfl)))
    exact ⟨rfl, rfl, _, rfl, rfl⟩
  obtain ⟨_, _, l1, l5, _⟩ := fig_limbs a1
  have hl1000 : ls.length ≤ 1000 := by omega
  cases a2 : poseG ls ps
  · repeat (first | (with_reducible (first | refine wA ?_ | refine wB ?_ | refine wC ?_ | refine wD ?_ | refine wE ?_ | refine wF ?_ | refine wG ?_ | refine wH ?_ | refine wI ?_ | refine wJ ?_ | refine wK ?_ | refine wL ?_ | refine wM ?_ | refine wN ?_ | refine wO ?_ | refine wP ?_ | refine wQ rfl ?_ | refine wR ?_ | refine wS ?_ | refine wT ?_ | refine wU ?_)) | ((with_reducible (first | apply wV | apply wW | apply wX | (apply wY [] hTT cfQ_ok noM_ok mixed; (focus kernel_rfl)))); (focus (simp only [Tryz.f30, cfQ, c85, c86, hd, hd2, a1, a2, hl1000, go_sem]; rfl))) | (with_reducible refine wZ hTT cfQ_ok noM_ok ?_) | (with_reducible refine wa ?_; refine And.intro ?_ ?_; (focus kernel_rfl)))
    exact ⟨rfl, rfl, _, rfl, rfl⟩
  have hlen := ends_len a1 a2
  generalize hO : ends s ls ps = O at *
  repeat (first | (with_reducible (first | refine wA ?_ | refine wB ?_ | refine wC ?_ | refine wD ?_ | refine wE ?_ | refine wF ?_ | refine wG ?_ | refine wH ?_ | refine wI ?_ | refine wJ ?_ | refine wK ?_ | refine wL ?_ | refine wM ?_ | refine wN ?_ | refine wO ?_ | refine wP ?_ | refine wQ rfl ?_ | refine wR ?_ | refine wS ?_ | refine wT ?_ | refine wU ?_)) | ((with_reducible (first | apply wV | apply wW | apply wX | (apply wY [] hTT cfQ_ok noM_ok mixed; (focus kernel_rfl)))); (focus (simp only [Tryz.f30, cfQ, c85, c86, c87, hd, hd2, a1, a2, hl1000, hO, go_sem]; rfl))) | (with_reducible refine wZ hTT cfQ_ok noM_ok ?_) | (with_reducible refine wa ?_; refine And.intro ?_ ?_; (focus kernel_rfl)))
  refine RunQ.keep [22, 21, 20, 6] (by simp only [go_sem]; rfl) ?_
  refine RunQ.nilRow 6 36 2 (by simp only [go_sem]) (by simp only [go_sem]; rfl) (by simp only [go_sem]; rfl) ?_
  refine RunQ.loop (fun i s' => ∃ out, out.length = i ∧ out ++ O.drop i = O ∧
    s' = ⟨[(22, ii i), (21, ii O.length), (20, .sl .a (O.map encPl)), (6, .ms 1 i)], 32, [.var [ii s, .sl z (ls.map encLb)] false, .row (decide (i = 0)) 36 2 (out.map encPl) false]⟩)
    O.length ⟨[], rfl, rfl, rfl⟩ ?_
  rintro i _ hi ⟨out, ho, hout, rfl⟩
  by_cases hlt : i < O.length
  · obtain ⟨p, hp⟩ : ∃ p, O[i]? = some p := ⟨_, List.getElem?_eq_getElem hlt⟩
    have hp' : (O.map encPl)[i]? = some (.agg [ii p.1, ii p.2]) := map_get hp
    have hlt' : (i : Int) < O.length := by omega
    have e4 : IntKind.i64.wrap ((i : Int) + 1) = ((i + 1 : Nat) : Int) := wrap_id (by omega) (by omega)
    have r2 : i + 1 ≤ maxLen := by unfold maxLen; omega
    have r3 : (i + 1) * 16 ≤ 140737488355328 := by omega
    have hd1 : decide (i + 1 = 0) = false := by simp
    repeat (first | (with_reducible (first | refine wA ?_ | refine wB ?_ | refine wC ?_ | refine wD ?_ | refine wE ?_ | refine wF ?_ | refine wG ?_ | refine wH ?_ | refine wI ?_ | refine wJ ?_ | refine wK ?_ | refine wL ?_ | refine wM ?_ | refine wN ?_ | refine wO ?_ | refine wP ?_ | refine wQ rfl ?_ | refine wR ?_ | refine wS ?_ | refine wT ?_ | refine wU ?_)) | ((with_reducible (first | apply wV | apply wW | apply wX | (apply wY [] hTT cfQ_ok noM_ok mixed; (focus kernel_rfl)))); (focus (simp only [Tryz.f30, cfQ, hp', hlt', e4, r2, r3, ho, go_sem]; rfl))) | (with_reducible refine wZ hTT cfQ_ok noM_ok ?_) | (with_reducible refine wa ?_; refine And.intro ?_ ?_; (focus kernel_rfl)))
    refine roundQ.t 2 [22, 21, 20, 6] hlt (by simp only [ltB_pls, ltB_lbs, go_sem]) ⟨out ++ [p], by simp [ho], by rw [List.append_assoc, List.singleton_append, ← drop_get hp]; exact hout, by simp only [hd1, List.map_append, encPl, go_sem]⟩
  · have hlt' : ¬ (i : Int) < O.length := by omega
    have hi0 : ¬ i = 0 := by omega
    repeat (first | (with_reducible (first | refine wA ?_ | refine wB ?_ | refine wC ?_ | refine wD ?_ | refine wE ?_ | refine wF ?_ | refine wG ?_ | refine wH ?_ | refine wI ?_ | refine wJ ?_ | refine wK ?_ | refine wL ?_ | refine wM ?_ | refine wN ?_ | refine wO ?_ | refine wP ?_ | refine wQ rfl ?_ | refine wR ?_ | refine wS ?_ | refine wT ?_ | refine wU ?_)) | ((with_reducible (first | apply wV | apply wW | apply wX | (apply wY [] hTT cfQ_ok noM_ok mixed; (focus kernel_rfl)))); (focus (simp only [Tryz.f30, hlt', go_sem]; rfl))) | (with_reducible refine wZ hTT cfQ_ok noM_ok ?_) | (with_reducible refine wa ?_; refine And.intro ?_ ?_; (focus kernel_rfl)))
    refine ⟨rfl, rfl, _, rfl, ?_⟩
    have hen : out = O := by rw [← hout, List.drop_eq_nil_of_le (by omega)]; simp
    subst hen
    have := leave_row2 (sg := [.var [ii s, .sl z (ls.map encLb)] false, .row (decide (i = 0)) 36 2 (out.map encPl) false]) (id := 1) (m := i) rfl (closedL_map (fun _ => rfl) out) (by simp [ho]) (c := ii 0) rfl
    simpa [hi0, tup] using this
def c30 : List PV → List Box → Option (PRes × List Box)
  | [v, p], sg => match decFig v, decIs1 p with
    | some (s, ls), some ps => some (.ret (endsR s ls ps), sg)
    | _, _ => none
  | _, _ => none
theorem zOk_n {α : Type} {g : α → PV} {z : Z} {l : List α} (h : z = .n → l = []) : zOk z (l.map g) = true := by
  cases z
  · rw [h rfl]; rfl
  · rfl
  · rfl
theorem c30_ok : ConOk Tryz.prog 30 c30 := ConOk.of0 (ent Tryz.func30 rfl) fun args sg r sg' h => by
  unfold c30 at h
  split at h <;> try (cases h; done)
  split at h <;> cases h
  rename_i h1 h2
  obtain ⟨z, rfl, hz⟩ := decFig_inv h1
  obtain ⟨zp, rfl, hzp⟩ := decIs1_inv h2
  exact ⟨_, rfl, rfl, by rw [ltBL_cons, ltB_fig, ltBL_cons, ltB_isl]; rfl, Ends_30 _ _ _ _ _ (zOk_n hz) (zOk_n hzp)⟩
def c33 : List PV → List Box → Option (PRes × List Box)
  | [.int .i64 a, .int .i64 b, .int .i64 c, .int .i64 d], sg => some (.ret (.agg [ii a, ii b, ii c, ii d]), sg)
  | _, _ => none
theorem c33_ok : ConOk Tryz.prog 33 c33 := ConOk.of0 (ent Tryz.func33 rfl) fun args sg r sg' h => by
  unfold c33 at h
  split at h <;> cases h
  exact ⟨_, rfl, rfl, rfl, field_33 _ _ _ _⟩

theorem hangG_zero (ls : List Lb) (on i : Int) : hangG ls on 0 i = false := rfl
theorem hangG_succ (ls : List Lb) (on : Int) (k : Nat) (i : Int) : hangG ls on (k + 1) i = if 0 ≤ i then (if i = on then true else match ls[i.toNat]? with
    | some x => hangG ls on k x.p
    | none => false) else false := rfl
theorem hangG_neg {ls : List Lb} {on i : Int} (k : Nat) (h : ¬ 0 ≤ i) : hangG ls on k i = false := by
  cases k
  · rfl
  · rw [hangG_succ, if_neg h]
theorem hangG_eq {ls : List Lb} {on i : Int} (k : Nat) (h : 0 ≤ i) (e : i = on) : hangG ls on (k + 1) i = true := by rw [hangG_succ, if_pos h, if_pos e]
theorem hangG_up {ls : List Lb} {on i : Int} (k : Nat) (h : 0 ≤ i) (e : i ≠ on) {x : Lb} (hx : ls[i.toNat]? = some x) : hangG ls on (k + 1) i = hangG ls on k x.p := by rw [hangG_succ, if_pos h, if_neg e, hx]

theorem hangs_31 (s : Int) (z : Z) (ls : List Lb) (k on : Int) (hz : z = .n → ls = []) (hf : figB s ls = true) (h0 : 0 ≤ k) (hk : k < ls.length) :
    CallOk Tryz.prog 31 [.agg [ii s, .sl z (ls.map encLb)], ii k, ii on] [] (.ret (.bool (hangG ls on (ls.length + 1) k))) [] := by
  refine CallOk.of0 hTT Tryz.func31 rfl rfl ?_
  obtain ⟨_, _, l1, l5, hlb⟩ := fig_limbs hf
  have hz' : z ≠ .n := fun e => by rw [hz e] at l1; simp at l1
  repeat (first | (with_reducible (first | refine wA ?_ | refine wB ?_ | refine wC ?_ | refine wD ?_ | refine wE ?_ | refine wF ?_ | refine wG ?_ | refine wH ?_ | refine wI ?_ | refine wJ ?_ | refine wK ?_ | refine wL ?_ | refine wM ?_ | refine wN ?_ | refine wO ?_ | refine wP ?_ | refine wQ rfl ?_ | refine wR ?_ | refine wS ?_ | refine wT ?_ | refine wU ?_)) | ((with_reducible (first | apply wV | apply wW | apply wX | (apply wY [] hTT cf0_ok noM_ok mixed; (focus kernel_rfl)))); (focus (simp only [Tryz.f31, go_sem]; rfl))) | (with_reducible refine wZ hTT cf0_ok noM_ok ?_) | (with_reducible refine wa ?_; refine And.intro ?_ ?_; (focus kernel_rfl)))
  refine RunQ.keep [7, 6, 3, 1, 2] (by simp only [go_sem]; rfl) ?_
  refine RunQ.loop (fun i s' => ∃ v : Int, v < ls.length ∧ hangG ls on (ls.length + 1) k = hangG ls on (ls.length + 1 - i) v ∧
    s' = ⟨[(7, ii i), (6, .bool false), (3, .bp 0 0), (1, ii v), (2, ii on)], 28, [.var [ii s, .sl z (ls.map encLb)] false]⟩) (ls.length + 1) ⟨k, hk, rfl, rfl⟩ ?_
  rintro i _ hi ⟨v, hv, hm, rfl⟩
  by_cases hlt : i < ls.length + 1
  · have hle : (i : Int) ≤ ls.length := by omega
    obtain ⟨j, hj⟩ : ∃ j, ls.length + 1 - i = j + 1 := ⟨ls.length - i, by omega⟩
    have hj' : ls.length + 1 - (i + 1) = j := by omega
    rw [hj] at hm
    by_cases hv0 : 0 ≤ v
    · by_cases hon : v = on
      · have hon' : (v == on) = true := by simp [hon]
        repeat (first | (with_reducible (first | refine wA ?_ | refine wB ?_ | refine wC ?_ | refine wD ?_ | refine wE ?_ | refine wF ?_ | refine wG ?_ | refine wH ?_ | refine wI ?_ | refine wJ ?_ | refine wK ?_ | refine wL ?_ | refine wM ?_ | refine wN ?_ | refine wO ?_ | refine wP ?_ | refine wQ rfl ?_ | refine wR ?_ | refine wS ?_ | refine wT ?_ | refine wU ?_)) | ((with_reducible (first | apply wV | apply wW | apply wX | (apply wY [] hTT cf0_ok noM_ok mixed; (focus kernel_rfl)))); (focus (simp only [Tryz.f31, hle, hv0, ge_iff_le, hon', go_sem]; rfl))) | (with_reducible refine wZ hTT cf0_ok noM_ok ?_) | (with_reducible refine wa ?_; refine And.intro ?_ ?_; (focus kernel_rfl)))
        exact ⟨rfl, rfl, _, rfl, by rw [hm, hangG_eq j hv0 hon]; rfl⟩
      · have hon' : (v == on) = false := by simp [hon]
        obtain ⟨x, hx⟩ : ∃ x, ls[v.toNat]? = some x := ⟨_, List.getElem?_eq_getElem (by omega)⟩
        have hx' : (ls.map encLb)[v.toNat]? = some (.agg [ii x.p, ii x.l, ii x.lo, ii x.hi, ii x.w]) := map_get hx
        have hb := lb_d (hlb _ x hx)
        have e4 : IntKind.i64.wrap ((i : Int) + 1) = ((i + 1 : Nat) : Int) := wrap_id (by omega) (by omega)
        repeat (first | (with_reducible (first | refine wA ?_ | refine wB ?_ | refine wC ?_ | refine wD ?_ | refine wE ?_ | refine wF ?_ | refine wG ?_ | refine wH ?_ | refine wI ?_ | refine wJ ?_ | refine wK ?_ | refine wL ?_ | refine wM ?_ | refine wN ?_ | refine wO ?_ | refine wP ?_ | refine wQ rfl ?_ | refine wR ?_ | refine wS ?_ | refine wT ?_ | refine wU ?_)) | ((with_reducible (first | apply wV | apply wW | apply wX | (apply wY [] hTT cf0_ok noM_ok mixed; (focus kernel_rfl)))); (focus (simp only [Tryz.f31, hle, hv0, ge_iff_le, hon', hx', hz', e4, go_sem]; rfl))) | (with_reducible refine wZ hTT cf0_ok noM_ok ?_) | (with_reducible refine wa ?_; refine And.intro ?_ ?_; (focus kernel_rfl)))
        refine roundQ.t 1 [7, 6, 3, 1, 2] hlt (by simp only [ltB_lbs, go_sem]) ⟨x.p, by omega, by rw [hm, hj', hangG_up j hv0 hon hx], by simp only [go_sem]⟩
    · repeat (first | (with_reducible (first | refine wA ?_ | refine wB ?_ | refine wC ?_ | refine wD ?_ | refine wE ?_ | refine wF ?_ | refine wG ?_ | refine wH ?_ | refine wI ?_ | refine wJ ?_ | refine wK ?_ | refine wL ?_ | refine wM ?_ | refine wN ?_ | refine wO ?_ | refine wP ?_ | refine wQ rfl ?_ | refine wR ?_ | refine wS ?_ | refine wT ?_ | refine wU ?_)) | ((with_reducible (first | apply wV | apply wW | apply wX | (apply wY [] hTT cf0_ok noM_ok mixed; (focus kernel_rfl)))); (focus (simp only [Tryz.f31, hle, hv0, ge_iff_le, go_sem]; rfl))) | (with_reducible refine wZ hTT cf0_ok noM_ok ?_) | (with_reducible refine wa ?_; refine And.intro ?_ ?_; (focus kernel_rfl)))
      exact ⟨rfl, rfl, _, rfl, by rw [hm, hangG_neg _ hv0]; rfl⟩
  · have hle : ¬ (i : Int) ≤ ls.length := by omega
    have h00 : ls.length + 1 - i = 0 := by omega
    rw [h00, hangG_zero] at hm
    repeat (first | (with_reducible (first | refine wA ?_ | refine wB ?_ | refine wC ?_ | refine wD ?_ | refine wE ?_ | refine wF ?_ | refine wG ?_ | refine wH ?_ | refine wI ?_ | refine wJ ?_ | refine wK ?_ | refine wL ?_ | refine wM ?_ | refine wN ?_ | refine wO ?_ | refine wP ?_ | refine wQ rfl ?_ | refine wR ?_ | refine wS ?_ | refine wT ?_ | refine wU ?_)) | ((with_reducible (first | apply wV | apply wW | apply wX | (apply wY [] hTT cf0_ok noM_ok mixed; (focus kernel_rfl)))); (focus (simp only [Tryz.f31, hle, go_sem]; rfl))) | (with_reducible refine wZ hTT cf0_ok noM_ok ?_) | (with_reducible refine wa ?_; refine And.intro ?_ ?_; (focus kernel_rfl)))
    exact ⟨rfl, rfl, _, rfl, by rw [hm]; rfl⟩
def c31 : List PV → List Box → Option (PRes × List Box)
  | [v, .int .i64 k, .int .i64 on], sg => match decFig v with
    | some (s, ls) => if figB s ls = true ∧ 0 ≤ k ∧ k < ls.length then some (.ret (.bool (hangG ls on (ls.length + 1) k)), sg) else none
    | none => none
  | _, _ => none
theorem c31_ok : ConOk Tryz.prog 31 c31 := ConOk.of0 (ent Tryz.func31 rfl) fun args sg r sg' h => by
  unfold c31 at h
  split at h <;> try (cases h; done)
  split at h <;> try (cases h; done)
  rename_i h1
  split at h <;> cases h
  rename_i hc
  obtain ⟨z, rfl, hz⟩ := decFig_inv h1
  exact ⟨_, rfl, rfl, by rw [ltBL_cons, ltB_fig]; rfl, hangs_31 _ _ _ _ _ hz hc.1 hc.2.1 hc.2.2⟩
end Go.Pv
