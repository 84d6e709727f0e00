/- How many lists lie in spans. In plain terms. -/
import Derived.Test.YtmnocohggpmjcaaGreatDoorQmLists
import Derived.Test.YtmnocohggpmjcaaGreatDoorQyWay
import Derived.Test.YtmnocohggpmjcaaGreatDoorQpHands
import Derived.Test.YtmnocohggpmjcaaGreatDoorQtA
import Derived.Test.YtmnocohggpmjcaaGreatDoorQlTop
set_option linter.all false
namespace Go.Pv
open Go Go.RowKit Go.Proofs
def cardS : List (Int × Int) → Nat
  | [] => 1
  | x :: r => (x.2 + 1 - x.1).toNat * cardS r
theorem sum_const {α : Type} (f : α → Nat) (c : Nat) : ∀ l : List α, (∀ a ∈ l, f a = c) → (l.map f).sum = l.length * c
  | [], _ => by simp
  | a :: l, h => by
    rw [List.map_cons, List.sum_cons, h a (by simp), sum_const f c l fun x hx => h x (by simp [hx]), List.length_cons, Nat.succ_mul, Nat.add_comm]
theorem exts_card : ∀ (sp : List (Int × Int)) (now : List Int), (exts sp now).length = cardS sp
  | [], _ => rfl
  | x :: r, now => by
    show ((rng x.1 x.2).flatMap fun n => exts r (now ++ [n])).length = _
    rw [List.length_flatMap, sum_const _ (cardS r) _ fun n _ => exts_card r _]
    unfold rng
    simp [cardS]
end Go.Pv
namespace Go.Pv
open Go Go.RowKit Go.Proofs
def idxG : List Lb → List Int → Nat
  | x :: ls, t :: ps => (t - x.lo).toNat * cardS (spansG ls) + idxG ls ps
  | _, _ => 0
def numG : Int → List Lb → List Int → Int
  | n, x :: ls, t :: ps => numG (n * (x.hi - x.lo + 1) + t - x.lo) ls ps
  | n, _, _ => n
theorem flatMap_const {α β : Type} (f : α → List β) (c : Nat) : ∀ (l : List α) (i j : Nat) (a : α), (∀ a ∈ l, (f a).length = c) → l[i]? = some a → j < c → (l.flatMap f)[i * c + j]? = (f a)[j]?
  | [], i, j, a, _, h, _ => by simp at h
  | b :: l, 0, j, a, hc, h, hj => by
    simp at h; subst h
    rw [List.flatMap_cons, Nat.zero_mul, Nat.zero_add, List.getElem?_append_left (by rw [hc b (by simp)]; exact hj)]
  | b :: l, i + 1, j, a, hc, h, hj => by
    have hb := hc b (by simp)
    rw [List.flatMap_cons, List.getElem?_append_right (by rw [hb, Nat.succ_mul]; omega), hb]
    have e : (i + 1) * c + j - c = i * c + j := by rw [Nat.succ_mul]; omega
    rw [e]
    exact flatMap_const f c l i j a (fun x hx => hc x (by simp [hx])) h hj
theorem idx_get : ∀ (ls : List Lb) (now ps : List Int), poseG ls ps = true → (exts (spansG ls) now)[idxG ls ps]? = some (now ++ ps) ∧ idxG ls ps < cardS (spansG ls)
  | [], now, ps, h => by
    cases ps with
    | nil => exact ⟨by simp [idxG, exts, spansG], by simp [idxG, cardS, spansG]⟩
    | cons a r => cases h
  | x :: ls, now, [], h => by cases h
  | x :: ls, now, t :: ps, h => by
    simp only [poseG, Bool.and_eq_true, inB, decide_eq_true_eq] at h
    obtain ⟨h1, h2⟩ := idx_get ls (now ++ [t]) ps h.2
    have hlt : (t - x.lo).toNat < (x.hi + 1 - x.lo).toNat := by omega
    have hr : (rng x.lo x.hi)[(t - x.lo).toNat]? = some t := by
      unfold rng
      rw [List.getElem?_map, List.getElem?_range hlt]
      simp; omega
    have hc : ∀ a ∈ rng x.lo x.hi, (exts (spansG ls) (now ++ [a])).length = cardS (spansG ls) := fun a _ => exts_card _ _
    refine ⟨?_, ?_⟩
    · show ((rng x.lo x.hi).flatMap fun n => exts (spansG ls) (now ++ [n]))[(t - x.lo).toNat * cardS (spansG ls) + idxG ls ps]? = _
      rw [flatMap_const _ _ _ _ _ _ hc hr h2, h1]
      simp
    · show (t - x.lo).toNat * cardS (spansG ls) + idxG ls ps < (x.hi + 1 - x.lo).toNat * cardS (spansG ls)
      have : ((t - x.lo).toNat + 1) * cardS (spansG ls) ≤ (x.hi + 1 - x.lo).toNat * cardS (spansG ls) := Nat.mul_le_mul_right _ hlt
      rw [Nat.succ_mul] at this
      omega
theorem num_idx : ∀ (ls : List Lb) (ps : List Int) (n : Int), poseG ls ps = true → numG n ls ps = n * (cardS (spansG ls) : Int) + (idxG ls ps : Int)
  | [], ps, n, h => by
    cases ps with
    | nil => simp [numG, cardS, spansG, idxG]
    | cons a r => cases h
  | x :: ls, [], n, h => by cases h
  | x :: ls, t :: ps, n, h => by
    simp only [poseG, Bool.and_eq_true, inB, decide_eq_true_eq] at h
    have ih := num_idx ls ps (n * (x.hi - x.lo + 1) + t - x.lo) h.2
    show numG (n * (x.hi - x.lo + 1) + t - x.lo) ls ps = n * (((x.hi + 1 - x.lo).toNat * cardS (spansG ls) : Nat) : Int) + (((t - x.lo).toNat * cardS (spansG ls) + idxG ls ps : Nat) : Int)
    rw [ih]
    have e1 : ((x.hi + 1 - x.lo).toNat : Int) = x.hi - x.lo + 1 := by omega
    have e2 : ((t - x.lo).toNat : Int) = t - x.lo := by omega
    rw [Int.natCast_mul, Int.natCast_add, Int.natCast_mul, e1, e2, ← Int.mul_assoc, show n * (x.hi - x.lo + 1) + t - x.lo = n * (x.hi - x.lo + 1) + (t - x.lo) by omega, Int.add_mul, Int.add_assoc]
theorem poses_idx {ls : List Lb} {ps : List Int} (h : poseG ls ps = true) : (posesG ls)[idxG ls ps]? = some ps := by
  have := (idx_get ls [] ps h).1
  rw [List.nil_append] at this
  exact this
theorem poses_nodup (ls : List Lb) : (posesG ls).Nodup := by
  have := exts_pair (spansG ls) []
  refine List.Pairwise.imp ?_ this
  intro a b h e
  subst e
  rw [befG_irr] at h
  cases h
theorem idx_inj {ls : List Lb} {i : Nat} {l : List Int} (h : (posesG ls)[i]? = some l) : i = idxG ls l := by
  have hp : poseG ls l = true := mem_poses.1 (List.mem_of_getElem? h)
  have h2 := poses_idx hp
  have hn := List.pairwise_iff_getElem.1 (poses_nodup ls)
  obtain ⟨l1, e1⟩ := List.getElem?_eq_some_iff.1 h
  obtain ⟨l2, e2⟩ := List.getElem?_eq_some_iff.1 h2
  rcases Nat.lt_trichotomy i (idxG ls l) with hlt | he | hlt
  · exact absurd (by rw [e1, e2]) (hn _ _ l1 l2 hlt)
  · exact he
  · exact absurd (by rw [e1, e2]) (hn _ _ l2 l1 hlt)
/-- The distance; -1 for what was not met. -/
def dI (Q : Dst) (l : List Int) : Int := match dO Q l with
  | some d => d
  | none => -1
def farL (ls : List Lb) (Q : Dst) : List Int := (posesG ls).map (dI Q)
theorem dO_snoc {Q : Dst} {q l : List Int} {d : Nat} (h : hasK Q q = false) : dO (Q ++ [(q, d)]) l = if l = q then some d else dO Q l := by
  unfold dO
  rw [List.find?_append]
  by_cases hl : l = q
  · subst hl
    have : (Q.find? fun x => decide (x.1 = l)) = none := by
      have := dO_none.2 h
      unfold dO at this
      exact Option.map_eq_none_iff.1 this
    rw [this, if_pos rfl]
    simp
  · rw [if_neg hl]
    have : ([(q, d)].find? fun x => decide (x.1 = l)) = none := by simp [Ne.symm hl, fun e => hl (Eq.symm e)]
    rw [this, Option.or_none]
theorem far_set {ls : List Lb} {Q : Dst} {q : List Int} {d : Nat} (hq : poseG ls q = true) (h : hasK Q q = false) : (farL ls Q).set (idxG ls q) (d : Int) = farL ls (Q ++ [(q, d)]) := by
  refine List.ext_getElem? fun i => ?_
  rw [List.getElem?_set]
  unfold farL
  rw [List.getElem?_map, List.getElem?_map, List.length_map]
  split
  · rename_i hi
    subst hi
    have hp := poses_idx hq
    rw [if_pos (List.getElem?_eq_some_iff.1 hp).1, hp]
    simp [dI, dO_snoc h]
  · rename_i hi
    cases hp : (posesG ls)[i]? with
    | none => rfl
    | some l =>
      have hne : l ≠ q := fun e => by
        subst e
        exact hi (idx_inj hp).symm
      simp [dI, dO_snoc h, hne]
theorem far_get {ls : List Lb} {Q : Dst} {q : List Int} (hq : poseG ls q = true) : (farL ls Q)[idxG ls q]? = some (dI Q q) := by
  unfold farL
  rw [List.getElem?_map, poses_idx hq]; rfl
theorem far_nil (ls : List Lb) : farL ls [] = (posesG ls).map fun _ => (-1 : Int) := rfl
theorem dI_neg {Q : Dst} {q : List Int} : decide (dI Q q < 0) = !hasK Q q := by
  unfold dI
  cases h : dO Q q with
  | none =>
    rw [dO_none.1 h]; rfl
  | some d =>
    have : hasK Q q = true := by
      cases hh : hasK Q q with
      | true => rfl
      | false => rw [dO_none.2 hh] at h; cases h
    rw [this]
    simp
theorem dI_dG {Q : Dst} {q : List Int} (h : hasK Q q = true) : dI Q q = dG Q q := by
  unfold dI dG
  cases hd : dO Q q with
  | none => rw [dO_none.1 hd] at h; cases h
  | some d => rfl
end Go.Pv
namespace Go.Pv
open Go Go.RowKit Go.Proofs
set_option maxRecDepth 10000
set_option maxHeartbeats 4000000
theorem num_snoc : ∀ (ls : List Lb) (ps : List Int) (n : Int) (x : Lb) (t : Int), ls.length = ps.length → numG n (ls ++ [x]) (ps ++ [t]) = numG n ls ps * (x.hi - x.lo + 1) + t - x.lo
  | [], [], n, x, t, _ => rfl
  | y :: ls, u :: ps, n, x, t, h => num_snoc ls ps _ x t (by simpa using h)
  | [], _ :: _, _, _, _, h => by simp at h
  | _ :: _, [], _, _, _, h => by simp at h
theorem num_bd : ∀ (i : Nat) (ls : List Lb) (ps : List Int), i ≤ 5 → i ≤ ls.length → i ≤ ps.length → (∀ (j : Nat) (x : Lb) (t : Int), ls[j]? = some x → ps[j]? = some t → x.lo ≤ t ∧ t ≤ x.hi ∧ -4 ≤ x.lo ∧ x.hi ≤ 4) → 0 ≤ numG 0 (ls.take i) (ps.take i) ∧ numG 0 (ls.take i) (ps.take i) < 9 ^ i
  | 0, ls, ps, _, _, _, _ => by simp [numG]
  | i + 1, ls, ps, h5, h1, h2, hb => by
    obtain ⟨x, hx⟩ : ∃ x, ls[i]? = some x := ⟨_, List.getElem?_eq_getElem (by omega)⟩
    obtain ⟨t, ht⟩ : ∃ t, ps[i]? = some t := ⟨_, List.getElem?_eq_getElem (by omega)⟩
    obtain ⟨b1, b2, b3, b4⟩ := hb i x t hx ht
    have ih := num_bd i ls ps (by omega) (by omega) (by omega) hb
    have e1 : ls.take (i + 1) = ls.take i ++ [x] := by rw [List.take_add_one, hx]; rfl
    have e2 : ps.take (i + 1) = ps.take i ++ [t] := by rw [List.take_add_one, ht]; rfl
    rw [e1, e2, num_snoc _ _ _ _ _ (by simp; omega)]
    generalize numG 0 (ls.take i) (ps.take i) = n at ih ⊢
    have h9 : (9 : Int) ^ (i + 1) = 9 ^ i * 9 := Int.pow_succ ..
    rw [h9]
    generalize (9 : Int) ^ i = m at ih ⊢
    have hk : n * (x.hi - x.lo + 1) ≤ n * 9 := Int.mul_le_mul_of_nonneg_left (by omega) ih.1
    have hk0 : 0 ≤ n * (x.hi - x.lo + 1) := Int.mul_nonneg ih.1 (by omega)
    have hk2 : n * (x.hi - x.lo + 1) + (x.hi - x.lo + 1) = (n + 1) * (x.hi - x.lo + 1) := by rw [Int.add_mul, Int.one_mul]
    have hk3 : (n + 1) * (x.hi - x.lo + 1) ≤ m * (x.hi - x.lo + 1) := Int.mul_le_mul_of_nonneg_right (by omega) (by omega)
    have hk4 : m * (x.hi - x.lo + 1) ≤ m * 9 := Int.mul_le_mul_of_nonneg_left (by omega) (by omega)
    omega
theorem number_103 (s : Int) (z zp : Z) (ls : List Lb) (ps : List Int) (hzo : zOk z (ls.map encLb) = true) (hzp : zOk zp (ps.map ii) = true) (hf : figB s ls = true) (hp : poseG ls ps = true) :
    CallOk Tryz.prog 103 [.agg [ii s, .sl z (ls.map encLb)], .sl zp (ps.map ii)] [] (.ret (ii (idxG ls ps))) [] := by
  refine CallOk.of0 hTT Tryz.func103 rfl rfl ?_
  have hl := fig_len hf
  have hne : ls ≠ [] := fun e => by rw [e] at hl; simp at hl
  have hz : z ≠ .n := fun e => hne (zOk_map hzo e)
  obtain ⟨hpl, hpb⟩ := pose_at hp
  have hpn : zp ≠ .n := fun e => by have := zOk_map hzp e; rw [this] at hpl; simp at hpl; omega
  obtain ⟨_, _, _, _, hlb⟩ := fig_limbs hf
  have hb : ∀ (j : Nat) (x : Lb) (t : Int), ls[j]? = some x → ps[j]? = some t → x.lo ≤ t ∧ t ≤ x.hi ∧ -4 ≤ x.lo ∧ x.hi ≤ 4 := fun j x t hx ht => by
    have h1 := hpb j x t hx ht
    have h2 := hlb j x hx
    simp [lbB, inB] at h2
    omega
  have hbd := fun i (h : i ≤ ps.length) => num_bd i ls ps (by omega) (by omega) h hb
  have hr : (idxG ls ps : Int) = numG 0 (ls.take ps.length) (ps.take ps.length) := by
    rw [hpl, List.take_length, ← hpl, List.take_length, num_idx ls ps 0 hp]; simp
  rw [hr]
  repeat (first | (with_reducible (first | apply wA | apply wB | apply wC | apply wD | apply wE | apply wF | apply wG | apply wH | apply wI | apply wJ | apply wK | apply wL | apply wM | apply wN | apply wO | apply wP | apply wQ rfl | apply wR | apply wS | apply wT | apply wU)) | ((with_reducible (first | apply wV | apply wW | apply wX | (apply wY [] hTT cf0_ok noM_ok mixed; (focus kernel_rfl)))); (focus (simp only [Tryz.f103, go_sem]; with_reducible rfl))) | (with_reducible refine wZ hTT cf0_ok noM_ok ?_) | (with_reducible refine wa ?_; refine And.intro ?_ ?_; (focus kernel_rfl)))
  refine RunQ.keep [6, 5, 2, 1] (by simp only [go_sem]; rfl) ?_
  refine RunQ.loop (fun i s' => s' = ⟨[(6, ii i), (5, ii (numG 0 (ls.take i) (ps.take i))), (2, .bp 0 0), (1, .sl zp (ps.map ii))], 36, [.var [ii s, .sl z (ls.map encLb)] false]⟩) ps.length rfl ?_
  rintro i _ hi rfl
  by_cases hlt : i < ps.length
  · obtain ⟨x, hx⟩ : ∃ x, ls[i]? = some x := ⟨_, List.getElem?_eq_getElem (by omega)⟩
    obtain ⟨t, ht⟩ : ∃ t, ps[i]? = some t := ⟨_, List.getElem?_eq_getElem hlt⟩
    have hx' : (ls.map encLb)[i]? = some (.agg [ii x.p, ii x.l, ii x.lo, ii x.hi, ii x.w]) := map_get hx
    have ht' : (ps.map ii)[i]? = some (ii t) := map_get ht
    have hlt' : (i : Int) < ps.length := by omega
    obtain ⟨b1, b2, b3, b4⟩ := hb i x t hx ht
    have h1 := hbd i (by omega)
    have h2 := hbd (i + 1) (by omega)
    have h9 : (9 : Int) ^ i ≤ 9 ^ 5 := by
      have : 9 ^ i ≤ 9 ^ 5 := Nat.pow_le_pow_right (by decide) (by omega)
      exact_mod_cast this
    have e0 : numG 0 (ls.take (i + 1)) (ps.take (i + 1)) = numG 0 (ls.take i) (ps.take i) * (x.hi - x.lo + 1) + t - x.lo := by
      have e1 : ls.take (i + 1) = ls.take i ++ [x] := by rw [List.take_add_one, hx]; rfl
      have e2 : ps.take (i + 1) = ps.take i ++ [t] := by rw [List.take_add_one, ht]; rfl
      rw [e1, e2, num_snoc _ _ _ _ _ (by simp; omega)]
    rw [e0] at h2
    generalize numG 0 (ls.take i) (ps.take i) = n at h1 h2 e0 ⊢
    have hk : n * (x.hi - x.lo + 1) ≤ n * 9 := Int.mul_le_mul_of_nonneg_left (by omega) h1.1
    have hk0 : 0 ≤ n * (x.hi - x.lo + 1) := Int.mul_nonneg h1.1 (by omega)
    have w1 : IntKind.i64.wrap (x.hi - x.lo) = x.hi - x.lo := wrap_id (by omega) (by omega)
    have w2 : IntKind.i64.wrap (x.hi - x.lo + 1) = x.hi - x.lo + 1 := wrap_id (by omega) (by omega)
    have w3 : IntKind.i64.wrap (n * (x.hi - x.lo + 1)) = n * (x.hi - x.lo + 1) := wrap_id (by omega) (by omega)
    have w4 : IntKind.i64.wrap (n * (x.hi - x.lo + 1) + t) = n * (x.hi - x.lo + 1) + t := wrap_id (by omega) (by omega)
    have w5 : IntKind.i64.wrap (n * (x.hi - x.lo + 1) + t - x.lo) = n * (x.hi - x.lo + 1) + t - x.lo := wrap_id (by omega) (by omega)
    have e4 : IntKind.i64.wrap ((i : Int) + 1) = ((i + 1 : Nat) : Int) := wrap_id (by omega) (by omega)
    repeat (first | (with_reducible (first | apply wA | apply wB | apply wC | apply wD | apply wE | apply wF | apply wG | apply wH | apply wI | apply wJ | apply wK | apply wL | apply wM | apply wN | apply wO | apply wP | apply wQ rfl | apply wR | apply wS | apply wT | apply wU)) | ((with_reducible (first | apply wV | apply wW | apply wX | (apply wY [] hTT cf0_ok noM_ok mixed; (focus kernel_rfl)))); (focus (simp only [Tryz.f103, hlt', hx', ht', hz, hpn, w1, w2, w3, w4, w5, e4, List.length_map, go_sem]; with_reducible rfl))) | (with_reducible refine wZ hTT cf0_ok noM_ok ?_) | (with_reducible refine wa ?_; refine And.intro ?_ ?_; (focus kernel_rfl)))
    refine roundQ.t 1 [6, 5, 2, 1] hlt (by simp only [ltB_is, ltB_lbs, go_sem]) (by rw [e0]; simp only [go_sem])
  · have hlt' : ¬ (i : Int) < ps.length := by omega
    obtain rfl : i = ps.length := by omega
    repeat (first | (with_reducible (first | apply wA | apply wB | apply wC | apply wD | apply wE | apply wF | apply wG | apply wH | apply wI | apply wJ | apply wK | apply wL | apply wM | apply wN | apply wO | apply wP | apply wQ rfl | apply wR | apply wS | apply wT | apply wU)) | ((with_reducible (first | apply wV | apply wW | apply wX | (apply wY [] hTT cf0_ok noM_ok mixed; (focus kernel_rfl)))); (focus (simp only [Tryz.f103, hlt', List.length_map, go_sem]; with_reducible rfl))) | (with_reducible refine wZ hTT cf0_ok noM_ok ?_) | (with_reducible refine wa ?_; refine And.intro ?_ ?_; (focus kernel_rfl)))
    exact ⟨rfl, rfl, _, rfl, rfl⟩
def c103 : List PV → List Box → Option (PRes × List Box)
  | [v, p], sg => match decFig v, decIs1 p with
    | some (s, ls), some ps => if figB s ls = true ∧ poseG ls ps = true then some (.ret (ii (idxG ls ps)), sg) else none
    | _, _ => none
  | _, _ => none
theorem c103_ok : ConOk Tryz.prog 103 c103 := ConOk.of0 (ent Tryz.func103 rfl) fun args sg r sg' h => by
  unfold c103 at h
  split at h <;> try (cases h; done)
  split at h <;> try (cases h; done)
  rename_i h1 h2
  split at h <;> cases h
  rename_i hc
  obtain ⟨z, rfl, hz⟩ := decFig_inv h1
  obtain ⟨zp, rfl, hp⟩ := decIs1_inv h2
  exact ⟨_, rfl, rfl, by rw [ltBL_cons, ltB_fig, ltBL_cons, ltB_isl]; rfl, number_103 _ _ _ _ _ (zOk_n' hz) (zOk_n' hp) hc.1 hc.2⟩
theorem cand_take (n i : Nat) (h : i < n) : (candG n).take (2 * (i + 1)) = (candG n).take (2 * i) ++ [((i : Int), -1), ((i : Int), 1)] := by
  obtain ⟨h1, h2⟩ := cand_get h
  rw [show 2 * (i + 1) = 2 * i + 1 + 1 by omega, List.take_add_one, List.take_add_one, h1, h2]
  simp
theorem lT (m : Nat) (l : List (Int × Int)) : ltBL m (l.map encT) = true := ltBL_of_closed m _ (closedL_map (fun _ => rfl) l)
theorem Turns_104 (s : Int) (z : Z) (ls : List Lb) (hne : ls ≠ []) (hs : ls.length ≤ 1000) : CallOk Tryz.prog 104 [.agg [ii s, .sl z (ls.map encLb)]] [] (.ret (.sl .a ((candG ls.length).map encT))) [] := by
  refine CallOk.ofF hTT Tryz.func104 rfl rfl ?_
  repeat (first | (with_reducible (first | apply wA | apply wB | apply wC | apply wD | apply wE | apply wF | apply wG | apply wH | apply wI | apply wJ | apply wK | apply wL | apply wM | apply wN | apply wO | apply wP | apply wQ rfl | apply wR | apply wS | apply wT | apply wU)) | ((with_reducible (first | apply wV | apply wW | apply wX | (apply wY [] hTT cf0_ok noM_ok mixed; (focus kernel_rfl)))); (focus (simp only [Tryz.f104, go_sem]; with_reducible rfl))) | (with_reducible refine wZ hTT cf0_ok noM_ok ?_) | (with_reducible refine wa ?_; refine And.intro ?_ ?_; (focus kernel_rfl)))
  refine RunQ.keep [4, 3, 1] (by simp only [go_sem]; rfl) ?_
  refine RunQ.nilRow 3 130 2 (by simp only [go_sem]) (by simp only [go_sem]; rfl) (by simp only [go_sem]; rfl) ?_
  refine RunQ.loop (fun i s' => s' = ⟨[(4, ii i), (3, .ms 1 (2 * i)), (1, .bp 0 0)], 20, [.var [ii s, .sl z (ls.map encLb)] false, .row (decide (i = 0)) 130 2 (((candG ls.length).take (2 * i)).map encT) false]⟩) ls.length rfl ?_
  rintro i _ hi rfl
  by_cases hlt : i < ls.length
  · have hlt' : (i : Int) < ls.length := by omega
    have e4 : IntKind.i64.wrap ((i : Int) + 1) = ((i + 1 : Nat) : Int) := wrap_id (by omega) (by omega)
    have r2 : 2 * i + 2 ≤ maxLen := by unfold maxLen; omega
    have r3 : (2 * i + 2) * 16 ≤ 140737488355328 := by omega
    have hln : ((candG ls.length).take (2 * i)).length = 2 * i := by rw [List.length_take, cand_len]; omega
    have hd1 : decide (i + 1 = 0) = false := by simp
    have htk := cand_take ls.length i hlt
    have h2i : 2 * (i + 1) = 2 * i + 2 := by omega
    repeat (first | (with_reducible (first | apply wA | apply wB | apply wC | apply wD | apply wE | apply wF | apply wG | apply wH | apply wI | apply wJ | apply wK | apply wL | apply wM | apply wN | apply wO | apply wP | apply wQ rfl | apply wR | apply wS | apply wT | apply wU)) | ((with_reducible (first | apply wV | apply wW | apply wX | (apply wY [] hTT cf0_ok noM_ok mixed; (focus kernel_rfl)))); (focus (simp only [Tryz.f104, hlt', e4, r2, r3, hln, List.length_map, go_sem]; with_reducible rfl))) | (with_reducible refine wZ hTT cf0_ok noM_ok ?_) | (with_reducible refine wa ?_; refine And.intro ?_ ?_; (focus kernel_rfl)))
    refine roundQ.t 2 [4, 3, 1] hlt (by simp only [ltB_lbs, lT, go_sem]) (by rw [htk, h2i, List.map_append]; simp only [hd1, go_sem]; rfl)
  · have hlt' : ¬ (i : Int) < ls.length := by omega
    obtain rfl : i = ls.length := by omega
    have hi0 : decide (ls.length = 0) = false := by simp [hne]
    have htk : (candG ls.length).take (2 * ls.length) = candG ls.length := List.take_of_length_le (by rw [cand_len]; exact Nat.le_refl _)
    rw [hi0, htk]
    repeat (first | (with_reducible (first | apply wA | apply wB | apply wC | apply wD | apply wE | apply wF | apply wG | apply wH | apply wI | apply wJ | apply wK | apply wL | apply wM | apply wN | apply wO | apply wP | apply wQ rfl | apply wR | apply wS | apply wT | apply wU)) | ((with_reducible (first | apply wV | apply wW | apply wX | (apply wY [] hTT cf0_ok noM_ok mixed; (focus kernel_rfl)))); (focus (simp only [Tryz.f104, hlt', List.length_map, go_sem]; with_reducible rfl))) | (with_reducible refine wZ hTT cf0_ok noM_ok ?_) | (with_reducible refine wa ?_; refine And.intro ?_ ?_; (focus kernel_rfl)))
    exact ⟨rfl, rfl, _, rfl, leave_row (id := 1) (z := false) (frz := false) rfl (closedL_map (fun _ => rfl) _) (by rw [List.length_map, cand_len])⟩
def c104 : List PV → List Box → Option (PRes × List Box)
  | [v], sg => match decFig v with
    | some (_, ls) => if ls ≠ [] ∧ ls.length ≤ 1000 then some (.ret (.sl .a ((candG ls.length).map encT)), sg) else none
    | none => none
  | _, _ => none
theorem c104_ok : ConOk Tryz.prog 104 c104 := ConOk.of0 (ent Tryz.func104 rfl) fun args sg r sg' h => by
  unfold c104 at h
  split at h <;> try (cases h; done)
  split at h <;> try (cases h; done)
  rename_i h1
  split at h <;> cases h
  rename_i hc
  obtain ⟨z, rfl, hz⟩ := decFig_inv h1
  exact ⟨_, rfl, rfl, by rw [ltBL_cons, ltB_fig]; rfl, Turns_104 _ _ _ hc.1 hc.2⟩
end Go.Pv
namespace Go.Pv
open Go Go.RowKit Go.Proofs
set_option maxRecDepth 200000
set_option maxHeartbeats 8000000
def nbK (s : Int) (ls : List Lb) (g : Stg) (l : List Int) (k : Nat) : List (List Int) := (((candG ls.length).take k).filter (okT s ls g l)).map (trnG l)
theorem nbK_all (s : Int) (ls : List Lb) (g : Stg) (l : List Int) : nbK s ls g l (2 * ls.length) = nbG s ls g l := by
  unfold nbK nbG nextG
  rw [List.take_of_length_le (by rw [cand_len]; exact Nat.le_refl _), List.map_map]
  rfl
theorem nbK_step {s : Int} {ls : List Lb} {g : Stg} {l : List Int} {k : Nat} {t : Int × Int} (h : (candG ls.length)[k]? = some t) : nbK s ls g l (k + 1) = if okT s ls g l t = true then nbK s ls g l k ++ [trnG l t] else nbK s ls g l k := by
  unfold nbK
  rw [List.take_add_one, h, List.filter_append, List.map_append]
  show _ ++ (([t].filter (okT s ls g l)).map (trnG l)) = _
  rw [List.filter_cons]
  split <;> simp
theorem nbK_sub {s : Int} {ls : List Lb} {g : Stg} {l q : List Int} {k : Nat} (h : q ∈ nbK s ls g l k) : q ∈ nbG s ls g l := by
  unfold nbK at h
  obtain ⟨t, ht, rfl⟩ := List.mem_map.1 h
  rw [List.mem_filter] at ht
  unfold nbG nextG
  rw [List.map_map]
  exact List.mem_map.2 ⟨t, List.mem_filter.2 ⟨List.mem_of_mem_take ht.1, ht.2⟩, rfl⟩
def metE (Q : Dst) : List PV := Q.map fun x => pvA x.1
theorem metc (Q : Dst) : closedL (metE Q) = true := closedL_map (g := fun x : List Int × Nat => pvA x.1) (fun x => (show (pvA x.1).closed = true from closedL_is x.1)) _
def cfYc : CallF := cfAdd (cfAdd (cfAdd (cfAdd (cfAdd (cfAdd cf0 92 c92) 104 c104) 103 c103) 105 c145) 27 c86) 44 c44
theorem cfYc_ok : CallFOk Tryz.prog cfYc := cfAdd_ok (cfAdd_ok (cfAdd_ok (cfAdd_ok (cfAdd_ok (cfAdd_ok cf0_ok c92_ok) c104_ok) c103_ok) c105_ok) c27_ok) c44_ok
theorem far_102 (s : Int) (z zh zr zb : Z) (ls : List Lb) (g : Stg) (b : List Int) (hzo : zOk z (ls.map encLb) = true) (hh : zOk zh (g.hs.map encFld) = true) (hr : zOk zr (g.rs.map ii) = true) (hb : zOk zb (b.map ii) = true) (hf : figB s ls = true) (hg : stgG ls g = true) (hp : poseG ls b = true) :
    CallOk Tryz.prog 102 [.agg [ii s, .sl z (ls.map encLb)], encStg zh zr g, .sl zb (b.map ii)] [] (.ret (.sl .a ((farL ls (awayG s ls g b)).map ii))) [] := by
  refine CallOk.ofF hTT Tryz.func102 rfl rfl ?_
  have hd := decFig_enc s z ls hzo
  have hd2 := decStg_enc hh hr
  have hl := fig_len hf
  have hs : ls.length ≤ maxLen := by unfold maxLen; omega
  have hs2 : ls.length ≤ 1000 := by omega
  have hne : ls ≠ [] := fun e => by rw [e] at hl; simp at hl
  have hbl := (pose_at hp).1
  have hzb : zb ≠ .n := fun e => by
    have := zOk_map hb e
    rw [this] at hbl; simp at hbl; omega
  unfold encStg at hd2 ⊢
  refine RunQ.slA 2 rfl hzb rfl ?_
  have hpl := poses_len hf
  have hplm : (posesG ls).length ≤ maxLen := by unfold maxLen; omega
  have hplb : 8 * (posesG ls).length ≤ 281474976710656 := by omega
  repeat (first | (with_reducible (first | apply wA | ((fail_if_success (refine RunQ.seq (x := .region 2 _ _) ?_)); (apply wB)) | apply wC | apply wD | apply wE | apply wF | apply wG | apply wH | apply wI | apply wJ | apply wK | apply wL | apply wM | apply wN | apply wO | apply wP | apply wQ rfl | apply wR | apply wS | apply wT | apply wU)) | ((with_reducible (first | apply wV | apply wW | apply wX | (apply wY [] hTT cfYc_ok noM_ok mixed; (focus kernel_rfl)))); (focus (simp only [Tryz.f102, cfYc, c92, hd, hf, go_sem]; with_reducible rfl))) | ((fail_if_success (with_reducible show RunQ _ (.region 2 _ _) _ _)); (with_reducible refine wZ hTT cfYc_ok noM_ok ?_)) | (with_reducible refine wa ?_; refine And.intro ?_ ?_; (focus kernel_rfl)))
  refine RunQ.keep [7, 4, 3, 2] (by simp only [go_sem]; rfl) ?_
  repeat (first | (with_reducible (first | apply wA | ((fail_if_success (refine RunQ.seq (x := .region 3 _ _) ?_)); (apply wB)) | apply wC | apply wD | apply wE | apply wF | apply wG | apply wH | apply wI | apply wJ | apply wK | apply wL | apply wM | apply wN | apply wO | apply wP | apply wQ rfl | apply wR | apply wS | apply wT | apply wU)) | ((with_reducible (first | apply wV | apply wW | apply wX | (apply wY [] hTT cfYc_ok noM_ok mixed; (focus kernel_rfl)))); (focus (simp only [Tryz.f102, makeSliceC, hplm, hplb, List.length_map, go_sem]; with_reducible rfl))) | ((fail_if_success (with_reducible show RunQ _ (.region 3 _ _) _ _)); (with_reducible refine wZ hTT cfYc_ok noM_ok ?_)) | (with_reducible refine wa ?_; refine And.intro ?_ ?_; (focus kernel_rfl)))
  refine RunQ.keep [8, 4, 3, 2] (by simp only [go_sem]; rfl) ?_
  have lI : ∀ m (l : List Int), ltBL m (l.map ii) = true := fun m l => ltBL_of_closed m _ (closedL_is l)
  have lM : ∀ m (Q : Dst), ltBL m (metE Q) = true := fun m Q => ltBL_of_closed m _ (metc Q)
  have lTt : ∀ m, ltBL m ((candG ls.length).map encT) = true := fun m => lT m _
  have hrep : List.replicate (posesG ls).length (ii 0) = (List.replicate (posesG ls).length (0 : Int)).map ii := by rw [List.map_replicate]
  have hr1 : ∀ i, i ≤ (posesG ls).length → (List.replicate i (-1 : Int) ++ List.replicate ((posesG ls).length - i) 0).length = (posesG ls).length := fun i h => by simp; omega
  rw [show List.replicate (posesG ls).length (PV.int .i64 0) = (List.replicate 0 (-1 : Int) ++ List.replicate ((posesG ls).length - 0) 0).map ii from by simp]
  repeat (first | (with_reducible (first | apply wA | ((fail_if_success (refine RunQ.seq (x := .region 4 _ _) ?_)); (apply wB)) | apply wC | apply wD | apply wE | apply wF | apply wG | apply wH | apply wI | apply wJ | apply wK | apply wL | apply wM | apply wN | apply wO | apply wP | apply wQ rfl | apply wR | apply wS | apply wT | apply wU)) | ((with_reducible (first | apply wV | apply wW | apply wX | (apply wY [] hTT cfYc_ok noM_ok mixed; (focus kernel_rfl)))); (focus (simp only [Tryz.f102, go_sem]; with_reducible rfl))) | ((fail_if_success (with_reducible show RunQ _ (.region 4 _ _) _ _)); (with_reducible refine wZ hTT cfYc_ok noM_ok ?_)) | (with_reducible refine wa ?_; refine And.intro ?_ ?_; (focus kernel_rfl)))
  refine RunQ.loop (fun i s' => s' = ⟨[(9, ii i), (8, .ms 2 (posesG ls).length), (4, .bp 1 0), (3, .bp 0 0), (2, .sl .a (b.map ii))], 99, [.var [ii s, .sl z (ls.map encLb)] false, .var [ii g.e.a, ii g.e.b, ii g.e.c, ii g.e.d, .sl zh (g.hs.map encFld), .sl zr (g.rs.map ii)] false, .row false 3 1 ((List.replicate i (-1 : Int) ++ List.replicate ((posesG ls).length - i) 0).map ii) false]⟩) (posesG ls).length rfl ?_
  rintro i _ hi rfl
  have hr1i := hr1 i hi
  by_cases hlt : i < (posesG ls).length
  · have hlt' : (i : Int) < (posesG ls).length := by omega
    have e4 : IntKind.i64.wrap ((i : Int) + 1) = ((i + 1 : Nat) : Int) := wrap_id (by omega) (by omega)
    have hge : ((List.replicate i (-1 : Int) ++ List.replicate ((posesG ls).length - i) 0).map ii)[i]? = some (ii 0) := by
      rw [List.getElem?_map, List.getElem?_append_right (by simp), List.length_replicate, Nat.sub_self, List.getElem?_replicate, if_pos (by omega)]; rfl
    have hse : (List.replicate i (-1 : Int) ++ List.replicate ((posesG ls).length - i) 0).set i (-1) = List.replicate (i + 1) (-1 : Int) ++ List.replicate ((posesG ls).length - (i + 1)) 0 := by
      rw [List.set_append_right _ _ (by simp), List.length_replicate, Nat.sub_self, show (posesG ls).length - i = ((posesG ls).length - (i + 1)) + 1 by omega, List.replicate_succ, List.set_cons_zero, List.replicate_succ', List.append_assoc]; rfl
    have hss : setElem (ii 0) 0 [PV.int .i64 (-1)] = ii (-1) := rfl
    repeat (first | (with_reducible (first | apply wA | apply wB | apply wC | apply wD | apply wE | apply wF | apply wG | apply wH | apply wI | apply wJ | apply wK | apply wL | apply wM | apply wN | apply wO | apply wP | apply wQ rfl | apply wR | apply wS | apply wT | apply wU)) | ((with_reducible (first | apply wV | apply wW | apply wX | (apply wY [] hTT cfYc_ok noM_ok mixed; (focus kernel_rfl)))); (focus (simp only [Tryz.f102, hlt', e4, hr1i, hge, hss, set_ii, List.length_map, go_sem]; with_reducible rfl))) | (with_reducible refine wZ hTT cfYc_ok noM_ok ?_) | (with_reducible refine wa ?_; refine And.intro ?_ ?_; (focus kernel_rfl)))
    refine roundQ.t 3 [9, 8, 4, 3, 2] hlt (by simp only [ltB_lbs, ltB_flds, ltB_is, ltB_isl, lI, go_sem]) (by rw [← hse]; simp only [go_sem])
  have hlt' : ¬ (i : Int) < (posesG ls).length := by omega
  obtain rfl : i = (posesG ls).length := by omega
  have hfn : List.replicate (posesG ls).length (-1 : Int) ++ List.replicate ((posesG ls).length - (posesG ls).length) 0 = farL ls [] := by rw [far_nil, Nat.sub_self, List.replicate_zero, List.append_nil, List.map_const']
  have hfl : ∀ Q, (farL ls Q).length = (posesG ls).length := fun Q => by unfold farL; rw [List.length_map]
  have hdb : decIs1 (.sl .a (b.map ii)) = some b := decIs1_enc (by cases b <;> rfl)
  have hq0 : (farL ls []).set (idxG ls b) 0 = farL ls [(b, 0)] := far_set (Q := []) (d := 0) hp rfl
  have hg0 : ((farL ls []).map ii)[idxG ls b]? = some (ii (-1)) := by rw [List.getElem?_map, far_get hp]; rfl
  have hib : idxG ls b < (posesG ls).length := (List.getElem?_eq_some_iff.1 (poses_idx hp)).1
  have hibI : (idxG ls b : Int) < (posesG ls).length := by omega
  have hss : setElem (ii (-1)) 0 [PV.int .i64 0] = ii 0 := rfl
  rw [hfn]
  repeat (first | (with_reducible (first | apply wA | ((fail_if_success (refine RunQ.seq (x := .region 9 _ _) ?_)); (apply wB)) | apply wC | apply wD | apply wE | apply wF | apply wG | apply wH | apply wI | apply wJ | apply wK | apply wL | apply wM | apply wN | apply wO | apply wP | apply wQ rfl | apply wR | apply wS | apply wT | apply wU)) | ((with_reducible (first | apply wV | apply wW | apply wX | (apply wY [] hTT cfYc_ok noM_ok mixed; (focus kernel_rfl)))); (focus (simp only [Tryz.f102, cfYc, c104, c103, hlt', hd, hdb, hne, hs2, hf, hp, hfl, hg0, hss, set_ii, hq0, hibI, Int.toNat_natCast, Int.natCast_nonneg, List.length_map, go_sem]; with_reducible rfl))) | ((fail_if_success (with_reducible show RunQ _ (.region 9 _ _) _ _)); (with_reducible refine wZ hTT cfYc_ok noM_ok ?_)) | (with_reducible refine wa ?_; refine And.intro ?_ ?_; (focus kernel_rfl)))
  refine RunQ.keep [10, 8, 4, 3, 2] (by simp only [go_sem]; rfl) ?_
  refine RunQ.seq ?_
  refine RunQ.regG hTT cfYc_ok noM_ok ?_
  apply RegG.step
  · simp only [go_sem]; with_reducible rfl
  refine RegG.buildRow (t := 92) (e := 25) (len := 1) (d := 38) (es := [pvA b]) (by simp only [go_sem]) rfl rfl rfl rfl rfl rfl rfl ?_
  apply RegG.step
  · simp only [go_sem]; with_reducible rfl
  refine RegG.nil ?_
  refine thenQ.n ?_
  refine RunQ.keep [11, 10, 8, 4, 3] (by simp only [go_sem]; rfl) ?_
  repeat (first | (with_reducible (first | apply wA | apply wB | apply wC | apply wD | apply wE | apply wF | apply wG | apply wH | apply wI | apply wJ | apply wK | apply wL | apply wM | apply wN | apply wO | apply wP | apply wQ rfl | apply wR | apply wS | apply wT | apply wU)) | ((with_reducible (first | apply wV | apply wW | apply wX | (apply wY [] hTT cfYc_ok noM_ok mixed; (focus kernel_rfl)))); (focus (simp only [Tryz.f102, go_sem]; with_reducible rfl))) | (with_reducible refine wZ hTT cfYc_ok noM_ok ?_) | (with_reducible refine wa ?_; refine And.intro ?_ ?_; (focus kernel_rfl)))
  refine RunQ.keep [12, 11, 10, 8, 4, 3] (by simp only [go_sem]; rfl) ?_
  have hme : ∀ Q : Dst, (metE Q).length = Q.length := fun Q => by unfold metE; rw [List.length_map]
  have hal := away_len (s := s) (ls := ls) (g := g) (f := b) hf hp
  refine RunQ.loop (fun i s' => i ≤ (awayQ s ls g b i).length ∧ s' = ⟨[(12, ii i), (11, .ms 3 (awayQ s ls g b i).length), (10, .sl .a ((candG ls.length).map encT)), (8, .ms 2 (posesG ls).length), (4, .bp 1 0), (3, .bp 0 0)], 99,
      [.var [ii s, .sl z (ls.map encLb)] false, .var [ii g.e.a, ii g.e.b, ii g.e.c, ii g.e.d, .sl zh (g.hs.map encFld), .sl zr (g.rs.map ii)] false, .row false 3 1 ((farL ls (awayQ s ls g b i)).map ii) false, .row false 25 1 (metE (awayQ s ls g b i)) false]⟩) 60000 ⟨Nat.zero_le _, rfl⟩ ?_
  rintro i _ hi ⟨hiq, rfl⟩
  have hQl := hal i
  by_cases hlt : i < (awayQ s ls g b i).length
  · have hlt' : (i : Int) < (awayQ s ls g b i).length := by omega
    obtain ⟨x, hx⟩ : ∃ x, (awayQ s ls g b i)[i]? = some x := ⟨_, List.getElem?_eq_getElem hlt⟩
    have hst := away_step hx
    have hxp := away_pose (s := s) (g := g) hp i x (List.mem_of_getElem? hx)
    have hxl := (pose_at hxp).1
    have hx2 := away_dist i x (List.mem_of_getElem? hx)
    have hnd := away_nodup (s := s) (ls := ls) (g := g) (f := b) i
    have hwp := away_pose (s := s) (g := g) hp i
    have hpre : i + 1 ≤ (awayQ s ls g b (i + 1)).length := by
      obtain ⟨r, hr⟩ := bfs_succ (nb := nbG s ls g) (Q0 := [(b, 0)]) i
      have : awayQ s ls g b (i + 1) = awayQ s ls g b i ++ r := hr
      rw [this, List.length_append]; omega
    generalize hQ : awayQ s ls g b i = Q at *
    have hmx : (metE Q)[i]? = some (pvA x.1) := by unfold metE; rw [List.getElem?_map, hx]; rfl
    have hdx : decIs1 (.sl .a (x.1.map ii)) = some x.1 := decIs1_enc (by cases x.1 <;> rfl)
    have hdI : dI Q x.1 = (x.2 : Int) := by
      unfold dI
      rw [(dO_some hnd).2 (show (x.1, x.2) ∈ Q from List.mem_of_getElem? hx)]
    have hfx : ((farL ls Q).map ii)[idxG ls x.1]? = some (ii (x.2 : Int)) := by rw [List.getElem?_map, far_get hxp, hdI]; rfl
    have hix : idxG ls x.1 < (posesG ls).length := (List.getElem?_eq_some_iff.1 (poses_idx hxp)).1
    have hixI : (idxG ls x.1 : Int) < (posesG ls).length := by omega
    repeat (first | (with_reducible (first | apply wA | ((fail_if_success (refine RunQ.seq (x := .region 14 _ _) ?_)); (apply wB)) | apply wC | apply wD | apply wE | apply wF | apply wG | apply wH | apply wI | apply wJ | apply wK | apply wL | apply wM | apply wN | apply wO | apply wP | apply wQ rfl | apply wR | apply wS | apply wT | apply wU)) | ((with_reducible (first | apply wV | apply wW | apply wX | (apply wY [] hTT cfYc_ok noM_ok mixed; (focus kernel_rfl)))); (focus (simp only [Tryz.f102, cfYc, c103, hlt', hd, hdx, hf, hxp, hmx, hme, hfl, hfx, hixI, closedL_is, closedL_lbs, Int.toNat_natCast, Int.natCast_nonneg, List.length_map, go_sem]; with_reducible rfl))) | ((fail_if_success (with_reducible show RunQ _ (.region 14 _ _) _ _)); (with_reducible refine wZ hTT cfYc_ok noM_ok ?_)) | (with_reducible refine wa ?_; refine And.intro ?_ ?_; (focus kernel_rfl)))
    refine RunQ.keep [13, 12, 11, 10, 8, 4, 3] (by simp only [go_sem]; rfl) ?_
    repeat (first | (with_reducible (first | apply wA | apply wB | apply wC | apply wD | apply wE | apply wF | apply wG | apply wH | apply wI | apply wJ | apply wK | apply wL | apply wM | apply wN | apply wO | apply wP | apply wQ rfl | apply wR | apply wS | apply wT | apply wU)) | ((with_reducible (first | apply wV | apply wW | apply wX | (apply wY [] hTT cfYc_ok noM_ok mixed; (focus kernel_rfl)))); (focus (simp only [Tryz.f102, go_sem]; with_reducible rfl))) | (with_reducible refine wZ hTT cfYc_ok noM_ok ?_) | (with_reducible refine wa ?_; refine And.intro ?_ ?_; (focus kernel_rfl)))
    refine RunQ.keep [14, 13, 12, 11, 10, 8, 4, 3] (by simp only [go_sem]; rfl) ?_
    refine RunQ.loop (fun k s' => s' = ⟨[(14, ii k), (13, ii (x.2 : Int)), (12, ii i), (11, .ms 3 (addN (x.2 + 1) Q (nbK s ls g x.1 k)).length), (10, .sl .a ((candG ls.length).map encT)), (8, .ms 2 (posesG ls).length), (4, .bp 1 0), (3, .bp 0 0)], 99,
      [.var [ii s, .sl z (ls.map encLb)] false, .var [ii g.e.a, ii g.e.b, ii g.e.c, ii g.e.d, .sl zh (g.hs.map encFld), .sl zr (g.rs.map ii)] false, .row false 3 1 ((farL ls (addN (x.2 + 1) Q (nbK s ls g x.1 k))).map ii) false, .row false 25 1 (metE (addN (x.2 + 1) Q (nbK s ls g x.1 k))) false, .dead]⟩) (2 * ls.length) rfl ?_
    rintro k _ hk rfl
    obtain ⟨hWp, hWd, hWl⟩ := addW hf hwp hnd (ys := nbK s ls g x.1 k) (fun q hq => by obtain ⟨_, _, _, h, _⟩ := nb_mem.1 (nbK_sub hq); exact h) (x.2 + 1)
    have hWx : (addN (x.2 + 1) Q (nbK s ls g x.1 k))[i]? = some x := by
      obtain ⟨r, hr, _⟩ := addN_ex (d := x.2 + 1) (nbK s ls g x.1 k) Q
      rw [hr, List.getElem?_append_left hlt]; exact hx
    by_cases hlk : k < 2 * ls.length
    · have hlk' : (k : Int) < (candG ls.length).length := by rw [cand_len]; omega
      obtain ⟨t, ht⟩ : ∃ t, (candG ls.length)[k]? = some t := ⟨_, List.getElem?_eq_getElem (by rw [cand_len]; omega)⟩
      have ht' : ((candG ls.length).map encT)[k]? = some (.agg [ii t.1, ii t.2]) := by rw [List.getElem?_map, ht]; rfl
      have htb := trnB_pose hf hxp (List.mem_of_getElem? ht)
      have e4 : IntKind.i64.wrap ((k : Int) + 1) = ((k + 1 : Nat) : Int) := wrap_id (by omega) (by omega)
      have ed : IntKind.i64.wrap ((x.2 : Int) + 1) = ((x.2 + 1 : Nat) : Int) := wrap_id (by omega) (by omega)
      have hstep : addN (x.2 + 1) Q (nbK s ls g x.1 (k + 1)) = if okT s ls g x.1 t = true then addQ (x.2 + 1) (addN (x.2 + 1) Q (nbK s ls g x.1 k)) (trnG x.1 t) else addN (x.2 + 1) Q (nbK s ls g x.1 k) := by
        rw [nbK_step ht]
        split
        · exact addN_snoc _ _
        · rfl
      generalize hW : addN (x.2 + 1) Q (nbK s ls g x.1 k) = W at *
      have hWm : (metE W)[i]? = some (pvA x.1) := by unfold metE; rw [List.getElem?_map, hWx]; rfl
      have hdx2 : decL decI (x.1.map ii) = some x.1 := decIs x.1
      have hqz : closedL ((trnG x.1 t).map ii) = true := closedL_is _
      have hql : ((trnG x.1 t).map ii).length = x.1.length := by rw [List.length_map, trn_len]
      have hiW : (i : Int) < W.length := by
        have := (List.getElem?_eq_some_iff.1 hWx).1
        omega
      repeat (first | (with_reducible (first | apply wA | ((fail_if_success (refine RunQ.seq (x := .region 18 _ _) ?_)); (apply wB)) | apply wC | apply wD | apply wE | apply wF | apply wG | apply wH | apply wI | apply wJ | apply wK | apply wL | apply wM | apply wN | apply wO | apply wP | apply wQ rfl | apply wR | apply wS | apply wT | apply wU)) | ((with_reducible (first | apply wV | apply wW | apply wX | (apply wY [] hTT cfYc_ok noM_ok mixed; (focus kernel_rfl)))); (focus (simp only [Tryz.f102, cfYc, c145, hlk', hWm, hme, ht', hdx2, htb, hiW, trn_len, closedL_is, closedL, PV.closed, Int.toNat_natCast, Int.natCast_nonneg, List.length_map, go_sem]; with_reducible rfl))) | ((fail_if_success (with_reducible show RunQ _ (.region 18 _ _) _ _)); (with_reducible refine wZ hTT cfYc_ok noM_ok ?_)) | (with_reducible refine wa ?_; refine And.intro ?_ ?_; (focus kernel_rfl)))
      refine RunQ.freeze 15 5 rfl rfl hql hqz rfl rfl ?_
      refine RunQ.keep [15, 14, 13, 12, 11, 10, 8, 4, 3] (by simp only [go_sem]; rfl) ?_
      unfold okT at hstep
      have hdq := decIs1_enc (z := .a) (l := trnG x.1 t) (by cases trnG x.1 t <;> rfl)
      generalize trnG x.1 t = q at hstep hdq hqz ⊢
      cases hq1 : poseG ls q
      · rw [hq1] at hstep
        have hstep : addN (x.2 + 1) Q (nbK s ls g x.1 (k + 1)) = W := hstep
        repeat (first | (with_reducible (first | apply wA | apply wB | apply wC | apply wD | apply wE | apply wF | apply wG | apply wH | apply wI | apply wJ | apply wK | apply wL | apply wM | apply wN | apply wO | apply wP | apply wQ rfl | apply wR | apply wS | apply wT | apply wU)) | ((with_reducible (first | apply wV | apply wW | apply wX | (apply wY [] hTT cfYc_ok noM_ok mixed; (focus kernel_rfl)))); (focus (simp only [Tryz.f102, cfYc, c86, hd, hdq, hs2, hq1, e4, go_sem]; with_reducible rfl))) | (with_reducible refine wZ hTT cfYc_ok noM_ok ?_) | (with_reducible refine wa ?_; refine And.intro ?_ ?_; (focus kernel_rfl)))
        refine roundQ.t 5 [14, 13, 12, 11, 10, 8, 4, 3] hlk (by simp only [ltB_lbs, ltB_flds, ltB_is, ltB_isl, lI, lM, lTt, go_sem]) (by rw [hstep]; simp only [go_sem])
      have hgq : ((farL ls W).map ii)[idxG ls q]? = some (ii (dI W q)) := by rw [List.getElem?_map, far_get hq1]; rfl
      have hiq2 : idxG ls q < (posesG ls).length := (List.getElem?_eq_some_iff.1 (poses_idx hq1)).1
      have hiqI : (idxG ls q : Int) < (posesG ls).length := by omega
      cases hq2 : finG s ls g q
      · rw [hq1, hq2] at hstep
        have hstep : addN (x.2 + 1) Q (nbK s ls g x.1 (k + 1)) = W := hstep
        repeat (first | (with_reducible (first | apply wA | apply wB | apply wC | apply wD | apply wE | apply wF | apply wG | apply wH | apply wI | apply wJ | apply wK | apply wL | apply wM | apply wN | apply wO | apply wP | apply wQ rfl | apply wR | apply wS | apply wT | apply wU)) | ((with_reducible (first | apply wV | apply wW | apply wX | (apply wY [] hTT cfYc_ok noM_ok mixed; (focus kernel_rfl)))); (focus (simp only [Tryz.f102, cfYc, c86, c44, hd, hd2, hdq, hs2, hf, hg, hq1, hq2, e4, go_sem]; with_reducible rfl))) | (with_reducible refine wZ hTT cfYc_ok noM_ok ?_) | (with_reducible refine wa ?_; refine And.intro ?_ ?_; (focus kernel_rfl)))
        refine roundQ.t 5 [14, 13, 12, 11, 10, 8, 4, 3] hlk (by simp only [ltB_lbs, ltB_flds, ltB_is, ltB_isl, lI, lM, lTt, go_sem]) (by rw [hstep]; simp only [go_sem])
      rw [hq1, hq2] at hstep
      have hstep : addN (x.2 + 1) Q (nbK s ls g x.1 (k + 1)) = addQ (x.2 + 1) W q := hstep
      have hng := dI_neg (Q := W) (q := q)
      unfold addQ at hstep
      cases hh : hasK W q
      · rw [hh] at hng
        have hneg : dI W q < 0 := of_decide_eq_true hng
        rw [if_neg (by rw [hh]; simp)] at hstep
        have hqs : (farL ls W).set (idxG ls q) ((x.2 + 1 : Nat) : Int) = farL ls (W ++ [(q, x.2 + 1)]) := far_set hq1 hh
        have hss : setElem (ii (dI W q)) 0 [PV.int .i64 ((x.2 + 1 : Nat) : Int)] = ii ((x.2 + 1 : Nat) : Int) := rfl
        have hms : metE (W ++ [(q, x.2 + 1)]) = metE W ++ [pvA q] := by unfold metE; simp
        have r2 : W.length + 1 ≤ maxLen := by unfold maxLen; omega
        have r3 : (W.length + 1) * 24 ≤ 140737488355328 := by omega
        have hdW : decide (W.length + 1 = 0) = false := by simp
        repeat (first | (with_reducible (first | apply wA | ((fail_if_success (refine RunQ.seq (x := .region 19 _ _) ?_)); (apply wB)) | apply wC | apply wD | apply wE | apply wF | apply wG | apply wH | apply wI | apply wJ | apply wK | apply wL | apply wM | apply wN | apply wO | apply wP | apply wQ rfl | apply wR | apply wS | apply wT | apply wU)) | ((with_reducible (first | apply wV | apply wW | apply wX | (apply wY [] hTT cfYc_ok noM_ok mixed; (focus kernel_rfl)))); (focus (simp only [Tryz.f102, cfYc, c86, c44, c103, hd, hd2, hdq, hs2, hf, hg, hq1, hq2, hfl, hgq, hiqI, hneg, Int.toNat_natCast, Int.natCast_nonneg, List.length_map, go_sem]; with_reducible rfl))) | ((fail_if_success (with_reducible show RunQ _ (.region 19 _ _) _ _)); (with_reducible refine wZ hTT cfYc_ok noM_ok ?_)) | (with_reducible refine wa ?_; refine And.intro ?_ ?_; (focus kernel_rfl)))
        refine RunQ.keep [15, 14, 13, 12, 11, 10, 8, 4, 3] (by simp only [go_sem]; rfl) ?_
        repeat (first | (with_reducible (first | apply wA | apply wB | apply wC | apply wD | apply wE | apply wF | apply wG | apply wH | apply wI | apply wJ | apply wK | apply wL | apply wM | apply wN | apply wO | apply wP | apply wQ rfl | apply wR | apply wS | apply wT | apply wU)) | ((with_reducible (first | apply wV | apply wW | apply wX | (apply wY [] hTT cfYc_ok noM_ok mixed; (focus kernel_rfl)))); (focus (simp only [Tryz.f102, cfYc, c103, hd, hdq, hf, hq1, hfl, hgq, hiqI, ed, hss, set_ii, hqs, hme, r2, r3, e4, Int.toNat_natCast, Int.natCast_nonneg, List.length_map, go_sem]; with_reducible rfl))) | (with_reducible refine wZ hTT cfYc_ok noM_ok ?_) | (with_reducible refine wa ?_; refine And.intro ?_ ?_; (focus kernel_rfl)))
        refine roundQ.t 5 [14, 13, 12, 11, 10, 8, 4, 3] hlk (by simp only [ltB_lbs, ltB_flds, ltB_is, ltB_isl, lI, lM, lTt, go_sem]) (by rw [hstep, hms, List.length_append, List.length_singleton]; simp only [go_sem])
      · rw [hh] at hng
        have hneg : ¬ dI W q < 0 := of_decide_eq_false hng
        rw [if_pos hh] at hstep
        repeat (first | (with_reducible (first | apply wA | apply wB | apply wC | apply wD | apply wE | apply wF | apply wG | apply wH | apply wI | apply wJ | apply wK | apply wL | apply wM | apply wN | apply wO | apply wP | apply wQ rfl | apply wR | apply wS | apply wT | apply wU)) | ((with_reducible (first | apply wV | apply wW | apply wX | (apply wY [] hTT cfYc_ok noM_ok mixed; (focus kernel_rfl)))); (focus (simp only [Tryz.f102, cfYc, c86, c44, c103, hd, hd2, hdq, hs2, hf, hg, hq1, hq2, hfl, hgq, hiqI, hneg, e4, Int.toNat_natCast, Int.natCast_nonneg, List.length_map, go_sem]; with_reducible rfl))) | (with_reducible refine wZ hTT cfYc_ok noM_ok ?_) | (with_reducible refine wa ?_; refine And.intro ?_ ?_; (focus kernel_rfl)))
        refine roundQ.t 5 [14, 13, 12, 11, 10, 8, 4, 3] hlk (by simp only [ltB_lbs, ltB_flds, ltB_is, ltB_isl, lI, lM, lTt, go_sem]) (by rw [hstep]; simp only [go_sem])
    · have hlk' : ¬ (k : Int) < (candG ls.length).length := by rw [cand_len]; omega
      obtain rfl : k = 2 * ls.length := by omega
      have e4 : IntKind.i64.wrap ((i : Int) + 1) = ((i + 1 : Nat) : Int) := wrap_id (by omega) (by omega)
      rw [nbK_all, ← hst]
      repeat (first | (with_reducible (first | apply wA | apply wB | apply wC | apply wD | apply wE | apply wF | apply wG | apply wH | apply wI | apply wJ | apply wK | apply wL | apply wM | apply wN | apply wO | apply wP | apply wQ rfl | apply wR | apply wS | apply wT | apply wU)) | ((with_reducible (first | apply wV | apply wW | apply wX | (apply wY [] hTT cfYc_ok noM_ok mixed; (focus kernel_rfl)))); (focus (simp only [Tryz.f102, hlk', e4, List.length_map, go_sem]; with_reducible rfl))) | (with_reducible refine wZ hTT cfYc_ok noM_ok ?_) | (with_reducible refine wa ?_; refine And.intro ?_ ?_; (focus kernel_rfl)))
      have hi6 : i < 60000 := by omega
      refine roundQ.t 4 [12, 11, 10, 8, 4, 3] hi6 (by simp only [ltB_lbs, ltB_flds, ltB_is, ltB_isl, lI, lM, lTt, go_sem]) ⟨hpre, by simp only [go_sem]⟩
  · have hlt' : ¬ (i : Int) < (awayQ s ls g b i).length := by omega
    have he := away_end (s := s) (ls := ls) (g := g) (f := b) (i := i) (by omega) (by omega)
    rw [he] at hlt' ⊢
    generalize awayG s ls g b = Q at hlt' ⊢
    repeat (first | (with_reducible (first | apply wA | apply wB | apply wC | apply wD | apply wE | apply wF | apply wG | apply wH | apply wI | apply wJ | apply wK | apply wL | apply wM | apply wN | apply wO | apply wP | apply wQ rfl | apply wR | apply wS | apply wT | apply wU)) | ((with_reducible (first | apply wV | apply wW | apply wX | (apply wY [] hTT cfYc_ok noM_ok mixed; (focus kernel_rfl)))); (focus (simp only [Tryz.f102, hlt', hme, List.length_map, go_sem]; with_reducible rfl))) | (with_reducible refine wZ hTT cfYc_ok noM_ok ?_) | (with_reducible refine wa ?_; refine And.intro ?_ ?_; (focus kernel_rfl)))
    exact ⟨rfl, rfl, _, rfl, leave_row (id := 2) (z := false) (frz := false) rfl (closedL_is _) (by rw [List.length_map, hfl])⟩
def c102 : List PV → List Box → Option (PRes × List Box)
  | [v, w, p], sg => match decFig v, decStg w, decIs1 p with
    | some (s, ls), some g, some b => if figB s ls = true ∧ stgG ls g = true ∧ poseG ls b = true then some (.ret (.sl .a ((farL ls (awayG s ls g b)).map ii)), sg) else none
    | _, _, _ => none
  | _, _ => none
theorem c102_ok : ConOk Tryz.prog 102 c102 := ConOk.of0 (ent Tryz.func102 rfl) fun args sg r sg' h => by
  unfold c102 at h
  split at h <;> try (cases h; done)
  split at h <;> try (cases h; done)
  rename_i h1 h2 h3
  split at h <;> cases h
  rename_i hc
  obtain ⟨z, rfl, hz⟩ := decFig_inv h1
  obtain ⟨zh, zr, rfl, hh, hr⟩ := decStg_inv h2
  obtain ⟨zp, rfl, hp⟩ := decIs1_inv h3
  exact ⟨_, rfl, rfl, by rw [ltBL_cons, ltB_fig, ltBL_cons, ltB_stg, ltBL_cons, ltB_isl]; rfl, far_102 _ _ _ _ _ _ _ _ (zOk_n' hz) hh hr (zOk_n' hp) hc.1 hc.2.1 hc.2.2⟩
end Go.Pv
