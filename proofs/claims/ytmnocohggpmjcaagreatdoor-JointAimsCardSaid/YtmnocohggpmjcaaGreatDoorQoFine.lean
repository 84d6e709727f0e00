/- Contracts: all fine poses, one after the other. -/
import Derived.Test.YtmnocohggpmjcaaGreatDoorQnC
import Derived.Test.YtmnocohggpmjcaaGreatDoorQmLists
set_option linter.all false
namespace Go.Pv
open Go Go.RowKit Go.Proofs
set_option maxRecDepth 10000
set_option maxHeartbeats 4000000
/-- The cells of a figure on its stage. -/
abbrev stgC (s : Int) (z zh zr : Z) (ls : List Lb) (g : Stg) : List PV := [ii s, .sl z (ls.map encLb), ii g.e.a, ii g.e.b, ii g.e.c, ii g.e.d, .sl zh (g.hs.map encFld), .sl zr (g.rs.map ii)]
theorem closedL_flds (l : List Fld) : closedL (l.map encFld) = true := closedL_map (fun _ => rfl) l
theorem closed_stgC (s : Int) (z zh zr : Z) (ls : List Lb) (g : Stg) : closedL (stgC s z zh zr ls g) = true := by
  simp [closedL, PV.closed, closedL_flds, closedL_lbs, closedL_is]
def decSt : List PV → Option (Int × Z × Z × Z × List Lb × Stg)
  | [.int .i64 s, .sl z es, .int .i64 a, .int .i64 b, .int .i64 c, .int .i64 d, .sl zh hs, .sl zr rs] => match decL decLb es, decL decFld hs, decL decI rs with
    | some ls, some hs, some rs => some (s, z, zh, zr, ls, ⟨⟨a, b, c, d⟩, hs, rs⟩)
    | _, _, _ => none
  | _ => none
theorem decSt_enc (s : Int) (z zh zr : Z) (ls : List Lb) (g : Stg) : decSt (stgC s z zh zr ls g) = some (s, z, zh, zr, ls, g) := by
  simp [decSt, decLbs, decFlds, decIs]
theorem decSt_inv {cs : List PV} {s : Int} {z zh zr : Z} {ls : List Lb} {g : Stg} (h : decSt cs = some (s, z, zh, zr, ls, g)) : cs = stgC s z zh zr ls g := by
  unfold decSt at h
  split at h <;> try (cases h; done)
  split at h <;> cases h
  rename_i h2 h3 h1
  obtain rfl := decL_inv decLb_inv h1
  obtain rfl := decL_inv decFld_inv h2
  obtain rfl := decL_inv decI_inv h3
  rfl
def c90 : List PV → List Box → Option (PRes × List Box)
  | [v], sg => match decFig v with
    | some (_, ls) => if ls ≠ [] ∧ ls.length ≤ 1000 then some (.ret (.fn (.func 166) [] [spP .a (spansG ls)]), sg) else none
    | none => none
  | _, _ => none
theorem c90_ok : ConOk Tryz.prog 90 c90 := ConOk.of0 (ent Tryz.func90 rfl) fun args sg r sg' h => by
  unfold c90 at h
  split at h <;> try (cases h; done)
  split at h <;> try (cases h; done)
  rename_i h1
  split at h <;> cases h
  rename_i hc
  obtain ⟨z, rfl, hz⟩ := decFig_inv h1
  exact ⟨_, rfl, rfl, by rw [ltBL_cons, ltB_fig]; rfl, poses_90 _ _ _ (fun e => hc.1 (hz e)) hc.1 hc.2⟩
/-- All poses; all fine poses. -/
def posesG (ls : List Lb) : List (List Int) := exts (spansG ls) []
theorem mem_rng {lo hi x : Int} : x ∈ rng lo hi ↔ lo ≤ x ∧ x ≤ hi := by
  unfold rng
  simp only [List.mem_map, List.mem_range]
  constructor
  · rintro ⟨k, hk, rfl⟩; omega
  · intro h; exact ⟨(x - lo).toNat, by omega, by omega⟩
theorem mem_exts : ∀ (ls : List Lb) (now l : List Int), l ∈ exts (spansG ls) now ↔ ∃ q, l = now ++ q ∧ poseG ls q = true
  | [], now, l => by
    show l ∈ [now] ↔ _
    rw [List.mem_singleton]
    constructor
    · rintro rfl; exact ⟨[], by simp, rfl⟩
    · rintro ⟨q, rfl, h⟩
      cases q with
      | nil => simp
      | cons a q => cases h
  | x :: r, now, l => by
    show l ∈ (rng x.lo x.hi).flatMap (fun n => exts (spansG r) (now ++ [n])) ↔ _
    rw [List.mem_flatMap]
    constructor
    · rintro ⟨n, hn, hl⟩
      obtain ⟨q, rfl, hq⟩ := (mem_exts r _ _).1 hl
      refine ⟨n :: q, by simp, ?_⟩
      have := mem_rng.1 hn
      simp [poseG, inB, hq]; omega
    · rintro ⟨q, rfl, hq⟩
      cases q with
      | nil => cases hq
      | cons n q =>
        simp [poseG, inB] at hq
        exact ⟨n, mem_rng.2 (by omega), (mem_exts r _ _).2 ⟨q, by simp, hq.2⟩⟩
theorem mem_poses {ls : List Lb} {l : List Int} : l ∈ posesG ls ↔ poseG ls l = true := by
  unfold posesG
  rw [mem_exts]
  simp
theorem filter_drop {α : Type} {L : List α} {i : Nat} {x : α} (h : L[i]? = some x) (p : α → Bool) : (L.drop i).filter p = if p x = true then x :: (L.drop (i + 1)).filter p else (L.drop (i + 1)).filter p := by
  rw [drop_get h, List.filter_cons]
end Go.Pv
namespace Go.Pv
open Go Go.RowKit Go.Proofs
set_option maxRecDepth 10000
set_option maxHeartbeats 4000000
theorem spans_in {s : Int} {ls : List Lb} (hf : figB s ls = true) : ∀ x ∈ spansG ls, -1000 ≤ x.1 ∧ x.1 ≤ 1000 ∧ -1000 ≤ x.2 ∧ x.2 ≤ 1000 := by
  intro x hx
  obtain ⟨_, _, _, _, hl⟩ := fig_limbs hf
  obtain ⟨y, hy, rfl⟩ := List.mem_map.1 hx
  obtain ⟨i, hi, rfl⟩ := List.mem_iff_getElem.1 hy
  have := hl i _ (List.getElem?_eq_getElem hi)
  simp [lbB, inB] at this
  simp only
  omega
end Go.Pv
namespace Go.Pv
open Go Go.RowKit Go.Proofs
set_option maxRecDepth 10000
set_option maxHeartbeats 4000000
theorem flatMap_le {α β : Type} (f : α → List β) (m : Nat) : ∀ (l : List α), (∀ a ∈ l, (f a).length ≤ m) → (l.flatMap f).length ≤ l.length * m
  | [], _ => by simp
  | a :: l, h => by
    rw [List.flatMap_cons, List.length_append, List.length_cons, Nat.succ_mul]
    have := h a (by simp)
    have := flatMap_le f m l fun x hx => h x (by simp [hx])
    omega
theorem exts_len (k : Nat) : ∀ (sp : List (Int × Int)) (now : List Int), (∀ x ∈ sp, (x.2 + 1 - x.1).toNat ≤ k) → (exts sp now).length ≤ k ^ sp.length
  | [], now, _ => by simp [exts]
  | x :: r, now, h => by
    have h1 := h x (by simp)
    have h2 := flatMap_le (fun n => exts r (now ++ [n])) (k ^ r.length) (rng x.1 x.2) fun n _ => exts_len k r _ fun y hy => h y (by simp [hy])
    have h3 : (rng x.1 x.2).length ≤ k := by simpa [rng] using h1
    show ((rng x.1 x.2).flatMap fun n => exts r (now ++ [n])).length ≤ k ^ (r.length + 1)
    rw [Nat.pow_succ, Nat.mul_comm]
    exact Nat.le_trans h2 (Nat.mul_le_mul_right _ h3)
theorem poses_len {s : Int} {ls : List Lb} (hf : figB s ls = true) : (posesG ls).length ≤ 59049 := by
  obtain ⟨_, _, _, h5, hl⟩ := fig_limbs hf
  have := exts_len 9 (spansG ls) [] (fun x hx => by
    obtain ⟨y, hy, rfl⟩ := List.mem_map.1 hx
    obtain ⟨i, hi, rfl⟩ := List.mem_iff_getElem.1 hy
    have := hl i _ (List.getElem?_eq_getElem hi)
    simp [lbB, inB] at this
    simp only
    omega)
  have h2 : (spansG ls).length ≤ 5 := by simp [spansG]; omega
  exact Nat.le_trans this (Nat.le_trans (Nat.pow_le_pow_right (by decide) h2) (by decide))
end Go.Pv
