/- Contracts: all fine poses, one after the other. -/
import Derived.Test.YtmnocohggpmjcaaGreatDoorQnC
import Derived.Test.YtmnocohggpmjcaaGreatDoorQmLists
set_option linter.all false
namespace Go.Pv
open Go Go.RowKit Go.Proofs
set_option maxRecDepth 10000
set_option maxHeartbeats 4000000
/-- The cells of a figure on its stage. -/
abbrev stgC (s : Int) (z zh zr : Z) (ls : List Lb) (g : Stg) : List PV := [ii s, .sl z (ls.map encLb), ii g.e.a, ii g.e.b, ii g.e.c, ii g.e.d, .sl zh (g.hs.map encFld), .sl zr (g.rs.map ii)]
theorem closedL_flds (l : List Fld) : closedL (l.map encFld) = true := closedL_map (fun _ => rfl) l
theorem closed_stgC (s : Int) (z zh zr : Z) (ls : List Lb) (g : Stg) : closedL (stgC s z zh zr ls g) = true := by
  simp [closedL, PV.closed, closedL_flds, closedL_lbs, closedL_is]
def decSt : List PV → Option (Int × Z × Z × Z × List Lb × Stg)
  | [.int .i64 s, .sl z es, .int .i64 a, .int .i64 b, .int .i64 c, .int .i64 d, .sl zh hs, .sl zr rs] => match decL decLb es, decL decFld hs, decL decI rs with
    | some ls, some hs, some rs => some (s, z, zh, zr, ls, ⟨⟨a, b, c, d⟩, hs, rs⟩)
    | _, _, _ => none
  | _ => none
theorem decSt_enc (s : Int) (z zh zr : Z) (ls : List Lb) (g : Stg) : decSt (stgC s z zh zr ls g) = some (s, z, zh, zr, ls, g) := by
  simp [decSt, decLbs, decFlds, decIs]
theorem decSt_inv {cs : List PV} {s : Int} {z zh zr : Z} {ls : List Lb} {g : Stg} (h : decSt cs = some (s, z, zh, zr, ls, g)) : cs = stgC s z zh zr ls g := by
  unfold decSt at h
  split at h <;> try (cases h; done)
  split at h <;> cases h
  rename_i h2 h3 h1
  obtain rfl := decL_inv decLb_inv h1
  obtain rfl := decL_inv decFld_inv h2
  obtain rfl := decL_inv decI_inv h3
  rfl
theorem mem_rng {lo hi x : Int} : x ∈ rng lo hi ↔ lo ≤ x ∧ x ≤ hi := by
  unfold rng
  simp only [List.mem_map, List.mem_range]
  constructor
  · rintro ⟨k, hk, rfl⟩; omega
  · intro h; exact ⟨(x - lo).toNat, by omega, by omega⟩
theorem pvL_z (l : List Int) : ∃ z, pvL l = .sl z (l.map ii) ∧ zOk z (l.map ii) = true := by
  refine ⟨_, rfl, ?_⟩
  cases l <;> rfl
end Go.Pv
namespace Go.Pv
open Go Go.RowKit Go.Proofs
set_option maxRecDepth 10000
set_option maxHeartbeats 4000000
end Go.Pv
namespace Go.Pv
open Go Go.RowKit Go.Proofs
set_option maxRecDepth 10000
set_option maxHeartbeats 4000000
theorem flatMap_le {α β : Type} (f : α → List β) (m : Nat) : ∀ (l : List α), (∀ a ∈ l, (f a).length ≤ m) → (l.flatMap f).length ≤ l.length * m
  | [], _ => by simp
  | a :: l, h => by
    rw [List.flatMap_cons, List.length_append, List.length_cons, Nat.succ_mul]
    have := h a (by simp)
    have := flatMap_le f m l fun x hx => h x (by simp [hx])
    omega
theorem exts_len (k : Nat) : ∀ (sp : List (Int × Int)) (now : List Int), (∀ x ∈ sp, (x.2 + 1 - x.1).toNat ≤ k) → (exts sp now).length ≤ k ^ sp.length
  | [], now, _ => by simp [exts]
  | x :: r, now, h => by
    have h1 := h x (by simp)
    have h2 := flatMap_le (fun n => exts r (now ++ [n])) (k ^ r.length) (rng x.1 x.2) fun n _ => exts_len k r _ fun y hy => h y (by simp [hy])
    have h3 : (rng x.1 x.2).length ≤ k := by simpa [rng] using h1
    show ((rng x.1 x.2).flatMap fun n => exts r (now ++ [n])).length ≤ k ^ (r.length + 1)
    rw [Nat.pow_succ, Nat.mul_comm]
    exact Nat.le_trans h2 (Nat.mul_le_mul_right _ h3)
end Go.Pv
