/- Ways between fine poses, in plain terms: as long there as back; no way is shorter than the one that is told, nor as long and sooner. -/
import Derived.Test.YtmnocohggpmjcaaGreatDoorQzMore
set_option linter.all false
namespace Go.Pv
open Go Go.RowKit Go.Proofs
/-- A way of so many turns. -/
def WayN (s : Int) (ls : List Lb) (g : Stg) : Nat → List Int → List Int → Prop
  | 0, a, b => a = b
  | n + 1, a, b => ∃ c, c ∈ nbG s ls g a ∧ WayN s ls g n c b
section
variable {s : Int} {ls : List Lb} {g : Stg}
theorem way_snoc : ∀ {n : Nat} {a b c : List Int}, WayN s ls g n a b → c ∈ nbG s ls g b → WayN s ls g (n + 1) a c
  | 0, a, b, c, h, hc => by
    obtain rfl : a = b := h
    exact ⟨c, hc, rfl⟩
  | n + 1, a, b, c, ⟨d, h1, h2⟩, hc => ⟨d, h1, way_snoc h2 hc⟩
theorem way_app : ∀ {n m : Nat} {a b c : List Int}, WayN s ls g n a b → WayN s ls g m b c → WayN s ls g (n + m) a c
  | 0, m, a, b, c, h, hc => by
    obtain rfl : a = b := h
    rw [Nat.zero_add]; exact hc
  | n + 1, m, a, b, c, ⟨d, h1, h2⟩, hc => by
    rw [show n + 1 + m = n + m + 1 by omega]
    exact ⟨d, h1, way_app h2 hc⟩
theorem way_back : ∀ {n : Nat} {a b : List Int}, poseG ls a = true → finG s ls g a = true → WayN s ls g n a b → WayN s ls g n b a
  | 0, a, b, _, _, h => by
    obtain rfl : a = b := h
    rfl
  | n + 1, a, b, hp, hf, ⟨c, h1, h2⟩ => by
    obtain ⟨_, _, _, h3, h4⟩ := nb_mem.1 h1
    exact way_snoc (way_back h3 h4 h2) (nb_sym hp hf h1)
variable {b : List Int}
/-- A complete search from a pose. -/
structure SrchB (s : Int) (ls : List Lb) (g : Stg) (b : List Int) (Q : Dst) : Prop where
  srch : Srch s ls g Q
  zero : ∀ x ∈ Q, x.2 = 0 → x.1 = b
  start : (b, 0) ∈ Q
  bd : ∀ l, 0 ≤ dG Q l
theorem away_srchB (hf : figB s ls = true) (hp : poseG ls b = true) (hb : finG s ls g b = true) : SrchB s ls g b (awayG s ls g b) := by
  refine ⟨away_srch hf hp hb, fun x hx h => away_zero hx h, away_start, fun l => ?_⟩
  have := dG_bd (s := s) (ls := ls) (g := g) (f := b) l
  exact this.1
section
variable {Q : Dst}
theorem way_ofB (H : SrchB s ls g b Q) : ∀ (d : Nat) (x : List Int), (x, d) ∈ Q → WayN s ls g d b x
  | 0, x, h => (H.zero _ h rfl).symm
  | d + 1, x, h => by
    obtain ⟨y, h1, h2⟩ := H.srch.pred _ h (Nat.succ_pos d)
    exact way_snoc (way_ofB H d y h1) h2
theorem of_wayB (H : SrchB s ls g b Q) : ∀ (n d : Nat) (y x : List Int), (y, d) ∈ Q → WayN s ls g n y x → ∃ e, (x, e) ∈ Q ∧ e ≤ d + n
  | 0, d, y, x, h, hw => by
    obtain rfl : y = x := hw
    exact ⟨d, h, Nat.le_refl _⟩
  | n + 1, d, y, x, h, ⟨c, h1, h2⟩ => by
    obtain ⟨e, h3, h4⟩ := H.srch.next _ h c h1
    obtain ⟨e', h5, h6⟩ := of_wayB H n e c x h3 h2
    exact ⟨e', h5, by simp only at h4; omega⟩
theorem met_wayB (H : SrchB s ls g b Q) {n : Nat} {x : List Int} (h : WayN s ls g n b x) : hasK Q x = true ∧ dG Q x ≤ n := by
  obtain ⟨e, h1, h2⟩ := of_wayB H n 0 b x H.start h
  refine ⟨hasK_iff.2 ⟨e, h1⟩, ?_⟩
  rw [(dG_mem H.srch h1).1]; omega
theorem way_metB (H : SrchB s ls g b Q) {x : List Int} (h : hasK Q x = true) : WayN s ls g (dG Q x).toNat b x := by
  obtain ⟨e, h1⟩ := hasK_iff.1 h
  rw [(dG_mem H.srch h1).1]
  exact way_ofB H e x h1
end
theorem way_met (hf : figB s ls = true) (hp : poseG ls b = true) (hb : finG s ls g b = true) {x : List Int} (h : hasK (awayG s ls g b) x = true) : ∃ n : Nat, (n : Int) = dG (awayG s ls g b) x ∧ WayN s ls g n b x := by
  have H := away_srchB (g := g) hf hp hb
  generalize awayG s ls g b = Q at H h ⊢
  refine ⟨(dG Q x).toNat, ?_, way_metB H h⟩
  have := H.bd x
  omega
theorem met_fine (hf : figB s ls = true) (hp : poseG ls b = true) (hb : finG s ls g b = true) {x : List Int} (h : hasK (awayG s ls g b) x = true) : poseG ls x = true ∧ finG s ls g x = true := by
  have H := away_srch (g := g) hf hp hb
  generalize awayG s ls g b = Q at h H
  obtain ⟨e, h1⟩ := hasK_iff.1 h
  exact ⟨H.pose _ h1, H.fine _ h1⟩
/-- The way back is as long. -/
theorem met_sym1 {a : List Int} {Q Q' : Dst} (H : SrchB s ls g b Q) (H' : SrchB s ls g a Q') (hp : poseG ls b = true) (hb : finG s ls g b = true) (h : hasK Q a = true) : hasK Q' b = true ∧ dG Q' b ≤ dG Q a := by
  have h1 := way_back hp hb (way_metB H h)
  obtain ⟨h2, h3⟩ := met_wayB H' h1
  have := H.bd a
  exact ⟨h2, by omega⟩
theorem met_sym {a : List Int} (hf : figB s ls = true) (ha : poseG ls a = true) (hfa : finG s ls g a = true) (hp : poseG ls b = true) (hb : finG s ls g b = true) :
    hasK (awayG s ls g b) a = hasK (awayG s ls g a) b ∧ (hasK (awayG s ls g b) a = true → dG (awayG s ls g b) a = dG (awayG s ls g a) b) := by
  have H := away_srchB (g := g) hf hp hb
  have H' := away_srchB (g := g) hf ha hfa
  generalize awayG s ls g b = Q at H ⊢
  generalize awayG s ls g a = Q' at H' ⊢
  constructor
  · rw [Bool.eq_iff_iff]
    exact ⟨fun h => (met_sym1 H H' hp hb h).1, fun h => (met_sym1 H' H ha hfa h).1⟩
  · intro h
    obtain ⟨h1, h2⟩ := met_sym1 H H' hp hb h
    have h3 := (met_sym1 H' H ha hfa h1).2
    omega
theorem met_trans {a c : List Int} (hf : figB s ls = true) (ha : poseG ls a = true) (hfa : finG s ls g a = true) (hp : poseG ls b = true) (hb : finG s ls g b = true) (h1 : hasK (awayG s ls g b) a = true) (h2 : hasK (awayG s ls g b) c = true) : hasK (awayG s ls g a) c = true := by
  have H := away_srchB (g := g) hf hp hb
  have H' := away_srchB (g := g) hf ha hfa
  generalize awayG s ls g b = Q at H h1 h2
  generalize awayG s ls g a = Q' at H' ⊢
  have h3 := way_back hp hb (way_metB H h1)
  exact (met_wayB H' (way_app h3 (way_metB H h2))).1
end
section
variable {s : Int} {ls : List Lb} {g : Stg} {b : List Int}
end
end Go.Pv
