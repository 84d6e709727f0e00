/- Ways between fine poses, in plain terms: as long there as back; no way is shorter than the one that is told, nor as long and sooner. -/
import Derived.Test.YtmnocohggpmjcaaGreatDoorQzMore
set_option linter.all false
namespace Go.Pv
open Go Go.RowKit Go.Proofs
/-- A way of so many turns. -/
def WayN (s : Int) (ls : List Lb) (g : Stg) : Nat → List Int → List Int → Prop
  | 0, a, b => a = b
  | n + 1, a, b => ∃ c, c ∈ nbG s ls g a ∧ WayN s ls g n c b
section
variable {s : Int} {ls : List Lb} {g : Stg}
theorem way_snoc : ∀ {n : Nat} {a b c : List Int}, WayN s ls g n a b → c ∈ nbG s ls g b → WayN s ls g (n + 1) a c
  | 0, a, b, c, h, hc => by
    obtain rfl : a = b := h
    exact ⟨c, hc, rfl⟩
  | n + 1, a, b, c, ⟨d, h1, h2⟩, hc => ⟨d, h1, way_snoc h2 hc⟩
theorem way_back : ∀ {n : Nat} {a b : List Int}, poseG ls a = true → finG s ls g a = true → WayN s ls g n a b → WayN s ls g n b a
  | 0, a, b, _, _, h => by
    obtain rfl : a = b := h
    rfl
  | n + 1, a, b, hp, hf, ⟨c, h1, h2⟩ => by
    obtain ⟨_, _, _, h3, h4⟩ := nb_mem.1 h1
    exact way_snoc (way_back h3 h4 h2) (nb_sym hp hf h1)
variable {b : List Int}
/-- A complete search from a pose. -/
structure SrchB (s : Int) (ls : List Lb) (g : Stg) (b : List Int) (Q : Dst) : Prop where
  srch : Srch s ls g Q
  zero : ∀ x ∈ Q, x.2 = 0 → x.1 = b
  start : (b, 0) ∈ Q
  bd : ∀ l, 0 ≤ dG Q l
theorem away_srchB (hf : figB s ls = true) (hp : poseG ls b = true) (hb : finG s ls g b = true) : SrchB s ls g b (awayG s ls g b) := by
  refine ⟨away_srch hf hp hb, fun x hx h => away_zero hx h, away_start, fun l => ?_⟩
  have := dG_bd (s := s) (ls := ls) (g := g) (f := b) l
  exact this.1
section
variable {Q : Dst}
theorem way_ofB (H : SrchB s ls g b Q) : ∀ (d : Nat) (x : List Int), (x, d) ∈ Q → WayN s ls g d b x
  | 0, x, h => (H.zero _ h rfl).symm
  | d + 1, x, h => by
    obtain ⟨y, h1, h2⟩ := H.srch.pred _ h (Nat.succ_pos d)
    exact way_snoc (way_ofB H d y h1) h2
theorem of_wayB (H : SrchB s ls g b Q) : ∀ (n d : Nat) (y x : List Int), (y, d) ∈ Q → WayN s ls g n y x → ∃ e, (x, e) ∈ Q ∧ e ≤ d + n
  | 0, d, y, x, h, hw => by
    obtain rfl : y = x := hw
    exact ⟨d, h, Nat.le_refl _⟩
  | n + 1, d, y, x, h, ⟨c, h1, h2⟩ => by
    obtain ⟨e, h3, h4⟩ := H.srch.next _ h c h1
    obtain ⟨e', h5, h6⟩ := of_wayB H n e c x h3 h2
    exact ⟨e', h5, by simp only at h4; omega⟩
theorem met_wayB (H : SrchB s ls g b Q) {n : Nat} {x : List Int} (h : WayN s ls g n b x) : hasK Q x = true ∧ dG Q x ≤ n := by
  obtain ⟨e, h1, h2⟩ := of_wayB H n 0 b x H.start h
  refine ⟨hasK_iff.2 ⟨e, h1⟩, ?_⟩
  rw [(dG_mem H.srch h1).1]; omega
theorem way_metB (H : SrchB s ls g b Q) {x : List Int} (h : hasK Q x = true) : WayN s ls g (dG Q x).toNat b x := by
  obtain ⟨e, h1⟩ := hasK_iff.1 h
  rw [(dG_mem H.srch h1).1]
  exact way_ofB H e x h1
end
theorem met_way (hf : figB s ls = true) (hp : poseG ls b = true) (hb : finG s ls g b = true) {n : Nat} {x : List Int} (h : WayN s ls g n b x) : hasK (awayG s ls g b) x = true ∧ dG (awayG s ls g b) x ≤ n := by
  have H := away_srchB (g := g) hf hp hb
  generalize awayG s ls g b = Q at H ⊢
  exact met_wayB H h
theorem met_fine (hf : figB s ls = true) (hp : poseG ls b = true) (hb : finG s ls g b = true) {x : List Int} (h : hasK (awayG s ls g b) x = true) : poseG ls x = true ∧ finG s ls g x = true := by
  have H := away_srch (g := g) hf hp hb
  generalize awayG s ls g b = Q at h H
  obtain ⟨e, h1⟩ := hasK_iff.1 h
  exact ⟨H.pose _ h1, H.fine _ h1⟩
/-- The way back is as long. -/
theorem met_sym1 {a : List Int} {Q Q' : Dst} (H : SrchB s ls g b Q) (H' : SrchB s ls g a Q') (hp : poseG ls b = true) (hb : finG s ls g b = true) (h : hasK Q a = true) : hasK Q' b = true ∧ dG Q' b ≤ dG Q a := by
  have h1 := way_back hp hb (way_metB H h)
  obtain ⟨h2, h3⟩ := met_wayB H' h1
  have := H.bd a
  exact ⟨h2, by omega⟩
theorem met_sym {a : List Int} (hf : figB s ls = true) (ha : poseG ls a = true) (hfa : finG s ls g a = true) (hp : poseG ls b = true) (hb : finG s ls g b = true) :
    hasK (awayG s ls g b) a = hasK (awayG s ls g a) b ∧ (hasK (awayG s ls g b) a = true → dG (awayG s ls g b) a = dG (awayG s ls g a) b) := by
  have H := away_srchB (g := g) hf hp hb
  have H' := away_srchB (g := g) hf ha hfa
  generalize awayG s ls g b = Q at H ⊢
  generalize awayG s ls g a = Q' at H' ⊢
  constructor
  · rw [Bool.eq_iff_iff]
    exact ⟨fun h => (met_sym1 H H' hp hb h).1, fun h => (met_sym1 H' H ha hfa h).1⟩
  · intro h
    obtain ⟨h1, h2⟩ := met_sym1 H H' hp hb h
    have h3 := (met_sym1 H' H ha hfa h1).2
    omega
end
/-- Whether turns are a way. -/
def goesG (s : Int) (ls : List Lb) (g : Stg) : List Int → List Int → List (Int × Int) → Bool
  | a, b, [] => decide (a = b)
  | a, b, t :: l => limbG ls t.1 && (decide (t.2 = -1) || decide (t.2 = 1)) && poseG ls (trnG a t) && finG s ls g (trnG a t) && goesG s ls g (trnG a t) b l
theorem limb_cand {ls : List Lb} {t : Int × Int} : (limbG ls t.1 && (decide (t.2 = -1) || decide (t.2 = 1))) = true ↔ t ∈ candG ls.length := by
  rw [mem_cand]
  unfold limbG inB
  simp only [Bool.and_eq_true, Bool.or_eq_true, decide_eq_true_eq]
  constructor
  · rintro ⟨⟨h1, h2⟩, h3⟩; exact ⟨by omega, by omega, h3⟩
  · rintro ⟨h1, h2, h3⟩; exact ⟨⟨by omega, by omega⟩, h3⟩
section
variable {s : Int} {ls : List Lb} {g : Stg} {b : List Int}
theorem goes_way : ∀ {l : List (Int × Int)} {a : List Int}, goesG s ls g a b l = true → WayN s ls g l.length a b
  | [], a, h => by
    have h : decide (a = b) = true := h
    show a = b
    exact of_decide_eq_true h
  | t :: l, a, h => by
    unfold goesG at h
    rw [Bool.and_eq_true, Bool.and_eq_true, Bool.and_eq_true, limb_cand] at h
    exact ⟨trnG a t, nb_mem.2 ⟨t, h.1.1.1, rfl, h.1.1.2, h.1.2⟩, goes_way h.2⟩
theorem path_goes {Q : Dst} (H : Srch s ls g Q) (hz : ∀ x ∈ Q, x.2 = 0 → x.1 = b) : ∀ (n : Nat) (now : List Int), hasK Q now = true → dG Q now = (n : Int) → goesG s ls g now b (pathL s ls g Q n now) = true
  | 0, now, hn, hd => by
    obtain ⟨d, h⟩ := hasK_iff.1 hn
    have := (dG_mem H h).1
    have hd0 : d = 0 := by omega
    subst hd0
    exact decide_eq_true (hz _ h rfl)
  | n + 1, now, hn, hd => by
    obtain ⟨j, t, h1, h2, h3⟩ := first_of H hn (by omega)
    rw [path_succ H hn (by omega) h1 h2 h3 n]
    obtain ⟨h6, h4, h5⟩ := firT_next H hn (by omega) h2
    obtain ⟨e, he⟩ := hasK_iff.1 h4
    unfold goesG
    rw [Bool.and_eq_true, Bool.and_eq_true, Bool.and_eq_true, limb_cand]
    exact ⟨⟨⟨List.mem_of_getElem? h1, h6⟩, H.fine _ he⟩, path_goes H hz n _ h4 (by omega)⟩
/-- One list of turns comes before another one. -/
def soonG : List (Int × Int) → List (Int × Int) → Bool
  | [], m => decide (0 < m.length)
  | _ :: _, [] => false
  | a :: l, b :: m => if a = b then soonG l m else decide (a.1 < b.1) || (decide (a.1 = b.1) && decide (a.2 < b.2))
theorem cand_lt {n j k : Nat} {t u : Int × Int} (hj : (candG n)[j]? = some t) (hk : (candG n)[k]? = some u) (h : j < k) : t ≠ u ∧ ¬ (u.1 < t.1) ∧ ¬ (u.1 = t.1 ∧ u.2 < t.2) := by
  have one : ∀ {j : Nat} {t : Int × Int}, (candG n)[j]? = some t → t = (((j / 2 : Nat) : Int), if j % 2 = 0 then -1 else 1) := by
    intro j t hj
    have hl := (List.getElem?_eq_some_iff.1 hj).1
    rw [cand_len] at hl
    obtain ⟨h1, h2⟩ := cand_get (n := n) (i := j / 2) (by omega)
    rcases Nat.mod_two_eq_zero_or_one j with hm | hm
    · rw [show 2 * (j / 2) = j by omega, hj] at h1
      cases h1
      rw [if_pos hm]
    · rw [show 2 * (j / 2) + 1 = j by omega, hj] at h2
      cases h2
      rw [if_neg (by omega)]
  have e1 := one hj
  have e2 := one hk
  subst e1
  subst e2
  refine ⟨fun e => ?_, ?_, ?_⟩
  · have e3 : ((j / 2 : Nat) : Int) = ((k / 2 : Nat) : Int) := congrArg Prod.fst e
    have e4 : (if j % 2 = 0 then (-1 : Int) else 1) = if k % 2 = 0 then -1 else 1 := congrArg Prod.snd e
    split at e4 <;> split at e4 <;> omega
  · show ¬ (((k / 2 : Nat) : Int) < ((j / 2 : Nat) : Int))
    omega
  · show ¬ (((k / 2 : Nat) : Int) = ((j / 2 : Nat) : Int) ∧ (if k % 2 = 0 then (-1 : Int) else 1) < if j % 2 = 0 then -1 else 1)
    split <;> split <;> omega
/-- No way that is as long comes sooner. -/
theorem path_soonB {Q : Dst} (HB : SrchB s ls g b Q) (hp : poseG ls b = true) (hb : finG s ls g b = true) : ∀ (n : Nat) (now : List Int) (l : List (Int × Int)), hasK Q now = true → dG Q now = (n : Int) → goesG s ls g now b l = true → l.length = n → soonG l (pathL s ls g Q n now) = false
  | 0, now, l, hn, hd, hg, hl => by
    obtain rfl : l = [] := List.length_eq_zero_iff.1 hl
    rfl
  | n + 1, now, [], hn, hd, hg, hl => by cases hl
  | n + 1, now, u :: l, hn, hd, hg, hl => by
    have H := HB.srch
    obtain ⟨j, t, h1, h2, h3⟩ := first_of H hn (by omega)
    rw [path_succ H hn (by omega) h1 h2 h3 n]
    obtain ⟨h6, h4, h5⟩ := firT_next H hn (by omega) h2
    unfold goesG at hg
    rw [Bool.and_eq_true, Bool.and_eq_true, Bool.and_eq_true, limb_cand] at hg
    obtain ⟨⟨⟨g1, g2⟩, g3⟩, g4⟩ := hg
    have hll : l.length = n := by simpa using hl
    -- what stands behind the first turn is as near as can be
    have hw := way_back g2 g3 (goes_way g4)
    obtain ⟨m1, m2⟩ := met_wayB HB hw
    have hfu : firT ls Q now u = true := by
      unfold firT
      rw [g2, Bool.true_and, decide_eq_true_eq, dI_dG m1, dI_dG hn]
      obtain ⟨e, he⟩ := hasK_iff.1 m1
      obtain ⟨d, hd'⟩ := hasK_iff.1 hn
      obtain ⟨e', h7, h8⟩ := H.next _ he now (nb_sym (H.pose _ hd') (H.fine _ hd') (nb_mem.2 ⟨u, g1, rfl, g2, g3⟩))
      have e1 := (dG_mem H he).1
      have e2 := (dG_mem H h7).1
      simp only at h8
      omega
    obtain ⟨k, hk⟩ := List.getElem?_of_mem g1
    unfold soonG
    rcases Nat.lt_trichotomy k j with hkj | rfl | hkj
    · rw [h3 k u hkj hk] at hfu; cases hfu
    · rw [hk] at h1
      cases h1
      rw [if_pos rfl]
      exact path_soonB HB hp hb n _ l h4 (by omega) g4 hll
    · obtain ⟨c1, c2, c3⟩ := cand_lt h1 hk hkj
      rw [if_neg (Ne.symm c1), decide_eq_false c2, Bool.false_or]
      cases hx : decide (u.1 = t.1) with
      | false => rfl
      | true =>
        rw [Bool.true_and]
        exact decide_eq_false fun h => c3 ⟨of_decide_eq_true hx, h⟩
theorem path_soon (hf : figB s ls = true) (hp : poseG ls b = true) (hb : finG s ls g b = true) (n : Nat) (now : List Int) (l : List (Int × Int)) (hk : hasK (awayG s ls g b) now = true) (hd : dG (awayG s ls g b) now = (n : Int)) (hg : goesG s ls g now b l = true) (hl : l.length = n) : soonG l (pathL s ls g (awayG s ls g b) n now) = false := by
  have H := away_srchB (g := g) hf hp hb
  generalize awayG s ls g b = Q at H hk hd ⊢
  exact path_soonB H hp hb n now l hk hd hg hl
/-- Ways are not longer than there are poses. -/
theorem dist_card {Q : Dst} (H : Srch s ls g Q) : ∀ (d : Nat) (x : List Int), (x, d) ∈ Q → ∃ l : List (List Int), l.length = d + 1 ∧ l.Nodup ∧ ∀ y ∈ l, ∃ e, (y, e) ∈ Q ∧ e ≤ d
  | 0, x, h => ⟨[x], rfl, by simp, fun y hy => by simp at hy; subst hy; exact ⟨0, h, Nat.le_refl _⟩⟩
  | d + 1, x, h => by
    obtain ⟨y, h1, _⟩ := H.pred _ h (Nat.succ_pos d)
    obtain ⟨l, h2, h3, h4⟩ := dist_card H d y h1
    refine ⟨x :: l, by rw [List.length_cons, h2], List.nodup_cons.2 ⟨fun hx => ?_, h3⟩, fun z hz => ?_⟩
    · obtain ⟨e, h5, h6⟩ := h4 x hx
      have e1 := (dG_mem H h).1
      have e2 := (dG_mem H h5).1
      omega
    · rcases List.mem_cons.1 hz with rfl | hz
      · exact ⟨d + 1, h, Nat.le_refl _⟩
      · obtain ⟨e, h5, h6⟩ := h4 z hz
        exact ⟨e, h5, by omega⟩
end
end Go.Pv
