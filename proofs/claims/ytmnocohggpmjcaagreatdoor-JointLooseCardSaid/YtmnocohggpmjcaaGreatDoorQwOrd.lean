/- Lists of places in order, each once: what is put in one after the other is what is sorted. In plain terms, no program in sight. -/
import Derived.Test.YtmnocohggpmjcaaGreatDoorQlSort
set_option linter.all false
namespace Go.Pv
def ltP (a b : Int × Int) : Bool := decide (a.1 < b.1) || (decide (a.1 = b.1) && decide (a.2 < b.2))
def putP : List (Int × Int) → Int × Int → List (Int × Int)
  | [], p => [p]
  | q :: r, p => if ltP q p = true then q :: putP r p else if q = p then q :: r else p :: q :: r
def putsP (l : List (Int × Int)) : List (Int × Int) := l.foldl putP []
def uniqQ (acc : List (Int × Int)) (p : Int × Int) : List (Int × Int) := if p ∈ acc then acc else acc ++ [p]
def uniqP (l : List (Int × Int)) : List (Int × Int) := l.foldl uniqQ []
abbrev SrtP (l : List (Int × Int)) : Prop := l.Pairwise fun a b => ltP a b = true
theorem ltP_iff {a b : Int × Int} : ltP a b = true ↔ a.1 < b.1 ∨ a.1 = b.1 ∧ a.2 < b.2 := by simp [ltP]
theorem ltP_irr {a : Int × Int} : ¬ ltP a a = true := by rw [ltP_iff]; omega
theorem ltP_trans {a b c : Int × Int} (h : ltP a b = true) (k : ltP b c = true) : ltP a c = true := by rw [ltP_iff] at *; omega
theorem ltP_total {a b : Int × Int} (h : ¬ ltP a b = true) (k : a ≠ b) : ltP b a = true := by
  rw [ltP_iff] at *
  obtain ⟨a1, a2⟩ := a
  obtain ⟨b1, b2⟩ := b
  simp only [ne_eq, Prod.mk.injEq] at *
  omega
theorem put_mem {x p : Int × Int} : ∀ l : List (Int × Int), x ∈ putP l p ↔ x ∈ l ∨ x = p
  | [] => by simp [putP]
  | q :: r => by
    unfold putP
    split
    · rw [List.mem_cons, put_mem r, List.mem_cons, or_assoc]
    · split
      · rename_i h; subst h
        rw [List.mem_cons]
        constructor
        · exact .inl
        · rintro (h | rfl)
          · exact h
          · exact .inl rfl
      · rw [List.mem_cons]; exact or_comm
theorem put_srt {p : Int × Int} : ∀ l : List (Int × Int), SrtP l → SrtP (putP l p)
  | [], _ => List.pairwise_singleton _ _
  | q :: r, h => by
    obtain ⟨h1, h2⟩ := List.pairwise_cons.1 h
    unfold putP
    split
    · rename_i hq
      refine List.pairwise_cons.2 ⟨fun x hx => ?_, put_srt r h2⟩
      rcases (put_mem r).1 hx with hx | rfl
      · exact h1 x hx
      · exact hq
    · split
      · exact h
      · rename_i hq hne
        have hpq := ltP_total hq hne
        refine List.pairwise_cons.2 ⟨fun x hx => ?_, h⟩
        rcases List.mem_cons.1 hx with rfl | hx
        · exact hpq
        · exact ltP_trans hpq (h1 x hx)
theorem srt_ext : ∀ (a b : List (Int × Int)), SrtP a → SrtP b → (∀ x, x ∈ a ↔ x ∈ b) → a = b
  | [], [], _, _, _ => rfl
  | [], q :: b, _, _, h => absurd ((h q).2 (List.mem_cons_self ..)) (by simp)
  | p :: a, [], _, _, h => absurd ((h p).1 (List.mem_cons_self ..)) (by simp)
  | p :: a, q :: b, ha, hb, h => by
    obtain ⟨a1, a2⟩ := List.pairwise_cons.1 ha
    obtain ⟨b1, b2⟩ := List.pairwise_cons.1 hb
    have hpq : p = q := by
      rcases List.mem_cons.1 ((h p).1 (List.mem_cons_self ..)) with e | e
      · exact e
      · rcases List.mem_cons.1 ((h q).2 (List.mem_cons_self ..)) with e' | e'
        · exact e'.symm
        · exact absurd (ltP_trans (b1 p e) (a1 q e')) ltP_irr
    subst hpq
    congr 1
    refine srt_ext a b a2 b2 fun x => ?_
    constructor
    · intro hx
      rcases List.mem_cons.1 ((h x).1 (List.mem_cons_of_mem _ hx)) with rfl | e
      · exact absurd (a1 x hx) ltP_irr
      · exact e
    · intro hx
      rcases List.mem_cons.1 ((h x).2 (List.mem_cons_of_mem _ hx)) with rfl | e
      · exact absurd (b1 x hx) ltP_irr
      · exact e
theorem puts_aux : ∀ (l acc : List (Int × Int)), SrtP acc → SrtP (l.foldl putP acc) ∧ ∀ x, x ∈ l.foldl putP acc ↔ x ∈ acc ∨ x ∈ l
  | [], acc, h => ⟨h, fun x => by simp⟩
  | p :: l, acc, h => by
    obtain ⟨a, b⟩ := puts_aux l (putP acc p) (put_srt acc h)
    refine ⟨a, fun x => ?_⟩
    rw [List.foldl_cons, b x, put_mem, List.mem_cons, or_assoc]
theorem puts_srt (l : List (Int × Int)) : SrtP (putsP l) := (puts_aux l [] List.Pairwise.nil).1
theorem puts_mem (l : List (Int × Int)) (x : Int × Int) : x ∈ putsP l ↔ x ∈ l := by
  have := (puts_aux l [] List.Pairwise.nil).2 x
  simpa [putsP] using this
theorem uniq_aux : ∀ (l acc : List (Int × Int)), acc.Nodup → (l.foldl uniqQ acc).Nodup ∧ ∀ x, x ∈ l.foldl uniqQ acc ↔ x ∈ acc ∨ x ∈ l
  | [], acc, h => ⟨h, fun x => by simp⟩
  | p :: l, acc, h => by
    have h1 : (uniqQ acc p).Nodup ∧ ∀ x, x ∈ uniqQ acc p ↔ x ∈ acc ∨ x = p := by
      unfold uniqQ
      split
      · rename_i hp
        refine ⟨h, fun x => ⟨.inl, ?_⟩⟩
        rintro (hx | rfl)
        · exact hx
        · exact hp
      · rename_i hp
        refine ⟨?_, fun x => by simp⟩
        rw [List.nodup_append]
        refine ⟨h, by simp, fun a ha b hb => ?_⟩
        simp at hb
        subst hb
        intro e
        subst e
        exact hp ha
    obtain ⟨a, b⟩ := uniq_aux l (uniqQ acc p) h1.1
    refine ⟨a, fun x => ?_⟩
    rw [List.foldl_cons, b x, h1.2, List.mem_cons, or_assoc]
theorem uniq_nodup (l : List (Int × Int)) : (uniqP l).Nodup := (uniq_aux l [] List.Pairwise.nil).1
theorem uniq_mem (l : List (Int × Int)) (x : Int × Int) : x ∈ uniqP l ↔ x ∈ l := by
  have := (uniq_aux l [] List.Pairwise.nil).2 x
  simpa [uniqP] using this
theorem uniq_snoc (l : List (Int × Int)) (p : Int × Int) : uniqP (l ++ [p]) = uniqQ (uniqP l) p := by unfold uniqP; rw [List.foldl_append]; rfl
theorem uniq_len (l : List (Int × Int)) : (uniqP l).length ≤ l.length := by
  have : ∀ (l acc : List (Int × Int)), (l.foldl uniqQ acc).length ≤ acc.length + l.length := by
    intro l
    induction l with
    | nil => intro acc; simp
    | cons p l ih =>
      intro acc
      have h1 : (uniqQ acc p).length ≤ acc.length + 1 := by unfold uniqQ; split <;> simp
      have := ih (uniqQ acc p)
      rw [List.foldl_cons, List.length_cons]
      omega
  simpa [uniqP] using this l []
theorem put_len (l : List (Int × Int)) (p : Int × Int) : (putP l p).length ≤ l.length + 1 := by
  induction l with
  | nil => simp [putP]
  | cons q r ih =>
    unfold putP
    split
    · simp; omega
    · split <;> simp
theorem puts_len (l : List (Int × Int)) : (putsP l).length ≤ l.length := by
  have : ∀ (l acc : List (Int × Int)), (l.foldl putP acc).length ≤ acc.length + l.length := by
    intro l
    induction l with
    | nil => intro acc; simp
    | cons p l ih =>
      intro acc
      have h1 := put_len acc p
      have := ih (putP acc p)
      rw [List.foldl_cons, List.length_cons]
      omega
  simpa [putsP] using this l []
/-- A sorted list of all that was met, each once, is what is put in one after the other. -/
theorem srt_puts {l s : List (Int × Int)} (h : SrtP s) (hm : ∀ x, x ∈ s ↔ x ∈ l) : s = putsP l :=
  srt_ext s _ h (puts_srt l) fun x => by rw [hm, puts_mem]
end Go.Pv
namespace Go.Pv
open Go Go.Sort Go.Shelf Go.Proofs
def cmpI (a b : Int) : Int := if a < b then -1 else if b < a then 1 else 0
/-- As the program compares places: by x, then by y. -/
def cmpP (a b : PP) : Int := if a.x < b.x then -1 else if b.x < a.x then 1 else cmpI a.y b.y
def PP.pl (p : PP) : Int × Int := (p.x, p.y)
theorem lt_cmp (a b : PP) : ltOf cmpP a b = ltP a.pl b.pl := by
  unfold ltOf cmpP cmpI ltP PP.pl
  rw [Bool.eq_iff_iff]
  simp only [decide_eq_true_eq, Bool.or_eq_true, Bool.and_eq_true]
  split
  · simp; omega
  · split
    · simp; omega
    · split
      · simp; omega
      · split
        · simp; omega
        · simp; omega
theorem swo_cmp : SWO (ltOf cmpP) where
  irrefl x := by rw [lt_cmp]; exact Bool.eq_false_iff.2 ltP_irr
  trans x y z h k := by rw [lt_cmp] at *; exact ltP_trans h k
  ntrans x y z h k := by
    rw [lt_cmp] at *
    simp only [Bool.eq_false_iff, ne_eq, ltP_iff] at *
    omega
theorem tot_cmp (x y : PP) (h : ltOf cmpP x y = false) (k : ltOf cmpP y x = false) : x = y := by
  rw [lt_cmp] at *
  simp only [Bool.eq_false_iff, ne_eq, ltP_iff, PP.pl] at *
  exact PP.ext (by omega) (by omega)
/-- The sorted list of places that were met, each once. -/
theorem merge_puts {l : List PP} {xs : List (Int × Int)} (h : l.map PP.pl = uniqP xs) : (l.mergeSort fun x y => !(ltOf cmpP) y x).map PP.pl = putsP xs := by
  have hperm := List.mergeSort_perm l fun x y => !(ltOf cmpP) y x
  have hnd : (l.map PP.pl).Nodup := by rw [h]; exact uniq_nodup xs
  have hs := List.pairwise_mergeSort (le := fun x y => !(ltOf cmpP) y x) (fun a b c h1 h2 => by
    simp only [Bool.not_eq_true', Bool.eq_false_iff, ne_eq, lt_cmp, ltP_iff] at *
    omega) (fun a b => by
    simp only [Bool.or_eq_true, Bool.not_eq_true', Bool.eq_false_iff, ne_eq, lt_cmp, ltP_iff]
    omega) l
  have hnd2 : ((l.mergeSort fun x y => !(ltOf cmpP) y x).map PP.pl).Nodup := ((hperm.map PP.pl).nodup_iff).2 hnd
  refine srt_puts ?_ fun x => ?_
  · unfold SrtP
    rw [List.pairwise_map]
    refine (List.Pairwise.and (List.pairwise_map.1 hnd2) hs).imp fun {a b} k => ?_
    obtain ⟨k1, k2⟩ := k
    simp only [Bool.not_eq_true', Bool.eq_false_iff, ne_eq, lt_cmp] at k2
    exact ltP_total k2 (fun e => k1 e.symm)
  · rw [← uniq_mem xs, ← h]
    simp only [List.mem_map, List.mem_mergeSort]
end Go.Pv
