/- Lists of places in order, each once: what is put in one after the other is what is sorted. In plain terms, no program in sight. -/
import Derived.Test.YtmnocohggpmjcaaGreatDoorQlSort
import Derived.Test.YtmnocohggpmjcaaGreatDoorQgEnds
import Derived.Test.YtmnocohggpmjcaaGreatDoorQdWalk
import Derived.Shelf.SlSortCmp.NoneTotal
import Derived.Test.YtmnocohggpmjcaaGreatDoorProg
import Derived.Test.YtmnocohggpmjcaaGreatDoorQfJoint
import Derived.Test.YtmnocohggpmjcaaGreatDoorQoFine
import Derived.Test.YtmnocohggpmjcaaGreatDoorQlLoop
set_option linter.all false
namespace Go.Pv
def ltP (a b : Int × Int) : Bool := decide (a.1 < b.1) || (decide (a.1 = b.1) && decide (a.2 < b.2))
def putP : List (Int × Int) → Int × Int → List (Int × Int)
  | [], p => [p]
  | q :: r, p => if ltP q p = true then q :: putP r p else if q = p then q :: r else p :: q :: r
def putsP (l : List (Int × Int)) : List (Int × Int) := l.foldl putP []
def uniqQ (acc : List (Int × Int)) (p : Int × Int) : List (Int × Int) := if p ∈ acc then acc else acc ++ [p]
def uniqP (l : List (Int × Int)) : List (Int × Int) := l.foldl uniqQ []
abbrev SrtP (l : List (Int × Int)) : Prop := l.Pairwise fun a b => ltP a b = true
theorem ltP_iff {a b : Int × Int} : ltP a b = true ↔ a.1 < b.1 ∨ a.1 = b.1 ∧ a.2 < b.2 := by simp [ltP]
theorem ltP_irr {a : Int × Int} : ¬ ltP a a = true := by rw [ltP_iff]; omega
theorem ltP_trans {a b c : Int × Int} (h : ltP a b = true) (k : ltP b c = true) : ltP a c = true := by rw [ltP_iff] at *; omega
theorem ltP_total {a b : Int × Int} (h : ¬ ltP a b = true) (k : a ≠ b) : ltP b a = true := by
  rw [ltP_iff] at *
  obtain ⟨a1, a2⟩ := a
  obtain ⟨b1, b2⟩ := b
  simp only [ne_eq, Prod.mk.injEq] at *
  omega
theorem put_mem {x p : Int × Int} : ∀ l : List (Int × Int), x ∈ putP l p ↔ x ∈ l ∨ x = p
  | [] => by simp [putP]
  | q :: r => by
    unfold putP
    split
    · rw [List.mem_cons, put_mem r, List.mem_cons, or_assoc]
    · split
      · rename_i h; subst h
        rw [List.mem_cons]
        constructor
        · exact .inl
        · rintro (h | rfl)
          · exact h
          · exact .inl rfl
      · rw [List.mem_cons]; exact or_comm
theorem put_srt {p : Int × Int} : ∀ l : List (Int × Int), SrtP l → SrtP (putP l p)
  | [], _ => List.pairwise_singleton _ _
  | q :: r, h => by
    obtain ⟨h1, h2⟩ := List.pairwise_cons.1 h
    unfold putP
    split
    · rename_i hq
      refine List.pairwise_cons.2 ⟨fun x hx => ?_, put_srt r h2⟩
      rcases (put_mem r).1 hx with hx | rfl
      · exact h1 x hx
      · exact hq
    · split
      · exact h
      · rename_i hq hne
        have hpq := ltP_total hq hne
        refine List.pairwise_cons.2 ⟨fun x hx => ?_, h⟩
        rcases List.mem_cons.1 hx with rfl | hx
        · exact hpq
        · exact ltP_trans hpq (h1 x hx)
theorem srt_ext : ∀ (a b : List (Int × Int)), SrtP a → SrtP b → (∀ x, x ∈ a ↔ x ∈ b) → a = b
  | [], [], _, _, _ => rfl
  | [], q :: b, _, _, h => absurd ((h q).2 (List.mem_cons_self ..)) (by simp)
  | p :: a, [], _, _, h => absurd ((h p).1 (List.mem_cons_self ..)) (by simp)
  | p :: a, q :: b, ha, hb, h => by
    obtain ⟨a1, a2⟩ := List.pairwise_cons.1 ha
    obtain ⟨b1, b2⟩ := List.pairwise_cons.1 hb
    have hpq : p = q := by
      rcases List.mem_cons.1 ((h p).1 (List.mem_cons_self ..)) with e | e
      · exact e
      · rcases List.mem_cons.1 ((h q).2 (List.mem_cons_self ..)) with e' | e'
        · exact e'.symm
        · exact absurd (ltP_trans (b1 p e) (a1 q e')) ltP_irr
    subst hpq
    congr 1
    refine srt_ext a b a2 b2 fun x => ?_
    constructor
    · intro hx
      rcases List.mem_cons.1 ((h x).1 (List.mem_cons_of_mem _ hx)) with rfl | e
      · exact absurd (a1 x hx) ltP_irr
      · exact e
    · intro hx
      rcases List.mem_cons.1 ((h x).2 (List.mem_cons_of_mem _ hx)) with rfl | e
      · exact absurd (b1 x hx) ltP_irr
      · exact e
theorem puts_aux : ∀ (l acc : List (Int × Int)), SrtP acc → SrtP (l.foldl putP acc) ∧ ∀ x, x ∈ l.foldl putP acc ↔ x ∈ acc ∨ x ∈ l
  | [], acc, h => ⟨h, fun x => by simp⟩
  | p :: l, acc, h => by
    obtain ⟨a, b⟩ := puts_aux l (putP acc p) (put_srt acc h)
    refine ⟨a, fun x => ?_⟩
    rw [List.foldl_cons, b x, put_mem, List.mem_cons, or_assoc]
theorem puts_srt (l : List (Int × Int)) : SrtP (putsP l) := (puts_aux l [] List.Pairwise.nil).1
theorem puts_mem (l : List (Int × Int)) (x : Int × Int) : x ∈ putsP l ↔ x ∈ l := by
  have := (puts_aux l [] List.Pairwise.nil).2 x
  simpa [putsP] using this
theorem uniq_aux : ∀ (l acc : List (Int × Int)), acc.Nodup → (l.foldl uniqQ acc).Nodup ∧ ∀ x, x ∈ l.foldl uniqQ acc ↔ x ∈ acc ∨ x ∈ l
  | [], acc, h => ⟨h, fun x => by simp⟩
  | p :: l, acc, h => by
    have h1 : (uniqQ acc p).Nodup ∧ ∀ x, x ∈ uniqQ acc p ↔ x ∈ acc ∨ x = p := by
      unfold uniqQ
      split
      · rename_i hp
        refine ⟨h, fun x => ⟨.inl, ?_⟩⟩
        rintro (hx | rfl)
        · exact hx
        · exact hp
      · rename_i hp
        refine ⟨?_, fun x => by simp⟩
        rw [List.nodup_append]
        refine ⟨h, by simp, fun a ha b hb => ?_⟩
        simp at hb
        subst hb
        intro e
        subst e
        exact hp ha
    obtain ⟨a, b⟩ := uniq_aux l (uniqQ acc p) h1.1
    refine ⟨a, fun x => ?_⟩
    rw [List.foldl_cons, b x, h1.2, List.mem_cons, or_assoc]
theorem uniq_nodup (l : List (Int × Int)) : (uniqP l).Nodup := (uniq_aux l [] List.Pairwise.nil).1
theorem uniq_mem (l : List (Int × Int)) (x : Int × Int) : x ∈ uniqP l ↔ x ∈ l := by
  have := (uniq_aux l [] List.Pairwise.nil).2 x
  simpa [uniqP] using this
theorem uniq_snoc (l : List (Int × Int)) (p : Int × Int) : uniqP (l ++ [p]) = uniqQ (uniqP l) p := by unfold uniqP; rw [List.foldl_append]; rfl
theorem uniq_len (l : List (Int × Int)) : (uniqP l).length ≤ l.length := by
  have : ∀ (l acc : List (Int × Int)), (l.foldl uniqQ acc).length ≤ acc.length + l.length := by
    intro l
    induction l with
    | nil => intro acc; simp
    | cons p l ih =>
      intro acc
      have h1 : (uniqQ acc p).length ≤ acc.length + 1 := by unfold uniqQ; split <;> simp
      have := ih (uniqQ acc p)
      rw [List.foldl_cons, List.length_cons]
      omega
  simpa [uniqP] using this l []
theorem put_len (l : List (Int × Int)) (p : Int × Int) : (putP l p).length ≤ l.length + 1 := by
  induction l with
  | nil => simp [putP]
  | cons q r ih =>
    unfold putP
    split
    · simp; omega
    · split <;> simp
theorem puts_len (l : List (Int × Int)) : (putsP l).length ≤ l.length := by
  have : ∀ (l acc : List (Int × Int)), (l.foldl putP acc).length ≤ acc.length + l.length := by
    intro l
    induction l with
    | nil => intro acc; simp
    | cons p l ih =>
      intro acc
      have h1 := put_len acc p
      have := ih (putP acc p)
      rw [List.foldl_cons, List.length_cons]
      omega
  simpa [putsP] using this l []
/-- A sorted list of all that was met, each once, is what is put in one after the other. -/
theorem srt_puts {l s : List (Int × Int)} (h : SrtP s) (hm : ∀ x, x ∈ s ↔ x ∈ l) : s = putsP l :=
  srt_ext s _ h (puts_srt l) fun x => by rw [hm, puts_mem]
end Go.Pv
namespace Go.Pv
open Go Go.Sort Go.Shelf Go.Proofs
def cmpI (a b : Int) : Int := if a < b then -1 else if b < a then 1 else 0
/-- As the program compares places: by x, then by y. -/
def cmpP (a b : PP) : Int := if a.x < b.x then -1 else if b.x < a.x then 1 else cmpI a.y b.y
def PP.pl (p : PP) : Int × Int := (p.x, p.y)
theorem lt_cmp (a b : PP) : ltOf cmpP a b = ltP a.pl b.pl := by
  unfold ltOf cmpP cmpI ltP PP.pl
  rw [Bool.eq_iff_iff]
  simp only [decide_eq_true_eq, Bool.or_eq_true, Bool.and_eq_true]
  split
  · simp; omega
  · split
    · simp; omega
    · split
      · simp; omega
      · split
        · simp; omega
        · simp; omega
theorem swo_cmp : SWO (ltOf cmpP) where
  irrefl x := by rw [lt_cmp]; exact Bool.eq_false_iff.2 ltP_irr
  trans x y z h k := by rw [lt_cmp] at *; exact ltP_trans h k
  ntrans x y z h k := by
    rw [lt_cmp] at *
    simp only [Bool.eq_false_iff, ne_eq, ltP_iff] at *
    omega
theorem tot_cmp (x y : PP) (h : ltOf cmpP x y = false) (k : ltOf cmpP y x = false) : x = y := by
  rw [lt_cmp] at *
  simp only [Bool.eq_false_iff, ne_eq, ltP_iff, PP.pl] at *
  exact PP.ext (by omega) (by omega)
/-- The sorted list of places that were met, each once. -/
theorem merge_puts {l : List PP} {xs : List (Int × Int)} (h : l.map PP.pl = uniqP xs) : (l.mergeSort fun x y => !(ltOf cmpP) y x).map PP.pl = putsP xs := by
  have hperm := List.mergeSort_perm l fun x y => !(ltOf cmpP) y x
  have hnd : (l.map PP.pl).Nodup := by rw [h]; exact uniq_nodup xs
  have hs := List.pairwise_mergeSort (le := fun x y => !(ltOf cmpP) y x) (fun a b c h1 h2 => by
    simp only [Bool.not_eq_true', Bool.eq_false_iff, ne_eq, lt_cmp, ltP_iff] at *
    omega) (fun a b => by
    simp only [Bool.or_eq_true, Bool.not_eq_true', Bool.eq_false_iff, ne_eq, lt_cmp, ltP_iff]
    omega) l
  have hnd2 : ((l.mergeSort fun x y => !(ltOf cmpP) y x).map PP.pl).Nodup := ((hperm.map PP.pl).nodup_iff).2 hnd
  refine srt_puts ?_ fun x => ?_
  · unfold SrtP
    rw [List.pairwise_map]
    refine (List.Pairwise.and (List.pairwise_map.1 hnd2) hs).imp fun {a b} k => ?_
    obtain ⟨k1, k2⟩ := k
    simp only [Bool.not_eq_true', Bool.eq_false_iff, ne_eq, lt_cmp] at k2
    exact ltP_total k2 (fun e => k1 e.symm)
  · rw [← uniq_mem xs, ← h]
    simp only [List.mem_map, List.mem_mergeSort]
end Go.Pv
namespace Go.Pv
open Go Go.RowKit Go.Proofs
set_option maxRecDepth 10000
set_option maxHeartbeats 4000000
theorem isNaN_187 (x : Int) : CallOk Tryz.prog 187 [ii x] [] (.ret (.bool false)) [] := by
  refine CallOk.of0 hTT Tryz.func187 rfl rfl ?_
  have h1 : (x != x) = false := bne_self_eq_false x
  repeat (first | (with_reducible (first | apply wA | apply wB | apply wC | apply wD | apply wE | apply wF | apply wG | apply wH | apply wI | apply wJ | apply wK | apply wL | apply wM | apply wN | apply wO | apply wP | apply wQ rfl | apply wR | apply wS | apply wT | apply wU)) | ((with_reducible (first | apply wV | apply wW | apply wX | (apply wY [] hTT cf0_ok noM_ok mixed; (focus kernel_rfl)))); (focus (simp only [Tryz.f187, h1, go_sem]; with_reducible rfl))) | (with_reducible refine wZ hTT cf0_ok noM_ok ?_) | (with_reducible refine wa ?_; refine And.intro ?_ ?_; (focus kernel_rfl)))
  exact ⟨rfl, rfl, _, rfl, rfl⟩
def c187 : List PV → List Box → Option (PRes × List Box)
  | [.int .i64 _], sg => some (.ret (.bool false), sg)
  | _, _ => none
theorem c187_ok : ConOk Tryz.prog 187 c187 := ConOk.of0 (ent Tryz.func187 rfl) fun args sg r sg' h => by
  unfold c187 at h
  split at h <;> cases h
  exact ⟨_, rfl, rfl, rfl, isNaN_187 _⟩
def cfO1 : CallF := cfAdd cf0 187 c187
theorem cfO1_ok : CallFOk Tryz.prog cfO1 := cfAdd_ok cf0_ok c187_ok
theorem cmp_165 (x y : Int) : CallOk Tryz.prog 165 [ii x, ii y] [] (.ret (ii (cmpI x y))) [] := by
  refine CallOk.of0 hTT Tryz.func165 rfl rfl ?_
  unfold cmpI
  by_cases h1 : x < y
  · rw [if_pos h1]
    repeat (first | (with_reducible (first | apply wA | apply wB | apply wC | apply wD | apply wE | apply wF | apply wG | apply wH | apply wI | apply wJ | apply wK | apply wL | apply wM | apply wN | apply wO | apply wP | apply wQ rfl | apply wR | apply wS | apply wT | apply wU)) | ((with_reducible (first | apply wV | apply wW | apply wX | (apply wY [] hTT cfO1_ok noM_ok mixed; (focus kernel_rfl)))); (focus (simp only [Tryz.f165, cfO1, c187, h1, go_sem]; with_reducible rfl))) | (with_reducible refine wZ hTT cfO1_ok noM_ok ?_) | (with_reducible refine wa ?_; refine And.intro ?_ ?_; (focus kernel_rfl)))
    exact ⟨rfl, rfl, _, rfl, rfl⟩
  · rw [if_neg h1]
    by_cases h2 : y < x
    · rw [if_pos h2]
      repeat (first | (with_reducible (first | apply wA | apply wB | apply wC | apply wD | apply wE | apply wF | apply wG | apply wH | apply wI | apply wJ | apply wK | apply wL | apply wM | apply wN | apply wO | apply wP | apply wQ rfl | apply wR | apply wS | apply wT | apply wU)) | ((with_reducible (first | apply wV | apply wW | apply wX | (apply wY [] hTT cfO1_ok noM_ok mixed; (focus kernel_rfl)))); (focus (simp only [Tryz.f165, cfO1, c187, h1, h2, gt_iff_lt, go_sem]; with_reducible rfl))) | (with_reducible refine wZ hTT cfO1_ok noM_ok ?_) | (with_reducible refine wa ?_; refine And.intro ?_ ?_; (focus kernel_rfl)))
      exact ⟨rfl, rfl, _, rfl, rfl⟩
    · rw [if_neg h2]
      repeat (first | (with_reducible (first | apply wA | apply wB | apply wC | apply wD | apply wE | apply wF | apply wG | apply wH | apply wI | apply wJ | apply wK | apply wL | apply wM | apply wN | apply wO | apply wP | apply wQ rfl | apply wR | apply wS | apply wT | apply wU)) | ((with_reducible (first | apply wV | apply wW | apply wX | (apply wY [] hTT cfO1_ok noM_ok mixed; (focus kernel_rfl)))); (focus (simp only [Tryz.f165, cfO1, c187, h1, h2, gt_iff_lt, go_sem]; with_reducible rfl))) | (with_reducible refine wZ hTT cfO1_ok noM_ok ?_) | (with_reducible refine wa ?_; refine And.intro ?_ ?_; (focus kernel_rfl)))
      exact ⟨rfl, rfl, _, rfl, rfl⟩
def c165 : List PV → List Box → Option (PRes × List Box)
  | [.int .i64 x, .int .i64 y], sg => some (.ret (ii (cmpI x y)), sg)
  | _, _ => none
theorem c165_ok : ConOk Tryz.prog 165 c165 := ConOk.of0 (ent Tryz.func165 rfl) fun args sg r sg' h => by
  unfold c165 at h
  split at h <;> cases h
  exact ⟨_, rfl, rfl, rfl, cmp_165 _ _⟩
def cfO2 : CallF := cfAdd cf0 165 c165
theorem cfO2_ok : CallFOk Tryz.prog cfO2 := cfAdd_ok cf0_ok c165_ok
def cmpL (a b c d : Int) : Int := if a < c then -1 else if c < a then 1 else cmpI b d
theorem cmpI_ne {a b : Int} (h : a ≠ b) : (cmpI a b != 0) = true := by
  unfold cmpI
  split
  · rfl
  · split
    · rfl
    · omega
theorem cmpI_eq (a : Int) : cmpI a a = 0 := by simp [cmpI]
theorem Compare_135 (a b c d : Int) : CallOk Tryz.prog 135 [.sl .f [ii a, ii b], .sl .f [ii c, ii d]] [] (.ret (ii (cmpL a b c d))) [] := by
  refine CallOk.of0 hTT Tryz.func135 rfl rfl ?_
  have b00 : ((0 : Int) != 0) = false := rfl
  have h02 : ¬ (2 : Int) ≤ 0 := by omega
  have h12 : ¬ (2 : Int) ≤ 1 := by omega
  have l22 : ¬ (2 : Int) < 2 := by omega
  have n0 : ((0 : Nat) : Int) = 0 := rfl
  have n1 : ((1 : Nat) : Int) = 1 := rfl
  have n2 : ((2 : Nat) : Int) = 2 := rfl
  have w1 : IntKind.i64.wrap (0 + 1) = 1 := rfl
  have w2 : IntKind.i64.wrap (1 + 1) = 2 := rfl
  have w3 : IntKind.i64.wrap 1 = 1 := rfl
  have w4 : IntKind.i64.wrap 2 = 2 := rfl
  repeat (first | (with_reducible (first | apply wA | apply wB | apply wC | apply wD | apply wE | apply wF | apply wG | apply wH | apply wI | apply wJ | apply wK | apply wL | apply wM | apply wN | apply wO | apply wP | apply wQ rfl | apply wR | apply wS | apply wT | apply wU)) | ((with_reducible (first | apply wV | apply wW | apply wX | (apply wY [] hTT cfO2_ok noM_ok mixed; (focus kernel_rfl)))); (focus (simp only [Tryz.f135, go_sem]; with_reducible rfl))) | (with_reducible refine wZ hTT cfO2_ok noM_ok ?_) | (with_reducible refine wa ?_; refine And.intro ?_ ?_; (focus kernel_rfl)))
  refine RunQ.keep [11, 10, 9, 1, 0] (by simp only [go_sem]; rfl) ?_
  refine RunQ.loop (fun i s' => (1 ≤ i → a = c) ∧ (2 ≤ i → b = d) ∧ s' = ⟨[(11, ii i), (10, ii 2), (9, .sl .f [ii a, ii b]), (0, .sl .f [ii a, ii b]), (1, .sl .f [ii c, ii d])], 36, []⟩) 2 ⟨fun h => absurd h (by omega), fun h => absurd h (by omega), rfl⟩ ?_
  rintro i _ hi ⟨h1, h2, rfl⟩
  match i, hi with
  | 0, _ =>
    by_cases hac : a = c
    · subst hac
      have e1 := cmpI_eq a
      repeat (first | (with_reducible (first | apply wA | apply wB | apply wC | apply wD | apply wE | apply wF | apply wG | apply wH | apply wI | apply wJ | apply wK | apply wL | apply wM | apply wN | apply wO | apply wP | apply wQ rfl | apply wR | apply wS | apply wT | apply wU)) | ((with_reducible (first | apply wV | apply wW | apply wX | (apply wY [] hTT cfO2_ok noM_ok mixed; (focus kernel_rfl)))); (focus (simp only [Tryz.f135, cfO2, c165, n0, n1, n2, h02, h12, ge_iff_le, w1, w2, w3, w4, e1, b00, go_sem]; with_reducible rfl))) | (with_reducible refine wZ hTT cfO2_ok noM_ok ?_) | (with_reducible refine wa ?_; refine And.intro ?_ ?_; (focus kernel_rfl)))
      refine roundQ.b (by omega) (Back.keep [11, 10, 9, 0, 1] rfl) ⟨fun _ => rfl, fun h => absurd h (by omega), rfl⟩
    · have e1 := cmpI_ne hac
      have e2 : cmpL a b c d = cmpI a c := by
        unfold cmpL cmpI
        split
        · rfl
        · split
          · rfl
          · omega
      rw [e2]
      repeat (first | (with_reducible (first | apply wA | apply wB | apply wC | apply wD | apply wE | apply wF | apply wG | apply wH | apply wI | apply wJ | apply wK | apply wL | apply wM | apply wN | apply wO | apply wP | apply wQ rfl | apply wR | apply wS | apply wT | apply wU)) | ((with_reducible (first | apply wV | apply wW | apply wX | (apply wY [] hTT cfO2_ok noM_ok mixed; (focus kernel_rfl)))); (focus (simp only [Tryz.f135, cfO2, c165, n0, n1, n2, h02, h12, ge_iff_le, w1, w2, w3, w4, e1, go_sem]; with_reducible rfl))) | (with_reducible refine wZ hTT cfO2_ok noM_ok ?_) | (with_reducible refine wa ?_; refine And.intro ?_ ?_; (focus kernel_rfl)))
      exact ⟨rfl, rfl, _, rfl, rfl⟩
  | 1, _ =>
    have hac := h1 (by omega)
    subst hac
    have e3 : cmpL a b a d = cmpI b d := by unfold cmpL; simp
    by_cases hbd : b = d
    · subst hbd
      have e1 := cmpI_eq b
      repeat (first | (with_reducible (first | apply wA | apply wB | apply wC | apply wD | apply wE | apply wF | apply wG | apply wH | apply wI | apply wJ | apply wK | apply wL | apply wM | apply wN | apply wO | apply wP | apply wQ rfl | apply wR | apply wS | apply wT | apply wU)) | ((with_reducible (first | apply wV | apply wW | apply wX | (apply wY [] hTT cfO2_ok noM_ok mixed; (focus kernel_rfl)))); (focus (simp only [Tryz.f135, cfO2, c165, n0, n1, n2, h02, h12, ge_iff_le, w1, w2, w3, w4, e1, b00, go_sem]; with_reducible rfl))) | (with_reducible refine wZ hTT cfO2_ok noM_ok ?_) | (with_reducible refine wa ?_; refine And.intro ?_ ?_; (focus kernel_rfl)))
      refine roundQ.b (by omega) (Back.keep [11, 10, 9, 0, 1] rfl) ⟨fun _ => rfl, fun _ => rfl, rfl⟩
    · have e1 := cmpI_ne hbd
      rw [e3]
      repeat (first | (with_reducible (first | apply wA | apply wB | apply wC | apply wD | apply wE | apply wF | apply wG | apply wH | apply wI | apply wJ | apply wK | apply wL | apply wM | apply wN | apply wO | apply wP | apply wQ rfl | apply wR | apply wS | apply wT | apply wU)) | ((with_reducible (first | apply wV | apply wW | apply wX | (apply wY [] hTT cfO2_ok noM_ok mixed; (focus kernel_rfl)))); (focus (simp only [Tryz.f135, cfO2, c165, n0, n1, n2, h02, h12, ge_iff_le, w1, w2, w3, w4, e1, go_sem]; with_reducible rfl))) | (with_reducible refine wZ hTT cfO2_ok noM_ok ?_) | (with_reducible refine wa ?_; refine And.intro ?_ ?_; (focus kernel_rfl)))
      exact ⟨rfl, rfl, _, rfl, rfl⟩
  | 2, _ =>
    have hac := h1 (by omega)
    have hbd := h2 (by omega)
    subst hac
    subst hbd
    have e3 : cmpL a b a b = 0 := by unfold cmpL; simp [cmpI]
    rw [e3]
    repeat (first | (with_reducible (first | apply wA | apply wB | apply wC | apply wD | apply wE | apply wF | apply wG | apply wH | apply wI | apply wJ | apply wK | apply wL | apply wM | apply wN | apply wO | apply wP | apply wQ rfl | apply wR | apply wS | apply wT | apply wU)) | ((with_reducible (first | apply wV | apply wW | apply wX | (apply wY [] hTT cfO2_ok noM_ok mixed; (focus kernel_rfl)))); (focus (simp only [Tryz.f135, n2, l22, go_sem]; with_reducible rfl))) | (with_reducible refine wZ hTT cfO2_ok noM_ok ?_) | (with_reducible refine wa ?_; refine And.intro ?_ ?_; (focus kernel_rfl)))
    exact ⟨rfl, rfl, _, rfl, rfl⟩
def c135 : List PV → List Box → Option (PRes × List Box)
  | [.sl .f [.int .i64 a, .int .i64 b], .sl .f [.int .i64 c, .int .i64 d]], sg => some (.ret (ii (cmpL a b c d)), sg)
  | _, _ => none
theorem c135_ok : ConOk Tryz.prog 135 c135 := ConOk.of0 (ent Tryz.func135 rfl) fun args sg r sg' h => by
  unfold c135 at h
  split at h <;> cases h
  exact ⟨_, rfl, rfl, rfl, Compare_135 _ _ _ _⟩
def cfO3 : CallF := cfAdd (cfAdd cf0 134 c134) 135 c135
theorem cfO3_ok : CallFOk Tryz.prog cfO3 := cfAdd_ok (cfAdd_ok cf0_ok c134_ok) c135_ok
theorem ordered_133 (a b : PP) : CallOk Tryz.prog 133 [a.pv, b.pv] [] (.ret (.int .i64 (cmpP a b))) [] := by
  obtain ⟨a, b', _, _⟩ := a
  obtain ⟨c, d, _, _⟩ := b
  refine CallOk.of0 hTT Tryz.func133 rfl rfl ?_
  show RunQ _ _ ⟨argT 0 [.agg [ii a, ii b'], .agg [ii c, ii d]], _, _⟩ _
  have e : cmpP ⟨a, b', by assumption, by assumption⟩ ⟨c, d, by assumption, by assumption⟩ = cmpL a b' c d := rfl
  rw [e]
  repeat (first | (with_reducible (first | apply wA | apply wB | apply wC | apply wD | apply wE | apply wF | apply wG | apply wH | apply wI | apply wJ | apply wK | apply wL | apply wM | apply wN | apply wO | apply wP | apply wQ rfl | apply wR | apply wS | apply wT | apply wU)) | ((with_reducible (first | apply wV | apply wW | apply wX | (apply wY [] hTT cfO3_ok noM_ok mixed; (focus kernel_rfl)))); (focus (simp only [Tryz.f133, cfO3, c134, c135, go_sem]; with_reducible rfl))) | (with_reducible refine wZ hTT cfO3_ok noM_ok ?_) | (with_reducible refine wa ?_; refine And.intro ?_ ?_; (focus kernel_rfl)))
  exact ⟨rfl, rfl, _, rfl, rfl⟩
end Go.Pv
namespace Go.Proofs
open Go.Shelf
def Tryz.sort132_ren : Go.Shelf.Ren := ⟨fun | 6 => 132 | 15 => 162 | 14 => 161 | 28 => 185 | 29 => 186 | 20 => 177 | 21 => 178 | 22 => 179 | 23 => 180 | 24 => 181 | 25 => 182 | 26 => 183 | 27 => 184 | 46 => 195 | 47 => 196 | 48 => 197 | 49 => 198 | 50 => 199 | 57 => 211 | n => n, fun | 22 => 30 | 24 => 36 | 25 => 187 | 3 => 3 | 39 => 215 | 0 => 0 | 53 => 244 | 55 => 246 | 4 => 4 | 46 => 238 | 45 => 237 | 50 => 146 | 5 => 5 | 9 => 9 | 66 => 253 | 70 => 257 | 76 => 269 | 77 => 270 | n => n, fun | n => n⟩
theorem Tryz.sort132 : Go.Proofs.SlLaysF0.n6 Tryz.prog Tryz.sort132_ren := {
  mixed := by kernel_rfl
  f6 := ⟨Tryz.f132.name, by decide, Tryz.func132.trans (congrArg some (by kernel_rfl))⟩
  f14 := ⟨Tryz.f161.name, by decide, Tryz.func161.trans (congrArg some (by kernel_rfl))⟩
  f15 := Tryz.func162.trans (congrArg some (by kernel_rfl))
  f20 := ⟨Tryz.f177.name, by decide, Tryz.func177.trans (congrArg some (by kernel_rfl))⟩
  f21 := ⟨Tryz.f178.name, by decide, Tryz.func178.trans (congrArg some (by kernel_rfl))⟩
  f22 := ⟨Tryz.f179.name, by decide, Tryz.func179.trans (congrArg some (by kernel_rfl))⟩
  f23 := ⟨Tryz.f180.name, by decide, Tryz.func180.trans (congrArg some (by kernel_rfl))⟩
  f24 := ⟨Tryz.f181.name, by decide, Tryz.func181.trans (congrArg some (by kernel_rfl))⟩
  f25 := ⟨Tryz.f182.name, by decide, Tryz.func182.trans (congrArg some (by kernel_rfl))⟩
  f26 := ⟨Tryz.f183.name, by decide, Tryz.func183.trans (congrArg some (by kernel_rfl))⟩
  f27 := ⟨Tryz.f184.name, by decide, Tryz.func184.trans (congrArg some (by kernel_rfl))⟩
  f28 := Tryz.func185.trans (congrArg some (by kernel_rfl))
  f29 := Tryz.func186.trans (congrArg some (by kernel_rfl))
  f46 := ⟨Tryz.f195.name, by decide, Tryz.func195.trans (congrArg some (by kernel_rfl))⟩
  f47 := Tryz.func196.trans (congrArg some (by kernel_rfl))
  f48 := Tryz.func197.trans (congrArg some (by kernel_rfl))
  f49 := ⟨Tryz.f198.name, by decide, Tryz.func198.trans (congrArg some (by kernel_rfl))⟩
  f50 := ⟨Tryz.f199.name, by decide, Tryz.func199.trans (congrArg some (by kernel_rfl))⟩
  f57 := ⟨Tryz.f211.name, by decide, Tryz.func211.trans (congrArg some (by kernel_rfl))⟩
  t0 := Tryz.underlying0
  a0 := Tryz.isAgg0
  z0 := Tryz.sizeOf0
  v0 := Tryz.zeroValue0
  t3 := Tryz.underlying3
  a3 := Tryz.isAgg3
  z3 := Tryz.sizeOf3
  v3 := Tryz.zeroValue3
  t4 := Tryz.underlying4
  a4 := Tryz.isAgg4
  z4 := Tryz.sizeOf4
  v4 := Tryz.zeroValue4
  t5 := Tryz.underlying5
  a5 := Tryz.isAgg5
  z5 := Tryz.sizeOf5
  v5 := Tryz.zeroValue5
  t9 := Tryz.underlying9
  a9 := Tryz.isAgg9
  z9 := Tryz.sizeOf9
  v9 := Tryz.zeroValue9
  t22 := Tryz.underlying30
  a22 := Tryz.isAgg30
  z22 := Tryz.sizeOf30
  v22 := Tryz.zeroValue30
  t25 := Tryz.underlying187
  a25 := Tryz.isAgg187
  z25 := Tryz.sizeOf187
  v25 := Tryz.zeroValue187
  t39 := Tryz.underlying215
  a39 := Tryz.isAgg215
  z39 := Tryz.sizeOf215
  v39 := Tryz.zeroValue215
  t45 := Tryz.underlying237
  a45 := Tryz.isAgg237
  z45 := Tryz.sizeOf237
  v45 := Tryz.zeroValue237
  t46 := Tryz.underlying238
  a46 := Tryz.isAgg238
  z46 := Tryz.sizeOf238
  v46 := Tryz.zeroValue238
  t50 := Tryz.underlying146
  a50 := Tryz.isAgg146
  z50 := Tryz.sizeOf146
  v50 := Tryz.zeroValue146
  t53 := Tryz.underlying244
  a53 := Tryz.isAgg244
  z53 := Tryz.sizeOf244
  v53 := Tryz.zeroValue244
  t55 := Tryz.underlying246
  a55 := Tryz.isAgg246
  z55 := Tryz.sizeOf246
  v55 := Tryz.zeroValue246
  t66 := Tryz.underlying253
  a66 := Tryz.isAgg253
  z66 := Tryz.sizeOf253
  v66 := Tryz.zeroValue253
  t70 := Tryz.underlying257
  a70 := Tryz.isAgg257
  z70 := Tryz.sizeOf257
  v70 := Tryz.zeroValue257
  t76 := Tryz.underlying269
  a76 := Tryz.isAgg269
  z76 := Tryz.sizeOf269
  v76 := Tryz.zeroValue269
  t77 := Tryz.underlying270
  a77 := Tryz.isAgg270
  z77 := Tryz.sizeOf270
  v77 := Tryz.zeroValue270 }
end Go.Proofs
namespace Go.Pv
open Go Go.RowKit Go.Proofs
set_option maxRecDepth 10000
set_option maxHeartbeats 4000000
theorem eqPlT (a b : Pl) : eqT (TT 133) (encPl a) (encPl b) = some (decide (a = b)) := by
  obtain ⟨a1, a2⟩ := a
  obtain ⟨b1, b2⟩ := b
  have e : eqT (TT 133) (encPl (a1, a2)) (encPl (b1, b2)) = some (a1 == b1 && (a2 == b2 && true)) := by kernel_rfl
  rw [e]
  congr 1
  rw [Bool.eq_iff_iff]
  simp [Prod.ext_iff]
theorem findP_not {k : Pl} : ∀ (B : List Pl) (j : Nat), k ∉ B → findC (TT 133) (encPl k) (B.map encPl) j = some none
  | [], _, _ => rfl
  | b :: B, j, h => by
    have h1 : ¬ k = b := fun e => h (e ▸ List.mem_cons_self ..)
    have h2 : k ∉ B := fun e => h (List.mem_cons_of_mem _ e)
    show (if (encPl b).ag = true then _ else _) = _
    rw [if_pos (show (encPl b).ag = true from rfl), eqPlT, decide_eq_false h1, findP_not B (j + 1) h2]
theorem findP_in {k : Pl} : ∀ (B : List Pl) (j : Nat), B.Nodup → k ∈ B → ∃ i, findC (TT 133) (encPl k) (B.map encPl) j = some (some (j + i)) ∧ i < B.length
  | [], _, _, h => by cases h
  | b :: B, j, hn, h => by
    obtain ⟨n1, n2⟩ := List.nodup_cons.1 hn
    show ∃ i, (if (encPl b).ag = true then _ else _) = _ ∧ _
    rw [if_pos (show (encPl b).ag = true from rfl), eqPlT]
    by_cases hb : k = b
    · subst hb
      rw [decide_eq_true rfl, findP_not B (j + 1) n1]
      exact ⟨0, rfl, by simp⟩
    · have hk : k ∈ B := by
        rcases List.mem_cons.1 h with h | h
        · exact absurd h hb
        · exact h
      obtain ⟨i, e1, e2⟩ := findP_in B (j + 1) n2 hk
      rw [decide_eq_false hb, e1]
      exact ⟨i + 1, by simp; omega, by simp; omega⟩
/-- Pairs of numbers of 64 bits out of places. -/
theorem pps_of : ∀ (U : List Pl), (∀ p ∈ U, -1000 ≤ p.1 ∧ p.1 ≤ 1000 ∧ -1000 ≤ p.2 ∧ p.2 ≤ 1000) → ∃ l : List PP, l.map PP.pl = U
  | [], _ => ⟨[], rfl⟩
  | p :: U, h => by
    obtain ⟨l, hl⟩ := pps_of U fun q hq => h q (List.mem_cons_of_mem _ hq)
    have hp := h p (List.mem_cons_self ..)
    have w : ∀ n : Int, -1000 ≤ n → n ≤ 1000 → (Lit.int .i64 n).wf = true := fun n h1 h2 => by
      simp [Lit.wf, IntKind.min, IntKind.max, IntKind.signed, IntKind.bits]; omega
    exact ⟨⟨p.1, p.2, w _ hp.1 hp.2.1, w _ hp.2.2.1 hp.2.2.2⟩ :: l, by rw [List.map_cons, hl]; rfl⟩
theorem pv_pl (l : List PP) : l.map PP.pv = (l.map PP.pl).map encPl := by rw [List.map_map]; rfl
/-- The ends of a limb in some poses. -/
def endL (s : Int) (ls : List Lb) (limb : Int) (T : List (List Int)) : List Pl := T.map (endG1 s ls limb)
def plsP (U : List Pl) : PV := .sl (if decide (U.length = 0) = true then .n else .a) (U.map encPl)
theorem tail1 {α : Type} (l : List α) (a b : α) : (l ++ [a, b])[l.length + 1]? = some b := by rw [List.getElem?_append_right (by omega)]; simp
theorem tail0 {α : Type} (l : List α) (a b : α) : (l ++ [a, b])[l.length]? = some a := by rw [List.getElem?_append_right (by omega)]; simp
theorem tail1s {α : Type} (l : List α) (a b c : α) : (l ++ [a, b]).set (l.length + 1) c = l ++ [a, c] := by rw [List.set_append_right _ _ (by omega)]; simp
theorem tail0s {α : Type} (l : List α) (a b c : α) : (l ++ [a, b]).set l.length c = l ++ [c, b] := by rw [List.set_append_right _ _ (by omega)]; simp
theorem plsP_closed (U : List Pl) : (plsP U).closed = true := closedL_map (fun _ => rfl) U
open Classical in
/-- The table with one call more, at these arguments alone. -/
noncomputable def cfAt (cf : CallF) (g : FuncId) (args : List PV) (v : PV) : CallF := fun g1 a1 s1 => if g1 = g ∧ a1 = args then some (.ret v, s1) else cf g1 a1 s1
theorem cfAt_ok {P : Program} {cf : CallF} (h : CallFOk P cf) {g : FuncId} {args : List PV} {v : PV} (he : Enters P g) (hc : CallOk P g args [] (.ret v) []) (hl : ltBL 0 args = true) : CallFOk P (cfAt cf g args v) := by
  intro f a s r1 s1 e
  unfold cfAt at e
  split at e
  · rename_i hh
    obtain ⟨rfl, rfl⟩ := hh
    cases e
    exact ⟨he, hc.frame (lt_of_ltBL 0 _ hl) _, SameLoops.refl _⟩
  · exact h _ _ _ _ _ e
end Go.Pv
namespace Go.Pv
open Go Go.RowKit Go.Proofs
set_option maxRecDepth 10000
set_option maxHeartbeats 4000000
theorem spPc (sp : List (Int × Int)) : (spP .a sp).closed = true := by
  show closedL [.sl .a (sp.map spE)] = true
  simp [closedL, PV.closed, closedL_sp]
def cfO5 : CallF := cfAdd cf0 87 c87
theorem cfO5_ok : CallFOk Tryz.prog cfO5 := cfAdd_ok cf0_ok c87_ok
theorem ordered_89 (s : Int) (z : Z) (ls : List Lb) (limb : Int) (sp : List (Int × Int)) (hzo : zOk z (ls.map encLb) = true) (hf : figB s ls = true) (hli : 0 ≤ limb ∧ limb < ls.length) (hsp : ∀ x ∈ sp, -1000 ≤ x.1 ∧ x.1 ≤ 1000 ∧ -1000 ≤ x.2 ∧ x.2 ≤ 1000) (hspl : sp.length ≤ 1000)
    (hPm : ∀ l ∈ exts sp [], poseG ls l = true) (hTl : (exts sp []).length ≤ 59049) :
    CallOk Tryz.prog 89 [.agg [ii s, .sl z (ls.map encLb)], .fn (.func 166) [] [spP .a sp], ii limb] [] (.ret (plsP (putsP (endL s ls limb (exts sp []))))) [] := by
  refine CallOk.ofF hTT Tryz.func89 rfl rfl ?_
  have hd := decFig_enc s z ls hzo
  have hl := fig_len hf
  have hs : ls.length ≤ maxLen := by unfold maxLen; omega
  have hspc := spPc sp
  have hit := lists_166 .a sp (fun e => by cases e) hsp hspl
  repeat (first | (with_reducible (first | apply wA | apply wB | apply wC | apply wD | apply wE | apply wF | apply wG | apply wH | apply wI | apply wJ | apply wK | apply wL | apply wM | apply wN | apply wO | apply wP | apply wQ rfl | apply wR | apply wS | apply wT | apply wU)) | ((with_reducible (first | apply wV | apply wW | apply wX | (apply wY [] hTT cfO5_ok noM_ok mixed; (focus kernel_rfl)))); (focus (simp only [Tryz.f89, notYield, makeMapC, go_sem]; with_reducible rfl))) | (with_reducible refine wZ hTT cfO5_ok noM_ok ?_) | (with_reducible refine wa ?_; refine And.intro ?_ ?_; (focus kernel_rfl)))
  refine RunQ.keep [12, 8, 7, 5, 3] (by simp only [go_sem]; rfl) ?_
  refine RunQ.nilBox (sg' := [.var [ii s, .sl z (ls.map encLb)] false, .var [ii limb] false, .map [] [] false, .var [.mp 2] false, .var [.ms 5 0] false, .row true 36 2 [] false]) 4 0 36 2 rfl rfl rfl ?_
  generalize exts sp [] = T at *
  have hcf : closedL [ii s, .sl z (ls.map encLb)] = true := by simp [closedL, PV.closed, closedL_lbs]
  refine RunQ.range (L := T.map fun l => [pvL l]) (first := []) (cap := [spP .a sp]) rfl (ent Tryz.func166 rfl) hit ?_ ?_ ?_
    (fun i st => st = [.var [ii s, .sl z (ls.map encLb)] false, .var [ii limb] false, .map ((uniqP (endL s ls limb (T.take i))).map encPl) ((uniqP (endL s ls limb (T.take i))).map fun _ => .bool true) false, .var [.mp 2] false, .var [.ms 5 (uniqP (endL s ls limb (T.take i))).length] false, .row (decide ((uniqP (endL s ls limb (T.take i))).length = 0)) 36 2 ((uniqP (endL s ls limb (T.take i))).map encPl) false])
    rfl ?_ ?_ ?_
  · intro e he
    obtain ⟨l, _, rfl⟩ := List.mem_map.1 he
    rfl
  · intro p hp
    have hp7 : p = 13 := by simpa using hp
    subst hp7
    show (13 : Nat) < 33
    decide
  · intro t v hv
    obtain ⟨p, hp, rfl⟩ := getT_mem hv
    simp only [List.mem_cons, List.not_mem_nil, or_false] at hp
    rcases hp with rfl | rfl | rfl | rfl | rfl
    · refine .fn (fun c hc => by cases hc) fun c hc => ?_
      simp only [List.mem_cons, List.not_mem_nil, or_false] at hc
      subst hc
      exact (lt_of_closed _ hspc).mono (by omega)
    · exact .bp (show (4 : Nat) < 7 by decide)
    · exact .bp (show (3 : Nat) < 7 by decide)
    · exact .bp (show (1 : Nat) < 7 by decide)
    · exact .bp (show (0 : Nat) < 7 by decide)
  · rintro i st rfl
    refine ⟨rfl, fun x hx => ?_, sameLoops_of _ _ rfl⟩
    simp only [List.mem_cons, List.not_mem_nil, or_false] at hx
    rcases hx with rfl | rfl | rfl | rfl | rfl | rfl
    · exact fun c hc => (lt_of_closedL _ hcf c hc).mono (Nat.zero_le _)
    · exact fun c hc => (lt_of_closedL _ (show closedL [ii limb] = true from rfl) c hc).mono (Nat.zero_le _)
    · refine ⟨fun c hc => ?_, fun c hc => ?_⟩
      · obtain ⟨q, _, rfl⟩ := List.mem_map.1 hc
        exact (lt_of_closed (encPl q) rfl).mono (Nat.zero_le _)
      · obtain ⟨q, _, rfl⟩ := List.mem_map.1 hc
        exact (lt_of_closed (.bool true) rfl).mono (Nat.zero_le _)
    · exact fun c hc => by
        simp only [List.mem_cons, List.not_mem_nil, or_false] at hc
        subst hc
        exact .mp (show (2 : Nat) < 7 by decide)
    · exact fun c hc => by
        simp only [List.mem_cons, List.not_mem_nil, or_false] at hc
        subst hc
        exact .ms (show (5 : Nat) < 7 by decide)
    · exact fun c hc => (lt_of_closedL _ (closedL_flat _ (closedL_map (fun _ => rfl) _)) c hc).mono (Nat.zero_le _)
  · rintro i e st he rfl
    obtain ⟨l, hl2, rfl⟩ : ∃ l, T[i]? = some l ∧ e = [pvL l] := by
      rw [List.getElem?_map, Option.map_eq_some_iff] at he
      obtain ⟨l, a, rfl⟩ := he
      exact ⟨l, a, rfl⟩
    have hlt := (List.getElem?_eq_some_iff.1 hl2).1
    have hpl : poseG ls l = true := hPm l (List.mem_of_getElem? hl2)
    have hll := (pose_at hpl).1
    have hlne : l ≠ [] := fun e => by rw [e] at hll; simp at hll; omega
    have hzn : pvL l = .sl .a (l.map ii) := by
      unfold pvL
      cases l with
      | nil => exact absurd rfl hlne
      | cons a r => rfl
    have hzk : zOk .a (l.map ii) = true := by cases l <;> rfl
    have hd3' := decIs1_enc hzk
    have g0 := ends_get (s := s) hf hpl hli
    have g0' : ((ends s ls l).map encPl)[limb.toNat]? = some (.agg [ii (endG1 s ls limb l).1, ii (endG1 s ls limb l).2]) := by rw [List.getElem?_map, g0]; rfl
    have hel : (ends s ls l).length = ls.length := ends_ln hf hpl
    have h0l := hli.1
    have h1l := hli.2
    have htk : uniqP (endL s ls limb (T.take (i + 1))) = uniqQ (uniqP (endL s ls limb (T.take i))) (endG1 s ls limb l) := by
      unfold endL
      rw [List.take_add_one, hl2, List.map_append]
      exact uniq_snoc _ _
    have hnd := uniq_nodup (endL s ls limb (T.take i))
    have hUl : (uniqP (endL s ls limb (T.take i))).length ≤ 59049 := by
      have := uniq_len (endL s ls limb (T.take i))
      have h2 : (endL s ls limb (T.take i)).length ≤ T.length := by simp [endL]; omega
      omega
    rw [hzn]
    refine .next _ rfl fun own ho => ?_
    rw [htk]
    generalize uniqP (endL s ls limb (T.take i)) = U at hnd hUl ⊢
    generalize endG1 s ls limb l = q at g0' ⊢
    have hnd2 : [0, 1, own.length + 7, own.length + 8].Nodup := by simp
    have hko : keyOkC ⟨2, 16, [.int .i64 0, .int .i64 0], .struct [(0, 3), (1, 3)], some [.i .i64, .i .i64]⟩ (.agg [ii q.1, ii q.2]) = true := by kernel_rfl
    unfold YRun
    generalize hX : Box.loop _ = X1
    by_cases hq : q ∈ U
    · obtain ⟨j, e1, e2⟩ := findP_in U 0 hnd hq
      have e1' : findC ⟨2, 16, [.int .i64 0, .int .i64 0], .struct [(0, 3), (1, 3)], some [.i .i64, .i .i64]⟩ (.agg [ii q.1, ii q.2]) (U.map encPl) 0 = some (some (0 + j)) := e1
      have e3 : (U.map fun _ => PV.bool true)[0 + j]? = some (.bool true) := by
        rw [Nat.zero_add, List.getElem?_map, List.getElem?_eq_getElem e2]; rfl
      generalize 0 + j = jj at e1' e3
      unfold uniqQ
      rw [if_pos hq]
      repeat (first | (with_reducible (first | apply wA | apply wB | apply wC | apply wD | apply wE | apply wF | apply wG | apply wH | apply wI | apply wJ | apply wK | apply wL | apply wM | apply wN | apply wO | apply wP | apply wQ rfl | apply wR | apply wS | apply wT | apply wU)) | ((with_reducible (first | apply wV | apply wW | apply wX | (apply wY [] hTT cfO5_ok noM_ok mixed; (focus kernel_rfl)))); (focus (simp only [Tryz.f89, putPs, List.toList_toArray, go_sem]; with_reducible rfl))) | (with_reducible refine wZ hTT cfO5_ok noM_ok ?_) | (with_reducible refine wa ?_; refine And.intro ?_ ?_; (focus kernel_rfl)))
      refine ⟨rfl, own, by rw [← hX]; rfl, ?_⟩
      dsimp only
      generalize hX2 : Box.loop _ = X2
      repeat (first | (with_reducible (first | apply wA | ((fail_if_success (refine RunQ.seq (x := .region 5 _ _) ?_)); (apply wB)) | apply wC | apply wD | apply wE | apply wF | apply wG | apply wH | apply wI | apply wJ | apply wK | apply wL | apply wM | apply wN | apply wO | apply wP | apply wQ rfl | apply wR | apply wS | apply wT | apply wU)) | ((with_reducible (first | apply wV | apply wW | apply wX | (apply wY [] hTT cfO5_ok noM_ok mixed; (focus kernel_rfl)))); (focus (simp only [Tryz.f89, go_sem]; with_reducible rfl))) | ((fail_if_success (with_reducible show RunQ _ (.region 5 _ _) _ _)); (with_reducible refine wZ hTT cfO5_ok noM_ok ?_)) | (with_reducible refine wa ?_; refine And.intro ?_ ?_; (focus kernel_rfl)))
      refine RunQ.seq ?_
      refine RunQ.drawn [] hTT cfO5_ok noM_ok mixed (by kernel_rfl) (by simp only [go_sem]; rfl) ?_
      iterate 8 (apply DrawQ.step; (focus (simp only [Tryz.f89, cfO5, c87, hd, hd3', hf, hpl, g0', h0l, h1l, hel, closedL_lbs, closedL_is, tail0, tail1, tail0s, tail1s, freeB, List.length_map, go_sem]; with_reducible rfl)))
      refine DrawQ.nil ⟨boxOk_ren [0, 1, own.length + 7, own.length + 8] [(false, none, [0]), (false, none, []), (false, none, [2]), (false, none, [1]), (false, none, []), (false, none, []), (false, some 3, [3]), (false, some 3, [3])] hnd2 (by kernel_rfl) rfl (by kernel_rfl), ?_⟩
      repeat (first | (with_reducible (first | apply wA | apply wB | apply wC | apply wD | apply wE | apply wF | apply wG | apply wH | apply wI | apply wJ | apply wK | apply wL | apply wM | apply wN | apply wO | apply wP | apply wQ rfl | apply wR | apply wS | apply wT | apply wU)) | ((with_reducible (first | apply wV | apply wW | apply wX | (apply wY [] hTT cfO5_ok noM_ok mixed; (focus kernel_rfl)))); (focus (simp only [Tryz.f89, tail0, tail1, tail0s, tail1s, lookupC, mapC, hko, e1', e3, List.length_map, go_sem]; with_reducible rfl))) | (with_reducible refine wZ hTT cfO5_ok noM_ok ?_) | (with_reducible refine wa ?_; refine And.intro ?_ ?_; (focus kernel_rfl)))
      exact ⟨rfl, [.dead, .var [ii q.1, ii q.2] false], by rw [← hX2]; simp⟩
    · have e1 := findP_not U 0 hq
      have e1' : findC ⟨2, 16, [.int .i64 0, .int .i64 0], .struct [(0, 3), (1, 3)], some [.i .i64, .i .i64]⟩ (.agg [ii q.1, ii q.2]) (U.map encPl) 0 = some none := e1
      have r2 : U.length + 1 ≤ maxLen := by unfold maxLen; omega
      have r3 : (U.length + 1) * 16 ≤ 140737488355328 := by omega
      unfold uniqQ
      rw [if_neg hq]
      repeat (first | (with_reducible (first | apply wA | apply wB | apply wC | apply wD | apply wE | apply wF | apply wG | apply wH | apply wI | apply wJ | apply wK | apply wL | apply wM | apply wN | apply wO | apply wP | apply wQ rfl | apply wR | apply wS | apply wT | apply wU)) | ((with_reducible (first | apply wV | apply wW | apply wX | (apply wY [] hTT cfO5_ok noM_ok mixed; (focus kernel_rfl)))); (focus (simp only [Tryz.f89, putPs, List.toList_toArray, go_sem]; with_reducible rfl))) | (with_reducible refine wZ hTT cfO5_ok noM_ok ?_) | (with_reducible refine wa ?_; refine And.intro ?_ ?_; (focus kernel_rfl)))
      refine ⟨rfl, own, by rw [← hX]; rfl, ?_⟩
      dsimp only
      generalize hX2 : Box.loop _ = X2
      repeat (first | (with_reducible (first | apply wA | ((fail_if_success (refine RunQ.seq (x := .region 5 _ _) ?_)); (apply wB)) | apply wC | apply wD | apply wE | apply wF | apply wG | apply wH | apply wI | apply wJ | apply wK | apply wL | apply wM | apply wN | apply wO | apply wP | apply wQ rfl | apply wR | apply wS | apply wT | apply wU)) | ((with_reducible (first | apply wV | apply wW | apply wX | (apply wY [] hTT cfO5_ok noM_ok mixed; (focus kernel_rfl)))); (focus (simp only [Tryz.f89, go_sem]; with_reducible rfl))) | ((fail_if_success (with_reducible show RunQ _ (.region 5 _ _) _ _)); (with_reducible refine wZ hTT cfO5_ok noM_ok ?_)) | (with_reducible refine wa ?_; refine And.intro ?_ ?_; (focus kernel_rfl)))
      refine RunQ.seq ?_
      refine RunQ.drawn [] hTT cfO5_ok noM_ok mixed (by kernel_rfl) (by simp only [go_sem]; rfl) ?_
      iterate 8 (apply DrawQ.step; (focus (simp only [Tryz.f89, cfO5, c87, hd, hd3', hf, hpl, g0', h0l, h1l, hel, closedL_lbs, closedL_is, tail0, tail1, tail0s, tail1s, freeB, List.length_map, go_sem]; with_reducible rfl)))
      refine DrawQ.nil ⟨boxOk_ren [0, 1, own.length + 7, own.length + 8] [(false, none, [0]), (false, none, []), (false, none, [2]), (false, none, [1]), (false, none, []), (false, none, []), (false, some 3, [3]), (false, some 3, [3])] hnd2 (by kernel_rfl) rfl (by kernel_rfl), ?_⟩
      repeat (first | (with_reducible (first | apply wA | apply wB | apply wC | apply wD | apply wE | apply wF | apply wG | apply wH | apply wI | apply wJ | apply wK | apply wL | apply wM | apply wN | apply wO | apply wP | apply wQ rfl | apply wR | apply wS | apply wT | apply wU)) | ((with_reducible (first | apply wV | apply wW | apply wX | (apply wY [] hTT cfO5_ok noM_ok mixed; (focus kernel_rfl)))); (focus (simp only [Tryz.f89, tail0, tail1, tail0s, tail1s, lookupC, mapUpdateC, mapC, hko, e1', r2, r3, List.length_map, go_sem]; with_reducible rfl))) | (with_reducible refine wZ hTT cfO5_ok noM_ok ?_) | (with_reducible refine wa ?_; refine And.intro ?_ ?_; (focus kernel_rfl)))
      exact ⟨rfl, [.dead, .var [ii q.1, ii q.2] false, .dead], by rw [← hX2]; simp [encPl]⟩
  · rintro st rfl
    rw [List.length_map, List.take_length]
    have hbd : ∀ p ∈ uniqP (endL s ls limb T), -1000 ≤ p.1 ∧ p.1 ≤ 1000 ∧ -1000 ≤ p.2 ∧ p.2 ≤ 1000 := fun p hp => by
      obtain ⟨l, hl1, rfl⟩ := List.mem_map.1 ((uniq_mem _ _).1 hp)
      have g0 := ends_get (s := s) hf (hPm l hl1) hli
      have := ends_bound hf (hPm l hl1) limb.toNat (by omega) _ g0
      unfold endG1
      omega
    have hUl : (uniqP (endL s ls limb T)).length ≤ 59049 := by
      have := uniq_len (endL s ls limb T)
      have h2 : (endL s ls limb T).length = T.length := by simp [endL]
      omega
    obtain ⟨l, hl2⟩ := pps_of _ hbd
    have hm := merge_puts hl2
    generalize uniqP (endL s ls limb T) = U at hl2 hUl ⊢
    subst hl2
    rw [List.length_map] at hUl
    rw [List.length_map, ← pv_pl]
    have hml := List.length_mergeSort (le := fun x y => !(Go.Proofs.ltOf cmpP) y x) l
    have hsort : CallOk Tryz.prog 132 [.ms 5 l.length, .fn (.func 133) [] []] [Box.var [ii s, .sl z (ls.map encLb)] false, .var [ii limb] false, .map (l.map PP.pv) ((l.map PP.pl).map fun _ => .bool true) false, .var [.mp 2] false, .var [.ms 5 l.length] false, .row (decide (l.length = 0)) 36 2 (l.map PP.pv) false, .gone] (.ret (.tuple [])) [Box.var [ii s, .sl z (ls.map encLb)] false, .var [ii limb] false, .map (l.map PP.pv) ((l.map PP.pl).map fun _ => .bool true) false, .var [.mp 2] false, .var [.ms 5 l.length] false, .row (decide (l.length = 0)) 36 2 ((l.mergeSort fun x y => !(Go.Proofs.ltOf cmpP) y x).map PP.pv) false, .gone] :=
      CallOk.sortFunc Tryz.sort132 Tryz.isAgg36 Tryz.sizeOf36 (ent Tryz.func133 rfl) swo_cmp tot_cmp ordered_133 (bi := 5) (z := decide (l.length = 0)) (e := 36) (l := l) rfl rfl (by omega)
    generalize (l.mergeSort fun x y => !(Go.Proofs.ltOf cmpP) y x) = l2 at hm hml hsort
    have hpc : closedL (l2.map PP.pv) = true := closedL_map (fun _ => rfl) l2
    have hpl : plsP (putsP (endL s ls limb T)) = .sl (if decide (l.length = 0) = true then .n else .a) (l2.map PP.pv) := by
      unfold plsP
      rw [← hm, List.length_map, hml, ← pv_pl]
    rw [hpl]
    have hsl : SameLoops [Box.var [ii s, .sl z (ls.map encLb)] false, .var [ii limb] false, .map (l.map PP.pv) ((l.map PP.pl).map fun _ => .bool true) false, .var [.mp 2] false, .var [.ms 5 l.length] false, .row (decide (l.length = 0)) 36 2 (l.map PP.pv) false, .gone] [Box.var [ii s, .sl z (ls.map encLb)] false, .var [ii limb] false, .map (l.map PP.pv) ((l.map PP.pl).map fun _ => .bool true) false, .var [.mp 2] false, .var [.ms 5 l.length] false, .row (decide (l.length = 0)) 36 2 (l2.map PP.pv) false, .gone] := sameLoops_of _ _ rfl
    repeat (first | (with_reducible (first | apply wA | apply wB | apply wC | apply wD | apply wE | apply wF | apply wG | apply wH | apply wI | apply wJ | apply wK | apply wL | apply wM | apply wN | apply wO | apply wP | apply wQ rfl | apply wR | apply wS | apply wT | apply wU)) | ((with_reducible (first | apply wV | apply wW | apply wX | (apply wY [] hTT (cfOne_ok cf0_ok (ent Tryz.func132 rfl) hsort hsl) noM_ok mixed; (focus kernel_rfl)))); (focus (simp only [Tryz.f89, cfOne, List.length_map, go_sem]; with_reducible rfl))) | (with_reducible refine wZ hTT (cfOne_ok cf0_ok (ent Tryz.func132 rfl) hsort hsl) noM_ok ?_) | (with_reducible refine wa ?_; refine And.intro ?_ ?_; (focus kernel_rfl)))
    refine ⟨rfl, rfl, _, rfl, ?_⟩
    exact leave_row (id := 5) rfl hpc (by simp [hml])
end Go.Pv
