/- What is read in a text, in plain terms: parts between a byte, numbers, rows. -/
import Derived.Test.YtmnocohggpmjcaaGreatDoorQnaTxt
set_option linter.all false
namespace Go.Pv
open Go Go.RowKit Go.Proofs
/-- The parts of a string between one byte; acc is the part begun. -/
def splA (c : UInt8) : List UInt8 → List UInt8 → List (List UInt8)
  | acc, [] => [acc]
  | acc, b :: s => if b = c then acc :: splA c [] s else splA c (acc ++ [b]) s
def splF (c : UInt8) (s : List UInt8) : List (List UInt8) := splA c [] s
def addH (a : List UInt8) : List (List UInt8) → List (List UInt8)
  | [] => []
  | r :: R => (a ++ r) :: R
theorem splA_lib (c : UInt8) : ∀ (s acc : List UInt8), splA c acc s = addH acc (Lib.split s [c])
  | [], acc => by
    have e : Lib.split [] [c] = [[]] := rfl
    rw [e]
    show [acc] = [acc ++ []]
    rw [List.append_nil]
  | b :: s, acc => by
    have hne : ([c] : List UInt8) ≠ [] := fun e => by cases e
    unfold splA
    by_cases hb : b = c
    · subst hb
      rw [if_pos rfl, splA_lib b s []]
      have hi : Lib.index (b :: s) [b] = (0 : Nat) := by
        unfold Lib.index
        rw [if_pos (by simp)]; rfl
      have hc := Lib.count_hit hne hi
      have e : Lib.split (b :: s) [b] = [] :: Lib.split s [b] := by
        unfold Lib.split
        rw [hc, Nat.add_comm 1, Lib.splitK, hi]
        rfl
      rw [e]
      cases Lib.split s [b] with
      | nil => show [acc] = [acc ++ []]; rw [List.append_nil]
      | cons r R => show acc :: _ = (acc ++ []) :: _; rw [List.append_nil]; rfl
    · rw [if_neg hb, splA_lib c s (acc ++ [b])]
      have hpf : ([c].isPrefixOf (b :: s)) = false := by simp [List.isPrefixOf]; exact fun e => hb e.symm
      have hge := Lib.index_ge s [c]
      rcases Int.lt_or_le (Lib.index s [c]) 0 with hn | hp
      · have h1 : Lib.index s [c] = -1 := by omega
        have h2 : Lib.index (b :: s) [c] = -1 := by
          unfold Lib.index
          rw [hpf, h1]; rfl
        have e1 : Lib.split s [c] = [s] := by unfold Lib.split; rw [Lib.count_miss h1]; rfl
        have e2 : Lib.split (b :: s) [c] = [b :: s] := by unfold Lib.split; rw [Lib.count_miss h2]; rfl
        rw [e1, e2]
        show [acc ++ [b] ++ s] = [acc ++ b :: s]
        simp
      · obtain ⟨i, hi⟩ : ∃ i : Nat, Lib.index s [c] = i := ⟨(Lib.index s [c]).toNat, by omega⟩
        have h2 : Lib.index (b :: s) [c] = ((i + 1 : Nat) : Int) := by
          unfold Lib.index
          have : ((i : Int) == -1) = false := by rw [beq_eq_false_iff_ne]; omega
          rw [hpf, hi, this]; rfl
        have m1 : ((i : Int) == -1) = false := by rw [beq_eq_false_iff_ne]; omega
        have m2 : (((i + 1 : Nat) : Int) == -1) = false := by rw [beq_eq_false_iff_ne]; omega
        have e1 : Lib.split s [c] = s.take i :: Lib.splitK [c] 0 (Lib.count (s.drop (i + 1)) [c]) (s.drop (i + 1)) := by
          unfold Lib.split
          rw [Lib.count_hit hne hi, Nat.add_comm 1, Lib.splitK, hi, m1]
          rfl
        have e2 : Lib.split (b :: s) [c] = (b :: s.take i) :: Lib.splitK [c] 0 (Lib.count (s.drop (i + 1)) [c]) (s.drop (i + 1)) := by
          unfold Lib.split
          rw [Lib.count_hit hne h2, Nat.add_comm 1, Lib.splitK, h2, m2]
          rfl
        rw [e1, e2]
        show (acc ++ [b] ++ s.take i) :: _ = (acc ++ b :: s.take i) :: _
        simp
theorem lib_split (c : UInt8) (s : List UInt8) : Lib.split s [c] = splF c s := by
  unfold splF
  rw [splA_lib]
  cases Lib.split s [c] <;> rfl
theorem splA_free {c : UInt8} : ∀ {r acc : List UInt8}, (∀ b ∈ r, b ≠ c) → splA c acc r = [acc ++ r]
  | [], acc, _ => by rw [List.append_nil]; rfl
  | b :: r, acc, h => by
    unfold splA
    rw [if_neg (h b (by simp)), splA_free (fun x hx => h x (by simp [hx]))]
    simp
theorem splA_app {c : UInt8} {s : List UInt8} : ∀ {r acc : List UInt8}, (∀ b ∈ r, b ≠ c) → splA c acc (r ++ c :: s) = (acc ++ r) :: splA c [] s
  | [], acc, _ => by
    show splA c acc (c :: s) = _
    rw [splA, if_pos rfl, List.append_nil]
  | b :: r, acc, h => by
    show splA c acc (b :: (r ++ c :: s)) = _
    rw [splA, if_neg (h b (by simp)), splA_app (fun x hx => h x (by simp [hx]))]
    simp
theorem splA_len (c : UInt8) : ∀ (s acc : List UInt8), 1 ≤ (splA c acc s).length ∧ (splA c acc s).length ≤ s.length + 1
  | [], acc => ⟨Nat.le_refl _, Nat.le_refl _⟩
  | b :: s, acc => by
    unfold splA
    split
    · have := splA_len c s []
      simp only [List.length_cons]; omega
    · have := splA_len c s (acc ++ [b])
      simp only [List.length_cons]; omega
theorem splF_len (c : UInt8) (s : List UInt8) : 1 ≤ (splF c s).length ∧ (splF c s).length ≤ s.length + 1 := splA_len c s []
theorem splA_each (c : UInt8) : ∀ (s acc : List UInt8), ∀ r ∈ splA c acc s, r.length ≤ acc.length + s.length
  | [], acc, r, h => by
    simp only [splA, List.mem_singleton] at h
    subst h; simp
  | b :: s, acc, r, h => by
    unfold splA at h
    split at h
    · rcases List.mem_cons.1 h with rfl | h
      · simp
      · have := splA_each c s [] r h
        simp only [List.length_cons, List.length_nil] at this ⊢; omega
    · have := splA_each c s (acc ++ [b]) r h
      simp only [List.length_append, List.length_cons, List.length_nil] at this ⊢; omega
theorem splF_each {c : UInt8} {s r : List UInt8} (h : r ∈ splF c s) : r.length ≤ s.length := by
  have := splA_each c s [] r h
  simpa using this
theorem splF_lines {t : List UInt8} : ∀ (R : List (List UInt8)), (∀ r ∈ R, ∀ b ∈ r, b ≠ 10) → splF 10 (linesF R ++ t) = R ++ splF 10 t
  | [], _ => rfl
  | r :: R, h => by
    have e : linesF (r :: R) ++ t = r ++ 10 :: (linesF R ++ t) := by
      show r ++ [10] ++ linesF R ++ t = _
      simp
    unfold splF at *
    rw [e, splA_app (h r (by simp))]
    have := splF_lines (t := t) R (fun x hx => h x (by simp [hx]))
    unfold splF at this
    rw [this]; rfl
def isDig (b : UInt8) : Bool := Nat.ble 48 b.toNat && Nat.ble b.toNat 57
theorem isDig_iff {b : UInt8} : isDig b = true ↔ 48 ≤ b.toNat ∧ b.toNat ≤ 57 := by unfold isDig; simp
def digA : Nat → List UInt8 → Option Nat
  | n, [] => some n
  | n, b :: s => if isDig b = true then digA (10 * n + (b.toNat - 48)) s else none
def negW (w : List UInt8) : Bool := w.head? == some 45
/-- A word without its sign. -/
def magW (w : List UInt8) : List UInt8 := if negW w = true then w.tail else w
def sgnW (w : List UInt8) (n : Nat) : Int := if negW w = true then -(n : Int) else n
def num2 (w : List UInt8) : Int × Bool := if (magW w).length = 0 ∨ 2 < (magW w).length then (0, false) else
  match digA 0 (magW w) with
  | none => (0, false)
  | some n => (sgnW w n, itoaF (sgnW w n) == w)
/-- The number that a word is; none, if it is none. -/
def numW (w : List UInt8) : Option Int := if (num2 w).2 = true then some (num2 w).1 else none
def numsW : List (List UInt8) → Option (List Int)
  | [] => some []
  | w :: ws => match numW w, numsW ws with
    | some n, some l => some (n :: l)
    | _, _ => none
theorem digA_lt : ∀ {s : List UInt8} {n m k : Nat}, digA n s = some m → n < 10 ^ k → m < 10 ^ (k + s.length)
  | [], n, m, k, h, hn => by cases h; simpa using hn
  | b :: s, n, m, k, h, hn => by
    unfold digA at h
    split at h <;> try (cases h; done)
    rename_i hb
    unfold isDig at hb
    have h2 : b.toNat ≤ 57 := by simp at hb; exact hb.2
    have := digA_lt (k := k + 1) h (by rw [Nat.pow_succ]; omega)
    rw [List.length_cons, show k + (s.length + 1) = k + 1 + s.length by omega]
    exact this
theorem numW_small {w : List UInt8} {n : Int} (h : numW w = some n) : n.natAbs < 100 ∧ itoaF n = w := by
  unfold numW at h
  split at h <;> cases h
  rename_i h2
  unfold num2 at h2 ⊢
  split at h2 <;> try (cases h2; done)
  rename_i hl
  rw [if_neg hl]
  cases hm : digA 0 (magW w) with
  | none => rw [hm] at h2; cases h2
  | some m =>
  rw [hm] at h2
  dsimp only at h2 ⊢
  refine ⟨?_, eq_of_beq h2⟩
  have h1 := digA_lt (k := 0) hm (by decide)
  have h3 : 10 ^ (0 + (magW w).length) ≤ 10 ^ 2 := Nat.pow_le_pow_right (by decide) (by omega)
  unfold sgnW
  split <;> omega
theorem numsW_small : ∀ {ws : List (List UInt8)} {l : List Int}, numsW ws = some l → l.length = ws.length ∧ ∀ n ∈ l, n.natAbs < 100
  | [], l, h => by cases h; exact ⟨rfl, fun n hn => by cases hn⟩
  | w :: ws, l, h => by
    unfold numsW at h
    split at h <;> try (cases h; done)
    rename_i n l' h1 h2
    cases h
    obtain ⟨a, b⟩ := numsW_small h2
    refine ⟨by simp [a], fun m hm => ?_⟩
    rcases List.mem_cons.1 hm with rfl | hm
    · exact (numW_small h1).1
    · exact b m hm
theorem numW_itoa (n : Int) (h : n.natAbs < 100) : numW (itoaF n) = some n := by
  have key : ∀ k : Fin 199, numW (itoaF ((k.val : Int) - 99)) = some ((k.val : Int) - 99) := by decide +kernel
  have := key ⟨(n + 99).toNat, by omega⟩
  have e : (((n + 99).toNat : Nat) : Int) - 99 = n := by omega
  rw [show ((⟨(n + 99).toNat, by omega⟩ : Fin 199).val : Int) - 99 = n from e] at this
  exact this
theorem numsW_itoa : ∀ (ns : List Int), (∀ n ∈ ns, n.natAbs < 100) → numsW (ns.map itoaF) = some ns
  | [], _ => rfl
  | n :: ns, h => by
    show (match numW (itoaF n), numsW (ns.map itoaF) with | some n, some l => some (n :: l) | _, _ => none) = _
    rw [numW_itoa n (h n (by simp)), numsW_itoa ns (fun m hm => h m (by simp [hm]))]
/-- What a number is written with. -/
theorem itoa_bytes (n : Int) (h : n.natAbs < 1000000) : ∀ b ∈ itoaF n, b ≠ 10 ∧ b ≠ 32 := by
  have key : ∀ (k : Nat) (n : Int), n.natAbs < 10 ^ (k + 1) → k ≤ 5 → ∀ b ∈ itoaF n, b ≠ 10 ∧ b ≠ 32 := by
    have dig : ∀ m : Int, 0 ≤ m → m < 10 → UInt8.ofNat (48 + m).toNat ≠ 10 ∧ UInt8.ofNat (48 + m).toNat ≠ 32 := fun m h0 h1 => by
      have : ∀ k : Fin 10, UInt8.ofNat (48 + (k.val : Int)).toNat ≠ 10 ∧ UInt8.ofNat (48 + (k.val : Int)).toNat ≠ 32 := by decide
      have := this ⟨m.toNat, by omega⟩
      have e : ((m.toNat : Nat) : Int) = m := by omega
      simpa [e] using this
    intro k
    induction k with
    | zero =>
      intro n h _ b hb
      have h : n.natAbs < 10 := by simpa using h
      by_cases h0 : n < 0
      · rw [itoa_a (by omega) h0] at hb
        simp only [List.mem_cons, List.not_mem_nil, or_false] at hb
        rcases hb with rfl | rfl
        · decide
        · have := dig (-n) (by omega) (by omega); rw [← Int.sub_eq_add_neg] at this; exact this
      · rw [itoa_c (by omega) (by omega)] at hb
        simp only [List.mem_cons, List.not_mem_nil, or_false] at hb
        subst hb
        exact dig n (by omega) (by omega)
    | succ k ih =>
      intro n h hk b hb
      have h6 : 10 ^ (k + 1 + 1) ≤ 10 ^ 6 := Nat.pow_le_pow_right (by decide) (by omega)
      have h10 : 10 ^ (k + 1 + 1) = 10 ^ (k + 1) * 10 := Nat.pow_succ ..
      by_cases h0 : n < 0
      · by_cases h1 : -10 < n
        · rw [itoa_a h1 h0] at hb
          simp only [List.mem_cons, List.not_mem_nil, or_false] at hb
          rcases hb with rfl | rfl
          · decide
          · have := dig (-n) (by omega) (by omega); rw [← Int.sub_eq_add_neg] at this; exact this
        · rw [itoa_b (by omega) (by omega)] at hb
          have e2 := tmd_neg (n := n) (by omega)
          rcases List.mem_append.1 hb with hb | hb
          · exact ih _ (by rw [tdv_neg (by omega)]; omega) (by omega) b hb
          · simp only [List.mem_cons, List.not_mem_nil, or_false] at hb
            subst hb
            have := dig (-(n.tmod 10)) (by omega) (by omega)
            rw [← Int.sub_eq_add_neg] at this; exact this
      · by_cases h1 : n < 10
        · rw [itoa_c (by omega) h1] at hb
          simp only [List.mem_cons, List.not_mem_nil, or_false] at hb
          subst hb
          exact dig n (by omega) (by omega)
        · rw [itoa_d (by omega) (by omega)] at hb
          have e2 := tmd_pos (n := n) (by omega)
          rcases List.mem_append.1 hb with hb | hb
          · exact ih _ (by rw [tdv_pos (by omega)]; omega) (by omega) b hb
          · simp only [List.mem_cons, List.not_mem_nil, or_false] at hb
            subst hb
            exact dig (n.tmod 10) (by omega) (by omega)
  exact key 5 n h (Nat.le_refl _)
theorem rowF_flat : ∀ (ns : List Int) (w : List UInt8), rowF w ns = w ++ ns.flatMap fun n => 32 :: itoaF n
  | [], w => by simp [rowF]
  | n :: ns, w => by
    show rowF (w ++ 32 :: itoaF n) ns = _
    rw [rowF_flat ns]
    simp
theorem splF_row : ∀ (ns : List Int) (w acc : List UInt8), (∀ b ∈ w, b ≠ 32) → (∀ n ∈ ns, n.natAbs < 1000000) → splA 32 acc (rowF w ns) = (acc ++ w) :: ns.map itoaF
  | [], w, acc, hw, _ => by
    show splA 32 acc w = _
    rw [splA_free hw]; rfl
  | n :: ns, w, acc, hw, h => by
    rw [rowF_flat]
    show splA 32 acc (w ++ 32 :: (itoaF n ++ ns.flatMap fun n => 32 :: itoaF n)) = _
    rw [splA_app hw, ← rowF_flat, splF_row ns (itoaF n) [] (fun b hb => (itoa_bytes n (h n (by simp)) b hb).2) (fun m hm => h m (by simp [hm]))]
    rfl
theorem rowF_lines (w : List UInt8) (ns : List Int) (hw : ∀ b ∈ w, b ≠ 10) (h : ∀ n ∈ ns, n.natAbs < 1000000) : ∀ b ∈ rowF w ns, b ≠ 10 := by
  intro b hb
  rw [rowF_flat] at hb
  rcases List.mem_append.1 hb with hb | hb
  · exact hw b hb
  · obtain ⟨n, hn, hb⟩ := List.mem_flatMap.1 hb
    rcases List.mem_cons.1 hb with rfl | hb
    · decide
    · exact (itoa_bytes n (h n hn) b hb).1
def endR (R : List (List UInt8)) : List UInt8 := 101 :: 110 :: 100 :: 32 :: digF (sumS 0 R % 179)
theorem endR_lines (R : List (List UInt8)) : ∀ b ∈ endR R, b ≠ 10 := by
  have hlt : sumS 0 R % 179 < 179 := Nat.mod_lt _ (by decide)
  intro b hb
  unfold endR digF at hb
  simp only [List.mem_cons, List.mem_append] at hb
  rcases hb with rfl | rfl | rfl | rfl | hb | hb | hb
  · decide
  · decide
  · decide
  · decide
  · exact (itoa_bytes _ (by omega) b hb).1
  · exact (itoa_bytes _ (by omega) b hb).1
  · exact (itoa_bytes _ (by omega) b hb).1
theorem splF_seal (R : List (List UInt8)) (h : ∀ r ∈ R, ∀ b ∈ r, b ≠ 10) : splF 10 (sealF R) = R ++ [endR R, []] := by
  unfold sealF
  rw [splF_lines R h]
  congr 1
  show splF 10 (endR R ++ 10 :: []) = _
  unfold splF
  rw [splA_app (endR_lines R)]
  rfl
theorem rowsF_lines {s : Int} {ls : List Lb} (h : smallF s ls = true) : ∀ r ∈ rowsF s ls, ∀ b ∈ r, b ≠ 10 := by
  unfold smallF at h
  rw [Bool.and_eq_true, List.all_eq_true] at h
  intro r hr
  rcases List.mem_cons.1 hr with rfl | hr
  · exact rowF_lines _ _ (by decide) fun n hn => by rw [List.mem_singleton.1 hn]; simpa [smallN] using h.1
  · obtain ⟨x, hx, rfl⟩ := List.mem_map.1 hr
    exact rowF_lines _ _ (by decide) fun n hn => by simpa [smallN] using List.all_eq_true.1 (h.2 x hx) n hn
/-- The first row's number. -/
def headR (r : List UInt8) : Option Int := match numsW (splF 32 r).tail with
  | some [s] => some s
  | _ => none
def limbR (r : List UInt8) : Option Lb := match numsW (splF 32 r).tail with
  | some [a, b, c, d, e] => some ⟨a, b, c, d, e⟩
  | _ => none
def limbsR : List (List UInt8) → Option (List Lb)
  | [] => some []
  | r :: R => match limbR r, limbsR R with
    | some x, some l => some (x :: l)
    | _, _ => none
def figR : List (List UInt8) → Option (Int × List Lb)
  | [] => some (0, [])
  | r :: R => match headR r, limbsR R with
    | some s, some l => some (s, l)
    | _, _ => none
/-- The figure of a text, as the reference reads it. -/
def readR (t : List UInt8) : Option (Int × List Lb) := match figR ((splF 10 t).take ((splF 10 t).length - 2)) with
  | some f => if textF f.1 f.2 = t then some f else none
  | none => none
theorem headR_small {r : List UInt8} {s : Int} (h : headR r = some s) : s.natAbs < 100 := by
  unfold headR at h
  split at h <;> cases h
  rename_i h
  exact (numsW_small h).2 s (by simp)
theorem limbR_small {r : List UInt8} {x : Lb} (h : limbR r = some x) : ∀ n ∈ limbNs x, n.natAbs < 100 := by
  unfold limbR at h
  split at h <;> cases h
  rename_i h
  exact (numsW_small h).2
theorem limbsR_small : ∀ {R : List (List UInt8)} {l : List Lb}, limbsR R = some l → l.length = R.length ∧ ∀ x ∈ l, ∀ n ∈ limbNs x, n.natAbs < 100
  | [], l, h => by cases h; exact ⟨rfl, fun x hx => by cases hx⟩
  | r :: R, l, h => by
    unfold limbsR at h
    split at h <;> try (cases h; done)
    rename_i x l' h1 h2
    cases h
    obtain ⟨a, b⟩ := limbsR_small h2
    refine ⟨by simp [a], fun m hm => ?_⟩
    rcases List.mem_cons.1 hm with rfl | hm
    · exact limbR_small h1
    · exact b m hm
theorem small_of {s : Int} {ls : List Lb} (h1 : s.natAbs < 100) (h2 : ∀ x ∈ ls, ∀ n ∈ limbNs x, n.natAbs < 100) : smallF s ls = true := by
  unfold smallF
  rw [Bool.and_eq_true, List.all_eq_true]
  refine ⟨by simp [smallN]; omega, fun x hx => List.all_eq_true.2 fun n hn => ?_⟩
  have := h2 x hx n hn
  simp [smallN]; omega
/-- The numbers of a row with some word, and as many numbers; or what is given up with. -/
def toldE (word : List UInt8) (many : Nat) (r : List UInt8) : Except (List UInt8) (List Int) :=
  if (splF 32 r).length = many + 1 ∧ (splF 32 r).head? = some word then numsE (splF 32 r).tail else .error r
where numsE : List (List UInt8) → Except (List UInt8) (List Int)
  | [] => .ok []
  | w :: ws => match numW w with
    | none => .error w
    | some n => match numsE ws with
      | .ok l => .ok (n :: l)
      | .error e => .error e
theorem numsE_ok : ∀ {ws : List (List UInt8)} {l : List Int}, toldE.numsE ws = .ok l ↔ numsW ws = some l
  | [], l => by
    unfold toldE.numsE numsW
    constructor <;> intro h <;> cases h <;> rfl
  | w :: ws, l => by
    have ih : ∀ l', toldE.numsE ws = .ok l' ↔ numsW ws = some l' := fun l' => numsE_ok (ws := ws) (l := l')
    unfold toldE.numsE numsW
    cases numW w with
    | none => exact ⟨fun h => (by cases h), fun h => (by cases h)⟩
    | some n =>
      cases h1 : toldE.numsE ws with
      | error e =>
        cases h2 : numsW ws with
        | none => exact ⟨fun h => (by cases h), fun h => (by cases h)⟩
        | some l' => have := (ih l').2 h2; rw [h1] at this; cases this
      | ok l' =>
        rw [(ih l').1 h1]
        constructor <;> intro h <;> cases h <;> rfl
def limbsE : List (List UInt8) → Except (List UInt8) (List Lb)
  | [] => .ok []
  | r :: R => match toldE limbW 5 r with
    | .error e => .error e
    | .ok n => match limbsE R with
      | .error e => .error e
      | .ok l => .ok (⟨n.getD 0 0, n.getD 1 0, n.getD 2 0, n.getD 3 0, n.getD 4 0⟩ :: l)
/-- The figure of a text, as the program reads it, or what is given up with. -/
def parsedE (t : List UInt8) : Except (List UInt8) (Int × List Lb) := match splF 10 t with
  | r :: R => if 2 ≤ R.length then
      match toldE figW 1 r with
      | .error e => .error e
      | .ok n => match limbsE (R.take (R.length - 2)) with
        | .error e => .error e
        | .ok l => if textF (n.getD 0 0) l = t then .ok (n.getD 0 0, l) else .error t
    else .error t
  | [] => .error t
end Go.Pv
namespace Go.Pv
open Go Go.RowKit Go.Proofs
def tinyN (n : Int) : Bool := decide (n.natAbs < 100)
/-- The numbers of a figure have two digits at most. -/
def tinyF (s : Int) (ls : List Lb) : Bool := tinyN s && ls.all fun x => (limbNs x).all tinyN
theorem tiny_iff {s : Int} {ls : List Lb} : tinyF s ls = true ↔ s.natAbs < 100 ∧ ∀ x ∈ ls, ∀ n ∈ limbNs x, n.natAbs < 100 := by
  unfold tinyF tinyN
  simp only [Bool.and_eq_true, decide_eq_true_eq, List.all_eq_true]
theorem small_tiny {s : Int} {ls : List Lb} (h : tinyF s ls = true) : smallF s ls = true := by
  obtain ⟨a, b⟩ := tiny_iff.1 h
  exact small_of a b
theorem many_tiny : ∀ (ls : List Lb) (i m k : Int), manyG i m ls = some k → 0 ≤ i → i + ls.length ≤ 90 → ∀ x ∈ ls, ∀ n ∈ limbNs x, n.natAbs < 100
  | [], _, _, _, _, _, _, x, hx => by cases hx
  | y :: ls, i, m, k, h, hi, hl, x, hx => by
    unfold manyG at h
    split at h <;> try (cases h; done)
    rename_i hb
    rw [List.length_cons] at hl
    rcases List.mem_cons.1 hx with rfl | hx
    · unfold lbB inB at hb
      simp only [Bool.and_eq_true, decide_eq_true_eq] at hb
      intro n hn
      unfold limbNs at hn
      simp only [List.mem_cons, List.not_mem_nil, or_false] at hn
      rcases hn with rfl | rfl | rfl | rfl | rfl <;> omega
    · exact many_tiny ls (i + 1) _ k h (by omega) (by omega) x hx
theorem fig_tiny {s : Int} {ls : List Lb} (h : figB s ls = true) : tinyF s ls = true := by
  unfold figB inB at h
  simp only [Bool.and_eq_true, decide_eq_true_eq] at h
  obtain ⟨⟨h1, h2⟩, h3⟩ := h
  refine tiny_iff.2 ⟨by omega, ?_⟩
  cases hm : manyG 0 1 ls with
  | none => rw [hm] at h3; cases h3
  | some k => exact many_tiny ls 0 1 k hm (Int.le_refl _) (by omega)
theorem tail_row (w : List UInt8) (ns : List Int) (hw : ∀ b ∈ w, b ≠ 32) (h : ∀ n ∈ ns, n.natAbs < 100) : splF 32 (rowF w ns) = w :: ns.map itoaF := by
  unfold splF
  rw [splF_row ns w [] hw (fun n hn => by have := h n hn; omega)]
  rfl
theorem toldE_row (w : List UInt8) (ns : List Int) (hw : ∀ b ∈ w, b ≠ 32) (h : ∀ n ∈ ns, n.natAbs < 100) : toldE w ns.length (rowF w ns) = .ok ns := by
  unfold toldE
  rw [tail_row w ns hw h, if_pos ⟨by simp, rfl⟩]
  exact numsE_ok.2 (numsW_itoa ns h)
theorem limbsE_rows : ∀ (ls : List Lb), (∀ x ∈ ls, ∀ n ∈ limbNs x, n.natAbs < 100) → limbsE (ls.map fun x => rowF limbW (limbNs x)) = .ok ls
  | [], _ => rfl
  | x :: ls, h => by
    rw [List.map_cons, limbsE]
    have e := toldE_row limbW (limbNs x) (by decide) (h x (by simp))
    rw [show (limbNs x).length = 5 from rfl] at e
    rw [e, limbsE_rows ls (fun y hy => h y (by simp [hy]))]
    rfl
/-- What is written is read. -/
theorem parsed_text {s : Int} {ls : List Lb} (h : tinyF s ls = true) : parsedE (textF s ls) = .ok (s, ls) := by
  obtain ⟨h1, h2⟩ := tiny_iff.1 h
  have hs : splF 10 (textF s ls) = rowF figW [s] :: ((ls.map fun x => rowF limbW (limbNs x)) ++ [endR (rowsF s ls), []]) := splF_seal _ (rowsF_lines (small_tiny h))
  unfold parsedE
  rw [hs]
  dsimp only
  have e1 := toldE_row figW [s] (by decide) (fun n hn => by rw [List.mem_singleton.1 hn]; exact h1)
  rw [show [s].length = 1 from rfl] at e1
  have e2 : ((ls.map fun x => rowF limbW (limbNs x)) ++ [endR (rowsF s ls), []]).take (((ls.map fun x => rowF limbW (limbNs x)) ++ [endR (rowsF s ls), []]).length - 2) = ls.map fun x => rowF limbW (limbNs x) := by
    rw [List.length_append]
    exact List.take_left' (by simp)
  rw [if_pos (by simp), e1, e2, limbsE_rows ls h2]
  dsimp only
  rw [show ([s] : List Int).getD 0 0 = s from rfl, if_pos rfl]
theorem toldE_ok {w r : List UInt8} {k : Nat} {l : List Int} (h : toldE w k r = .ok l) : numsW (splF 32 r).tail = some l ∧ l.length = k := by
  unfold toldE at h
  split at h <;> try (cases h; done)
  rename_i hc
  have h := numsE_ok.1 h
  refine ⟨h, ?_⟩
  rw [(numsW_small h).1, List.length_tail, hc.1]
  rfl
theorem limbsE_ok : ∀ {R : List (List UInt8)} {l : List Lb}, limbsE R = .ok l → limbsR R = some l
  | [], l, h => by cases h; rfl
  | r :: R, l, h => by
    unfold limbsE at h
    split at h <;> try (cases h; done)
    rename_i n hn
    split at h <;> try (cases h; done)
    rename_i l' hl
    cases h
    obtain ⟨a, b⟩ := toldE_ok hn
    have e : limbR r = some ⟨n.getD 0 0, n.getD 1 0, n.getD 2 0, n.getD 3 0, n.getD 4 0⟩ := by
      unfold limbR
      rw [a]
      match n, b with
      | [a, b, c, d, e], _ => rfl
    unfold limbsR
    rw [e, limbsE_ok hl]
theorem parsed_read {t : List UInt8} {f : Int × List Lb} (h : parsedE t = .ok f) : readR t = some f ∧ textF f.1 f.2 = t := by
  unfold parsedE at h
  split at h <;> try (cases h; done)
  rename_i r R hsp
  split at h <;> try (cases h; done)
  rename_i hR
  split at h <;> try (cases h; done)
  rename_i n hn
  split at h <;> try (cases h; done)
  rename_i l hl
  split at h <;> cases h
  rename_i ht
  obtain ⟨a, b⟩ := toldE_ok hn
  have e1 : headR r = some (n.getD 0 0) := by
    unfold headR
    rw [a]
    match n, b with
    | [a], _ => rfl
  refine ⟨?_, ht⟩
  unfold readR
  rw [hsp, show (r :: R).length - 2 = (R.length - 2) + 1 by simp; omega, List.take_succ_cons]
  show (match (match headR r, limbsR (R.take (R.length - 2)) with | some s, some l => some (s, l) | _, _ => none) with
    | some f => if textF f.1 f.2 = t then some f else none
    | none => none) = _
  rw [e1, limbsE_ok hl]
  dsimp only
  rw [if_pos ht]
theorem figR_tiny {R : List (List UInt8)} {f : Int × List Lb} (h : figR R = some f) : tinyF f.1 f.2 = true := by
  cases R with
  | nil => cases h; rfl
  | cons r R =>
    have h : (match headR r, limbsR R with | some s, some l => some (s, l) | _, _ => none) = some f := h
    split at h <;> try (cases h; done)
    rename_i s l h1 h2
    cases h
    exact tiny_iff.2 ⟨headR_small h1, (limbsR_small h2).2⟩
theorem readR_ok {t : List UInt8} {f : Int × List Lb} (h : readR t = some f) : textF f.1 f.2 = t ∧ tinyF f.1 f.2 = true := by
  unfold readR at h
  split at h <;> try (cases h; done)
  rename_i g hg
  split at h <;> cases h
  rename_i ht
  exact ⟨ht, figR_tiny hg⟩
/-- Both readings are alike. -/
theorem read_alike (t : List UInt8) (f : Int × List Lb) : parsedE t = .ok f ↔ readR t = some f := by
  refine ⟨fun h => (parsed_read h).1, fun h => ?_⟩
  obtain ⟨a, b⟩ := readR_ok h
  rw [← a]
  exact parsed_text b
theorem row_len2 (ns : List Int) (hb : ∀ n ∈ ns, n.natAbs < 100) : ∀ w : List UInt8, (rowF w ns).length ≤ w.length + 4 * ns.length := by
  induction ns with
  | nil => intro w; exact Nat.le_refl _
  | cons n ns ih =>
    intro w
    have h1 := ih (fun m hm => hb m (List.mem_cons_of_mem _ hm)) (w ++ 32 :: itoaF n)
    have h2 := itoa_len 1 n (hb n (List.mem_cons_self ..)) (by decide)
    show (rowF (w ++ 32 :: itoaF n) ns).length ≤ _
    rw [List.length_append, List.length_cons] at h1
    rw [List.length_cons]
    omega
theorem lines_len (k : Nat) : ∀ (R : List (List UInt8)), (∀ r ∈ R, r.length ≤ k) → (linesF R).length ≤ (k + 1) * R.length
  | [], _ => Nat.le_refl _
  | r :: R, h => by
    have h1 := lines_len k R (fun x hx => h x (by simp [hx]))
    have h2 := h r (by simp)
    show (r ++ [10] ++ linesF R).length ≤ _
    simp only [List.length_append, List.length_cons, List.length_nil]
    rw [Nat.mul_succ]
    omega
theorem dig_len (d : Nat) (h : d < 179) : (digF d).length ≤ 6 := by
  have h1 := itoa_len 0 ((d / 100 : Nat) : Int) (by omega) (by decide)
  have h2 := itoa_len 0 ((d / 10 % 10 : Nat) : Int) (by omega) (by decide)
  have h3 := itoa_len 0 ((d % 10 : Nat) : Int) (by omega) (by decide)
  unfold digF
  simp only [List.length_append]
  omega
theorem rows_each {s : Int} {ls : List Lb} (h : tinyF s ls = true) : ∀ r ∈ rowsF s ls, r.length ≤ 24 := by
  obtain ⟨h1, h2⟩ := tiny_iff.1 h
  intro r hr
  rcases List.mem_cons.1 hr with rfl | hr
  · exact Nat.le_trans (row_len2 [s] (fun n hn => by rw [List.mem_singleton.1 hn]; exact h1) _) (show 6 + 4 * 1 ≤ 24 by decide)
  · obtain ⟨x, hx, rfl⟩ := List.mem_map.1 hr
    exact Nat.le_trans (row_len2 _ (h2 x hx) _) (show 4 + 4 * 5 ≤ 24 by decide)
theorem text_len {s : Int} {ls : List Lb} (h : tinyF s ls = true) : (textF s ls).length ≤ 25 * (ls.length + 1) + 11 := by
  have h1 := lines_len 24 (rowsF s ls) (rows_each h)
  have h2 := dig_len (sumS 0 (rowsF s ls) % 179) (Nat.mod_lt _ (by decide))
  have h3 : (rowsF s ls).length = ls.length + 1 := by unfold rowsF; simp
  unfold textF sealF
  simp only [List.length_append, List.length_cons, List.length_nil]
  omega
theorem splA_set {c : UInt8} {b : UInt8} (hb : b ≠ c) (q : List UInt8) : ∀ (p acc : List UInt8), ∃ (P : List (List UInt8)) (x y : List UInt8) (Q : List (List UInt8)), splA c acc (p ++ b :: q) = P ++ (x ++ b :: y) :: Q ∧ ∀ d, d ≠ c → splA c acc (p ++ d :: q) = P ++ (x ++ d :: y) :: Q
  | [], acc => by
    obtain ⟨y, Q, hq⟩ : ∃ y Q, Lib.split q [c] = y :: Q := by
      have := splF_len c q
      rw [← lib_split] at this
      cases h : Lib.split q [c] with
      | nil => rw [h] at this; simp at this
      | cons y Q => exact ⟨y, Q, rfl⟩
    have key : ∀ d, d ≠ c → splA c acc (d :: q) = (acc ++ d :: y) :: Q := fun d hd => by
      rw [splA, if_neg hd, splA_lib, hq]
      show (acc ++ [d] ++ y) :: Q = _
      simp
    exact ⟨[], acc, y, Q, key b hb, fun d hd => key d hd⟩
  | a :: p, acc => by
    by_cases ha : a = c
    · obtain ⟨P, x, y, Q, h1, h2⟩ := splA_set hb q p []
      refine ⟨acc :: P, x, y, Q, ?_, fun d hd => ?_⟩
      · show splA c acc (a :: (p ++ b :: q)) = _
        rw [splA, if_pos ha, h1]; rfl
      · show splA c acc (a :: (p ++ d :: q)) = _
        rw [splA, if_pos ha, h2 d hd]; rfl
    · obtain ⟨P, x, y, Q, h1, h2⟩ := splA_set hb q p (acc ++ [a])
      refine ⟨P, x, y, Q, ?_, fun d hd => ?_⟩
      · show splA c acc (a :: (p ++ b :: q)) = _
        rw [splA, if_neg ha, h1]
      · show splA c acc (a :: (p ++ d :: q)) = _
        rw [splA, if_neg ha, h2 d hd]
theorem sumR_app (m : Nat) (y : List UInt8) : ∀ (x : List UInt8) (k : Nat), sumR m k (x ++ y) = sumR m k x + sumR m (k + x.length) y
  | [], k => by simp [sumR]
  | b :: x, k => by
    show b.toNat * (k + 1) * m + sumR m (k + 1) (x ++ y) = b.toNat * (k + 1) * m + sumR m (k + 1) x + _
    rw [sumR_app m y x (k + 1), List.length_cons, show k + 1 + x.length = k + (x.length + 1) by omega, Nat.add_assoc]
theorem sumS_app (Y : List (List UInt8)) : ∀ (X : List (List UInt8)) (k : Nat), sumS k (X ++ Y) = sumS k X + sumS (k + X.length) Y
  | [], k => by simp [sumS]
  | b :: x, k => by
    show sumR (k + 1) 0 b + sumS (k + 1) (x ++ Y) = sumR (k + 1) 0 b + sumS (k + 1) x + _
    rw [sumS_app Y x (k + 1), List.length_cons, show k + 1 + x.length = k + (x.length + 1) by omega, Nat.add_assoc]
theorem dig_inj {a b : Nat} (ha : a < 179) (hb : b < 179) (h : digF a = digF b) : a = b := by
  have key : ∀ k : Fin 179, ((digF k.val).foldl (fun n c => 10 * n + (c.toNat - 48)) 0) = k.val := by decide +kernel
  have h1 := key ⟨a, ha⟩
  have h2 := key ⟨b, hb⟩
  rw [h] at h1
  exact h1.symm.trans h2
theorem no_zero {d u v : Nat} (hd : 0 < d) (hd2 : d < 179) (hu : 0 < u) (hu2 : u < 179) (hv : 0 < v) (hv2 : v < 179) : ¬ 179 ∣ d * u * v := by
  have key : ∀ k : Fin 179, 0 < k.val → Nat.gcd 179 k.val = 1 := by decide +kernel
  intro h
  have h1 : Nat.Coprime 179 v := key ⟨v, hv2⟩ hv
  have h2 : Nat.Coprime 179 u := key ⟨u, hu2⟩ hu
  have h3 := h2.dvd_of_dvd_mul_right (h1.dvd_of_dvd_mul_right h)
  exact absurd (Nat.le_of_dvd hd h3) (by omega)
theorem sum_ne {b d : UInt8} (hb : isDig b = true) (hd : isDig d = true) (hne : b ≠ d) (P Q : List (List UInt8)) (x y : List UInt8) (hx : x.length < 178) (hP : P.length < 178) :
    sumS 0 (P ++ (x ++ b :: y) :: Q) % 179 ≠ sumS 0 (P ++ (x ++ d :: y) :: Q) % 179 := by
  have form : ∀ c : UInt8, sumS 0 (P ++ (x ++ c :: y) :: Q) = c.toNat * (x.length + 1) * (P.length + 1) + (sumS 0 P + sumR (P.length + 1) 0 x + sumR (P.length + 1) (x.length + 1) y + sumS (P.length + 1) Q) := fun c => by
    rw [sumS_app]
    show _ + (sumR (0 + P.length + 1) 0 (x ++ c :: y) + sumS (0 + P.length + 1) Q) = _
    rw [sumR_app]
    show _ + (_ + (c.toNat * (0 + x.length + 1) * (0 + P.length + 1) + sumR (0 + P.length + 1) (0 + x.length + 1) y) + _) = _
    simp only [Nat.zero_add]
    omega
  rw [form b, form d]
  generalize sumS 0 P + sumR (P.length + 1) 0 x + sumR (P.length + 1) (x.length + 1) y + sumS (P.length + 1) Q = r
  intro h
  have bd : ∀ c : UInt8, isDig c = true → 48 ≤ c.toNat ∧ c.toNat ≤ 57 := fun c hc => by unfold isDig at hc; simpa using hc
  have h1 := bd b hb
  have h2 := bd d hd
  have hn : b.toNat ≠ d.toNat := fun e => hne (UInt8.toNat_inj.1 e)
  have sub : ∀ m n : Nat, n < m → m ≤ 57 → 48 ≤ n → (m * (x.length + 1) * (P.length + 1) + r) % 179 = (n * (x.length + 1) * (P.length + 1) + r) % 179 → False := fun m n hmn hm hn' e => by
    obtain ⟨k, rfl⟩ : ∃ k, m = n + k := ⟨m - n, by omega⟩
    have e1 : (n + k) * (x.length + 1) * (P.length + 1) + r = k * (x.length + 1) * (P.length + 1) + (n * (x.length + 1) * (P.length + 1) + r) := by
      rw [Nat.add_mul, Nat.add_mul]; omega
    rw [e1] at e
    generalize n * (x.length + 1) * (P.length + 1) + r = q at e
    have : 179 ∣ k * (x.length + 1) * (P.length + 1) := by
      generalize k * (x.length + 1) * (P.length + 1) = z at e ⊢
      omega
    exact no_zero (by omega) (by omega) (by omega) (by omega) (by omega) (by omega) this
  rcases Nat.lt_or_gt_of_ne hn with h3 | h3
  · exact sub _ _ h3 h2.2 h1.1 h.symm
  · exact sub _ _ h3 h1.2 h2.1 h
theorem dig_ne {b : UInt8} (h : isDig b = true) : b ≠ 10 := fun e => by subst e; cases h
/-- A text of which one digit was changed is no text with its check. -/
theorem seal_spoilt {R R' : List (List UInt8)} {p q : List UInt8} {b d : UInt8} (hR : ∀ r ∈ R, ∀ c ∈ r, c ≠ 10) (hR' : ∀ r ∈ R', ∀ c ∈ r, c ≠ 10) (hl : ∀ r ∈ R, r.length < 178) (hn : R.length < 178) (hb : isDig b = true) (hd : isDig d = true) (hne : b ≠ d)
    (h1 : sealF R = p ++ b :: q) (h2 : sealF R' = p ++ d :: q) : False := by
  have e1 := splF_seal R hR
  have e2 := splF_seal R' hR'
  obtain ⟨P, x, y, Q, a1, a2⟩ := splA_set (dig_ne hb) q p []
  have a2 := a2 d (dig_ne hd)
  unfold splF at e1 e2
  rw [h1, a1] at e1
  rw [h2, a2] at e2
  have n1 : R.length = R'.length := by
    have l1 := congrArg List.length e1
    have l2 := congrArg List.length e2
    simp only [List.length_append, List.length_cons, List.length_nil] at l1 l2
    omega
  have hQ : P.length + 1 + Q.length = R.length + 2 := by
    have l1 := congrArg List.length e1
    simp only [List.length_append, List.length_cons, List.length_nil] at l1
    omega
  by_cases hc1 : P.length < R.length
  · obtain ⟨Q0, t0, t1, rfl⟩ : ∃ Q0 t0 t1, Q = Q0 ++ [t0, t1] := by
      refine ⟨Q.take (Q.length - 2), Q[Q.length - 2], Q[Q.length - 1], ?_⟩
      have hs : Q.drop (Q.length - 2) = [Q[Q.length - 2], Q[Q.length - 1]] := by
        rw [List.drop_eq_getElem_cons (by omega), List.drop_eq_getElem_cons (by omega), List.drop_eq_nil_of_le (by omega)]
        congr 2
        congr 1
        omega
      rw [← hs, List.take_append_drop]
    have f1 : (P ++ (x ++ b :: y) :: Q0) ++ [t0, t1] = R ++ [endR R, []] := by rw [← e1]; simp
    have f2 : (P ++ (x ++ d :: y) :: Q0) ++ [t0, t1] = R' ++ [endR R', []] := by rw [← e2]; simp
    obtain ⟨g1, g2⟩ := List.append_inj f1 (by simp at hQ ⊢; omega)
    obtain ⟨g3, g4⟩ := List.append_inj f2 (by simp at hQ ⊢; omega)
    have g5 : endR R = endR R' := by
      have u1 := (List.cons.inj g2).1
      have u2 := (List.cons.inj g4).1
      rw [← u1, ← u2]
    unfold endR at g5
    have g6 : digF (sumS 0 R % 179) = digF (sumS 0 R' % 179) := by simpa using g5
    have g7 := dig_inj (Nat.mod_lt _ (by decide)) (Nat.mod_lt _ (by decide)) g6
    have hx := hl (x ++ b :: y) (by rw [← g1]; simp)
    rw [List.length_append, List.length_cons] at hx
    rw [← g1, ← g3] at g7
    exact sum_ne hb hd hne P Q0 x y (by omega) (by omega) g7
  · by_cases hc2 : P.length = R.length
    · obtain ⟨g1, g2⟩ := List.append_inj e1 hc2
      obtain ⟨g3, g4⟩ := List.append_inj e2 (hc2.trans n1)
      have u1 := (List.cons.inj g2).1
      have u2 := (List.cons.inj g4).1
      rw [← g1, g3, ← u2] at u1
      have := List.append_cancel_left u1
      exact hne (List.cons.inj this).1
    · have hP : P.length = R.length + 1 := by omega
      have h5 : (P ++ (x ++ b :: y) :: Q)[P.length]? = some (x ++ b :: y) := by simp
      rw [e1, hP, List.getElem?_append_right (by omega)] at h5
      simp at h5
theorem text_spoilt {s : Int} {ls : List Lb} {p q : List UInt8} {b d : UInt8} (h : tinyF s ls = true) (hn : ls.length ≤ 100) (hb : isDig b = true) (hd : isDig d = true) (hne : b ≠ d) (he : textF s ls = p ++ b :: q) : ∃ e, parsedE (p ++ d :: q) = .error e := by
  cases hp : parsedE (p ++ d :: q) with
  | error e => exact ⟨e, rfl⟩
  | ok f =>
    exfalso
    obtain ⟨h1, h2⟩ := parsed_read hp
    have h3 := (readR_ok h1).2
    exact seal_spoilt (rowsF_lines (small_tiny h)) (rowsF_lines (small_tiny h3)) (fun r hr => Nat.lt_of_le_of_lt (rows_each h r hr) (by decide)) (by unfold rowsF; simp; omega) hb hd hne he h2
end Go.Pv
