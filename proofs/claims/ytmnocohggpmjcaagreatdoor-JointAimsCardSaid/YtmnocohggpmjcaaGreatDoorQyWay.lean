/- Contracts: the search as a table; what is looked up in it; the best way, in plain terms. -/
import Derived.Test.YtmnocohggpmjcaaGreatDoorQyAway
set_option linter.all false
namespace Go.Pv
open Go Go.RowKit Go.Proofs
set_option maxRecDepth 10000
set_option maxHeartbeats 4000000
theorem Rep.slA {G : Gh} {z : Z} {es : List PV} {u : Value} (hz : z ≠ .n) (h : Rep G (.sl z es) u) : Rep G (.sl .a es) u := by
  cases h with
  | nils => exact absurd rfl hz
  | sl h1 h2 k us hk ho hc hm hS hr hsp => exact .sl (fun e => by cases e) (fun e => by cases e) k us hk ho hc hm hS hr hsp
theorem CallOk.argA2 {P : Program} {f : FuncId} {x : PV} {z : Z} {es : List PV} {sg sg' : List Box} {r : PRes} (hz : z ≠ .n) (h : CallOk P f [x, .sl .a es] sg r sg') : CallOk P f [x, .sl z es] sg r sg' :=
  ⟨h.1, fun n G w us hR hL => h.2 n G w us hR ⟨hL.1, fun j c u hc hu => by
    match j, hc with
    | 0, hc => exact hL.2 0 c u hc hu
    | 1, hc =>
      simp at hc; subst hc
      exact (hL.2 1 (.sl z es) u rfl hu).slA hz
    | j + 2, hc => simp at hc⟩⟩
def c98 : List PV → List Box → Option (PRes × List Box)
  | [.agg cs, p], sg => match decSt cs, decIs1 p with
    | some (s, z, zh, zr, ls, g), some f => if stB s z zh zr ls g = true ∧ poseG ls f = true then some (.ret (.im (mpK (awayG s ls g f)) (mpV (awayG s ls g f))), sg) else none
    | _, _ => none
  | _, _ => none
theorem c98_ok : ConOk Tryz.prog 98 c98 := ConOk.of0 (ent Tryz.func98 rfl) fun args sg r sg' h => by
  unfold c98 at h
  split at h <;> try (cases h; done)
  split at h <;> try (cases h; done)
  rename_i h1 h2
  split at h <;> cases h
  rename_i hc
  obtain rfl := decSt_inv h1
  obtain ⟨zp, rfl, hp⟩ := decIs1_inv h2
  have H := stB_iff.1 hc.1
  have hl := H.len
  have hll := (pose_at hc.2).1
  exact ⟨_, rfl, rfl, by rw [ltBL_cons, ltB_st, ltBL_cons, ltB_isl]; rfl, (away_98 H _ hc.2).argA2 fun e => by rw [hp e] at hll; simp at hll; omega⟩
def dO (Q : Dst) (l : List Int) : Option Nat := (Q.find? fun x => decide (x.1 = l)).map Prod.snd
def dG (Q : Dst) (l : List Int) : Int := ((dO Q l).getD 0 : Nat)
theorem dO_none {Q : Dst} {l : List Int} : dO Q l = none ↔ hasK Q l = false := by
  unfold dO hasK
  rw [Option.map_eq_none_iff, List.find?_eq_none, List.any_eq_false]
theorem dO_some {Q : Dst} {l : List Int} {d : Nat} (hd : (Q.map Prod.fst).Nodup) : dO Q l = some d ↔ (l, d) ∈ Q := by
  unfold dO
  rw [Option.map_eq_some_iff]
  constructor
  · rintro ⟨x, hx, rfl⟩
    have h1 := List.mem_of_find?_eq_some hx
    have h2 := List.find?_some hx
    have : x.1 = l := of_decide_eq_true h2
    subst this
    exact h1
  · intro h
    cases hf : Q.find? fun x => decide (x.1 = l) with
    | none =>
      rw [List.find?_eq_none] at hf
      exact absurd (decide_eq_true rfl) (hf _ h)
    | some x =>
      have h1 := List.mem_of_find?_eq_some hf
      have h2 : x.1 = l := of_decide_eq_true (List.find?_some (p := fun (x : List Int × Nat) => decide (x.1 = l)) hf)
      refine ⟨x, rfl, ?_⟩
      obtain ⟨i, hi⟩ := List.getElem?_of_mem h1
      obtain ⟨j, hj⟩ := List.getElem?_of_mem h
      have hp := List.pairwise_iff_getElem.1 hd
      obtain ⟨l1, e1⟩ := List.getElem?_eq_some_iff.1 hi
      obtain ⟨l2, e2⟩ := List.getElem?_eq_some_iff.1 hj
      have m1 : (Q.map Prod.fst)[i]'(by simpa using l1) = l := by simp [e1, h2]
      have m2 : (Q.map Prod.fst)[j]'(by simpa using l2) = l := by simp [e2]
      rcases Nat.lt_trichotomy i j with hlt | rfl | hlt
      · exact absurd (by rw [m1, m2]) (hp i j (by simpa using l1) (by simpa using l2) hlt)
      · rw [hi] at hj
        cases hj; rfl
      · exact absurd (by rw [m1, m2]) (hp j i (by simpa using l2) (by simpa using l1) hlt)
theorem look_im {Q : Dst} {k : List Int} {n : Nat} (sg : List Box) (hk : k.length = n) (hn : n ≤ 5) (hQ : ∀ x ∈ Q, x.1.length = n) (hd : (Q.map Prod.fst).Nodup) :
    lookupC TT sg 144 (.im (mpK Q) (mpV Q)) (keyP k) false = some (ii (dG Q k)) ∧ lookupC TT sg 144 (.im (mpK Q) (mpV Q)) (keyP k) true = some (.tuple [ii (dG Q k), .bool (hasK Q k)]) := by
  have e : ∀ b, lookupC TT sg 144 (.im (mpK Q) (mpV Q)) (keyP k) b = (match findC K148 (keyP k) (mpK Q) 0 with
        | some (some j) => match (mpV Q)[j]? with
          | some v => some (if b then .tuple [v, .bool true] else v)
          | none => none
        | some none => some (if b then .tuple [ii 0, .bool false] else ii 0)
        | none => none) := by
    intro b
    unfold lookupC
    simp only [T_144]
    have h1 : keyOkC (TT 148) (keyP k) = true ∧ (TT 3).d.ok = true ∧ 0 < (TT 3).size := ⟨keyP_ok k, rfl, by decide⟩
    rw [if_pos h1]
    rfl
  rw [e, e]
  cases hh : hasK Q k with
  | true =>
    obtain ⟨d, hdm⟩ := hasK_iff.1 hh
    obtain ⟨jj, e1, e2, _⟩ := mp_in hk hn hQ hd hdm
    rw [e1]
    simp only [e2]
    have : dO Q k = some d := (dO_some hd).2 hdm
    unfold dG
    rw [this]
    exact ⟨rfl, rfl⟩
  | false =>
    rw [mp_not hk hn hQ hh]
    unfold dG
    rw [dO_none.2 hh]
    exact ⟨rfl, rfl⟩
theorem away_dist {s : Int} {ls : List Lb} {g : Stg} {f : List Int} : ∀ (i : Nat), ∀ x ∈ awayQ s ls g f i, x.2 ≤ i
  | 0, x, h => by
    have h : x ∈ [(f, 0)] := h
    simp at h; subst h; exact Nat.le_refl _
  | i + 1, x, h => by
    obtain ⟨r, hr, h2⟩ := procQ_ex (nb := nbG s ls g) (awayQ s ls g f i) i
    have e : awayQ s ls g f (i + 1) = awayQ s ls g f i ++ r := hr
    rw [e] at h
    rcases List.mem_append.1 h with h | h
    · have := away_dist i x h; omega
    · obtain ⟨y, hy, e2, _⟩ := h2 x h
      have := away_dist i y (List.mem_of_getElem? hy)
      omega
theorem dG_bd {s : Int} {ls : List Lb} {g : Stg} {f : List Int} (l : List Int) : 0 ≤ dG (awayG s ls g f) l ∧ dG (awayG s ls g f) l ≤ 60000 := by
  unfold dG
  cases h : dO (awayG s ls g f) l with
  | none => simp
  | some d =>
    have := away_dist 60000 _ ((dO_some (away_nodup 60000)).1 h)
    simp only [Option.getD_some]
    have h2 : d ≤ 60000 := this
    omega
/-- A slice that is not nil, looked at as one of which no capacity is known. -/
theorem Ghost.slA {tm : List (Nat × PV)} {n : Nat} {sg : List Box} {t : Nat} {z : Z} {es : List PV} (h : getT tm t = some (.sl z es)) (hz : z ≠ .n) : Ghost ⟨tm, n, sg⟩ ⟨putT tm t (.sl .a es), n, sg⟩ := by
  refine ⟨Nat.le_refl _, fun r G a w db hs => ?_⟩
  obtain ⟨u, hu, hr⟩ := hs.tm t _ h
  refine ⟨G, ⟨hs.rel, fun s x hx => ?_, hs.n, hs.dfr, hs.rd⟩, leM_refl _ _⟩
  rw [getT_putT] at hx
  split at hx
  · rename_i hst
    subst hst
    cases hx
    exact ⟨u, hu, hr.slA hz⟩
  · exact hs.tm s x hx
theorem RunQ.slA {P : Program} {c : Code} {Q : Out → St → Prop} (t : Nat) {tm tm' : List (Nat × PV)} {n : Nat} {sg : List Box} {z : Z} {es : List PV} (h : getT tm t = some (.sl z es)) (hz : z ≠ .n) (e : putT tm t (.sl .a es) = tm') (hq : RunQ P c ⟨tm', n, sg⟩ Q) : RunQ P c ⟨tm, n, sg⟩ Q :=
  RunQ.pre (st1 := ⟨tm', n, sg⟩) (by rw [← e]; exact Ghost.slA h hz) hq
end Go.Pv
