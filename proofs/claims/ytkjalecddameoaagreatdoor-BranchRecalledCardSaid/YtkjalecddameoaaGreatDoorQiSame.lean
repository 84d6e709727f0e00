/- Contracts: lists compared, the reference's and the laws'. -/
import Derived.Test.YtkjalecddameoaaGreatDoorQiPut
import Derived.Test.YtkjalecddameoaaGreatDoorQgWords
set_option linter.all false
namespace Go.Pv
open Go Go.RowKit Go.Proofs
set_option maxRecDepth 200000
set_option maxHeartbeats 8000000
theorem sooner_step {a b : List Int} {i : Nat} {x y : Int} (ha : a[i]? = some x) (hb : b[i]? = some y) : sooner (a.drop i) (b.drop i) = if x = y then sooner (a.drop (i + 1)) (b.drop (i + 1)) else decide (x < y) := by
 rw [drop_get ha, drop_get hb, sooner]
theorem sooner_end {a b : List Int} {i : Nat} (h : a.length ≤ i ∨ b.length ≤ i) (hi : i ≤ a.length ∧ i ≤ b.length) : sooner (a.drop i) (b.drop i) = decide (a.length < b.length) := by
 rcases h with h | h
 ·rw [List.drop_eq_nil_of_le h]
  by_cases hb : b.length ≤ i
  ·rw [List.drop_eq_nil_of_le hb, decide_eq_false (by omega)]; rfl
  ·rw [drop_get (List.getElem?_eq_getElem (show i < b.length by omega)), decide_eq_true (by omega)]; rfl
 ·rw [List.drop_eq_nil_of_le h]
  by_cases ha : a.length ≤ i
  ·rw [List.drop_eq_nil_of_le ha, decide_eq_false (by omega)]; rfl
  ·rw [drop_get (List.getElem?_eq_getElem (show i < a.length by omega)), decide_eq_false (by omega)]; rfl
theorem Sooner_28 (za zb : Z) (a b : List Int) (ha : za = .n → a = []) (hb : zb = .n → b = []) (hs : a.length ≤ 100000) : CallOk Tryz.prog 28 [.sl za (a.map ii), .sl zb (b.map ii)] [] (.ret (.bool (sooner a b))) [] := by
 refine CallOk.of0 hTT Tryz.func28 rfl rfl ?_
 repeat (with_reducible (first | apply nx | apply wQ rfl | ((first | apply wV | apply wW | apply wX | (apply wy cf0_ok; (focus kernel_rfl))); (focus (simp only [Tryz.f28, go_sem]; rfl))) | refine wz cf0_ok ?_ | (refine wa ?_; refine And.intro ?_ ?_; (focus kernel_rfl))))
 refine RunQ.keep [5, 4, 0, 1] (by simp only [go_sem]; rfl) ?_
 refine RunQ.loop (fun i s' => (i ≤ b.length ∧ sooner a b = sooner (a.drop i) (b.drop i)) ∧ s' = ⟨[(5, ii (i : Nat)), (4, .bool false), (0, .sl za (a.map ii)), (1, .sl zb (b.map ii))], 41, []⟩) a.length ⟨⟨Nat.zero_le _, rfl⟩, by simp only [go_sem]⟩ ?_
 rintro i _ hi ⟨⟨hib, hm⟩, rfl⟩
 have hla : decide ((a.length : Int) < b.length) = decide (a.length < b.length) := by rw [decide_eq_decide]; omega
 by_cases hlt : i < a.length
 ·have hlt' : (i : Int) < a.length := by omega
  by_cases hlb : i < b.length
  ·have hlb' : (i : Int) < b.length := by omega
   obtain ⟨x, hx⟩ : ∃ x, a[i]? = some x := ⟨_, List.getElem?_eq_getElem hlt⟩
   obtain ⟨y, hy⟩ : ∃ y, b[i]? = some y := ⟨_, List.getElem?_eq_getElem hlb⟩
   have hx' : (a.map ii)[i]? = some (ii x) := map_get hx
   have hy' : (b.map ii)[i]? = some (ii y) := map_get hy
   have hza : za ≠ .n := fun e => by rw [ha e] at hlt; simp at hlt
   have hzb : zb ≠ .n := fun e => by rw [hb e] at hlb; simp at hlb
   have e4 : IntKind.i64.wrap ((i : Int) + 1) = ((i + 1 : Nat) : Int) := wrap_id (by omega) (by omega)
   rw [sooner_step hx hy] at hm
   by_cases hxy : x = y
   ·have hne : (x != y) = false := by simp [hxy]
    rw [if_pos hxy] at hm
    repeat (with_reducible (first | apply nx | apply wQ rfl | ((first | apply wV | apply wW | apply wX | (apply wy cf0_ok; (focus kernel_rfl))); (focus (simp only [Tryz.f28, hx', hy', hlt', hlb', hza, hzb, hne, e4, List.length_map, go_sem]; rfl))) | refine wz cf0_ok ?_ | (refine wa ?_; refine And.intro ?_ ?_; (focus kernel_rfl))))
    refine roundQ.t 0 [5, 4, 0, 1] hlt (by simp only [ltB_is, ltB_sl, go_sem]) ⟨⟨hlb, hm⟩, by simp only [go_sem]⟩
   ·have hne : (x != y) = true := by simp [hxy]
    rw [if_neg hxy] at hm
    repeat (with_reducible (first | apply nx | apply wQ rfl | ((first | apply wV | apply wW | apply wX | (apply wy cf0_ok; (focus kernel_rfl))); (focus (simp only [Tryz.f28, hx', hy', hlt', hlb', hza, hzb, hne, e4, List.length_map, go_sem]; rfl))) | refine wz cf0_ok ?_ | (refine wa ?_; refine And.intro ?_ ?_; (focus kernel_rfl))))
    exact ⟨rfl, rfl, _, rfl, by rw [hm]; rfl⟩
  ·have hlb' : ¬ (i : Int) < b.length := by omega
   rw [sooner_end (.inr (by omega)) ⟨by omega, hib⟩, ← hla] at hm
   repeat (with_reducible (first | apply nx | apply wQ rfl | ((first | apply wV | apply wW | apply wX | (apply wy cf0_ok; (focus kernel_rfl))); (focus (simp only [Tryz.f28, hlt', hlb', List.length_map, go_sem]; rfl))) | refine wz cf0_ok ?_ | (refine wa ?_; refine And.intro ?_ ?_; (focus kernel_rfl))))
   exact ⟨rfl, rfl, _, rfl, by rw [hm]; rfl⟩
 ·have hlt' : ¬ (i : Int) < a.length := by omega
  rw [sooner_end (.inl (by omega)) ⟨hi, hib⟩, ← hla] at hm
  repeat (with_reducible (first | apply nx | apply wQ rfl | ((first | apply wV | apply wW | apply wX | (apply wy cf0_ok; (focus kernel_rfl))); (focus (simp only [Tryz.f28, hlt', List.length_map, go_sem]; rfl))) | refine wz cf0_ok ?_ | (refine wa ?_; refine And.intro ?_ ?_; (focus kernel_rfl))))
  exact ⟨rfl, rfl, _, rfl, by rw [hm]; rfl⟩
def c28 : List PV → List Box → Option (PRes × List Box)
 | [v, w], sg => match decIs1 v, decIs1 w with
  | some a, some b => if a.length ≤ 100000 then some (.ret (.bool (sooner a b)), sg) else none
  | _, _ => none
 | _, _ => none
theorem c28_ok : ConOk Tryz.prog 28 c28 := ConOk.of0 (ent Tryz.func28 rfl) fun args sg r sg' h => by
 unfold c28 at h
 split at h <;> try (cases h; done)
 split at h <;> try (cases h; done)
 rename_i h1 h2
 split at h <;> cases h
 rename_i hc
 obtain ⟨za, rfl, ha⟩ := decIs1_inv h1
 obtain ⟨zb, rfl, hb⟩ := decIs1_inv h2
 exact ⟨_, rfl, rfl, by rw [ltBL_cons, ltB_isl, ltBL_cons, ltB_isl]; rfl, Sooner_28 _ _ _ _ ha hb hc⟩
def decSls : PV → Option (List (List Int))
 | .sl z es => if zOk z es = true then decL decSlx es else none
 | _ => none
theorem decSls_inv {v : PV} {l : List (List Int)} (h : decSls v = some l) : ∃ z, v = .sl z (l.map slx) ∧ (z = .n → l = []) := by
 unfold decSls at h
 split at h <;> try (cases h; done)
 split at h <;> try (cases h; done)
 rename_i hz
 obtain rfl := decL_inv decSlx_inv h
 exact ⟨_, rfl, zOk_map hz⟩
theorem decSls_enc {z : Z} {l : List (List Int)} (hz : z = .n → l = []) : decSls (.sl z (l.map slx)) = some l := by
 have h : zOk z (l.map slx) = true := by
  cases z with
  | n => rw [hz rfl]; rfl
  | a => rfl
  | f => rfl
 show (if zOk z (l.map slx) = true then decL decSlx (l.map slx) else none) = some l
 rw [if_pos h, decL_map (g := slx) decSlx_enc]
theorem plZ_n {l : List (List Int)} (h : plZ l = .n) : l = [] := by
 unfold plZ at h
 split at h
 ·rename_i hd
  exact List.length_eq_zero_iff.1 (of_decide_eq_true hd)
 ·cases h
theorem decSls_pls (l : List (List Int)) : decSls (.sl (plZ l) (l.map slx)) = some l := decSls_enc plZ_n
theorem ltB_slxs (m : Nat) (z : Z) (l : List (List Int)) : (PV.sl z (l.map slx)).ltB m = true := ltB_of_closed m _ (closedL_slx l)
def cfD1 : CallF := cfAdd cf0 29 c29s
theorem cfD1_ok : CallFOk Tryz.prog cfD1 := cfAdd_ok cf0_ok c29s_ok
theorem SameLists_100 (za zb : Z) (a b : List (List Int)) (ha : za = .n → a = []) (hb : zb = .n → b = []) (hs : a.length ≤ 100000) (hl : ∀ x ∈ a, x.length ≤ maxLen) : CallOk Tryz.prog 100 [.sl za (a.map slx), .sl zb (b.map slx)] [] (.ret (.bool (decide (a = b)))) [] := by
 refine CallOk.of0 hTT Tryz.func100 rfl rfl ?_
 by_cases hab : a.length = b.length
 ·repeat (with_reducible (first | apply nx | apply wQ rfl | ((first | apply wV | apply wW | apply wX | (apply wy cf0_ok; (focus kernel_rfl))); (focus (simp only [Tryz.f100, hab, List.length_map, go_sem]; rfl))) | refine wz cf0_ok ?_ | (refine wa ?_; refine And.intro ?_ ?_; (focus kernel_rfl))))
  refine RunQ.keep [5, 4, 0, 1] (by simp only [go_sem]; rfl) ?_
  refine RunQ.loop (fun i s' => decide (a = b) = decide (a.drop i = b.drop i) ∧ s' = ⟨[(5, ii (i : Nat)), (4, .bool false), (0, .sl za (a.map slx)), (1, .sl zb (b.map slx))], 27, []⟩) b.length ⟨rfl, by simp only [go_sem]⟩ ?_
  rintro i _ hi ⟨hm, rfl⟩
  by_cases hlt : i < b.length
  ·obtain ⟨x, hx⟩ : ∃ x, a[i]? = some x := ⟨_, List.getElem?_eq_getElem (by omega)⟩
   obtain ⟨y, hy⟩ : ∃ y, b[i]? = some y := ⟨_, List.getElem?_eq_getElem hlt⟩
   have hx' : (a.map slx)[i]? = some (.sl .a (x.map ii)) := map_get hx
   have hy' : (b.map slx)[i]? = some (.sl .a (y.map ii)) := map_get hy
   have hlt' : (i : Int) < b.length := by omega
   have hza : za ≠ .n := fun e => by rw [ha e] at hab; simp at hab; omega
   have hzb : zb ≠ .n := fun e => by rw [hb e] at hlt; simp at hlt
   have e4 : IntKind.i64.wrap ((i : Int) + 1) = ((i + 1 : Nat) : Int) := wrap_id (by omega) (by omega)
   have hxl := hl x (List.mem_of_getElem? hx)
   have hdx : decIs1 (.sl .a (x.map ii)) = some x := decIs1_enc rfl
   have hdy : decIs1 (.sl .a (y.map ii)) = some y := decIs1_enc rfl
   have hcx := closedL_is x
   have hcy := closedL_is y
   by_cases hxy : x = y
   ·have hde : decide (x = y) = true := decide_eq_true hxy
    repeat (with_reducible (first | apply nx | apply wQ rfl | ((first | apply wV | apply wW | apply wX | (apply wy cfD1_ok; (focus kernel_rfl))); (focus (simp only [Tryz.f100, cfD1, c29s, hab, hx', hy', hlt', hza, hzb, hdx, hdy, hxl, hcx, hcy, hde, e4, List.length_map, go_sem]; rfl))) | refine wz cfD1_ok ?_ | (refine wa ?_; refine And.intro ?_ ?_; (focus kernel_rfl))))
    refine roundQ.t 0 [5, 4, 0, 1] hlt (by simp only [ltB_sl, ltBL_slx, go_sem]) ⟨by rw [hm, decide_step hx hy, hde]; rfl, by simp only [go_sem]⟩
   ·have hde : decide (x = y) = false := decide_eq_false hxy
    repeat (with_reducible (first | apply nx | apply wQ rfl | ((first | apply wV | apply wW | apply wX | (apply wy cfD1_ok; (focus kernel_rfl))); (focus (simp only [Tryz.f100, cfD1, c29s, hab, hx', hy', hlt', hza, hzb, hdx, hdy, hxl, hcx, hcy, hde, e4, List.length_map, go_sem]; rfl))) | refine wz cfD1_ok ?_ | (refine wa ?_; refine And.intro ?_ ?_; (focus kernel_rfl))))
    refine ⟨rfl, rfl, _, rfl, ?_⟩
    rw [hm, decide_step hx hy, hde]; rfl
  ·have hlt' : ¬ (i : Int) < b.length := by omega
   repeat (with_reducible (first | apply nx | apply wQ rfl | ((first | apply wV | apply wW | apply wX | (apply wy cf0_ok; (focus kernel_rfl))); (focus (simp only [Tryz.f100, hab, hlt', List.length_map, go_sem]; rfl))) | refine wz cf0_ok ?_ | (refine wa ?_; refine And.intro ?_ ?_; (focus kernel_rfl))))
   refine ⟨rfl, rfl, _, rfl, ?_⟩
   rw [hm, List.drop_eq_nil_of_le (by omega), List.drop_eq_nil_of_le (by omega)]; rfl
 ·have hl' : ((a.length : Int) != (b.length : Int)) = true := bne_true (by omega)
  repeat (with_reducible (first | apply nx | apply wQ rfl | ((first | apply wV | apply wW | apply wX | (apply wy cf0_ok; (focus kernel_rfl))); (focus (simp only [Tryz.f100, hl', List.length_map, go_sem]; rfl))) | refine wz cf0_ok ?_ | (refine wa ?_; refine And.intro ?_ ?_; (focus kernel_rfl))))
  refine ⟨rfl, rfl, _, rfl, ?_⟩
  rw [decide_eq_false (fun e => hab (by rw [e]))]; rfl
def cSls : List PV → List Box → Option (PRes × List Box)
 | [v, w], sg => match decSls v, decSls w with
  | some a, some b => if a.length ≤ 100000 ∧ (a.all fun x => decide (x.length ≤ maxLen)) = true then some (.ret (.bool (decide (a = b))), sg) else none
  | _, _ => none
 | _, _ => none
theorem cSls100_ok : ConOk Tryz.prog 100 cSls := ConOk.of0 (ent Tryz.func100 rfl) fun args sg r sg' h => by
 unfold cSls at h
 split at h <;> try (cases h; done)
 split at h <;> try (cases h; done)
 rename_i h1 h2
 split at h <;> cases h
 rename_i hc
 obtain ⟨za, rfl, ha⟩ := decSls_inv h1
 obtain ⟨zb, rfl, hb⟩ := decSls_inv h2
 exact ⟨_, rfl, rfl, by rw [ltBL_cons, ltB_slxs, ltBL_cons, ltB_slxs]; rfl, SameLists_100 _ _ _ _ ha hb hc.1 fun x hx => of_decide_eq_true (List.all_eq_true.1 hc.2 x hx)⟩
def cfD2 : CallF := cfAdd cf0 100 cSls
theorem cfD2_ok : CallFOk Tryz.prog cfD2 := cfAdd_ok cf0_ok cSls100_ok
theorem SameLists_40 (za zb : Z) (a b : List (List Int)) (ha : za = .n → a = []) (hb : zb = .n → b = []) (hs : a.length ≤ 100000) (hl : (a.all fun x => decide (x.length ≤ maxLen)) = true) : CallOk Tryz.prog 40 [.sl za (a.map slx), .sl zb (b.map slx)] [] (.ret (.bool (decide (a = b)))) [] := by
 refine CallOk.of0 hTT Tryz.func40 rfl rfl ?_
 have h1 := decSls_enc ha
 have h2 := decSls_enc hb
 have h3 := closedL_slx a
 have h4 := closedL_slx b
 repeat (with_reducible (first | apply nx | apply wQ rfl | ((first | apply wV | apply wW | apply wX | (apply wy cfD2_ok; (focus kernel_rfl))); (focus (simp only [Tryz.f40, cfD2, cSls, h1, h2, h3, h4, hs, hl, go_sem]; rfl))) | refine wz cfD2_ok ?_ | (refine wa ?_; refine And.intro ?_ ?_; (focus kernel_rfl))))
 exact ⟨rfl, rfl, _, rfl, rfl⟩
theorem cSls40_ok : ConOk Tryz.prog 40 cSls := ConOk.of0 (ent Tryz.func40 rfl) fun args sg r sg' h => by
 unfold cSls at h
 split at h <;> try (cases h; done)
 split at h <;> try (cases h; done)
 rename_i h1 h2
 split at h <;> cases h
 rename_i hc
 obtain ⟨za, rfl, ha⟩ := decSls_inv h1
 obtain ⟨zb, rfl, hb⟩ := decSls_inv h2
 exact ⟨_, rfl, rfl, by rw [ltBL_cons, ltB_slxs, ltBL_cons, ltB_slxs]; rfl, SameLists_40 _ _ _ _ ha hb hc.1 hc.2⟩
theorem SameWords_32 (za zb : Z) (a b : List Int) (ha : za = .n → a = []) (hb : zb = .n → b = []) (hs : a.length ≤ 100000) : CallOk Tryz.prog 32 [.sl za (a.map ii), .sl zb (b.map ii)] [] (.ret (.bool (decide (a = b)))) [] := by
 refine CallOk.of0 hTT Tryz.func32 rfl rfl ?_
 by_cases hab : a.length = b.length
 ·repeat (with_reducible (first | apply nx | apply wQ rfl | ((first | apply wV | apply wW | apply wX | (apply wy cf0_ok; (focus kernel_rfl))); (focus (simp only [Tryz.f32, hab, List.length_map, go_sem]; rfl))) | refine wz cf0_ok ?_ | (refine wa ?_; refine And.intro ?_ ?_; (focus kernel_rfl))))
  refine RunQ.keep [5, 4, 0, 1] (by simp only [go_sem]; rfl) ?_
  refine RunQ.loop (fun i s' => decide (a = b) = decide (a.drop i = b.drop i) ∧ s' = ⟨[(5, ii (i : Nat)), (4, .bool false), (0, .sl za (a.map ii)), (1, .sl zb (b.map ii))], 26, []⟩) b.length ⟨rfl, by simp only [go_sem]⟩ ?_
  rintro i _ hi ⟨hm, rfl⟩
  by_cases hlt : i < b.length
  ·obtain ⟨x, hx⟩ : ∃ x, a[i]? = some x := ⟨_, List.getElem?_eq_getElem (by omega)⟩
   obtain ⟨y, hy⟩ : ∃ y, b[i]? = some y := ⟨_, List.getElem?_eq_getElem hlt⟩
   have hx' : (a.map ii)[i]? = some (ii x) := map_get hx
   have hy' : (b.map ii)[i]? = some (ii y) := map_get hy
   have hlt' : (i : Int) < b.length := by omega
   have hza : za ≠ .n := fun e => by rw [ha e] at hab; simp at hab; omega
   have hzb : zb ≠ .n := fun e => by rw [hb e] at hlt; simp at hlt
   have e4 : IntKind.i64.wrap ((i : Int) + 1) = ((i + 1 : Nat) : Int) := wrap_id (by omega) (by omega)
   by_cases hxy : x = y
   ·have hne : (x != y) = false := by simp [hxy]
    repeat (with_reducible (first | apply nx | apply wQ rfl | ((first | apply wV | apply wW | apply wX | (apply wy cf0_ok; (focus kernel_rfl))); (focus (simp only [Tryz.f32, hab, hx', hy', hlt', hza, hzb, hne, e4, List.length_map, go_sem]; rfl))) | refine wz cf0_ok ?_ | (refine wa ?_; refine And.intro ?_ ?_; (focus kernel_rfl))))
    refine roundQ.t 0 [5, 4, 0, 1] hlt (by simp only [ltB_is, ltB_sl, go_sem]) ⟨by rw [hm, decide_step hx hy, decide_eq_true hxy]; rfl, by simp only [go_sem]⟩
   ·have hne : (x != y) = true := by simp [hxy]
    repeat (with_reducible (first | apply nx | apply wQ rfl | ((first | apply wV | apply wW | apply wX | (apply wy cf0_ok; (focus kernel_rfl))); (focus (simp only [Tryz.f32, hab, hx', hy', hlt', hza, hzb, hne, e4, List.length_map, go_sem]; rfl))) | refine wz cf0_ok ?_ | (refine wa ?_; refine And.intro ?_ ?_; (focus kernel_rfl))))
    refine ⟨rfl, rfl, _, rfl, ?_⟩
    rw [hm, decide_step hx hy, decide_eq_false hxy]; rfl
  ·have hlt' : ¬ (i : Int) < b.length := by omega
   repeat (with_reducible (first | apply nx | apply wQ rfl | ((first | apply wV | apply wW | apply wX | (apply wy cf0_ok; (focus kernel_rfl))); (focus (simp only [Tryz.f32, hab, hlt', List.length_map, go_sem]; rfl))) | refine wz cf0_ok ?_ | (refine wa ?_; refine And.intro ?_ ?_; (focus kernel_rfl))))
   refine ⟨rfl, rfl, _, rfl, ?_⟩
   rw [hm, List.drop_eq_nil_of_le (by omega), List.drop_eq_nil_of_le (by omega)]; rfl
 ·have hl' : ((a.length : Int) != (b.length : Int)) = true := bne_true (by omega)
  repeat (with_reducible (first | apply nx | apply wQ rfl | ((first | apply wV | apply wW | apply wX | (apply wy cf0_ok; (focus kernel_rfl))); (focus (simp only [Tryz.f32, hl', List.length_map, go_sem]; rfl))) | refine wz cf0_ok ?_ | (refine wa ?_; refine And.intro ?_ ?_; (focus kernel_rfl))))
  refine ⟨rfl, rfl, _, rfl, ?_⟩
  rw [decide_eq_false (fun e => hab (by rw [e]))]; rfl
def cSw : List PV → List Box → Option (PRes × List Box)
 | [v, w], sg => match decIs1 v, decIs1 w with
  | some a, some b => if a.length ≤ 100000 then some (.ret (.bool (decide (a = b))), sg) else none
  | _, _ => none
 | _, _ => none
theorem c32_ok : ConOk Tryz.prog 32 cSw := ConOk.of0 (ent Tryz.func32 rfl) fun args sg r sg' h => by
 unfold cSw at h
 split at h <;> try (cases h; done)
 split at h <;> try (cases h; done)
 rename_i h1 h2
 split at h <;> cases h
 rename_i hc
 obtain ⟨za, rfl, ha⟩ := decIs1_inv h1
 obtain ⟨zb, rfl, hb⟩ := decIs1_inv h2
 exact ⟨_, rfl, rfl, by rw [ltBL_cons, ltB_isl, ltBL_cons, ltB_isl]; rfl, SameWords_32 _ _ _ _ ha hb hc⟩
theorem memL_step {l : List (List Int)} {i : Nat} {x n : List Int} (h : l[i]? = some x) : decide (n ∈ l.drop i) = (decide (x = n) || decide (n ∈ l.drop (i + 1))) := by
 rw [drop_get h, Bool.eq_iff_iff, Bool.or_eq_true, decide_eq_true_eq, decide_eq_true_eq, decide_eq_true_eq, List.mem_cons]
 exact ⟨Or.imp Eq.symm id, Or.imp Eq.symm id⟩
theorem listed_27 (z zx : Z) (l : List (List Int)) (n : List Int) (hz : z = .n → l = []) (hzx : zx = .n → n = []) (hl : l.length ≤ 100000) (hx : ∀ x ∈ l, x.length ≤ maxLen) : CallOk Tryz.prog 27 [.sl z (l.map slx), .sl zx (n.map ii)] [] (.ret (.bool (decide (n ∈ l)))) [] := by
 refine CallOk.of0 hTT Tryz.func27 rfl rfl ?_
 have hzo : zOk zx (n.map ii) = true := by
  cases zx with
  | n => rw [hzx rfl]; rfl
  | a => rfl
  | f => rfl
 have hdn : decIs1 (.sl zx (n.map ii)) = some n := decIs1_enc hzo
 have hcn := closedL_is n
 repeat (with_reducible (first | apply nx | apply wQ rfl | ((first | apply wV | apply wW | apply wX | (apply wy cf0_ok; (focus kernel_rfl))); (focus (simp only [Tryz.f27, go_sem]; rfl))) | refine wz cf0_ok ?_ | (refine wa ?_; refine And.intro ?_ ?_; (focus kernel_rfl))))
 refine RunQ.keep [5, 4, 0, 1] (by simp only [go_sem]; rfl) ?_
 refine RunQ.loop (fun i s' => decide (n ∈ l) = decide (n ∈ l.drop i) ∧ s' = ⟨[(5, ii (i : Nat)), (4, .bool false), (0, .sl z (l.map slx)), (1, .sl zx (n.map ii))], 18, []⟩) l.length ⟨rfl, by simp only [go_sem]⟩ ?_
 rintro i _ hi ⟨hm, rfl⟩
 by_cases hlt : i < l.length
 ·obtain ⟨x, hxi⟩ : ∃ x, l[i]? = some x := ⟨_, List.getElem?_eq_getElem hlt⟩
  have hx' : (l.map slx)[i]? = some (.sl .a (x.map ii)) := map_get hxi
  have hlt' : (i : Int) < l.length := by omega
  have hz' : z ≠ .n := fun e => by rw [hz e] at hlt; simp at hlt
  have e4 : IntKind.i64.wrap ((i : Int) + 1) = ((i + 1 : Nat) : Int) := wrap_id (by omega) (by omega)
  have hdx : decIs1 (.sl .a (x.map ii)) = some x := decIs1_enc rfl
  have hcx := closedL_is x
  have hxl := hx x (List.mem_of_getElem? hxi)
  rw [memL_step hxi] at hm
  by_cases hxn : x = n
  ·have hde : decide (x = n) = true := decide_eq_true hxn
   repeat (with_reducible (first | apply nx | apply wQ rfl | ((first | apply wV | apply wW | apply wX | (apply wy cfD1_ok; (focus kernel_rfl))); (focus (simp only [Tryz.f27, cfD1, c29s, hx', hlt', hz', e4, hdx, hdn, hcx, hcn, hxl, hde, List.length_map, go_sem]; rfl))) | refine wz cfD1_ok ?_ | (refine wa ?_; refine And.intro ?_ ?_; (focus kernel_rfl))))
   refine ⟨rfl, rfl, _, rfl, ?_⟩
   rw [hm, hde]; rfl
  ·have hde : decide (x = n) = false := decide_eq_false hxn
   repeat (with_reducible (first | apply nx | apply wQ rfl | ((first | apply wV | apply wW | apply wX | (apply wy cfD1_ok; (focus kernel_rfl))); (focus (simp only [Tryz.f27, cfD1, c29s, hx', hlt', hz', e4, hdx, hdn, hcx, hcn, hxl, hde, List.length_map, go_sem]; rfl))) | refine wz cfD1_ok ?_ | (refine wa ?_; refine And.intro ?_ ?_; (focus kernel_rfl))))
   refine roundQ.t 0 [5, 4, 0, 1] hlt (by simp only [ltBL_slx, ltB_is, ltB_sl, go_sem]) ⟨by rw [hm, hde]; rfl, by simp only [go_sem]⟩
 ·have hlt' : ¬ (i : Int) < l.length := by omega
  repeat (with_reducible (first | apply nx | apply wQ rfl | ((first | apply wV | apply wW | apply wX | (apply wy cf0_ok; (focus kernel_rfl))); (focus (simp only [Tryz.f27, hlt', List.length_map, go_sem]; rfl))) | refine wz cf0_ok ?_ | (refine wa ?_; refine And.intro ?_ ?_; (focus kernel_rfl))))
  refine ⟨rfl, rfl, _, rfl, ?_⟩
  rw [hm, List.drop_eq_nil_of_le (by omega)]; rfl
def c27 : List PV → List Box → Option (PRes × List Box)
 | [v, w], sg => match decSls v, decIs1 w with
  | some l, some n => if l.length ≤ 100000 ∧ (l.all fun x => decide (x.length ≤ maxLen)) = true then some (.ret (.bool (decide (n ∈ l))), sg) else none
  | _, _ => none
 | _, _ => none
theorem c27_ok : ConOk Tryz.prog 27 c27 := ConOk.of0 (ent Tryz.func27 rfl) fun args sg r sg' h => by
 unfold c27 at h
 split at h <;> try (cases h; done)
 split at h <;> try (cases h; done)
 rename_i h1 h2
 split at h <;> cases h
 rename_i hc
 obtain ⟨za, rfl, ha⟩ := decSls_inv h1
 obtain ⟨zb, rfl, hb⟩ := decIs1_inv h2
 exact ⟨_, rfl, rfl, by rw [ltBL_cons, ltB_slxs, ltBL_cons, ltB_isl]; rfl, listed_27 _ _ _ _ ha hb hc.1 fun x hx => of_decide_eq_true (List.all_eq_true.1 hc.2 x hx)⟩
theorem slim_30 (z : Z) (l : List Int) : CallOk Tryz.prog 30 [.sl z (l.map ii)] [] (.ret (.bool (decide (l.length ≤ 12)))) [] := by
 refine CallOk.of0 hTT Tryz.func30 rfl rfl ?_
 have hd : decide ((l.length : Int) ≤ 12) = decide (l.length ≤ 12) := by rw [decide_eq_decide]; omega
 repeat (with_reducible (first | apply nx | apply wQ rfl | ((first | apply wV | apply wW | apply wX | (apply wy cf0_ok; (focus kernel_rfl))); (focus (simp only [Tryz.f30, hd, List.length_map, go_sem]; rfl))) | refine wz cf0_ok ?_ | (refine wa ?_; refine And.intro ?_ ?_; (focus kernel_rfl))))
 exact ⟨rfl, rfl, _, rfl, rfl⟩
def c30 : List PV → List Box → Option (PRes × List Box)
 | [v], sg => match decIs1 v with
  | some l => some (.ret (.bool (decide (l.length ≤ 12))), sg)
  | none => none
 | _, _ => none
theorem c30_ok : ConOk Tryz.prog 30 c30 := ConOk.of0 (ent Tryz.func30 rfl) fun args sg r sg' h => by
 unfold c30 at h
 split at h <;> try (cases h; done)
 split at h <;> cases h
 rename_i h1
 obtain ⟨z, rfl, _⟩ := decIs1_inv h1
 exact ⟨_, rfl, rfl, by rw [ltBL_cons, ltB_isl]; rfl, slim_30 z _⟩
def shortB (s : Sty) : Bool := ((s.rz.take 13).all fun q => decide (q.2.to.length ≤ 6)) && decide (s.sc.length ≤ 10) && decide (s.rz.length ≤ 12)
theorem short_19 (s : Sty) (hok : s.ok = true) : CallOk Tryz.prog 19 [.agg s.cells] [] (.ret (.bool (shortB s))) [] := by
 refine CallOk.of0 hTT Tryz.func19 rfl rfl ?_
 have h1 := closedL_sns s.sc
 have h2 := closedL_rzs s.rz
 unfold shortB
 repeat (with_reducible (first | apply nx | apply wQ rfl | ((first | apply wV | apply wW | apply wX | (apply wy cf0_ok; (focus kernel_rfl))); (focus (simp only [Tryz.f19, go_sem]; rfl))) | refine wz cf0_ok ?_ | (refine wa ?_; refine And.intro ?_ ?_; (focus kernel_rfl))))
 refine RunQ.keep [3, 2, 1] (by simp only [go_sem]; rfl) ?_
 obtain ⟨T, hT⟩ : ∃ T, T = s.rz.take 13 := ⟨_, rfl⟩
 have hTl : T.length = min 13 s.rz.length := by rw [hT, List.length_take]
 rw [← hT]
 obtain ⟨p, hp⟩ : ∃ p : Rz → Bool, p = fun q => decide (q.2.to.length ≤ 6) := ⟨_, rfl⟩
 rw [← hp]
 refine RunQ.loop (fun i s' => T.all p = (T.drop i).all p ∧ s' = ⟨[(3, ii (i : Nat)), (2, .bool false), (1, .bp 0 0)], 33, [.var s.cells false]⟩) T.length ⟨rfl, by simp only [go_sem]⟩ ?_
 rintro i _ hi ⟨hm, rfl⟩
 by_cases hlt : i < T.length
 ·obtain ⟨q, hq⟩ : ∃ q, T[i]? = some q := ⟨_, List.getElem?_eq_getElem hlt⟩
  have hq0 : s.rz[i]? = some q := by rw [hT, List.getElem?_take_of_lt (by omega)] at hq; exact hq
  have hq' : (s.rz.map encRz)[i]? = some (.agg [ii q.2.frm, .sl q.1 (q.2.to.map ii)]) := map_get hq0
  have hlt1 : (i : Int) < s.rz.length := by omega
  have hlt2 : (i : Int) < 13 := by omega
  have hz' : s.zr ≠ .n := fun e => by have := zOk_map (Sty.ok_r hok) e; rw [this, List.length_nil] at hlt1; omega
  have e4 : IntKind.i64.wrap ((i : Int) + 1) = ((i + 1 : Nat) : Int) := wrap_id (by omega) (by omega)
  rw [all_step hq] at hm
  by_cases hql : q.2.to.length ≤ 6
  ·have hg : ¬ (6 : Int) < (q.2.to.length : Int) := by omega
   rw [show p q = true by rw [hp]; exact decide_eq_true hql, Bool.true_and] at hm
   repeat (with_reducible (first | apply nx | apply wQ rfl | ((first | apply wV | apply wW | apply wX | (apply wy cf0_ok; (focus kernel_rfl))); (focus (simp only [Tryz.f19, hq', hlt1, hlt2, hz', e4, hg, gt_iff_lt, List.length_map, go_sem]; rfl))) | refine wz cf0_ok ?_ | (refine wa ?_; refine And.intro ?_ ?_; (focus kernel_rfl))))
   refine roundQ.t 1 [3, 2, 1] hlt (by simp only [ltB_sns, ltB_rzs, ltB_sl, go_sem]) ⟨hm, by simp only [go_sem]⟩
  ·have hg : (6 : Int) < (q.2.to.length : Int) := by omega
   rw [show p q = false by rw [hp]; exact decide_eq_false hql, Bool.false_and] at hm
   repeat (with_reducible (first | apply nx | apply wQ rfl | ((first | apply wV | apply wW | apply wX | (apply wy cf0_ok; (focus kernel_rfl))); (focus (simp only [Tryz.f19, hq', hlt1, hlt2, hz', e4, hg, gt_iff_lt, List.length_map, go_sem]; rfl))) | refine wz cf0_ok ?_ | (refine wa ?_; refine And.intro ?_ ?_; (focus kernel_rfl))))
   exact ⟨rfl, rfl, _, rfl, by rw [hm]; rfl⟩
 ·rw [List.drop_eq_nil_of_le (by omega)] at hm
  have hd1 : decide ((s.sc.length : Int) ≤ 10) = decide (s.sc.length ≤ 10) := by rw [decide_eq_decide]; omega
  have hd2 : decide ((s.rz.length : Int) ≤ 12) = decide (s.rz.length ≤ 12) := by rw [decide_eq_decide]; omega
  have hx : (i : Int) < s.rz.length → ¬ (i : Int) < 13 := fun _ => by omega
  by_cases h1 : (i : Int) < s.rz.length
  ·have h2 := hx h1
   cases h3 : decide (s.sc.length ≤ 10)
   ·repeat (with_reducible (first | apply nx | apply wQ rfl | ((first | apply wV | apply wW | apply wX | (apply wy cf0_ok; (focus kernel_rfl))); (focus (simp only [Tryz.f19, h1, h2, hd1, hd2, h3, List.length_map, go_sem]; rfl))) | refine wz cf0_ok ?_ | (refine wa ?_; refine And.intro ?_ ?_; (focus kernel_rfl))))
    exact ⟨rfl, rfl, _, rfl, by rw [hm]; rfl⟩
   ·repeat (with_reducible (first | apply nx | apply wQ rfl | ((first | apply wV | apply wW | apply wX | (apply wy cf0_ok; (focus kernel_rfl))); (focus (simp only [Tryz.f19, h1, h2, hd1, hd2, h3, List.length_map, go_sem]; rfl))) | refine wz cf0_ok ?_ | (refine wa ?_; refine And.intro ?_ ?_; (focus kernel_rfl))))
    exact ⟨rfl, rfl, _, rfl, by rw [hm]; rfl⟩
  ·cases h3 : decide (s.sc.length ≤ 10)
   ·repeat (with_reducible (first | apply nx | apply wQ rfl | ((first | apply wV | apply wW | apply wX | (apply wy cf0_ok; (focus kernel_rfl))); (focus (simp only [Tryz.f19, h1, hd1, hd2, h3, List.length_map, go_sem]; rfl))) | refine wz cf0_ok ?_ | (refine wa ?_; refine And.intro ?_ ?_; (focus kernel_rfl))))
    exact ⟨rfl, rfl, _, rfl, by rw [hm]; rfl⟩
   ·repeat (with_reducible (first | apply nx | apply wQ rfl | ((first | apply wV | apply wW | apply wX | (apply wy cf0_ok; (focus kernel_rfl))); (focus (simp only [Tryz.f19, h1, hd1, hd2, h3, List.length_map, go_sem]; rfl))) | refine wz cf0_ok ?_ | (refine wa ?_; refine And.intro ?_ ?_; (focus kernel_rfl))))
    exact ⟨rfl, rfl, _, rfl, by rw [hm]; rfl⟩
def c19 : List PV → List Box → Option (PRes × List Box)
 | [v], sg => match decSt v with
  | some s => some (.ret (.bool (shortB s)), sg)
  | none => none
 | _, _ => none
theorem c19_ok : ConOk Tryz.prog 19 c19 := ConOk.of0 (ent Tryz.func19 rfl) fun args sg r sg' h => by
 unfold c19 at h
 split at h <;> try (cases h; done)
 split at h <;> cases h
 rename_i s h1
 obtain ⟨rfl, hok⟩ := decSt_inv h1
 exact ⟨_, rfl, rfl, by rw [ltBL_cons, ltB_st]; rfl, short_19 s hok⟩
end Go.Pv
namespace Go.Pv
open Go Go.RowKit Go.Proofs
set_option maxRecDepth 200000
set_option maxHeartbeats 8000000
theorem ddR_nil (L : List (List Nat × List Int)) : L.map (ddR []) = L.map ddV := rfl
theorem done_all (s : Sty) (hok : s.ok = true) (hP : PartsOk s.e s.sc s.rl) : ∀ f, DoneP s f
 | 0 => fun zf zr form R _ _ _ _ _ hwt => absurd hwt (Nat.not_lt_zero _)
 | f + 1 => done_step s hok hP f (done_all s hok hP f)
def cfF1 : CallF := cfAdd cf0 80 c80
theorem cfF1_ok : CallFOk Tryz.prog cfF1 := cfAdd_ok cf0_ok c80_ok
theorem All_93 (s : Sty) (hok : s.ok = true) (hst : s.story = true) : CallOk Tryz.prog 93 [.agg s.cells] [] (.ret (ofV (ders s.e s.sc s.rl))) [] := by
 refine CallOk.ofF hTT Tryz.func93 rfl rfl ?_
 have hS := Sty.story_ok hst
 have hP := hS.toPartsOk
 have hd := decSt_cells s hok
 have h1 := closedL_sns s.sc
 have h2 := closedL_rzs s.rz
 have h3 := closedL_is s.rm
 have h4 := closedL_is s.rn
 have hpp := Sty.story_parts hst
 have he1 := hP.e1
 have he6 := hP.e6
 have hf0 : firstE s.e [0] = some 0 := by rw [firstE, if_pos (by omega)]
 have hw : wtF s.e [0] + 1 ≤ 20000 := by
  have : wtF s.e [0] = 5 ^ (s.e - 0).toNat := by unfold wtF wtM; simp
  have h5 : 5 ^ (s.e - 0).toNat ≤ 5 ^ 6 := Nat.pow_le_pow_right (by omega) (by omega)
  have h6 : (5 : Nat) ^ 6 = 15625 := by decide
  omega
 have h40 := ders_len hS
 have hdn := done_all s hok hP (wtF s.e [0] + 1) .f .n [0] [] (by decide) (fun _ => rfl) (fun h => by rw [hf0] at h; cases h) (by simp) (fun x hx => by simp at hx; subst hx; omega) (Nat.lt_succ_self _) (by simp; omega) h40
 have hg : derG s.e (okSt s) s.rl (wtF s.e [0] + 1) [0] = ders s.e s.sc s.rl := rfl
 rw [hg] at hdn
 have hdz : dzV s.e [0] (ders s.e s.sc s.rl).length = if decide ((ders s.e s.sc s.rl).length = 0) = true then .n else .a := by unfold dzV; rw [hf0]
 rw [hdz, ddR_nil] at hdn
 obtain ⟨p, l, q1, q2, q3⟩ := rab_first s hP
 have hrm : s.rm.map ii = ii p.1 :: (l.map fun p => (p.1 : Int)).map ii := by unfold Sty.rm; rw [q1]; rfl
 have hln : (ders s.e s.sc s.rl).length = (manyM s.e s.num s.rl 0).1 := by
  have := der_len hP.tab hP.rlok hP.rlin (wtF s.e [0] + 1) [0] hP.zero (Nat.lt_succ_self _)
  have e : prodM (manyM s.e (s.e.toNat + s.sc.length) s.rl) [0] = (manyM s.e s.num s.rl 0).1 := Nat.mul_one _
  rw [e] at this
  exact this
 have ez : (Z.a = Z.n) = False := by simp
 have hltb : ltBL 0 [PV.agg s.cells, .sl .a (s.rm.map ii), .sl .f [ii 0], .sl .n []] = true := ltBL_of_closed 0 _ (by simp [closedL, PV.closed, h1, h2, h3])
 unfold ofV
 by_cases h0 : p.1 = 0
 ·have b0 : ((p.1 : Int) == 0) = true := by rw [h0]; rfl
  have hl0 : ders s.e s.sc s.rl = [] := List.length_eq_zero_iff.1 (by rw [hln]; omega)
  rw [hl0]
  rw [hrm] at h3
  repeat (with_reducible (first | apply nx | apply wQ rfl | ((first | apply wV | apply wW | apply wX | (apply wy cfF1_ok; (focus kernel_rfl))); (focus (simp only [Tryz.f93, cfF1, c80, hd, hpp, h1, h2, h3, h4, hrm, ez, b0, go_sem]; rfl))) | refine wz cfF1_ok ?_ | (refine wa ?_; refine And.intro ?_ ?_; (focus kernel_rfl))))
  exact ⟨rfl, rfl, _, rfl, leave_closed rfl⟩
 ·have b0 : ((p.1 : Int) == 0) = false := by rw [beq_eq_false_iff_ne]; omega
  have h5 := closedL_dds (ders s.e s.sc s.rl)
  generalize ders s.e s.sc s.rl = D at hdn h5 ⊢
  generalize (if decide (D.length = 0) = true then Z.n else Z.a) = zz at hdn ⊢
  have hrm' : (s.rm.map ii)[0]? = some (ii p.1) := by rw [hrm]; rfl
  have hdn : CallOk Tryz.prog 155 [.agg s.cells, .sl .a (s.rm.map ii), .sl .f [ii 0], .sl .n []] [] (.ret (.sl zz (D.map ddV))) [] := hdn
  have hrl : (0 : Int) < (s.rm.length : Int) := by rw [s.rm_len]; unfold Sty.num; omega
  repeat (with_reducible (first | apply nx | apply wQ rfl | ((first | apply wV | apply wW | apply wX | (apply wy (cfAt_ok cfF1_ok (ent Tryz.func155 rfl) hdn hltb); (focus kernel_rfl))); (focus (simp only [Tryz.f93, cfAt, cfF1, c80, hd, hpp, h1, h2, h3, h4, hrm', hrl, ez, b0, List.length_map, go_sem]; rfl))) | refine wz (cfAt_ok cfF1_ok (ent Tryz.func155 rfl) hdn hltb) ?_ | (refine wa ?_; refine And.intro ?_ ?_; (focus kernel_rfl))))
  exact ⟨rfl, rfl, _, rfl, leave_closed (show closedL _ = true from h5)⟩
def c93 : List PV → List Box → Option (PRes × List Box)
 | [v], sg => match decSt v with
  | some s => if s.story = true then some (.ret (ofV (ders s.e s.sc s.rl)), sg) else none
  | none => none
 | _, _ => none
theorem c93_ok : ConOk Tryz.prog 93 c93 := ConOk.of0 (ent Tryz.func93 rfl) fun args sg r sg' h => by
 unfold c93 at h
 split at h <;> try (cases h; done)
 split at h <;> try (cases h; done)
 rename_i s h1
 split at h <;> cases h
 rename_i hst
 obtain ⟨rfl, hok⟩ := decSt_inv h1
 exact ⟨_, rfl, rfl, by rw [ltBL_cons, ltB_st]; rfl, All_93 s hok hst⟩
def ofZ (L : List (List Nat × List Int)) : Z := if decide (L.length = 0) = true then .n else .a
theorem ofV_def (L : List (List Nat × List Int)) : ofV L = .sl (ofZ L) (L.map ddV) := rfl
theorem ofZ_n {L : List (List Nat × List Int)} (h : L ≠ []) : ofZ L ≠ .n := fun e => by
 unfold ofZ at e
 split at e
 ·rename_i hd; exact h (List.length_eq_zero_iff.1 (of_decide_eq_true hd))
 ·cases e
def cfF2 : CallF := cfAdd (cfAdd (cfAdd cf0 93 c93) 29 c29s) 28 c28
theorem cfF2_ok : CallFOk Tryz.prog cfF2 := cfAdd_ok (cfAdd_ok (cfAdd_ok cf0_ok c93_ok) c29s_ok) c28_ok
theorem ltBL_dds (m : Nat) (L : List (List Nat × List Int)) : ltBL m (L.map ddV) = true := ltBL_of_closed m _ (closedL_dds L)
theorem of_take {T : List (List Nat × List Int)} {p : List Int} {i : Nat} {d : List Nat × List Int} (h : T[i]? = some d) : (ofB (T.take (i + 1)) p).length = (ofB (T.take i) p).length + if d.2 = p then 1 else 0 := by
 rw [ofB_take h, List.length_append]
 split <;> rfl
theorem RWays_35 (s : Sty) (hok : s.ok = true) (hst : s.story = true) (z : Z) (p : List Int) (hz : zOk z (p.map ii) = true) (hp : p.length ≤ 100000) : CallOk Tryz.prog 35 [.agg s.cells, .sl z (p.map ii)] [] (.ret (ii ((ofB (ders s.e s.sc s.rl) p).length : Nat))) [] := by
 refine CallOk.of0 hTT Tryz.func35 rfl rfl ?_
 have hS := Sty.story_ok hst
 have hd := decSt_cells s hok
 have h1 := closedL_sns s.sc
 have h2 := closedL_rzs s.rz
 have hdp : decIs1 (.sl z (p.map ii)) = some p := decIs1_enc hz
 have hcp := closedL_is p
 have h5 := closedL_dds (ders s.e s.sc s.rl)
 have h40 := ders_len hS
 have hpl := ders_play hS
 repeat (with_reducible (first | apply nx | apply wQ rfl | ((first | apply wV | apply wW | apply wX | (apply wy cfF2_ok; (focus kernel_rfl))); (focus (simp only [Tryz.f35, cfF2, c93, ofV_def, hd, hst, h1, h2, h5, go_sem]; rfl))) | refine wz cfF2_ok ?_ | (refine wa ?_; refine And.intro ?_ ?_; (focus kernel_rfl))))
 generalize ders s.e s.sc s.rl = D at *
 have hzn := ofZ_n (L := D)
 generalize ofZ D = zz at hzn ⊢
 refine RunQ.keep [7, 6, 5, 1] (by simp only [go_sem]; rfl) ?_
 refine RunQ.loop (fun i s' => s' = ⟨[(7, ii (i : Nat)), (6, ii ((ofB (D.take i) p).length : Nat)), (5, .sl zz (D.map ddV)), (1, .sl z (p.map ii))], 26, [.var s.cells false]⟩) D.length (by simp only [go_sem]; rfl) ?_
 rintro i _ hi rfl
 by_cases hlt : i < D.length
 ·obtain ⟨d, hdi⟩ : ∃ d, D[i]? = some d := ⟨_, List.getElem?_eq_getElem hlt⟩
  have hd' : (D.map ddV)[i]? = some (.agg [.sl .a ((intsN d.1).map ii), .sl .a (d.2.map ii)]) := map_get hdi
  have hlt' : (i : Int) < D.length := by omega
  have hzd := hzn (fun e => by rw [e] at hlt; simp at hlt)
  have e4 : IntKind.i64.wrap ((i : Int) + 1) = ((i + 1 : Nat) : Int) := wrap_id (by omega) (by omega)
  have hdd : decIs1 (.sl .a (d.2.map ii)) = some d.2 := decIs1_enc rfl
  have hcd := closedL_is d.2
  have hdl := (hpl d (List.mem_of_getElem? hdi)).1
  have hdm : d.2.length ≤ maxLen := by unfold maxLen; omega
  have hot := of_take (p := p) hdi
  have hol := ofB_le (D.take i) p
  rw [List.length_take] at hol
  have e5 : IntKind.i64.wrap (((ofB (D.take i) p).length : Int) + 1) = (((ofB (D.take i) p).length + 1 : Nat) : Int) := wrap_id (by omega) (by omega)
  by_cases hdp2 : d.2 = p
  ·have hde : decide (d.2 = p) = true := decide_eq_true hdp2
   rw [if_pos hdp2] at hot
   repeat (with_reducible (first | apply nx | apply wQ rfl | ((first | apply wV | apply wW | apply wX | (apply wy cfF2_ok; (focus kernel_rfl))); (focus (simp only [Tryz.f35, cfF2, c29s, hd', hlt', hzd, hdd, hdp, hcd, hcp, hdm, hde, e4, e5, List.length_map, go_sem]; rfl))) | refine wz cfF2_ok ?_ | (refine wa ?_; refine And.intro ?_ ?_; (focus kernel_rfl))))
   refine roundQ.t 1 [7, 6, 5, 1] hlt (by simp only [ltB_sns, ltB_rzs, ltB_is, ltB_sl, ltBL_dds, go_sem]) (by rw [hot]; simp only [go_sem])
  ·have hde : decide (d.2 = p) = false := decide_eq_false hdp2
   rw [if_neg hdp2] at hot
   repeat (with_reducible (first | apply nx | apply wQ rfl | ((first | apply wV | apply wW | apply wX | (apply wy cfF2_ok; (focus kernel_rfl))); (focus (simp only [Tryz.f35, cfF2, c29s, hd', hlt', hzd, hdd, hdp, hcd, hcp, hdm, hde, e4, List.length_map, go_sem]; rfl))) | refine wz cfF2_ok ?_ | (refine wa ?_; refine And.intro ?_ ?_; (focus kernel_rfl))))
   refine roundQ.t 1 [7, 6, 5, 1] hlt (by simp only [ltB_sns, ltB_rzs, ltB_is, ltB_sl, ltBL_dds, go_sem]) (by rw [hot]; simp only [go_sem])
 ·have hlt' : ¬ (i : Int) < D.length := by omega
  obtain rfl : i = D.length := by omega
  rw [List.take_length]
  repeat (with_reducible (first | apply nx | apply wQ rfl | ((first | apply wV | apply wW | apply wX | (apply wy cf0_ok; (focus kernel_rfl))); (focus (simp only [Tryz.f35, hlt', List.length_map, go_sem]; rfl))) | refine wz cf0_ok ?_ | (refine wa ?_; refine And.intro ?_ ?_; (focus kernel_rfl))))
  exact ⟨rfl, rfl, _, rfl, rfl⟩
end Go.Pv
