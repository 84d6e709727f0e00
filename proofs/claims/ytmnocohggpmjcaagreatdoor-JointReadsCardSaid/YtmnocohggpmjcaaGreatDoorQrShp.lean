/- The rows of this seat: shapes of arguments; the contract of known(); witnesses. -/
import Derived.Test.YtmnocohggpmjcaaGreatDoorQeRow
import Derived.Test.YtmnocohggpmjcaaGreatDoorKnG
import Derived.Test.YtmnocohggpmjcaaGreatDoorQgEnds
set_option linter.all false
namespace Go.Pv
open Go Go.RowKit Go.Proofs
set_option maxRecDepth 100000
theorem known_con : ConOk Tryz.prog 29 c29 := ConOk.of0 known_29.1 fun args sg r sg' h => by
  unfold c29 at h
  split at h <;> cases h
  exact ⟨_, rfl, rfl, rfl, known_29.2⟩
theorem shpA_cons {x : TS × Bool} {r : List (TS × Bool)} {l : List PV} (h : shpA (x :: r) l) : ∃ v q, l = v :: q ∧ (x.1.shp v.cells ∧ v.ag = x.2) ∧ shpA r q := by
  cases l with
  | nil => exact h.elim
  | cons v q => exact ⟨v, q, rfl, h.1, h.2⟩
theorem shpA_nil {l : List PV} (h : shpA [] l) : l = [] := by
  cases l with
  | nil => rfl
  | cons v q => exact h.elim
def intTS : TS := .int .i64
def lbTS : TS := .st [intTS, intTS, intTS, intTS, intTS]
def figTS : TS := .st [intTS, .sl lbTS true]
theorem shp_int {cs : List PV} (h : intTS.shp cs) : ∃ n, cs = [ii n] := by
  obtain ⟨n, rfl, _⟩ := (show ∃ n, cs = [.int .i64 n] ∧ _ from h)
  exact ⟨n, rfl⟩
theorem int_of {v : PV} (h : intTS.shp v.cells ∧ v.ag = false) : ∃ n, v = ii n := by
  obtain ⟨n, hn⟩ := shp_int h.1
  refine ⟨n, ?_⟩
  cases v <;> first | (cases h.2; done) | (simp only [PV.cells, List.cons.injEq, and_true] at hn; exact hn)
theorem one_of {v c : PV} (h : v.cells = [c]) (ha : v.ag = false) : v = c := by
  cases v <;> first | (cases ha; done) | (simp only [PV.cells, List.cons.injEq, and_true] at h; exact h)
theorem agg_of {v : PV} {cs : List PV} (h : v.cells = cs) (ha : v.ag = true) : v = .agg cs := by
  cases v <;> first | (cases ha; done) | (simp only [PV.cells] at h; rw [h])
theorem map_of {α : Type} {g : α → PV} : ∀ {es : List PV}, (∀ x ∈ es, ∃ y, x = g y) → ∃ l : List α, es = l.map g
  | [], _ => ⟨[], rfl⟩
  | x :: es, h => by
    obtain ⟨y, hy⟩ := h x (List.mem_cons_self ..)
    obtain ⟨l, hl⟩ := map_of (es := es) fun z hz => h z (List.mem_cons_of_mem _ hz)
    exact ⟨y :: l, by rw [hy, hl]; rfl⟩
theorem lb_of {v : PV} (h : lbTS.shp v.cells ∧ v.ag = true) : ∃ x, v = encLb x := by
  obtain ⟨a, r1, e1, ha, hr1⟩ := (show ∃ a b, v.cells = a ++ b ∧ intTS.shp a ∧ shpL [intTS, intTS, intTS, intTS] b from h.1)
  obtain ⟨b, r2, e2, hb, hr2⟩ := (show ∃ a b, r1 = a ++ b ∧ intTS.shp a ∧ shpL [intTS, intTS, intTS] b from hr1)
  obtain ⟨c, r3, e3, hc, hr3⟩ := (show ∃ a b, r2 = a ++ b ∧ intTS.shp a ∧ shpL [intTS, intTS] b from hr2)
  obtain ⟨d, r4, e4, hd, hr4⟩ := (show ∃ a b, r3 = a ++ b ∧ intTS.shp a ∧ shpL [intTS] b from hr3)
  obtain ⟨e, r5, e5, he, hr5⟩ := (show ∃ a b, r4 = a ++ b ∧ intTS.shp a ∧ shpL [] b from hr4)
  obtain rfl : r5 = [] := hr5
  obtain ⟨x1, rfl⟩ := shp_int ha
  obtain ⟨x2, rfl⟩ := shp_int hb
  obtain ⟨x3, rfl⟩ := shp_int hc
  obtain ⟨x4, rfl⟩ := shp_int hd
  obtain ⟨x5, rfl⟩ := shp_int he
  subst e5; subst e4; subst e3; subst e2
  exact ⟨⟨x1, x2, x3, x4, x5⟩, agg_of e1 h.2⟩
theorem fig_of {v : PV} (h : figTS.shp v.cells ∧ v.ag = true) : ∃ (s : Int) (z : Z) (ls : List Lb), v = .agg [ii s, .sl z (ls.map encLb)] ∧ zOk z (ls.map encLb) = true := by
  obtain ⟨a, r1, e1, ha, hr1⟩ := (show ∃ a b, v.cells = a ++ b ∧ intTS.shp a ∧ shpL [.sl lbTS true] b from h.1)
  obtain ⟨b, r2, e2, hb, hr2⟩ := (show ∃ a b, r1 = a ++ b ∧ (TS.sl lbTS true).shp a ∧ shpL [] b from hr1)
  obtain rfl : r2 = [] := hr2
  obtain ⟨s, rfl⟩ := shp_int ha
  obtain ⟨z, es, rfl, hz, _, _, hel⟩ := (show ∃ z es, b = [.sl z es] ∧ (z = .n → es = []) ∧ z ≠ .f ∧ es.length ≤ maxLen ∧ ∀ x ∈ es, lbTS.shp x.cells ∧ x.ag = true from hb)
  obtain ⟨l, rfl⟩ := map_of (g := encLb) fun x hx => lb_of (hel x hx)
  subst e2
  refine ⟨s, z, l, agg_of e1 h.2, ?_⟩
  cases z
  · have := hz rfl
    rw [this]; rfl
  · rfl
  · rfl
end Go.Pv
