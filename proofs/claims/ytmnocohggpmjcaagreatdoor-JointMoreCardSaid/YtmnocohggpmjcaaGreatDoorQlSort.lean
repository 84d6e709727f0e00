/- The pure-value layer, part 45: the library's SortFunc at a row of one's own of pairs of numbers: a contract, out of a contract of the function that compares. -/
import Derived.Shelf.SlSortCmp.NoneTotal
import Derived.Test.YtmnocohggpmjcaaGreatDoorQlMono
import Derived.Test.YtmnocohggpmjcaaGreatDoorQcEval
set_option linter.all false
namespace Go.Pv
open Go Go.RowKit Go.Proofs Go.Shelf Go.Sort
/-- A pair of numbers of 64 bits. -/
structure PP where
  x : Int
  y : Int
  hx : (Lit.int .i64 x).wf = true
  hy : (Lit.int .i64 y).wf = true
instance : Inhabited PP := ⟨⟨0, 0, rfl, rfl⟩⟩
def PP.pv (p : PP) : PV := .agg [.int .i64 p.x, .int .i64 p.y]
def PP.vs (p : PP) : List Value := [.int .i64 p.x, .int .i64 p.y]
theorem PP.ext {a b : PP} (h1 : a.x = b.x) (h2 : a.y = b.y) : a = b := by
  cases a; cases b; cases h1; cases h2; rfl
theorem PP.rep (G : Gh) (p : PP) : Rep G p.pv (.agg p.vs.toArray) := by
  refine .agg rfl (fun c hc => ?_) fun j c u hc hu => ?_
  · simp only [List.mem_cons, List.not_mem_nil, or_false] at hc
    rcases hc with rfl | rfl <;> rfl
  · match j with
    | 0 => cases hc; cases hu; exact .int p.hx
    | 1 => cases hc; cases hu; exact .int p.hy
    | j + 2 => cases hc
theorem grow_of_below {W w' : World} (hb : Below W.heap.size W w') (hd : W.drawn ≤ w'.drawn) : ∃ q os', w' = grow (W.drewN q) os' := by
  refine ⟨w'.drawn - W.drawn, w'.heap.extract W.heap.size w'.heap.size, ?_⟩
  have hheap : w'.heap = W.heap ++ w'.heap.extract W.heap.size w'.heap.size := by
    apply Array.ext_getElem?
    intro i
    by_cases hi : i < W.heap.size
    · rw [Array.getElem?_append_left hi]; exact hb.block i hi
    · rw [Array.getElem?_append_right (by omega), Array.getElem?_extract]
      by_cases h2 : i < w'.heap.size
      · rw [if_pos (by omega)]
        congr 1; omega
      · rw [if_neg (by omega), Array.getElem?_eq_none (by omega)]
  have e1 := hb.os
  have e2 := hb.tape
  have e3 := hb.output
  cases w'
  cases W
  simp only at hheap hd e1 e2 e3
  subst e1; subst e2; subst e3
  simp only [grow, World.drewN, World.mk.injEq, and_true, true_and]
  exact ⟨hheap, by omega⟩
variable {P : Program}
theorem cmp_lays {g : Nat} {cf : PP → PP → Int} (hc : ∀ a b, CallOk P g [a.pv, b.pv] [] (.ret (.int .i64 (cf a b))) []) (W : World) (hT : TabOk W) (a b : PP) :
    Calls P g (#[.agg a.vs.toArray, .agg b.vs.toArray] ++ #[]) W fun e w' => e = .returned (.int .i64 (cf a b)) ∧ ∃ q os', w' = grow (W.drewN q) os' := by
  have hL : RepL (Gh.init W) [a.pv, b.pv] (#[.agg a.vs.toArray, .agg b.vs.toArray] ++ #[]) := by
    refine ⟨rfl, fun j c u hc hu => ?_⟩
    match j with
    | 0 => cases hc; cases hu; exact a.rep _
    | 1 => cases hc; cases hu; exact b.rep _
    | j + 2 => cases hc
  have h := Calls.drawn (callsIn_wide.1 ((hc a b).2 0 (Gh.init W) W _ (Rel.init W hT) hL))
  refine h.mono ?_
  rintro e w' ⟨⟨G', hR, hl, hd, hv⟩, hdr⟩
  cases e with
  | returned u =>
    cases hv
    have hw0 : G'.w0 = W := hl.w0
    have hb := hR.below
    rw [hw0] at hb
    rcases hdr with e | hdr
    · cases e
    · exact ⟨rfl, grow_of_below hb hdr⟩
  | panicked ch => exact hv.elim
  | outgrown => exact hv.elim
theorem args2 {G : Gh} {x y : PV} {us : Array Value} (h : RepL G [x, y] us) : ∃ u v, us = #[u, v] ∧ Rep G x u ∧ Rep G y v := by
  obtain ⟨h1, h2⟩ := h
  obtain ⟨l⟩ := us
  match l, h1 with
  | [u, v], _ => exact ⟨u, v, rfl, h2 0 x u rfl rfl, h2 1 y v rfl rfl⟩
theorem flat_pp (l : List PP) : flat (l.map PP.pv) = l.flatMap fun p => [.int .i64 p.x, .int .i64 p.y] := by
  induction l with
  | nil => rfl
  | cons p l ih => rw [List.map_cons, flat_cons, ih]; rfl
theorem flat_vs {G : Gh} : ∀ (l : List PP) (us : List Value), us.length = l.length * 2 → (∀ (j : Nat) (c : PV) (u : Value), (flat (l.map PP.pv))[j]? = some c → us[j]? = some u → Rep G c u) → us = l.flatMap PP.vs
  | [], us, hl, _ => by simpa using hl
  | p :: l, [], hl, _ => by simp at hl
  | p :: l, [u], hl, _ => by simp at hl; omega
  | p :: l, u :: v :: us, hl, h => by
    have h0 := h 0 _ u rfl rfl
    have h1 := h 1 _ v rfl rfl
    cases h0
    cases h1
    rw [List.flatMap_cons, flat_vs l us (by simp at hl; omega) fun j c x hc hx => h (j + 2) c x (by rw [List.map_cons, flat_cons]; exact hc) hx]
    rfl
theorem vs_get (l : List PP) (i : Nat) : i < l.length * 2 → (l.flatMap PP.vs)[i]? = some ((l.toArray[i / 2]!).vs[i % 2]!) := by
  induction l generalizing i with
  | nil => intro h; simp at h
  | cons p l ih =>
    intro h
    match i with
    | 0 => rfl
    | 1 => rfl
    | i + 2 =>
      have := ih i (by simp at h; omega)
      rw [List.flatMap_cons]
      show (l.flatMap PP.vs)[i]? = _
      rw [this]
      have e1 : (i + 2) / 2 = i / 2 + 1 := by omega
      have e2 : (i + 2) % 2 = i % 2 := by omega
      rw [e1, e2]
      congr 2
      simp
theorem vs_len (l : List PP) : (l.flatMap PP.vs).length = l.length * 2 := by
  induction l with
  | nil => rfl
  | cons p l ih => rw [List.flatMap_cons, List.length_append, ih]; simp [PP.vs]; omega
theorem pl_len (l : List PP) : (l.flatMap fun p => [PV.int .i64 p.x, .int .i64 p.y]).length = l.length * 2 := by
  induction l with
  | nil => rfl
  | cons p l ih => rw [List.flatMap_cons, List.length_append, ih]; simp; omega
theorem rep_vs {G : Gh} : ∀ (l : List PP) (j : Nat) (c : PV) (u : Value), (l.flatMap fun p => [PV.int .i64 p.x, .int .i64 p.y])[j]? = some c → (l.flatMap PP.vs)[j]? = some u → Rep G c u
  | [], j, c, u, hc, _ => by cases hc
  | p :: l, 0, c, u, hc, hu => by cases hc; cases hu; exact .int p.hx
  | p :: l, 1, c, u, hc, hu => by cases hc; cases hu; exact .int p.hy
  | p :: l, j + 2, c, u, hc, hu => rep_vs l j c u hc hu
theorem flatK_list (l : List PP) : (flatK PP.vs 2 l.toArray).toList = l.flatMap PP.vs := by
  apply List.ext_getElem?
  intro i
  by_cases h : i < l.length * 2
  · rw [vs_get l i h]
    have := get_flatK PP.vs 2 l.toArray i (by simpa using h)
    rw [← this]
    have hs : i < (flatK PP.vs 2 l.toArray).size := by rw [size_flatK]; simpa using h
    rw [getElem!_pos _ i hs]
    simp [hs]
  · have h1 := size_flatK PP.vs 2 l.toArray
    have h2 : l.toArray.size = l.length := by simp
    rw [List.getElem?_eq_none (by rw [Array.length_toList, h1, h2]; omega), List.getElem?_eq_none (by rw [vs_len]; omega)]
theorem set_self {α : Type} {l : List α} {i : Nat} {x : α} (h : l[i]? = some x) : l.set i x = l := by
  apply List.ext_getElem?
  intro j
  by_cases hj : i = j
  · subst hj
    rw [List.getElem?_set_self (List.getElem?_eq_some_iff.1 h).1, h]
  · rw [List.getElem?_set_ne hj]
set_option maxHeartbeats 2000000 in
/-- SortFunc at a row of one's own. -/
theorem CallOk.sortFunc {ρ : Ren} (L : SlLaysF0.n6 P ρ) (aE : ∀ w, (isAgg (ρ.t 24)).run P w = .ok true w) (zE : ∀ w, (Go.sizeOf (ρ.t 24)).run P w = .ok 2 w) {g : Nat} (eg : ∀ args w, (callFunc g args).run P w = .ok (.enter g args) w)
    {cf : PP → PP → Int} (hO : SWO (ltOf cf)) (hT : ∀ x y, ltOf cf x y = false → ltOf cf y x = false → x = y) (hc : ∀ a b, CallOk P g [a.pv, b.pv] [] (.ret (.int .i64 (cf a b))) [])
    {sg : List Box} {bi : Nat} {z : Bool} {e : TypeId} {l : List PP} (hb : sg[bi]? = some (.row z e 2 (l.map PP.pv) false)) {n : Nat} (hn : n = l.length) (hlen : l.length < 4611686018427387904) :
    CallOk P (ρ.f 6) [.ms bi n, .fn (.func g) [] []] sg (.ret (.tuple [])) (sg.set bi (.row z e 2 ((l.mergeSort fun x y => !(ltOf cf) y x).map PP.pv) false)) := by
  subst hn
  refine ⟨by simp, fun m G w us hR hL => ?_⟩
  obtain ⟨u, v, rfl, hu, hv⟩ := args2 hL
  cases hv with
  | fn hf h1 h2 =>
  rename_i us vs _ _
  obtain rfl : us = #[] := Array.eq_empty_of_size_eq_zero h1
  obtain rfl : vs = #[] := Array.eq_empty_of_size_eq_zero h2
  cases hu with
  | ms hs hle ho huv =>
  rename_i m' k v
  have box := hR.box bi _ _ hs hb
  obtain ⟨rfl, hml, hz, hk, h1', ⟨us, hown, hLs⟩, hS⟩ := box
  rw [List.length_map] at hml
  subst hml
  obtain rfl := huv rfl
  have hnone : ∀ (A : Option Addr) (c : Nat), l = [] → CallsIn Fence.wide m P (ρ.f 6) #[.slice A 0 c, .func (.func g) #[] #[]] w fun e' w' => ∃ G', Rel G' (sg.set bi (.row z e 2 ((l.mergeSort fun x y => !(ltOf cf) y x).map PP.pv) false)) w' ∧ Gh.leM sg.length G G' ∧ G'.dfr = G.dfr ∧ match PRes.ret (.tuple []), e' with
      | .ret v, .returned u => Rep G' v u
      | .pan v, .panicked ch => ∃ u, ch = [{ v := u, recovered := false }] ∧ Rep G' v u
      | _, _ => False := by
    intro A c hl
    subst hl
    refine CallsIn.mono (callsIn_wide.2 (AnyF.slices_SortFunc_none L A c _ w)) ?_
    rintro e' w' ⟨rfl, rfl⟩
    refine ⟨G, ?_, leM_refl _ _, rfl, .tuple rfl fun j c u hc => by cases hc⟩
    have e1 : sg.set bi (.row z e 2 (([] : List PP).mergeSort (fun x y => !(ltOf cf) y x) |>.map PP.pv) false) = sg := by
      rw [List.mergeSort_nil]
      exact set_self hb
    rw [e1]
    exact hR
  rcases hown.2 with ⟨rfl, hl0⟩ | ⟨b, cap, cur, rfl, hbase, hheap, hcap, hmax, hcs, htk⟩
  · have hl : l = [] := List.length_eq_zero_iff.1 hl0
    have := hnone none 0 hl
    exact this
  · by_cases hl : l = []
    · have := hnone (some ⟨b, 0, none⟩) cap hl
      rw [hl] at this ⊢
      exact this
    have hus : us = l.flatMap PP.vs := flat_vs (G := G) l us (by simpa using hown.1) fun j c u hc hu => hLs.2 j c u hc (by simpa using hu)
    have hblk : b < w.heap.size := lt_of_heap hheap
    have hH : HoldsK PP.vs 2 w b 0 l.toArray := by
      intro j hj
      rw [size_flatK] at hj
      have hj : j < l.length * 2 := by simpa using hj
      rw [Nat.zero_add]
      have hjs : j < (flatK PP.vs 2 l.toArray).size := by rw [size_flatK]; simpa using hj
      constructor
      · have := hown.cellAt j hj
        rw [this, hus, ← flatK_list l, getElem!_pos _ j hjs]
        simp [hjs]
      · exact hown.frozenAt j
    have hSn : ∀ o, G.S b o = none := fun o => hS b rfl o (.inl rfl)
    have hsz : l.toArray.size < 4611686018427387904 := by simpa using hlen
    have htab : ∀ W, Below G.w0.heap.size G.w0 W → TabOk W := fun W h => hR.tab.mono h
    -- the worlds of the sort
    have hw : ∀ (mm : Nat) (dk : Array PP) (os : Array Obj), w.grownBy (sortWorldK PP.vs 2 w b 0 mm dk os) (some b) := by
      intro mm dk os
      refine ⟨rfl, rfl, rfl, ?_, fun i hi hne => ?_⟩
      · unfold sortWorldK
        rw [size_grow]
        show w.heap.size ≤ (putRow id (Sort.ahead w mm) b 0 _).heap.size + _
        rw [Go.Proofs.size_putRow]
        exact Nat.le_add_right _ _
      · unfold sortWorldK
        have hi' : i < (putRowK PP.vs 2 (Sort.ahead w mm) b 0 dk).heap.size := by
          show i < (putRow id (Sort.ahead w mm) b 0 _).heap.size
          rw [Go.Proofs.size_putRow]; exact hi
        rw [heap_grow_old _ _ hi']
        show ((w.heap).modify b _)[i]? = _
        rw [Array.getElem?_modify, if_neg (fun e => hne (by rw [e]))]
    have hlays : CmpLays P g #[] PP.vs 2 cf b 0 l.toArray.size w := by
      intro mm os dk hds x y
      refine cmp_lays hc _ (htab _ ?_) x y
      exact hR.below.grown (hw mm dk os) hR.base_le (fun k e => by cases e; exact hbase)
    have key := AnyQ.slices_SortFunc_total L 2 aE zE PP.vs (fun _ => rfl) (fun x v hv => by simp [PP.vs] at hv; rcases hv with rfl | rfl <;> rfl) cf hO g #[] b 0 cap l.toArray w eg hlays hH hblk hsz hT
    have e0 : l.toArray.size = l.length := by simp
    rw [e0] at key
    refine CallsIn.mono (callsIn_wide.2 key) ?_
    rintro e' w' ⟨rfl, mm, os, rfl⟩
    generalize hl2 : (l.mergeSort fun x y => !(ltOf cf) y x) = l2
    have hlen2 : l2.length = l.length := by rw [← hl2]; exact List.length_mergeSort _
    refine ⟨G.setSlot bi (.row (.slice (some ⟨b, 0, none⟩) l.length cap) l.length 2), ?_, (G.setSlot_le bi _ _ hs (Slot.le_refl _)).leM _, rfl, .tuple rfl fun j c u hc => by cases hc⟩
    have hg := hw mm l2.toArray os
    refine hR.change hs (Slot.le_refl _) hg (fun g h => .inl h) (fun g h => by cases h; exact hbase) (fun g h o v hv => by cases h; rw [hSn] at hv; cases hv) (fun g h es c hm => ?_) (fun g h hd => ?_) ?_
    · cases h
      have := hR.stM _ _ _ hm
      rw [hheap] at this
      cases this
    · cases h
      have := (hR.dfr _ hd).2
      rw [hheap] at this
      cases this
    · have hheap2 : (sortWorldK PP.vs 2 w b 0 mm l2.toArray os).heap[b]? = some (.cells (putCells id 0 (flatK PP.vs 2 l2.toArray) cur) e (0, 0)) := by
        unfold sortWorldK
        have hi' : b < (putRowK PP.vs 2 (Sort.ahead w mm) b 0 l2.toArray).heap.size := by
          show b < (putRow id (Sort.ahead w mm) b 0 _).heap.size
          rw [Go.Proofs.size_putRow]; exact hblk
        rw [heap_grow_old _ _ hi']
        show ((w.heap).modify b _)[b]? = _
        rw [Array.getElem?_modify, if_pos rfl, hheap]
        rfl
      have htk2 : (putCells id 0 (flatK PP.vs 2 l2.toArray) cur).toList.take (l.length * 2) = l2.flatMap PP.vs := by
        rw [← flatK_list l2]
        have hfs : (flatK PP.vs 2 l2.toArray).size = l.length * 2 := by rw [size_flatK]; simp [hlen2]
        have hcs2 : l.length * 2 ≤ cur.size := by rw [hcs]; exact Nat.mul_le_mul_right 2 hcap
        apply List.ext_getElem?
        intro i
        rw [List.getElem?_take]
        by_cases hi : i < l.length * 2
        · rw [if_pos hi]
          have hif : i < (flatK PP.vs 2 l2.toArray).size := by omega
          have hic : i < cur.size := by omega
          simp [putCells, hi, hfs, hic, hif]
        · rw [if_neg hi, List.getElem?_eq_none (by simp; omega)]
      have hRL : ∀ l3 : List PP, ∀ (G' : Gh), RepL G' (flat (l3.map PP.pv)) (l3.flatMap PP.vs).toArray := fun l3 G' =>
        ⟨by rw [flat_pp, List.size_toArray, vs_len, pl_len], fun j c u hc hu => rep_vs l3 j c u (by rw [← flat_pp]; exact hc) (by simpa using hu)⟩
      refine ⟨rfl, by simp [hlen2], hz, ?_, ?_, ⟨l2.flatMap PP.vs, ⟨by rw [vs_len, hlen2], .inr ⟨b, cap, _, rfl, hbase, hheap2, hcap, hmax, by simp [putCells, hcs], htk2⟩⟩, hRL l2 _⟩, fun g h o _ => by cases h; exact hSn o⟩
      · intro x hx
        obtain ⟨p, _, rfl⟩ := List.mem_map.1 hx
        rfl
      · intro c hc
        rw [flat_pp] at hc
        obtain ⟨p, _, hp⟩ := List.mem_flatMap.1 hc
        simp only [List.mem_cons, List.not_mem_nil, or_false] at hp
        rcases hp with rfl | rfl <;> rfl
end Go.Pv
