/- Contracts: the reference's Read. -/
import Derived.Test.YtmnocohggpmjcaaGreatDoorQncRef
set_option linter.all false
namespace Go.Pv
open Go Go.RowKit Go.Proofs
set_option maxRecDepth 200000
set_option maxHeartbeats 8000000
theorem leave_agr2 {sg : List Box} {id : Nat} {z : Bool} {e : TypeId} {k : Nat} {es : List PV} {frz : Bool} (h : sg[id]? = some (.row z e k es frz)) (hc : closedL es = true) {m : Nat} (hm : m = es.length) {c d : PV} (hcc : c.closed = true) (hd : d.closed = true) : leaveC0 0 (.tuple [.agg [c, .ms id m], d]) sg = (.tuple [.agg [c, .sl (if z then .n else .a) es], d], []) :=
  leaveF (by rw [frzX_tup (n := 7) (by simp [closedL, PV.closed])]; simp only [frzL, frzX_agr (n := 6) (vs := [c, .ms id m]) (by simp [closedL, PV.closed]), frzX_closed (n := 5) hcc, frzX_closed (n := 6) hd, frzX_row (n := 4) h hc hm]) (by simp [PV.closed, closedL, hc, hcc, hd])
def readRV (t : List UInt8) : PV := match readR t with
  | some f => .tuple [figV f, .bool true]
  | none => .tuple [zeroF, .bool false]
def c126s : List PV → List Box → Option (PRes × List Box)
  | [.str s, .int .u8 n], sg => if s.length ≤ 100000 ∧ 0 ≤ n ∧ n ≤ 255 then some (.ret (.sl .a ((splF (UInt8.ofNat n.toNat) s).map PV.str)), sg) else none
  | _, _ => none
theorem c126s_ok : ConOk Tryz.prog 126 c126s := ConOk.of0 (ent Tryz.func126 rfl) fun args sg r sg' h => by
  unfold c126s at h
  split at h <;> try (cases h; done)
  split at h <;> cases h
  rename_i s n hc
  have := Split_126 s (UInt8.ofNat n.toNat) hc.1
  have e : (((UInt8.ofNat n.toNat).toNat : Nat) : Int) = n := by rw [UInt8.toNat_ofNat']; omega
  rw [e] at this
  exact ⟨_, rfl, rfl, rfl, this⟩
def cfNs : CallF := cfAdd (cfAdd (cfAdd cf0 126 c126s) 127 c127) 77 c77
theorem cfNs_ok : CallFOk Tryz.prog cfNs := cfAdd_ok (cfAdd_ok (cfAdd_ok cf0_ok c126s_ok) c127_ok) c77_ok
theorem tail_strs (S : List (List UInt8)) : ((S.map PV.str).drop 1).take (S.length - 1) = S.tail.map PV.str := by
  rw [← List.map_drop, ← List.map_take, tail_cut]
theorem RRead_79 (t : List UInt8) (ht : t.length ≤ 800) : CallOk Tryz.prog 79 [.str t] [] (.ret (readRV t)) [] := by
  refine CallOk.ofF hTT Tryz.func79 rfl rfl ?_
  have hE : readR t = (match figR ((splF 10 t).take ((splF 10 t).length - 2)) with
    | some f => if textF f.1 f.2 = t then some f else none
    | none => none) := rfl
  have hW := splF_len 10 t
  have hWe : ∀ x ∈ splF 10 t, x.length ≤ 100000 := fun x hx => by have := splF_each hx; omega
  have h10 : UInt8.ofNat 10 = 10 := rfl
  have h32 : UInt8.ofNat 32 = 32 := rfl
  have ht' : t.length ≤ 100000 := by omega
  generalize hWW : splF 10 t = W at hE hW hWe
  repeat (first | (with_reducible (first | apply wA | apply wB | apply wC | apply wD | apply wE | apply wF | apply wG | apply wH | apply wI | apply wJ | apply wK | apply wL | apply wM | apply wN | apply wO | apply wP | apply wQ rfl | apply wR | apply wS | apply wT | apply wU)) | ((with_reducible (first | apply wV | apply wW | apply wX | (apply wY [] hTT cfNs_ok noM_ok mixed; (focus kernel_rfl)))); (focus (simp only [Tryz.f79, cfNs, c126s, ht', h10, hWW, go_sem]; with_reducible rfl))) | (with_reducible refine wZ hTT cfNs_ok noM_ok ?_) | (with_reducible refine wa ?_; refine And.intro ?_ ?_; (focus kernel_rfl)))
  refine RunQ.keep [6, 5, 4, 2, 0] (by simp only [go_sem]; rfl) ?_
  refine RunQ.nilBox 1 1 44 5 rfl rfl rfl ?_
  have e2 : IntKind.i64.wrap (((W.length : Nat) : Int) - 2) = ((W.length : Nat) : Int) - 2 := wrap_id (by omega) (by omega)
  have hVg : ∀ i, i < W.length - 2 → (W.take (W.length - 2))[i]? = W[i]? := fun i h => List.getElem?_take_of_lt h
  have hVl : (W.take (W.length - 2)).length = W.length - 2 := by rw [List.length_take]; omega
  generalize W.take (W.length - 2) = V at hE hVg hVl
  refine RunQ.loop (fun i s' => ∃ (s : Int) (L : List Lb), ((i = 0 ∧ s = 0 ∧ L = []) ∨ (1 ≤ i ∧ ∃ v0 V', V = v0 :: V' ∧ headR v0 = some s ∧ (limbsR V' = match limbsR (V'.drop (i - 1)) with
      | some r => some (L ++ r)
      | none => none))) ∧ s.natAbs < 100 ∧ (∀ x ∈ L, ∀ n ∈ limbNs x, n.natAbs < 100) ∧ L.length ≤ i ∧
      s' = ⟨[(6, ii i), (5, .sl .a (W.map PV.str)), (4, .bp 1 0), (2, .bp 0 0), (0, .str t)], 82, [.var [ii 0, .sl .n []] false, .var [ii s, .ms 2 L.length] false, .row (decide (L.length = 0)) 44 5 (L.map encLb) false]⟩) (W.length - 2)
      ⟨0, [], .inl ⟨rfl, rfl, rfl⟩, by decide, (fun x hx => by cases hx), Nat.le_refl _, rfl⟩ ?_
  rintro i _ hi ⟨s, L, hinv, hs9, hL9, hLi, rfl⟩
  by_cases hlt : i < W.length - 2
  · obtain ⟨r, hr⟩ : ∃ r, W[i]? = some r := ⟨_, List.getElem?_eq_getElem (by omega)⟩
    have hVr : V[i]? = some r := by rw [hVg i hlt]; exact hr
    have hr' : (W.map PV.str)[i]? = some (.str r) := by rw [List.getElem?_map, hr]; rfl
    have hlt' : (i : Int) < ((W.length : Nat) : Int) - 2 := by omega
    have hlt2 : (i : Int) < ((W.length : Nat) : Int) := by omega
    have e4 : IntKind.i64.wrap ((i : Int) + 1) = ((i + 1 : Nat) : Int) := wrap_id (by omega) (by omega)
    have hrl := hWe r (List.mem_of_getElem? hr)
    have hSl := splF_len 32 r
    have hSe : ∀ x ∈ (splF 32 r).tail, x.length ≤ 100000 := fun x hx => by have := splF_each (List.mem_of_mem_tail hx); omega
    have hts := tail_strs (splF 32 r)
    have hS1 : (splF 32 r).tail.length ≤ 100000 := by rw [List.length_tail]; have := hWe r (List.mem_of_getElem? hr); omega
    have hS2 : ((splF 32 r).tail.all fun r => decide (r.length ≤ 100000)) = true := List.all_eq_true.2 fun x hx => decide_eq_true (hSe x hx)
    have hS3 : (1 : Int) ≤ (((splF 32 r).length : Nat) : Int) := by omega
    have hdS : decL decS ((splF 32 r).tail.map PV.str) = some (splF 32 r).tail := decSs_map _
    have hall : (((splF 32 r).map PV.str).all fun y => y.cells.length == 1) = true := by rw [List.all_map]; exact List.all_eq_true.2 fun _ _ => rfl
    simp only [PV.cells] at hall
    have hh : headR r = match numsW (splF 32 r).tail with
      | some [s] => some s
      | _ => none := rfl
    have hb : limbR r = match numsW (splF 32 r).tail with
      | some [a, b, c, d, e] => some ⟨a, b, c, d, e⟩
      | _ => none := rfl
    have hsm : ∀ l, numsW (splF 32 r).tail = some l → ∀ n ∈ l, n.natAbs < 100 := fun l h => (numsW_small h).2
    have hnum : numsR (splF 32 r).tail = match numsW (splF 32 r).tail with
      | some l => .tuple [.sl (if decide (l.length = 0) = true then .n else .a) (l.map ii), .bool true]
      | none => .tuple [.sl .n [], .bool false] := rfl
    -- what follows where the row is none
    have bad : (i = 0 → headR r = none) → (0 < i → limbR r = none) → readRV t = .tuple [zeroF, .bool false] := fun h1 h2 => by
      have hV : figR V = none := by
        rcases hinv with ⟨h0, _, _⟩ | ⟨h0, v0, V', hVV, hv, hlm⟩
        · cases V with
          | nil => simp at hVr
          | cons v0 V' =>
            rw [h0] at hVr
            obtain rfl : v0 = r := by simpa using hVr
            show (match headR v0, limbsR V' with | some s, some l => some (s, l) | _, _ => none) = none
            rw [h1 h0]
        · rw [hVV]
          have hx : V'[i - 1]? = some r := by
            rw [hVV] at hVr
            obtain ⟨j, rfl⟩ : ∃ j, i = j + 1 := ⟨i - 1, by omega⟩
            simpa using hVr
          rw [drop_get hx, limbsR, h2 (by omega)] at hlm
          show (match headR v0, limbsR V' with | some s, some l => some (s, l) | _, _ => none) = none
          rw [hlm, hv]
      unfold readRV
      rw [hE, hV]
    generalize (splF 32 r).tail = ws at hts hS1 hS2 hdS hh hb hsm hnum
    cases hN : numsW ws with
    | none =>
      rw [hN] at hh hb hnum
      have hnum : numsR ws = .tuple [.sl .n [], .bool false] := hnum
      rw [bad (fun _ => hh) (fun _ => hb)]
      repeat (first | (with_reducible (first | apply wA | apply wB | apply wC | apply wD | apply wE | apply wF | apply wG | apply wH | apply wI | apply wJ | apply wK | apply wL | apply wM | apply wN | apply wO | apply wP | apply wQ rfl | apply wR | apply wS | apply wT | apply wU)) | ((with_reducible (first | apply wV | apply wW | apply wX | (apply wY [] hTT cfNs_ok noM_ok mixed; (focus kernel_rfl)))); (focus (simp only [Tryz.f79, cfNs, c126s, c127, h32, e2, hlt', hlt2, hr', hrl, hts, hS1, hS2, hS3, hdS, hall, hnum, imp_self, false_implies, List.length_map, go_sem]; with_reducible rfl))) | (with_reducible refine wZ hTT cfNs_ok noM_ok ?_) | (with_reducible refine wa ?_; refine And.intro ?_ ?_; (focus kernel_rfl)))
      exact ⟨rfl, rfl, _, rfl, leave_closed rfl⟩
    | some l =>
      rw [hN] at hh hb hnum
      have hsm := hsm l hN
      dsimp only at hh hb hnum
      by_cases h0 : i = 0
      · have hi0 : ((i : Int) == 0) = true := by rw [h0]; rfl
        have hig : ¬ (0 : Int) < (i : Int) := by omega
        by_cases hl1 : l.length = 1
        · obtain ⟨a, rfl⟩ : ∃ a, l = [a] := by
            match l, hl1 with
            | [a], _ => exact ⟨a, rfl⟩
          have hnum : numsR ws = .tuple [.sl .a [ii a], .bool true] := hnum
          have hh : headR r = some a := hh
          rcases hinv with ⟨_, rfl, rfl⟩ | ⟨h9, _⟩
          · repeat (first | (with_reducible (first | apply wA | apply wB | apply wC | apply wD | apply wE | apply wF | apply wG | apply wH | apply wI | apply wJ | apply wK | apply wL | apply wM | apply wN | apply wO | apply wP | apply wQ rfl | apply wR | apply wS | apply wT | apply wU)) | ((with_reducible (first | apply wV | apply wW | apply wX | (apply wY [] hTT cfNs_ok noM_ok mixed; (focus kernel_rfl)))); (focus (simp only [Tryz.f79, cfNs, c126s, c127, h32, e2, e4, hlt', hlt2, hr', hrl, hts, hS1, hS2, hS3, hdS, hall, hnum, hi0, hig, imp_self, false_implies, gt_iff_lt, List.length_map, go_sem]; with_reducible rfl))) | (with_reducible refine wZ hTT cfNs_ok noM_ok ?_) | (with_reducible refine wa ?_; refine And.intro ?_ ?_; (focus kernel_rfl)))
            obtain ⟨V', hVV⟩ : ∃ V', V = r :: V' := by
              cases V with
              | nil => simp at hVr
              | cons v0 V' =>
                rw [h0] at hVr
                obtain rfl : v0 = r := by simpa using hVr
                exact ⟨V', rfl⟩
            have hlm : limbsR V' = match limbsR (V'.drop (i + 1 - 1)) with
                | some r => some ([] ++ r)
                | none => none := by
              rw [h0, show 0 + 1 - 1 = 0 from rfl, List.drop_zero]
              cases limbsR V' <;> rfl
            refine roundQ.t 3 [6, 5, 4, 2, 0] hlt (by simp only [ltB_strs, ltB_lbs, go_sem]) ⟨a, [], .inr ⟨by omega, r, V', hVV, hh, hlm⟩, hsm a (by simp), (fun x hx => by cases hx), Nat.zero_le _, by simp only [go_sem]⟩
          · omega
        · have hne : (((l.length : Nat) : Int) != 1) = true := bne_true (by omega)
          have hh : headR r = none := by
            rw [hh]
            match l, hl1 with
            | [], _ => rfl
            | _ :: _ :: _, _ => rfl
            | [_], h => exact absurd rfl h
          rw [bad (fun _ => hh) (fun h => absurd h0 (by omega))]
          generalize (if decide (l.length = 0) = true then Z.n else Z.a) = zz at hnum
          repeat (first | (with_reducible (first | apply wA | apply wB | apply wC | apply wD | apply wE | apply wF | apply wG | apply wH | apply wI | apply wJ | apply wK | apply wL | apply wM | apply wN | apply wO | apply wP | apply wQ rfl | apply wR | apply wS | apply wT | apply wU)) | ((with_reducible (first | apply wV | apply wW | apply wX | (apply wY [] hTT cfNs_ok noM_ok mixed; (focus kernel_rfl)))); (focus (simp only [Tryz.f79, cfNs, c126s, c127, h32, e2, e4, hlt', hlt2, hr', hrl, hts, hS1, hS2, hS3, hdS, hall, hnum, hi0, hig, hne, imp_self, false_implies, gt_iff_lt, List.length_map, go_sem]; with_reducible rfl))) | (with_reducible refine wZ hTT cfNs_ok noM_ok ?_) | (with_reducible refine wa ?_; refine And.intro ?_ ?_; (focus kernel_rfl)))
          exact ⟨rfl, rfl, _, rfl, leave_closed rfl⟩
      · have hi0 : ((i : Int) == 0) = false := by rw [beq_eq_false_iff_ne]; omega
        have hig : (0 : Int) < (i : Int) := by omega
        by_cases hl5 : l.length = 5
        · obtain ⟨a, b, c, d, e, rfl⟩ : ∃ a b c d e, l = [a, b, c, d, e] := by
            match l, hl5 with
            | [a, b, c, d, e], _ => exact ⟨a, b, c, d, e, rfl⟩
          have hnum : numsR ws = .tuple [.sl .a [ii a, ii b, ii c, ii d, ii e], .bool true] := hnum
          have hb : limbR r = some ⟨a, b, c, d, e⟩ := hb
          have l1 : L.length + 1 ≤ maxLen := by unfold maxLen; omega
          have l2 : (L.length + 1) * 40 ≤ 140737488355328 := by omega
          have hd1 : decide (L.length + 1 = 0) = false := by simp
          rcases hinv with ⟨h9, _⟩ | ⟨_, v0, V', hVV, hv, hlm⟩
          · exact absurd h9 h0
          · have hx : V'[i - 1]? = some r := by
              rw [hVV] at hVr
              obtain ⟨j, rfl⟩ : ∃ j, i = j + 1 := ⟨i - 1, by omega⟩
              simpa using hVr
            have hlm2 : limbsR V' = match limbsR (V'.drop (i + 1 - 1)) with
                | some r => some ((L ++ [⟨a, b, c, d, e⟩]) ++ r)
                | none => none := by
              rw [hlm, drop_get hx, limbsR, hb, show i - 1 + 1 = i + 1 - 1 by omega]
              cases limbsR (V'.drop (i + 1 - 1)) with
              | some r => simp
              | none => rfl
            repeat (first | (with_reducible (first | apply wA | apply wB | apply wC | apply wD | apply wE | apply wF | apply wG | apply wH | apply wI | apply wJ | apply wK | apply wL | apply wM | apply wN | apply wO | apply wP | apply wQ rfl | apply wR | apply wS | apply wT | apply wU)) | ((with_reducible (first | apply wV | apply wW | apply wX | (apply wY [] hTT cfNs_ok noM_ok mixed; (focus kernel_rfl)))); (focus (simp only [Tryz.f79, cfNs, c126s, c127, h32, e2, e4, hlt', hlt2, hr', hrl, hts, hS1, hS2, hS3, hdS, hall, hnum, hi0, hig, l1, l2, imp_self, false_implies, gt_iff_lt, List.length_map, go_sem]; with_reducible rfl))) | (with_reducible refine wZ hTT cfNs_ok noM_ok ?_) | (with_reducible refine wa ?_; refine And.intro ?_ ?_; (focus kernel_rfl)))
            refine roundQ.t 3 [6, 5, 4, 2, 0] hlt (by simp only [ltB_strs, ltB_lbs, ltBL_append, go_sem]) ⟨s, L ++ [⟨a, b, c, d, e⟩], .inr ⟨by omega, v0, V', hVV, hv, hlm2⟩, hs9, (fun y hy n hn => ?_), by simp; omega, by rw [List.map_append, List.length_append]; simp only [hd1, go_sem]; rfl⟩
            rcases List.mem_append.1 hy with hy | hy
            · exact hL9 y hy n hn
            · rw [List.mem_singleton.1 hy] at hn
              exact hsm n hn
        · have hne : (((l.length : Nat) : Int) != 5) = true := bne_true (by omega)
          have hb : limbR r = none := by
            rw [hb]
            match l, hl5 with
            | [], _ => rfl
            | [_], _ => rfl
            | [_, _], _ => rfl
            | [_, _, _], _ => rfl
            | [_, _, _, _], _ => rfl
            | [_, _, _, _, _], h => exact absurd rfl h
            | _ :: _ :: _ :: _ :: _ :: _ :: _, _ => rfl
          rw [bad (fun h => absurd h h0) (fun _ => hb)]
          generalize (if decide (l.length = 0) = true then Z.n else Z.a) = zz at hnum
          repeat (first | (with_reducible (first | apply wA | apply wB | apply wC | apply wD | apply wE | apply wF | apply wG | apply wH | apply wI | apply wJ | apply wK | apply wL | apply wM | apply wN | apply wO | apply wP | apply wQ rfl | apply wR | apply wS | apply wT | apply wU)) | ((with_reducible (first | apply wV | apply wW | apply wX | (apply wY [] hTT cfNs_ok noM_ok mixed; (focus kernel_rfl)))); (focus (simp only [Tryz.f79, cfNs, c126s, c127, h32, e2, e4, hlt', hlt2, hr', hrl, hts, hS1, hS2, hS3, hdS, hall, hnum, hi0, hig, hne, imp_self, false_implies, gt_iff_lt, List.length_map, go_sem]; with_reducible rfl))) | (with_reducible refine wZ hTT cfNs_ok noM_ok ?_) | (with_reducible refine wa ?_; refine And.intro ?_ ?_; (focus kernel_rfl)))
          exact ⟨rfl, rfl, _, rfl, leave_closed rfl⟩
  · have hlt' : ¬ (i : Int) < ((W.length : Nat) : Int) - 2 := by omega
    have hF : figR V = some (s, L) := by
      rcases hinv with ⟨h0, rfl, rfl⟩ | ⟨h0, v0, V', hVV, hv, hlm⟩
      · have : V = [] := List.eq_nil_of_length_eq_zero (by omega)
        rw [this]; rfl
      · rw [hVV]
        have hVl' : V'.length = i - 1 := by rw [hVV, List.length_cons] at hVl; omega
        rw [List.drop_eq_nil_of_le (by omega)] at hlm
        have hlm : limbsR V' = some L := by rw [hlm]; simp [limbsR]
        show (match headR v0, limbsR V' with | some s, some l => some (s, l) | _, _ => none) = _
        rw [hv, hlm]
    rw [hF] at hE
    dsimp only at hE
    have hsF := small_of hs9 hL9
    have hLl : L.length ≤ 900 := by omega
    have hd : decFig (.agg [ii s, .sl (if decide (L.length = 0) = true then .n else .a) (L.map encLb)]) = some (s, L) := decFig_enc _ _ _ (zOk_n' fun e => by
      split at e
      · rename_i h
        exact List.length_eq_zero_iff.1 (of_decide_eq_true h)
      · cases e)
    clear hinv hVg hVl hF hWe hW hi hlt
    repeat (first | (with_reducible (first | apply wA | ((fail_if_success (refine RunQ.seq (x := .region 12 _ _) ?_)); (apply wB)) | apply wC | apply wD | apply wE | apply wF | apply wG | apply wH | apply wI | apply wJ | apply wK | apply wL | apply wM | apply wN | apply wO | apply wP | apply wQ rfl | apply wR | apply wS | apply wT | apply wU)) | ((with_reducible (first | apply wV | apply wW | apply wX | (apply wY [] hTT cfNs_ok noM_ok mixed; (focus kernel_rfl)))); (focus (simp only [Tryz.f79, e2, hlt', List.length_map, go_sem]; with_reducible rfl))) | ((fail_if_success (with_reducible show RunQ _ (.region 12 _ _) _ _)); (with_reducible refine wZ hTT cfNs_ok noM_ok ?_)) | (with_reducible refine wa ?_; refine And.intro ?_ ?_; (focus kernel_rfl)))
    refine RunQ.seq ?_
    refine RunQ.regG hTT cfNs_ok noM_ok ?_
    apply RegG.step
    · simp only [Tryz.f79, go_sem]; with_reducible rfl
    refine RegG.ghost (Ghost.freezeAgr 76 2 rfl rfl (by rw [List.length_map]) (closedL_lbs L) rfl rfl) ?_
    by_cases hte : textF s L = t
    · rw [if_pos hte] at hE
      have hte' : (textF s L != t) = false := by rw [hte]; exact bne_self_eq_false _
      unfold readRV
      rw [hE]
      generalize hzz : (if decide (L.length = 0) = true then Z.n else Z.a) = zz at hd ⊢
      iterate 3 (apply RegG.step; (focus (simp only [Tryz.f79, cfNs, c77, hd, hsF, hLl, hte', go_sem]; with_reducible rfl)))
      refine RegG.nil ?_
      refine thenQ.n ?_
      repeat (first | (with_reducible (first | apply wA | apply wB | apply wC | apply wD | apply wE | apply wF | apply wG | apply wH | apply wI | apply wJ | apply wK | apply wL | apply wM | apply wN | apply wO | apply wP | apply wQ rfl | apply wR | apply wS | apply wT | apply wU)) | ((with_reducible (first | apply wV | apply wW | apply wX | (apply wY [] hTT cfNs_ok noM_ok mixed; (focus kernel_rfl)))); (focus (simp only [Tryz.f79, hte', go_sem]; with_reducible rfl))) | (with_reducible refine wZ hTT cfNs_ok noM_ok ?_) | (with_reducible refine wa ?_; refine And.intro ?_ ?_; (focus kernel_rfl)))
      refine ⟨rfl, rfl, _, rfl, ?_⟩
      unfold figV
      exact leave_agr2 (id := 2) (z := decide (L.length = 0)) (frz := true) rfl (closedL_lbs L) (by rw [List.length_map]) rfl rfl
    · rw [if_neg hte] at hE
      have hte' : (textF s L != t) = true := by unfold bne; rw [beq_eq_false_iff_ne.2 hte]; rfl
      unfold readRV
      rw [hE]
      generalize hzz : (if decide (L.length = 0) = true then Z.n else Z.a) = zz at hd ⊢
      iterate 3 (apply RegG.step; (focus (simp only [Tryz.f79, cfNs, c77, hd, hsF, hLl, hte', go_sem]; with_reducible rfl)))
      refine RegG.nil ?_
      refine thenQ.n ?_
      repeat (first | (with_reducible (first | apply wA | apply wB | apply wC | apply wD | apply wE | apply wF | apply wG | apply wH | apply wI | apply wJ | apply wK | apply wL | apply wM | apply wN | apply wO | apply wP | apply wQ rfl | apply wR | apply wS | apply wT | apply wU)) | ((with_reducible (first | apply wV | apply wW | apply wX | (apply wY [] hTT cfNs_ok noM_ok mixed; (focus kernel_rfl)))); (focus (simp only [Tryz.f79, hte', go_sem]; with_reducible rfl))) | (with_reducible refine wZ hTT cfNs_ok noM_ok ?_) | (with_reducible refine wa ?_; refine And.intro ?_ ?_; (focus kernel_rfl)))
      exact ⟨rfl, rfl, _, rfl, leave_closed rfl⟩
def c79 : List PV → List Box → Option (PRes × List Box)
  | [.str t], sg => if t.length ≤ 800 then some (.ret (readRV t), sg) else none
  | _, _ => none
theorem c79_ok : ConOk Tryz.prog 79 c79 := ConOk.of0 (ent Tryz.func79 rfl) fun args sg r sg' h => by
  unfold c79 at h
  split at h <;> try (cases h; done)
  split at h <;> cases h
  rename_i hc
  exact ⟨_, rfl, rfl, rfl, RRead_79 _ hc⟩
end Go.Pv
