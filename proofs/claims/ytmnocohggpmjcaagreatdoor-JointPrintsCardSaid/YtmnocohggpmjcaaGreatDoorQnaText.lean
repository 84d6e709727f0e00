/- Contracts: a figure's text, the program's; Print. -/
import Derived.Test.YtmnocohggpmjcaaGreatDoorQnaLaw
import Derived.Test.YtmnocohggpmjcaaGreatDoorQlTop
set_option linter.all false
namespace Go.Pv
open Go Go.RowKit Go.Proofs
set_option maxRecDepth 200000
set_option maxHeartbeats 8000000
def c151 : List PV → List Box → Option (PRes × List Box)
  | [.iface t v], sg => if t = 202 then (match v with
      | .int .i64 s => if s.natAbs < 1000000 then some (.ret (.str (rowF figW [s])), sg) else none
      | _ => none)
    else if t = 204 then (match v with
      | .agg [.int .i64 a, .int .i64 b, .int .i64 c, .int .i64 d, .int .i64 e] => if ([a, b, c, d, e] : List Int).all smallN = true then some (.ret (.str (rowF limbW [a, b, c, d, e])), sg) else none
      | _ => none)
    else none
  | _, _ => none
theorem c151_ok : ConOk Tryz.prog 151 c151 := ConOk.of0 (ent Tryz.func151 rfl) fun args sg r sg' h => by
  unfold c151 at h
  split at h <;> try (cases h; done)
  split at h
  · rename_i ht
    subst ht
    split at h <;> try (cases h; done)
    split at h <;> cases h
    rename_i hc
    exact ⟨_, rfl, rfl, rfl, row_head _ hc⟩
  · split at h <;> try (cases h; done)
    rename_i ht
    subst ht
    split at h <;> try (cases h; done)
    split at h <;> cases h
    rename_i a b c d e hc
    exact ⟨_, rfl, rfl, rfl, row_limb ⟨a, b, c, d, e⟩ hc⟩
theorem join_lines : ∀ (R : List (List UInt8)) (e : List UInt8), Lib.join (R ++ [e]) [10] ++ [10] = linesF R ++ (e ++ [10])
  | [], e => by
    show Lib.join [e] [10] ++ [10] = _
    rw [Lib.join_one]; rfl
  | r :: R, e => by
    have h := join_lines R e
    have h2 : Lib.join (r :: (R ++ [e])) [10] = r ++ 10 :: Lib.join (R ++ [e]) [10] := by
      rw [Lib.join_cons]
      cases hR : R ++ [e] with
      | nil => simp at hR
      | cons y Y => rw [Lib.join_cons]; rfl
    show Lib.join (r :: (R ++ [e])) [10] ++ [10] = r ++ [10] ++ linesF R ++ (e ++ [10])
    rw [h2, List.append_assoc, List.append_assoc, List.append_assoc, ← h]
    simp
def cfNf : CallF := cfAdd (cfAdd (cfAdd cf0 151 c151) 152 c152) 153 c153
theorem cfNf_ok : CallFOk Tryz.prog cfNf := cfAdd_ok (cfAdd_ok (cfAdd_ok cf0_ok c151_ok) c152_ok) c153_ok
theorem text_121 (s : Int) (z : Z) (ls : List Lb) (hzo : zOk z (ls.map encLb) = true) (hl : ls.length ≤ 900) (hs : smallF s ls = true) : CallOk Tryz.prog 121 [.agg [ii s, .sl z (ls.map encLb)]] [] (.ret (.str (textF s ls))) [] := by
  refine CallOk.of0 hTT Tryz.func121 rfl rfl ?_
  have hs' := hs
  unfold smallF at hs
  rw [Bool.and_eq_true, List.all_eq_true] at hs
  have hsn : s.natAbs < 1000000 := by simpa [smallN] using hs.1
  have lk1 : (rowF [102, 105, 103, 117, 114, 101] [s]).length ≤ 14 := row_len [s] (fun n hn => by rw [List.mem_singleton.1 hn]; exact hsn) _
  have lk2 : ∀ x ∈ ls, ∀ n ∈ limbNs x, n.natAbs < 1000000 := fun x hx n hn => by
    have := List.all_eq_true.1 (hs.2 x hx) n hn
    simpa [smallN] using this
  have lk3 : ∀ x ∈ ls, (rowF [108, 105, 109, 98] (limbNs x)).length ≤ 44 := fun x hx => row_len (limbNs x) (lk2 x hx) _
  repeat (first | (with_reducible (first | apply wA | ((fail_if_success (refine RunQ.seq (x := .region 1 _ _) ?_)); (apply wB)) | apply wC | apply wD | apply wE | apply wF | apply wG | apply wH | apply wI | apply wJ | apply wK | apply wL | apply wM | apply wN | apply wO | apply wP | apply wQ rfl | apply wR | apply wS | apply wT | apply wU)) | ((with_reducible (first | apply wV | apply wW | apply wX | (apply wY [] hTT cfNf_ok noM_ok mixed; (focus kernel_rfl)))); (focus (simp only [Tryz.f121, go_sem]; with_reducible rfl))) | ((fail_if_success (with_reducible show RunQ _ (.region 1 _ _) _ _)); (with_reducible refine wZ hTT cfNf_ok noM_ok ?_)) | (with_reducible refine wa ?_; refine And.intro ?_ ?_; (focus kernel_rfl)))
  refine RunQ.seq ?_
  refine RunQ.regG hTT cfNf_ok noM_ok ?_
  iterate 4 (apply RegG.step; (focus (simp only [Tryz.f121, cfNf, c151, hsn, TyD.ifc, go_sem]; with_reducible rfl)))
  refine RegG.buildRow (t := 175) (e := 9) (len := 1) (d := 14) (es := [.str (rowF figW [s])]) (by simp only [go_sem]) rfl rfl rfl rfl rfl rfl rfl ?_
  apply RegG.step
  · simp only [go_sem]; with_reducible rfl
  refine RegG.nil ?_
  refine thenQ.n ?_
  refine RunQ.keep [3, 2, 1] (by simp only [go_sem]; rfl) ?_
  repeat (first | (with_reducible (first | apply wA | apply wB | apply wC | apply wD | apply wE | apply wF | apply wG | apply wH | apply wI | apply wJ | apply wK | apply wL | apply wM | apply wN | apply wO | apply wP | apply wQ rfl | apply wR | apply wS | apply wT | apply wU)) | ((with_reducible (first | apply wV | apply wW | apply wX | (apply wY [] hTT cfNf_ok noM_ok mixed; (focus kernel_rfl)))); (focus (simp only [Tryz.f121, List.length_map, go_sem]; with_reducible rfl))) | (with_reducible refine wZ hTT cfNf_ok noM_ok ?_) | (with_reducible refine wa ?_; refine And.intro ?_ ?_; (focus kernel_rfl)))
  refine RunQ.keep [18, 17, 16, 3, 2, 1] (by simp only [go_sem]; rfl) ?_
  have hz1 : ∀ i, i < ls.length → z ≠ .n := fun i hlt e => by have := zOk_map hzo e; rw [this] at hlt; simp at hlt
  refine RunQ.loop (fun i s' => s' = ⟨[(18, ii i), (17, ii ls.length), (16, .sl z (ls.map encLb)), (3, .ms 1 (i + 1)), (2, .str []), (1, .bp 0 0)], 77, [.var [ii s, .sl z (ls.map encLb)] false, .row false 9 1 (((rowsF s ls).take (i + 1)).map PV.str) false]⟩) ls.length ?_ ?_
  · have ht1 : (rowsF s ls).take (0 + 1) = [rowF figW [s]] := by unfold rowsF; rw [List.take_succ_cons, List.take_zero]
    rw [ht1]; rfl
  rintro i _ hi rfl
  have hrl : ((rowsF s ls).take (i + 1)).length = i + 1 := by
    rw [List.length_take]
    unfold rowsF
    rw [List.length_cons, List.length_map]; omega
  have hall : ∀ (B : List (List UInt8)), (B.map PV.str).all (fun y => y.cells.length == 1) = true := fun B => by rw [List.all_map]; exact List.all_eq_true.2 fun _ _ => rfl
  by_cases hlt : i < ls.length
  · obtain ⟨x, hx⟩ : ∃ x, ls[i]? = some x := ⟨_, List.getElem?_eq_getElem hlt⟩
    have hx' : (ls.map encLb)[i]? = some (.agg [ii x.p, ii x.l, ii x.lo, ii x.hi, ii x.w]) := map_get hx
    have hlt' : (i : Int) < ls.length := by omega
    have hz' := hz1 i hlt
    have e4 : IntKind.i64.wrap ((i : Int) + 1) = ((i + 1 : Nat) : Int) := wrap_id (by omega) (by omega)
    have hm := List.mem_of_getElem? hx
    have hsm : (([x.p, x.l, x.lo, x.hi, x.w] : List Int).all smallN) = true := hs.2 x hm
    have hst : (rowsF s ls).take (i + 1 + 1) = (rowsF s ls).take (i + 1) ++ [rowF limbW [x.p, x.l, x.lo, x.hi, x.w]] := by
      unfold rowsF
      rw [List.take_succ_cons, List.take_succ_cons, List.take_add_one, List.getElem?_map, hx]
      rfl
    have l1 : i + 1 + 1 ≤ maxLen := by unfold maxLen; omega
    have l2 : (i + 1 + 1) * 16 ≤ 140737488355328 := by omega
    generalize hRx : rowF limbW [x.p, x.l, x.lo, x.hi, x.w] = rx at hst
    generalize hA : (rowsF s ls).take (i + 1) = A at hst hrl
    repeat (first | (with_reducible (first | apply wA | apply wB | apply wC | apply wD | apply wE | apply wF | apply wG | apply wH | apply wI | apply wJ | apply wK | apply wL | apply wM | apply wN | apply wO | apply wP | apply wQ rfl | apply wR | apply wS | apply wT | apply wU)) | ((with_reducible (first | apply wV | apply wW | apply wX | (apply wY [] hTT cfNf_ok noM_ok mixed; (focus kernel_rfl)))); (focus (simp only [Tryz.f121, cfNf, c151, hx', hlt', hz', e4, hsm, hrl, hRx, l1, l2, TyD.ifc, List.length_map, go_sem]; with_reducible rfl))) | (with_reducible refine wZ hTT cfNf_ok noM_ok ?_) | (with_reducible refine wa ?_; refine And.intro ?_ ?_; (focus kernel_rfl)))
    refine roundQ.t 2 [18, 17, 16, 3, 2, 1] hlt (by simp only [ltB_lbs, ltB_strs, ltBL_append, go_sem]) (by rw [hst]; simp only [List.map_append, go_sem])
  have hlt' : ¬ (i : Int) < ls.length := by omega
  obtain rfl : i = ls.length := by omega
  have hRl : (rowsF s ls).length = ls.length + 1 := by unfold rowsF; rw [List.length_cons, List.length_map]
  have hRe : ∀ r ∈ rowsF s ls, r.length ≤ 44 := fun r hr => by
    unfold rowsF at hr
    rcases List.mem_cons.1 hr with rfl | hr
    · exact Nat.le_trans lk1 (by decide)
    · obtain ⟨x, hx, rfl⟩ := List.mem_map.1 hr
      exact lk3 x hx
  rw [List.take_of_length_le (by omega)]
  unfold textF
  generalize rowsF s ls = R at hRl hRe ⊢
  rw [← hRl]
  repeat (first | (with_reducible (first | apply wA | apply wB | apply wC | apply wD | apply wE | apply wF | apply wG | apply wH | apply wI | apply wJ | apply wK | apply wL | apply wM | apply wN | apply wO | apply wP | apply wQ rfl | apply wR | apply wS | apply wT | apply wU)) | ((with_reducible (first | apply wV | apply wW | apply wX | (apply wY [] hTT cfNf_ok noM_ok mixed; (focus kernel_rfl)))); (focus (simp only [Tryz.f121, hlt', List.length_map, go_sem]; with_reducible rfl))) | (with_reducible refine wZ hTT cfNf_ok noM_ok ?_) | (with_reducible refine wa ?_; refine And.intro ?_ ?_; (focus kernel_rfl)))
  refine RunQ.keep [32, 31, 30, 6, 3, 2, 1] (by simp only [go_sem]; rfl) ?_
  refine RunQ.loop (fun i s' => ∃ c : Nat, sumS 0 R = c + sumS i (R.drop i) ∧ c ≤ 255000000000 * i ∧ s' = ⟨[(32, ii i), (31, ii R.length), (30, .ms 1 R.length), (6, ii c), (3, .ms 1 R.length), (2, .str []), (1, .bp 0 0)], 77, [.var [ii s, .sl z (ls.map encLb)] false, .row false 9 1 (R.map PV.str) false]⟩) R.length ⟨0, (Nat.zero_add _).symm, Nat.zero_le _, rfl⟩ ?_
  rintro i _ hi ⟨c, hc, hcl, rfl⟩
  by_cases hlt : i < R.length
  · obtain ⟨r, hr⟩ : ∃ r, R[i]? = some r := ⟨_, List.getElem?_eq_getElem hlt⟩
    have hr' : (R.map PV.str)[i]? = some (.str r) := by rw [List.getElem?_map, hr]; rfl
    have hlt2 : (i : Int) < R.length := by omega
    have e4 : IntKind.i64.wrap ((i : Int) + 1) = ((i + 1 : Nat) : Int) := wrap_id (by omega) (by omega)
    have hrl2 := hRe r (List.mem_of_getElem? hr)
    rw [drop_get hr] at hc
    have hc : sumS 0 R = c + (sumR (i + 1) 0 r + sumS (i + 1) (R.drop (i + 1))) := hc
    repeat (first | (with_reducible (first | apply wA | apply wB | apply wC | apply wD | apply wE | apply wF | apply wG | apply wH | apply wI | apply wJ | apply wK | apply wL | apply wM | apply wN | apply wO | apply wP | apply wQ rfl | apply wR | apply wS | apply wT | apply wU)) | ((with_reducible (first | apply wV | apply wW | apply wX | (apply wY [] hTT cfNf_ok noM_ok mixed; (focus kernel_rfl)))); (focus (simp only [Tryz.f121, hlt2, hr', List.length_map, go_sem]; with_reducible rfl))) | (with_reducible refine wZ hTT cfNf_ok noM_ok ?_) | (with_reducible refine wa ?_; refine And.intro ?_ ?_; (focus kernel_rfl)))
    refine RunQ.keep [39, 38, 32, 31, 30, 8, 7, 6, 3, 2, 1] (by simp only [go_sem]; rfl) ?_
    refine RunQ.loop (fun k s' => ∃ d : Nat, d + sumR (i + 1) k (r.drop k) = c + sumR (i + 1) 0 r ∧ d ≤ c + 255000000 * k ∧ s' = ⟨[(39, ii k), (38, ii r.length), (8, .str r), (7, ii i), (32, ii i), (31, ii R.length), (30, .ms 1 R.length), (6, ii d), (3, .ms 1 R.length), (2, .str []), (1, .bp 0 0)], 77, [.var [ii s, .sl z (ls.map encLb)] false, .row false 9 1 (R.map PV.str) false]⟩) r.length ⟨c, rfl, Nat.le_add_right _ _, rfl⟩ ?_
    rintro k _ hk ⟨d, hd, hdl, rfl⟩
    by_cases hkl : k < r.length
    · obtain ⟨x, hx⟩ : ∃ x, r[k]? = some x := ⟨_, List.getElem?_eq_getElem hkl⟩
      have hkl' : (k : Int) < r.length := by omega
      have hxl := x.toNat_lt
      have e5 : IntKind.i64.wrap ((k : Int) + 1) = ((k + 1 : Nat) : Int) := wrap_id (by omega) (by omega)
      have e6 : IntKind.i64.wrap ((x.toNat : Nat) : Int) = ((x.toNat : Nat) : Int) := wrap_id (by omega) (by omega)
      have b1 : x.toNat * (k + 1) ≤ 255 * 1000 := Nat.mul_le_mul (by omega) (by omega)
      have b2 : x.toNat * (k + 1) * (i + 1) ≤ 255 * 1000 * 1000 := Nat.mul_le_mul b1 (by omega)
      have m1 : ((x.toNat : Nat) : Int) * ((k + 1 : Nat) : Int) = ((x.toNat * (k + 1) : Nat) : Int) := by rw [Int.natCast_mul]
      have m2 : ((x.toNat * (k + 1) : Nat) : Int) * ((i + 1 : Nat) : Int) = ((x.toNat * (k + 1) * (i + 1) : Nat) : Int) := by rw [Int.natCast_mul (x.toNat * (k + 1))]
      have hsr : sumR (i + 1) k (r.drop k) = x.toNat * (k + 1) * (i + 1) + sumR (i + 1) (k + 1) (r.drop (k + 1)) := by rw [drop_get hx]; rfl
      rw [hsr] at hd
      generalize x.toNat * (k + 1) * (i + 1) = p2 at b2 m2 hd
      generalize x.toNat * (k + 1) = p1 at b1 m1 m2
      have e7 : IntKind.i64.wrap (((x.toNat : Nat) : Int) * ((k + 1 : Nat) : Int)) = (p1 : Nat) := by rw [m1]; exact wrap_id (by omega) (by omega)
      have e8 : IntKind.i64.wrap ((p1 : Int) * ((i + 1 : Nat) : Int)) = (p2 : Nat) := by rw [m2]; exact wrap_id (by omega) (by omega)
      have e9 : IntKind.i64.wrap ((d : Int) + (p2 : Int)) = ((d + p2 : Nat) : Int) := wrap_id (by omega) (by omega)
      repeat (first | (with_reducible (first | apply wA | apply wB | apply wC | apply wD | apply wE | apply wF | apply wG | apply wH | apply wI | apply wJ | apply wK | apply wL | apply wM | apply wN | apply wO | apply wP | apply wQ rfl | apply wR | apply wS | apply wT | apply wU)) | ((with_reducible (first | apply wV | apply wW | apply wX | (apply wY [] hTT cfNf_ok noM_ok mixed; (focus kernel_rfl)))); (focus (simp only [Tryz.f121, hkl', hx, e4, e5, e6, e7, e8, e9, go_sem]; with_reducible rfl))) | (with_reducible refine wZ hTT cfNf_ok noM_ok ?_) | (with_reducible refine wa ?_; refine And.intro ?_ ?_; (focus kernel_rfl)))
      refine roundQ.t 2 [39, 38, 32, 31, 30, 8, 7, 6, 3, 2, 1] hkl (by simp only [ltB_lbs, ltB_strs, go_sem]) ⟨d + p2, by omega, by omega, by simp only [go_sem]⟩
    · have hkl' : ¬ (k : Int) < r.length := by omega
      rw [List.drop_eq_nil_of_le (by omega)] at hd
      have hd : d = c + sumR (i + 1) 0 r := hd
      repeat (first | (with_reducible (first | apply wA | apply wB | apply wC | apply wD | apply wE | apply wF | apply wG | apply wH | apply wI | apply wJ | apply wK | apply wL | apply wM | apply wN | apply wO | apply wP | apply wQ rfl | apply wR | apply wS | apply wT | apply wU)) | ((with_reducible (first | apply wV | apply wW | apply wX | (apply wY [] hTT cfNf_ok noM_ok mixed; (focus kernel_rfl)))); (focus (simp only [Tryz.f121, hkl', e4, go_sem]; with_reducible rfl))) | (with_reducible refine wZ hTT cfNf_ok noM_ok ?_) | (with_reducible refine wa ?_; refine And.intro ?_ ?_; (focus kernel_rfl)))
      refine roundQ.t 2 [32, 31, 30, 6, 3, 2, 1] hlt (by simp only [ltB_lbs, ltB_strs, go_sem]) ⟨d, by omega, by omega, by simp only [go_sem]⟩
  · have hlt2 : ¬ (i : Int) < R.length := by omega
    obtain rfl : i = R.length := by omega
    rw [List.drop_length] at hc
    have hc : sumS 0 R = c := hc
    have hd : c % 179 < 179 := Nat.mod_lt _ (by decide)
    have t1 : ((c : Nat) : Int).tmod 179 = ((c % 179 : Nat) : Int) := by rw [Int.tmod_eq_emod_of_nonneg (by omega)]; omega
    have hj := join_lines R (endR R)
    have hll := lines_len 44 R hRe
    have hdl := dig_len (c % 179) hd
    have hjl : (Lib.join (R ++ [endR R]) [10]).length ≤ 140737488355328 := by
      have := congrArg List.length hj
      unfold endR at this ⊢
      rw [hc] at this ⊢
      simp only [List.length_append, List.length_cons, List.length_nil] at this hll ⊢
      omega
    have hseal : sealF R = Lib.join (R ++ [endR R]) [10] ++ [10] := by rw [hj]; rfl
    have hend : endR R = 101 :: 110 :: 100 :: 32 :: digF (c % 179) := by unfold endR; rw [hc]
    rw [hseal]
    have hdS : decL decS ((R ++ [endR R]).map PV.str) = some (R ++ [endR R]) := decSs_map _
    unfold digF at hend
    generalize c % 179 = d at hd t1 hend
    have t2 : IntKind.i64.wrap (((d : Nat) : Int).tdiv 100) = ((d / 100 : Nat) : Int) := by rw [Int.tdiv_eq_ediv_of_nonneg (by omega)]; exact (wrap_id (by omega) (by omega)).trans (by omega)
    have t3 : IntKind.i64.wrap (((d : Nat) : Int).tdiv 10) = ((d / 10 : Nat) : Int) := by rw [Int.tdiv_eq_ediv_of_nonneg (by omega)]; exact (wrap_id (by omega) (by omega)).trans (by omega)
    have t4 : ((d / 10 : Nat) : Int).tmod 10 = ((d / 10 % 10 : Nat) : Int) := by rw [Int.tmod_eq_emod_of_nonneg (by omega)]; omega
    have t5 : ((d : Nat) : Int).tmod 10 = ((d % 10 : Nat) : Int) := by rw [Int.tmod_eq_emod_of_nonneg (by omega)]; omega
    have n1 : (((d / 100 : Nat) : Int)).natAbs < 1000000 := by omega
    have n2 : (((d / 10 % 10 : Nat) : Int)).natAbs < 1000000 := by omega
    have n3 : (((d % 10 : Nat) : Int)).natAbs < 1000000 := by omega
    have h179 : ¬ (179 : Int) = 0 := by decide
    have h100 : ¬ (100 : Int) = 0 := by decide
    have h10 : ¬ (10 : Int) = 0 := by decide
    have q1 := itoa_len 5 _ n1 (Nat.le_refl _)
    have q2 := itoa_len 5 _ n2 (Nat.le_refl _)
    have q3 := itoa_len 5 _ n3 (Nat.le_refl _)
    have r1 : -9223372036854775808 ≤ ((d / 100 : Nat) : Int) ∧ ((d / 100 : Nat) : Int) ≤ 9223372036854775807 := by omega
    have r2 : -9223372036854775808 ≤ ((d / 10 % 10 : Nat) : Int) ∧ ((d / 10 % 10 : Nat) : Int) ≤ 9223372036854775807 := by omega
    have r3 : -9223372036854775808 ≤ ((d % 10 : Nat) : Int) ∧ ((d % 10 : Nat) : Int) ≤ 9223372036854775807 := by omega
    generalize ((d / 100 : Nat) : Int) = A at *
    generalize ((d / 10 % 10 : Nat) : Int) = B at *
    generalize ((d % 10 : Nat) : Int) = C at *
    have ha1 := r1.1
    have ha2 := r1.2
    have ha3 := r2.1
    have ha4 := r2.2
    have ha5 := r3.1
    have ha6 := r3.2
    have p1 : (itoaF A).length ≤ maxLen := by unfold maxLen; omega
    have p2 : (itoaF B).length ≤ maxLen := by unfold maxLen; omega
    have p3 : (itoaF C).length ≤ maxLen := by unfold maxLen; omega
    have l1 : 4 + (itoaF A).length ≤ maxLen := by unfold maxLen; omega
    have l2 : (itoaF A).length + 1 + 1 + 1 + 1 + (itoaF B).length ≤ maxLen := by unfold maxLen; omega
    have l3 : (itoaF A).length + (itoaF B).length + 1 + 1 + 1 + 1 + (itoaF C).length ≤ maxLen := by unfold maxLen; omega
    have l4 : R.length + 1 ≤ maxLen := by unfold maxLen; omega
    have l5 : (R.length + 1) * 16 ≤ 140737488355328 := by omega
    have hend' : 101 :: 110 :: 100 :: 32 :: (itoaF A ++ itoaF B ++ itoaF C) = endR R := by rw [hend, List.append_assoc]
    repeat (first | (with_reducible (first | apply wA | ((fail_if_success (refine RunQ.seq (x := .region 19 _ _) ?_)); (apply wB)) | apply wC | apply wD | apply wE | apply wF | apply wG | apply wH | apply wI | apply wJ | apply wK | apply wL | apply wM | apply wN | apply wO | apply wP | apply wQ rfl | apply wR | apply wS | apply wT | apply wU)) | ((with_reducible (first | apply wV | apply wW | apply wX | (apply wY [] hTT cfNf_ok noM_ok mixed; (focus kernel_rfl)))); (focus (simp only [Tryz.f121, cfNf, c152, hlt2, t1, t2, t3, t4, t5, h179, h100, h10, ha1, ha2, ha3, ha4, ha5, ha6, p1, p2, p3, l1, l2, l3, l4, l5, hend', hall, List.length_map, go_sem]; with_reducible rfl))) | ((fail_if_success (with_reducible show RunQ _ (.region 19 _ _) _ _)); (with_reducible refine wZ hTT cfNf_ok noM_ok ?_)) | (with_reducible refine wa ?_; refine And.intro ?_ ?_; (focus kernel_rfl)))
    refine RunQ.keep [3, 2, 1] (by simp only [go_sem]; rfl) ?_
    rw [← hend]
    have hdS : decL decS (R.map PV.str ++ [PV.str (endR R)]) = some (R ++ [endR R]) := by rw [List.map_append] at hdS; exact hdS
    have g1 : R.length + 1 ≤ 140737488355328 := by omega
    have g2 : (Lib.join (R ++ [endR R]) [10]).length + 1 ≤ maxLen := by unfold maxLen; omega
    generalize endR R = E at hdS hjl g2 ⊢
    generalize hJ : Lib.join (R ++ [E]) [10] = J at hjl g2 ⊢
    repeat (first | (with_reducible (first | apply wA | apply wB | apply wC | apply wD | apply wE | apply wF | apply wG | apply wH | apply wI | apply wJ | apply wK | apply wL | apply wM | apply wN | apply wO | apply wP | apply wQ rfl | apply wR | apply wS | apply wT | apply wU)) | ((with_reducible (first | apply wV | apply wW | apply wX | (apply wY [] hTT cfNf_ok noM_ok mixed; (focus kernel_rfl)))); (focus (simp only [Tryz.f121, cfNf, c153, rowX, hdS, hJ, g1, g2, hjl, List.length_map, List.length_append, List.length_singleton, go_sem]; with_reducible rfl))) | (with_reducible refine wZ hTT cfNf_ok noM_ok ?_) | (with_reducible refine wa ?_; refine And.intro ?_ ?_; (focus kernel_rfl)))
    exact ⟨rfl, rfl, _, rfl, rfl⟩
def c121 : List PV → List Box → Option (PRes × List Box)
  | [v], sg => match decFig v with
    | some (s, ls) => if ls.length ≤ 900 ∧ smallF s ls = true then some (.ret (.str (textF s ls)), sg) else none
    | none => none
  | _, _ => none
theorem c121_ok : ConOk Tryz.prog 121 c121 := ConOk.of0 (ent Tryz.func121 rfl) fun args sg r sg' h => by
  unfold c121 at h
  split at h <;> try (cases h; done)
  split at h <;> try (cases h; done)
  rename_i h1
  split at h <;> cases h
  rename_i hc
  obtain ⟨z, rfl, hz⟩ := decFig_inv h1
  exact ⟨_, rfl, rfl, by rw [ltBL_cons, ltB_fig]; rfl, text_121 _ _ _ (zOk_n' hz) hc.1 hc.2⟩
def printR (s : Int) (ls : List Lb) : PV := if figB s ls = true then .tuple [.str (textF s ls), ii 0] else .tuple [.str [], ii 2]
def cfNp : CallF := cfAdd (cfAdd cf0 85 c85) 121 c121
theorem cfNp_ok : CallFOk Tryz.prog cfNp := cfAdd_ok (cfAdd_ok cf0_ok c85_ok) c121_ok
theorem Print_75 (s : Int) (z : Z) (ls : List Lb) (hzo : zOk z (ls.map encLb) = true) : CallOk Tryz.prog 75 [.agg [ii s, .sl z (ls.map encLb)]] [] (.ret (printR s ls)) [] := by
  refine CallOk.of0 hTT Tryz.func75 rfl rfl ?_
  have hd := decFig_enc s z ls hzo
  unfold printR
  cases hf : figB s ls
  · rw [if_neg (by simp)]
    repeat (first | (with_reducible (first | apply wA | apply wB | apply wC | apply wD | apply wE | apply wF | apply wG | apply wH | apply wI | apply wJ | apply wK | apply wL | apply wM | apply wN | apply wO | apply wP | apply wQ rfl | apply wR | apply wS | apply wT | apply wU)) | ((with_reducible (first | apply wV | apply wW | apply wX | (apply wY [] hTT cfNp_ok noM_ok mixed; (focus kernel_rfl)))); (focus (simp only [Tryz.f75, cfNp, c85, hd, hf, go_sem]; with_reducible rfl))) | (with_reducible refine wZ hTT cfNp_ok noM_ok ?_) | (with_reducible refine wa ?_; refine And.intro ?_ ?_; (focus kernel_rfl)))
    exact ⟨rfl, rfl, _, rfl, rfl⟩
  · have h1 := small_tiny (fig_tiny hf)
    have h2 : ls.length ≤ 900 := by have := fig_len hf; omega
    rw [if_pos rfl]
    repeat (first | (with_reducible (first | apply wA | apply wB | apply wC | apply wD | apply wE | apply wF | apply wG | apply wH | apply wI | apply wJ | apply wK | apply wL | apply wM | apply wN | apply wO | apply wP | apply wQ rfl | apply wR | apply wS | apply wT | apply wU)) | ((with_reducible (first | apply wV | apply wW | apply wX | (apply wY [] hTT cfNp_ok noM_ok mixed; (focus kernel_rfl)))); (focus (simp only [Tryz.f75, cfNp, c85, c121, hd, hf, h1, h2, go_sem]; with_reducible rfl))) | (with_reducible refine wZ hTT cfNp_ok noM_ok ?_) | (with_reducible refine wa ?_; refine And.intro ?_ ?_; (focus kernel_rfl)))
    exact ⟨rfl, rfl, _, rfl, rfl⟩
def c75 : List PV → List Box → Option (PRes × List Box)
  | [v], sg => match decFig v with
    | some (s, ls) => some (.ret (printR s ls), sg)
    | none => none
  | _, _ => none
theorem c75_ok : ConOk Tryz.prog 75 c75 := ConOk.of0 (ent Tryz.func75 rfl) fun args sg r sg' h => by
  unfold c75 at h
  split at h <;> try (cases h; done)
  split at h <;> cases h
  rename_i h1
  obtain ⟨z, rfl, hz⟩ := decFig_inv h1
  exact ⟨_, rfl, rfl, by rw [ltBL_cons, ltB_fig]; rfl, Print_75 _ _ _ (zOk_n' hz)⟩
end Go.Pv
