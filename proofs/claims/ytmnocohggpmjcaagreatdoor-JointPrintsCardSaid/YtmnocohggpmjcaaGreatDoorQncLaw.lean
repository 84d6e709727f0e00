/- The laws JointPrints and JointReads: their functions return true, whatever they are given. -/
import Derived.Test.YtmnocohggpmjcaaGreatDoorQncRead
import Derived.Test.YtmnocohggpmjcaaGreatDoorQgEnds
set_option linter.all false
namespace Go.Pv
open Go Go.RowKit Go.Proofs
set_option maxRecDepth 200000
set_option maxHeartbeats 8000000
theorem sameF_self (s : Int) (ls : List Lb) : sameF s ls s ls = true := by
  unfold sameF
  rw [beq_self_eq_true, lbsE_iff.2 rfl]; rfl
def cfNl : CallF := cfAdd (cfAdd (cfAdd (cfAdd (cfAdd (cfAdd (cfAdd (cfAdd cf0 25 c25) 29 c29) 26 c85) 75 c75) 76 c76) 77 c77) 78 c78) 79 c79
theorem cfNl_ok (hk : ConOk Tryz.prog 29 c29) : CallFOk Tryz.prog cfNl := cfAdd_ok (cfAdd_ok (cfAdd_ok (cfAdd_ok (cfAdd_ok (cfAdd_ok (cfAdd_ok (cfAdd_ok cf0_ok c25_ok) hk) c26_ok) c75_ok) c76_ok) c77_ok) c78_ok) c79_ok
theorem decFig_v (s : Int) (ls : List Lb) : decFig (.agg [ii s, .sl (if decide (ls.length = 0) = true then .n else .a) (ls.map encLb)]) = some (s, ls) := decFig_enc _ _ _ (zOk_n' fun e => by
  split at e
  · rename_i h
    exact List.length_eq_zero_iff.1 (of_decide_eq_true h)
  · cases e)
theorem prints_22 (hk : ConOk Tryz.prog 29 c29) (s : Int) (z : Z) (ls : List Lb) (hzo : zOk z (ls.map encLb) = true) : CallOk Tryz.prog 22 [.agg [ii s, .sl z (ls.map encLb)]] [] (.ret (.bool true)) [] := by
  refine CallOk.of0 hTT Tryz.func22 rfl rfl ?_
  have hd := decFig_enc s z ls hzo
  by_cases h0 : ls.length ≤ 7
  case neg =>
    have h0' : decide (ls.length ≤ 7) = false := by simp; omega
    repeat (first | (with_reducible (first | apply wA | apply wB | apply wC | apply wD | apply wE | apply wF | apply wG | apply wH | apply wI | apply wJ | apply wK | apply wL | apply wM | apply wN | apply wO | apply wP | apply wQ rfl | apply wR | apply wS | apply wT | apply wU)) | ((with_reducible (first | apply wV | apply wW | apply wX | (apply wY [] hTT (cfNl_ok hk) noM_ok mixed; (focus kernel_rfl)))); (focus (simp only [Tryz.f22, cfNl, c25, c29, hd, h0', go_sem]; with_reducible rfl))) | (with_reducible refine wZ hTT (cfNl_ok hk) noM_ok ?_) | (with_reducible refine wa ?_; refine And.intro ?_ ?_; (focus kernel_rfl)))
    exact ⟨rfl, rfl, _, rfl, rfl⟩
  have h0' : decide (ls.length ≤ 7) = true := by simp; omega
  cases a0 : figB s ls
  · have hP : printR s ls = .tuple [.str [], ii 2] := by unfold printR; rw [a0]; rfl
    repeat (first | (with_reducible (first | apply wA | apply wB | apply wC | apply wD | apply wE | apply wF | apply wG | apply wH | apply wI | apply wJ | apply wK | apply wL | apply wM | apply wN | apply wO | apply wP | apply wQ rfl | apply wR | apply wS | apply wT | apply wU)) | ((with_reducible (first | apply wV | apply wW | apply wX | (apply wY [] hTT (cfNl_ok hk) noM_ok mixed; (focus kernel_rfl)))); (focus (simp only [Tryz.f22, cfNl, c25, c29, c75, c85, hd, h0', hP, a0, beq_self_eq_true, go_sem]; with_reducible rfl))) | (with_reducible refine wZ hTT (cfNl_ok hk) noM_ok ?_) | (with_reducible refine wa ?_; refine And.intro ?_ ?_; (focus kernel_rfl)))
    exact ⟨rfl, rfl, _, rfl, rfl⟩
  have hT := fig_tiny a0
  have hS := small_tiny hT
  have hl := fig_len a0
  have hL := text_len hT
  have h9 : ls.length ≤ 900 := by omega
  have h10 : ls.length ≤ 100000 := by omega
  have ht : (textF s ls).length ≤ 100000 := by omega
  have hP : printR s ls = .tuple [.str (textF s ls), ii 0] := by unfold printR; rw [a0]; rfl
  have hR : readP (textF s ls) = .tuple [.agg [ii s, .sl (if decide (ls.length = 0) = true then .n else .a) (ls.map encLb)], ii 0] := by
    unfold readP
    rw [if_neg (by omega), parsed_text hT]
    dsimp only
    rw [if_pos a0]
    rfl
  have hdv := decFig_v s ls
  have hsf := sameF_self s ls
  generalize (if decide (ls.length = 0) = true then Z.n else Z.a) = zz at hR hdv
  repeat (first | (with_reducible (first | apply wA | apply wB | apply wC | apply wD | apply wE | apply wF | apply wG | apply wH | apply wI | apply wJ | apply wK | apply wL | apply wM | apply wN | apply wO | apply wP | apply wQ rfl | apply wR | apply wS | apply wT | apply wU)) | ((with_reducible (first | apply wV | apply wW | apply wX | (apply wY [] hTT (cfNl_ok hk) noM_ok mixed; (focus kernel_rfl)))); (focus (simp only [Tryz.f22, cfNl, c25, c29, c75, c76, c77, c78, c85, hd, hdv, h0', h9, h10, ht, hP, hR, hS, hsf, a0, beq_self_eq_true, go_sem]; with_reducible rfl))) | (with_reducible refine wZ hTT (cfNl_ok hk) noM_ok ?_) | (with_reducible refine wa ?_; refine And.intro ?_ ?_; (focus kernel_rfl)))
  exact ⟨rfl, rfl, _, rfl, rfl⟩
theorem reads_23 (hk : ConOk Tryz.prog 29 c29) (t : List UInt8) : CallOk Tryz.prog 23 [.str t] [] (.ret (.bool true)) [] := by
  refine CallOk.of0 hTT Tryz.func23 rfl rfl ?_
  by_cases h3 : (300 : Int) < ((t.length : Nat) : Int)
  · repeat (first | (with_reducible (first | apply wA | apply wB | apply wC | apply wD | apply wE | apply wF | apply wG | apply wH | apply wI | apply wJ | apply wK | apply wL | apply wM | apply wN | apply wO | apply wP | apply wQ rfl | apply wR | apply wS | apply wT | apply wU)) | ((with_reducible (first | apply wV | apply wW | apply wX | (apply wY [] hTT (cfNl_ok hk) noM_ok mixed; (focus kernel_rfl)))); (focus (simp only [Tryz.f23, cfNl, c29, h3, gt_iff_lt, go_sem]; with_reducible rfl))) | (with_reducible refine wZ hTT (cfNl_ok hk) noM_ok ?_) | (with_reducible refine wa ?_; refine And.intro ?_ ?_; (focus kernel_rfl)))
    exact ⟨rfl, rfl, _, rfl, rfl⟩
  have ht : t.length ≤ 100000 := by omega
  have ht8 : t.length ≤ 800 := by omega
  have hdz : decFig (.agg [PV.int .i64 0, .sl .n []]) = some (0, []) := rfl
  have hdz2 : decFig (.agg [ii 0, .sl .n []]) = some (0, []) := rfl
  have hl0 : ([] : List Lb).length ≤ 100000 := by decide
  have hsz := sameF_self 0 []
  have b30 : ((3 : Int) != 0) = true := rfl
  have b40 : ((4 : Int) != 0) = true := rfl
  by_cases h2 : (200 : Int) < ((t.length : Nat) : Int)
  · have hR : readP t = .tuple [.agg [ii 0, .sl .n []], ii 3] := by unfold readP; rw [if_pos (by omega)]; rfl
    cases hr : readR t with
    | none =>
      have hV : readRV t = .tuple [.agg [ii 0, .sl .n []], .bool false] := by unfold readRV; rw [hr]; rfl
      repeat (first | (with_reducible (first | apply wA | apply wB | apply wC | apply wD | apply wE | apply wF | apply wG | apply wH | apply wI | apply wJ | apply wK | apply wL | apply wM | apply wN | apply wO | apply wP | apply wQ rfl | apply wR | apply wS | apply wT | apply wU)) | ((with_reducible (first | apply wV | apply wW | apply wX | (apply wY [] hTT (cfNl_ok hk) noM_ok mixed; (focus kernel_rfl)))); (focus (simp only [Tryz.f23, cfNl, c29, c76, c78, c79, c85, h3, h2, ht, ht8, hR, hV, hdz, hdz2, hl0, hsz, b30, b40, gt_iff_lt, beq_self_eq_true, go_sem]; with_reducible rfl))) | (with_reducible refine wZ hTT (cfNl_ok hk) noM_ok ?_) | (with_reducible refine wa ?_; refine And.intro ?_ ?_; (focus kernel_rfl)))
      exact ⟨rfl, rfl, _, rfl, rfl⟩
    | some f =>
      obtain ⟨s, ls⟩ := f
      have hV : readRV t = .tuple [.agg [ii s, .sl (if decide (ls.length = 0) = true then .n else .a) (ls.map encLb)], .bool true] := by unfold readRV; rw [hr]; rfl
      generalize (if decide (ls.length = 0) = true then Z.n else Z.a) = zz at hV
      repeat (first | (with_reducible (first | apply wA | apply wB | apply wC | apply wD | apply wE | apply wF | apply wG | apply wH | apply wI | apply wJ | apply wK | apply wL | apply wM | apply wN | apply wO | apply wP | apply wQ rfl | apply wR | apply wS | apply wT | apply wU)) | ((with_reducible (first | apply wV | apply wW | apply wX | (apply wY [] hTT (cfNl_ok hk) noM_ok mixed; (focus kernel_rfl)))); (focus (simp only [Tryz.f23, cfNl, c29, c76, c78, c79, c85, h3, h2, ht, ht8, hR, hV, hdz, hdz2, hl0, hsz, b30, b40, gt_iff_lt, beq_self_eq_true, go_sem]; with_reducible rfl))) | (with_reducible refine wZ hTT (cfNl_ok hk) noM_ok ?_) | (with_reducible refine wa ?_; refine And.intro ?_ ?_; (focus kernel_rfl)))
      exact ⟨rfl, rfl, _, rfl, rfl⟩
  cases hr : readR t with
  | none =>
    have hV : readRV t = .tuple [.agg [ii 0, .sl .n []], .bool false] := by unfold readRV; rw [hr]; rfl
    have hR : readP t = .tuple [.agg [ii 0, .sl .n []], ii 4] := by
      unfold readP
      rw [if_neg (by omega)]
      cases hp : parsedE t with
      | error e => rfl
      | ok f => have := (read_alike t f).1 hp; rw [hr] at this; cases this
    repeat (first | (with_reducible (first | apply wA | apply wB | apply wC | apply wD | apply wE | apply wF | apply wG | apply wH | apply wI | apply wJ | apply wK | apply wL | apply wM | apply wN | apply wO | apply wP | apply wQ rfl | apply wR | apply wS | apply wT | apply wU)) | ((with_reducible (first | apply wV | apply wW | apply wX | (apply wY [] hTT (cfNl_ok hk) noM_ok mixed; (focus kernel_rfl)))); (focus (simp only [Tryz.f23, cfNl, c29, c76, c78, c79, c85, h3, h2, ht, ht8, hR, hV, hdz, hdz2, hl0, hsz, b30, b40, gt_iff_lt, beq_self_eq_true, go_sem]; with_reducible rfl))) | (with_reducible refine wZ hTT (cfNl_ok hk) noM_ok ?_) | (with_reducible refine wa ?_; refine And.intro ?_ ?_; (focus kernel_rfl)))
    exact ⟨rfl, rfl, _, rfl, rfl⟩
  | some f =>
    have hp := (read_alike t f).2 hr
    obtain ⟨s, ls⟩ := f
    have htx : textF s ls = t := (readR_ok hr).1
    have hV : readRV t = .tuple [.agg [ii s, .sl (if decide (ls.length = 0) = true then .n else .a) (ls.map encLb)], .bool true] := by unfold readRV; rw [hr]; rfl
    have hdv := decFig_v s ls
    have b20 : ((2 : Int) != 0) = true := rfl
    have b00 : ((0 : Int) != 0) = false := rfl
    cases a0 : figB s ls
    · have hR : readP t = .tuple [.agg [ii 0, .sl .n []], ii 2] := by
        unfold readP
        rw [if_neg (by omega), hp]
        dsimp only
        rw [a0]
        rfl
      generalize (if decide (ls.length = 0) = true then Z.n else Z.a) = zz at hV hdv
      repeat (first | (with_reducible (first | apply wA | apply wB | apply wC | apply wD | apply wE | apply wF | apply wG | apply wH | apply wI | apply wJ | apply wK | apply wL | apply wM | apply wN | apply wO | apply wP | apply wQ rfl | apply wR | apply wS | apply wT | apply wU)) | ((with_reducible (first | apply wV | apply wW | apply wX | (apply wY [] hTT (cfNl_ok hk) noM_ok mixed; (focus kernel_rfl)))); (focus (simp only [Tryz.f23, cfNl, c29, c76, c78, c79, c85, h3, h2, ht, ht8, hR, hV, hdv, hdz, hdz2, hl0, hsz, a0, b20, gt_iff_lt, beq_self_eq_true, go_sem]; with_reducible rfl))) | (with_reducible refine wZ hTT (cfNl_ok hk) noM_ok ?_) | (with_reducible refine wa ?_; refine And.intro ?_ ?_; (focus kernel_rfl)))
      exact ⟨rfl, rfl, _, rfl, rfl⟩
    · have hR : readP t = .tuple [.agg [ii s, .sl (if decide (ls.length = 0) = true then .n else .a) (ls.map encLb)], ii 0] := by
        unfold readP
        rw [if_neg (by omega), hp]
        dsimp only
        rw [a0]
        rfl
      have hP : printR s ls = .tuple [.str t, ii 0] := by unfold printR; rw [a0, htx]; rfl
      have hsf := sameF_self s ls
      have hl := fig_len a0
      have h10 : ls.length ≤ 100000 := by omega
      generalize (if decide (ls.length = 0) = true then Z.n else Z.a) = zz at hV hdv hR
      repeat (first | (with_reducible (first | apply wA | apply wB | apply wC | apply wD | apply wE | apply wF | apply wG | apply wH | apply wI | apply wJ | apply wK | apply wL | apply wM | apply wN | apply wO | apply wP | apply wQ rfl | apply wR | apply wS | apply wT | apply wU)) | ((with_reducible (first | apply wV | apply wW | apply wX | (apply wY [] hTT (cfNl_ok hk) noM_ok mixed; (focus kernel_rfl)))); (focus (simp only [Tryz.f23, cfNl, c29, c75, c76, c78, c79, c85, h3, h2, h10, ht, ht8, hP, hR, hV, hdv, hl0, hsf, a0, b00, gt_iff_lt, beq_self_eq_true, go_sem]; with_reducible rfl))) | (with_reducible refine wZ hTT (cfNl_ok hk) noM_ok ?_) | (with_reducible refine wa ?_; refine And.intro ?_ ?_; (focus kernel_rfl)))
      exact ⟨rfl, rfl, _, rfl, rfl⟩
end Go.Pv
