/- The law JointSpoilt: its function returns true, whatever it is given. -/
import Derived.Test.YtmnocohggpmjcaaGreatDoorQncLaw
import Derived.Test.YtmnocohggpmjcaaGreatDoorQlByt
set_option linter.all false
namespace Go.Pv
open Go Go.RowKit Go.Proofs
set_option maxRecDepth 200000
set_option maxHeartbeats 8000000
theorem spoilt_24 (hk : ConOk Tryz.prog 29 c29) (s : Int) (z : Z) (ls : List Lb) (x d : Int) (hzo : zOk z (ls.map encLb) = true) : CallOk Tryz.prog 24 [.agg [ii s, .sl z (ls.map encLb)], ii x, ii d] [] (.ret (.bool true)) [] := by
  refine CallOk.of0 hTT Tryz.func24 rfl rfl ?_
  have hd := decFig_enc s z ls hzo
  by_cases h0 : ls.length ≤ 7
  case neg =>
    have h0' : decide (ls.length ≤ 7) = false := by simp; omega
    repeat (first | (with_reducible (first | apply wA | apply wB | apply wC | apply wD | apply wE | apply wF | apply wG | apply wH | apply wI | apply wJ | apply wK | apply wL | apply wM | apply wN | apply wO | apply wP | apply wQ rfl | apply wR | apply wS | apply wT | apply wU)) | ((with_reducible (first | apply wV | apply wW | apply wX | (apply wY [] hTT (cfNl_ok hk) noM_ok mixed; (focus kernel_rfl)))); (focus (simp only [Tryz.f24, cfNl, c25, c29, hd, h0', go_sem]; with_reducible rfl))) | (with_reducible refine wZ hTT (cfNl_ok hk) noM_ok ?_) | (with_reducible refine wa ?_; refine And.intro ?_ ?_; (focus kernel_rfl)))
    exact ⟨rfl, rfl, _, rfl, rfl⟩
  have h0' : decide (ls.length ≤ 7) = true := by simp; omega
  cases a0 : figB s ls
  · repeat (first | (with_reducible (first | apply wA | apply wB | apply wC | apply wD | apply wE | apply wF | apply wG | apply wH | apply wI | apply wJ | apply wK | apply wL | apply wM | apply wN | apply wO | apply wP | apply wQ rfl | apply wR | apply wS | apply wT | apply wU)) | ((with_reducible (first | apply wV | apply wW | apply wX | (apply wY [] hTT (cfNl_ok hk) noM_ok mixed; (focus kernel_rfl)))); (focus (simp only [Tryz.f24, cfNl, c25, c29, c85, hd, h0', a0, go_sem]; with_reducible rfl))) | (with_reducible refine wZ hTT (cfNl_ok hk) noM_ok ?_) | (with_reducible refine wa ?_; refine And.intro ?_ ?_; (focus kernel_rfl)))
    exact ⟨rfl, rfl, _, rfl, rfl⟩
  by_cases d1 : d < 0
  · repeat (first | (with_reducible (first | apply wA | apply wB | apply wC | apply wD | apply wE | apply wF | apply wG | apply wH | apply wI | apply wJ | apply wK | apply wL | apply wM | apply wN | apply wO | apply wP | apply wQ rfl | apply wR | apply wS | apply wT | apply wU)) | ((with_reducible (first | apply wV | apply wW | apply wX | (apply wY [] hTT (cfNl_ok hk) noM_ok mixed; (focus kernel_rfl)))); (focus (simp only [Tryz.f24, cfNl, c25, c29, c85, hd, h0', a0, d1, go_sem]; with_reducible rfl))) | (with_reducible refine wZ hTT (cfNl_ok hk) noM_ok ?_) | (with_reducible refine wa ?_; refine And.intro ?_ ?_; (focus kernel_rfl)))
    exact ⟨rfl, rfl, _, rfl, rfl⟩
  by_cases d2 : (9 : Int) < d
  · repeat (first | (with_reducible (first | apply wA | apply wB | apply wC | apply wD | apply wE | apply wF | apply wG | apply wH | apply wI | apply wJ | apply wK | apply wL | apply wM | apply wN | apply wO | apply wP | apply wQ rfl | apply wR | apply wS | apply wT | apply wU)) | ((with_reducible (first | apply wV | apply wW | apply wX | (apply wY [] hTT (cfNl_ok hk) noM_ok mixed; (focus kernel_rfl)))); (focus (simp only [Tryz.f24, cfNl, c25, c29, c85, hd, h0', a0, d1, d2, gt_iff_lt, go_sem]; with_reducible rfl))) | (with_reducible refine wZ hTT (cfNl_ok hk) noM_ok ?_) | (with_reducible refine wa ?_; refine And.intro ?_ ?_; (focus kernel_rfl)))
    exact ⟨rfl, rfl, _, rfl, rfl⟩
  have hT := fig_tiny a0
  have hS := small_tiny hT
  have hl := fig_len a0
  have hL := text_len hT
  have hP : printR s ls = .tuple [.str (textF s ls), ii 0] := by unfold printR; rw [a0]; rfl
  have b00 : ((0 : Int) != 0) = false := rfl
  generalize htx : textF s ls = t at hL hP
  by_cases x1 : x < 0
  · repeat (first | (with_reducible (first | apply wA | apply wB | apply wC | apply wD | apply wE | apply wF | apply wG | apply wH | apply wI | apply wJ | apply wK | apply wL | apply wM | apply wN | apply wO | apply wP | apply wQ rfl | apply wR | apply wS | apply wT | apply wU)) | ((with_reducible (first | apply wV | apply wW | apply wX | (apply wY [] hTT (cfNl_ok hk) noM_ok mixed; (focus kernel_rfl)))); (focus (simp only [Tryz.f24, cfNl, c25, c29, c75, c85, hd, h0', a0, d1, d2, hP, b00, x1, gt_iff_lt, ge_iff_le, go_sem]; with_reducible rfl))) | (with_reducible refine wZ hTT (cfNl_ok hk) noM_ok ?_) | (with_reducible refine wa ?_; refine And.intro ?_ ?_; (focus kernel_rfl)))
    exact ⟨rfl, rfl, _, rfl, rfl⟩
  by_cases x2 : ((t.length : Nat) : Int) ≤ x
  · repeat (first | (with_reducible (first | apply wA | apply wB | apply wC | apply wD | apply wE | apply wF | apply wG | apply wH | apply wI | apply wJ | apply wK | apply wL | apply wM | apply wN | apply wO | apply wP | apply wQ rfl | apply wR | apply wS | apply wT | apply wU)) | ((with_reducible (first | apply wV | apply wW | apply wX | (apply wY [] hTT (cfNl_ok hk) noM_ok mixed; (focus kernel_rfl)))); (focus (simp only [Tryz.f24, cfNl, c25, c29, c75, c85, hd, h0', a0, d1, d2, hP, b00, x1, x2, gt_iff_lt, ge_iff_le, go_sem]; with_reducible rfl))) | (with_reducible refine wZ hTT (cfNl_ok hk) noM_ok ?_) | (with_reducible refine wa ?_; refine And.intro ?_ ?_; (focus kernel_rfl)))
    exact ⟨rfl, rfl, _, rfl, rfl⟩
  have hxl : x.toNat < t.length := by omega
  obtain ⟨b, hb⟩ : ∃ b, t[x.toNat]? = some b := ⟨_, List.getElem?_eq_getElem hxl⟩
  have x0 : (0 : Int) ≤ x := by omega
  by_cases b1 : ((b.toNat : Nat) : Int) < 48
  · repeat (first | (with_reducible (first | apply wA | apply wB | apply wC | apply wD | apply wE | apply wF | apply wG | apply wH | apply wI | apply wJ | apply wK | apply wL | apply wM | apply wN | apply wO | apply wP | apply wQ rfl | apply wR | apply wS | apply wT | apply wU)) | ((with_reducible (first | apply wV | apply wW | apply wX | (apply wY [] hTT (cfNl_ok hk) noM_ok mixed; (focus kernel_rfl)))); (focus (simp only [Tryz.f24, cfNl, c25, c29, c75, c85, hd, h0', a0, d1, d2, hP, b00, x0, x1, x2, hb, b1, gt_iff_lt, ge_iff_le, go_sem]; with_reducible rfl))) | (with_reducible refine wZ hTT (cfNl_ok hk) noM_ok ?_) | (with_reducible refine wa ?_; refine And.intro ?_ ?_; (focus kernel_rfl)))
    exact ⟨rfl, rfl, _, rfl, rfl⟩
  by_cases b2 : (57 : Int) < ((b.toNat : Nat) : Int)
  · repeat (first | (with_reducible (first | apply wA | apply wB | apply wC | apply wD | apply wE | apply wF | apply wG | apply wH | apply wI | apply wJ | apply wK | apply wL | apply wM | apply wN | apply wO | apply wP | apply wQ rfl | apply wR | apply wS | apply wT | apply wU)) | ((with_reducible (first | apply wV | apply wW | apply wX | (apply wY [] hTT (cfNl_ok hk) noM_ok mixed; (focus kernel_rfl)))); (focus (simp only [Tryz.f24, cfNl, c25, c29, c75, c85, hd, h0', a0, d1, d2, hP, b00, x0, x1, x2, hb, b1, b2, gt_iff_lt, ge_iff_le, go_sem]; with_reducible rfl))) | (with_reducible refine wZ hTT (cfNl_ok hk) noM_ok ?_) | (with_reducible refine wa ?_; refine And.intro ?_ ?_; (focus kernel_rfl)))
    exact ⟨rfl, rfl, _, rfl, rfl⟩
  have w1 : IntKind.u8.wrap (((b.toNat : Nat) : Int) - 48) = ((b.toNat : Nat) : Int) - 48 := wrap8 (by omega) (by omega)
  have w2 : IntKind.i64.wrap (((b.toNat : Nat) : Int) - 48) = ((b.toNat : Nat) : Int) - 48 := wrap_id (by omega) (by omega)
  cases b3 : (((b.toNat : Nat) : Int) - 48 == d)
  case true =>
    repeat (first | (with_reducible (first | apply wA | apply wB | apply wC | apply wD | apply wE | apply wF | apply wG | apply wH | apply wI | apply wJ | apply wK | apply wL | apply wM | apply wN | apply wO | apply wP | apply wQ rfl | apply wR | apply wS | apply wT | apply wU)) | ((with_reducible (first | apply wV | apply wW | apply wX | (apply wY [] hTT (cfNl_ok hk) noM_ok mixed; (focus kernel_rfl)))); (focus (simp only [Tryz.f24, cfNl, c25, c29, c75, c85, hd, h0', a0, d1, d2, hP, b00, x0, x1, x2, hb, b1, b2, b3, w1, w2, gt_iff_lt, ge_iff_le, go_sem]; with_reducible rfl))) | (with_reducible refine wZ hTT (cfNl_ok hk) noM_ok ?_) | (with_reducible refine wa ?_; refine And.intro ?_ ?_; (focus kernel_rfl)))
    exact ⟨rfl, rfl, _, rfl, rfl⟩
  repeat (first | (with_reducible (first | apply wA | ((fail_if_success (refine RunQ.seq (x := .region 8 _ _) ?_)); (apply wB)) | apply wC | apply wD | apply wE | apply wF | apply wG | apply wH | apply wI | apply wJ | apply wK | apply wL | apply wM | apply wN | apply wO | apply wP | apply wQ rfl | apply wR | apply wS | apply wT | apply wU)) | ((with_reducible (first | apply wV | apply wW | apply wX | (apply wY [] hTT (cfNl_ok hk) noM_ok mixed; (focus kernel_rfl)))); (focus (simp only [Tryz.f24, cfNl, c25, c29, c75, c85, hd, h0', a0, d1, d2, hP, b00, x0, x1, x2, hb, b1, b2, b3, w1, w2, gt_iff_lt, ge_iff_le, go_sem]; with_reducible rfl))) | ((fail_if_success (with_reducible show RunQ _ (.region 8 _ _) _ _)); (with_reducible refine wZ hTT (cfNl_ok hk) noM_ok ?_)) | (with_reducible refine wa ?_; refine And.intro ?_ ?_; (focus kernel_rfl)))
  refine RunQ.keep [7, 3, 2, 1] (by simp only [go_sem]; rfl) ?_
  have hxx : x = ((x.toNat : Nat) : Int) := by omega
  generalize x.toNat = k at hxl hb hxx
  subst hxx
  have hd0 : 0 ≤ d := by omega
  have hd9 : d ≤ 9 := by omega
  have htm : t.length ≤ maxLen := by unfold maxLen; omega
  refine RunQ.bytesSet (b := UInt8.ofNat (48 + d).toNat) hTT (cfNl_ok hk) noM_ok rfl rfl rfl rfl rfl rfl rfl rfl hxl hd0 hd9 rfl htm (show (76 : Nat) < 90 by decide) rfl rfl rfl rfl rfl rfl rfl rfl rfl rfl ?_
  have hdig : isDig (UInt8.ofNat (48 + d).toNat) = true := by
    rw [isDig_iff, UInt8.toNat_ofNat']
    omega
  have hbd : isDig b = true := isDig_iff.2 ⟨by omega, by omega⟩
  have hbne : b ≠ UInt8.ofNat (48 + d).toNat := fun e => by
    have h1 : b.toNat = (48 + d).toNat := by rw [e, UInt8.toNat_ofNat']; omega
    rw [beq_eq_false_iff_ne] at b3
    omega
  have hsplit : t = t.take k ++ b :: t.drop (k + 1) := by
    rw [← drop_get hb, List.take_append_drop]
  have hset : t.set k (UInt8.ofNat (48 + d).toNat) = t.take k ++ UInt8.ofNat (48 + d).toNat :: t.drop (k + 1) := by
    rw [List.set_eq_take_append_cons_drop, if_pos hxl]
  obtain ⟨e, he⟩ := text_spoilt hT (by omega) hbd hdig hbne (htx.trans hsplit)
  have hR : readP (t.set k (UInt8.ofNat (48 + d).toNat)) = .tuple [.agg [ii 0, .sl .n []], ii 4] := by
    unfold readP
    rw [List.length_set, if_neg (by omega), hset, he]
    rfl
  have hl2 : (t.set k (UInt8.ofNat (48 + d).toNat)).length ≤ 100000 := by rw [List.length_set]; omega
  generalize t.set k (UInt8.ofNat (48 + d).toNat) = t2 at hR hl2 ⊢
  have hdz : decFig (.agg [PV.int .i64 0, .sl .n []]) = some (0, []) := rfl
  have hdz2 : decFig (.agg [ii 0, .sl .n []]) = some (0, []) := rfl
  have hl0 : ([] : List Lb).length ≤ 100000 := by decide
  have hsz := sameF_self 0 []
  iterate 7 (apply RegG.step; (focus (simp only [Tryz.f24, cfNl, c76, hR, hl2, go_sem]; with_reducible rfl)))
  refine RegG.nil ?_
  refine thenQ.n ?_
  repeat (first | (with_reducible (first | apply wA | apply wB | apply wC | apply wD | apply wE | apply wF | apply wG | apply wH | apply wI | apply wJ | apply wK | apply wL | apply wM | apply wN | apply wO | apply wP | apply wQ rfl | apply wR | apply wS | apply wT | apply wU)) | ((with_reducible (first | apply wV | apply wW | apply wX | (apply wY [] hTT (cfNl_ok hk) noM_ok mixed; (focus kernel_rfl)))); (focus (simp only [Tryz.f24, cfNl, c29, c78, hdz, hdz2, hl0, hsz, beq_self_eq_true, go_sem]; with_reducible rfl))) | (with_reducible refine wZ hTT (cfNl_ok hk) noM_ok ?_) | (with_reducible refine wa ?_; refine And.intro ?_ ?_; (focus kernel_rfl)))
  exact ⟨rfl, rfl, _, rfl, rfl⟩
end Go.Pv
