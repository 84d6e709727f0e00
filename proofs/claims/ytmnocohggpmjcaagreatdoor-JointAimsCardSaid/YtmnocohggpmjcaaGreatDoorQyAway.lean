/- Contracts: how far all fine poses are from one: the walk. -/
import Derived.Test.YtmnocohggpmjcaaGreatDoorQyKey
import Derived.Test.YtmnocohggpmjcaaGreatDoorQyTurn
import Derived.Test.YtmnocohggpmjcaaGreatDoorQlTop
import Derived.Test.YtmnocohggpmjcaaGreatDoorQlLoop
set_option linter.all false
namespace Go.Pv
open Go Go.RowKit Go.Proofs
set_option maxRecDepth 10000
set_option maxHeartbeats 4000000
theorem cpv_nilm : cpv (.map none) = some .nilm := rfl
attribute [go_sem] cpv_nilm
def cfXf : CallF := cfAdd (cfAdd cf0 99 c99s) 100 c100
theorem cfXf_ok : CallFOk Tryz.prog cfXf := cfAdd_ok (cfAdd_ok cf0_ok c99s_ok) c100_ok
theorem CallOk.ofE {P : Program} {T : TypeId → TyI} (hT : TyT P T) {f : FuncId} {fn : Func} {c : Code} {args : List PV} {n0 : Nat} {R : PV → List Box → Prop} (hf : P.funcs[f]? = some fn) (hb : fn.body = some c) (hn0 : n0 = args.length + (fn.ntmps - args.length))
    (hrun : RunQ P c ⟨argT 0 args, n0, []⟩ (fun o st' => o.ends = true ∧ sameLoopsC [] st'.sg = true ∧ ∃ v', resC T st' fn.results = some v' ∧ R v' st'.sg)) : ∃ v sg', CallOk P f args [] (.ret v) sg' ∧ R v sg' := by
  obtain ⟨o, st', hr, h1, h2, v', h3, h4⟩ := hrun
  exact ⟨v', st'.sg, CallOk.body hT hf hb hn0 hr h1 h3 (sameLoops_of _ _ h2), h4⟩
/-- The search, its map not frozen. -/
theorem away_98e {s : Int} {z zh zr : Z} {ls : List Lb} {g : Stg} (H : StOk s z zh zr ls g) (f : List Int) (hp : poseG ls f = true) :
    ∃ v sg', CallOk Tryz.prog 98 [.agg (stgC s z zh zr ls g), .sl .a (f.map ii)] [] (.ret v) sg' ∧ ∃ id, v = .mp id ∧ sg'[id]? = some (.map (mpK (awayG s ls g f)) (mpV (awayG s ls g f)) false) := by
  refine CallOk.ofE hTT Tryz.func98 rfl rfl ?_
  have hdk := decSt_enc s z zh zr ls g
  have hl := H.len
  have hfl := (pose_at hp).1
  have hf5 : f.length ≤ 5 := by omega
  have hdf : decL decI (f.map ii) = some f := decIs f
  have hko := keyP_ok f
  have hf0 : findC K148 (keyP f) [] 0 = some none := rfl
  repeat (first | (with_reducible (first | apply wA | apply wB | apply wC | apply wD | apply wE | apply wF | apply wG | apply wH | apply wI | apply wJ | apply wK | apply wL | apply wM | apply wN | apply wO | apply wP | apply wQ rfl | apply wR | apply wS | apply wT | apply wU)) | ((with_reducible (first | apply wV | apply wW | apply wX | (apply wY [] hTT cfXf_ok noM_ok mixed; (focus kernel_rfl)))); (focus (simp only [Tryz.f98, cfXf, c99s, c100, hdf, hf5, makeMapC, mapUpdateC, hko, hf0, notYield, go_sem]; with_reducible rfl))) | (with_reducible refine wZ hTT cfXf_ok noM_ok ?_) | (with_reducible refine wa ?_; refine And.intro ?_ ?_; (focus kernel_rfl)))
  refine RunQ.keep [7, 6, 5, 2] (by simp only [go_sem]; rfl) ?_
  have hKc := closed_stgC s z zh zr ls g
  have hlen := fun i => away_len (s := s) (ls := ls) (g := g) (f := f) H.f hp i
  refine RunQ.loop (fun i s' => ∃ (C : List Box) (p : Nat) (zt : Z), (∀ x ∈ C, x.ltB 0 = true) ∧ noLoops C = true ∧ i ≤ p ∧ p ≤ (awayQ s ls g f p).length ∧ (∀ x ∈ (awayQ s ls g f p).drop p, x.2 = i) ∧ (zt = .n → (awayQ s ls g f p).length = p) ∧
      s' = ⟨[(7, .bp (C.length + 3) 0), (6, .sl zt (aftE (awayQ s ls g f p) p)), (5, .bp 2 0), (2, .bp 0 0)], 58,
        .var (stgC s z zh zr ls g) false :: .map (mpK (awayQ s ls g f p)) (mpV (awayQ s ls g f p)) false :: .var [.mp 1] false :: (C ++ [.var [ii ((i : Int) + 1)] false])⟩)
    60000 ⟨[], 0, .f, fun x hx => (by cases hx), rfl, Nat.le_refl _, Nat.zero_le _, fun x hx => by
        have hx : x ∈ [(f, 0)] := hx
        simp at hx; subst hx; rfl, fun e => (by cases e), rfl⟩ ?_
  rintro i _ hi ⟨C, p, zt, hC, hCl, hip, hpl, hpd, hzt, rfl⟩
  have hlp := hlen p
  have hal : (aftE (awayQ s ls g f p) p).length = (awayQ s ls g f p).length - p := by unfold aftE; rw [List.length_map, List.length_drop]
  by_cases hdone : (awayQ s ls g f p).length = p
  · have he := away_end (s := s) (ls := ls) (g := g) (f := f) (i := p) (by omega) (by omega)
    have hn0 : ((aftE (awayQ s ls g f p) p).length : Int) = 0 := by omega
    rw [he] at hn0 ⊢
    generalize awayG s ls g f = Q at hn0 ⊢
    repeat (first | (with_reducible (first | apply wA | apply wB | apply wC | apply wD | apply wE | apply wF | apply wG | apply wH | apply wI | apply wJ | apply wK | apply wL | apply wM | apply wN | apply wO | apply wP | apply wQ rfl | apply wR | apply wS | apply wT | apply wU)) | ((with_reducible (first | apply wV | apply wW | apply wX | (apply wY [] hTT cfXf_ok noM_ok mixed; (focus kernel_rfl)))); (focus (simp only [Tryz.f98, hn0, gt_iff_lt, go_sem]; with_reducible rfl))) | (with_reducible refine wZ hTT cfXf_ok noM_ok ?_) | (with_reducible refine wa ?_; refine And.intro ?_ ?_; (focus kernel_rfl)))
    have hnL : noLoops (Box.var (stgC s z zh zr ls g) false :: .map (mpK Q) (mpV Q) false :: .var [.mp 1] false :: (C ++ [.var [ii ((i : Int) + 1)] false])) = true := by
      show noLoops (C ++ [.var [ii ((i : Int) + 1)] false]) = true
      exact noLoops_app hCl rfl
    exact ⟨rfl, sameLoopsC_nil hnL, _, rfl, 1, rfl, rfl⟩
  have hnl : (0 : Int) < (aftE (awayQ s ls g f p) p).length := by omega
  have hztn : zt ≠ .n := fun e => hdone (hzt e)
  -- the boxes
  generalize hk1 : C.length + 3 = k1
  have hbm : closedL [ii ((i : Int) + 1)] = true := rfl
  obtain ⟨AB, hAB⟩ : ∃ AB : Box → List Box, ∀ m, AB m = .var (stgC s z zh zr ls g) false :: m :: .var [.mp 1] false :: C := ⟨fun m => .var (stgC s z zh zr ls g) false :: m :: .var [.mp 1] false :: C, fun _ => rfl⟩
  have abl : ∀ m, (AB m).length = k1 := fun m => by rw [hAB, ← hk1]; simp
  have ab0 : ∀ m B, (AB m ++ B)[0]? = some (.var (stgC s z zh zr ls g) false) := fun m B => by rw [hAB]; rfl
  have ab2 : ∀ m B, (AB m ++ B)[2]? = some (.var [.mp 1] false) := fun m B => by rw [hAB]; rfl
  have abk : ∀ m B, (AB m ++ B)[k1]? = B[0]? := fun m B => by rw [← abl m]; exact app_get0 _ _
  have abj : ∀ m B n, (AB m ++ B)[k1 + n]? = B[n]? := fun m B n => by rw [← abl m]; exact app_get _ _ _
  have abt : ∀ m B n (x : Box), (AB m ++ B).set (k1 + n) x = AB m ++ B.set n x := fun m B n x => by rw [← abl m]; exact app_set _ _ _ _
  have abs : ∀ m B (x : Box), (AB m ++ B).set k1 x = AB m ++ B.set 0 x := fun m B x => by rw [← abl m]; exact app_set0 _ _ _
  have hst : ∀ m B, Box.var (stgC s z zh zr ls g) false :: m :: .var [.mp 1] false :: (C ++ B) = AB m ++ B := fun m B => by rw [hAB]; rfl
  rw [hst]
  repeat (first | (with_reducible (first | apply wA | ((fail_if_success (refine RunQ.seq (x := .region 6 _ _) ?_)); (apply wB)) | apply wC | apply wD | apply wE | apply wF | apply wG | apply wH | apply wI | apply wJ | apply wK | apply wL | apply wM | apply wN | apply wO | apply wP | apply wQ rfl | apply wR | apply wS | apply wT | apply wU)) | ((with_reducible (first | apply wV | apply wW | apply wX | (apply wY [] hTT cfXf_ok noM_ok mixed; (focus kernel_rfl)))); (focus (simp only [Tryz.f98, hnl, gt_iff_lt, go_sem]; with_reducible rfl))) | ((fail_if_success (with_reducible show RunQ _ (.region 6 _ _) _ _)); (with_reducible refine wZ hTT cfXf_ok noM_ok ?_)) | (with_reducible refine wa ?_; refine And.intro ?_ ?_; (focus kernel_rfl)))
  refine RunQ.keep [7, 6, 5, 2] (by simp only [go_sem]; rfl) ?_
  repeat (first | (with_reducible (first | apply wA | ((fail_if_success (refine RunQ.seq (x := .region 8 _ _) ?_)); (apply wB)) | apply wC | apply wD | apply wE | apply wF | apply wG | apply wH | apply wI | apply wJ | apply wK | apply wL | apply wM | apply wN | apply wO | apply wP | apply wQ rfl | apply wR | apply wS | apply wT | apply wU)) | ((with_reducible (first | apply wV | apply wW | apply wX | (apply wY [] hTT cfXf_ok noM_ok mixed; (focus kernel_rfl)))); (focus (simp only [Tryz.f98, abk, abj, abt, abs, abl, List.length_append, go_sem]; with_reducible rfl))) | ((fail_if_success (with_reducible show RunQ _ (.region 8 _ _) _ _)); (with_reducible refine wZ hTT cfXf_ok noM_ok ?_)) | (with_reducible refine wa ?_; refine And.intro ?_ ?_; (focus kernel_rfl)))
  have hi2 : IntKind.i64.wrap ((i : Int) + 1 + 1) = (i : Int) + 1 + 1 := wrap_id (by omega) (by omega)
  generalize hb : (awayQ s ls g f p).length = b at *
  refine RunQ.nilBox (k1 + 1) 0 25 1 (abj _ _ 1) rfl (sg' := AB (.map (mpK (awayQ s ls g f p)) (mpV (awayQ s ls g f p)) false) ++ [.var [ii ((i : Int) + 1)] false, .var [.ms (k1 + 2) 0] false, .row true 25 1 [] false]) (by
    rw [List.append_assoc, abt, List.length_append, abl]; rfl) ?_
  have hmul := fun (m : Nat) (h : m ≤ 59049) => (show (m + 1) * 24 ≤ 140737488355328 by omega)
  have hmx := fun (m : Nat) (h : m ≤ 59049) => (show m + 1 ≤ maxLen by unfold maxLen; omega)
  have hAm : ∀ Q : Dst, ∀ y ∈ AB (.map (mpK Q) (mpV Q) false), y.Lt 2 := by
    intro Q y hy
    rw [hAB] at hy
    simp only [List.mem_cons] at hy
    rcases hy with rfl | rfl | rfl | hy
    · exact (boxLt_of (m := 0) (b := .var (stgC s z zh zr ls g) false) (ltBL_of_closed 0 _ hKc)).mono (Nat.zero_le _)
    · exact (boxLt_of (m := 0) (by show (ltBL 0 (mpK Q) && ltBL 0 (mpV Q)) = true; rw [ltBL_of_closed 0 _ (mpKc Q), ltBL_of_closed 0 _ (mpVc Q)]; rfl)).mono (Nat.zero_le _)
    · intro c hc
      simp at hc; subst hc
      exact .mp (by omega)
    · exact (boxLt_of (hC y hy)).mono (Nat.zero_le _)
  have hbx : ∀ Q : Dst, ∀ y ∈ AB (.map (mpK Q) (mpV Q) false) ++ [Box.var [ii ((i : Int) + 1)] false, .var [.ms (k1 + 2) (Q.length - b)] false, .row (decide (Q.length - b = 0)) 25 1 (aftE Q b) false], y.Lt (k1 + 3) := by
    intro Q y hy
    rcases List.mem_append.1 hy with hy | hy
    · exact (hAm Q y hy).mono (by omega)
    simp only [List.mem_cons, List.not_mem_nil, or_false] at hy
    rcases hy with rfl | rfl | rfl
    · exact (boxLt_of (m := 0) rfl).mono (Nat.zero_le _)
    · intro c hc
      simp at hc; subst hc
      exact .ms (by omega)
    · exact (boxLt_of (m := 0) (b := .row (decide (Q.length - b = 0)) 25 1 (aftE Q b) false) (ltBL_of_closed 0 _ (aftc Q b))).mono (Nat.zero_le _)
  have hnlB : ∀ Q : Dst, noLoops (AB (.map (mpK Q) (mpV Q) false) ++ [Box.var [ii ((i : Int) + 1)] false, .var [.ms (k1 + 2) (Q.length - b)] false, .row (decide (Q.length - b = 0)) 25 1 (aftE Q b) false]) = true := by
    intro Q
    rw [hAB]
    show noLoops (C ++ _) = true
    exact noLoops_app hCl rfl
  refine RunQ.keep [28, 27, 26, 8, 7, 5, 2] (by simp only [go_sem]; rfl) ?_
  refine RunQ.loop (fun j s' => s' = ⟨[(28, ii j), (27, ii (aftE (awayQ s ls g f p) p).length), (26, .sl zt (aftE (awayQ s ls g f p) p)), (8, .bp (k1 + 1) 0), (7, .bp k1 0), (5, .bp 2 0), (2, .bp 0 0)], 58,
      AB (.map (mpK (awayQ s ls g f (p + j))) (mpV (awayQ s ls g f (p + j))) false) ++ [.var [ii ((i : Int) + 1)] false, .var [.ms (k1 + 2) ((awayQ s ls g f (p + j)).length - b)] false, .row (decide ((awayQ s ls g f (p + j)).length - b = 0)) 25 1 (aftE (awayQ s ls g f (p + j)) b) false]⟩)
    (aftE (awayQ s ls g f p) p).length ?_ ?_
  · have ha0 : aftE (awayQ s ls g f p) b = [] := by unfold aftE; rw [List.drop_eq_nil_of_le (by omega)]; rfl
    simp only [Nat.add_zero, hb, Nat.sub_self, ha0]
    rfl
  rintro j _ hj rfl
  by_cases hlt : j < (aftE (awayQ s ls g f p) p).length
  · have hlt' : (j : Int) < (aftE (awayQ s ls g f p) p).length := by omega
    have hpj : p + j < b := by omega
    obtain ⟨x, hx⟩ : ∃ x, (awayQ s ls g f p)[p + j]? = some x := ⟨_, List.getElem?_eq_getElem (by omega)⟩
    have haf : (aftE (awayQ s ls g f p) p)[j]? = some (pvA x.1) := by unfold aftE; rw [List.getElem?_map, List.getElem?_drop, hx]; rfl
    have hx2 : x.2 = i := hpd x (List.mem_of_getElem? (by rw [List.getElem?_drop]; exact hx))
    have hxp := away_pose (s := s) (g := g) hp p x (List.mem_of_getElem? hx)
    have hQj : (awayQ s ls g f (p + j))[p + j]? = some x := bfs_get (nb := nbG s ls g) (Nat.le_add_right p j) hx
    have hsp := away_step hQj
    rw [hx2] at hsp
    have hdx : decL decI (x.1.map ii) = some x.1 := decIs x.1
    have hbQ : b ≤ (awayQ s ls g f (p + j)).length := by
      obtain ⟨r, hr⟩ := bfs_pre (nb := nbG s ls g) (Q0 := [(f, 0)]) (Nat.le_add_right p j)
      have : (awayQ s ls g f (p + j)) = awayQ s ls g f p ++ r := hr
      rw [this, List.length_append]; omega
    repeat (first | (with_reducible (first | apply wA | apply wB | apply wC | apply wD | apply wE | apply wF | apply wG | apply wH | apply wI | apply wJ | apply wK | apply wL | apply wM | apply wN | apply wO | apply wP | apply wQ rfl | apply wR | apply wS | apply wT | apply wU)) | ((with_reducible (first | apply wV | apply wW | apply wX | (apply wY [] hTT cfXf_ok noM_ok mixed; (focus kernel_rfl)))); (focus (simp only [Tryz.f98, cfXf, c100, hdk, hdx, hlt', haf, hztn, ab0, gt_iff_lt, go_sem]; with_reducible rfl))) | (with_reducible refine wZ hTT cfXf_ok noM_ok ?_) | (with_reducible refine wa ?_; refine And.intro ?_ ?_; (focus kernel_rfl)))
    refine RunQ.keep [34, 28, 27, 26, 8, 7, 5, 2] (by simp only [go_sem]; rfl) ?_
    have hxl := (pose_at hxp).1
    have hpc : (PV.ip [pvA x.1]).closed = true := by simp [PV.closed, closedL, closedL_is]
    have hW : ∀ k, b ≤ (addN (i + 1) (awayQ s ls g f (p + j)) ((nbG s ls g x.1).take k)).length := fun k => by
      obtain ⟨r, hr, _⟩ := addN_ex (d := i + 1) ((nbG s ls g x.1).take k) (awayQ s ls g f (p + j))
      rw [hr, List.length_append]; omega
    refine RunQ.range (L := (nextG s ls g x.1).map fun (y : (Int × Int) × List Int) => [encT y.1, pvL y.2]) (first := []) (cap := [.ip (stgC s z zh zr ls g), .ip [pvA x.1]]) rfl (ent Tryz.func144 rfl) (next_144 H x.1 hxp) ?_ ?_ ?_
      (fun k st => st = AB (.map (mpK (addN (i + 1) (awayQ s ls g f (p + j)) ((nbG s ls g x.1).take k))) (mpV (addN (i + 1) (awayQ s ls g f (p + j)) ((nbG s ls g x.1).take k))) false) ++ [.var [ii ((i : Int) + 1)] false, .var [.ms (k1 + 2) ((addN (i + 1) (awayQ s ls g f (p + j)) ((nbG s ls g x.1).take k)).length - b)] false,
        .row (decide ((addN (i + 1) (awayQ s ls g f (p + j)) ((nbG s ls g x.1).take k)).length - b = 0)) 25 1 (aftE (addN (i + 1) (awayQ s ls g f (p + j)) ((nbG s ls g x.1).take k)) b) false])
      rfl ?_ ?_ ?_
    · intro e he
      obtain ⟨y, _, rfl⟩ := List.mem_map.1 he
      rfl
    · intro t ht
      simp only [List.mem_cons, List.not_mem_nil, or_false] at ht
      rcases ht with rfl | rfl <;> decide
    · intro t v hv
      have hsl : (AB (.map (mpK (awayQ s ls g f (p + j))) (mpV (awayQ s ls g f (p + j))) false) ++ [Box.var [ii ((i : Int) + 1)] false, .var [.ms (k1 + 2) ((awayQ s ls g f (p + j)).length - b)] false, .row (decide ((awayQ s ls g f (p + j)).length - b = 0)) 25 1 (aftE (awayQ s ls g f (p + j)) b) false]).length = k1 + 3 := by rw [List.length_append, abl]; rfl
      rw [hsl]
      obtain ⟨q, hq, rfl⟩ := getT_mem hv
      simp only [List.mem_cons, List.not_mem_nil, or_false] at hq
      rcases hq with rfl | rfl | rfl | rfl | rfl | rfl | rfl | rfl
      · refine .fn (fun c hc => by cases hc) fun c hc => ?_
        simp only [List.mem_cons, List.not_mem_nil, or_false] at hc
        rcases hc with rfl | rfl
        · exact (lt_of_closed _ (show (PV.ip (stgC s z zh zr ls g)).closed = true from hKc)).mono (Nat.zero_le _)
        · exact (lt_of_closed _ hpc).mono (Nat.zero_le _)
      · exact .int
      · exact .int
      · exact (lt_of_closed (.sl zt _) (show closedL _ = true from aftc _ _)).mono (Nat.zero_le _)
      · exact .bp (by omega)
      · exact .bp (by omega)
      · exact .bp (by omega)
      · exact .bp (by omega)
    · rintro k st rfl
      have hsl : ∀ Q : Dst, (AB (.map (mpK Q) (mpV Q) false) ++ [Box.var [ii ((i : Int) + 1)] false, .var [.ms (k1 + 2) (Q.length - b)] false, .row (decide (Q.length - b = 0)) 25 1 (aftE Q b) false]).length = k1 + 3 := fun Q => by rw [List.length_append, abl]; rfl
      refine ⟨by rw [hsl, hsl], fun y hy => by rw [hsl]; exact (hbx _ y hy).mono (by omega), ?_⟩
      exact sameL_of (hnlB _) (hnlB _)
    · rintro k e st he rfl
      obtain ⟨⟨t, y⟩, hy, rfl⟩ : ∃ y, (nextG s ls g x.1)[k]? = some y ∧ e = [encT y.1, pvL y.2] := by
        rw [List.getElem?_map, Option.map_eq_some_iff] at he
        obtain ⟨y, a, rfl⟩ := he
        exact ⟨y, a, rfl⟩
      have hyn : (nbG s ls g x.1)[k]? = some y := by unfold nbG; rw [List.getElem?_map, hy]; rfl
      obtain ⟨_, _, _, hyp, _⟩ := nb_mem.1 (List.mem_of_getElem? hyn)
      have hyl := (pose_at hyp).1
      have hy5 : y.length ≤ 5 := by omega
      have hdy : decL decI (y.map ii) = some y := decIs y
      have hpv : pvL y = pvA y := by
        unfold pvL
        cases y with
        | nil => simp at hyl; omega
        | cons a r => rfl
      have htk : addN (i + 1) (awayQ s ls g f (p + j)) ((nbG s ls g x.1).take (k + 1)) = addQ (i + 1) (addN (i + 1) (awayQ s ls g f (p + j)) ((nbG s ls g x.1).take k)) y := by
        rw [List.take_add_one, hyn]; exact addN_snoc _ _
      have hWk := hW k
      obtain ⟨hWp, hWd, hWl⟩ := addW H.f (away_pose hp (p + j)) (away_nodup (p + j)) (ys := (nbG s ls g x.1).take k) (fun q hq => by obtain ⟨_, _, _, h, _⟩ := nb_mem.1 (List.mem_of_mem_take hq); exact h) (i + 1)
      dsimp only
      rw [htk, hpv]
      generalize addN (i + 1) (awayQ s ls g f (p + j)) ((nbG s ls g x.1).take k) = W at hWk hWp hWd hWl ⊢
      have hWn : ∀ q ∈ W, q.1.length = ls.length := fun q hq => (pose_at (hWp q hq)).1
      have hkoy := keyP_ok y
      refine .next _ rfl fun own ho => ?_
      unfold YRun
      generalize hX : Box.loop _ = X1
      repeat (first | (with_reducible (first | apply wA | apply wB | apply wC | apply wD | apply wE | apply wF | apply wG | apply wH | apply wI | apply wJ | apply wK | apply wL | apply wM | apply wN | apply wO | apply wP | apply wQ rfl | apply wR | apply wS | apply wT | apply wU)) | ((with_reducible (first | apply wV | apply wW | apply wX | (apply wY [] hTT cfXf_ok noM_ok mixed; (focus kernel_rfl)))); (focus (simp only [Tryz.f98, putPs, List.toList_toArray, go_sem]; with_reducible rfl))) | (with_reducible refine wZ hTT cfXf_ok noM_ok ?_) | (with_reducible refine wa ?_; refine And.intro ?_ ?_; (focus kernel_rfl)))
      refine ⟨rfl, own, by rw [← hX]; simp, ?_⟩
      dsimp only
      generalize hX2 : Box.loop _ = X2
      rw [List.append_assoc]
      obtain ⟨SS, hSS⟩ : ∃ SS : Box → Box → Box → List Box, ∀ m v r, SS m v r = AB m ++ ([.var [ii ((i : Int) + 1)] false, v, r] ++ (X2 :: own)) := ⟨fun m v r => AB m ++ ([.var [ii ((i : Int) + 1)] false, v, r] ++ (X2 :: own)), fun _ _ _ => rfl⟩
      rw [← hSS]
      generalize hN : k1 + 4 + own.length = N
      have ssl : ∀ m v r, (SS m v r).length = N := fun m v r => by rw [hSS, List.length_append, abl]; simp; omega
      have sapp : ∀ m v r B, SS m v r ++ B = AB m ++ (.var [ii ((i : Int) + 1)] false :: v :: r :: X2 :: (own ++ B)) := fun m v r B => by rw [hSS]; simp
      have ss1 : ∀ m v r B, (SS m v r ++ B)[1]? = some m := fun m v r B => by rw [sapp, hAB]; rfl
      have ss2 : ∀ m v r B, (SS m v r ++ B)[2]? = some (.var [.mp 1] false) := fun m v r B => by rw [sapp, hAB]; rfl
      have ssk : ∀ m v r B, (SS m v r ++ B)[k1]? = some (.var [ii ((i : Int) + 1)] false) := fun m v r B => by rw [sapp, abk]; rfl
      have ssv : ∀ m v r B, (SS m v r ++ B)[k1 + 1]? = some v := fun m v r B => by rw [sapp, abj]; rfl
      have ssr : ∀ m v r B, (SS m v r ++ B)[k1 + 2]? = some r := fun m v r B => by rw [sapp, abj]; rfl
      have sse0 : ∀ m v r B, (SS m v r ++ B)[N]? = B[0]? := fun m v r B => by rw [← ssl m v r]; exact app_get0 _ _
      have sse : ∀ m v r B n, (SS m v r ++ B)[N + n]? = B[n]? := fun m v r B n => by rw [← ssl m v r]; exact app_get _ _ _
      have st1 : ∀ m v r B (q : Box), (SS m v r ++ B).set 1 q = SS q v r ++ B := fun m v r B q => by rw [sapp, sapp, hAB, hAB]; rfl
      have stv : ∀ m v r B (q : Box), (SS m v r ++ B).set (k1 + 1) q = SS m q r ++ B := fun m v r B q => by rw [sapp, sapp, abt]; rfl
      have str : ∀ m v r B (q : Box), (SS m v r ++ B).set (k1 + 2) q = SS m v q ++ B := fun m v r B q => by rw [sapp, sapp, abt]; rfl
      have sts0 : ∀ m v r B (q : Box), (SS m v r ++ B).set N q = SS m v r ++ B.set 0 q := fun m v r B q => by rw [← ssl m v r]; exact app_set0 _ _ _
      have sts : ∀ m v r B n (q : Box), (SS m v r ++ B).set (N + n) q = SS m v r ++ B.set n q := fun m v r B n q => by rw [← ssl m v r]; exact app_set _ _ _ _
      have hnd2 : [2, N, 1].Nodup := by simp; omega
      have hnd3 : [2, N + 1, k1, 1].Nodup := by simp; omega
      cases hh : hasK W y with
      | true =>
        obtain ⟨d, hd⟩ := hasK_iff.1 hh
        obtain ⟨jj, e1, e2, _⟩ := mp_in hyl (by omega) hWn hWd hd
        unfold addQ
        rw [if_pos hh]
        repeat (first | (with_reducible (first | apply wA | ((fail_if_success (refine RunQ.seq (x := .region 12 _ _) ?_)); (apply wB)) | apply wC | apply wD | apply wE | apply wF | apply wG | apply wH | apply wI | apply wJ | apply wK | apply wL | apply wM | apply wN | apply wO | apply wP | apply wQ rfl | apply wR | apply wS | apply wT | apply wU)) | ((with_reducible (first | apply wV | apply wW | apply wX | (apply wY [] hTT cfXf_ok noM_ok mixed; (focus kernel_rfl)))); (focus (simp only [Tryz.f98, go_sem]; with_reducible rfl))) | ((fail_if_success (with_reducible show RunQ _ (.region 12 _ _) _ _)); (with_reducible refine wZ hTT cfXf_ok noM_ok ?_)) | (with_reducible refine wa ?_; refine And.intro ?_ ?_; (focus kernel_rfl)))
        refine RunQ.seq ?_
        refine RunQ.drawn [] hTT cfXf_ok noM_ok mixed (by kernel_rfl) (by simp only [go_sem]; rfl) ?_
        iterate 9 (apply DrawQ.step; (focus (simp only [Tryz.f98, cfXf, c99s, closedL_is, hdy, hy5, lookupC, mapC, hkoy, e1, e2, ss1, ss2, sse0, sse, sts0, sts, ssl, freeB, go_sem]; with_reducible rfl)))
        refine DrawQ.nil ⟨boxOk_ren [2, N, 1] [(false, none, [0]), (false, none, []), (false, none, [1]), (false, none, [2]), (false, none, []), (false, none, []), (false, none, []), (false, none, []), (false, none, [])] hnd2 (by kernel_rfl) rfl (by kernel_rfl), ?_⟩
        repeat (first | (with_reducible (first | apply wA | apply wB | apply wC | apply wD | apply wE | apply wF | apply wG | apply wH | apply wI | apply wJ | apply wK | apply wL | apply wM | apply wN | apply wO | apply wP | apply wQ rfl | apply wR | apply wS | apply wT | apply wU)) | ((with_reducible (first | apply wV | apply wW | apply wX | (apply wY [] hTT cfXf_ok noM_ok mixed; (focus kernel_rfl)))); (focus (simp only [Tryz.f98, go_sem]; with_reducible rfl))) | (with_reducible refine wZ hTT cfXf_ok noM_ok ?_) | (with_reducible refine wa ?_; refine And.intro ?_ ?_; (focus kernel_rfl)))
        exact ⟨rfl, [.dead], by rw [sapp]; simp⟩
      | false =>
        have e1 := mp_not hyl (by omega) hWn hh
        have hal2 := aft_len W b
        have r2 := hmx (W.length - b) (by omega)
        have r3 := hmul (W.length - b) (by omega)
        unfold addQ
        rw [if_neg (by rw [hh]; simp), mpK_snoc, mpV_snoc, aft_snoc _ _ hWk, List.length_append, List.length_singleton, show W.length + 1 - b = W.length - b + 1 by omega]
        repeat (first | (with_reducible (first | apply wA | ((fail_if_success (refine RunQ.seq (x := .region 12 _ _) ?_)); (apply wB)) | apply wC | apply wD | apply wE | apply wF | apply wG | apply wH | apply wI | apply wJ | apply wK | apply wL | apply wM | apply wN | apply wO | apply wP | apply wQ rfl | apply wR | apply wS | apply wT | apply wU)) | ((with_reducible (first | apply wV | apply wW | apply wX | (apply wY [] hTT cfXf_ok noM_ok mixed; (focus kernel_rfl)))); (focus (simp only [Tryz.f98, go_sem]; with_reducible rfl))) | ((fail_if_success (with_reducible show RunQ _ (.region 12 _ _) _ _)); (with_reducible refine wZ hTT cfXf_ok noM_ok ?_)) | (with_reducible refine wa ?_; refine And.intro ?_ ?_; (focus kernel_rfl)))
        refine RunQ.seq ?_
        refine RunQ.drawn [] hTT cfXf_ok noM_ok mixed (by kernel_rfl) (by simp only [go_sem]; rfl) ?_
        iterate 9 (apply DrawQ.step; (focus (simp only [Tryz.f98, cfXf, c99s, closedL_is, hdy, hy5, lookupC, mapC, hkoy, e1, ss1, ss2, sse0, sse, sts0, sts, ssl, freeB, go_sem]; with_reducible rfl)))
        refine DrawQ.nil ⟨boxOk_ren [2, N, 1] [(false, none, [0]), (false, none, []), (false, none, [1]), (false, none, [2]), (false, none, []), (false, none, []), (false, none, []), (false, none, []), (false, none, [])] hnd2 (by kernel_rfl) rfl (by kernel_rfl), ?_⟩
        repeat (first | (with_reducible (first | apply wA | ((fail_if_success (refine RunQ.seq (x := .region 14 _ _) ?_)); (apply wB)) | apply wC | apply wD | apply wE | apply wF | apply wG | apply wH | apply wI | apply wJ | apply wK | apply wL | apply wM | apply wN | apply wO | apply wP | apply wQ rfl | apply wR | apply wS | apply wT | apply wU)) | ((with_reducible (first | apply wV | apply wW | apply wX | (apply wY [] hTT cfXf_ok noM_ok mixed; (focus kernel_rfl)))); (focus (simp only [Tryz.f98, go_sem]; with_reducible rfl))) | ((fail_if_success (with_reducible show RunQ _ (.region 14 _ _) _ _)); (with_reducible refine wZ hTT cfXf_ok noM_ok ?_)) | (with_reducible refine wa ?_; refine And.intro ?_ ?_; (focus kernel_rfl)))
        refine RunQ.seq ?_
        refine RunQ.drawn [] hTT cfXf_ok noM_ok mixed (by kernel_rfl) (by simp only [go_sem]; rfl) ?_
        iterate 5 (apply DrawQ.step; (focus (simp only [Tryz.f98, cfXf, c99s, closedL_is, hdy, hy5, mapUpdateC, hkoy, e1, ss1, ss2, ssk, sse0, sse, st1, sts0, sts, ssl, freeB, List.length_append, go_sem]; with_reducible rfl)))
        refine DrawQ.nil ⟨boxOk_ren [2, N + 1, k1, 1] [(false, none, [0]), (false, none, []), (false, none, [1]), (false, none, [2]), (false, some 3, [3])] hnd3 (by kernel_rfl) rfl (by kernel_rfl), ?_⟩
        repeat (first | (with_reducible (first | apply wA | apply wB | apply wC | apply wD | apply wE | apply wF | apply wG | apply wH | apply wI | apply wJ | apply wK | apply wL | apply wM | apply wN | apply wO | apply wP | apply wQ rfl | apply wR | apply wS | apply wT | apply wU)) | ((with_reducible (first | apply wV | apply wW | apply wX | (apply wY [] hTT cfXf_ok noM_ok mixed; (focus kernel_rfl)))); (focus (simp only [Tryz.f98, ssv, ssr, stv, str, sse0, sse, sts0, sts, ssl, hal2, r2, r3, List.length_append, go_sem]; with_reducible rfl))) | (with_reducible refine wZ hTT cfXf_ok noM_ok ?_) | (with_reducible refine wa ?_; refine And.intro ?_ ?_; (focus kernel_rfl)))
        have hd0 : decide (W.length - b + 1 = 0) = false := by simp
        have hc : ((i + 1 : Nat) : Int) = (i : Int) + 1 := rfl
        exact ⟨rfl, [.dead, .dead, .dead], by rw [sapp, hd0]; simp [hc]⟩
    · rintro st rfl
      have htake : (nbG s ls g x.1).take (nextG s ls g x.1).length = nbG s ls g x.1 := List.take_of_length_le (by unfold nbG; simp)
      have e4 : IntKind.i64.wrap ((j : Int) + 1) = ((j + 1 : Nat) : Int) := wrap_id (by omega) (by omega)
      rw [List.length_map, htake, ← hsp]
      have hsl : ∀ Q : Dst, (AB (.map (mpK Q) (mpV Q) false) ++ [Box.var [ii ((i : Int) + 1)] false, .var [.ms (k1 + 2) (Q.length - b)] false, .row (decide (Q.length - b = 0)) 25 1 (aftE Q b) false]).length = k1 + 3 := fun Q => by rw [List.length_append, abl]; rfl
      repeat (first | (with_reducible (first | apply wA | apply wB | apply wC | apply wD | apply wE | apply wF | apply wG | apply wH | apply wI | apply wJ | apply wK | apply wL | apply wM | apply wN | apply wO | apply wP | apply wQ rfl | apply wR | apply wS | apply wT | apply wU)) | ((with_reducible (first | apply wV | apply wW | apply wX | (apply wY [] hTT cfXf_ok noM_ok mixed; (focus kernel_rfl)))); (focus (simp only [Tryz.f98, e4, go_sem]; with_reducible rfl))) | (with_reducible refine wZ hTT cfXf_ok noM_ok ?_) | (with_reducible refine wa ?_; refine And.intro ?_ ?_; (focus kernel_rfl)))
      refine roundQ.b hlt (Back.cutP [28, 27, 26, 8, 7, 5, 2] (AB (.map (mpK (awayQ s ls g f (p + j + 1))) (mpV (awayQ s ls g f (p + j + 1))) false) ++ [Box.var [ii ((i : Int) + 1)] false, .var [.ms (k1 + 2) ((awayQ s ls g f (p + j + 1)).length - b)] false, .row (decide ((awayQ s ls g f (p + j + 1)).length - b = 0)) 25 1 (aftE (awayQ s ls g f (p + j + 1)) b) false]) [.gone] (by simp) (by rw [hsl, hsl]; exact Nat.le_refl _) (by simp only [go_sem]) (fun q hq => ?_) (fun y hy => by rw [hsl]; exact hbx _ y hy) rfl) rfl
      rw [hsl]
      simp only [List.mem_cons, List.not_mem_nil, or_false] at hq
      rcases hq with rfl | rfl | rfl | rfl | rfl | rfl | rfl
      · exact .int
      · exact .int
      · exact (lt_of_closed (.sl zt _) (show closedL _ = true from aftc _ _)).mono (Nat.zero_le _)
      · exact .bp (by omega)
      · exact .bp (by omega)
      · exact .bp (by omega)
      · exact .bp (by omega)
  · have hlt' : ¬ (j : Int) < (aftE (awayQ s ls g f p) p).length := by omega
    obtain rfl : j = (aftE (awayQ s ls g f p) p).length := by omega
    have hpn : p + (aftE (awayQ s ls g f p) p).length = b := by omega
    have hnew : ∀ j, j ≤ b - p → ∀ x ∈ (awayQ s ls g f (p + j)).drop b, x.2 = i + 1 := by
      intro j
      induction j with
      | zero =>
        intro _ x hx
        rw [Nat.add_zero, List.drop_eq_nil_of_le (by omega)] at hx
        cases hx
      | succ j ih =>
        intro hjb x hx
        obtain ⟨y, hy⟩ : ∃ y, (awayQ s ls g f p)[p + j]? = some y := ⟨_, List.getElem?_eq_getElem (by omega)⟩
        have hy2 : y.2 = i := hpd y (List.mem_of_getElem? (by rw [List.getElem?_drop]; exact hy))
        have hsp := away_step (bfs_get (nb := nbG s ls g) (Nat.le_add_right p j) hy)
        rw [hy2] at hsp
        obtain ⟨r, hr, hr2⟩ := addN_ex (d := i + 1) (nbG s ls g y.1) (awayQ s ls g f (p + j))
        rw [hr] at hsp
        have hbQ : b ≤ (awayQ s ls g f (p + j)).length := by
          obtain ⟨r, hr⟩ := bfs_pre (nb := nbG s ls g) (Q0 := [(f, 0)]) (Nat.le_add_right p j)
          have : (awayQ s ls g f (p + j)) = awayQ s ls g f p ++ r := hr
          rw [this, List.length_append]; omega
        rw [show p + (j + 1) = p + j + 1 by omega, hsp, List.drop_append_of_le_length hbQ] at hx
        rcases List.mem_append.1 hx with hx | hx
        · exact ih (by omega) x hx
        · exact (hr2 x hx).1
    have hnw := hnew (b - p) (Nat.le_refl _)
    rw [show p + (b - p) = b by omega] at hnw
    have hbb : b ≤ (awayQ s ls g f b).length := by
      obtain ⟨r, hr⟩ := bfs_pre (nb := nbG s ls g) (Q0 := [(f, 0)]) (show p ≤ b by omega)
      have : (awayQ s ls g f b) = awayQ s ls g f p ++ r := hr
      rw [this, List.length_append]; omega
    rw [hpn]
    generalize aftE (awayQ s ls g f p) p = AF at *
    repeat (first | (with_reducible (first | apply wA | ((fail_if_success (refine RunQ.seq (x := .region 18 _ _) ?_)); (apply wB)) | apply wC | apply wD | apply wE | apply wF | apply wG | apply wH | apply wI | apply wJ | apply wK | apply wL | apply wM | apply wN | apply wO | apply wP | apply wQ rfl | apply wR | apply wS | apply wT | apply wU)) | ((with_reducible (first | apply wV | apply wW | apply wX | (apply wY [] hTT cfXf_ok noM_ok mixed; (focus kernel_rfl)))); (focus (simp only [Tryz.f98, hlt', abk, abj, abt, abs, abl, List.length_append, go_sem]; with_reducible rfl))) | ((fail_if_success (with_reducible show RunQ _ (.region 18 _ _) _ _)); (with_reducible refine wZ hTT cfXf_ok noM_ok ?_)) | (with_reducible refine wa ?_; refine And.intro ?_ ?_; (focus kernel_rfl)))
    refine RunQ.freezeZ (sg' := AB (.map (mpK (awayQ s ls g f b)) (mpV (awayQ s ls g f b)) false) ++ [.var [ii ((i : Int) + 1)] false, .var [.ms (k1 + 2) ((awayQ s ls g f b).length - b)] false, .row (decide ((awayQ s ls g f b).length - b = 0)) 25 1 (aftE (awayQ s ls g f b) b) true]) 6 (k1 + 2) rfl (abj _ _ 2) (aft_len _ _) (aftc _ _) (by rw [abt]; rfl) rfl ?_
    refine RunQ.keep [6, 7, 5, 2] (by simp only [go_sem]; rfl) ?_
    repeat (first | (with_reducible (first | apply wA | apply wB | apply wC | apply wD | apply wE | apply wF | apply wG | apply wH | apply wI | apply wJ | apply wK | apply wL | apply wM | apply wN | apply wO | apply wP | apply wQ rfl | apply wR | apply wS | apply wT | apply wU)) | ((with_reducible (first | apply wV | apply wW | apply wX | (apply wY [] hTT cfXf_ok noM_ok mixed; (focus kernel_rfl)))); (focus (simp only [Tryz.f98, abk, abj, abt, abs, abl, hi2, List.length_append, go_sem]; with_reducible rfl))) | (with_reducible refine wZ hTT cfXf_ok noM_ok ?_) | (with_reducible refine wa ?_; refine And.intro ?_ ?_; (focus kernel_rfl)))
    generalize hQb : awayQ s ls g f b = Qb at *
    have hA1 : ∀ m, (AB m ++ [Box.var [ii ((i : Int) + 1)] false]).length = k1 + 1 := fun m => by rw [List.length_append, abl]; rfl
    refine roundQ.b (by omega) (Back.top 7 0 (AB (.map (mpK Qb) (mpV Qb) false) ++ [.var [ii ((i : Int) + 1)] false]) [.var [.ms (k1 + 2) (Qb.length - b)] false, .row (decide (Qb.length - b = 0)) 25 1 (aftE Qb b) true] (.var [ii ((i : Int) + 1 + 1)] false)
      (tm' := [(6, .sl (if decide (Qb.length - b = 0) = true then .n else .a) (aftE Qb b)), (5, .bp 2 0), (2, .bp 0 0)]) (by simp) (by rw [hA1, hA1]; exact Nat.le_refl _) ?_ ?_ ?_ ?_ ?_ ?_) ⟨C ++ [.var [ii ((i : Int) + 1)] false], b, if decide (Qb.length - b = 0) = true then .n else .a, ?_, ?_, by omega, by rw [hQb]; exact hbb, by rw [hQb]; exact hnw, ?_, ?_⟩
    · have h2 : (AB (.map (mpK Qb) (mpV Qb) false) ++ [Box.var [ii ((i : Int) + 1)] false] ++ [Box.var [.ms (k1 + 2) (Qb.length - b)] false, .row (decide (Qb.length - b = 0)) 25 1 (aftE Qb b) true]).length = k1 + 3 := by rw [List.length_append, hA1]; rfl
      rw [h2]
      rfl
    · intro u v h
      exact keepN_get (ts := [6, 5, 2]) ((congrArg (fun l => getT l u) (by simp only [go_sem])).trans h)
    · intro q hq
      rw [hA1]
      simp only [List.mem_cons, List.not_mem_nil, or_false] at hq
      rcases hq with rfl | rfl | rfl
      · exact (lt_of_closed (.sl _ _) (show closedL _ = true from aftc _ _)).mono (Nat.zero_le _)
      · exact .bp (by omega)
      · exact .bp (by omega)
    · intro y hy
      rw [hA1]
      rcases List.mem_append.1 hy with hy | hy
      · exact (hAm Qb y hy).mono (by omega)
      · simp at hy; subst hy
        exact (boxLt_of (m := 0) rfl).mono (Nat.zero_le _)
    · exact (boxLt_of (m := 0) rfl).mono (Nat.zero_le _)
    · rfl
    · intro y hy
      rcases List.mem_append.1 hy with hy | hy
      · exact hC y hy
      · simp at hy; subst hy; rfl
    · exact noLoops_app hCl rfl
    · intro e
      rw [hQb]
      split at e
      · rename_i h0
        have := of_decide_eq_true h0
        omega
      · cases e
    · have hA2 : (C ++ [Box.var [ii ((i : Int) + 1)] false]).length + 3 = k1 + 1 := by rw [List.length_append, ← hk1]; simp
      have hc : ((i + 1 : Nat) : Int) = (i : Int) + 1 := rfl
      rw [hA1, hA2, hQb, hc, hAB]
      simp
theorem away_98 {s : Int} {z zh zr : Z} {ls : List Lb} {g : Stg} (H : StOk s z zh zr ls g) (f : List Int) (hp : poseG ls f = true) :
    CallOk Tryz.prog 98 [.agg (stgC s z zh zr ls g), .sl .a (f.map ii)] [] (.ret (.im (mpK (awayG s ls g f)) (mpV (awayG s ls g f)))) [] := by
  obtain ⟨v, sg', h, id, rfl, hb⟩ := away_98e H f hp
  have := leaveC0_ok h
  simp only [List.length_nil] at this
  rw [leave_mp hb (mpKc _) (mpVc _)] at this
  exact this
end Go.Pv
