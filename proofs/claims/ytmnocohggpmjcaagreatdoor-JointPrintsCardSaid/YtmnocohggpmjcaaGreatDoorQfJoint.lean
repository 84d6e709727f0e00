/- Small lemmas for walks by the evaluator's equations. -/
import Derived.Attr
import Derived.Test.YtmnocohggpmjcaaGreatDoorQdWalk
import Derived.IntWalk
set_option linter.all false
namespace Go.Pv
open Go Go.RowKit Go.Proofs
abbrev ii (n : Int) : PV := .int .i64 n
theorem cpv_i64 (n : Int) (h1 : -9223372036854775808 ≤ n) (h2 : n ≤ 9223372036854775807) : cpv (.int .i64 n) = some (.int .i64 n) := by
  have hw : (Lit.int .i64 n).wf = true := by simp [Lit.wf, IntKind.min, IntKind.max, IntKind.signed, IntKind.bits]; omega
  simp [cpv, zpv, hw]
theorem cpv_bool (b : Bool) : cpv (.bool b) = some (.bool b) := rfl
theorem cpv_nils : cpv (.slice none 0 0) = some (.sl .n []) := rfl
theorem cpv_str (l : List UInt8) (h : l.length ≤ maxLen) : cpv (.string ⟨l.toArray⟩) = some (.str l) := by simp [cpv, zpv, h]
theorem blt_eq (a b : Nat) : Nat.blt a b = decide (a < b) := by
  rw [Bool.eq_iff_iff]; simp [Nat.blt_eq]
theorem ble_eq (a b : Nat) : Nat.ble a b = decide (a ≤ b) := by
  rw [Bool.eq_iff_iff]; simp
theorem ml0 : (0 ≤ maxLen) = True := eq_true (by unfold maxLen; omega)
theorem ml1 : (1 ≤ maxLen) = True := eq_true (by unfold maxLen; omega)
theorem ml2 : (2 ≤ maxLen) = True := eq_true (by unfold maxLen; omega)
theorem ml3 : (3 ≤ maxLen) = True := eq_true (by unfold maxLen; omega)
theorem ml4 : (4 ≤ maxLen) = True := eq_true (by unfold maxLen; omega)
theorem ml5 : (5 ≤ maxLen) = True := eq_true (by unfold maxLen; omega)
theorem ml6 : (6 ≤ maxLen) = True := eq_true (by unfold maxLen; omega)
theorem ml7 : (7 ≤ maxLen) = True := eq_true (by unfold maxLen; omega)
theorem ml8 : (8 ≤ maxLen) = True := eq_true (by unfold maxLen; omega)
theorem ml9 : (9 ≤ maxLen) = True := eq_true (by unfold maxLen; omega)
theorem ml10 : (10 ≤ maxLen) = True := eq_true (by unfold maxLen; omega)
theorem ml11 : (11 ≤ maxLen) = True := eq_true (by unfold maxLen; omega)
theorem ml12 : (12 ≤ maxLen) = True := eq_true (by unfold maxLen; omega)
theorem ml16 : (16 ≤ maxLen) = True := eq_true (by unfold maxLen; omega)
theorem ml32 : (32 ≤ maxLen) = True := eq_true (by unfold maxLen; omega)
theorem ml64 : (64 ≤ maxLen) = True := eq_true (by unfold maxLen; omega)
theorem ml100 : (100 ≤ maxLen) = True := eq_true (by unfold maxLen; omega)
attribute [go_sem] ml0 ml1 ml2 ml3 ml4 ml5 ml6 ml7 ml8 ml9 ml10 ml11 ml12 ml16 ml32 ml64 ml100
theorem bft : (false == true) = false := rfl
theorem btf : (true == false) = false := rfl
attribute [go_sem] roomC Int.cast_ofNat_Int eqlC eqT eqC hasKs PV.hasK Option.map_some bne_self_eq_false rowsOf newCount keepN memN trimTo trimB ltBT ltBB Box.ltB noLoops ltBL PV.ltB List.any_cons List.any_nil
attribute [go_sem] bft btf List.getElem?_toArray stepO stepD freeB drawNew opD callC mapO viewV view1 oraOf closedL PV.closed opIds quiet Op.operands PV.deep1 PV.id1 evOp opC wantC dOk evO evOs evOO evPs cpv_i64 cpv_bool cpv_nils cpv_str noEff onlyEff sgN opNew effB setE putD putT hasT setT getT binC cmpC unC loadC ptrC storeC fieldAddrC shiftP indexAddrC indexC partC fieldC buildC fillP placeS splice buildSliceC setAll TyI.zeroE appendC rowX lenC makeSliceC cutC sliceC sliceFrz sliceVarC builtinC maxC TyD.agg TyD.ok PV.ag PV.one PV.cells argT tup res1 resL resC leaveC leaveC0 noLoops sameLoopsC isLoopB Out.ends cfAdd cf0 noY noM blt_eq ble_eq List.length_cons List.length_nil List.length_append List.length_map List.length_replicate List.length_set List.length_take List.length_drop List.replicate_succ List.replicate_zero List.getElem?_cons_zero List.getElem?_cons_succ List.getElem?_nil List.set_cons_zero List.set_cons_succ List.set_nil List.take_succ_cons List.take_zero List.take_nil List.drop_succ_cons List.drop_zero List.drop_nil List.head?_cons List.headD_cons List.all_cons List.all_nil List.all_append List.isEmpty_cons List.isEmpty_nil List.nil_append List.cons_append List.append_nil List.append_assoc List.toList_toArray List.map_cons List.map_nil List.flatMap_cons List.flatMap_nil List.size_toArray List.reverse_cons Bool.and_true Bool.true_and Bool.and_false Bool.false_and Bool.or_true Bool.true_or Bool.or_false Bool.false_or Bool.not_true Bool.not_false Bool.and_self Bool.or_self beq_self_eq_true Bool.false_eq_true Bool.true_eq_false Bool.and_eq_true decide_true decide_false decide_eq_true_eq true_and and_true false_and and_false ite_true ite_false if_true if_false ne_eq not_false_eq_true not_true_eq_false eq_self and_self Option.some.injEq Int.toNat_natCast Int.natCast_nonneg Int.toNat_zero Int.toNat_one Int.natCast_zero Nat.zero_add Nat.add_zero Nat.zero_mul Nat.one_mul Nat.mul_one Nat.zero_le Nat.le_refl Nat.lt_irrefl Nat.sub_zero Nat.sub_self
attribute [go_sem] T_1 T_2 T_3 T_4 T_5 T_6 T_7 T_8 T_9 T_10 T_11 T_12 T_13 T_14 T_15 T_16 T_17 T_18 T_19 T_20 T_21 T_22 T_23 T_24 T_25 T_26 T_27 T_28 T_29 T_30 T_31 T_33 T_34 T_35 T_36 T_37 T_38 T_39 T_40 T_41 T_42 T_43 T_44 T_45 T_46 T_47 T_48 T_49 T_51 T_53 T_54 T_55 T_56 T_57 T_58 T_59 T_60 T_61 T_62 T_64 T_65 T_67 T_68 T_69 T_71 T_73 T_74 T_75 T_77 T_78 T_79 T_80 T_81 T_82 T_83 T_84 T_86 T_88 T_89 T_91 T_92 T_93 T_94 T_95 T_96 T_97 T_99 T_100 T_101 T_102 T_103 T_104 T_105 T_107 T_108 T_109 T_110 T_111 T_112 T_113 T_115 T_117 T_118 T_119 T_121 T_122 T_123 T_124 T_125 T_126 T_127 T_128 T_129 T_130 T_131 T_132 T_133 T_134 T_135 T_136 T_137 T_138 T_139 T_140 T_141 T_142 T_143 T_144 T_145 T_147 T_148 T_149 T_150 T_151 T_152 T_153 T_154 T_155 T_156 T_157 T_158 T_160 T_161 T_162 T_163 T_164 T_165 T_166 T_167 T_168 T_169 T_170 T_171 T_172 T_173 T_174 T_175 T_176 T_177 T_178 T_179 T_180 T_181 T_182 T_183 T_184 T_185 T_186 T_187 T_188 T_189 T_190 T_191 T_192 T_193 T_194 T_195 T_196 T_197 T_198 T_199 T_200 T_201 T_202 T_203 T_204 T_205 T_206 T_207 T_208 T_209 T_210 T_211 T_212 T_213 T_214 T_215 T_216 T_217 T_218 T_219 T_220 T_221 T_222 T_223 T_224 T_225 T_226 T_227 T_228 T_229 T_230 T_231 T_233 T_234 T_235 T_236 T_237 T_239 T_240 T_241 T_242 T_243 T_244 T_245 T_246 T_247 T_248 T_249 T_250 T_251 T_252 T_253 T_254 T_255 T_256 T_257 T_258 T_259 T_260 T_262 T_264 T_265 T_267 T_268 T_269 T_271 T_272 T_273 T_274 T_275 T_276 T_277 T_278 T_279 T_280 T_282 T_283 T_284 T_285 T_286 T_287 T_288 T_289 T_290 T_291 T_292 T_293 T_294 T_295 T_296
attribute [go_sem_proc] reduceIte reduceCtorEq reduceDIte Int.reduceToNat Nat.reduceAdd Nat.reduceSub Nat.reduceMul Nat.reduceEqDiff Nat.reduceLT Nat.reduceLeDiff Nat.reduceDiv Nat.reduceMod Nat.reduceBEq Nat.reduceBNe Nat.reduceSucc Int.reduceLE Int.reduceLT Int.reduceNeg Int.reduceEq Int.reduceNe Int.reduceAdd Int.reduceSub Int.reduceMul
end Go.Pv
namespace Go.Pv
structure Lb where
  p : Int
  l : Int
  lo : Int
  hi : Int
  w : Int
def inB (x a b : Int) : Bool := decide (a ≤ x) && decide (x ≤ b)
def lbB (n : Int) (x : Lb) : Bool := inB x.p (-1) (n - 1) && inB x.l 1 20 && inB x.lo (-4) x.hi && decide (x.hi ≤ 4) && inB x.w 0 2
/-- How many poses the limbs have, from the i-th on, times m; none: a limb is not as defined. -/
def manyG : Int → Int → List Lb → Option Int
  | _, m, [] => some m
  | i, m, x :: r => if lbB i x = true then manyG (i + 1) (m * (x.hi - x.lo + 1)) r else none
def figB (s : Int) (ls : List Lb) : Bool := inB s 0 7 && inB ls.length 1 5 && (match manyG 0 1 ls with
  | some m => decide (m ≤ 2000)
  | none => false)
def poseG : List Lb → List Int → Bool
  | [], [] => true
  | x :: r, t :: q => inB t x.lo x.hi && poseG r q
  | _, _ => false
/-- A place. -/
abbrev Pl := Int × Int
def dirX : List Int := [7, 5, 0, -5, -7, -5, 0, 5]
def dirY : List Int := [0, 5, 7, 5, 0, -5, -7, -5]
def stepG (d : Int) : Pl := (dirX.getD d.toNat 0, dirY.getD d.toNat 0)
def fromG (s : Int) (x : Lb) (out : List Pl) (tr : List Int) : Pl × Int := if 0 ≤ x.p then (out.getD x.p.toNat (0, 0), tr.getD x.p.toNat 0) else ((0, 0), s)
def turnG (s : Int) (x : Lb) (out : List Pl) (tr : List Int) (t : Int) : Int := (fromG s x out tr).2 + t
def endG (s : Int) (x : Lb) (out : List Pl) (tr : List Int) (t : Int) : Pl :=
  ((fromG s x out tr).1.1 + x.l * (stepG (turnG s x out tr t % 8)).1, (fromG s x out tr).1.2 + x.l * (stepG (turnG s x out tr t % 8)).2)
/-- The ends and the turns so far, with the next limbs. -/
def endsG (s : Int) : List Lb → List Int → List Pl → List Int → List Pl × List Int
  | x :: r, t :: q, out, tr => endsG s r q (out ++ [endG s x out tr t]) (tr ++ [turnG s x out tr t])
  | _, _, out, tr => (out, tr)
def ends (s : Int) (ls : List Lb) (p : List Int) : List Pl := (endsG s ls p [] []).1
end Go.Pv
namespace Go.Pv
open Go Go.RowKit Go.Proofs
set_option maxRecDepth 10000
set_option maxHeartbeats 4000000
def encLb (x : Lb) : PV := .agg [ii x.p, ii x.l, ii x.lo, ii x.hi, ii x.w]
def decLb : PV → Option Lb
  | .agg [.int .i64 a, .int .i64 b, .int .i64 c, .int .i64 d, .int .i64 e] => some ⟨a, b, c, d, e⟩
  | _ => none
def decI : PV → Option Int
  | .int .i64 a => some a
  | _ => none
def decL {α : Type} (f : PV → Option α) : List PV → Option (List α)
  | [] => some []
  | x :: r => match f x, decL f r with
    | some a, some l => some (a :: l)
    | _, _ => none
theorem decL_map {α : Type} {f : PV → Option α} {g : α → PV} (h : ∀ a, f (g a) = some a) : ∀ l : List α, decL f (l.map g) = some l
  | [] => rfl
  | a :: l => by simp [decL, h, decL_map h l]
theorem decL_inv {α : Type} {f : PV → Option α} {g : α → PV} (h : ∀ x a, f x = some a → x = g a) : ∀ {es : List PV} {l : List α}, decL f es = some l → es = l.map g
  | [], l, e => by cases e; rfl
  | x :: r, l, e => by
    unfold decL at e
    split at e <;> cases e
    rename_i a l' h1 h2
    rw [h x a h1, decL_inv h h2]; rfl
theorem decLb_enc (x : Lb) : decLb (encLb x) = some x := rfl
theorem decI_enc (n : Int) : decI (ii n) = some n := rfl
theorem decLb_inv (x : PV) (a : Lb) (h : decLb x = some a) : x = encLb a := by
  unfold decLb at h
  split at h <;> cases h
  rfl
theorem decI_inv (x : PV) (a : Int) (h : decI x = some a) : x = ii a := by
  unfold decI at h
  split at h <;> cases h
  rfl
theorem decLbs (l : List Lb) : decL decLb (l.map encLb) = some l := decL_map decLb_enc l
theorem decIs (l : List Int) : decL decI (l.map ii) = some l := decL_map decI_enc l
theorem ltBL_map {α : Type} {g : α → PV} {m : Nat} (h : ∀ a, (g a).ltB m = true) : ∀ l : List α, ltBL m (l.map g) = true
  | [] => rfl
  | a :: l => by show ((g a).ltB m && ltBL m (l.map g)) = true; rw [h, ltBL_map h l]; rfl
theorem ltB_lbs (m : Nat) (l : List Lb) : ltBL m (l.map encLb) = true := ltBL_map (fun _ => rfl) l
theorem ltB_is (m : Nat) (l : List Int) : ltBL m (l.map ii) = true := ltBL_map (fun _ => rfl) l
theorem ltB_int (m : Nat) (k : IntKind) (n : Int) : (PV.int k n).ltB m = true := rfl
theorem ltB_sl (m : Nat) (z : Z) (es : List PV) : (PV.sl z es).ltB m = ltBL m es := rfl
theorem ltB_agg (m : Nat) (es : List PV) : (PV.agg es).ltB m = ltBL m es := rfl
theorem ltBL_cons (m : Nat) (x : PV) (es : List PV) : ltBL m (x :: es) = (x.ltB m && ltBL m es) := rfl
theorem ltBL_nil (m : Nat) : ltBL m [] = true := rfl
theorem named : Named Tryz.prog := by
  have h : (Tryz.prog.funcs.toList.all fun fn => !(fn.name == "runtime.NumGoroutine")) = true := by kernel_rfl
  intro f fn hf
  have := List.all_eq_true.1 h fn (List.mem_of_getElem? (by simpa using hf))
  simpa using this
theorem ent {f : FuncId} {fn : Func} {c : Code} (hf : Tryz.prog.funcs[f]? = some fn) (hb : fn.body = some c) : Enters Tryz.prog f := enters_of hf hb (named f fn hf)
theorem in_128 (x a b : Int) : CallOk Tryz.prog 128 [ii x, ii a, ii b] [] (.ret (.bool (inB x a b))) [] := by
  refine CallOk.of0 hTT Tryz.func128 rfl rfl ?_
  unfold inB
  by_cases h1 : a ≤ x <;> by_cases h2 : x ≤ b
  all_goals
    repeat (first | (with_reducible (first | apply wA | apply wB | apply wC | apply wD | apply wE | apply wF | apply wG | apply wH | apply wI | apply wJ | apply wK | apply wL | apply wM | apply wN | apply wO | apply wP | apply wQ rfl | apply wR | apply wS | apply wT | apply wU)) | ((with_reducible (first | apply wV | apply wW | apply wX | (apply wY [] hTT cf0_ok noM_ok mixed; (focus kernel_rfl)))); (focus (simp only [Tryz.f128, ge_iff_le, h1, h2, go_sem]; rfl))) | (with_reducible refine wZ hTT cf0_ok noM_ok ?_) | (with_reducible refine wa ?_; refine And.intro ?_ ?_; (focus kernel_rfl)))
    refine ⟨rfl, rfl, _, rfl, ?_⟩
    simp only [h1, h2]
    rfl
theorem in_80 (x a b : Int) : CallOk Tryz.prog 80 [ii x, ii a, ii b] [] (.ret (.bool (inB x a b))) [] := by
  refine CallOk.of0 hTT Tryz.func80 rfl rfl ?_
  unfold inB
  by_cases h1 : a ≤ x <;> by_cases h2 : x ≤ b
  all_goals
    repeat (first | (with_reducible (first | apply wA | apply wB | apply wC | apply wD | apply wE | apply wF | apply wG | apply wH | apply wI | apply wJ | apply wK | apply wL | apply wM | apply wN | apply wO | apply wP | apply wQ rfl | apply wR | apply wS | apply wT | apply wU)) | ((with_reducible (first | apply wV | apply wW | apply wX | (apply wY [] hTT cf0_ok noM_ok mixed; (focus kernel_rfl)))); (focus (simp only [Tryz.f80, ge_iff_le, h1, h2, go_sem]; rfl))) | (with_reducible refine wZ hTT cf0_ok noM_ok ?_) | (with_reducible refine wa ?_; refine And.intro ?_ ?_; (focus kernel_rfl)))
    refine ⟨rfl, rfl, _, rfl, ?_⟩
    simp only [h1, h2]
    rfl
def c128 : List PV → List Box → Option (PRes × List Box)
  | [.int .i64 x, .int .i64 a, .int .i64 b], sg => some (.ret (.bool (inB x a b)), sg)
  | _, _ => none
theorem c128_ok : ConOk Tryz.prog 128 c128 := ConOk.of0 (ent Tryz.func128 rfl) fun args sg r sg' h => by
  unfold c128 at h
  split at h <;> cases h
  exact ⟨_, rfl, rfl, rfl, in_128 _ _ _⟩
theorem c80_ok : ConOk Tryz.prog 80 c128 := ConOk.of0 (ent Tryz.func80 rfl) fun args sg r sg' h => by
  unfold c128 at h
  split at h <;> cases h
  exact ⟨_, rfl, rfl, rfl, in_80 _ _ _⟩
def cfA : CallF := cfAdd (cfAdd cf0 128 c128) 80 c128
theorem cfA_ok : CallFOk Tryz.prog cfA := cfAdd_ok (cfAdd_ok cf0_ok c128_ok) c80_ok
theorem wrap_id {n : Int} (h1 : -9223372036854775808 ≤ n) (h2 : n ≤ 9223372036854775807) : IntKind.i64.wrap n = n := IntWalk.i64_in n ⟨h1, h2⟩
theorem isLimb_129 (n : Int) (x : Lb) (h0 : 0 ≤ n) (h1 : n ≤ 1000) : CallOk Tryz.prog 129 [ii n, encLb x] [] (.ret (.bool (lbB n x))) [] := by
  refine CallOk.of0 hTT Tryz.func129 rfl rfl ?_
  have e1 : IntKind.i64.wrap (n - 1) = n - 1 := wrap_id (by omega) (by omega)
  unfold lbB
  cases a1 : inB x.p (-1) (n - 1)
  · repeat (first | (with_reducible (first | apply wA | apply wB | apply wC | apply wD | apply wE | apply wF | apply wG | apply wH | apply wI | apply wJ | apply wK | apply wL | apply wM | apply wN | apply wO | apply wP | apply wQ rfl | apply wR | apply wS | apply wT | apply wU)) | ((with_reducible (first | apply wV | apply wW | apply wX | (apply wY [] hTT cfA_ok noM_ok mixed; (focus kernel_rfl)))); (focus (simp only [Tryz.f129, encLb, e1, cfA, c128, a1, go_sem]; rfl))) | (with_reducible refine wZ hTT cfA_ok noM_ok ?_) | (with_reducible refine wa ?_; refine And.intro ?_ ?_; (focus kernel_rfl)))

    exact ⟨rfl, rfl, _, rfl, rfl⟩
  cases a2 : inB x.l 1 20
  · repeat (first | (with_reducible (first | apply wA | apply wB | apply wC | apply wD | apply wE | apply wF | apply wG | apply wH | apply wI | apply wJ | apply wK | apply wL | apply wM | apply wN | apply wO | apply wP | apply wQ rfl | apply wR | apply wS | apply wT | apply wU)) | ((with_reducible (first | apply wV | apply wW | apply wX | (apply wY [] hTT cfA_ok noM_ok mixed; (focus kernel_rfl)))); (focus (simp only [Tryz.f129, encLb, e1, cfA, c128, a1, a2, go_sem]; rfl))) | (with_reducible refine wZ hTT cfA_ok noM_ok ?_) | (with_reducible refine wa ?_; refine And.intro ?_ ?_; (focus kernel_rfl)))
    exact ⟨rfl, rfl, _, rfl, rfl⟩
  cases a3 : inB x.lo (-4) x.hi
  · repeat (first | (with_reducible (first | apply wA | apply wB | apply wC | apply wD | apply wE | apply wF | apply wG | apply wH | apply wI | apply wJ | apply wK | apply wL | apply wM | apply wN | apply wO | apply wP | apply wQ rfl | apply wR | apply wS | apply wT | apply wU)) | ((with_reducible (first | apply wV | apply wW | apply wX | (apply wY [] hTT cfA_ok noM_ok mixed; (focus kernel_rfl)))); (focus (simp only [Tryz.f129, encLb, e1, cfA, c128, a1, a2, a3, go_sem]; rfl))) | (with_reducible refine wZ hTT cfA_ok noM_ok ?_) | (with_reducible refine wa ?_; refine And.intro ?_ ?_; (focus kernel_rfl)))
    exact ⟨rfl, rfl, _, rfl, rfl⟩
  cases a4 : decide (x.hi ≤ 4)
  · have b4 : ¬ x.hi ≤ 4 := by simpa using a4
    repeat (first | (with_reducible (first | apply wA | apply wB | apply wC | apply wD | apply wE | apply wF | apply wG | apply wH | apply wI | apply wJ | apply wK | apply wL | apply wM | apply wN | apply wO | apply wP | apply wQ rfl | apply wR | apply wS | apply wT | apply wU)) | ((with_reducible (first | apply wV | apply wW | apply wX | (apply wY [] hTT cfA_ok noM_ok mixed; (focus kernel_rfl)))); (focus (simp only [Tryz.f129, encLb, e1, cfA, c128, a1, a2, a3, b4, go_sem]; rfl))) | (with_reducible refine wZ hTT cfA_ok noM_ok ?_) | (with_reducible refine wa ?_; refine And.intro ?_ ?_; (focus kernel_rfl)))
    exact ⟨rfl, rfl, _, rfl, rfl⟩
  have b4 : x.hi ≤ 4 := by simpa using a4
  repeat (first | (with_reducible (first | apply wA | apply wB | apply wC | apply wD | apply wE | apply wF | apply wG | apply wH | apply wI | apply wJ | apply wK | apply wL | apply wM | apply wN | apply wO | apply wP | apply wQ rfl | apply wR | apply wS | apply wT | apply wU)) | ((with_reducible (first | apply wV | apply wW | apply wX | (apply wY [] hTT cfA_ok noM_ok mixed; (focus kernel_rfl)))); (focus (simp only [Tryz.f129, encLb, e1, cfA, c128, a1, a2, a3, b4, go_sem]; rfl))) | (with_reducible refine wZ hTT cfA_ok noM_ok ?_) | (with_reducible refine wa ?_; refine And.intro ?_ ?_; (focus kernel_rfl)))
  exact ⟨rfl, rfl, _, rfl, rfl⟩
theorem decLb_cells (x : Lb) : decLb (.agg [ii x.p, ii x.l, ii x.lo, ii x.hi, ii x.w]) = some x := rfl
def c129 : List PV → List Box → Option (PRes × List Box)
  | [.int .i64 n, v], sg => match decLb v with
    | some x => if 0 ≤ n ∧ n ≤ 1000 then some (.ret (.bool (lbB n x)), sg) else none
    | none => none
  | _, _ => none
theorem c129_ok : ConOk Tryz.prog 129 c129 := ConOk.of0 (ent Tryz.func129 rfl) fun args sg r sg' h => by
  unfold c129 at h
  split at h <;> try (cases h; done)
  split at h <;> try (cases h; done)
  rename_i x hx
  split at h <;> cases h
  rename_i hn
  obtain rfl := decLb_inv _ _ hx
  exact ⟨_, rfl, rfl, rfl, isLimb_129 _ _ hn.1 hn.2⟩
def cfB : CallF := cfAdd cfA 129 c129
theorem cfB_ok : CallFOk Tryz.prog cfB := cfAdd_ok cfA_ok c129_ok
theorem drop_get {α : Type} {l : List α} {i : Nat} {x : α} (h : l[i]? = some x) : l.drop i = x :: l.drop (i + 1) := by
  obtain ⟨hl, e⟩ := List.getElem?_eq_some_iff.1 h
  rw [List.drop_eq_getElem_cons hl, e]
theorem map_get {α β : Type} {f : α → β} {l : List α} {i : Nat} {x : α} (h : l[i]? = some x) : (l.map f)[i]? = some (f x) := by simp [h]
theorem lb_d {i : Int} {x : Lb} (h : lbB i x = true) : -4 ≤ x.lo ∧ x.lo ≤ x.hi ∧ x.hi ≤ 4 ∧ -1 ≤ x.p ∧ x.p ≤ i - 1 ∧ 1 ≤ x.l ∧ x.l ≤ 20 ∧ 0 ≤ x.w ∧ x.w ≤ 2 := by
  simp [lbB, inB] at h; omega
theorem pow9 (i : Nat) (h : i ≤ 5) : (9 : Int) ^ i ≤ 59049 := by
  rcases i with _ | _ | _ | _ | _ | _ | i <;> first | decide | omega
theorem isFigure_85 (s : Int) (z : Z) (ls : List Lb) (hz : z = .n → ls = []) : CallOk Tryz.prog 85 [.agg [ii s, .sl z (ls.map encLb)]] [] (.ret (.bool (figB s ls))) [] := by
  refine CallOk.of0 hTT Tryz.func85 rfl rfl ?_
  unfold figB
  cases a1 : inB s 0 7
  · repeat (first | (with_reducible (first | apply wA | apply wB | apply wC | apply wD | apply wE | apply wF | apply wG | apply wH | apply wI | apply wJ | apply wK | apply wL | apply wM | apply wN | apply wO | apply wP | apply wQ rfl | apply wR | apply wS | apply wT | apply wU)) | ((with_reducible (first | apply wV | apply wW | apply wX | (apply wY [] hTT cfA_ok noM_ok mixed; (focus kernel_rfl)))); (focus (simp only [Tryz.f85, cfA, c128, a1, go_sem]; rfl))) | (with_reducible refine wZ hTT cfA_ok noM_ok ?_) | (with_reducible refine wa ?_; refine And.intro ?_ ?_; (focus kernel_rfl)))
    exact ⟨rfl, rfl, _, rfl, rfl⟩
  cases a2 : inB ls.length 1 5
  · repeat (first | (with_reducible (first | apply wA | apply wB | apply wC | apply wD | apply wE | apply wF | apply wG | apply wH | apply wI | apply wJ | apply wK | apply wL | apply wM | apply wN | apply wO | apply wP | apply wQ rfl | apply wR | apply wS | apply wT | apply wU)) | ((with_reducible (first | apply wV | apply wW | apply wX | (apply wY [] hTT cfA_ok noM_ok mixed; (focus kernel_rfl)))); (focus (simp only [Tryz.f85, cfA, c128, a1, a2, go_sem]; rfl))) | (with_reducible refine wZ hTT cfA_ok noM_ok ?_) | (with_reducible refine wa ?_; refine And.intro ?_ ?_; (focus kernel_rfl)))
    exact ⟨rfl, rfl, _, rfl, rfl⟩
  have h5 : 1 ≤ ls.length ∧ ls.length ≤ 5 := by simp [inB] at a2; omega
  have hz' : z ≠ .n := fun e => by rw [hz e] at h5; simp at h5
  repeat (first | (with_reducible (first | apply wA | apply wB | apply wC | apply wD | apply wE | apply wF | apply wG | apply wH | apply wI | apply wJ | apply wK | apply wL | apply wM | apply wN | apply wO | apply wP | apply wQ rfl | apply wR | apply wS | apply wT | apply wU)) | ((with_reducible (first | apply wV | apply wW | apply wX | (apply wY [] hTT cfA_ok noM_ok mixed; (focus kernel_rfl)))); (focus (simp only [Tryz.f85, cfA, c128, a1, a2, go_sem]; rfl))) | (with_reducible refine wZ hTT cfA_ok noM_ok ?_) | (with_reducible refine wa ?_; refine And.intro ?_ ?_; (focus kernel_rfl)))
  refine RunQ.keep [20, 19, 18, 3, 2, 1] (by simp only [go_sem]; rfl) ?_
  refine RunQ.loop (fun i s' => ∃ m : Int, manyG 0 1 ls = manyG i m (ls.drop i) ∧ 1 ≤ m ∧ m ≤ 9 ^ i ∧ s' = ⟨[(20, ii i), (19, ii ls.length), (18, .sl z (ls.map encLb)), (3, ii m), (2, .bool false), (1, .bp 0 0)], 40, [.var [ii s, .sl z (ls.map encLb)] false]⟩) ls.length ⟨1, rfl, by omega, by decide, rfl⟩ ?_
  rintro i _ hi ⟨m, hm, hm1, hm2, rfl⟩
  by_cases hlt : i < ls.length
  · obtain ⟨x, hx⟩ : ∃ x, ls[i]? = some x := ⟨_, List.getElem?_eq_getElem hlt⟩
    have hx' : (ls.map encLb)[i]? = some (.agg [ii x.p, ii x.l, ii x.lo, ii x.hi, ii x.w]) := map_get hx
    have hlt' : (i : Int) < ls.length := by omega
    have hi' : (i : Int) ≤ 1000 := by omega
    cases a3 : lbB i x
    · repeat (first | (with_reducible (first | apply wA | apply wB | apply wC | apply wD | apply wE | apply wF | apply wG | apply wH | apply wI | apply wJ | apply wK | apply wL | apply wM | apply wN | apply wO | apply wP | apply wQ rfl | apply wR | apply wS | apply wT | apply wU)) | ((with_reducible (first | apply wV | apply wW | apply wX | (apply wY [] hTT cfB_ok noM_ok mixed; (focus kernel_rfl)))); (focus (simp only [Tryz.f85, cfB, cfA, c129, a3, hx', hlt', hi', hz', decLb_cells, go_sem]; rfl))) | (with_reducible refine wZ hTT cfB_ok noM_ok ?_) | (with_reducible refine wa ?_; refine And.intro ?_ ?_; (focus kernel_rfl)))
      refine ⟨rfl, rfl, _, rfl, ?_⟩
      rw [hm, drop_get hx, manyG, if_neg (by rw [a3]; decide)]
      rfl
    · obtain ⟨b1, b2, b3, _⟩ := lb_d a3
      have h9 := pow9 i (by omega)
      have hd : 1 ≤ x.hi - x.lo + 1 ∧ x.hi - x.lo + 1 ≤ 9 := by omega
      have hmul : 1 * 1 ≤ m * (x.hi - x.lo + 1) := Int.mul_le_mul hm1 hd.1 (by omega) (by omega)
      have hmul2 : m * (x.hi - x.lo + 1) ≤ 9 ^ i * 9 := Int.mul_le_mul hm2 hd.2 (by omega) (by omega)
      have e1 : IntKind.i64.wrap (x.hi - x.lo) = x.hi - x.lo := wrap_id (by omega) (by omega)
      have e2 : IntKind.i64.wrap (x.hi - x.lo + 1) = x.hi - x.lo + 1 := wrap_id (by omega) (by omega)
      have e3 : IntKind.i64.wrap (m * (x.hi - x.lo + 1)) = m * (x.hi - x.lo + 1) := wrap_id (by omega) (by omega)
      have e4 : IntKind.i64.wrap ((i : Int) + 1) = ((i + 1 : Nat) : Int) := wrap_id (by omega) (by omega)
      repeat (first | (with_reducible (first | apply wA | apply wB | apply wC | apply wD | apply wE | apply wF | apply wG | apply wH | apply wI | apply wJ | apply wK | apply wL | apply wM | apply wN | apply wO | apply wP | apply wQ rfl | apply wR | apply wS | apply wT | apply wU)) | ((with_reducible (first | apply wV | apply wW | apply wX | (apply wY [] hTT cfB_ok noM_ok mixed; (focus kernel_rfl)))); (focus (simp only [Tryz.f85, cfB, cfA, c129, a3, hx', hlt', hi', hz', decLb_cells, e1, e2, e3, e4, go_sem]; rfl))) | (with_reducible refine wZ hTT cfB_ok noM_ok ?_) | (with_reducible refine wa ?_; refine And.intro ?_ ?_; (focus kernel_rfl)))
      refine roundQ.t 1 [20, 19, 18, 3, 2, 1] hlt (by simp only [ltB_lbs, go_sem]) ⟨m * (x.hi - x.lo + 1), ?_, by omega, by rw [Int.pow_succ]; exact hmul2, by simp only [go_sem]⟩
      rw [hm, drop_get hx, manyG, if_pos a3]
      rfl
  · have hlt' : ¬ (i : Int) < ls.length := by omega
    have hd : ls.drop i = [] := List.drop_eq_nil_of_le (by omega)
    repeat (first | (with_reducible (first | apply wA | apply wB | apply wC | apply wD | apply wE | apply wF | apply wG | apply wH | apply wI | apply wJ | apply wK | apply wL | apply wM | apply wN | apply wO | apply wP | apply wQ rfl | apply wR | apply wS | apply wT | apply wU)) | ((with_reducible (first | apply wV | apply wW | apply wX | (apply wY [] hTT cfB_ok noM_ok mixed; (focus kernel_rfl)))); (focus (simp only [Tryz.f85, cfB, cfA, c129, hlt', go_sem]; rfl))) | (with_reducible refine wZ hTT cfB_ok noM_ok ?_) | (with_reducible refine wa ?_; refine And.intro ?_ ?_; (focus kernel_rfl)))
    refine ⟨rfl, rfl, _, rfl, ?_⟩
    rw [hm, hd]
    rfl
/-- A slice that can be: a nil one has no elements. -/
def zOk (z : Z) (es : List PV) : Bool :=
  match z with
  | .n => es.isEmpty
  | _ => true
theorem zOk_map {α : Type} {z : Z} {g : α → PV} {l : List α} (h : zOk z (l.map g) = true) : z = .n → l = [] := by
  rintro rfl
  cases l with
  | nil => rfl
  | cons a l => cases h
def decFig : PV → Option (Int × List Lb)
  | .agg [.int .i64 s, .sl z es] => if zOk z es = true then match decL decLb es with
      | some ls => some (s, ls)
      | none => none
    else none
  | _ => none
theorem decFig_inv {v : PV} {s : Int} {ls : List Lb} (h : decFig v = some (s, ls)) : ∃ z, v = .agg [ii s, .sl z (ls.map encLb)] ∧ (z = .n → ls = []) := by
  unfold decFig at h
  split at h <;> try (cases h; done)
  split at h <;> try (cases h; done)
  rename_i hz
  split at h <;> cases h
  rename_i hl
  obtain rfl := decL_inv decLb_inv hl
  exact ⟨_, rfl, zOk_map hz⟩
theorem decFig_enc (s : Int) (z : Z) (ls : List Lb) (hz : zOk z (ls.map encLb) = true) : decFig (.agg [ii s, .sl z (ls.map encLb)]) = some (s, ls) := by
  simp [decFig, hz, decLbs]
def c85 : List PV → List Box → Option (PRes × List Box)
  | [v], sg => match decFig v with
    | some (s, ls) => some (.ret (.bool (figB s ls)), sg)
    | none => none
  | _, _ => none
theorem ltB_fig (s : Int) (z : Z) (ls : List Lb) (m : Nat) : (PV.agg [ii s, .sl z (ls.map encLb)]).ltB m = true := by
  show (true && (ltBL m (ls.map encLb) && true)) = true
  rw [ltB_lbs]; rfl
theorem c85_ok : ConOk Tryz.prog 85 c85 := ConOk.of0 (ent Tryz.func85 rfl) fun args sg r sg' h => by
  unfold c85 at h
  split at h <;> try (cases h; done)
  split at h <;> cases h
  rename_i h1
  obtain ⟨z, rfl, hz⟩ := decFig_inv h1
  exact ⟨_, rfl, rfl, by rw [ltBL_cons, ltB_fig]; rfl, isFigure_85 _ _ _ hz⟩
end Go.Pv
namespace Go.Pv
open Go Go.RowKit Go.Proofs
set_option maxRecDepth 10000
set_option maxHeartbeats 4000000
theorem isPose_86 (s : Int) (z zp : Z) (ls : List Lb) (ps : List Int) (hz : z = .n → ls = []) (hp : zp = .n → ps = []) (hs : ls.length ≤ 1000) : CallOk Tryz.prog 86 [.agg [ii s, .sl z (ls.map encLb)], .sl zp (ps.map ii)] [] (.ret (.bool (poseG ls ps))) [] := by
  refine CallOk.of0 hTT Tryz.func86 rfl rfl ?_
  by_cases hl : ps.length = ls.length
  · repeat (first | (with_reducible (first | apply wA | apply wB | apply wC | apply wD | apply wE | apply wF | apply wG | apply wH | apply wI | apply wJ | apply wK | apply wL | apply wM | apply wN | apply wO | apply wP | apply wQ rfl | apply wR | apply wS | apply wT | apply wU)) | ((with_reducible (first | apply wV | apply wW | apply wX | (apply wY [] hTT cfA_ok noM_ok mixed; (focus kernel_rfl)))); (focus (simp only [Tryz.f86, cfA, c128, hl, go_sem]; rfl))) | (with_reducible refine wZ hTT cfA_ok noM_ok ?_) | (with_reducible refine wa ?_; refine And.intro ?_ ?_; (focus kernel_rfl)))
    refine RunQ.keep [15, 14, 13, 2, 4] (by simp only [go_sem]; rfl) ?_
    refine RunQ.loop (fun i s' => poseG ls ps = poseG (ls.drop i) (ps.drop i) ∧ s' = ⟨[(15, ii i), (14, ii ls.length), (13, .sl zp (ps.map ii)), (4, .bool false), (2, .bp 0 0)], 36, [.var [ii s, .sl z (ls.map encLb)] false]⟩) ls.length ⟨rfl, rfl⟩ ?_
    rintro i _ hi ⟨hm, rfl⟩
    by_cases hlt : i < ls.length
    · obtain ⟨x, hx⟩ : ∃ x, ls[i]? = some x := ⟨_, List.getElem?_eq_getElem hlt⟩
      obtain ⟨t, ht⟩ : ∃ t, ps[i]? = some t := ⟨_, List.getElem?_eq_getElem (by omega)⟩
      have hx' : (ls.map encLb)[i]? = some (.agg [ii x.p, ii x.l, ii x.lo, ii x.hi, ii x.w]) := map_get hx
      have ht' : (ps.map ii)[i]? = some (ii t) := map_get ht
      have hlt' : (i : Int) < ls.length := by omega
      have hz' : z ≠ .n := fun e => by rw [hz e] at hlt; simp at hlt
      have hzp' : zp ≠ .n := fun e => by rw [hp e] at hl; simp at hl; omega
      have e4 : IntKind.i64.wrap ((i : Int) + 1) = ((i + 1 : Nat) : Int) := wrap_id (by omega) (by omega)
      have hstep : poseG ls ps = (inB t x.lo x.hi && poseG (ls.drop (i + 1)) (ps.drop (i + 1))) := by rw [hm, drop_get hx, drop_get ht]; rfl
      cases a3 : inB t x.lo x.hi
      · repeat (first | (with_reducible (first | apply wA | apply wB | apply wC | apply wD | apply wE | apply wF | apply wG | apply wH | apply wI | apply wJ | apply wK | apply wL | apply wM | apply wN | apply wO | apply wP | apply wQ rfl | apply wR | apply wS | apply wT | apply wU)) | ((with_reducible (first | apply wV | apply wW | apply wX | (apply wY [] hTT cfA_ok noM_ok mixed; (focus kernel_rfl)))); (focus (simp only [Tryz.f86, cfA, c128, hl, hx', ht', hlt', hz', hzp', a3, go_sem]; rfl))) | (with_reducible refine wZ hTT cfA_ok noM_ok ?_) | (with_reducible refine wa ?_; refine And.intro ?_ ?_; (focus kernel_rfl)))
        refine ⟨rfl, rfl, _, rfl, ?_⟩
        rw [hstep, a3]; rfl
      · repeat (first | (with_reducible (first | apply wA | apply wB | apply wC | apply wD | apply wE | apply wF | apply wG | apply wH | apply wI | apply wJ | apply wK | apply wL | apply wM | apply wN | apply wO | apply wP | apply wQ rfl | apply wR | apply wS | apply wT | apply wU)) | ((with_reducible (first | apply wV | apply wW | apply wX | (apply wY [] hTT cfA_ok noM_ok mixed; (focus kernel_rfl)))); (focus (simp only [Tryz.f86, cfA, c128, hl, hx', ht', hlt', hz', hzp', a3, e4, go_sem]; rfl))) | (with_reducible refine wZ hTT cfA_ok noM_ok ?_) | (with_reducible refine wa ?_; refine And.intro ?_ ?_; (focus kernel_rfl)))
        refine roundQ.t 1 [15, 14, 13, 4, 2] hlt (by simp only [ltB_is, ltB_lbs, go_sem]) ⟨by rw [hstep, a3]; rfl, by simp only [go_sem]⟩
    · have hlt' : ¬ (i : Int) < ls.length := by omega
      repeat (first | (with_reducible (first | apply wA | apply wB | apply wC | apply wD | apply wE | apply wF | apply wG | apply wH | apply wI | apply wJ | apply wK | apply wL | apply wM | apply wN | apply wO | apply wP | apply wQ rfl | apply wR | apply wS | apply wT | apply wU)) | ((with_reducible (first | apply wV | apply wW | apply wX | (apply wY [] hTT cfA_ok noM_ok mixed; (focus kernel_rfl)))); (focus (simp only [Tryz.f86, hlt', go_sem]; rfl))) | (with_reducible refine wZ hTT cfA_ok noM_ok ?_) | (with_reducible refine wa ?_; refine And.intro ?_ ?_; (focus kernel_rfl)))
      refine ⟨rfl, rfl, _, rfl, ?_⟩
      rw [hm, List.drop_eq_nil_of_le (by omega), List.drop_eq_nil_of_le (by omega)]; rfl
  · have hl' : ((ps.length : Int) != (ls.length : Int)) = true := by simp; omega
    repeat (first | (with_reducible (first | apply wA | apply wB | apply wC | apply wD | apply wE | apply wF | apply wG | apply wH | apply wI | apply wJ | apply wK | apply wL | apply wM | apply wN | apply wO | apply wP | apply wQ rfl | apply wR | apply wS | apply wT | apply wU)) | ((with_reducible (first | apply wV | apply wW | apply wX | (apply wY [] hTT cfA_ok noM_ok mixed; (focus kernel_rfl)))); (focus (simp only [Tryz.f86, cfA, c128, hl', go_sem]; rfl))) | (with_reducible refine wZ hTT cfA_ok noM_ok ?_) | (with_reducible refine wa ?_; refine And.intro ?_ ?_; (focus kernel_rfl)))
    refine ⟨rfl, rfl, _, rfl, ?_⟩
    have : ∀ (ls : List Lb) (ps : List Int), ps.length ≠ ls.length → poseG ls ps = false := by
      intro ls
      induction ls with
      | nil => intro ps h; cases ps <;> first | rfl | simp at h
      | cons x r ih => intro ps h; cases ps with
        | nil => rfl
        | cons t q => simp only [poseG]; rw [ih q (by simpa using h)]; simp
    rw [this ls ps hl]; rfl
theorem poseG_len : ∀ (ls : List Lb) (ps : List Int), ps.length ≠ ls.length → poseG ls ps = false
  | [], [], h => by simp at h
  | [], _ :: _, _ => rfl
  | _ :: _, [], _ => rfl
  | x :: r, t :: q, h => by simp only [poseG]; rw [poseG_len r q (by simpa using h)]; simp
theorem Pose_27 (s : Int) (z zp : Z) (ls : List Lb) (ps : List Int) (hz : z = .n → ls = []) (hp : zp = .n → ps = []) (hs : ls.length ≤ 1000) : CallOk Tryz.prog 27 [.agg [ii s, .sl z (ls.map encLb)], .sl zp (ps.map ii)] [] (.ret (.bool (poseG ls ps))) [] := by
  refine CallOk.of0 hTT Tryz.func27 rfl rfl ?_
  by_cases hl : ps.length = ls.length
  · repeat (first | (with_reducible (first | apply wA | apply wB | apply wC | apply wD | apply wE | apply wF | apply wG | apply wH | apply wI | apply wJ | apply wK | apply wL | apply wM | apply wN | apply wO | apply wP | apply wQ rfl | apply wR | apply wS | apply wT | apply wU)) | ((with_reducible (first | apply wV | apply wW | apply wX | (apply wY [] hTT cfA_ok noM_ok mixed; (focus kernel_rfl)))); (focus (simp only [Tryz.f27, cfA, c128, hl, go_sem]; rfl))) | (with_reducible refine wZ hTT cfA_ok noM_ok ?_) | (with_reducible refine wa ?_; refine And.intro ?_ ?_; (focus kernel_rfl)))
    refine RunQ.keep [5, 1, 2, 4] (by simp only [go_sem]; rfl) ?_
    refine RunQ.loop (fun i s' => poseG ls ps = poseG (ls.drop i) (ps.drop i) ∧ s' = ⟨[(5, ii i), (4, .bool false), (2, .bp 0 0), (1, .sl zp (ps.map ii))], 36, [.var [ii s, .sl z (ls.map encLb)] false]⟩) ls.length ⟨rfl, rfl⟩ ?_
    rintro i _ hi ⟨hm, rfl⟩
    by_cases hlt : i < ls.length
    · obtain ⟨x, hx⟩ : ∃ x, ls[i]? = some x := ⟨_, List.getElem?_eq_getElem hlt⟩
      obtain ⟨t, ht⟩ : ∃ t, ps[i]? = some t := ⟨_, List.getElem?_eq_getElem (by omega)⟩
      have hx' : (ls.map encLb)[i]? = some (.agg [ii x.p, ii x.l, ii x.lo, ii x.hi, ii x.w]) := map_get hx
      have ht' : (ps.map ii)[i]? = some (ii t) := map_get ht
      have hlt' : (i : Int) < ls.length := by omega
      have hz' : z ≠ .n := fun e => by rw [hz e] at hlt; simp at hlt
      have hzp' : zp ≠ .n := fun e => by rw [hp e] at hl; simp at hl; omega
      have e4 : IntKind.i64.wrap ((i : Int) + 1) = ((i + 1 : Nat) : Int) := wrap_id (by omega) (by omega)
      have hstep : poseG ls ps = (inB t x.lo x.hi && poseG (ls.drop (i + 1)) (ps.drop (i + 1))) := by rw [hm, drop_get hx, drop_get ht]; rfl
      cases a3 : inB t x.lo x.hi
      · repeat (first | (with_reducible (first | apply wA | apply wB | apply wC | apply wD | apply wE | apply wF | apply wG | apply wH | apply wI | apply wJ | apply wK | apply wL | apply wM | apply wN | apply wO | apply wP | apply wQ rfl | apply wR | apply wS | apply wT | apply wU)) | ((with_reducible (first | apply wV | apply wW | apply wX | (apply wY [] hTT cfA_ok noM_ok mixed; (focus kernel_rfl)))); (focus (simp only [Tryz.f27, cfA, c128, hl, hx', ht', hlt', hz', hzp', a3, go_sem]; rfl))) | (with_reducible refine wZ hTT cfA_ok noM_ok ?_) | (with_reducible refine wa ?_; refine And.intro ?_ ?_; (focus kernel_rfl)))
        refine ⟨rfl, rfl, _, rfl, ?_⟩
        rw [hstep, a3]; rfl
      · repeat (first | (with_reducible (first | apply wA | apply wB | apply wC | apply wD | apply wE | apply wF | apply wG | apply wH | apply wI | apply wJ | apply wK | apply wL | apply wM | apply wN | apply wO | apply wP | apply wQ rfl | apply wR | apply wS | apply wT | apply wU)) | ((with_reducible (first | apply wV | apply wW | apply wX | (apply wY [] hTT cfA_ok noM_ok mixed; (focus kernel_rfl)))); (focus (simp only [Tryz.f27, cfA, c128, hl, hx', ht', hlt', hz', hzp', a3, e4, go_sem]; rfl))) | (with_reducible refine wZ hTT cfA_ok noM_ok ?_) | (with_reducible refine wa ?_; refine And.intro ?_ ?_; (focus kernel_rfl)))
        refine roundQ.t 1 [5, 1, 4, 2] hlt (by simp only [ltB_is, ltB_lbs, go_sem]) ⟨by rw [hstep, a3]; rfl, by simp only [go_sem]⟩
    · have hlt' : ¬ (i : Int) < ls.length := by omega
      repeat (first | (with_reducible (first | apply wA | apply wB | apply wC | apply wD | apply wE | apply wF | apply wG | apply wH | apply wI | apply wJ | apply wK | apply wL | apply wM | apply wN | apply wO | apply wP | apply wQ rfl | apply wR | apply wS | apply wT | apply wU)) | ((with_reducible (first | apply wV | apply wW | apply wX | (apply wY [] hTT cfA_ok noM_ok mixed; (focus kernel_rfl)))); (focus (simp only [Tryz.f27, hl, hlt', go_sem]; rfl))) | (with_reducible refine wZ hTT cfA_ok noM_ok ?_) | (with_reducible refine wa ?_; refine And.intro ?_ ?_; (focus kernel_rfl)))
      refine ⟨rfl, rfl, _, rfl, ?_⟩
      rw [hm, List.drop_eq_nil_of_le (by omega), List.drop_eq_nil_of_le (by omega)]; rfl
  · have hl' : ((ps.length : Int) != (ls.length : Int)) = true := by simp; omega
    repeat (first | (with_reducible (first | apply wA | apply wB | apply wC | apply wD | apply wE | apply wF | apply wG | apply wH | apply wI | apply wJ | apply wK | apply wL | apply wM | apply wN | apply wO | apply wP | apply wQ rfl | apply wR | apply wS | apply wT | apply wU)) | ((with_reducible (first | apply wV | apply wW | apply wX | (apply wY [] hTT cfA_ok noM_ok mixed; (focus kernel_rfl)))); (focus (simp only [Tryz.f27, cfA, c128, hl', go_sem]; rfl))) | (with_reducible refine wZ hTT cfA_ok noM_ok ?_) | (with_reducible refine wa ?_; refine And.intro ?_ ?_; (focus kernel_rfl)))
    refine ⟨rfl, rfl, _, rfl, ?_⟩
    rw [poseG_len ls ps hl]; rfl
def limbG (ls : List Lb) (n : Int) : Bool := inB n 0 (ls.length - 1)
theorem Limb_28 (s n : Int) (z : Z) (ls : List Lb) (hs : ls.length ≤ maxLen) : CallOk Tryz.prog 28 [.agg [ii s, .sl z (ls.map encLb)], ii n] [] (.ret (.bool (limbG ls n))) [] := by
  refine CallOk.of0 hTT Tryz.func28 rfl rfl ?_
  unfold maxLen at hs
  have e1 : IntKind.i64.wrap ((ls.length : Int) - 1) = (ls.length : Int) - 1 := wrap_id (by omega) (by omega)
  repeat (first | (with_reducible (first | apply wA | apply wB | apply wC | apply wD | apply wE | apply wF | apply wG | apply wH | apply wI | apply wJ | apply wK | apply wL | apply wM | apply wN | apply wO | apply wP | apply wQ rfl | apply wR | apply wS | apply wT | apply wU)) | ((with_reducible (first | apply wV | apply wW | apply wX | (apply wY [] hTT cfA_ok noM_ok mixed; (focus kernel_rfl)))); (focus (simp only [Tryz.f28, cfA, c128, e1, go_sem]; rfl))) | (with_reducible refine wZ hTT cfA_ok noM_ok ?_) | (with_reducible refine wa ?_; refine And.intro ?_ ?_; (focus kernel_rfl)))
  exact ⟨rfl, rfl, _, rfl, rfl⟩
theorem hasLimb_88 (s n : Int) (z : Z) (ls : List Lb) (hs : ls.length ≤ maxLen) : CallOk Tryz.prog 88 [.agg [ii s, .sl z (ls.map encLb)], ii n] [] (.ret (.bool (limbG ls n))) [] := by
  refine CallOk.of0 hTT Tryz.func88 rfl rfl ?_
  unfold maxLen at hs
  have e1 : IntKind.i64.wrap ((ls.length : Int) - 1) = (ls.length : Int) - 1 := wrap_id (by omega) (by omega)
  repeat (first | (with_reducible (first | apply wA | apply wB | apply wC | apply wD | apply wE | apply wF | apply wG | apply wH | apply wI | apply wJ | apply wK | apply wL | apply wM | apply wN | apply wO | apply wP | apply wQ rfl | apply wR | apply wS | apply wT | apply wU)) | ((with_reducible (first | apply wV | apply wW | apply wX | (apply wY [] hTT cfA_ok noM_ok mixed; (focus kernel_rfl)))); (focus (simp only [Tryz.f88, cfA, c128, e1, go_sem]; rfl))) | (with_reducible refine wZ hTT cfA_ok noM_ok ?_) | (with_reducible refine wa ?_; refine And.intro ?_ ?_; (focus kernel_rfl)))
  exact ⟨rfl, rfl, _, rfl, rfl⟩
theorem short_25 (s : Int) (z : Z) (ls : List Lb) : CallOk Tryz.prog 25 [.agg [ii s, .sl z (ls.map encLb)]] [] (.ret (.bool (decide (ls.length ≤ 7)))) [] := by
  refine CallOk.of0 hTT Tryz.func25 rfl rfl ?_
  repeat (first | (with_reducible (first | apply wA | apply wB | apply wC | apply wD | apply wE | apply wF | apply wG | apply wH | apply wI | apply wJ | apply wK | apply wL | apply wM | apply wN | apply wO | apply wP | apply wQ rfl | apply wR | apply wS | apply wT | apply wU)) | ((with_reducible (first | apply wV | apply wW | apply wX | (apply wY [] hTT cfA_ok noM_ok mixed; (focus kernel_rfl)))); (focus (simp only [Tryz.f25, cfA, c128, go_sem]; rfl))) | (with_reducible refine wZ hTT cfA_ok noM_ok ?_) | (with_reducible refine wa ?_; refine And.intro ?_ ?_; (focus kernel_rfl)))
  refine ⟨rfl, rfl, _, rfl, ?_⟩
  have : decide ((ls.length : Int) ≤ 7) = decide (ls.length ≤ 7) := by congr 1; simp; omega
  rw [← this]; rfl
theorem lbB_ref (i : Int) (x : Lb) : lbB i x = (inB x.p (-1) (i - 1) && inB x.l 1 20 && inB x.lo (-4) 4 && inB x.hi x.lo 4 && inB x.w 0 2) := by
  rw [Bool.eq_iff_iff]; simp [lbB, inB]; omega
theorem Figure_26 (s : Int) (z : Z) (ls : List Lb) (hz : z = .n → ls = []) : CallOk Tryz.prog 26 [.agg [ii s, .sl z (ls.map encLb)]] [] (.ret (.bool (figB s ls))) [] := by
  refine CallOk.of0 hTT Tryz.func26 rfl rfl ?_
  unfold figB
  cases a1 : inB s 0 7
  · repeat (first | (with_reducible (first | apply wA | apply wB | apply wC | apply wD | apply wE | apply wF | apply wG | apply wH | apply wI | apply wJ | apply wK | apply wL | apply wM | apply wN | apply wO | apply wP | apply wQ rfl | apply wR | apply wS | apply wT | apply wU)) | ((with_reducible (first | apply wV | apply wW | apply wX | (apply wY [] hTT cfA_ok noM_ok mixed; (focus kernel_rfl)))); (focus (simp only [Tryz.f26, cfA, c128, a1, go_sem]; rfl))) | (with_reducible refine wZ hTT cfA_ok noM_ok ?_) | (with_reducible refine wa ?_; refine And.intro ?_ ?_; (focus kernel_rfl)))
    exact ⟨rfl, rfl, _, rfl, rfl⟩
  cases a2 : inB ls.length 1 5
  · repeat (first | (with_reducible (first | apply wA | apply wB | apply wC | apply wD | apply wE | apply wF | apply wG | apply wH | apply wI | apply wJ | apply wK | apply wL | apply wM | apply wN | apply wO | apply wP | apply wQ rfl | apply wR | apply wS | apply wT | apply wU)) | ((with_reducible (first | apply wV | apply wW | apply wX | (apply wY [] hTT cfA_ok noM_ok mixed; (focus kernel_rfl)))); (focus (simp only [Tryz.f26, cfA, c128, a1, a2, go_sem]; rfl))) | (with_reducible refine wZ hTT cfA_ok noM_ok ?_) | (with_reducible refine wa ?_; refine And.intro ?_ ?_; (focus kernel_rfl)))
    exact ⟨rfl, rfl, _, rfl, rfl⟩
  have h5 : 1 ≤ ls.length ∧ ls.length ≤ 5 := by simp [inB] at a2; omega
  have hz' : z ≠ .n := fun e => by rw [hz e] at h5; simp at h5
  repeat (first | (with_reducible (first | apply wA | apply wB | apply wC | apply wD | apply wE | apply wF | apply wG | apply wH | apply wI | apply wJ | apply wK | apply wL | apply wM | apply wN | apply wO | apply wP | apply wQ rfl | apply wR | apply wS | apply wT | apply wU)) | ((with_reducible (first | apply wV | apply wW | apply wX | (apply wY [] hTT cfA_ok noM_ok mixed; (focus kernel_rfl)))); (focus (simp only [Tryz.f26, cfA, c128, a1, a2, go_sem]; rfl))) | (with_reducible refine wZ hTT cfA_ok noM_ok ?_) | (with_reducible refine wa ?_; refine And.intro ?_ ?_; (focus kernel_rfl)))
  refine RunQ.keep [4, 3, 2, 1] (by simp only [go_sem]; rfl) ?_
  refine RunQ.loop (fun i s' => ∃ m : Int, manyG 0 1 ls = manyG i m (ls.drop i) ∧ 1 ≤ m ∧ m ≤ 9 ^ i ∧ s' = ⟨[(4, ii i), (3, ii m), (2, .bool false), (1, .bp 0 0)], 71, [.var [ii s, .sl z (ls.map encLb)] false]⟩) ls.length ⟨1, rfl, by omega, by decide, rfl⟩ ?_
  rintro i _ hi ⟨m, hm, hm1, hm2, rfl⟩
  by_cases hlt : i < ls.length
  · obtain ⟨x, hx⟩ : ∃ x, ls[i]? = some x := ⟨_, List.getElem?_eq_getElem hlt⟩
    have hx' : (ls.map encLb)[i]? = some (.agg [ii x.p, ii x.l, ii x.lo, ii x.hi, ii x.w]) := map_get hx
    have hlt' : (i : Int) < ls.length := by omega
    have e0 : IntKind.i64.wrap ((i : Int) - 1) = (i : Int) - 1 := wrap_id (by omega) (by omega)
    have bad : lbB i x = false → manyG 0 1 ls = none := fun a3 => by rw [hm, drop_get hx, manyG, if_neg (by rw [a3]; decide)]
    rw [lbB_ref] at bad
    cases b1 : inB x.p (-1) ((i : Int) - 1)
    · rw [b1] at bad
      repeat (first | (with_reducible (first | apply wA | apply wB | apply wC | apply wD | apply wE | apply wF | apply wG | apply wH | apply wI | apply wJ | apply wK | apply wL | apply wM | apply wN | apply wO | apply wP | apply wQ rfl | apply wR | apply wS | apply wT | apply wU)) | ((with_reducible (first | apply wV | apply wW | apply wX | (apply wY [] hTT cfA_ok noM_ok mixed; (focus kernel_rfl)))); (focus (simp only [Tryz.f26, cfA, c128, hx', hlt', hz', e0, b1, go_sem]; rfl))) | (with_reducible refine wZ hTT cfA_ok noM_ok ?_) | (with_reducible refine wa ?_; refine And.intro ?_ ?_; (focus kernel_rfl)))
      exact ⟨rfl, rfl, _, rfl, by rw [bad rfl]; rfl⟩
    cases b2 : inB x.l 1 20
    · rw [b1, b2] at bad
      repeat (first | (with_reducible (first | apply wA | apply wB | apply wC | apply wD | apply wE | apply wF | apply wG | apply wH | apply wI | apply wJ | apply wK | apply wL | apply wM | apply wN | apply wO | apply wP | apply wQ rfl | apply wR | apply wS | apply wT | apply wU)) | ((with_reducible (first | apply wV | apply wW | apply wX | (apply wY [] hTT cfA_ok noM_ok mixed; (focus kernel_rfl)))); (focus (simp only [Tryz.f26, cfA, c128, hx', hlt', hz', e0, b1, b2, go_sem]; rfl))) | (with_reducible refine wZ hTT cfA_ok noM_ok ?_) | (with_reducible refine wa ?_; refine And.intro ?_ ?_; (focus kernel_rfl)))
      exact ⟨rfl, rfl, _, rfl, by rw [bad rfl]; rfl⟩
    cases b3 : inB x.lo (-4) 4
    · rw [b1, b2, b3] at bad
      repeat (first | (with_reducible (first | apply wA | apply wB | apply wC | apply wD | apply wE | apply wF | apply wG | apply wH | apply wI | apply wJ | apply wK | apply wL | apply wM | apply wN | apply wO | apply wP | apply wQ rfl | apply wR | apply wS | apply wT | apply wU)) | ((with_reducible (first | apply wV | apply wW | apply wX | (apply wY [] hTT cfA_ok noM_ok mixed; (focus kernel_rfl)))); (focus (simp only [Tryz.f26, cfA, c128, hx', hlt', hz', e0, b1, b2, b3, go_sem]; rfl))) | (with_reducible refine wZ hTT cfA_ok noM_ok ?_) | (with_reducible refine wa ?_; refine And.intro ?_ ?_; (focus kernel_rfl)))
      exact ⟨rfl, rfl, _, rfl, by rw [bad rfl]; rfl⟩
    cases b4 : inB x.hi x.lo 4
    · rw [b1, b2, b3, b4] at bad
      repeat (first | (with_reducible (first | apply wA | apply wB | apply wC | apply wD | apply wE | apply wF | apply wG | apply wH | apply wI | apply wJ | apply wK | apply wL | apply wM | apply wN | apply wO | apply wP | apply wQ rfl | apply wR | apply wS | apply wT | apply wU)) | ((with_reducible (first | apply wV | apply wW | apply wX | (apply wY [] hTT cfA_ok noM_ok mixed; (focus kernel_rfl)))); (focus (simp only [Tryz.f26, cfA, c128, hx', hlt', hz', e0, b1, b2, b3, b4, go_sem]; rfl))) | (with_reducible refine wZ hTT cfA_ok noM_ok ?_) | (with_reducible refine wa ?_; refine And.intro ?_ ?_; (focus kernel_rfl)))
      exact ⟨rfl, rfl, _, rfl, by rw [bad rfl]; rfl⟩
    cases b5 : inB x.w 0 2
    · rw [b1, b2, b3, b4, b5] at bad
      repeat (first | (with_reducible (first | apply wA | apply wB | apply wC | apply wD | apply wE | apply wF | apply wG | apply wH | apply wI | apply wJ | apply wK | apply wL | apply wM | apply wN | apply wO | apply wP | apply wQ rfl | apply wR | apply wS | apply wT | apply wU)) | ((with_reducible (first | apply wV | apply wW | apply wX | (apply wY [] hTT cfA_ok noM_ok mixed; (focus kernel_rfl)))); (focus (simp only [Tryz.f26, cfA, c128, hx', hlt', hz', e0, b1, b2, b3, b4, b5, go_sem]; rfl))) | (with_reducible refine wZ hTT cfA_ok noM_ok ?_) | (with_reducible refine wa ?_; refine And.intro ?_ ?_; (focus kernel_rfl)))
      exact ⟨rfl, rfl, _, rfl, by rw [bad rfl]; rfl⟩
    have a3 : lbB i x = true := by rw [lbB_ref, b1, b2, b3, b4, b5]; rfl
    obtain ⟨c1, c2, c3, _⟩ := lb_d a3
    have h9 := pow9 i (by omega)
    have hd : 1 ≤ x.hi - x.lo + 1 ∧ x.hi - x.lo + 1 ≤ 9 := by omega
    have hmul : 1 * 1 ≤ m * (x.hi - x.lo + 1) := Int.mul_le_mul hm1 hd.1 (by omega) (by omega)
    have hmul2 : m * (x.hi - x.lo + 1) ≤ 9 ^ i * 9 := Int.mul_le_mul hm2 hd.2 (by omega) (by omega)
    have e1 : IntKind.i64.wrap (x.hi - x.lo) = x.hi - x.lo := wrap_id (by omega) (by omega)
    have e2 : IntKind.i64.wrap (x.hi - x.lo + 1) = x.hi - x.lo + 1 := wrap_id (by omega) (by omega)
    have e3 : IntKind.i64.wrap (m * (x.hi - x.lo + 1)) = m * (x.hi - x.lo + 1) := wrap_id (by omega) (by omega)
    have e4 : IntKind.i64.wrap ((i : Int) + 1) = ((i + 1 : Nat) : Int) := wrap_id (by omega) (by omega)
    repeat (first | (with_reducible (first | apply wA | apply wB | apply wC | apply wD | apply wE | apply wF | apply wG | apply wH | apply wI | apply wJ | apply wK | apply wL | apply wM | apply wN | apply wO | apply wP | apply wQ rfl | apply wR | apply wS | apply wT | apply wU)) | ((with_reducible (first | apply wV | apply wW | apply wX | (apply wY [] hTT cfA_ok noM_ok mixed; (focus kernel_rfl)))); (focus (simp only [Tryz.f26, cfA, c128, hx', hlt', hz', e0, b1, b2, b3, b4, b5, e1, e2, e3, e4, go_sem]; rfl))) | (with_reducible refine wZ hTT cfA_ok noM_ok ?_) | (with_reducible refine wa ?_; refine And.intro ?_ ?_; (focus kernel_rfl)))
    refine roundQ.t 1 [4, 3, 2, 1] hlt (by simp only [ltB_lbs, go_sem]) ⟨m * (x.hi - x.lo + 1), ?_, by omega, by rw [Int.pow_succ]; exact hmul2, by simp only [go_sem]⟩
    rw [hm, drop_get hx, manyG, if_pos a3]
    rfl
  · have hlt' : ¬ (i : Int) < ls.length := by omega
    have hd : ls.drop i = [] := List.drop_eq_nil_of_le (by omega)
    repeat (first | (with_reducible (first | apply wA | apply wB | apply wC | apply wD | apply wE | apply wF | apply wG | apply wH | apply wI | apply wJ | apply wK | apply wL | apply wM | apply wN | apply wO | apply wP | apply wQ rfl | apply wR | apply wS | apply wT | apply wU)) | ((with_reducible (first | apply wV | apply wW | apply wX | (apply wY [] hTT cfA_ok noM_ok mixed; (focus kernel_rfl)))); (focus (simp only [Tryz.f26, cfA, hlt', go_sem]; rfl))) | (with_reducible refine wZ hTT cfA_ok noM_ok ?_) | (with_reducible refine wa ?_; refine And.intro ?_ ?_; (focus kernel_rfl)))
    refine ⟨rfl, rfl, _, rfl, ?_⟩
    rw [hm, hd]
    rfl
theorem span_84 (a b : Int) : CallOk Tryz.prog 84 [ii a, ii b] [] (.ret (.agg [ii a, ii b])) [] := by
  refine CallOk.of0 hTT Tryz.func84 rfl rfl ?_
  repeat (first | (with_reducible (first | apply wA | apply wB | apply wC | apply wD | apply wE | apply wF | apply wG | apply wH | apply wI | apply wJ | apply wK | apply wL | apply wM | apply wN | apply wO | apply wP | apply wQ rfl | apply wR | apply wS | apply wT | apply wU)) | ((with_reducible (first | apply wV | apply wW | apply wX | (apply wY [] hTT cfA_ok noM_ok mixed; (focus kernel_rfl)))); (focus (simp only [Tryz.f84, cfA, c128, go_sem]; rfl))) | (with_reducible refine wZ hTT cfA_ok noM_ok ?_) | (with_reducible refine wa ?_; refine And.intro ?_ ?_; (focus kernel_rfl)))
  exact ⟨rfl, rfl, _, rfl, rfl⟩
def c84 : List PV → List Box → Option (PRes × List Box)
  | [.int .i64 a, .int .i64 b], sg => some (.ret (.agg [ii a, ii b]), sg)
  | _, _ => none
theorem c84_ok : ConOk Tryz.prog 84 c84 := ConOk.of0 (ent Tryz.func84 rfl) fun args sg r sg' h => by
  unfold c84 at h
  split at h <;> cases h
  exact ⟨_, rfl, rfl, rfl, span_84 _ _⟩
def cfC : CallF := cfAdd cfB 84 c84
theorem cfC_ok : CallFOk Tryz.prog cfC := cfAdd_ok cfB_ok c84_ok
theorem Lies_32 (x y a b c d : Int) : CallOk Tryz.prog 32 [.agg [ii x, ii y], .agg [ii a, ii b, ii c, ii d]] [] (.ret (.bool (inB x a b && inB y c d))) [] := by
  refine CallOk.of0 hTT Tryz.func32 rfl rfl ?_
  cases a1 : inB x a b
  · repeat (first | (with_reducible (first | apply wA | apply wB | apply wC | apply wD | apply wE | apply wF | apply wG | apply wH | apply wI | apply wJ | apply wK | apply wL | apply wM | apply wN | apply wO | apply wP | apply wQ rfl | apply wR | apply wS | apply wT | apply wU)) | ((with_reducible (first | apply wV | apply wW | apply wX | (apply wY [] hTT cfA_ok noM_ok mixed; (focus kernel_rfl)))); (focus (simp only [Tryz.f32, cfA, c128, a1, go_sem]; rfl))) | (with_reducible refine wZ hTT cfA_ok noM_ok ?_) | (with_reducible refine wa ?_; refine And.intro ?_ ?_; (focus kernel_rfl)))
    exact ⟨rfl, rfl, _, rfl, rfl⟩
  · repeat (first | (with_reducible (first | apply wA | apply wB | apply wC | apply wD | apply wE | apply wF | apply wG | apply wH | apply wI | apply wJ | apply wK | apply wL | apply wM | apply wN | apply wO | apply wP | apply wQ rfl | apply wR | apply wS | apply wT | apply wU)) | ((with_reducible (first | apply wV | apply wW | apply wX | (apply wY [] hTT cfA_ok noM_ok mixed; (focus kernel_rfl)))); (focus (simp only [Tryz.f32, cfA, c128, a1, go_sem]; rfl))) | (with_reducible refine wZ hTT cfA_ok noM_ok ?_) | (with_reducible refine wa ?_; refine And.intro ?_ ?_; (focus kernel_rfl)))
    exact ⟨rfl, rfl, _, rfl, rfl⟩
end Go.Pv
namespace Go.Pv
open Go Go.RowKit Go.Proofs
set_option maxRecDepth 10000
set_option maxHeartbeats 4000000
def encPl (p : Pl) : PV := .agg [ii p.1, ii p.2]
def decPl : PV → Option Pl
  | .agg [.int .i64 a, .int .i64 b] => some (a, b)
  | _ => none
theorem decPl_enc (x : Pl) : decPl (encPl x) = some x := rfl
theorem decPl_inv (x : PV) (a : Pl) (h : decPl x = some a) : x = encPl a := by
  unfold decPl at h
  split at h <;> cases h
  rfl
theorem ltB_pls (m : Nat) (l : List Pl) : ltBL m (l.map encPl) = true := ltBL_map (fun _ => rfl) l
theorem bne_true {a b : Int} (h : a ≠ b) : (a != b) = true := by simp [h]
theorem decide_step {α : Type} [DecidableEq α] {a b : List α} {i : Nat} {x y : α} (hx : a[i]? = some x) (hy : b[i]? = some y) : decide (a.drop i = b.drop i) = (decide (x = y) && decide (a.drop (i + 1) = b.drop (i + 1))) := by
  rw [drop_get hx, drop_get hy, Bool.eq_iff_iff]; simp
theorem SamePlaces_34 (za zb : Z) (a b : List Pl) (ha : za = .n → a = []) (hb : zb = .n → b = []) (hs : a.length ≤ maxLen) : CallOk Tryz.prog 34 [.sl za (a.map encPl), .sl zb (b.map encPl)] [] (.ret (.bool (decide (a = b)))) [] := by
  refine CallOk.of0 hTT Tryz.func34 rfl rfl ?_
  unfold maxLen at hs
  by_cases hl : a.length = b.length
  · repeat (first | (with_reducible (first | apply wA | apply wB | apply wC | apply wD | apply wE | apply wF | apply wG | apply wH | apply wI | apply wJ | apply wK | apply wL | apply wM | apply wN | apply wO | apply wP | apply wQ rfl | apply wR | apply wS | apply wT | apply wU)) | ((with_reducible (first | apply wV | apply wW | apply wX | (apply wY [] hTT cfA_ok noM_ok mixed; (focus kernel_rfl)))); (focus (simp only [Tryz.f34, cfA, c128, hl, go_sem]; rfl))) | (with_reducible refine wZ hTT cfA_ok noM_ok ?_) | (with_reducible refine wa ?_; refine And.intro ?_ ?_; (focus kernel_rfl)))
    refine RunQ.keep [5, 4, 1, 0] (by simp only [go_sem]; rfl) ?_
    refine RunQ.loop (fun i s' => decide (a = b) = decide (a.drop i = b.drop i) ∧ s' = ⟨[(5, ii i), (4, .bool false), (0, .sl za (a.map encPl)), (1, .sl zb (b.map encPl))], 26, []⟩) b.length ⟨rfl, rfl⟩ ?_
    rintro i _ hi ⟨hm, rfl⟩
    by_cases hlt : i < b.length
    · obtain ⟨x, hx⟩ : ∃ x, a[i]? = some x := ⟨_, List.getElem?_eq_getElem (by omega)⟩
      obtain ⟨y, hy⟩ : ∃ y, b[i]? = some y := ⟨_, List.getElem?_eq_getElem hlt⟩
      have hx' : (a.map encPl)[i]? = some (.agg [ii x.1, ii x.2]) := by simp [hx]; rfl
      have hy' : (b.map encPl)[i]? = some (.agg [ii y.1, ii y.2]) := by simp [hy]; rfl
      have hlt' : (i : Int) < b.length := by omega
      have hza' : za ≠ .n := fun e => by rw [ha e] at hl; simp at hl; omega
      have hzb' : zb ≠ .n := fun e => by rw [hb e] at hlt; simp at hlt
      have e4 : IntKind.i64.wrap ((i : Int) + 1) = ((i + 1 : Nat) : Int) := wrap_id (by omega) (by omega)
      by_cases hxy : x = y
      · have h1 : (x.fst == y.fst && x.snd == y.snd) = true := by subst hxy; simp
        repeat (first | (with_reducible (first | apply wA | apply wB | apply wC | apply wD | apply wE | apply wF | apply wG | apply wH | apply wI | apply wJ | apply wK | apply wL | apply wM | apply wN | apply wO | apply wP | apply wQ rfl | apply wR | apply wS | apply wT | apply wU)) | ((with_reducible (first | apply wV | apply wW | apply wX | (apply wY [] hTT cfA_ok noM_ok mixed; (focus kernel_rfl)))); (focus (simp only [Tryz.f34, cfA, c128, hl, hx', hy', hlt', hza', hzb', e4, h1, go_sem]; rfl))) | (with_reducible refine wZ hTT cfA_ok noM_ok ?_) | (with_reducible refine wa ?_; refine And.intro ?_ ?_; (focus kernel_rfl)))
        refine roundQ.t 0 [5, 4, 0, 1] hlt (by simp only [ltB_pls, go_sem]) ⟨by rw [hm, decide_step hx hy, decide_eq_true hxy]; rfl, by simp only [go_sem]⟩
      · have h1 : (x.fst == y.fst && x.snd == y.snd) = false := by
          rw [Bool.eq_false_iff]
          intro h
          simp at h
          exact hxy (Prod.ext h.1 h.2)
        repeat (first | (with_reducible (first | apply wA | apply wB | apply wC | apply wD | apply wE | apply wF | apply wG | apply wH | apply wI | apply wJ | apply wK | apply wL | apply wM | apply wN | apply wO | apply wP | apply wQ rfl | apply wR | apply wS | apply wT | apply wU)) | ((with_reducible (first | apply wV | apply wW | apply wX | (apply wY [] hTT cfA_ok noM_ok mixed; (focus kernel_rfl)))); (focus (simp only [Tryz.f34, cfA, c128, hl, hx', hy', hlt', hza', hzb', e4, h1, go_sem]; rfl))) | (with_reducible refine wZ hTT cfA_ok noM_ok ?_) | (with_reducible refine wa ?_; refine And.intro ?_ ?_; (focus kernel_rfl)))
        refine ⟨rfl, rfl, _, rfl, ?_⟩
        rw [hm, decide_step hx hy, decide_eq_false hxy]; rfl
    · have hlt' : ¬ (i : Int) < b.length := by omega
      repeat (first | (with_reducible (first | apply wA | apply wB | apply wC | apply wD | apply wE | apply wF | apply wG | apply wH | apply wI | apply wJ | apply wK | apply wL | apply wM | apply wN | apply wO | apply wP | apply wQ rfl | apply wR | apply wS | apply wT | apply wU)) | ((with_reducible (first | apply wV | apply wW | apply wX | (apply wY [] hTT cfA_ok noM_ok mixed; (focus kernel_rfl)))); (focus (simp only [Tryz.f34, hl, hlt', go_sem]; rfl))) | (with_reducible refine wZ hTT cfA_ok noM_ok ?_) | (with_reducible refine wa ?_; refine And.intro ?_ ?_; (focus kernel_rfl)))
      refine ⟨rfl, rfl, _, rfl, ?_⟩
      rw [hm, List.drop_eq_nil_of_le (by omega), List.drop_eq_nil_of_le (by omega)]; rfl
  · have hl' : ((a.length : Int) != (b.length : Int)) = true := bne_true (by omega)
    repeat (first | (with_reducible (first | apply wA | apply wB | apply wC | apply wD | apply wE | apply wF | apply wG | apply wH | apply wI | apply wJ | apply wK | apply wL | apply wM | apply wN | apply wO | apply wP | apply wQ rfl | apply wR | apply wS | apply wT | apply wU)) | ((with_reducible (first | apply wV | apply wW | apply wX | (apply wY [] hTT cfA_ok noM_ok mixed; (focus kernel_rfl)))); (focus (simp only [Tryz.f34, cfA, c128, hl', go_sem]; rfl))) | (with_reducible refine wZ hTT cfA_ok noM_ok ?_) | (with_reducible refine wa ?_; refine And.intro ?_ ?_; (focus kernel_rfl)))
    refine ⟨rfl, rfl, _, rfl, ?_⟩
    rw [decide_eq_false (fun e => hl (by rw [e]))]; rfl
def sumW (n : Int) : List Int → Int
  | [] => n
  | x :: r => sumW (IntKind.i64.wrap (n + x)) r
theorem sum_130 (z : Z) (l : List Int) (hz : z = .n → l = []) (hs : l.length ≤ maxLen) : CallOk Tryz.prog 130 [.sl z (l.map ii)] [] (.ret (ii (sumW 0 l))) [] := by
  refine CallOk.of0 hTT Tryz.func130 rfl rfl ?_
  unfold maxLen at hs
  repeat (first | (with_reducible (first | apply wA | apply wB | apply wC | apply wD | apply wE | apply wF | apply wG | apply wH | apply wI | apply wJ | apply wK | apply wL | apply wM | apply wN | apply wO | apply wP | apply wQ rfl | apply wR | apply wS | apply wT | apply wU)) | ((with_reducible (first | apply wV | apply wW | apply wX | (apply wY [] hTT cfA_ok noM_ok mixed; (focus kernel_rfl)))); (focus (simp only [Tryz.f130, cfA, c128, go_sem]; rfl))) | (with_reducible refine wZ hTT cfA_ok noM_ok ?_) | (with_reducible refine wa ?_; refine And.intro ?_ ?_; (focus kernel_rfl)))
  refine RunQ.keep [8, 7, 6, 3, 2] (by simp only [go_sem]; rfl) ?_
  refine RunQ.loop (fun i s' => ∃ n, sumW 0 l = sumW n (l.drop i) ∧ s' = ⟨[(8, ii i), (7, ii l.length), (6, .sl z (l.map ii)), (3, ii n), (2, ii 0)], 17, []⟩) l.length ⟨0, rfl, rfl⟩ ?_
  rintro i _ hi ⟨n, hm, rfl⟩
  by_cases hlt : i < l.length
  · obtain ⟨x, hx⟩ : ∃ x, l[i]? = some x := ⟨_, List.getElem?_eq_getElem hlt⟩
    have hx' : (l.map ii)[i]? = some (ii x) := map_get hx
    have hlt' : (i : Int) < l.length := by omega
    have hz' : z ≠ .n := fun e => by rw [hz e] at hlt; simp at hlt
    have e4 : IntKind.i64.wrap ((i : Int) + 1) = ((i + 1 : Nat) : Int) := wrap_id (by omega) (by omega)
    repeat (first | (with_reducible (first | apply wA | apply wB | apply wC | apply wD | apply wE | apply wF | apply wG | apply wH | apply wI | apply wJ | apply wK | apply wL | apply wM | apply wN | apply wO | apply wP | apply wQ rfl | apply wR | apply wS | apply wT | apply wU)) | ((with_reducible (first | apply wV | apply wW | apply wX | (apply wY [] hTT cfA_ok noM_ok mixed; (focus kernel_rfl)))); (focus (simp only [Tryz.f130, cfA, c128, hx', hlt', hz', e4, go_sem]; rfl))) | (with_reducible refine wZ hTT cfA_ok noM_ok ?_) | (with_reducible refine wa ?_; refine And.intro ?_ ?_; (focus kernel_rfl)))
    refine roundQ.t 0 [8, 7, 6, 3, 2] hlt (by simp only [ltB_is, go_sem]) ⟨IntKind.i64.wrap (n + x), by rw [hm, drop_get hx]; rfl, by simp only [go_sem]⟩
  · have hlt' : ¬ (i : Int) < l.length := by omega
    repeat (first | (with_reducible (first | apply wA | apply wB | apply wC | apply wD | apply wE | apply wF | apply wG | apply wH | apply wI | apply wJ | apply wK | apply wL | apply wM | apply wN | apply wO | apply wP | apply wQ rfl | apply wR | apply wS | apply wT | apply wU)) | ((with_reducible (first | apply wV | apply wW | apply wX | (apply wY [] hTT cfA_ok noM_ok mixed; (focus kernel_rfl)))); (focus (simp only [Tryz.f130, hlt', go_sem]; rfl))) | (with_reducible refine wZ hTT cfA_ok noM_ok ?_) | (with_reducible refine wa ?_; refine And.intro ?_ ?_; (focus kernel_rfl)))
    refine ⟨rfl, rfl, _, rfl, ?_⟩
    rw [hm, List.drop_eq_nil_of_le (by omega)]; rfl
theorem step_131 (d : Int) (h0 : 0 ≤ d) (h8 : d < 8) : CallOk Tryz.prog 131 [ii d] [] (.ret (encPl (stepG d))) [] := by
  rcases (show d = 0 ∨ d = 1 ∨ d = 2 ∨ d = 3 ∨ d = 4 ∨ d = 5 ∨ d = 6 ∨ d = 7 by omega) with rfl | rfl | rfl | rfl | rfl | rfl | rfl | rfl
  all_goals
    refine CallOk.of0 hTT Tryz.func131 rfl rfl ?_
    repeat (first | (with_reducible (first | apply wA | apply wB | apply wC | apply wD | apply wE | apply wF | apply wG | apply wH | apply wI | apply wJ | apply wK | apply wL | apply wM | apply wN | apply wO | apply wP | apply wQ rfl | apply wR | apply wS | apply wT | apply wU)) | ((with_reducible (first | apply wV | apply wW | apply wX | (apply wY [] hTT cfA_ok noM_ok mixed; (focus kernel_rfl)))); (focus (simp only [Tryz.f131, cfA, c128, go_sem]; rfl))) | (with_reducible refine wZ hTT cfA_ok noM_ok ?_) | (with_reducible refine wa ?_; refine And.intro ?_ ?_; (focus kernel_rfl)))
    exact ⟨rfl, rfl, _, rfl, rfl⟩
def decIs1 : PV → Option (List Int)
  | .sl z es => if zOk z es = true then decL decI es else none
  | _ => none
theorem decIs1_inv {v : PV} {l : List Int} (h : decIs1 v = some l) : ∃ z, v = .sl z (l.map ii) ∧ (z = .n → l = []) := by
  unfold decIs1 at h
  split at h <;> try (cases h; done)
  split at h <;> try (cases h; done)
  rename_i hz
  obtain rfl := decL_inv decI_inv h
  exact ⟨_, rfl, zOk_map hz⟩
theorem decIs1_enc {z : Z} {l : List Int} (hz : zOk z (l.map ii) = true) : decIs1 (.sl z (l.map ii)) = some l := by
  show (if zOk z (l.map ii) = true then decL decI (l.map ii) else none) = some l
  rw [if_pos hz, decIs]
theorem decIs1_two (a b : Int) : decIs1 (.sl .f [ii a, ii b]) = some [a, b] := rfl
def c130 : List PV → List Box → Option (PRes × List Box)
  | [v], sg => match decIs1 v with
    | some l => if l.length ≤ maxLen then some (.ret (ii (sumW 0 l)), sg) else none
    | none => none
  | _, _ => none
theorem ltB_isl (z : Z) (l : List Int) (m : Nat) : (PV.sl z (l.map ii)).ltB m = true := ltB_is m l
theorem c130_ok : ConOk Tryz.prog 130 c130 := ConOk.of0 (ent Tryz.func130 rfl) fun args sg r sg' h => by
  unfold c130 at h
  split at h <;> try (cases h; done)
  split at h <;> try (cases h; done)
  rename_i h1
  split at h <;> cases h
  obtain ⟨z, rfl, hz⟩ := decIs1_inv h1
  exact ⟨_, rfl, rfl, by rw [ltBL_cons, ltB_isl]; rfl, sum_130 _ _ hz ‹_›⟩
def c131 : List PV → List Box → Option (PRes × List Box)
  | [.int .i64 d], sg => if 0 ≤ d ∧ d < 8 then some (.ret (encPl (stepG d)), sg) else none
  | _, _ => none
theorem c131_ok : ConOk Tryz.prog 131 c131 := ConOk.of0 (ent Tryz.func131 rfl) fun args sg r sg' h => by
  unfold c131 at h
  split at h <;> try (cases h; done)
  split at h <;> cases h
  rename_i d hd
  exact ⟨_, rfl, rfl, rfl, step_131 d hd.1 hd.2⟩
def cfD : CallF := cfAdd (cfAdd cfC 130 c130) 131 c131
theorem cfD_ok : CallFOk Tryz.prog cfD := cfAdd_ok (cfAdd_ok cfC_ok c130_ok) c131_ok
end Go.Pv
namespace Go.Pv
end Go.Pv
