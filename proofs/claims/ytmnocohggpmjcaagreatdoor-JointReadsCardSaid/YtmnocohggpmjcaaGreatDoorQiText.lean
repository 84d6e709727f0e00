/- Contracts of the library's functions, laid at this program (written by the kit's tool lay-plain out of three layings). -/
import Derived.Shelf.Strings.Builder1
import Derived.Shelf.Strings.Builder2
import Derived.Shelf.Strings.OnBuilder
import Derived.Shelf.Strings.BuilderF
import Derived.Shelf.Strings.BuilderK
import Derived.Shelf.Strings.Split
import Derived.Shelf.Strconv.Itoa3
import Derived.Test.YtmnocohggpmjcaaGreatDoorProg
import Derived.Test.YtmnocohggpmjcaaGreatDoorQfJoint
set_option linter.all false
namespace Go.Proofs
open Go.Shelf
def Tryz.lays156_ren : Go.Shelf.Ren := ⟨fun | 156 => 153 | 165 => 172 | 166 => 173 | 169 => 174 | 240 => 189 | 241 => 190 | 276 => 204 | 277 => 205 | n => n, fun | 31 => 175 | 9 => 9 | 3 => 3 | 4 => 4 | 0 => 0 | 20 => 20 | 72 => 228 | 76 => 232 | 70 => 226 | 37 => 123 | 75 => 231 | 127 => 249 | 164 => 263 | 5 => 5 | 80 => 210 | n => n, fun | n => n⟩
theorem Tryz.lays156 : Go.Proofs.Lays.n156 Tryz.prog Tryz.lays156_ren := {
  mixed := by kernel_rfl
  f156 := Tryz.func153.trans (congrArg some (by kernel_rfl))
  f165 := Tryz.func172.trans (congrArg some (by kernel_rfl))
  f166 := Tryz.func173.trans (congrArg some (by kernel_rfl))
  f169 := Tryz.func174.trans (congrArg some (by kernel_rfl))
  f240 := Tryz.func189.trans (congrArg some (by kernel_rfl))
  f241 := Tryz.func190.trans (congrArg some (by kernel_rfl))
  f276 := Tryz.func204.trans (congrArg some (by kernel_rfl))
  f277 := Tryz.func205.trans (congrArg some (by kernel_rfl))
  t0 := Tryz.underlying0
  a0 := Tryz.isAgg0
  z0 := Tryz.sizeOf0
  v0 := Tryz.zeroValue0
  t3 := Tryz.underlying3
  a3 := Tryz.isAgg3
  z3 := Tryz.sizeOf3
  v3 := Tryz.zeroValue3
  t4 := Tryz.underlying4
  a4 := Tryz.isAgg4
  z4 := Tryz.sizeOf4
  v4 := Tryz.zeroValue4
  t9 := Tryz.underlying9
  a9 := Tryz.isAgg9
  z9 := Tryz.sizeOf9
  v9 := Tryz.zeroValue9
  t20 := Tryz.underlying20
  a20 := Tryz.isAgg20
  z20 := Tryz.sizeOf20
  v20 := Tryz.zeroValue20
  t31 := Tryz.underlying175
  a31 := Tryz.isAgg175
  z31 := Tryz.sizeOf175
  v31 := Tryz.zeroValue175
  t37 := Tryz.underlying123
  a37 := Tryz.isAgg123
  z37 := Tryz.sizeOf123
  v37 := Tryz.zeroValue123
  t70 := Tryz.underlying226
  a70 := Tryz.isAgg226
  z70 := Tryz.sizeOf226
  v70 := Tryz.zeroValue226
  t72 := Tryz.underlying228
  a72 := Tryz.isAgg228
  z72 := Tryz.sizeOf228
  v72 := Tryz.zeroValue228
  t75 := Tryz.underlying231
  a75 := Tryz.isAgg231
  z75 := Tryz.sizeOf231
  v75 := Tryz.zeroValue231
  t76 := Tryz.underlying232
  a76 := Tryz.isAgg232
  z76 := Tryz.sizeOf232
  v76 := Tryz.zeroValue232
  t127 := Tryz.underlying249
  a127 := Tryz.isAgg249
  z127 := Tryz.sizeOf249
  v127 := Tryz.zeroValue249
  t164 := Tryz.underlying263
  a164 := Tryz.isAgg263
  z164 := Tryz.sizeOf263
  v164 := Tryz.zeroValue263 }
theorem Tryz.Builder_Extra_156 : Builder.Extra Tryz.prog Tryz.lays156_ren := {
  sizeBuilder := by kernel_rfl
  liesBuilder := by kernel_rfl
  t5 := Tryz.underlying5
  a5 := Tryz.isAgg5
  z5 := Tryz.sizeOf5
  v5 := Tryz.zeroValue5
  infoByte := by kernel_rfl
  cellsByte := by kernel_rfl
  sizeByte := by kernel_rfl
  neB5 := by decide }
def Tryz.lays146_ren : Go.Shelf.Ren := ⟨fun | 146 => 154 | 221 => 175 | 268 => 191 | 138 => 192 | 143 => 193 | 195 => 206 | 197 => 207 | 218 => 208 | 219 => 209 | 260 => 216 | 217 => 217 | 225 => 218 | 224 => 219 | 267 => 220 | 266 => 224 | 314 => 225 | n => n, fun | 9 => 9 | 31 => 175 | 3 => 3 | 4 => 4 | 0 => 0 | 105 => 266 | 21 => 21 | 5 => 5 | 46 => 215 | 119 => 277 | 139 => 280 | 138 => 279 | 146 => 281 | 51 => 244 | n => n, fun | 1 => 1 | 3 => 2 | 4 => 3 | n => n⟩
theorem Tryz.lays146 : Go.Proofs.Lays.n146 Tryz.prog Tryz.lays146_ren := {
  mixed := by kernel_rfl
  f138 := Tryz.func192.trans (congrArg some (by kernel_rfl))
  f143 := Tryz.func193.trans (congrArg some (by kernel_rfl))
  f146 := Tryz.func154.trans (congrArg some (by kernel_rfl))
  f195 := Tryz.func206.trans (congrArg some (by kernel_rfl))
  f197 := Tryz.func207.trans (congrArg some (by kernel_rfl))
  f217 := Tryz.func217.trans (congrArg some (by kernel_rfl))
  f218 := Tryz.func208.trans (congrArg some (by kernel_rfl))
  f219 := Tryz.func209.trans (congrArg some (by kernel_rfl))
  f221 := Tryz.func175.trans (congrArg some (by kernel_rfl))
  f224 := Tryz.func219.trans (congrArg some (by kernel_rfl))
  f225 := Tryz.func218.trans (congrArg some (by kernel_rfl))
  f260 := Tryz.func216.trans (congrArg some (by kernel_rfl))
  f266 := Tryz.func224.trans (congrArg some (by kernel_rfl))
  f267 := Tryz.func220.trans (congrArg some (by kernel_rfl))
  f268 := Tryz.func191.trans (congrArg some (by kernel_rfl))
  f314 := Tryz.func225.trans (congrArg some (by kernel_rfl))
  t0 := Tryz.underlying0
  a0 := Tryz.isAgg0
  z0 := Tryz.sizeOf0
  v0 := Tryz.zeroValue0
  t3 := Tryz.underlying3
  a3 := Tryz.isAgg3
  z3 := Tryz.sizeOf3
  v3 := Tryz.zeroValue3
  t4 := Tryz.underlying4
  a4 := Tryz.isAgg4
  z4 := Tryz.sizeOf4
  v4 := Tryz.zeroValue4
  t5 := Tryz.underlying5
  a5 := Tryz.isAgg5
  z5 := Tryz.sizeOf5
  v5 := Tryz.zeroValue5
  t9 := Tryz.underlying9
  a9 := Tryz.isAgg9
  z9 := Tryz.sizeOf9
  v9 := Tryz.zeroValue9
  t21 := Tryz.underlying21
  a21 := Tryz.isAgg21
  z21 := Tryz.sizeOf21
  v21 := Tryz.zeroValue21
  t31 := Tryz.underlying175
  a31 := Tryz.isAgg175
  z31 := Tryz.sizeOf175
  v31 := Tryz.zeroValue175
  t46 := Tryz.underlying215
  a46 := Tryz.isAgg215
  z46 := Tryz.sizeOf215
  v46 := Tryz.zeroValue215
  t51 := Tryz.underlying244
  a51 := Tryz.isAgg244
  z51 := Tryz.sizeOf244
  v51 := Tryz.zeroValue244
  t105 := Tryz.underlying266
  a105 := Tryz.isAgg266
  z105 := Tryz.sizeOf266
  v105 := Tryz.zeroValue266
  t119 := Tryz.underlying277
  a119 := Tryz.isAgg277
  z119 := Tryz.sizeOf277
  t138 := Tryz.underlying279
  a138 := Tryz.isAgg279
  z138 := Tryz.sizeOf279
  v138 := Tryz.zeroValue279
  t139 := Tryz.underlying280
  a139 := Tryz.isAgg280
  z139 := Tryz.sizeOf280
  v139 := Tryz.zeroValue280
  t146 := Tryz.underlying281
  a146 := Tryz.isAgg281
  z146 := Tryz.sizeOf281
  v146 := Tryz.zeroValue281
  g1 := by kernel_rfl
  g3 := by kernel_rfl
  g4 := by kernel_rfl }
def Tryz.laysM171_ren : Go.Shelf.Ren := ⟨fun | 171 => 152 | 243 => 171 | 246 => 188 | 283 => 200 | 284 => 201 | 285 => 202 | 286 => 203 | 129 => 186 | 317 => 212 | 318 => 213 | 319 => 214 | 320 => 215 | 337 => 222 | 338 => 223 | n => n, fun | 3 => 3 | 9 => 9 | 2 => 2 | 4 => 4 | 171 => 259 | 0 => 0 | 53 => 246 | 37 => 123 | 5 => 5 | 173 => 261 | 212 => 274 | 51 => 244 | 20 => 20 | 213 => 275 | 46 => 215 | 232 => 283 | 233 => 284 | n => n, fun | 17 => 0 | 18 => 4 | 19 => 5 | n => n⟩
theorem Tryz.laysM171 : Go.Proofs.LaysM.n171 Tryz.prog Tryz.laysM171_ren := {
  mixed := by kernel_rfl
  f129 := Tryz.func186.trans (congrArg some (by kernel_rfl))
  f171 := Tryz.func152.trans (congrArg some (by kernel_rfl))
  f243 := Tryz.func171.trans (congrArg some (by kernel_rfl))
  f246 := Tryz.func188.trans (congrArg some (by kernel_rfl))
  f283 := Tryz.func200.trans (congrArg some (by kernel_rfl))
  f284 := Tryz.func201.trans (congrArg some (by kernel_rfl))
  f285 := Tryz.func202.trans (congrArg some (by kernel_rfl))
  f286 := Tryz.func203.trans (congrArg some (by kernel_rfl))
  f317 := Tryz.func212.trans (congrArg some (by kernel_rfl))
  f318 := Tryz.func213.trans (congrArg some (by kernel_rfl))
  f319 := Tryz.func214.trans (congrArg some (by kernel_rfl))
  f320 := Tryz.func215.trans (congrArg some (by kernel_rfl))
  f337 := Tryz.func222.trans (congrArg some (by kernel_rfl))
  f338 := Tryz.func223.trans (congrArg some (by kernel_rfl))
  t0 := Tryz.underlying0
  a0 := Tryz.isAgg0
  z0 := Tryz.sizeOf0
  v0 := Tryz.zeroValue0
  t2 := Tryz.underlying2
  a2 := Tryz.isAgg2
  z2 := Tryz.sizeOf2
  v2 := Tryz.zeroValue2
  t3 := Tryz.underlying3
  a3 := Tryz.isAgg3
  z3 := Tryz.sizeOf3
  v3 := Tryz.zeroValue3
  t4 := Tryz.underlying4
  a4 := Tryz.isAgg4
  z4 := Tryz.sizeOf4
  v4 := Tryz.zeroValue4
  t5 := Tryz.underlying5
  a5 := Tryz.isAgg5
  z5 := Tryz.sizeOf5
  v5 := Tryz.zeroValue5
  t9 := Tryz.underlying9
  a9 := Tryz.isAgg9
  z9 := Tryz.sizeOf9
  v9 := Tryz.zeroValue9
  t20 := Tryz.underlying20
  a20 := Tryz.isAgg20
  z20 := Tryz.sizeOf20
  v20 := Tryz.zeroValue20
  t37 := Tryz.underlying123
  a37 := Tryz.isAgg123
  z37 := Tryz.sizeOf123
  v37 := Tryz.zeroValue123
  t46 := Tryz.underlying215
  a46 := Tryz.isAgg215
  z46 := Tryz.sizeOf215
  v46 := Tryz.zeroValue215
  t51 := Tryz.underlying244
  a51 := Tryz.isAgg244
  z51 := Tryz.sizeOf244
  v51 := Tryz.zeroValue244
  t53 := Tryz.underlying246
  a53 := Tryz.isAgg246
  z53 := Tryz.sizeOf246
  v53 := Tryz.zeroValue246
  t171 := Tryz.underlying259
  a171 := Tryz.isAgg259
  z171 := Tryz.sizeOf259
  v171 := Tryz.zeroValue259
  t173 := Tryz.underlying261
  a173 := Tryz.isAgg261
  z173 := Tryz.sizeOf261
  v173 := Tryz.zeroValue261
  t212 := Tryz.underlying274
  a212 := Tryz.isAgg274
  z212 := Tryz.sizeOf274
  v212 := Tryz.zeroValue274
  t213 := Tryz.underlying275
  a213 := Tryz.isAgg275
  z213 := Tryz.sizeOf275
  t232 := Tryz.underlying283
  a232 := Tryz.isAgg283
  z232 := Tryz.sizeOf283
  v232 := Tryz.zeroValue283
  t233 := Tryz.underlying284
  a233 := Tryz.isAgg284
  z233 := Tryz.sizeOf284
  v233 := Tryz.zeroValue284
  g17 := by kernel_rfl
  g18 := by kernel_rfl
  g19 := by kernel_rfl
  i0 := by kernel_rfl
  i2 := by kernel_rfl
  i3 := by kernel_rfl
  i4 := by kernel_rfl
  i5 := by kernel_rfl
  i9 := by kernel_rfl
  i20 := by kernel_rfl
  i37 := by kernel_rfl
  i46 := by kernel_rfl
  i51 := by kernel_rfl
  i53 := by kernel_rfl
  i171 := by kernel_rfl
  i173 := by kernel_rfl
  i212 := by kernel_rfl
  i232 := by kernel_rfl
  i233 := by kernel_rfl
  m17 := by kernel_rfl
  m18 := by kernel_rfl
  m19 := by kernel_rfl }
end Go.Proofs
namespace Go.Pv
open Go Go.RowKit Go.Proofs
set_option maxRecDepth 10000
set_option maxHeartbeats 4000000
theorem CallOk.ofCalls {P : Program} {f : FuncId} {args : List PV} {sg : List Box} {v : PV} {u : Value}
    (h : ∀ (G : Gh) (w : World) (us : Array Value), Rel G sg w → RepL G args us → Calls P f us w fun e w' => e = .returned u ∧ Below w.heap.size w w') (hv : ∀ G, Rep G v u) : CallOk P f args sg (.ret v) sg :=
  ⟨Nat.le_refl _, fun n G w us hR hL => CallsIn.mono (callsIn_wide.2 (h G w us hR hL)) fun e w' ⟨he, hb⟩ => by
    subst he
    exact ⟨G, hR.keep hb, leM_refl _ _, rfl, hv G⟩⟩
theorem args_one {G : Gh} {x : PV} {us : Array Value} (h : RepL G [x] us) : ∃ u, us = #[u] ∧ Rep G x u := by
  obtain ⟨h1, h2⟩ := h
  obtain ⟨l⟩ := us
  match l, h1 with
  | [u], _ => exact ⟨u, rfl, h2 0 x u rfl rfl⟩
theorem args_two {G : Gh} {x y : PV} {us : Array Value} (h : RepL G [x, y] us) : ∃ u v, us = #[u, v] ∧ Rep G x u ∧ Rep G y v := by
  obtain ⟨h1, h2⟩ := h
  obtain ⟨l⟩ := us
  match l, h1 with
  | [u, v], _ => exact ⟨u, v, rfl, h2 0 x u rfl rfl, h2 1 y v rfl rfl⟩
theorem TabOk.of {G : Gh} {sg : List Box} {w : World} (h : Rel G sg w) : TabOk w := h.tab.mono h.below
def decF : Nat → Nat → List UInt8
  | 0, _ => []
  | k + 1, u => if u < 10 then [UInt8.ofNat (48 + u)] else decF k (u / 10) ++ [UInt8.ofNat (48 + u % 10)]
theorem decF_eq : ∀ (k u : Nat), u < 10 ^ (k + 1) → decF (k + 1) u = Lib.decDigits u
  | 0, u, h => by
    have h' : u < 10 := by simpa using h
    rw [Lib.decDigits]
    unfold decF
    rw [if_pos h', dif_pos h']
  | k + 1, u, h => by
    rw [Lib.decDigits]
    unfold decF
    split
    · rfl
    · rw [decF_eq k (u / 10) (by rw [Nat.div_lt_iff_lt_mul (by decide)]; rw [Nat.pow_succ] at h; omega)]
def itoaF (n : Int) : List UInt8 := if n < 0 then 45 :: decF 20 n.natAbs else decF 20 n.toNat
theorem itoaF_eq {n : Int} (h0 : -9223372036854775808 ≤ n) (h1 : n ≤ 9223372036854775807) : itoaF n = Lib.itoa n := by
  unfold itoaF Lib.itoa
  rw [decF_eq _ _ (by omega), decF_eq _ _ (by omega)]
theorem Itoa_152 {n : Int} (h0 : -9223372036854775808 ≤ n) (h1 : n ≤ 9223372036854775807) (hl : (itoaF n).length ≤ maxLen) (sg : List Box) : CallOk Tryz.prog 152 [ii n] sg (.ret (.str (itoaF n))) sg := by
  refine CallOk.ofCalls (u := .string ⟨(itoaF n).toArray⟩) (fun G w us hR hL => ?_) fun G => .str hl
  obtain ⟨u, rfl, hu⟩ := args_one hL
  cases hu
  refine (Any.strconv_Itoa Tryz.laysM171 n h0 h1 w (TabOk.of hR).1).mono fun e w' ⟨he, k, os, hw⟩ => ⟨?_, ?_⟩
  · rw [he, itoaF_eq h0 h1]
  · rw [hw]; exact Lib.below_grow _ _ (Nat.le_refl _) k os
def c152 : List PV → List Box → Option (PRes × List Box)
  | [.int .i64 n], sg => if -9223372036854775808 ≤ n ∧ n ≤ 9223372036854775807 ∧ (itoaF n).length ≤ maxLen then some (.ret (.str (itoaF n)), sg) else none
  | _, _ => none
theorem c152_ok : ConOk Tryz.prog 152 c152 := fun args sg r sg' h => by
  unfold c152 at h
  split at h <;> try (cases h; done)
  split at h <;> cases h
  rename_i hc
  exact ⟨ent Tryz.func152 rfl, Itoa_152 hc.1 hc.2.1 hc.2.2 _, SameLoops.refl _⟩
def decS : PV → Option (List UInt8)
  | .str s => some s
  | _ => none
theorem decS_inv (x : PV) (a : List UInt8) (h : decS x = some a) : x = .str a := by
  unfold decS at h
  split at h <;> cases h
  rfl
theorem flat_strs : ∀ l : List (List UInt8), flat (l.map PV.str) = l.map PV.str
  | [] => rfl
  | x :: l => by
    have := flat_strs l
    unfold flat at this ⊢
    rw [List.map_cons, List.flatMap_cons, this]; rfl
theorem Join_153 {x : PV} {xs : List (List UInt8)} {sep : List UInt8} {sg : List Box} (hx : rowX sg x = some (xs.map PV.str)) (hN : xs.length ≤ 140737488355328) (hlen : (Lib.join xs sep).length ≤ 140737488355328) :
    CallOk Tryz.prog 153 [x, .str sep] sg (.ret (.str (Lib.join xs sep))) sg := by
  refine CallOk.ofCalls (u := .string ⟨(Lib.join xs sep).toArray⟩) (fun G w us hR hL => ?_) fun G => .str (by unfold maxLen; omega)
  obtain ⟨u, v, rfl, hu, hv⟩ := args_two hL
  cases hv
  have none_case : ∀ (A : Option Addr) (c : Nat), xs = [] → Calls Tryz.prog 153 #[.slice A 0 c, .string ⟨sep.toArray⟩] w fun e w' => e = .returned (.string ⟨(Lib.join xs sep).toArray⟩) ∧ Below w.heap.size w w' := fun A c h => by
    subst h
    exact (Any.strings_Join_none Tryz.lays156 Tryz.Builder_Extra_156 A c ⟨sep.toArray⟩ w).mono fun e w' ⟨he, hw⟩ => ⟨he, hw ▸ Below.refl _ _⟩
  rcases rowX_view hR hu hx with ⟨h0, A, c, rfl⟩ | ⟨g, off, cap, k, vs, rfl, hcap, _, _, hLv, hcell, hl⟩
  · exact none_case A c (List.map_eq_nil_iff.1 h0)
  · rw [flat_strs] at hLv
    have hvl : vs.length = xs.length := by have := hLv.1; simpa using this
    by_cases he : xs = []
    · subst he
      exact none_case _ cap rfl
    have hv : ∀ (j : Nat) (y : List UInt8), xs[j]? = some y → vs[j]? = some (.string ⟨y.toArray⟩) := fun j y hy => by
      have hj := (List.getElem?_eq_some_iff.1 hy).1
      have hvj : vs[j]? = some vs[j] := List.getElem?_eq_getElem (by omega)
      have := hLv.2 j (.str y) vs[j] (by simp [hy]) (by simpa using hvj)
      cases hh : vs[j] with
      | string t =>
        rw [hh] at this
        cases this
        rw [hvj, hh]
      | _ => rw [hh] at this; cases this
    have hlen' : (xs.map PV.str).length = (xs.map fun l => (⟨l.toArray⟩ : ByteArray)).length := by simp
    have hmap : (xs.map fun l => (⟨l.toArray⟩ : ByteArray)).map (·.data.toList) = xs := by
      rw [List.map_map]
      exact (List.map_congr_left (fun _ _ => rfl)).trans (List.map_id xs)
    rw [hlen']
    have hg : g < w.heap.size := by
      cases xs with
      | nil => exact absurd rfl he
      | cons y r => exact block_lt_of_cell (hcell 0 _ (hv 0 y rfl))
    have := Any.strings_Join Tryz.lays156 Tryz.Builder_Extra_156 g off cap (xs.map fun l => (⟨l.toArray⟩ : ByteArray)) ⟨sep.toArray⟩ w (fun j y hy => by
        simp only [List.getElem?_map, Option.map_eq_some_iff] at hy
        obtain ⟨l, hl, rfl⟩ := hy
        have := hcell j _ (hv j l hl)
        rw [add_mk] at this
        exact this) hg (by simpa using hN) (by simpa using hcap) (by rw [hmap]; exact hlen)
    rw [hmap] at this
    exact this
def c153 : List PV → List Box → Option (PRes × List Box)
  | [x, .str sep], sg => match rowX sg x with
    | some es => match decL decS es with
      | some xs => if xs.length ≤ 140737488355328 ∧ (Lib.join xs sep).length ≤ 140737488355328 then some (.ret (.str (Lib.join xs sep)), sg) else none
      | none => none
    | none => none
  | _, _ => none
theorem c153_ok : ConOk Tryz.prog 153 c153 := fun args sg r sg' h => by
  unfold c153 at h
  split at h <;> try (cases h; done)
  split at h <;> try (cases h; done)
  rename_i hx
  split at h <;> try (cases h; done)
  rename_i xs hxs
  split at h <;> cases h
  rename_i hc
  rw [decL_inv decS_inv hxs] at hx
  exact ⟨ent Tryz.func153 rfl, Join_153 hx hc.1 hc.2, SameLoops.refl _⟩
theorem Split_154 {s sep : List UInt8} {sg : List Box} (hs : s.length < 4294967281) (h1 : 1 ≤ sep.length) (hall : (Lib.split s sep).all (fun x => Nat.ble x.length maxLen) = true) (hn : (Lib.split s sep).length ≤ maxLen) :
    CallOk Tryz.prog 154 [.str s, .str sep] sg (.ret (.sl .f ((Lib.split s sep).map PV.str))) sg := by
  refine ⟨Nat.le_refl _, fun n G w us hR hL => ?_⟩
  obtain ⟨u, v, rfl, hu, hv⟩ := args_two hL
  cases hu
  cases hv
  obtain ⟨m, hm⟩ := (TabOk.of hR).2
  refine CallsIn.mono (callsIn_wide.2 (Any.strings_Split Tryz.lays146 (by kernel_rfl) ⟨s.toArray⟩ ⟨sep.toArray⟩ m w (by simpa [ByteArray.size] using hs) hm (by simpa [ByteArray.size] using h1))) fun e w' ⟨he, hw⟩ => ?_
  subst he
  subst hw
  have hd : (Lib.splitB ⟨sep.toArray⟩ 0 (Lib.countB ⟨s.toArray⟩ ⟨sep.toArray⟩) ⟨s.toArray⟩).map (·.data.toList) = Lib.split s sep := Lib.splitB_data _ 0 _ _
  have hlen : Lib.countB ⟨s.toArray⟩ ⟨sep.toArray⟩ + 1 = ((Lib.split s sep).map PV.str).length := by
    rw [← hd]
    simp only [List.length_map]
    exact (Lib.splitB_all _ (by simpa [ByteArray.size] using h1) 0 _ _ rfl).symm
  obtain ⟨a1, a2⟩ := lay_ok hR ((Lib.splitB ⟨sep.toArray⟩ 0 (Lib.countB ⟨s.toArray⟩ ⟨sep.toArray⟩) ⟨s.toArray⟩).map Value.string).toArray (Tryz.lays146_ren.t 9)
  refine ⟨_, a1, a2.leM _, rfl, ?_⟩
  show Rep _ (.sl .f ((Lib.split s sep).map PV.str)) (.slice _ _ _)
  rw [hlen]
  have hpc : ∀ (j : Nat) (c : PV), ((Lib.split s sep).map PV.str)[j]? = some c → ∃ b : ByteArray, (Lib.splitB ⟨sep.toArray⟩ 0 (Lib.countB ⟨s.toArray⟩ ⟨sep.toArray⟩) ⟨s.toArray⟩)[j]? = some b ∧ c = .str b.data.toList ∧ b.data.toList.length ≤ maxLen := fun j c hc => by
    rw [← hd] at hc hall
    simp only [List.getElem?_map, Option.map_eq_some_iff] at hc
    obtain ⟨l, ⟨b, hb, rfl⟩, rfl⟩ := hc
    refine ⟨b, hb, rfl, ?_⟩
    exact Nat.le_of_ble_eq_true (List.all_eq_true.1 hall _ (List.mem_map_of_mem (List.mem_of_getElem? hb)))
  refine .sl (by intro h; cases h) (fun _ => rfl) 1 (fun j => (((Lib.splitB ⟨sep.toArray⟩ 0 (Lib.countB ⟨s.toArray⟩ ⟨sep.toArray⟩) ⟨s.toArray⟩).map Value.string)[j]?).getD undef) ?_ ?_ (Nat.le_refl _) (by simpa using hn) ?_ ?_ (fun _ => rfl)
  · intro e he
    obtain ⟨l, _, rfl⟩ := List.mem_map.1 he
    rfl
  · intro c hc
    rw [flat_strs] at hc
    obtain ⟨l, _, rfl⟩ := List.mem_map.1 hc
    rfl
  · intro j c hc
    rw [flat_strs] at hc
    obtain ⟨b, hb, _, _⟩ := hpc j c hc
    show (if w.heap.size = w.heap.size then _ else _) = _
    rw [if_pos rfl, Nat.zero_add]
    simp [hb]
  · intro j c hc
    rw [flat_strs] at hc
    obtain ⟨b, hb, rfl, hbl⟩ := hpc j c hc
    simp only [List.getElem?_map, hb, Option.map_some, Option.getD_some]
    exact .str hbl
def c154 : List PV → List Box → Option (PRes × List Box)
  | [.str s, .str sep], sg => if s.length < 4294967281 ∧ 1 ≤ sep.length ∧ (Lib.split s sep).all (fun x => Nat.ble x.length maxLen) = true ∧ (Lib.split s sep).length ≤ maxLen then some (.ret (.sl .f ((Lib.split s sep).map PV.str)), sg) else none
  | _, _ => none
theorem c154_ok : ConOk Tryz.prog 154 c154 := fun args sg r sg' h => by
  unfold c154 at h
  split at h <;> try (cases h; done)
  split at h <;> cases h
  rename_i hc
  exact ⟨ent Tryz.func154 rfl, Split_154 hc.1 hc.2.1 hc.2.2.1 hc.2.2.2, SameLoops.refl _⟩
end Go.Pv
