/- Contracts: the parts of the derivations: tables; the stack of a derivation, whose lower part is open. -/
import Derived.Test.YtkjalecddameoaaGreatDoorQfGrow
import Derived.Test.YtkjalecddameoaaGreatDoorQdWalk
set_option linter.all false
namespace Go.Pv
open Go Go.RowKit Go.Proofs
set_option maxRecDepth 200000
set_option maxHeartbeats 8000000
def c203:List PV→List Box→Option (PRes × List Box)
 | [.sl z es],[]=>match decL decQ es with
  | some L=>if zOk z (L.map encQ) = true∧qsB L = true∧catQ L ≠ []∧(catQ L).length ≤ 100000∧L.length ≤ 1000 then some (.ret (.ms 0 (catQ L).length),[.row false 3 1 ((catQ L).map ii) false]) else none
  | none=>none
 | _,_=>none
theorem c203_ok:ConOk Tryz.prog 203 c203:=fun args sg r sg' h=>by
 unfold c203 at h
 split at h <;> try (cases h;done)
 split at h <;> try (cases h;done)
 rename_i hl
 split at h <;> cases h
 rename_i hc
 obtain rfl:=decL_inv decQ_inv hl
 exact ⟨ent Tryz.func203 rfl,Concat_203 _ _ (zOk_map hc.1) hc.2.1 hc.2.2.1 hc.2.2.2.1 hc.2.2.2.2,sameLoops_of _ _ rfl⟩
def decTd:List PV→Option (Int × PV × PV × List Int × PV)
 | [.int .i64 e,ss,rr,.sl .a ms,lv]=>match decL decI ms with
  | some mm=>some (e,ss,rr,mm,lv)
  | none=>none
 | _=>none
theorem decTd_inv {cs:List PV} {e:Int} {ss rr:PV} {mm:List Int} {lv:PV} (h:decTd cs = some (e,ss,rr,mm,lv)):cs = toldC e ss rr mm lv:=by
 unfold decTd at h
 split at h <;> try (cases h;done)
 split at h <;> cases h
 rename_i h1
 obtain rfl:=decL_inv decI_inv h1
 rfl
theorem decTd_enc (e:Int) (ss rr:PV) (mm:List Int) (lv:PV):decTd (toldC e ss rr mm lv) = some (e,ss,rr,mm,lv):=by
 show (match decL decI (mm.map ii) with | some mm=>some (e,ss,rr,mm,lv) | none=>none) = _
 rw [decIs]
def c147:List PV→List Box→Option (PRes × List Box)
 | [.agg cs,r],sg=>match decTd cs,decRz r with
  | some (_,_,_,mm,_),some q=>if closedL cs = true∧zOk q.1 (q.2.to.map ii) = true∧q.2.to.length ≤ 1000∧(q.2.to.all fun x=>decide (0 ≤ x∧x < mm.length)) = true then some (.ret (.bool (endsM mm q.2.to)),sg) else none
  | _,_=>none
 | _,_=>none
theorem c147_ok:ConOk Tryz.prog 147 c147:=ConOk.of0 (ent Tryz.func147 rfl) fun args sg r sg' h=>by
 unfold c147 at h
 split at h <;> try (cases h;done)
 split at h <;> try (cases h;done)
 rename_i h1 h2
 split at h <;> cases h
 rename_i hc
 obtain rfl:=decTd_inv h1
 obtain rfl:=decRz_inv _ _ h2
 refine ⟨_,rfl,rfl,by rw [ltBL_cons,ltBL_cons,ltB_rz,ltB_agg,ltBL_of_closed 0 _ hc.1];rfl,ends_147 _ _ _ _ _ _ hc.1 hc.2.1 hc.2.2.1 fun x hx=>?_⟩
 exact of_decide_eq_true (List.all_eq_true.1 hc.2.2.2 x hx)
theorem first1_201 (e:Int) (ss rr lv:PV) (mm:List Int) (n:Int):CallOk Tryz.prog 201 [ii n,.ip (toldC e ss rr mm lv)] [] (.ret (.bool (decide (n < e)))) []:=by
 refine CallOk.of0 hTT Tryz.func201 rfl rfl ?_
 repeat (with_reducible (first | apply nx | apply wQ rfl | ((first | apply wV | apply wW | apply wX | (apply wy cf0_ok;(focus kernel_rfl)));(focus (simp only [Tryz.f201,go_sem];rfl))) | refine wz cf0_ok ?_ | (refine wa ?_;refine And.intro ?_ ?_;(focus kernel_rfl))))
 exact ⟨rfl,rfl,_,rfl,rfl⟩
theorem idx_first (e:Int):∀ (l:List Int) (i:Nat),idxP (fun n=>decide (n < e)) l i = match firstE e l with | none=>-1 | some a=>((i + a:Nat):Int)
 | [],_=>rfl
 | x :: l,i=>by
  rw [idxP_cons,firstE]
  by_cases h:x < e
  ·rw [if_pos (by simpa using h),if_pos h];rfl
  ·rw [if_neg (by simpa using h),if_neg h,idx_first e l (i + 1)]
   cases firstE e l with
   | none=>rfl
   | some a=>show ((i + 1 + a:Nat):Int) = ((i + (a + 1):Nat):Int);congr 1;omega
def stk (id:Nat) (fnv:PV) (B0 lw:List Box) (v:PV) (z:Bool) (es:List PV) (C:List Box):List Box:=lw ++ ([.var [.yl id] false,.var [v] false,.var [fnv] false,.row z 3 1 es false] ++ (B0 ++ C))
section
variable {id:Nat} {fnv:PV} {B0 lw:List Box} {k0 K:Nat} (hk:lw.length = k0) (hK:k0 + (4 + B0.length) = K)
include hk
theorem stk0 (v:PV) (z:Bool) (es:List PV) (C:List Box):(stk id fnv B0 lw v z es C)[k0]? = some (.var [.yl id] false):=by
 subst hk;exact app_get0 lw _
theorem stk1 (v:PV) (z:Bool) (es:List PV) (C:List Box):(stk id fnv B0 lw v z es C)[k0 + 1]? = some (.var [v] false):=by
 subst hk;exact app_get lw _ 1
theorem stk2 (v:PV) (z:Bool) (es:List PV) (C:List Box):(stk id fnv B0 lw v z es C)[k0 + 2]? = some (.var [fnv] false):=by
 subst hk;exact app_get lw _ 2
theorem stk3 (v:PV) (z:Bool) (es:List PV) (C:List Box):(stk id fnv B0 lw v z es C)[k0 + 3]? = some (.row z 3 1 es false):=by
 subst hk;exact app_get lw _ 3
theorem stkS1 (v v':PV) (z:Bool) (es:List PV) (C:List Box):(stk id fnv B0 lw v z es C).set (k0 + 1) (.var [v'] false) = stk id fnv B0 lw v' z es C:=by
 subst hk;exact app_set lw _ 1 _
theorem stkS3 (v:PV) (z z':Bool) (es es':List PV) (C:List Box):(stk id fnv B0 lw v z es C).set (k0 + 3) (.row z' 3 1 es' false) = stk id fnv B0 lw v z' es' C:=by
 subst hk;exact app_set lw _ 3 _
include hK
theorem stkL (v:PV) (z:Bool) (es:List PV) (C:List Box):(stk id fnv B0 lw v z es C).length = K + C.length:=by
 unfold stk
 simp only [List.length_append,List.length_cons,List.length_nil]
 omega
theorem stk_lw (v:PV) (z:Bool) (es:List PV) (C:List Box):∃ S,S.length = K∧stk id fnv B0 lw v z es C = S ++ C:=⟨lw ++ ([.var [.yl id] false,.var [v] false,.var [fnv] false,.row z 3 1 es false] ++ B0),by
 simp only [List.length_append,List.length_cons,List.length_nil];omega,by unfold stk;simp only [List.append_assoc]⟩
theorem stkG (v:PV) (z:Bool) (es:List PV) (C:List Box) (j:Nat):(stk id fnv B0 lw v z es C)[K + j]? = C[j]?:=by
 obtain ⟨S,hS,e⟩:=stk_lw hk hK v z es C
 rw [e,← hS];exact app_get S C j
theorem stkG0 (v:PV) (z:Bool) (es:List PV) (C:List Box):(stk id fnv B0 lw v z es C)[K]? = C[0]?:=stkG hk hK v z es C 0
theorem stkS (v:PV) (z:Bool) (es:List PV) (C:List Box) (j:Nat) (x:Box):(stk id fnv B0 lw v z es C).set (K + j) x = stk id fnv B0 lw v z es (C.set j x):=by
 have e1:lw.length + (4 + (B0.length + j)) = K + j:=by omega
 unfold stk
 rw [← e1,app_set]
 congr 1
 rw [show 4 + (B0.length + j) = [Box.var [PV.yl id] false,.var [v] false,.var [fnv] false,.row z 3 1 es false].length + (B0.length + j) from rfl,app_set,app_set]
theorem stkS0 (v:PV) (z:Bool) (es:List PV) (C:List Box) (x:Box):(stk id fnv B0 lw v z es C).set K x = stk id fnv B0 lw v z es (C.set 0 x):=stkS hk hK v z es C 0 x
end
theorem stkA (id:Nat) (fnv:PV) (B0 lw:List Box) (v:PV) (z:Bool) (es:List PV) (C D:List Box):stk id fnv B0 lw v z es C ++ D = stk id fnv B0 lw v z es (C ++ D):=by
 unfold stk;simp only [List.append_assoc]
theorem stkB (id:Nat) (fnv:PV) (B0 lw:List Box) (v:PV) (z:Bool) (es:List PV) (C D:List Box):stk id fnv B0 lw v z es (C ++ D) = stk id fnv (B0 ++ C) lw v z es D:=by
 unfold stk;simp only [List.append_assoc]
theorem yield_agg {P:Program} {id M:Nat} {S D:List Box} {R:List Int} {pl:PV} {r:PRes} {sg':List Box} (hS:S.length = M) (hid:id < M) (hpl:pl.closed = true) (hpo:∀ sg,view1 sg pl = some pl)
 (h:YieldOk P id [.agg [.sl .a (R.map ii),pl]] (S ++ .row false 3 1 (R.map ii) true :: D) r sg'):YieldOk P id [.agg [.ms M R.length,pl]] (S ++ .row false 3 1 (R.map ii) false :: D) r sg':=by
 subst hS
 have hget:(S ++ Box.row false 3 1 (R.map ii) false :: D)[S.length]? = some (.row false 3 1 (R.map ii) false):=app_get0 S _
 have hrows:rowsOf (S ++ Box.row false 3 1 (R.map ii) false :: D) [S.length] = S ++ .row false 3 1 (R.map ii) true :: D:=by
  unfold rowsOf
  simp only [hget,rowsOf]
  rw [frzL_closed (n:=4) (flat (R.map ii)) _ (closedL_flat _ (closedL_is R))]
  simp only [regroup_self]
  exact app_set0 _ _ _
 refine h.ghost (by simp;omega) ?_ ?_
 ·have:=Ghost.rows [S.length] (S ++ Box.row false 3 1 (R.map ii) false :: D) ⟨argT 0 [.agg [.ms S.length R.length,pl]],1,S ++ Box.row false 3 1 (R.map ii) false :: D⟩ rfl
  rw [hrows] at this
  exact this
 ·have hg2:(S ++ Box.row false 3 1 (R.map ii) true :: D)[S.length]? = some (.row false 3 1 (R.map ii) true):=app_get0 S _
  have hv:view1 (S ++ Box.row false 3 1 (R.map ii) true :: D) (.ms S.length R.length) = some (.sl .a (R.map ii)):=by
   unfold view1
   simp [hg2]
  simp only [mapO,viewV,hv,hpo]
end Go.Pv
namespace Go.Pv
open Go Go.RowKit Go.Proofs
set_option maxRecDepth 200000
set_option maxHeartbeats 8000000
theorem min_if (c a:Int):min c a = if a < c then a else c:=by split <;> omega
theorem max_if (c a:Int):max c a = if a > c then a else c:=by split <;> omega
def waysI (l:List Int):Int:=l.foldl (fun n x=>min 1000 (n * x)) 1
theorem waysI_take {l:List Int} {i:Nat} {x:Int} (h:l[i]? = some x):waysI (l.take (i + 1)) = min 1000 (waysI (l.take i) * x):=by
 unfold waysI
 rw [List.take_add_one,h,List.foldl_append];rfl
theorem waysI_bd {l:List Int} (h:∀ x ∈ l,0 ≤ x):0 ≤ waysI l∧waysI l ≤ 1000:=by
 have key:∀ (l:List Int) (n:Int),(∀ x ∈ l,0 ≤ x)→0 ≤ n→n ≤ 1000→0 ≤ l.foldl (fun n x=>min 1000 (n * x)) n∧l.foldl (fun n x=>min 1000 (n * x)) n ≤ 1000:=by
  intro l
  induction l with
  | nil=>intro n _ h0 h1;exact ⟨h0,h1⟩
  | cons a l ih =>
   intro n hl h0 h1
   have:=Int.mul_nonneg h0 (hl a List.mem_cons_self)
   exact ih (min 1000 (n * a)) (fun x hx=>hl x (List.mem_cons_of_mem _ hx)) (by omega) (by omega)
 exact key l 1 h (by omega) (by omega)
theorem ways_148 (z:Z) (l:List Int) (hz:z = .n→l = []) (hl:l.length ≤ 1000) (hb:∀ x ∈ l,0 ≤ x∧x ≤ 1000):CallOk Tryz.prog 148 [.sl z (l.map ii)] [] (.ret (ii (waysI l))) []:=by
 refine CallOk.of0 hTT Tryz.func148 rfl rfl ?_
 repeat (with_reducible (first | apply nx | apply wQ rfl | ((first | apply wV | apply wW | apply wX | (apply wy cf0_ok;(focus kernel_rfl)));(focus (simp only [Tryz.f148,go_sem];rfl))) | refine wz cf0_ok ?_ | (refine wa ?_;refine And.intro ?_ ?_;(focus kernel_rfl))))
 refine RunQ.keep [8,7,6,3,2,0] (by simp only [go_sem];rfl) ?_
 refine RunQ.loop (fun i s'=>s' = ⟨[(8,ii i),(7,ii l.length),(6,.sl z (l.map ii)),(3,ii (waysI (l.take i))),(2,ii 0),(0,.sl z (l.map ii))],18,[]⟩) l.length (by simp only [List.length_map,go_sem];rfl) ?_
 rintro i _ hi rfl
 by_cases hlt:i < l.length
 ·obtain ⟨x,hx⟩:∃ x,l[i]? = some x:=⟨_,List.getElem?_eq_getElem hlt⟩
  have hx':(l.map ii)[i]? = some (ii x):=map_get hx
  have hlt':(i:Int) < l.length:=by omega
  have hz':z ≠ .n:=fun e=>by rw [hz e] at hlt;simp at hlt
  have hw:=waysI_take hx
  have hxb:=hb x (List.mem_of_getElem? hx)
  have hwb:=waysI_bd (l:=l.take i) fun y hy=>(hb y (List.mem_of_mem_take hy)).1
  generalize waysI (l.take i) = w at hwb hw ⊢
  have h1:=Int.mul_nonneg hwb.1 hxb.1
  have h2:w * x ≤ 1000 * 1000:=Int.le_trans (Int.mul_le_mul_of_nonneg_right hwb.2 hxb.1) (by omega)
  have e3:IntKind.i64.wrap (w * x) = w * x:=wrap_id (by omega) (by omega)
  have e4:IntKind.i64.wrap ((i:Int) + 1) = ((i + 1:Nat):Int):=wrap_id (by omega) (by omega)
  repeat (with_reducible (first | apply nx | apply wQ rfl | ((first | apply wV | apply wW | apply wX | (apply wy cf0_ok;(focus kernel_rfl)));(focus (simp only [Tryz.f148,hlt',hx',hz',e3,e4,List.length_map,go_sem];rfl))) | refine wz cf0_ok ?_ | (refine wa ?_;refine And.intro ?_ ?_;(focus kernel_rfl))))
  refine roundQ.k [8,7,6,3,2,0] hlt (by simp only [go_sem];rfl) (by rw [hw,min_if])
 ·have hlt':¬ (i:Int) < l.length:=by omega
  obtain rfl:i = l.length:=by omega
  rw [List.take_length]
  repeat (with_reducible (first | apply nx | apply wQ rfl | ((first | apply wV | apply wW | apply wX | (apply wy cf0_ok;(focus kernel_rfl)));(focus (simp only [Tryz.f148,hlt',List.length_map,go_sem];rfl))) | refine wz cf0_ok ?_ | (refine wa ?_;refine And.intro ?_ ?_;(focus kernel_rfl))))
  exact ⟨rfl,rfl,_,rfl,rfl⟩
def c148:List PV→List Box→Option (PRes × List Box)
 | [v],sg=>match decIs1 v with
  | some l=>if l.length ≤ 1000∧(l.all fun x=>decide (0 ≤ x∧x ≤ 1000)) = true then some (.ret (ii (waysI l)),sg) else none
  | none=>none
 | _,_=>none
theorem c148_ok:ConOk Tryz.prog 148 c148:=ConOk.of0 (ent Tryz.func148 rfl) fun args sg r sg' h=>by
 unfold c148 at h
 split at h <;> try (cases h;done)
 split at h <;> try (cases h;done)
 rename_i h1
 split at h <;> cases h
 rename_i hc
 obtain ⟨z,rfl,hz⟩:=decIs1_inv h1
 exact ⟨_,rfl,rfl,by rw [ltBL_cons,ltB_isl];rfl,ways_148 _ _ hz hc.1 fun x hx=>of_decide_eq_true (List.all_eq_true.1 hc.2 x hx)⟩
end Go.Pv
namespace Go.Pv
open Go Go.RowKit Go.Proofs
set_option maxRecDepth 200000
set_option maxHeartbeats 8000000
theorem roundQ.cutS {P:Program} {I:Nat→St→Prop} {m i k1:Nat} {Q:Out→St→Prop} {s:St} (ts:List Nat) (S D:List Box) {tm':List (Nat × PV)} (hi:i < m) (hS:s.sg = S ++ D) (hk1:k1 ≤ S.length) (hk:keepN ts s.tm = tm') (htm:∀ p ∈ tm',Pv.Lt S.length p.2) (hb:∀ b ∈ S,b.Lt S.length) (hn:noLoops D = true)
 (h:I (i + 1) ⟨tm',s.n,S⟩):roundQ P I m i k1 Q .normal s:=⟨hi,_,Back.cutP ts S D hS hk1 hk htm hb hn,h⟩
theorem stk_own {id:Nat} {fnv v:PV} {z:Bool} {es:List PV} {B0 C:List Box} {k0 K:Nat} (hK:k0 + (4 + B0.length) = K) (hid:id < k0) (hv:Pv.Lt (K + C.length) v) (hfn:Pv.Lt K fnv) (hes:closedL es = true) (hB:∀ x ∈ B0,x.Lt K) (hC:∀ x ∈ C,x.Lt (K + C.length)) :
 OwnOk k0 ([.var [.yl id] false,.var [v] false,.var [fnv] false,.row z 3 1 es false] ++ (B0 ++ C)):=by
 intro x hx
 have hl:k0 + ([Box.var [PV.yl id] false,.var [v] false,.var [fnv] false,.row z 3 1 es false] ++ (B0 ++ C)).length = K + C.length:=by
  simp only [List.length_append,List.length_cons,List.length_nil];omega
 rw [hl]
 rcases List.mem_append.1 hx with hx | hx
 ·simp only [List.mem_cons,List.not_mem_nil,or_false] at hx
  rcases hx with rfl | rfl | rfl | rfl
  ·intro c hc
   simp at hc;subst hc
   exact .yl (by omega)
  ·intro c hc
   simp at hc;subst hc
   exact hv
  ·intro c hc
   simp at hc;subst hc
   exact hfn.mono (by omega)
  ·exact (boxLt_of (show (Box.row z 3 1 es false).ltB 0 = true from ltBL_of_closed 0 _ hes)).mono (by omega)
 ·rcases List.mem_append.1 hx with hx | hx
  ·exact (hB x hx).mono (by omega)
  ·exact hC x hx
theorem stk_lt {id:Nat} {fnv v:PV} {z:Bool} {es:List PV} {B0 C lw:List Box} {k0 K:Nat} (hk:lw.length = k0) (hK:k0 + (4 + B0.length) = K) (h0:OwnOk 0 lw) (hid:id < k0) (hv:Pv.Lt (K + C.length) v) (hfn:Pv.Lt K fnv) (hes:closedL es = true) (hB:∀ x ∈ B0,x.Lt K) (hC:∀ x ∈ C,x.Lt (K + C.length)) :
 ∀ x ∈ stk id fnv B0 lw v z es C,x.Lt (K + C.length):=by
 have:=own_lt h0 (by rw [hk];exact stk_own (z:=z) hK hid hv hfn hes hB hC)
 rw [show lw ++ ([Box.var [PV.yl id] false,.var [v] false,.var [fnv] false,.row z 3 1 es false] ++ (B0 ++ C)) = stk id fnv B0 lw v z es C from rfl,stkL hk hK] at this
 exact this
def cfJ:CallF:=cfAdd cf0 202 c202
theorem cfJ_ok:CallFOk Tryz.prog cfJ:=cfAdd_ok cf0_ok c202_ok
theorem flat_is:∀ R:List Int,flat (R.map ii) = R.map ii
 | []=>rfl
 | a :: r=>by rw [List.map_cons,flat_cons,flat_is r];rfl
theorem sameLoops_app2 {a b C C':List Box} (h:SameLoops a b) (hc:noLoops C = true) (hc':noLoops C' = true):SameLoops (a ++ C) (b ++ C'):=((SameLoops.app C' hc' h).symm.app C hc).symm
theorem der_base (id k0 K:Nat) (fnv:PV) (e:Int) (ss rr lv:PV) (mm:List Int) (zl:Z) (list l:List Int) (d:Nat) (low low' B0:List Box) (b:Bool) (hcl:closedL (toldC e ss rr mm lv) = true) (hzl:zl ≠ .n) (hne:list ≠ []) (hll:list.length ≤ 100000)
 (hx:∀ x ∈ list,-100000 ≤ x∧x ≤ 100000) (he:-1000 ≤ e∧e ≤ 1000) (hf:firstE e list = none) (hd1:1 ≤ d) (hdl:d ≤ l.length) (hdb:d ≤ 100000) (hk:low.length = k0) (hK:k0 + (4 + B0.length) = K) (h0:OwnOk 0 low) (hB:∀ x ∈ B0,x.Lt K) (hfn:Pv.Lt K fnv) (hid:id < k0)
 (hY:YR Tryz.prog id [.agg [.sl .a ((l.take d).map ii),.sl .a ((list.map (· - e)).map ii)]] low b low') :
 CallOk Tryz.prog 199 [.sl zl (list.map ii),.ip (toldC e ss rr mm lv),.bp k0 0,.bp (k0 + 1) 0,.bp (k0 + 2) 0] (stk id fnv B0 low (.pf (k0 + 3) d l.length) false (l.map ii) []) (.ret (.bool b)) (stk id fnv B0 low' (.pf (k0 + 3) d l.length) false (l.map ii) []):=by
 obtain ⟨hl',h0',hown⟩:=hY
 have hk':low'.length = k0:=by omega
 have hvl:∀ n,Pv.Lt (K + n) (.pf (k0 + 3) d l.length):=fun n=>.pf (by omega)
 have hcle:=closedL_is l
 refine CallOk.ofB hTT Tryz.func199 rfl rfl ?_ (by rw [stkL hk hK,stkL hk' hK]) (by rw [stkL hk hK];exact stk_lt hk' hK h0' hid (hvl _) hfn hcle hB (fun x hx=>by cases hx)) .bool
 have hidx:CallOk Tryz.prog 200 [.sl zl (list.map ii),.fn (.func 201) [] [.ip (toldC e ss rr mm lv)]] [] (.ret (ii (-1))) []:=by
  have:=index_200 (g:=201) (cs:=[.ip (toldC e ss rr mm lv)]) (S:=[]) zl list (fun n=>decide (n < e)) (ent Tryz.func201 rfl) (fun b hb=>by cases hb) (ltBL_of_closed 0 _ (by simpa [closedL,PV.closed] using hcl)) (fun h=>absurd h hzl) (by omega) (fun x _=>first1_201 e ss rr lv mm x)
  rw [idx_first,hf] at this
  exact this
 have hil:ltBL 0 [PV.sl zl (list.map ii),.fn (.func 201) [] [.ip (toldC e ss rr mm lv)]] = true:=ltBL_of_closed 0 _ (by
  have h1:=closedL_is list
  have h2:closedL [PV.ip (toldC e ss rr mm lv)] = true:=by simpa [closedL,PV.closed] using hcl
  simp only [closedL,PV.closed,h1] at h2 ⊢
  simpa using h2)
 have g0:=stk0 (id:=id) (fnv:=fnv) (B0:=B0) hk
 have g1:=stk1 (id:=id) (fnv:=fnv) (B0:=B0) hk
 have g3:=stk3 (id:=id) (fnv:=fnv) (B0:=B0) hk
 have gL:=stkL (id:=id) (fnv:=fnv) (B0:=B0) hk hK
 have gG:=stkG (id:=id) (fnv:=fnv) (B0:=B0) hk hK
 have gG0:=stkG0 (id:=id) (fnv:=fnv) (B0:=B0) hk hK
 have gS:=stkS (id:=id) (fnv:=fnv) (B0:=B0) hk hK
 have gS0:=stkS0 (id:=id) (fnv:=fnv) (B0:=B0) hk hK
 have gA:=stkA id fnv B0 low
 repeat (with_reducible (first | ((fail_if_success (refine RunQ.seq (x:=.region 1 _ _) ?_));(apply nx)) | apply wQ rfl | ((first | apply wV | apply wW | apply wX | (apply wy cf0_ok;(focus kernel_rfl)));(focus (simp only [Tryz.f199,go_sem];rfl))) | ((fail_if_success (show RunQ _ (.region 1 _ _) _ _));(refine wz cf0_ok ?_)) | (refine wa ?_;refine And.intro ?_ ?_;(focus kernel_rfl))))
 refine RunQ.scope ?_
 have hm1:((-1:Int) < 0) = True:=by simp
 repeat (with_reducible (first | ((fail_if_success (refine RunQ.seq (x:=.region 4 _ _) ?_));(apply nx)) | apply wQ rfl | ((first | apply wV | apply wW | apply wX | (apply wy (cfAt_ok cf0_ok (ent Tryz.func200 rfl) hidx hil);(focus kernel_rfl)));(focus (simp only [Tryz.f199,cfAt,notYield,g0,g1,g3,hm1,go_sem];rfl))) | ((fail_if_success (show RunQ _ (.region 4 _ _) _ _));(refine wz (cfAt_ok cf0_ok (ent Tryz.func200 rfl) hidx hil) ?_)) | (refine wa ?_;refine And.intro ?_ ?_;(focus kernel_rfl))))
 repeat (with_reducible (first | apply nx | apply wQ rfl | ((first | apply wV | apply wW | apply wX | (apply wy cf0_ok;(focus kernel_rfl)));(focus (simp only [Tryz.f199,go_sem];rfl))) | refine wz cf0_ok ?_ | (refine wa ?_;refine And.intro ?_ ?_;(focus kernel_rfl))))
 refine RunQ.keep [20,19,18,8,1,2,3,6] (by simp only [go_sem];rfl) ?_
 refine RunQ.nilRow 8 3 1 (by simp only [go_sem]) (by simp only [gL,Nat.add_zero,go_sem];rfl) (gA _ _ _ _ _) ?_
 obtain ⟨pl,hpl⟩:∃ pl,pl = list.map (· - e):=⟨_,rfl⟩
 rw [← hpl] at hown
 have hpn:pl.length = list.length:=by rw [hpl,List.length_map]
 refine RunQ.loop (fun i s'=>s' = ⟨[(20,ii i),(19,ii list.length),(18,.sl zl (list.map ii)),(8,.ms K i),(6,.bool false),(1,.ip (toldC e ss rr mm lv)),(2,.bp k0 0),(3,.bp (k0 + 1) 0)],89,stk id fnv B0 low (.pf (k0 + 3) d l.length) false (l.map ii) [.row (decide (i = 0)) 3 1 ((pl.take i).map ii) false]⟩)
  list.length (by simp only [List.length_map,go_sem]) ?_
 rintro i _ hi rfl
 by_cases hlt:i < list.length
 ·obtain ⟨x,hx1⟩:∃ x,list[i]? = some x:=⟨_,List.getElem?_eq_getElem hlt⟩
  have hx':(list.map ii)[i]? = some (ii x):=map_get hx1
  have hlt':(i:Int) < list.length:=by omega
  have hxb:=hx x (List.mem_of_getElem? hx1)
  have e3:IntKind.i64.wrap (x - e) = x - e:=wrap_id (by omega) (by omega)
  have e4:IntKind.i64.wrap ((i:Int) + 1) = ((i + 1:Nat):Int):=wrap_id (by omega) (by omega)
  have r1:(i + 1) * 8 ≤ 140737488355328:=by omega
  have r2:i + 1 ≤ maxLen:=by unfold maxLen;omega
  have htk:(pl.take (i + 1)).map ii = (pl.take i).map ii ++ [ii (x - e)]:=by
   have:pl[i]? = some (x - e):=by rw [hpl];exact map_get hx1
   rw [List.take_add_one,this,List.map_append];rfl
  have htl:(pl.take i).length = i:=by rw [List.length_take];omega
  have hd1:decide (i + 1 = 0) = false:=by simp
  repeat (with_reducible (first | apply nx | apply wQ rfl | ((first | apply wV | apply wW | apply wX | (apply wy cf0_ok;(focus kernel_rfl)));(focus (simp only [Tryz.f199,hx',hlt',hzl,e3,e4,r1,r2,gG0,gS0,gL,gA,htl,List.length_map,Nat.add_zero,go_sem];rfl))) | refine wz cf0_ok ?_ | (refine wa ?_;refine And.intro ?_ ?_;(focus kernel_rfl))))
  refine roundQ.cutS [20,19,18,8,1,2,3,6] (stk id fnv B0 low (.pf (k0 + 3) d l.length) false (l.map ii) [.row (decide (i + 1 = 0)) 3 1 ((pl.take (i + 1)).map ii) false]) [.dead] hlt (by rw [gA,htk,hd1];simp only [go_sem]) (by rw [gL];simp only [gL,go_sem]) (by simp only [go_sem];rfl) ?_ ?_ rfl (by simp only [go_sem])
  ·rw [gL]
   intro p hp
   simp only [List.mem_cons,List.not_mem_nil,or_false] at hp
   rcases hp with rfl | rfl | rfl | rfl | rfl | rfl | rfl | rfl
   ·exact .int
   ·exact .int
   ·exact (lt_of_closed _ (show (PV.sl zl (list.map ii)).closed = true from closedL_is list)).mono (Nat.zero_le _)
   ·exact .ms (by simp)
   ·exact .bool
   ·exact (lt_of_closed _ (show (PV.ip (toldC e ss rr mm lv)).closed = true from hcl)).mono (Nat.zero_le _)
   ·exact .bp (by omega)
   ·exact .bp (by omega)
  ·rw [gL]
   exact stk_lt hk hK h0 hid (hvl _) hfn hcle hB fun x hx=>by
    simp only [List.mem_cons,List.not_mem_nil,or_false] at hx
    subst hx
    exact (boxLt_of (show (Box.row (decide (i + 1 = 0)) 3 1 ((pl.take (i + 1)).map ii) false).ltB 0 = true from ltBL_of_closed 0 _ (closedL_is _))).mono (Nat.zero_le _)
 have hlt':¬ (i:Int) < list.length:=by omega
 obtain rfl:i = list.length:=by omega
 have hi0:decide (list.length = 0) = false:=by simp [hne]
 rw [hi0,show pl.take list.length = pl from by rw [← hpn,List.take_length]]
 refine RunQ.freezeZ 8 K rfl (by rw [gG0];rfl) (by rw [List.length_map,hpn]) (closedL_is pl) (gS0 _ _ _ _ _) rfl ?_
 repeat (with_reducible (first | ((fail_if_success (refine RunQ.seq (x:=.region 9 _ _) ?_));(apply nx)) | apply wQ rfl | ((first | apply wV | apply wW | apply wX | (apply wy cf0_ok;(focus kernel_rfl)));(focus (simp only [Tryz.f199,hlt',go_sem];rfl))) | ((fail_if_success (show RunQ _ (.region 9 _ _) _ _));(refine wz cf0_ok ?_)) | (refine wa ?_;refine And.intro ?_ ?_;(focus kernel_rfl))))
 obtain ⟨R,hR⟩:∃ R,R = l.take d:=⟨_,rfl⟩
 have hRl:R.length = d:=by rw [hR,List.length_take];omega
 have hRn:R ≠ []:=fun e=>by rw [e] at hRl;simp at hRl;omega
 rw [← hR] at hown
 have hdec:decL decI ((l.map ii).take d) = some R:=by rw [← List.map_take,← hR,decIs]
 have hcR:closedL ((l.map ii).take d) = true:=by rw [← List.map_take];exact closedL_is _
 have hpR:(flat (R.map ii)).all plain1 = true:=by
  rw [flat_is]
  rw [List.all_map];exact List.all_eq_true.2 fun _ _=>rfl
 have hRb:R.length ≤ 100000:=by omega
 have oC:∀ (f:Bool),∀ x ∈ [Box.row false 3 1 (pl.map ii) true,.row false 3 1 (R.map ii) f,.dead],x.Lt (K + 3):=fun f x hx=>by
  simp only [List.mem_cons,List.not_mem_nil,or_false] at hx
  rcases hx with rfl | rfl | rfl
  ·exact (boxLt_of (show (Box.row false 3 1 (pl.map ii) true).ltB 0 = true from ltBL_of_closed 0 _ (closedL_is _))).mono (Nat.zero_le _)
  ·exact (boxLt_of (show (Box.row false 3 1 (R.map ii) f).ltB 0 = true from ltBL_of_closed 0 _ (closedL_is _))).mono (Nat.zero_le _)
  ·exact trivial
 have hy1:=(hown _ (by rw [hk];exact stk_own (z:=false) (es:=l.map ii) (C:=[Box.row false 3 1 (pl.map ii) true,.row false 3 1 (R.map ii) true,.dead]) hK hid (hvl _) hfn hcle hB (oC true))).1
 have hs1:=(hown _ (by rw [hk];exact stk_own (z:=false) (es:=l.map ii) (C:=[]) hK hid (hvl _) hfn hcle hB (fun x hx=>by cases hx))).2
 have hs1:SameLoops (stk id fnv B0 low (.pf (k0 + 3) d l.length) false (l.map ii) []) (stk id fnv B0 low' (.pf (k0 + 3) d l.length) false (l.map ii) []):=hs1
 have hy2:YieldOk Tryz.prog id [.agg [.ms (K + 1) R.length,.sl .a (pl.map ii)]] (stk id fnv B0 low (.pf (k0 + 3) d l.length) false (l.map ii) [.row false 3 1 (pl.map ii) true,.row false 3 1 (R.map ii) false,.dead]) (.ret (.bool b))
  (stk id fnv B0 low' (.pf (k0 + 3) d l.length) false (l.map ii) [.row false 3 1 (pl.map ii) true,.row false 3 1 (R.map ii) true,.dead]):=by
  have e1:∀ f,stk id fnv B0 low (.pf (k0 + 3) d l.length) false (l.map ii) [.row false 3 1 (pl.map ii) true,.row false 3 1 (R.map ii) f,.dead] = stk id fnv B0 low (.pf (k0 + 3) d l.length) false (l.map ii) [.row false 3 1 (pl.map ii) true] ++ .row false 3 1 (R.map ii) f :: [.dead]:=fun f=>by rw [gA];rfl
  rw [e1]
  refine yield_agg (by rw [gL];rfl) (by omega) (closedL_is pl) (fun sg=>rfl) ?_
  rw [← e1]
  exact hy1
 have hs2:SameLoops (stk id fnv B0 low (.pf (k0 + 3) d l.length) false (l.map ii) [.row false 3 1 (pl.map ii) true,.row false 3 1 (R.map ii) false,.dead]) (stk id fnv B0 low' (.pf (k0 + 3) d l.length) false (l.map ii) [.row false 3 1 (pl.map ii) true,.row false 3 1 (R.map ii) true,.dead]):=by
  have:=sameLoops_app2 hs1 (C:=[.row false 3 1 (pl.map ii) true,.row false 3 1 (R.map ii) false,.dead]) (C':=[.row false 3 1 (pl.map ii) true,.row false 3 1 (R.map ii) true,.dead]) rfl rfl
  rw [stkA,stkA] at this
  exact this
 have hdec2:decL decI (R.map ii) = some R:=decIs R
 have hcR2:closedL (R.map ii) = true:=closedL_is R
 have htkR:(l.map ii).take d = R.map ii:=by rw [← List.map_take,← hR]
 have hnd:[k0,k0 + 1,K + 1,k0 + 3,K + 2,id].Nodup:=by simp;omega
 refine RunQ.seq ?_
 refine RunQ.drawnY [] hTT cfJ_ok (yfOne_ok hy2 hs2) noM_ok mixed (by kernel_rfl) (by simp only [gA,go_sem];rfl) ?_
 iterate 5 (apply DrawQY.step;(focus (simp only [Tryz.f199,g0,g1,g3,gG,gG0,gS,gS0,gL,gA,htkR,hdec2,hcR2,cfJ,c202,hRn,hRb,hpR,List.length_map,go_sem];with_reducible rfl)))
 refine DrawQY.full rfl (by simp only [go_sem]) (by simp only [go_sem]) (by simp only [go_sem]) (by simp only [yfOne,go_sem];rfl) ?_
 apply DrawQY.step
 ·simp only [go_sem];rfl
 refine DrawQY.nil ⟨boxOk_ren [k0,k0 + 1,K + 1,k0 + 3,K + 2,id] [(false,none,[0]),(false,none,[1]),(false,some 2,[2,3]),(false,none,[]),(false,none,[2]),(true,none,[4,5,2]),(false,none,[])] hnd (by kernel_rfl) rfl (by kernel_rfl),?_⟩
 repeat (with_reducible (first | apply nx | apply wQ rfl | ((first | apply wV | apply wW | apply wX | (apply wy cf0_ok;(focus kernel_rfl)));(focus (simp only [Tryz.f199,go_sem];rfl))) | refine wz cf0_ok ?_ | (refine wa ?_;refine And.intro ?_ ?_;(focus kernel_rfl))))
 refine ⟨(fun l e=>by cases e),rfl,?_,rfl,_,(stkA id fnv B0 low' _ _ _ [] _).symm⟩
 have:=SameLoops.app [Box.row false 3 1 (pl.map ii) true,.row false 3 1 (R.map ii) true,.dead] rfl hs1
 rw [stkA] at this
 exact this
end Go.Pv
namespace Go.Pv
open Go Go.RowKit Go.Proofs
set_option maxRecDepth 200000
set_option maxHeartbeats 8000000
theorem sameLoops_set {sg:List Box} {i:Nat} {x y:Box} (h:sg[i]? = some x) (hx:isLoopB x = false) (hy:isLoopB y = false):SameLoops sg (sg.set i y):=by
 have hi:=(List.getElem?_eq_some_iff.1 h).1
 refine ⟨fun id lr e=>?_,fun id lr e=>?_⟩
 ·by_cases hid:i = id
  ·subst hid
   rw [h] at e
   cases e
   cases hx
  ·exact ⟨lr,by rw [List.getElem?_set_ne hid];exact e⟩
 ·by_cases hid:i = id
  ·subst hid
   rw [List.getElem?_set_self hi] at e
   cases e
   cases hy
  ·exact ⟨lr,by rw [List.getElem?_set_ne hid] at e;exact e⟩
theorem stk_var (id:Nat) (fnv:PV) (B0 lw C:List Box) (v v':PV) (z z':Bool) (es es':List PV):SameLoops (stk id fnv B0 lw v z es C) (stk id fnv B0 lw v' z' es' C):=by
 have h1:=sameLoops_set (y:=.var [v'] false) (stk1 (id:=id) (fnv:=fnv) (B0:=B0) (lw:=lw) rfl v z es C) rfl rfl
 rw [stkS1 rfl] at h1
 have h2:=sameLoops_set (y:=.row z' 3 1 es' false) (stk3 (id:=id) (fnv:=fnv) (B0:=B0) (lw:=lw) rfl v' z es C) rfl rfl
 rw [stkS3 rfl] at h2
 exact h1.trans h2
def resD (R:List Int) (L:List (List Nat × List Int)):List (List PV):=L.map fun dd=>[.agg [.sl .a ((R ++ intsN dd.1).map ii),.sl .a (dd.2.map ii)]]
theorem resD_cons (R:List Int) (i:Nat) (L:List (List Nat × List Int)):resD R (L.map fun dd=>(i :: dd.1,dd.2)) = resD (R ++ [(i:Int)]) L:=by
 unfold resD
 rw [List.map_map]
 apply List.map_congr_left
 intro dd _
 show [PV.agg [.sl .a ((R ++ intsN (i :: dd.1)).map ii),_]] = _
 have:R ++ intsN (i :: dd.1) = R ++ [(i:Int)] ++ intsN dd.1:=by
  rw [List.append_assoc];rfl
 rw [this]
theorem resD_app (R:List Int) (L M:List (List Nat × List Int)):resD R (L ++ M) = resD R L ++ resD R M:=by unfold resD;rw [List.map_append]
abbrev okM (mm:List Int):Rl→Bool:=fun r=>endsM mm r.to
def restR (e:Int) (mm:List Int) (rl:List Rl) (f:Nat) (list:List Int) (a i:Nat):List (List Nat × List Int) :=
 (forM (okM mm) (list.getD a 0) (rl.drop i) i).flatMap fun ir=>(derG e (okM mm) rl f (putE list a ir.2.to)).map fun dd=>(ir.1 :: dd.1,dd.2)
theorem restR_get {e:Int} {mm:List Int} {rl:List Rl} {f:Nat} {list:List Int} {a i:Nat} {r:Rl} (h:rl[i]? = some r):restR e mm rl f list a i =
 (if r.frm = list.getD a 0∧endsM mm r.to = true then (derG e (okM mm) rl f (putE list a r.to)).map (fun dd=>(i :: dd.1,dd.2)) ++ restR e mm rl f list a (i + 1) else restR e mm rl f list a (i + 1)):=by
 unfold restR
 rw [drop_get h,forM]
 split
 ·rw [List.flatMap_cons]
 ·rfl
theorem restR_end {e:Int} {mm:List Int} {rl:List Rl} {f:Nat} {list:List Int} {a i:Nat} (h:rl.length ≤ i):restR e mm rl f list a i = []:=by
 unfold restR
 rw [List.drop_eq_nil_of_le h];rfl
theorem restR_all {e:Int} {mm:List Int} {rl:List Rl} {f:Nat} {list:List Int} {a:Nat} (h:firstE e list = some a):restR e mm rl f list a 0 = derG e (okM mm) rl (f + 1) list:=by
 unfold restR
 rw [derG,h];rfl
theorem len_wt (e:Int):∀ l:List Int,l.length ≤ wtF e l
 | []=>Nat.le_refl _
 | x :: l=>by
  have:=len_wt e l
  have h1:=wt_pos e x
  have:wtF e (x :: l) = wtM e x + wtF e l:=by unfold wtF;simp
  rw [List.length_cons]
  omega
def DerP (e:Int) (ss lv:PV) (mm:List Int) (zr:Z) (rz:List Rz) (id k0:Nat) (f:Nat):Prop :=
 ∀ (zl:Z) (list l:List Int) (d:Nat) (z:Bool) (low low' B0:List Box) (K:Nat) (b:Bool),zl ≠ .n→list ≠ []→f ≤ 20000→(∀ x ∈ list,0 ≤ x∧x < mm.length)→wtF e list < f→(firstE e list = none→1 ≤ d)→d ≤ l.length→l.length ≤ 100000→d + f ≤ 100000→(z = true→l = []) →
  low.length = k0→k0 + (4 + B0.length) = K→OwnOk 0 low→(∀ x ∈ B0,x.Lt K)→FoldR (YR Tryz.prog id) (resD (l.take d) (derG e (okM mm) (rz.map (·.2)) f list)) low b low' →
  ∃ v' z' l',(b = true→v' = .pf (k0 + 3) d l'.length∧l'.take d = l.take d∧d ≤ l'.length∧l'.length ≤ 100000∧(z' = true→l' = []))∧Pv.Lt (k0 + 4) v' ∧
   CallOk Tryz.prog 199 [.sl zl (list.map ii),.ip (toldC e ss (.sl zr (rz.map encRz)) mm lv),.bp k0 0,.bp (k0 + 1) 0,.bp (k0 + 2) 0] (stk id (.fn (.func 199) [] [.ip (toldC e ss (.sl zr (rz.map encRz)) mm lv),.bp k0 0,.bp (k0 + 1) 0,.bp (k0 + 2) 0]) B0 low (.pf (k0 + 3) d l.length) z (l.map ii) []) (.ret (.bool b))
    (stk id (.fn (.func 199) [] [.ip (toldC e ss (.sl zr (rz.map encRz)) mm lv),.bp k0 0,.bp (k0 + 1) 0,.bp (k0 + 2) 0]) B0 low' v' z' (l'.map ii) [])
def rzIn (mm:List Int) (rz:List Rz):Bool:=rz.all fun q=>zOk q.1 (q.2.to.map ii) && decide (1 ≤ q.2.to.length) && decide (q.2.to.length ≤ 4) && q.2.to.all fun x=>decide (q.2.frm < x∧0 ≤ x∧x < mm.length)
theorem rzIn_at {mm:List Int} {rz:List Rz} (h:rzIn mm rz = true) {q:Rz} (hq:q ∈ rz):zOk q.1 (q.2.to.map ii) = true∧1 ≤ q.2.to.length∧q.2.to.length ≤ 4∧∀ x ∈ q.2.to,q.2.frm < x∧0 ≤ x∧x < mm.length:=by
 have:=List.all_eq_true.1 h q hq
 simp only [Bool.and_eq_true,decide_eq_true_eq] at this
 exact ⟨this.1.1.1,this.1.1.2,this.1.2,fun x hx=>of_decide_eq_true (List.all_eq_true.1 this.2 x hx)⟩
def putL (l:List Int) (d:Nat) (i:Int):List Int:=if d = l.length then l ++ [i] else l.set d i
theorem putL_take {l:List Int} {d:Nat} {i:Int} (h:d ≤ l.length):(putL l d i).take (d + 1) = l.take d ++ [i]:=by
 unfold putL
 split
 ·next e=>subst e;rw [List.take_length];exact List.take_of_length_le (by simp)
 ·rw [List.take_add_one,List.take_set_of_le (Nat.le_refl _),List.getElem?_set_self (by omega)];rfl
theorem putL_len {l:List Int} {d:Nat} {i:Int} (h:d ≤ l.length):d + 1 ≤ (putL l d i).length∧(putL l d i).length ≤ max l.length (d + 1):=by
 unfold putL
 split
 ·next e=>subst e;simp
 ·simp;omega
theorem app_pf {sg:List Box} {id d fid:Nat} {z:Bool} {l:List Int} {x:Int} (hb:sg[id]? = some (.row z 3 1 (l.map ii) false)) (hd:d ≤ l.length) (hz:z = true→l = []) (hl:l.length ≤ 100000) :
 appendC TT sg fid 26 (.pf id d l.length) (.sl .f [ii x]) = some (.pf id (d + 1) (putL l d x).length,some (id,.row false 3 1 ((putL l d x).map ii) false)):=by
 have r1:(l.length + 1) * 8 ≤ 140737488355328:=by omega
 have r2:l.length + 1 ≤ maxLen:=by unfold maxLen;omega
 by_cases hde:d = l.length
 ·have hp:putL l d x = l ++ [x]:=by unfold putL;rw [if_pos hde]
  rw [hp,hde]
  simp only [hb,r1,r2,List.length_map,List.map_append,go_sem]
 ·have hp:putL l d x = l.set d x:=by unfold putL;rw [if_neg hde]
  have hz0:z = false:=by
   cases z with
   | false=>rfl
   | true=>rw [hz rfl] at hd hde;simp at hd hde;omega
  subst hz0
  have hdl:d + 1 ≤ l.length:=by omega
  have hsp:(l.map ii).take d ++ ii x :: (l.map ii).drop (d + 1) = (l.set d x).map ii:=by
   rw [List.map_set,List.set_eq_take_append_cons_drop,if_pos (by rw [List.length_map];omega)]
  rw [hp]
  simp only [hb,hde,hdl,hsp,List.length_map,go_sem]
theorem call_stk {id:Nat} {fnv v:PV} {B0 lw C:List Box} {z:Bool} {es0:List PV} {k0 K:Nat} (hk:lw.length = k0) (hK:k0 + (4 + B0.length) = K) {f:FuncId} {p m k:Nat} {e:TypeId} {es rest:List PV} {r:PRes} {sg':List Box} (hp:C[p]? = some (.row false e k es false)) (hc:closedL es = true) (hm:es.length = m)
 (hr:∀ sg,mapO (viewV sg) rest = some rest) (h:CallOk Tryz.prog f (.sl .a es :: rest) (stk id fnv B0 lw v z es0 (C.set p (.row false e k es true))) r sg'):CallOk Tryz.prog f (.ms (K + p) m :: rest) (stk id fnv B0 lw v z es0 C) r sg':=by
 have e1:∀ C,stk id fnv B0 lw v z es0 C = (lw ++ ([.var [.yl id] false,.var [v] false,.var [fnv] false,.row z 3 1 es0 false] ++ B0)) ++ C:=fun C=>by unfold stk;simp only [List.append_assoc]
 rw [e1] at h ⊢
 exact call_frz (by simp only [List.length_append,List.length_cons,List.length_nil];omega) hp hc hm hr h
theorem stk_run {id:Nat} {fnv v v':PV} {B0 lw lw1 C C':List Box} {z z':Bool} {es es':List PV} {k0 K:Nat} {L:List (List PV)} {b:Bool} (hf:FoldR (YR Tryz.prog id) L lw b lw1) (hk:lw.length = k0) (hK:k0 + (4 + B0.length) = K) (hid:id < k0) (hv:Pv.Lt K v) (hfn:Pv.Lt K fnv) (hes:closedL es = true) (hB:∀ x ∈ B0,x.Lt K)
 (hc:noLoops C = true) (hc':noLoops C' = true):SameLoops (stk id fnv B0 lw v z es C) (stk id fnv B0 lw1 v' z' es' C'):=by
 have h1:=foldR_same hf (by rw [hk];exact stk_own (z:=z) (C:=[]) hK hid (hv.mono (by simp)) hfn hes hB (fun x hx=>by cases hx))
 have h2:SameLoops (stk id fnv B0 lw v z es []) (stk id fnv B0 lw1 v z es []):=h1
 have h3:=sameLoops_app2 h2 hc hc'
 rw [stkA,stkA] at h3
 exact h3.trans (stk_var id fnv B0 lw1 _ v v' z z' es es')
theorem cat3 (a b c:Qi):catQ [a,b,c] = a.2 ++ b.2 ++ c.2:=by unfold catQ;simp
end Go.Pv
namespace Go.Pv
open Go Go.RowKit Go.Proofs
def padT (g:Nat × Nat→Nat) (m:Nat) (suf:List (Nat × Nat)):List Int:=List.replicate m 0 ++ suf.map fun p=>(g p:Int)
theorem padT_len (g:Nat × Nat→Nat) (m:Nat) (suf:List (Nat × Nat)):(padT g m suf).length = m + suf.length:=by unfold padT;simp
theorem padT_zero {g:Nat × Nat→Nat} (h:g (0,0) = 0) (m:Nat) (suf:List (Nat × Nat)):padT g (m + 1) suf = padT g m ((0,0) :: suf):=by
 unfold padT
 rw [List.replicate_succ',List.map_cons,h,List.append_assoc]
 rfl
theorem padT_set (g:Nat × Nat→Nat) (m:Nat) (a a':Nat × Nat) (suf:List (Nat × Nat)):(padT g m (a :: suf)).set m (g a') = padT g m (a' :: suf):=by
 unfold padT
 rw [List.set_append_right _ _ (by simp)]
 simp
theorem padT_at (g:Nat × Nat→Nat) (m:Nat) (a:Nat × Nat) (suf:List (Nat × Nat)):(padT g m (a :: suf)).getD m 0 = g a:=by
 unfold padT
 rw [List.getD_eq_getElem?_getD,List.getElem?_append_right (by simp)]
 simp
theorem padT_get {g:Nat × Nat→Nat} (h:g (0,0) = 0) (m:Nat) (a:Nat × Nat) (suf:List (Nat × Nat)) (x:Int) (hx:(m:Int) < x):(padT g m (a :: suf)).getD x.toNat 0 = g (motT suf (m + 1) x):=by
 unfold padT motT
 rw [List.getD_eq_getElem?_getD,List.getElem?_append_right (by simp;omega),List.length_replicate]
 rw [show x.toNat - m = (x.toNat - (m + 1)) + 1 by omega,List.map_cons,List.getElem?_cons_succ,List.getElem?_map,List.getD_eq_getElem?_getD]
 cases suf[x.toNat - (m + 1)]? with
 | none=>simp [h]
 | some p=>rfl
theorem ends_pad (m:Nat) (a:Nat × Nat) (suf:List (Nat × Nat)) (r:Rl) (hr:∀ x ∈ r.to,(m:Int) < x):endsM (padT Prod.fst m (a :: suf)) r.to = endsT suf (m + 1) r:=by
 unfold endsM endsT
 have key:∀ l:List Int,(∀ x ∈ l,(m:Int) < x)→(!(l.any fun x=>decide ((padT Prod.fst m (a :: suf)).getD x.toNat 0 = 0))) = l.all fun x=>decide ((motT suf (m + 1) x).1 ≠ 0):=by
  intro l
  induction l with
  | nil=>intro _;rfl
  | cons x l ih =>
   intro h
   rw [List.any_cons,List.all_cons,Bool.not_or,ih fun y hy=>h y (List.mem_cons_of_mem _ hy),padT_get rfl m a suf x (h x List.mem_cons_self)]
   congr 1
   by_cases h1:(motT suf (m + 1) x).1 = 0
   ·simp [h1]
   ·have:((motT suf (m + 1) x).1:Int) ≠ 0:=by omega
    simp [h1,this]
 exact key r.to hr
theorem waysI_cast (l:List Nat):waysI (l.map fun (n:Nat)=>(n:Int)) = (prodC (min 1000) l:Nat):=by
 have key:∀ (l:List Nat) (n:Nat),(l.map fun (n:Nat)=>(n:Int)).foldl (fun n x=>min 1000 (n * x)) (n:Int) = ((l.foldl (fun n x=>min 1000 (n * x)) n:Nat):Int):=by
  intro l
  induction l with
  | nil=>intro n;rfl
  | cons x l ih =>
   intro n
   rw [List.map_cons,List.foldl_cons,List.foldl_cons]
   have:min 1000 ((n:Int) * (x:Int)) = ((min 1000 (n * x):Nat):Int):=by
    rw [← Int.natCast_mul];omega
   rw [this]
   exact ih _
 exact key l 1
theorem mot_bd {suf:List (Nat × Nat)} {c d:Nat} (h:∀ p ∈ suf,p.1 ≤ c∧p.2 ≤ d) (m:Nat) (x:Int):(motT suf m x).1 ≤ c∧(motT suf m x).2 ≤ d:=by
 unfold motT
 rw [List.getD_eq_getElem?_getD]
 cases hg:suf[x.toNat - m]? with
 | none=>exact ⟨Nat.zero_le _,Nat.zero_le _⟩
 | some p=>exact h p (List.mem_of_getElem? hg)
theorem sum_bd {α:Type} {d:Nat} (f:α→Nat):∀ l:List α,(∀ x ∈ l,f x ≤ d)→(l.map f).sum ≤ l.length * d
 | [],_=>by simp
 | a :: l,h=>by
  have h1:=h a List.mem_cons_self
  have h2:=sum_bd f l fun x hx=>h x (List.mem_cons_of_mem _ hx)
  rw [List.map_cons,List.sum_cons,List.length_cons,Nat.add_mul,Nat.one_mul]
  omega
theorem rule_bd {m d:Nat} {suf:List (Nat × Nat)} {a:Nat × Nat} {r:Rl} (hs:∀ p ∈ suf,p.1 ≤ 1000∧p.2 ≤ d) (hr:r.to.length ≤ 4) (ha:a.1 ≤ 1000∧a.2 ≤ 4 * d):(ruleT (min 1000) id m suf a r).1 ≤ 1000∧(ruleT (min 1000) id m suf a r).2 ≤ 4 * d:=by
 unfold ruleT
 split
 ·have h1:=sum_bd (d:=d) (fun x=>(motT suf (m + 1) x).2) r.to fun x _=>(mot_bd hs _ x).2
  have h2:r.to.length * d ≤ 4 * d:=Nat.mul_le_mul_right _ hr
  refine ⟨Nat.min_le_left _ _,?_⟩
  simp only [id]
  omega
 ·exact ha
theorem cell_bd {m d:Nat} {suf:List (Nat × Nat)} (hs:∀ p ∈ suf,p.1 ≤ 1000∧p.2 ≤ d):∀ (rl:List Rl) (a:Nat × Nat),(∀ r ∈ rl,r.to.length ≤ 4)→a.1 ≤ 1000∧a.2 ≤ 4 * d→(rl.foldl (ruleT (min 1000) id m suf) a).1 ≤ 1000∧(rl.foldl (ruleT (min 1000) id m suf) a).2 ≤ 4 * d
 | [],a,_,ha=>ha
 | r :: rl,a,hr,ha=>cell_bd hs rl _ (fun x hx=>hr x (List.mem_cons_of_mem _ hx)) (rule_bd hs (hr r List.mem_cons_self) ha)
theorem tab_bd {e n:Nat} {rl:List Rl} (hr:∀ r ∈ rl,r.to.length ≤ 4):∀ k,∀ p ∈ tabT (min 1000) id e n rl k,p.1 ≤ 1000∧p.2 ≤ 4 ^ k
 | 0,p,h=>by cases h
 | k + 1,p,h=>by
  have ih:=tab_bd (e:=e) (n:=n) hr k
  have h4:4 ^ (k + 1) = 4 * 4 ^ k:=by rw [Nat.pow_succ,Nat.mul_comm]
  have h1:1 ≤ 4 ^ k:=Nat.pow_pos (by omega)
  rw [tabT] at h
  rcases List.mem_cons.1 h with rfl | h
  ·split
   ·exact ⟨by omega,by omega⟩
   ·rw [h4]
    exact cell_bd ih rl (0,0) hr ⟨by omega,by omega⟩
  ·have:=ih p h
   omega
theorem rule_pad {m:Nat} {a:Nat × Nat} {suf:List (Nat × Nat)} {r:Rl} (hf:r.frm = m) (hr:∀ x ∈ r.to,(m:Int) < x) (he:endsT suf (m + 1) r = true) :
 ((ruleT (min 1000) id m suf a r).1:Int) = min 1000 ((a.1:Int) + waysI (r.to.map fun x=>(padT Prod.fst m (a :: suf)).getD x.toNat 0)) ∧
 ((ruleT (min 1000) id m suf a r).2:Int) = max (a.2:Int) ((r.to.map fun x=>(padT Prod.snd m (a :: suf)).getD x.toNat 0).sum):=by
 unfold ruleT
 rw [if_pos ⟨hf,he⟩]
 have h1:(r.to.map fun x=>(padT Prod.fst m (a :: suf)).getD x.toNat 0) = (r.to.map fun x=>(motT suf (m + 1) x).1).map fun (n:Nat)=>(n:Int):=by
  rw [List.map_map]
  exact List.map_congr_left fun x hx=>padT_get rfl m a suf x (hr x hx)
 have h2:(r.to.map fun x=>(padT Prod.snd m (a :: suf)).getD x.toNat 0) = (r.to.map fun x=>(motT suf (m + 1) x).2).map fun (n:Nat)=>(n:Int):=by
  rw [List.map_map]
  exact List.map_congr_left fun x hx=>padT_get rfl m a suf x (hr x hx)
 have h3:∀ l:List Nat,(l.map fun (n:Nat)=>(n:Int)).sum = ((l.sum:Nat):Int):=by
  intro l
  induction l with
  | nil=>rfl
  | cons a l ih=>rw [List.map_cons,List.sum_cons,List.sum_cons,ih];omega
 rw [h1,h2,waysI_cast,h3]
 simp only [id]
 omega
theorem sumI_bd {D:Int}:∀ l:List Int,(∀ x ∈ l,0 ≤ x∧x ≤ D)→0 ≤ l.sum∧l.sum ≤ l.length * D
 | [],_=>by simp
 | a :: l,h=>by
  have h1:=h a List.mem_cons_self
  have h2:=sumI_bd l fun x hx=>h x (List.mem_cons_of_mem _ hx)
  have h3:((l.length + 1:Nat):Int) * D = (l.length:Int) * D + D:=by
   rw [Int.natCast_add,Int.add_mul];simp
  rw [List.sum_cons,List.length_cons,h3]
  omega
theorem sum_take {f:Int→Int} {l:List Int} {i:Nat} {x:Int} (h:l[i]? = some x):((l.take (i + 1)).map f).sum = ((l.take i).map f).sum + f x:=by
 rw [List.take_add_one,h]
 simp
theorem map_take {f:Int→Int} {l:List Int} {i:Nat} {x:Int} (h:l[i]? = some x):(l.take (i + 1)).map f = (l.take i).map f ++ [f x]:=by
 rw [List.take_add_one,h]
 simp
theorem c148_at {L:List Int} {sg:List Box} (h1:L.length ≤ 1000) (h2:∀ x ∈ L,0 ≤ x∧x ≤ 1000):c148 [.sl .a (L.map ii)] sg = some (.ret (ii (waysI L)),sg):=by
 show (match decIs1 (.sl .a (L.map ii)) with | some l=>if l.length ≤ 1000∧(l.all fun x=>decide (0 ≤ x∧x ≤ 1000)) = true then some (PRes.ret (ii (waysI l)),sg) else none | none=>none) = _
 rw [decIs1_enc rfl]
 exact if_pos ⟨h1,List.all_eq_true.2 fun x hx=>decide_eq_true (h2 x hx)⟩
end Go.Pv
