/- General: lists of numbers; what is read out of values; variables that are frozen; rows that are left. -/
import Derived.IntWalk
import Derived.Test.YtkjalecddameoaaGreatDoorQdWalk
import Derived.Test.YtkjalecddameoaaGreatDoorQePlain
import Derived.Test.YtkjalecddameoaaGreatDoorQeRow
set_option linter.all false
namespace Go.Pv
open Go Go.RowKit Go.Proofs
set_option maxRecDepth 200000
set_option maxHeartbeats 8000000
attribute [go_sem] stepOY
def decI:PV→Option Int
 | .int .i64 a=>some a
 | _=>none
def decL {α:Type} (f:PV→Option α):List PV→Option (List α)
 | []=>some []
 | x :: r=>match f x,decL f r with
  | some a,some l=>some (a :: l)
  | _,_=>none
theorem decL_map {α:Type} {f:PV→Option α} {g:α→PV} (h:∀ a,f (g a) = some a):∀ l:List α,decL f (l.map g) = some l
 | []=>rfl
 | a :: l=>by simp [decL,h,decL_map h l]
theorem decL_inv {α:Type} {f:PV→Option α} {g:α→PV} (h:∀ x a,f x = some a→x = g a):∀ {es:List PV} {l:List α},decL f es = some l→es = l.map g
 | [],l,e=>by cases e;rfl
 | x :: r,l,e=>by
  unfold decL at e
  split at e <;> cases e
  rename_i a l' h1 h2
  rw [h x a h1,decL_inv h h2];rfl
theorem decI_enc (n:Int):decI (ii n) = some n:=rfl
theorem decI_inv (x:PV) (a:Int) (h:decI x = some a):x = ii a:=by
 unfold decI at h
 split at h <;> cases h
 rfl
theorem decIs (l:List Int):decL decI (l.map ii) = some l:=decL_map decI_enc l
theorem ltBL_map {α:Type} {g:α→PV} {m:Nat} (h:∀ a,(g a).ltB m = true):∀ l:List α,ltBL m (l.map g) = true
 | []=>rfl
 | a :: l=>by show ((g a).ltB m && ltBL m (l.map g)) = true;rw [h,ltBL_map h l];rfl
theorem ltB_is (m:Nat) (l:List Int):ltBL m (l.map ii) = true:=ltBL_map (fun _=>rfl) l
theorem ltB_sl (m:Nat) (z:Z) (es:List PV):(PV.sl z es).ltB m = ltBL m es:=rfl
theorem ltB_agg (m:Nat) (es:List PV):(PV.agg es).ltB m = ltBL m es:=rfl
theorem ltBL_cons (m:Nat) (x:PV) (es:List PV):ltBL m (x :: es) = (x.ltB m && ltBL m es):=rfl
theorem named:Named Tryz.prog:=by
 have h:(Tryz.prog.funcs.toList.all fun fn=>!(fn.name == "runtime.NumGoroutine")) = true:=by kernel_rfl
 intro f fn hf
 have:=List.all_eq_true.1 h fn (List.mem_of_getElem? (by simpa using hf))
 simpa using this
theorem ent {f:FuncId} {fn:Func} {c:Code} (hf:Tryz.prog.funcs[f]? = some fn) (hb:fn.body = some c):Enters Tryz.prog f:=enters_of hf hb (named f fn hf)
theorem wrap_id {n:Int} (h1:-9223372036854775808 ≤ n) (h2:n ≤ 9223372036854775807):IntKind.i64.wrap n = n:=IntWalk.i64_in n ⟨h1,h2⟩
theorem drop_get {α:Type} {l:List α} {i:Nat} {x:α} (h:l[i]? = some x):l.drop i = x :: l.drop (i + 1):=by
 obtain ⟨hl,e⟩:=List.getElem?_eq_some_iff.1 h
 rw [List.drop_eq_getElem_cons hl,e]
theorem map_get {α β:Type} {f:α→β} {l:List α} {i:Nat} {x:α} (h:l[i]? = some x):(l.map f)[i]? = some (f x):=by simp [h]
def zOk (z:Z) (es:List PV):Bool :=
 match z with
 | .n=>es.isEmpty
 | _=>true
theorem zOk_map {α:Type} {z:Z} {g:α→PV} {l:List α} (h:zOk z (l.map g) = true):z = .n→l = []:=by
 rintro rfl
 cases l with
 | nil=>rfl
 | cons a l=>cases h
theorem bne_true {a b:Int} (h:a ≠ b):(a != b) = true:=by simp [h]
theorem decide_step {α:Type} [DecidableEq α] {a b:List α} {i:Nat} {x y:α} (hx:a[i]? = some x) (hy:b[i]? = some y):decide (a.drop i = b.drop i) = (decide (x = y) && decide (a.drop (i + 1) = b.drop (i + 1))):=by
 rw [drop_get hx,drop_get hy,Bool.eq_iff_iff];simp
def decIs1:PV→Option (List Int)
 | .sl z es=>if zOk z es = true then decL decI es else none
 | _=>none
theorem decIs1_inv {v:PV} {l:List Int} (h:decIs1 v = some l):∃ z,v = .sl z (l.map ii)∧(z = .n→l = []):=by
 unfold decIs1 at h
 split at h <;> try (cases h;done)
 split at h <;> try (cases h;done)
 rename_i hz
 obtain rfl:=decL_inv decI_inv h
 exact ⟨_,rfl,zOk_map hz⟩
theorem decIs1_enc {z:Z} {l:List Int} (hz:zOk z (l.map ii) = true):decIs1 (.sl z (l.map ii)) = some l:=by
 show (if zOk z (l.map ii) = true then decL decI (l.map ii) else none) = some l
 rw [if_pos hz,decIs]
theorem ltB_isl (z:Z) (l:List Int) (m:Nat):(PV.sl z (l.map ii)).ltB m = true:=ltB_is m l
theorem leaveC_row {id:Nat} {e:TypeId} {k:Nat} {es:List PV} {sg:List Box} (h:sg[id]? = some (.row false e k es false)) (hc:closedL es = true) {m:Nat}:leaveC 0 (.ms id m) sg = (.ms 0 m,[.row false e k es false]):=by
 unfold leaveC
 have h1:(PV.ms id m).ltB 0 = false:=rfl
 rw [if_neg (by rw [h1];simp)]
 simp only [h]
 have hq:frzL (frzX (some 0) 6) sg (flat es) = (flat es,sg):=frzL_closed (n:=5) (flat es) sg (closedL_flat es hc)
 simp only [hq,regroup_self]
 have ho:openRow sg id = true:=by unfold openRow;rw [h]
 rw [if_pos ⟨by simp,ltBL_of_closed 0 es hc,by simp,ho⟩]
 simp
theorem closedL_is (l:List Int):closedL (l.map ii) = true:=closedL_map (fun _=>rfl) l
theorem all_mi (l:List Int) (p:PV→Bool):(l.map ii).all p = l.all fun x=>p (ii x):=by rw [List.all_map];rfl
theorem all_t {α:Type} (l:List α):(l.all fun _=>true) = true:=by simp
theorem Ghost.fzVar (t id:Nat) {tm tm':List (Nat × PV)} {n:Nat} {sg sg':List Box} {cs:List PV} (h:getT tm t = some (.bp id 0)) (hb:sg[id]? = some (.var cs false)) (e1:sg.set id (.var cs true) = sg') (e2:putT tm t (.ip cs) = tm'):Ghost ⟨tm,n,sg⟩ ⟨tm',n,sg'⟩:=by
 refine ⟨by rw [← e1];simp,fun r G a w db hs=>?_⟩
 obtain ⟨u,hu,hru⟩:=hs.tm t _ h
 obtain ⟨G1,a1,a2,a3,a4,_⟩:=frz1_ok hs.rel (some 0) hru
 have e:frz1 (some 0) sg (.bp id 0) = (.ip cs,sg'):=by
  unfold frz1
  simp [hb,e1]
 have a1:Rel G1 (frz1 (some 0) sg (.bp id 0)).2 w:=a1
 have a4:Rep G1 (frz1 (some 0) sg (.bp id 0)).1 u:=a4
 rw [e] at a1 a4
 refine ⟨G1,⟨a1,fun s x hx=>?_,hs.n,by rw [a3];exact hs.dfr,fun l hl=>?_⟩,a2.leM _⟩
 ·have hxx:getT tm' s = some x:=hx
  clear hx
  rw [← e2,getT_putT] at hxx
  split at hxx
  ·rename_i hst
   subst hst
   cases hxx
   exact ⟨u,hu,a4⟩
  ·obtain ⟨y,hy,hr⟩:=hs.tm s x hxx
   exact ⟨y,hy,hr.mono a2⟩
 ·obtain ⟨i,d,lr,h1,h2⟩:=hs.rd l hl
  obtain ⟨s',e3,hle⟩:=a2.rho i _ h1
  cases s' <;> simp only [Slot.le] at hle
  obtain ⟨rfl,rfl⟩:=hle
  refine ⟨i,d,lr,e3,?_⟩
  have h2:sg[i]? = some (.loop lr):=h2
  show sg'[i]? = _
  rw [← e1]
  by_cases hi:id = i
  ·subst hi
   rw [hb] at h2
   cases h2
  ·rw [List.getElem?_set_ne hi]
   exact h2
theorem RunQ.fzVar {P:Program} {c:Code} {Q:Out→St→Prop} (t id:Nat) {tm tm':List (Nat × PV)} {n:Nat} {sg sg':List Box} {cs:List PV} (h:getT tm t = some (.bp id 0)) (hb:sg[id]? = some (.var cs false)) (e1:sg.set id (.var cs true) = sg') (e2:putT tm t (.ip cs) = tm') (hq:RunQ P c ⟨tm',n,sg'⟩ Q):RunQ P c ⟨tm,n,sg⟩ Q :=
 RunQ.pre (Ghost.fzVar t id h hb e1 e2) hq
abbrev Qi:=Z × List Int
def encQ (q:Qi):PV:=.sl q.1 (q.2.map ii)
def decQ:PV→Option Qi
 | .sl z es=>match decL decI es with
  | some l=>some (z,l)
  | none=>none
 | _=>none
theorem decQ_inv (x:PV) (q:Qi) (h:decQ x = some q):x = encQ q:=by
 unfold decQ at h
 split at h <;> try (cases h;done)
 split at h <;> cases h
 rename_i h1
 obtain rfl:=decL_inv decI_inv h1
 rfl
theorem decQ_enc (q:Qi):decQ (encQ q) = some q:=by
 show (match decL decI (q.2.map ii) with | some l=>some (q.1,l) | none=>none) = some q
 rw [decIs]
theorem decQs (L:List Qi):decL decQ (L.map encQ) = some L:=decL_map (g:=encQ) decQ_enc L
theorem closed_Q (q:Qi):(encQ q).closed = true:=closedL_is q.2
theorem closedL_Qs (L:List Qi):closedL (L.map encQ) = true:=closedL_map closed_Q L
theorem ltB_Qs (m:Nat) (L:List Qi):ltBL m (L.map encQ) = true:=ltBL_of_closed m _ (closedL_Qs L)
def qsB (L:List Qi):Bool:=L.all fun q=>zOk q.1 (q.2.map ii)
theorem ConOk.of0P {P:Program} {f:FuncId} {c:List PV→List Box→Option (PRes × List Box)} (he:Enters P f) (h:∀ args sg r sg',c args sg = some (r,sg')→sg' = sg∧ltBL 0 args = true∧CallOk P f args [] r []):ConOk P f c:=by
 intro args sg r sg' e
 obtain ⟨rfl,hl,hc⟩:=h args sg r sg' e
 cases r with
 | ret v=>exact ⟨he,hc.frame (lt_of_ltBL 0 args hl) sg',SameLoops.refl _⟩
 | pan v=>exact ⟨he,hc.framePan (lt_of_ltBL 0 args hl) sg',SameLoops.refl _⟩
theorem foldR_same {P:Program} {id:Nat} {own:List Box}:∀ {L:List (List PV)} {low low':List Box} {b:Bool},FoldR (YR P id) L low b low'→OwnOk low.length own→SameLoops (low ++ own) (low' ++ own)
 | [],_,_,_,h,ho=>by cases h;exact SameLoops.refl _
 | e :: L,_,_,_,h,ho=>by
  cases h with
  | stop h=>exact (h.2.2 own ho).2
  | next h k=>exact (h.2.2 own ho).2.trans (foldR_same k (by rw [h.1];exact ho))
theorem own_lt {low own:List Box} (h:OwnOk 0 low) (k:OwnOk low.length own):∀ b ∈ low ++ own,b.Lt (low ++ own).length:=fun b hb=>by
 rw [List.length_append]
 rcases List.mem_append.1 hb with hb | hb
 ·exact (h b hb).mono (by omega)
 ·exact k b hb
theorem call_frz {f:FuncId} {S B:List Box} {k0 p m k:Nat} {e:TypeId} {es rest:List PV} {r:PRes} {sg':List Box} (hk:S.length = k0) (hp:B[p]? = some (.row false e k es false)) (hc:closedL es = true) (hm:es.length = m)
 (hr:∀ sg,mapO (viewV sg) rest = some rest) (h:CallOk Tryz.prog f (.sl .a es :: rest) (S ++ B.set p (.row false e k es true)) r sg'):CallOk Tryz.prog f (.ms (k0 + p) m :: rest) (S ++ B) r sg':=by
 subst hk
 have hget:(S ++ B)[S.length + p]? = some (.row false e k es false):=by rw [app_get];exact hp
 have hrows:rowsOf (S ++ B) [S.length + p] = S ++ B.set p (.row false e k es true):=by
  unfold rowsOf
  simp only [hget,rowsOf]
  rw [frzL_closed (n:=4) (flat es) _ (closedL_flat es hc)]
  simp only [regroup_self]
  exact app_set _ _ _ _
 refine h.ghost ?_ ?_
 ·have:=Ghost.rows [S.length + p] (S ++ B) ⟨argT 0 (.ms (S.length + p) m :: rest),(PV.ms (S.length + p) m :: rest).length,S ++ B⟩ rfl
  rw [hrows] at this
  exact this
 ·have hv:viewV (S ++ B.set p (.row false e k es true)) (.ms (S.length + p) m) = some (.sl .a es):=by
   show view1 _ (.ms (S.length + p) m) = _
   have hg2:(S ++ B.set p (.row false e k es true))[S.length + p]? = some (.row false e k es true):=by rw [app_get,List.getElem?_set_self (List.getElem?_eq_some_iff.1 hp).1]
   unfold view1
   simp [hg2,hm]
  simp only [mapO,hv,hr]
open Classical in
noncomputable def cfAt (cf:CallF) (g:FuncId) (args:List PV) (v:PV):CallF:=fun g1 a1 s1=>if g1 = g∧a1 = args then some (.ret v,s1) else cf g1 a1 s1
theorem cfAt_ok {P:Program} {cf:CallF} (h:CallFOk P cf) {g:FuncId} {args:List PV} {v:PV} (he:Enters P g) (hc:CallOk P g args [] (.ret v) []) (hl:ltBL 0 args = true):CallFOk P (cfAt cf g args v):=by
 intro f a s r1 s1 e
 unfold cfAt at e
 split at e
 ·rename_i hh
  obtain ⟨rfl,rfl⟩:=hh
  cases e
  exact ⟨he,hc.frame (lt_of_ltBL 0 _ hl) _,SameLoops.refl _⟩
 ·exact h _ _ _ _ _ e
theorem Ghost.freezeZ (t id:Nat) {tm tm':List (Nat × PV)} {n m k:Nat} {e:TypeId} {sg sg':List Box} {z:Bool} {es:List PV} (h:getT tm t = some (.ms id m)) (hb:sg[id]? = some (.row z e k es false))
 (hm:es.length = m) (hc:closedL es = true) (e1:sg.set id (.row z e k es true) = sg') (e2:putT tm t (.sl (if z = true then .n else .a) es) = tm'):Ghost ⟨tm,n,sg⟩ ⟨tm',n,sg'⟩:=by
 have hrows:rowsOf sg [id] = sg':=by
  unfold rowsOf
  simp only [hb,rowsOf]
  rw [frzL_closed (n:=4) (flat es) sg (closedL_flat es hc)]
  simp only [regroup_self]
  exact e1
 have hid:sg'[id]? = some (.row z e k es true):=by
  rw [← e1]
  exact List.getElem?_set_self (List.getElem?_eq_some_iff.1 hb).1
 have hv:viewV sg' (.ms id m) = some (.sl (if z = true then .n else .a) es):=by
  show view1 sg' (.ms id m) = _
  unfold view1
  simp [hid,hm]
 have g1:Ghost ⟨tm,n,sg⟩ ⟨tm,n,sg'⟩:=by
  have:=Ghost.rows [id] sg ⟨tm,n,sg⟩ rfl
  rw [hrows] at this
  exact this
 have g2:Ghost ⟨tm,n,sg'⟩ ⟨tm',n,sg'⟩:=by
  have:=Ghost.view (n:=n) (sg:=sg') h hv
  rw [e2] at this
  exact this
 exact g1.trans g2
theorem frzX_agr {d:Option Nat} {n:Nat} {sg:List Box} {vs:List PV} (hc:closedL vs = false):frzX d (n + 1) sg (.agg vs) = (.agg (frzL (frzX d n) sg vs).1,(frzL (frzX d n) sg vs).2):=by
 unfold frzX
 rw [if_neg (by simp [PV.closed,hc])]
 rfl
theorem RunQ.freezeZ {P:Program} {c:Code} {Q:Out→St→Prop} (t id:Nat) {tm tm':List (Nat × PV)} {n m k:Nat} {e:TypeId} {sg sg':List Box} {z:Bool} {es:List PV} (h:getT tm t = some (.ms id m)) (hb:sg[id]? = some (.row z e k es false))
 (hm:es.length = m) (hc:closedL es = true) (e1:sg.set id (.row z e k es true) = sg') (e2:putT tm t (.sl (if z = true then .n else .a) es) = tm') (hq:RunQ P c ⟨tm',n,sg'⟩ Q):RunQ P c ⟨tm,n,sg⟩ Q:=by
 have hrows:rowsOf sg [id] = sg':=by
  unfold rowsOf
  simp only [hb,rowsOf]
  rw [frzL_closed (n:=4) (flat es) sg (closedL_flat es hc)]
  simp only [regroup_self]
  exact e1
 have hid:sg'[id]? = some (.row z e k es true):=by
  rw [← e1]
  exact List.getElem?_set_self (List.getElem?_eq_some_iff.1 hb).1
 have hv:viewV sg' (.ms id m) = some (.sl (if z = true then .n else .a) es):=by
  show view1 sg' (.ms id m) = _
  unfold view1
  simp [hid,hm]
 have g1:Ghost ⟨tm,n,sg⟩ ⟨tm,n,sg'⟩:=by
  have:=Ghost.rows [id] sg ⟨tm,n,sg⟩ rfl
  rw [hrows] at this
  exact this
 have g2:Ghost ⟨tm,n,sg'⟩ ⟨tm',n,sg'⟩:=by
  have:=Ghost.view (n:=n) (sg:=sg') h hv
  rw [e2] at this
  exact this
 exact RunQ.pre (g1.trans g2) hq
theorem RegG.freezeZ {P:Program} {T:TypeId→TyI} {me:Meth} {cf:CallF} {ops:Array Oper} {Q:Out→St→Prop} {i:Nat} {os:List Oper} (t id:Nat) {tm tm':List (Nat × PV)} {n m k:Nat} {e:TypeId} {sg sg':List Box} {z:Bool} {es:List PV} (h:getT tm t = some (.ms id m)) (hb:sg[id]? = some (.row z e k es false))
 (hm:es.length = m) (hc:closedL es = true) (e1:sg.set id (.row z e k es true) = sg') (e2:putT tm t (.sl (if z = true then .n else .a) es) = tm') (hq:RegG P me cf T ops i os ⟨tm',n,sg'⟩ Q):RegG P me cf T ops i os ⟨tm,n,sg⟩ Q :=
 RegG.ghost (Ghost.freezeZ t id h hb hm hc e1 e2) hq
theorem RegG.stop {P:Program} {T:TypeId→TyI} {me:Meth} {cf:CallF} {ops:Array Oper} {st st1:St} {Q:Out→St→Prop} {i:Nat} {o:Oper} {os:List Oper} {v:PV} (h:stepO me cf T ops st o = some (.panic v,st1)) (hq:Q (.panic v) st1):RegG P me cf T ops i (o :: os) st Q:=by
 intro hT hcf hme hos
 have hi:ops[i]? = some o:=hos 0 o rfl
 refine ⟨.panic v,st1,?_,hq⟩
 rw [List.length_cons,List.range'_succ]
 unfold stepO at h
 split at h
 ·rename_i hw
  exact RunOps.stop hi hw (by simp) (evOp_ok hT hcf noY_ok hme h)
 ·split at h <;> cases h
 ·cases h
theorem nodup_len {α:Type} [DecidableEq α]:∀ {l m:List α},l.Nodup→(∀ x ∈ l,x ∈ m)→l.length ≤ m.length
 | [],_,_,_=>Nat.zero_le _
 | a :: l,m,hn,hs=>by
  obtain ⟨h1,h2⟩:=List.nodup_cons.1 hn
  have ha:=hs a (List.mem_cons_self ..)
  have ih:=nodup_len (l:=l) (m:=m.erase a) h2 fun x hx=>by
   have hne:x ≠ a:=fun e=>h1 (e ▸ hx)
   exact (List.mem_erase_of_ne hne).2 (hs x (List.mem_cons_of_mem _ hx))
  have:=List.length_erase_of_mem ha
  have hpos:0 < m.length:=List.length_pos_of_mem ha
  rw [List.length_cons]
  omega
theorem roundQ.k {P:Program} {I:Nat→St→Prop} {m i k0:Nat} {Q:Out→St→Prop} {s:St} (ts:List Nat) {tm':List (Nat × PV)} (hi:i < m) (hk:keepN ts s.tm = tm') (h:I (i + 1) ⟨tm',s.n,s.sg⟩):roundQ P I m i k0 Q .normal s :=
 ⟨hi,_,Back.ghost (Ghost.tm (st:=s) (tm':=tm') fun t v e=>by rw [← hk] at e;exact keepN_get e),h⟩
end Go.Pv
namespace Go.Pv
open Go Go.RowKit Go.Proofs
set_option maxRecDepth 10000
set_option maxHeartbeats 4000000
def encSn (x:Sn):PV:=.agg [ii x.part,ii x.least,ii x.most,.bool x.loose,.bool x.formula]
def decSn:PV→Option Sn
 | .agg [.int .i64 a,.int .i64 b,.int .i64 c,.bool d,.bool e]=>some ⟨a,b,c,d,e⟩
 | _=>none
theorem decSn_enc (x:Sn):decSn (encSn x) = some x:=rfl
theorem decSn_inv (x:PV) (a:Sn) (h:decSn x = some a):x = encSn a:=by
 unfold decSn at h
 split at h <;> cases h
 rfl
theorem decSns (l:List Sn):decL decSn (l.map encSn) = some l:=decL_map decSn_enc l
theorem closedL_sns (l:List Sn):closedL (l.map encSn) = true:=closedL_map (fun _=>rfl) l
theorem ltB_sns (m:Nat) (l:List Sn):ltBL m (l.map encSn) = true:=ltBL_map (fun _=>rfl) l
abbrev Rz:=Z × Rl
def encRz (q:Rz):PV:=.agg [ii q.2.frm,.sl q.1 (q.2.to.map ii)]
def decRz:PV→Option Rz
 | .agg [.int .i64 a,.sl z es]=>match decL decI es with
  | some l=>some (z,⟨a,l⟩)
  | none=>none
 | _=>none
theorem decRz_enc (q:Rz):decRz (encRz q) = some q:=by
 show (match decL decI (q.2.to.map ii) with | some l=>some (q.1,(⟨q.2.frm,l⟩:Rl)) | none=>none) = some q
 rw [decIs]
theorem decRz_inv (x:PV) (q:Rz) (h:decRz x = some q):x = encRz q:=by
 unfold decRz at h
 split at h <;> try (cases h;done)
 split at h <;> cases h
 rename_i h1
 obtain rfl:=decL_inv decI_inv h1
 rfl
theorem decRzs (l:List Rz):decL decRz (l.map encRz) = some l:=decL_map decRz_enc l
theorem closed_rz (q:Rz):(encRz q).closed = true:=by
 show (true && (closedL (q.2.to.map ii) && true)) = true
 rw [closedL_is];rfl
theorem closedL_rzs (l:List Rz):closedL (l.map encRz) = true:=closedL_map closed_rz l
theorem ltB_rz (m:Nat) (q:Rz):(encRz q).ltB m = true:=ltB_of_closed m _ (closed_rz q)
theorem ltB_rzs (m:Nat) (l:List Rz):ltBL m (l.map encRz) = true:=ltBL_map (ltB_rz m) l
def rzB (l:List Rz):Bool:=l.all fun q=>zOk q.1 (q.2.to.map ii)
theorem rzB_at {l:List Rz} (h:rzB l = true) {q:Rz} (hq:q ∈ l):zOk q.1 (q.2.to.map ii) = true:=List.all_eq_true.1 h q hq
structure Sty where
 e:Int
 zs:Z
 sc:List Sn
 zr:Z
 rz:List Rz
namespace Sty
def rl (s:Sty):List Rl:=s.rz.map (·.2)
theorem rl_len (s:Sty):s.rl.length = s.rz.length:=List.length_map ..
theorem rl_get {s:Sty} {i:Nat} {q:Rz} (h:s.rz[i]? = some q):s.rl[i]? = some q.2:=map_get h
def ok (s:Sty):Bool:=zOk s.zs (s.sc.map encSn) && zOk s.zr (s.rz.map encRz) && rzB s.rz
theorem ok_s {s:Sty} (h:s.ok = true):zOk s.zs (s.sc.map encSn) = true:=by unfold ok at h;simp only [Bool.and_eq_true] at h;exact h.1.1
theorem ok_r {s:Sty} (h:s.ok = true):zOk s.zr (s.rz.map encRz) = true:=by unfold ok at h;simp only [Bool.and_eq_true] at h;exact h.1.2
theorem ok_z {s:Sty} (h:s.ok = true):rzB s.rz = true:=by unfold ok at h;simp only [Bool.and_eq_true] at h;exact h.2
def parts (s:Sty):Bool:=partsB s.e s.sc s.rl
def story (s:Sty):Bool:=storyB s.e s.sc s.rl
abbrev cells (s:Sty):List PV:=[ii s.e,.sl s.zs (s.sc.map encSn),.sl s.zr (s.rz.map encRz)]
end Sty
def encSt (s:Sty):PV:=.agg s.cells
theorem closed_cells (s:Sty):closedL s.cells = true:=by simp [closedL,PV.closed,closedL_sns,closedL_rzs]
theorem closed_st (s:Sty):(encSt s).closed = true:=closed_cells s
theorem ltB_st (m:Nat) (s:Sty):(encSt s).ltB m = true:=ltB_of_closed m _ (closed_st s)
def decSt:PV→Option Sty
 | .agg [.int .i64 e,.sl zs ss,.sl zr rs]=>match decL decSn ss,decL decRz rs with
  | some sc,some rz=>if (⟨e,zs,sc,zr,rz⟩:Sty).ok = true then some ⟨e,zs,sc,zr,rz⟩ else none
  | _,_=>none
 | _=>none
theorem decSt_inv {v:PV} {s:Sty} (h:decSt v = some s):v = encSt s∧s.ok = true:=by
 unfold decSt at h
 split at h <;> try (cases h;done)
 split at h <;> try (cases h;done)
 rename_i h1 h2
 split at h <;> cases h
 rename_i hok
 obtain rfl:=decL_inv decSn_inv h1
 obtain rfl:=decL_inv decRz_inv h2
 exact ⟨rfl,hok⟩
theorem decSt_cells (s:Sty) (h:s.ok = true):decSt (.agg s.cells) = some s:=by
 show (match decL decSn (s.sc.map encSn),decL decRz (s.rz.map encRz) with | some sc,some rz=>if (⟨s.e,s.zs,sc,s.zr,rz⟩:Sty).ok = true then some ⟨s.e,s.zs,sc,s.zr,rz⟩ else none | _,_=>none) = some s
 rw [decSns,decRzs]
 exact if_pos h
end Go.Pv
namespace Go.Pv
open Go Go.RowKit Go.Proofs
set_option maxRecDepth 10000
set_option maxHeartbeats 4000000
def cin:List PV→List Box→Option (PRes × List Box)
 | [.int .i64 x,.int .i64 a,.int .i64 b],sg=>some (.ret (.bool (inB x a b)),sg)
 | _,_=>none
theorem in_154 (x a b:Int):CallOk Tryz.prog 154 [ii x,ii a,ii b] [] (.ret (.bool (inB x a b))) []:=by
 refine CallOk.of0 hTT Tryz.func154 rfl rfl ?_
 unfold inB
 by_cases h1:a ≤ x <;> by_cases h2:x ≤ b
 all_goals
  repeat (first | (with_reducible (first | apply nx | apply wQ rfl)) | ((with_reducible (first | apply wV | apply wW | apply wX | (apply wy cf0_ok;(focus kernel_rfl))));(focus (simp only [Tryz.f154,ge_iff_le,h1,h2,go_sem];rfl))) | (with_reducible refine wz cf0_ok ?_) | (with_reducible refine wa ?_;refine And.intro ?_ ?_;(focus kernel_rfl)))
  refine ⟨rfl,rfl,_,rfl,?_⟩
  simp only [h1,h2]
  rfl
theorem cin154_ok:ConOk Tryz.prog 154 cin:=ConOk.of0 (ent Tryz.func154 rfl) fun args sg r sg' h=>by
 unfold cin at h
 split at h <;> cases h
 exact ⟨_,rfl,rfl,rfl,in_154 _ _ _⟩
theorem in_77 (x a b:Int):CallOk Tryz.prog 77 [ii x,ii a,ii b] [] (.ret (.bool (inB x a b))) []:=by
 refine CallOk.of0 hTT Tryz.func77 rfl rfl ?_
 unfold inB
 by_cases h1:a ≤ x <;> by_cases h2:x ≤ b
 all_goals
  repeat (first | (with_reducible (first | apply nx | apply wQ rfl)) | ((with_reducible (first | apply wV | apply wW | apply wX | (apply wy cf0_ok;(focus kernel_rfl))));(focus (simp only [Tryz.f77,ge_iff_le,h1,h2,go_sem];rfl))) | (with_reducible refine wz cf0_ok ?_) | (with_reducible refine wa ?_;refine And.intro ?_ ?_;(focus kernel_rfl)))
  refine ⟨rfl,rfl,_,rfl,?_⟩
  simp only [h1,h2]
  rfl
theorem cin77_ok:ConOk Tryz.prog 77 cin:=ConOk.of0 (ent Tryz.func77 rfl) fun args sg r sg' h=>by
 unfold cin at h
 split at h <;> cases h
 exact ⟨_,rfl,rfl,rfl,in_77 _ _ _⟩
theorem Same_29 (za zb:Z) (a b:List Int) (ha:za = .n→a = []) (hb:zb = .n→b = []) (hs:a.length ≤ maxLen):CallOk Tryz.prog 29 [.sl za (a.map ii),.sl zb (b.map ii)] [] (.ret (.bool (decide (a = b)))) []:=by
 refine CallOk.of0 hTT Tryz.func29 rfl rfl ?_
 unfold maxLen at hs
 by_cases hl:a.length = b.length
 ·repeat (first | (with_reducible (first | apply nx | apply wQ rfl)) | ((with_reducible (first | apply wV | apply wW | apply wX | (apply wy cf0_ok;(focus kernel_rfl))));(focus (simp only [Tryz.f29,hl,go_sem];rfl))) | (with_reducible refine wz cf0_ok ?_) | (with_reducible refine wa ?_;refine And.intro ?_ ?_;(focus kernel_rfl)))
  refine RunQ.keep [5,4,1,0] (by simp only [go_sem];rfl) ?_
  refine RunQ.loop (fun i s'=>decide (a = b) = decide (a.drop i = b.drop i)∧s' = ⟨[(5,ii i),(4,.bool false),(0,.sl za (a.map ii)),(1,.sl zb (b.map ii))],26,[]⟩) b.length ⟨rfl,rfl⟩ ?_
  rintro i _ hi ⟨hm,rfl⟩
  by_cases hlt:i < b.length
  ·obtain ⟨x,hx⟩:∃ x,a[i]? = some x:=⟨_,List.getElem?_eq_getElem (by omega)⟩
   obtain ⟨y,hy⟩:∃ y,b[i]? = some y:=⟨_,List.getElem?_eq_getElem hlt⟩
   have hx':(a.map ii)[i]? = some (ii x):=map_get hx
   have hy':(b.map ii)[i]? = some (ii y):=map_get hy
   have hlt':(i:Int) < b.length:=by omega
   have hza':za ≠ .n:=fun e=>by rw [ha e] at hl;simp at hl;omega
   have hzb':zb ≠ .n:=fun e=>by rw [hb e] at hlt;simp at hlt
   have e4:IntKind.i64.wrap ((i:Int) + 1) = ((i + 1:Nat):Int):=wrap_id (by omega) (by omega)
   by_cases hxy:x = y
   ·have h1:(x != y) = false:=by simp [hxy]
    repeat (first | (with_reducible (first | apply nx | apply wQ rfl)) | ((with_reducible (first | apply wV | apply wW | apply wX | (apply wy cf0_ok;(focus kernel_rfl))));(focus (simp only [Tryz.f29,hl,hx',hy',hlt',hza',hzb',e4,h1,go_sem];rfl))) | (with_reducible refine wz cf0_ok ?_) | (with_reducible refine wa ?_;refine And.intro ?_ ?_;(focus kernel_rfl)))
    refine roundQ.t 0 [5,4,0,1] hlt (by simp only [ltB_is,go_sem]) ⟨by rw [hm,decide_step hx hy,decide_eq_true hxy];rfl,by simp only [go_sem]⟩
   ·have h1:(x != y) = true:=by simp [hxy]
    repeat (first | (with_reducible (first | apply nx | apply wQ rfl)) | ((with_reducible (first | apply wV | apply wW | apply wX | (apply wy cf0_ok;(focus kernel_rfl))));(focus (simp only [Tryz.f29,hl,hx',hy',hlt',hza',hzb',e4,h1,go_sem];rfl))) | (with_reducible refine wz cf0_ok ?_) | (with_reducible refine wa ?_;refine And.intro ?_ ?_;(focus kernel_rfl)))
    refine ⟨rfl,rfl,_,rfl,?_⟩
    rw [hm,decide_step hx hy,decide_eq_false hxy];rfl
  ·have hlt':¬ (i:Int) < b.length:=by omega
   repeat (first | (with_reducible (first | apply nx | apply wQ rfl)) | ((with_reducible (first | apply wV | apply wW | apply wX | (apply wy cf0_ok;(focus kernel_rfl))));(focus (simp only [Tryz.f29,hl,hlt',go_sem];rfl))) | (with_reducible refine wz cf0_ok ?_) | (with_reducible refine wa ?_;refine And.intro ?_ ?_;(focus kernel_rfl)))
   refine ⟨rfl,rfl,_,rfl,?_⟩
   rw [hm,List.drop_eq_nil_of_le (by omega),List.drop_eq_nil_of_le (by omega)];rfl
 ·have hl':((a.length:Int) != (b.length:Int)) = true:=bne_true (by omega)
  repeat (first | (with_reducible (first | apply nx | apply wQ rfl)) | ((with_reducible (first | apply wV | apply wW | apply wX | (apply wy cf0_ok;(focus kernel_rfl))));(focus (simp only [Tryz.f29,hl',go_sem];rfl))) | (with_reducible refine wz cf0_ok ?_) | (with_reducible refine wa ?_;refine And.intro ?_ ?_;(focus kernel_rfl)))
  refine ⟨rfl,rfl,_,rfl,?_⟩
  rw [decide_eq_false (fun e=>hl (by rw [e]))];rfl
def c29s:List PV→List Box→Option (PRes × List Box)
 | [v,w],sg=>match decIs1 v,decIs1 w with
  | some a,some b=>if a.length ≤ maxLen then some (.ret (.bool (decide (a = b))),sg) else none
  | _,_=>none
 | _,_=>none
theorem c29s_ok:ConOk Tryz.prog 29 c29s:=ConOk.of0 (ent Tryz.func29 rfl) fun args sg r sg' h=>by
 unfold c29s at h
 split at h <;> try (cases h;done)
 split at h <;> try (cases h;done)
 rename_i h1 h2
 split at h <;> cases h
 rename_i hc
 obtain ⟨za,rfl,ha⟩:=decIs1_inv h1
 obtain ⟨zb,rfl,hb⟩:=decIs1_inv h2
 exact ⟨_,rfl,rfl,by rw [ltBL_cons,ltB_isl,ltBL_cons,ltB_isl];rfl,Same_29 _ _ _ _ ha hb hc⟩
end Go.Pv
namespace Go.Pv
open Go Go.RowKit Go.Proofs
set_option maxRecDepth 200000
set_option maxHeartbeats 8000000
def idxP {α:Type} (p:α→Bool):List α→Nat→Int
 | [],_=>-1
 | q :: r,i=>if p q = true then (i:Int) else idxP p r (i + 1)
theorem idxP_cons {α:Type} (p:α→Bool) (q:α) (r:List α) (i:Nat):idxP p (q :: r) i = if p q = true then (i:Int) else idxP p r (i + 1):=rfl
theorem idxP_any {α:Type} (p:α→Bool):∀ (L:List α) (i:Nat),decide (0 ≤ idxP p L i) = L.any p
 | [],_=>rfl
 | q :: r,i=>by
  rw [idxP_cons,List.any_cons]
  cases h:p q
  ·rw [if_neg (by simp),Bool.false_or]
   exact idxP_any p r (i + 1)
  ·rw [if_pos rfl]
   simp
theorem index_234 {g:FuncId} {cs:List PV} {S:List Box} (z:Z) (L:List Sn) (p:Sn→Bool) (he:Enters Tryz.prog g) (hS:OwnOk 0 S) (hc:ltBL S.length cs = true) (hz:z = .n→L = []) (hl:L.length ≤ 100000) (h:∀ q ∈ L,CallOk Tryz.prog g (encSn q :: cs) S (.ret (.bool (p q))) S) :
 CallOk Tryz.prog 234 [.sl z (L.map encSn),.fn (.func g) [] cs] S (.ret (ii (idxP p L 0))) S:=by
 have hS':∀ b ∈ S,b.Lt S.length:=fun b hb=>by have:=hS b hb;simpa using this
 refine CallOk.ofB hTT Tryz.func234 rfl rfl ?_ rfl hS' (lt_int _ _ _ |>.2 trivial)
 repeat (with_reducible (first | apply nx | apply wQ rfl | ((first | apply wV | apply wW | apply wX | (apply wy cf0_ok;(focus kernel_rfl)));(focus (simp only [Tryz.f234,go_sem];rfl))) | refine wz cf0_ok ?_ | (refine wa ?_;refine And.intro ?_ ?_;(focus kernel_rfl))))
 refine RunQ.keep [8,7,6,4,0,1] (by simp only [go_sem];rfl) ?_
 refine RunQ.loop (fun i s'=>idxP p L 0 = idxP p (L.drop i) i∧s' = ⟨[(8,ii i),(7,ii L.length),(6,.sl z (L.map encSn)),(4,ii 0),(0,.sl z (L.map encSn)),(1,.fn (.func g) [] cs)],19,S⟩) L.length ⟨rfl,by simp only [go_sem]⟩ ?_
 rintro i _ hi ⟨hm,rfl⟩
 by_cases hlt:i < L.length
 ·obtain ⟨q,hq⟩:∃ q,L[i]? = some q:=⟨_,List.getElem?_eq_getElem hlt⟩
  have hq':(L.map encSn)[i]? = some (.agg [ii q.part,ii q.least,ii q.most,.bool q.loose,.bool q.formula]):=by rw [List.getElem?_map,hq];rfl
  have hlt':(i:Int) < L.length:=by omega
  have hz':z ≠ .n:=fun e=>by rw [hz e] at hlt;simp at hlt
  have e4:IntKind.i64.wrap ((i:Int) + 1) = ((i + 1:Nat):Int):=wrap_id (by omega) (by omega)
  rw [drop_get hq,idxP_cons] at hm
  have hcall:CallOk Tryz.prog g (.agg [ii q.part,ii q.least,ii q.most,.bool q.loose,.bool q.formula] :: cs) S (.ret (.bool (p q))) S:=h q (List.mem_of_getElem? hq)
  cases hpq:p q
  ·rw [hpq] at hm hcall
   repeat (with_reducible (first | apply nx | apply wQ rfl | ((first | apply wV | apply wW | apply wX | (apply wy (cfOne_ok cf0_ok he hcall (SameLoops.refl _));(focus kernel_rfl)));(focus (simp only [Tryz.f234,cfOne,hlt',hq',hz',e4,List.length_map,go_sem];rfl))) | refine wz (cfOne_ok cf0_ok he hcall (SameLoops.refl _)) ?_ | (refine wa ?_;refine And.intro ?_ ?_;(focus kernel_rfl))))
   refine roundQ.k [8,7,6,4,0,1] hlt (by simp only [go_sem];rfl) ⟨by rw [hm];rfl,by simp only [go_sem]⟩
  ·rw [hpq] at hm hcall
   have hm:idxP p L 0 = (i:Int):=hm
   rw [hm]
   repeat (with_reducible (first | apply nx | apply wQ rfl | ((first | apply wV | apply wW | apply wX | (apply wy (cfOne_ok cf0_ok he hcall (SameLoops.refl _));(focus kernel_rfl)));(focus (simp only [Tryz.f234,cfOne,hlt',hq',hz',e4,List.length_map,go_sem];rfl))) | refine wz (cfOne_ok cf0_ok he hcall (SameLoops.refl _)) ?_ | (refine wa ?_;refine And.intro ?_ ?_;(focus kernel_rfl))))
   exact ⟨rfl,SameLoops.refl _,rfl,[],by simp⟩
 ·have hlt':¬ (i:Int) < L.length:=by omega
  rw [hm,List.drop_eq_nil_of_le (by omega)]
  repeat (with_reducible (first | apply nx | apply wQ rfl | ((first | apply wV | apply wW | apply wX | (apply wy cf0_ok;(focus kernel_rfl)));(focus (simp only [Tryz.f234,hlt',List.length_map,go_sem];rfl))) | refine wz cf0_ok ?_ | (refine wa ?_;refine And.intro ?_ ?_;(focus kernel_rfl))))
  exact ⟨rfl,SameLoops.refl _,rfl,[],by simp⟩
theorem contains_195 {g:FuncId} {cs:List PV} {S:List Box} (z:Z) (L:List Sn) (p:Sn→Bool) (he:Enters Tryz.prog g) (hS:OwnOk 0 S) (hc:ltBL S.length cs = true) (hz:z = .n→L = []) (hl:L.length ≤ 100000) (h:∀ q ∈ L,CallOk Tryz.prog g (encSn q :: cs) S (.ret (.bool (p q))) S) :
 CallOk Tryz.prog 195 [.sl z (L.map encSn),.fn (.func g) [] cs] S (.ret (.bool (L.any p))) S:=by
 have hS':∀ b ∈ S,b.Lt S.length:=fun b hb=>by have:=hS b hb;simpa using this
 refine CallOk.ofB hTT Tryz.func195 rfl rfl ?_ rfl hS' (lt_bool _ _ |>.2 trivial)
 have hidx:=index_234 z L p he hS hc hz hl h
 rw [← idxP_any p L 0]
 by_cases h0:0 ≤ idxP p L 0
 ·rw [decide_eq_true h0]
  repeat (with_reducible (first | apply nx | apply wQ rfl | ((first | apply wV | apply wW | apply wX | (apply wy (cfOne_ok cf0_ok (ent Tryz.func234 rfl) hidx (SameLoops.refl _));(focus kernel_rfl)));(focus (simp only [Tryz.f195,cfOne,h0,ge_iff_le,go_sem];rfl))) | refine wz (cfOne_ok cf0_ok (ent Tryz.func234 rfl) hidx (SameLoops.refl _)) ?_ | (refine wa ?_;refine And.intro ?_ ?_;(focus kernel_rfl))))
  exact ⟨rfl,SameLoops.refl _,rfl,[],by simp⟩
 ·rw [decide_eq_false h0]
  repeat (with_reducible (first | apply nx | apply wQ rfl | ((first | apply wV | apply wW | apply wX | (apply wy (cfOne_ok cf0_ok (ent Tryz.func234 rfl) hidx (SameLoops.refl _));(focus kernel_rfl)));(focus (simp only [Tryz.f195,cfOne,h0,ge_iff_le,go_sem];rfl))) | refine wz (cfOne_ok cf0_ok (ent Tryz.func234 rfl) hidx (SameLoops.refl _)) ?_ | (refine wa ?_;refine And.intro ?_ ?_;(focus kernel_rfl))))
  exact ⟨rfl,SameLoops.refl _,rfl,[],by simp⟩
theorem index_235 {g:FuncId} {cs:List PV} {S:List Box} (z:Z) (L:List Rz) (p:Rz→Bool) (he:Enters Tryz.prog g) (hS:OwnOk 0 S) (hc:ltBL S.length cs = true) (hz:z = .n→L = []) (hl:L.length ≤ 100000) (h:∀ q ∈ L,CallOk Tryz.prog g (encRz q :: cs) S (.ret (.bool (p q))) S) :
 CallOk Tryz.prog 235 [.sl z (L.map encRz),.fn (.func g) [] cs] S (.ret (ii (idxP p L 0))) S:=by
 have hS':∀ b ∈ S,b.Lt S.length:=fun b hb=>by have:=hS b hb;simpa using this
 refine CallOk.ofB hTT Tryz.func235 rfl rfl ?_ rfl hS' (lt_int _ _ _ |>.2 trivial)
 repeat (with_reducible (first | apply nx | apply wQ rfl | ((first | apply wV | apply wW | apply wX | (apply wy cf0_ok;(focus kernel_rfl)));(focus (simp only [Tryz.f235,go_sem];rfl))) | refine wz cf0_ok ?_ | (refine wa ?_;refine And.intro ?_ ?_;(focus kernel_rfl))))
 refine RunQ.keep [8,7,6,4,0,1] (by simp only [go_sem];rfl) ?_
 refine RunQ.loop (fun i s'=>idxP p L 0 = idxP p (L.drop i) i∧s' = ⟨[(8,ii i),(7,ii L.length),(6,.sl z (L.map encRz)),(4,ii 0),(0,.sl z (L.map encRz)),(1,.fn (.func g) [] cs)],19,S⟩) L.length ⟨rfl,by simp only [go_sem]⟩ ?_
 rintro i _ hi ⟨hm,rfl⟩
 by_cases hlt:i < L.length
 ·obtain ⟨q,hq⟩:∃ q,L[i]? = some q:=⟨_,List.getElem?_eq_getElem hlt⟩
  have hq':(L.map encRz)[i]? = some (.agg [ii q.2.frm,.sl q.1 (q.2.to.map ii)]):=by rw [List.getElem?_map,hq];rfl
  have hlt':(i:Int) < L.length:=by omega
  have hz':z ≠ .n:=fun e=>by rw [hz e] at hlt;simp at hlt
  have e4:IntKind.i64.wrap ((i:Int) + 1) = ((i + 1:Nat):Int):=wrap_id (by omega) (by omega)
  rw [drop_get hq,idxP_cons] at hm
  have hcall:CallOk Tryz.prog g (.agg [ii q.2.frm,.sl q.1 (q.2.to.map ii)] :: cs) S (.ret (.bool (p q))) S:=h q (List.mem_of_getElem? hq)
  cases hpq:p q
  ·rw [hpq] at hm hcall
   repeat (with_reducible (first | apply nx | apply wQ rfl | ((first | apply wV | apply wW | apply wX | (apply wy (cfOne_ok cf0_ok he hcall (SameLoops.refl _));(focus kernel_rfl)));(focus (simp only [Tryz.f235,cfOne,hlt',hq',hz',e4,List.length_map,go_sem];rfl))) | refine wz (cfOne_ok cf0_ok he hcall (SameLoops.refl _)) ?_ | (refine wa ?_;refine And.intro ?_ ?_;(focus kernel_rfl))))
   refine roundQ.k [8,7,6,4,0,1] hlt (by simp only [go_sem];rfl) ⟨by rw [hm];rfl,by simp only [go_sem]⟩
  ·rw [hpq] at hm hcall
   have hm:idxP p L 0 = (i:Int):=hm
   rw [hm]
   repeat (with_reducible (first | apply nx | apply wQ rfl | ((first | apply wV | apply wW | apply wX | (apply wy (cfOne_ok cf0_ok he hcall (SameLoops.refl _));(focus kernel_rfl)));(focus (simp only [Tryz.f235,cfOne,hlt',hq',hz',e4,List.length_map,go_sem];rfl))) | refine wz (cfOne_ok cf0_ok he hcall (SameLoops.refl _)) ?_ | (refine wa ?_;refine And.intro ?_ ?_;(focus kernel_rfl))))
   exact ⟨rfl,SameLoops.refl _,rfl,[],by simp⟩
 ·have hlt':¬ (i:Int) < L.length:=by omega
  rw [hm,List.drop_eq_nil_of_le (by omega)]
  repeat (with_reducible (first | apply nx | apply wQ rfl | ((first | apply wV | apply wW | apply wX | (apply wy cf0_ok;(focus kernel_rfl)));(focus (simp only [Tryz.f235,hlt',List.length_map,go_sem];rfl))) | refine wz cf0_ok ?_ | (refine wa ?_;refine And.intro ?_ ?_;(focus kernel_rfl))))
  exact ⟨rfl,SameLoops.refl _,rfl,[],by simp⟩
theorem contains_196 {g:FuncId} {cs:List PV} {S:List Box} (z:Z) (L:List Rz) (p:Rz→Bool) (he:Enters Tryz.prog g) (hS:OwnOk 0 S) (hc:ltBL S.length cs = true) (hz:z = .n→L = []) (hl:L.length ≤ 100000) (h:∀ q ∈ L,CallOk Tryz.prog g (encRz q :: cs) S (.ret (.bool (p q))) S) :
 CallOk Tryz.prog 196 [.sl z (L.map encRz),.fn (.func g) [] cs] S (.ret (.bool (L.any p))) S:=by
 have hS':∀ b ∈ S,b.Lt S.length:=fun b hb=>by have:=hS b hb;simpa using this
 refine CallOk.ofB hTT Tryz.func196 rfl rfl ?_ rfl hS' (lt_bool _ _ |>.2 trivial)
 have hidx:=index_235 z L p he hS hc hz hl h
 rw [← idxP_any p L 0]
 by_cases h0:0 ≤ idxP p L 0
 ·rw [decide_eq_true h0]
  repeat (with_reducible (first | apply nx | apply wQ rfl | ((first | apply wV | apply wW | apply wX | (apply wy (cfOne_ok cf0_ok (ent Tryz.func235 rfl) hidx (SameLoops.refl _));(focus kernel_rfl)));(focus (simp only [Tryz.f196,cfOne,h0,ge_iff_le,go_sem];rfl))) | refine wz (cfOne_ok cf0_ok (ent Tryz.func235 rfl) hidx (SameLoops.refl _)) ?_ | (refine wa ?_;refine And.intro ?_ ?_;(focus kernel_rfl))))
  exact ⟨rfl,SameLoops.refl _,rfl,[],by simp⟩
 ·rw [decide_eq_false h0]
  repeat (with_reducible (first | apply nx | apply wQ rfl | ((first | apply wV | apply wW | apply wX | (apply wy (cfOne_ok cf0_ok (ent Tryz.func235 rfl) hidx (SameLoops.refl _));(focus kernel_rfl)));(focus (simp only [Tryz.f196,cfOne,h0,ge_iff_le,go_sem];rfl))) | refine wz (cfOne_ok cf0_ok (ent Tryz.func235 rfl) hidx (SameLoops.refl _)) ?_ | (refine wa ?_;refine And.intro ?_ ?_;(focus kernel_rfl))))
  exact ⟨rfl,SameLoops.refl _,rfl,[],by simp⟩
theorem index_200 {g:FuncId} {cs:List PV} {S:List Box} (z:Z) (L:List Int) (p:Int→Bool) (he:Enters Tryz.prog g) (hS:OwnOk 0 S) (hc:ltBL S.length cs = true) (hz:z = .n→L = []) (hl:L.length ≤ 100000) (h:∀ q ∈ L,CallOk Tryz.prog g (ii q :: cs) S (.ret (.bool (p q))) S) :
 CallOk Tryz.prog 200 [.sl z (L.map ii),.fn (.func g) [] cs] S (.ret (ii (idxP p L 0))) S:=by
 have hS':∀ b ∈ S,b.Lt S.length:=fun b hb=>by have:=hS b hb;simpa using this
 refine CallOk.ofB hTT Tryz.func200 rfl rfl ?_ rfl hS' (lt_int _ _ _ |>.2 trivial)
 repeat (with_reducible (first | apply nx | apply wQ rfl | ((first | apply wV | apply wW | apply wX | (apply wy cf0_ok;(focus kernel_rfl)));(focus (simp only [Tryz.f200,go_sem];rfl))) | refine wz cf0_ok ?_ | (refine wa ?_;refine And.intro ?_ ?_;(focus kernel_rfl))))
 refine RunQ.keep [8,7,6,4,0,1] (by simp only [go_sem];rfl) ?_
 refine RunQ.loop (fun i s'=>idxP p L 0 = idxP p (L.drop i) i∧s' = ⟨[(8,ii i),(7,ii L.length),(6,.sl z (L.map ii)),(4,ii 0),(0,.sl z (L.map ii)),(1,.fn (.func g) [] cs)],19,S⟩) L.length ⟨rfl,by simp only [go_sem]⟩ ?_
 rintro i _ hi ⟨hm,rfl⟩
 by_cases hlt:i < L.length
 ·obtain ⟨q,hq⟩:∃ q,L[i]? = some q:=⟨_,List.getElem?_eq_getElem hlt⟩
  have hq':(L.map ii)[i]? = some (ii q):=by rw [List.getElem?_map,hq];rfl
  have hlt':(i:Int) < L.length:=by omega
  have hz':z ≠ .n:=fun e=>by rw [hz e] at hlt;simp at hlt
  have e4:IntKind.i64.wrap ((i:Int) + 1) = ((i + 1:Nat):Int):=wrap_id (by omega) (by omega)
  rw [drop_get hq,idxP_cons] at hm
  have hcall:CallOk Tryz.prog g (ii q :: cs) S (.ret (.bool (p q))) S:=h q (List.mem_of_getElem? hq)
  cases hpq:p q
  ·rw [hpq] at hm hcall
   repeat (with_reducible (first | apply nx | apply wQ rfl | ((first | apply wV | apply wW | apply wX | (apply wy (cfOne_ok cf0_ok he hcall (SameLoops.refl _));(focus kernel_rfl)));(focus (simp only [Tryz.f200,cfOne,hlt',hq',hz',e4,List.length_map,go_sem];rfl))) | refine wz (cfOne_ok cf0_ok he hcall (SameLoops.refl _)) ?_ | (refine wa ?_;refine And.intro ?_ ?_;(focus kernel_rfl))))
   refine roundQ.k [8,7,6,4,0,1] hlt (by simp only [go_sem];rfl) ⟨by rw [hm];rfl,by simp only [go_sem]⟩
  ·rw [hpq] at hm hcall
   have hm:idxP p L 0 = (i:Int):=hm
   rw [hm]
   repeat (with_reducible (first | apply nx | apply wQ rfl | ((first | apply wV | apply wW | apply wX | (apply wy (cfOne_ok cf0_ok he hcall (SameLoops.refl _));(focus kernel_rfl)));(focus (simp only [Tryz.f200,cfOne,hlt',hq',hz',e4,List.length_map,go_sem];rfl))) | refine wz (cfOne_ok cf0_ok he hcall (SameLoops.refl _)) ?_ | (refine wa ?_;refine And.intro ?_ ?_;(focus kernel_rfl))))
   exact ⟨rfl,SameLoops.refl _,rfl,[],by simp⟩
 ·have hlt':¬ (i:Int) < L.length:=by omega
  rw [hm,List.drop_eq_nil_of_le (by omega)]
  repeat (with_reducible (first | apply nx | apply wQ rfl | ((first | apply wV | apply wW | apply wX | (apply wy cf0_ok;(focus kernel_rfl)));(focus (simp only [Tryz.f200,hlt',List.length_map,go_sem];rfl))) | refine wz cf0_ok ?_ | (refine wa ?_;refine And.intro ?_ ?_;(focus kernel_rfl))))
  exact ⟨rfl,SameLoops.refl _,rfl,[],by simp⟩
theorem contains_152 {g:FuncId} {cs:List PV} {S:List Box} (z:Z) (L:List Int) (p:Int→Bool) (he:Enters Tryz.prog g) (hS:OwnOk 0 S) (hc:ltBL S.length cs = true) (hz:z = .n→L = []) (hl:L.length ≤ 100000) (h:∀ q ∈ L,CallOk Tryz.prog g (ii q :: cs) S (.ret (.bool (p q))) S) :
 CallOk Tryz.prog 152 [.sl z (L.map ii),.fn (.func g) [] cs] S (.ret (.bool (L.any p))) S:=by
 have hS':∀ b ∈ S,b.Lt S.length:=fun b hb=>by have:=hS b hb;simpa using this
 refine CallOk.ofB hTT Tryz.func152 rfl rfl ?_ rfl hS' (lt_bool _ _ |>.2 trivial)
 have hidx:=index_200 z L p he hS hc hz hl h
 rw [← idxP_any p L 0]
 by_cases h0:0 ≤ idxP p L 0
 ·rw [decide_eq_true h0]
  repeat (with_reducible (first | apply nx | apply wQ rfl | ((first | apply wV | apply wW | apply wX | (apply wy (cfOne_ok cf0_ok (ent Tryz.func200 rfl) hidx (SameLoops.refl _));(focus kernel_rfl)));(focus (simp only [Tryz.f152,cfOne,h0,ge_iff_le,go_sem];rfl))) | refine wz (cfOne_ok cf0_ok (ent Tryz.func200 rfl) hidx (SameLoops.refl _)) ?_ | (refine wa ?_;refine And.intro ?_ ?_;(focus kernel_rfl))))
  exact ⟨rfl,SameLoops.refl _,rfl,[],by simp⟩
 ·rw [decide_eq_false h0]
  repeat (with_reducible (first | apply nx | apply wQ rfl | ((first | apply wV | apply wW | apply wX | (apply wy (cfOne_ok cf0_ok (ent Tryz.func200 rfl) hidx (SameLoops.refl _));(focus kernel_rfl)));(focus (simp only [Tryz.f152,cfOne,h0,ge_iff_le,go_sem];rfl))) | refine wz (cfOne_ok cf0_ok (ent Tryz.func200 rfl) hidx (SameLoops.refl _)) ?_ | (refine wa ?_;refine And.intro ?_ ?_;(focus kernel_rfl))))
  exact ⟨rfl,SameLoops.refl _,rfl,[],by simp⟩
end Go.Pv
namespace Go.Pv
open Go Go.RowKit Go.Proofs
set_option maxRecDepth 100000
theorem shpA_cons {x:TS × Bool} {r:List (TS × Bool)} {l:List PV} (h:shpA (x :: r) l):∃ v q,l = v :: q∧(x.1.shp v.cells∧v.ag = x.2)∧shpA r q:=by
 cases l with
 | nil=>exact h.elim
 | cons v q=>exact ⟨v,q,rfl,h.1,h.2⟩
theorem shpA_nil {l:List PV} (h:shpA [] l):l = []:=by
 cases l with
 | nil=>rfl
 | cons v q=>exact h.elim
def intTS:TS:=.int .i64
def snTS:TS:=.st [intTS,intTS,intTS,.bool,.bool]
def isTS:TS:=.sl intTS false
def rzTS:TS:=.st [intTS,isTS]
def stTS:TS:=.st [intTS,.sl snTS true,.sl rzTS true]
theorem shp_int {cs:List PV} (h:intTS.shp cs):∃ n,cs = [ii n]:=by
 obtain ⟨n,rfl,_⟩:=(show ∃ n,cs = [.int .i64 n]∧_ from h)
 exact ⟨n,rfl⟩
theorem shp_bool {cs:List PV} (h:TS.bool.shp cs):∃ b,cs = [.bool b]:=h
theorem int_of {v:PV} (h:intTS.shp v.cells∧v.ag = false):∃ n,v = ii n:=by
 obtain ⟨n,hn⟩:=shp_int h.1
 refine ⟨n,?_⟩
 cases v <;> first | (cases h.2;done) | (simp only [PV.cells,List.cons.injEq,and_true] at hn;exact hn)
theorem one_of {v c:PV} (h:v.cells = [c]) (ha:v.ag = false):v = c:=by
 cases v <;> first | (cases ha;done) | (simp only [PV.cells,List.cons.injEq,and_true] at h;exact h)
theorem agg_of {v:PV} {cs:List PV} (h:v.cells = cs) (ha:v.ag = true):v = .agg cs:=by
 cases v <;> first | (cases ha;done) | (simp only [PV.cells] at h;rw [h])
theorem map_of {α:Type} {g:α→PV}:∀ {es:List PV},(∀ x ∈ es,∃ y,x = g y)→∃ l:List α,es = l.map g
 | [],_=>⟨[],rfl⟩
 | x :: es,h=>by
  obtain ⟨y,hy⟩:=h x (List.mem_cons_self ..)
  obtain ⟨l,hl⟩:=map_of (es:=es) fun z hz=>h z (List.mem_cons_of_mem _ hz)
  exact ⟨y :: l,by rw [hy,hl];rfl⟩
theorem zOk_sh {z:Z} {es:List PV} (h:z = .n→es = []):zOk z es = true:=by
 cases z
 ·rw [h rfl];rfl
 ·rfl
 ·rfl
theorem shp_is {cs:List PV} (h:isTS.shp cs):∃ (z:Z) (l:List Int),cs = [.sl z (l.map ii)]∧zOk z (l.map ii) = true:=by
 obtain ⟨z,es,rfl,hz,_,_,hel⟩:=(show ∃ z es,cs = [.sl z es]∧(z = .n→es = [])∧z ≠ .f∧es.length ≤ maxLen∧∀ x ∈ es,intTS.shp x.cells∧x.ag = false from h)
 obtain ⟨l,rfl⟩:=map_of (g:=ii) fun x hx=>int_of (hel x hx)
 exact ⟨z,l,rfl,zOk_sh hz⟩
theorem sn_of {v:PV} (h:snTS.shp v.cells∧v.ag = true):∃ x,v = encSn x:=by
 obtain ⟨a,r1,e1,ha,hr1⟩:=(show ∃ a b,v.cells = a ++ b∧intTS.shp a∧shpL [intTS,intTS,.bool,.bool] b from h.1)
 obtain ⟨b,r2,e2,hb,hr2⟩:=(show ∃ a b,r1 = a ++ b∧intTS.shp a∧shpL [intTS,.bool,.bool] b from hr1)
 obtain ⟨c,r3,e3,hc,hr3⟩:=(show ∃ a b,r2 = a ++ b∧intTS.shp a∧shpL [.bool,.bool] b from hr2)
 obtain ⟨d,r4,e4,hd,hr4⟩:=(show ∃ a b,r3 = a ++ b∧TS.bool.shp a∧shpL [.bool] b from hr3)
 obtain ⟨e,r5,e5,he,hr5⟩:=(show ∃ a b,r4 = a ++ b∧TS.bool.shp a∧shpL [] b from hr4)
 obtain rfl:r5 = []:=hr5
 obtain ⟨x1,rfl⟩:=shp_int ha
 obtain ⟨x2,rfl⟩:=shp_int hb
 obtain ⟨x3,rfl⟩:=shp_int hc
 obtain ⟨x4,rfl⟩:=shp_bool hd
 obtain ⟨x5,rfl⟩:=shp_bool he
 subst e5;subst e4;subst e3;subst e2
 exact ⟨⟨x1,x2,x3,x4,x5⟩,agg_of e1 h.2⟩
theorem rz_of {v:PV} (h:rzTS.shp v.cells∧v.ag = true):∃ q:Rz,v = encRz q∧zOk q.1 (q.2.to.map ii) = true:=by
 obtain ⟨a,r1,e1,ha,hr1⟩:=(show ∃ a b,v.cells = a ++ b∧intTS.shp a∧shpL [isTS] b from h.1)
 obtain ⟨b,r2,e2,hb,hr2⟩:=(show ∃ a b,r1 = a ++ b∧isTS.shp a∧shpL [] b from hr1)
 obtain rfl:r2 = []:=hr2
 obtain ⟨f,rfl⟩:=shp_int ha
 obtain ⟨z,l,rfl,hz⟩:=shp_is hb
 subst e2
 exact ⟨(z,⟨f,l⟩),agg_of e1 h.2,hz⟩
theorem rzs_of:∀ {es:List PV},(∀ x ∈ es,rzTS.shp x.cells∧x.ag = true)→∃ l:List Rz,es = l.map encRz∧rzB l = true
 | [],_=>⟨[],rfl,rfl⟩
 | x :: es,h=>by
  obtain ⟨y,hy,h1⟩:=rz_of (h x (List.mem_cons_self ..))
  obtain ⟨l,hl,h2⟩:=rzs_of (es:=es) fun z hz=>h z (List.mem_cons_of_mem _ hz)
  refine ⟨y :: l,by rw [hy,hl];rfl,?_⟩
  show (zOk y.1 (y.2.to.map ii) && rzB l) = true
  rw [h1,h2];rfl
theorem st_of {v:PV} (h:stTS.shp v.cells∧v.ag = true):∃ s:Sty,v = .agg s.cells∧s.ok = true:=by
 obtain ⟨a,r1,e1,ha,hr1⟩:=(show ∃ a b,v.cells = a ++ b∧intTS.shp a∧shpL [.sl snTS true,.sl rzTS true] b from h.1)
 obtain ⟨b,r2,e2,hb,hr2⟩:=(show ∃ a b,r1 = a ++ b∧(TS.sl snTS true).shp a∧shpL [.sl rzTS true] b from hr1)
 obtain ⟨c,r3,e3,hc,hr3⟩:=(show ∃ a b,r2 = a ++ b∧(TS.sl rzTS true).shp a∧shpL [] b from hr2)
 obtain rfl:r3 = []:=hr3
 obtain ⟨n,rfl⟩:=shp_int ha
 obtain ⟨zs,es,rfl,hz,_,_,hel⟩:=(show ∃ z es,b = [.sl z es]∧(z = .n→es = [])∧z ≠ .f∧es.length ≤ maxLen∧∀ x ∈ es,snTS.shp x.cells∧x.ag = true from hb)
 obtain ⟨zr,fs,rfl,hy,_,_,hfl⟩:=(show ∃ z es,c = [.sl z es]∧(z = .n→es = [])∧z ≠ .f∧es.length ≤ maxLen∧∀ x ∈ es,rzTS.shp x.cells∧x.ag = true from hc)
 obtain ⟨sc,rfl⟩:=map_of (g:=encSn) fun x hx=>sn_of (hel x hx)
 obtain ⟨rz,rfl,hrz⟩:=rzs_of hfl
 subst e3;subst e2
 refine ⟨⟨n,zs,sc,zr,rz⟩,agg_of e1 h.2,?_⟩
 unfold Sty.ok
 rw [zOk_sh hz,zOk_sh hy,hrz];rfl
end Go.Pv
