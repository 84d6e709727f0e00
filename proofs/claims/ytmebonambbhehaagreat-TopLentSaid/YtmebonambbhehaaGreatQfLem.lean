import Derived.IntWalk
import Derived.Test.YtmebonambbhehaaGreatQdWalk
import Derived.Test.YtmebonambbhehaaGreatQePlain
import Derived.Test.YtmebonambbhehaaGreatQeRow
set_option linter.all false
open Go.Proofs.Tryz
namespace Go.Pv
open Go Go.RowKit Go.Proofs
set_option maxRecDepth 200000
set_option maxHeartbeats 8000000
attribute [go_sem] qp
def ld:PV->Option Int
 |.int .i64 a=>some a
 |_=>none
def dM{α:Type}(f:PV->Option α):List PV->Option (List α)
 |[]=>some []
 |x::r=>match f x,dM f r with
  |some a,some l=>some (a::l)
  |_,_=>none
theorem fc{α:Type}{f:PV->Option α}{g:α->PV}(h:∀a,f (g a)=some a):∀l:List α,dM f (l.map g)=some l
 |[]=>rfl
 |a::l=>by simp[dM,h,fc h l]
theorem bv{α:Type}{f:PV->Option α}{g:α->PV}(h:∀x a,f x=some a->x=g a):∀{es:List PV} {l:List α},dM f es=some l->es=l.map g
 |[],l,e=>by cases e;rfl
 |x::r,l,e=>by
  unfold dM at e;split at e <;> cases e
  rename_i a l' h1 h2;rw[h x a h1,bv h h2];rfl
theorem decI_enc(n:Int):ld (ii n)=some n:=rfl
theorem pw(x:PV)(a:Int)(h:ld x=some a):x=ii a:=by
 unfold ld at h;split at h <;> cases h
 rfl
theorem j8(l:List Int):dM ld (l.map ii)=some l:=fc decI_enc l
theorem LP{α:Type}{g:α->PV}{m:Nat}(h:∀a,(g a).ltB m=true):∀l:List α,bD m (l.map g)=true
 |[]=>rfl
 |a::l=>by show((g a).ltB m&&bD m (l.map g))=true;rw[h,LP h l];rfl
theorem aF(m:Nat)(l:List Int):bD m (l.map ii)=true:=LP (fun _=>rfl) l
theorem an(m:Nat)(z:Z)(es:List PV):(PV.sl z es).ltB m=bD m es:=rfl
theorem sP(m:Nat)(es:List PV):(PV.agg es).ltB m=bD m es:=rfl
theorem af(m:Nat)(x:PV)(es:List PV):bD m (x::es)=(x.ltB m&&bD m es):=rfl
theorem named:Named prog:=by
 have h:(prog.funcs.toList.all fun fn=>!(fn.name == "runtime.NumGoroutine"))=true:=by kernel_rfl
 intro f fn hf;have:=D7.1 h fn (DU (by simpa using hf))
 simpa using this
theorem ent{f:FuncId}{fn:Func}{c:Code}(hf:prog.funcs[f]?=some fn)(hb:fn.body=some c):bC prog f:=rt hf hb (named f fn hf)
theorem ai{n:Int}(h1:-9223372036854775808<=n)(h2:n<=9223372036854775807):IntKind.i64.wrap n=n:=IntWalk.i64_in n ⟨h1,h2⟩
theorem wIs(i:Nat)(h:(i:Int)+1<=9223372036854775807):IntKind.i64.wrap ((i:Int)+1)=((i+1:Nat):Int):=ai (by omega) (by omega)
theorem gex{α:Type}{l:List α}{i:Nat}(h:i<l.length):∃x,l[i]?=some x:=⟨_,DT h⟩
theorem aP{α:Type}{l:List α}{i:Nat}{x:α}(h:l[i]?=some x):l.drop i=x::l.drop (i+1):=by
 obtain⟨hl,e⟩:=DR.1 h;rw[Gl hl,e]
theorem aw{α β:Type}{f:α->β}{l:List α}{i:Nat}{x:α}(h:l[i]?=some x):(l.map f)[i]?=some (f x):=by simp[h]
def zOk(z:Z)(es:List PV):Bool :=
 match z with
 |.n=>es.isEmpty
 |_=>true
theorem bd{α:Type}{z:Z}{g:α->PV}{l:List α}(h:zOk z (l.map g)=true):z=.n->l=[]:=by
 rintro rfl;cases l with
 |nil=>rfl
 |cons a l=>cases h
theorem eC{a b:Int}(h:a≠b):(a != b)=true:=by simp[h]
def aN:PV->Option (List Int)
 |.sl z es=>if zOk z es=true then dM ld es else none
 |_=>none
theorem aJ{v:PV}{l:List Int}(h:aN v=some l):∃z,v=.sl z (l.map ii)∧(z=.n->l=[]):=by
 unfold aN at h;split at h <;> try (cases h;done)
 split at h <;> try (cases h;done)
 rename_i hz;obtain rfl:=bv pw h;exact⟨_,rfl,bd hz⟩
theorem aI{z:Z}{l:List Int}(hz:zOk z (l.map ii)=true):aN (.sl z (l.map ii))=some l:=by
 show(if zOk z (l.map ii)=true then dM ld (l.map ii)else none)=some l
 rw[DZ hz,j8]
theorem bt(z:Z)(l:List Int)(m:Nat):(PV.sl z (l.map ii)).ltB m=true:=aF m l
theorem leaveC_row{id:Nat}{e:TypeId}{k:Nat}{es:List PV}{sg:List Box}(h:sg[id]?=some (.row false e k es false))(hc:ad es=true){m:Nat}:gB 0 (.ms id m) sg=(.ms 0 m,[.row false e k es false]):=by
 unfold gB;have h1:(PV.ms id m).ltB 0=false:=rfl;rw[D5 (by rw[h1];simp)]
 simp only[h];have hq:cO (frzX (some 0) 6) sg (flat es)=(flat es,sg):=bE (n:=5) (flat es) sg (bj es hc);simp only[hq,bx];have ho:kh sg id=true:=by unfold kh;rw[h]
 rw[DZ ⟨by simp,ae 0 es hc,by simp,ho⟩]
 simp
theorem cV(l:List Int):ad (l.map ii)=true:=aY (fun _=>rfl) l
theorem gE(l:List Int)(p:PV->Bool):(l.map ii).all p=l.all fun x=>p (ii x):=by rw[FS];rfl
theorem all_t{α:Type}(l:List α):(l.all fun _=>true)=true:=by simp
theorem aL.fzVar(t id:Nat){tm tm':List (Nat×PV)}{n:Nat}{sg sg':List Box}{cs:List PV}(h:b9 tm t=some (.bp id 0))(hb:sg[id]?=some (.var cs false))(e1:sg.set id (.var cs true)=sg')(e2:jW tm t (.ip cs)=tm'):aL ⟨tm,n,sg⟩ ⟨tm',n,sg'⟩:=by
 refine⟨by rw[←e1];simp,fun r G a w db hs=>?_⟩
 obtain⟨u,hu,hru⟩:=hs.tm t _ h;obtain⟨G1,a1,a2,a3,a4,_⟩:=gp hs.rel (some 0) hru;have e:fC (some 0) sg (.bp id 0)=(.ip cs,sg'):=by
  unfold fC;simp[hb,e1]
 have a1:Rel G1 (fC (some 0) sg (.bp id 0)).2 w:=a1;have a4:Rep G1 (fC (some 0) sg (.bp id 0)).1 u:=a4;rw[e]at a1 a4;refine⟨G1,⟨a1,fun s x hx=>?_,hs.n,by rw[a3];exact hs.dfr,fun l hl=>?_⟩,a2.leM _⟩
 ·have hxx:b9 tm' s=some x:=hx
  clear hx;rw[←e2,eR]at hxx;split at hxx
  ·rename_i hst
   subst hst;cases hxx;exact⟨u,hu,a4⟩
  ·obtain⟨y,hy,hr⟩:=hs.tm s x hxx
   exact⟨y,hy,hr.mono a2⟩
 ·obtain⟨i,d,lr,h1,h2⟩:=hs.rd l hl
  obtain⟨s',e3,hle⟩:=a2.rho i _ h1;cases s' <;> simp only[Slot.le]at hle
  obtain⟨rfl,rfl⟩:=hle;refine⟨i,d,lr,e3,?_⟩;have h2:sg[i]?=some (.loop lr):=h2;show sg'[i]?=_;rw[←e1];by_cases hi:id=i
  ·subst hi
   rw[hb]at h2;cases h2
  ·rw[D8 hi]
   exact h2
theorem am.fzVar{P:Program}{c:Code}{Q:Out->St->Prop}(t id:Nat){tm tm':List (Nat×PV)}{n:Nat}{sg sg':List Box}{cs:List PV}(h:b9 tm t=some (.bp id 0))(hb:sg[id]?=some (.var cs false))(e1:sg.set id (.var cs true)=sg')(e2:jW tm t (.ip cs)=tm')(hq:am P c ⟨tm',n,sg'⟩ Q):am P c ⟨tm,n,sg⟩ Q :=
 am.pre (aL.fzVar t id h hb e1 e2) hq
abbrev Qi:=Z×List Int
def sf(q:Qi):PV:=.sl q.1 (q.2.map ii)
def decQ:PV->Option Qi
 |.sl z es=>match dM ld es with
  |some l=>some (z,l)
  |none=>none
 |_=>none
theorem No(x:PV)(q:Qi)(h:decQ x=some q):x=sf q:=by
 unfold decQ at h;split at h <;> try (cases h;done)
 split at h <;> cases h
 rename_i h1;obtain rfl:=bv pw h1;rfl
theorem decQ_enc(q:Qi):decQ (sf q)=some q:=by
 show(match dM ld (q.2.map ii)with|some l=>some (q.1,l)|none=>none)=some q
 rw[j8]
theorem decQs(L:List Qi):dM decQ (L.map sf)=some L:=fc (g:=sf) decQ_enc L
theorem closed_Q(q:Qi):(sf q).closed=true:=cV q.2
theorem nB(L:List Qi):ad (L.map sf)=true:=aY closed_Q L
theorem vh(m:Nat)(L:List Qi):bD m (L.map sf)=true:=ae m _ (nB L)
def qsB(L:List Qi):Bool:=L.all fun q=>zOk q.1 (q.2.map ii)
theorem qsB_at{L:List Qi}(h:qsB L=true){i:Nat}{q:Qi}(hq:L[i]?=some q):zOk q.1 (q.2.map ii)=true:=D7.1 h q (DU hq)
theorem leave_mp{id:Nat}{sg:List Box}{ks vs:List PV}{frz:Bool}(h:sg[id]?=some (.map ks vs frz))(hk:ad ks=true)(hv:ad vs=true):bR 0 (.mp id) sg=(.im ks vs,[]):=by
 refine A6 ?_ (by simp[PV.closed,hk,hv])
 unfold frzX;rw[D5 (by simp[PV.closed])]
 simp[fC,h,uW,bE (n:=6) _ _ hv]
theorem M3{a b:List Box}(ha:dl a=true)(hb:dl b=true):dl (a++b)=true:=by
 unfold dl at *;rw[List.all_append,ha,hb];rfl
theorem iB{P:Program}{id:Nat}{own:List Box}{L:List (List PV)}{low low':List Box}{b:Bool}(h:FoldR (YR P id) L low b low')(ho:OwnOk low.length own):SameLoops (low++own) (low'++own):=(YR.ok P id).sames h ho
theorem NF{low own:List Box}(h:OwnOk 0 low)(k:OwnOk low.length own):∀b∈low++own,b.Lt (low++own).length:=fun b hb=>by
 rw[Ea];rcases Ez.1 hb with hb|hb
 ·exact(h b hb).mono (by omega)
 ·exact k b hb
theorem call_frz{f:FuncId}{S B:List Box}{k0 p m k:Nat}{e:TypeId}{es rest:List PV}{r:PRes}{sg':List Box}(hk:S.length=k0)(hp:B[p]?=some (.row false e k es false))(hc:ad es=true)(hm:es.length=m)
 (hr:∀sg,iU (dh sg) rest=some rest) (h:ab prog f (.sl .a es::rest) (S++B.set p (.row false e k es true)) r sg'):ab prog f (.ms (k0+p) m::rest) (S++B) r sg':=by
 subst hk;have hget:(S++B)[S.length+p]?=some (.row false e k es false):=by rw[dO];exact hp
 have hrows:bW (S++B) [S.length+p]=S++B.set p (.row false e k es true):=by
  unfold bW;simp only[hget,bW];rw[bE (n:=4) (flat es) _ (bj es hc)];simp only[bx];exact d8 _ _ _ _
 refine h.ghost ?_ ?_
 ·have:=aL.rows [S.length+p] (S++B) ⟨ik 0 (.ms (S.length+p) m::rest),(PV.ms (S.length+p) m::rest).length,S++B⟩ rfl
  rw[hrows]at this;exact this
 ·have hv:dh (S++B.set p (.row false e k es true)) (.ms (S.length+p) m)=some (.sl .a es):=by
   show view1 _ (.ms (S.length+p) m)=_;have hg2:(S++B.set p (.row false e k es true))[S.length+p]?=some (.row false e k es true):=by rw[dO,D4 (DR.1 hp).1]
   unfold view1;simp[hg2,hm]
  simp only[iU,hv,hr]
open Classical in
noncomputable def eA(cf:CallF)(g:FuncId)(args:List PV)(v:PV):CallF:=fun g1 a1 s1=>if g1=g∧a1=args then some (.ret v,s1)else cf g1 a1 s1
theorem aj{P:Program}{cf:CallF}(h:CallFOk P cf){g:FuncId}{args:List PV}{v:PV}(he:bC P g)(hc:ab P g args [] (.ret v) [])(hl:bD 0 args=true):CallFOk P (eA cf g args v):=by
 intro f a s r1 s1 e;unfold eA at e;split at e
 ·rename_i hh
  obtain⟨rfl,rfl⟩:=hh;cases e;exact⟨he,hc.frame (bw 0 _ hl) _,SameLoops.refl _⟩
 ·exact h _ _ _ _ _ e
theorem aL.freezeZ(t id:Nat){tm tm':List (Nat×PV)}{n m k:Nat}{e:TypeId}{sg sg':List Box}{z:Bool}{es:List PV}(h:b9 tm t=some (.ms id m))(hb:sg[id]?=some (.row z e k es false))
 (hm:es.length=m) (hc:ad es=true) (e1:sg.set id (.row z e k es true)=sg') (e2:jW tm t (.sl (if z=true then .n else .a) es)=tm'):aL ⟨tm,n,sg⟩ ⟨tm',n,sg'⟩:=by
 have hrows:bW sg [id]=sg':=by
  unfold bW;simp only[hb,bW];rw[bE (n:=4) (flat es) sg (bj es hc)];simp only[bx];exact e1
 have hid:sg'[id]?=some (.row z e k es true):=by
  rw[←e1];exact D4 (DR.1 hb).1
 have hv:dh sg' (.ms id m)=some (.sl (if z=true then .n else .a) es):=by
  show view1 sg' (.ms id m)=_;unfold view1;simp[hid,hm]
 have g1:aL ⟨tm,n,sg⟩ ⟨tm,n,sg'⟩:=by
  have:=aL.rows [id] sg ⟨tm,n,sg⟩ rfl
  rw[hrows]at this;exact this
 have g2:aL ⟨tm,n,sg'⟩ ⟨tm',n,sg'⟩:=by
  have:=aL.view (n:=n) (sg:=sg') h hv
  rw[e2]at this;exact this
 exact g1.trans g2
theorem frzX_agr{d:Option Nat}{n:Nat}{sg:List Box}{vs:List PV}(hc:ad vs=false):frzX d (n+1) sg (.agg vs)=(.agg (cO (frzX d n) sg vs).1,(cO (frzX d n) sg vs).2):=by
 unfold frzX;rw[D5 (by simp[PV.closed,hc])]
 rfl
theorem am.freezeZ{P:Program}{c:Code}{Q:Out->St->Prop}(t id:Nat){tm tm':List (Nat×PV)}{n m k:Nat}{e:TypeId}{sg sg':List Box}{z:Bool}{es:List PV}(h:b9 tm t=some (.ms id m))(hb:sg[id]?=some (.row z e k es false))
 (hm:es.length=m) (hc:ad es=true) (e1:sg.set id (.row z e k es true)=sg') (e2:jW tm t (.sl (if z=true then .n else .a) es)=tm') (hq:am P c ⟨tm',n,sg'⟩ Q):am P c ⟨tm,n,sg⟩ Q:=by
 have hrows:bW sg [id]=sg':=by
  unfold bW;simp only[hb,bW];rw[bE (n:=4) (flat es) sg (bj es hc)];simp only[bx];exact e1
 have hid:sg'[id]?=some (.row z e k es true):=by
  rw[←e1];exact D4 (DR.1 hb).1
 have hv:dh sg' (.ms id m)=some (.sl (if z=true then .n else .a) es):=by
  show view1 sg' (.ms id m)=_;unfold view1;simp[hid,hm]
 have g1:aL ⟨tm,n,sg⟩ ⟨tm,n,sg'⟩:=by
  have:=aL.rows [id] sg ⟨tm,n,sg⟩ rfl
  rw[hrows]at this;exact this
 have g2:aL ⟨tm,n,sg'⟩ ⟨tm',n,sg'⟩:=by
  have:=aL.view (n:=n) (sg:=sg') h hv
  rw[e2]at this;exact this
 exact am.pre (g1.trans g2) hq
theorem kI.freezeZ{P:Program}{T:TypeId->TyI}{me:Meth}{cf:CallF}{ops:Array Oper}{Q:Out->St->Prop}{i:Nat}{os:List Oper}(t id:Nat){tm tm':List (Nat×PV)}{n m k:Nat}{e:TypeId}{sg sg':List Box}{z:Bool}{es:List PV}(h:b9 tm t=some (.ms id m))(hb:sg[id]?=some (.row z e k es false))
 (hm:es.length=m) (hc:ad es=true) (e1:sg.set id (.row z e k es true)=sg') (e2:jW tm t (.sl (if z=true then .n else .a) es)=tm') (hq:kI P me cf T ops i os ⟨tm',n,sg'⟩ Q):kI P me cf T ops i os ⟨tm,n,sg⟩ Q :=
 kI.ghost (aL.freezeZ t id h hb hm hc e1 e2) hq
theorem kI.stop{P:Program}{T:TypeId->TyI}{me:Meth}{cf:CallF}{ops:Array Oper}{st st1:St}{Q:Out->St->Prop}{i:Nat}{o:Oper}{os:List Oper}{v:PV}(h:oP me cf T ops st o=some (.panic v,st1))(hq:Q (.panic v) st1):kI P me cf T ops i (o::os) st Q:=by
 intro hT hcf hme hos;have hi:ops[i]?=some o:=hos 0 o rfl;refine⟨.panic v,st1,?_,hq⟩;rw[Ek,Fd];unfold oP at h;split at h
 ·rename_i hw
  exact bQ.stop hi hw (by simp) (j4 hT hcf sa hme h)
 ·split at h <;> cases h
 ·cases h
theorem mr{α:Type}[DecidableEq α]:∀{l m:List α},l.Nodup->(∀x∈l,x∈m)->l.length<=m.length
 |[],_,_,_=>Ee _
 |a::l,m,hn,hs=>by
  obtain⟨h1,h2⟩:=Gc.1 hn;have ha:=hs a (DV ..);have ih:=mr (l:=l) (m:=m.erase a) h2 fun x hx=>by
   have hne:x≠a:=fun e=>h1 (e▸hx)
   exact(List.mem_erase_of_ne hne).2 (hs x (DW _ hx))
  have:=List.length_erase_of_mem ha
  have hpos:0<m.length:=List.length_pos_of_mem ha;rw[Ek];omega
theorem ak.k{P:Program}{I:Nat->St->Prop}{m i k0:Nat}{Q:Out->St->Prop}{s:St}(ts:List Nat){tm':List (Nat×PV)}(hi:i<m)(hk:iK ts s.tm=tm')(h:I (i+1) ⟨tm',s.n,s.sg⟩):ak P I m i k0 Q .normal s :=
 ⟨hi,_,kL.ghost (aL.tm (st:=s) (tm':=tm') fun t v e=>by rw[←hk]at e;exact eK e),h⟩
set_option maxRecDepth 10000
set_option maxHeartbeats 4000000
def bF(x:Sn):PV:=.agg [ii x.part,ii x.least,ii x.most,.bool x.loose,.bool x.formula]
def rB:PV->Option Sn
 |.agg [.int .i64 a,.int .i64 b,.int .i64 c,.bool d,.bool e]=>some ⟨a,b,c,d,e⟩
 |_=>none
theorem zS(x:Sn):rB (bF x)=some x:=rfl
theorem rJ(x:PV)(a:Sn)(h:rB x=some a):x=bF a:=by
 unfold rB at h;split at h <;> cases h
 rfl
theorem decSns(l:List Sn):dM rB (l.map bF)=some l:=fc zS l
theorem ap(l:List Sn):ad (l.map bF)=true:=aY (fun _=>rfl) l
theorem aA(m:Nat)(l:List Sn):bD m (l.map bF)=true:=LP (fun _=>rfl) l
abbrev Rz:=Z×Rl
def aT(q:Rz):PV:=.agg [ii q.2.frm,.sl q.1 (q.2.to.map ii)]
def mJ:PV->Option Rz
 |.agg [.int .i64 a,.sl z es]=>match dM ld es with
  |some l=>some (z,⟨a,l⟩)
  |none=>none
 |_=>none
theorem jR(q:Rz):mJ (aT q)=some q:=by
 show(match dM ld (q.2.to.map ii)with|some l=>some (q.1,(⟨q.2.frm,l⟩:Rl))|none=>none)=some q
 rw[j8]
theorem lZ(x:PV)(q:Rz)(h:mJ x=some q):x=aT q:=by
 unfold mJ at h;split at h <;> try (cases h;done)
 split at h <;> cases h
 rename_i h1;obtain rfl:=bv pw h1;rfl
theorem decRzs(l:List Rz):dM mJ (l.map aT)=some l:=fc jR l
theorem qP(q:Rz):(aT q).closed=true:=by
 show(true&&(ad (q.2.to.map ii)&&true))=true
 rw[cV];rfl
theorem ao(l:List Rz):ad (l.map aT)=true:=aY qP l
theorem ltB_rz(m:Nat)(q:Rz):(aT q).ltB m=true:=bq m _ (qP q)
theorem az(m:Nat)(l:List Rz):bD m (l.map aT)=true:=LP (ltB_rz m) l
def rzB(l:List Rz):Bool:=l.all fun q=>zOk q.1 (q.2.to.map ii)
theorem nQ{l:List Rz}(h:rzB l=true){q:Rz}(hq:q∈l):zOk q.1 (q.2.to.map ii)=true:=D7.1 h q hq
structure Sty where
 e:Int
 zs:Z
 sc:List Sn
 zr:Z
 rz:List Rz
namespace Sty
def rl(s:Sty):List Rl:=s.rz.map (·.2)
theorem rl_len(s:Sty):s.rl.length=s.rz.length:=DX ..
theorem rl_get{s:Sty}{i:Nat}{q:Rz}(h:s.rz[i]?=some q):s.rl[i]?=some q.2:=aw h
def ok(s:Sty):Bool:=zOk s.zs (s.sc.map bF)&&zOk s.zr (s.rz.map aT)&&rzB s.rz
theorem ok_s{s:Sty}(h:s.ok=true):zOk s.zs (s.sc.map bF)=true:=by unfold ok at h;simp only[D3]at h;exact h.1.1
theorem ok_r{s:Sty}(h:s.ok=true):zOk s.zr (s.rz.map aT)=true:=by unfold ok at h;simp only[D3]at h;exact h.1.2
theorem ok_z{s:Sty}(h:s.ok=true):rzB s.rz=true:=by unfold ok at h;simp only[D3]at h;exact h.2
def parts(s:Sty):Bool:=nM s.e s.sc s.rl
def story(s:Sty):Bool:=AA s.e s.sc s.rl
abbrev cells(s:Sty):List PV:=[ii s.e,.sl s.zs (s.sc.map bF),.sl s.zr (s.rz.map aT)]
end Sty
def encSt(s:Sty):PV:=.agg s.cells
theorem kM(s:Sty):ad s.cells=true:=by simp[ad,PV.closed,ap,ao]
theorem y7(s:Sty):(encSt s).closed=true:=kM s
theorem cm(m:Nat)(s:Sty):(encSt s).ltB m=true:=bq m _ (y7 s)
def cS:PV->Option Sty
 |.agg [.int .i64 e,.sl zs ss,.sl zr rs]=>match dM rB ss,dM mJ rs with
  |some sc,some rz=>if(⟨e,zs,sc,zr,rz⟩:Sty).ok=true then some ⟨e,zs,sc,zr,rz⟩else none
  |_,_=>none
 |_=>none
theorem aM{v:PV}{s:Sty}(h:cS v=some s):v=encSt s∧s.ok=true:=by
 unfold cS at h;split at h <;> try (cases h;done)
 split at h <;> try (cases h;done)
 rename_i h1 h2;split at h <;> cases h
 rename_i hok;obtain rfl:=bv rJ h1;obtain rfl:=bv lZ h2;exact⟨rfl,hok⟩
theorem aS(s:Sty)(h:s.ok=true):cS (.agg s.cells)=some s:=by
 show(match dM rB (s.sc.map bF),dM mJ (s.rz.map aT)with|some sc,some rz=>if(⟨s.e,s.zs,sc,s.zr,rz⟩:Sty).ok=true then some ⟨s.e,s.zs,sc,s.zr,rz⟩else none|_,_=>none)=some s
 rw[decSns,decRzs];exact DZ h
end Go.Pv
namespace Go.Pv
open Go Go.RowKit Go.Proofs
set_option maxRecDepth 100000
theorem rI{x:TS×Bool}{r:List (TS×Bool)}{l:List PV}(h:shpA (x::r) l):∃v q,l=v::q∧(x.1.shp v.cells∧v.ag=x.2)∧shpA r q:=by
 cases l with
 |nil=>exact h.elim
 |cons v q=>exact⟨v,q,rfl,h.1,h.2⟩
theorem shpA_nil{l:List PV}(h:shpA [] l):l=[]:=by
 cases l with
 |nil=>rfl
 |cons v q=>exact h.elim
def eu:TS:=.int .i64
def isTS:TS:=.sl eu false
theorem gm{cs:List PV}(h:eu.shp cs):∃n,cs=[ii n]:=by
 obtain⟨n,rfl,_⟩:=(show ∃n,cs=[.int .i64 n]∧_ from h)
 exact⟨n,rfl⟩
theorem int_of{v:PV}(h:eu.shp v.cells∧v.ag=false):∃n,v=ii n:=by
 obtain⟨n,hn⟩:=gm h.1;refine⟨n,?_⟩;cases v <;> first|(cases h.2;done)|(simp only[PV.cells,List.cons.injEq,IV]at hn;exact hn)
theorem one_of{v c:PV}(h:v.cells=[c])(ha:v.ag=false):v=c:=by
 cases v <;> first|(cases ha;done)|(simp only[PV.cells,List.cons.injEq,IV]at h;exact h)
theorem D2{v:PV}{cs:List PV}(h:v.cells=cs)(ha:v.ag=true):v=.agg cs:=by
 cases v <;> first|(cases ha;done)|(simp only[PV.cells]at h;rw[h])
theorem y8{α:Type}{g:α->PV}:∀{es:List PV},(∀x∈es,∃y,x=g y)->∃l:List α,es=l.map g
 |[],_=>⟨[],rfl⟩
 |x::es,h=>by
  obtain⟨y,hy⟩:=h x (DV ..);obtain⟨l,hl⟩:=y8 (es:=es) fun z hz=>h z (DW _ hz)
  exact⟨y::l,by rw[hy,hl];rfl⟩
theorem y4{z:Z}{es:List PV}(h:z=.n->es=[]):zOk z es=true:=by
 cases z
 ·rw[h rfl];rfl
 ·rfl
 ·rfl
theorem shp_is{cs:List PV}(h:isTS.shp cs):∃(z:Z) (l:List Int),cs=[.sl z (l.map ii)]∧zOk z (l.map ii)=true:=by
 obtain⟨z,es,rfl,hz,_,_,hel⟩:=(show ∃z es,cs=[.sl z es]∧(z=.n->es=[])∧z≠.f∧es.length<=maxLen∧∀x∈es,eu.shp x.cells∧x.ag=false from h)
 obtain⟨l,rfl⟩:=y8 (g:=ii) fun x hx=>int_of (hel x hx)
 exact⟨z,l,rfl,y4 hz⟩
theorem is_of{v:PV}(h:isTS.shp v.cells∧v.ag=false):∃(z:Z) (l:List Int),v=.sl z (l.map ii)∧zOk z (l.map ii)=true:=by
 obtain⟨z,l,hc,hz⟩:=shp_is h.1;exact⟨z,l,one_of hc h.2,hz⟩
set_option maxRecDepth 200000
set_option maxHeartbeats 8000000
def lk{α:Type}(p:α->Bool):List α->Nat->Int
 |[],_=>-1
 |q::r,i=>if p q=true then(i:Int)else lk p r (i+1)
theorem fX{α:Type}(p:α->Bool)(q:α)(r:List α)(i:Nat):lk p (q::r) i=if p q=true then(i:Int)else lk p r (i+1):=rfl
theorem lQ{α:Type}(p:α->Bool):∀(L:List α) (i:Nat),decide (0<=lk p L i)=L.any p
 |[],_=>rfl
 |q::r,i=>by
  rw[fX,GG];cases h:p q
  ·rw[D5 (by simp),IS]
   exact lQ p r (i+1)
  ·rw[DZ rfl]
   simp
theorem zi{g:FuncId}{cs:List PV}{S:List Box}(z:Z)(L:List Sn)(p:Sn->Bool)(he:bC prog g)(hS:OwnOk 0 S)(hc:bD S.length cs=true)(hz:z=.n->L=[])(hl:L.length<=100000)(h:∀q∈L,ab prog g (bF q::cs) S (.ret (.bool (p q))) S):
 ab prog 133 [.sl z (L.map bF),.fn (.func g) [] cs] S (.ret (ii (lk p L 0))) S:=by
 have hS':∀b∈S,b.Lt S.length:=fun b hb=>by have:=hS b hb;simpa using this
 refine ab.ofB hTT func133 rfl rfl ?_ rfl hS' (DO _ _ _|>.2 trivial);repeat with_reducible first|refine nz aa ?_|apply ny;simp only[f133,go_sem];rfl
 refine am.keep [8,7,6,4,0,1] (by simp only[go_sem];rfl) ?_
 refine am.loop (fun i s'=>lk p L 0=lk p (L.drop i) i∧s'=⟨[(8,ii i),(7,ii L.length),(6,.sl z (L.map bF)),(4,ii 0),(0,.sl z (L.map bF)),(1,.fn (.func g) [] cs)],19,S⟩) L.length ⟨rfl,by simp only[go_sem]⟩ ?_
 rintro i _ hi ⟨hm,rfl⟩;by_cases hlt:i<L.length
 ·obtain⟨q,hq⟩:=gex hlt
  have hq':(L.map bF)[i]?=some (.agg [ii q.part,ii q.least,ii q.most,.bool q.loose,.bool q.formula]):=by rw[Eh,hq];rfl
  have hlt':(i:Int)<L.length:=by omega
  have hz':z≠.n:=fun e=>by rw[hz e]at hlt;simp at hlt
  have e4:=wIs i (by omega)
  rw[aP hq,fX]at hm;have hcall:ab prog g (.agg [ii q.part,ii q.least,ii q.most,.bool q.loose,.bool q.formula]::cs) S (.ret (.bool (p q))) S:=h q (DU hq);cases hpq:p q
  ·rw[hpq]at hm hcall
   repeat with_reducible first|refine nz (ar aa he hcall (SameLoops.refl _)) ?_|apply ny;simp only[f133,cp,hlt',hq',hz',e4,go_sem];rfl
   refine ak.k [8,7,6,4,0,1] hlt (by simp only[go_sem];rfl) ⟨by rw[hm];rfl,by simp only[go_sem]⟩
  ·rw[hpq]at hm hcall
   have hm:lk p L 0=(i:Int):=hm;rw[hm];repeat with_reducible first|refine nz (ar aa he hcall (SameLoops.refl _)) ?_|apply ny;simp only[f133,cp,hlt',hq',hz',e4,go_sem];rfl
   exact⟨rfl,SameLoops.refl _,rfl,[],by simp⟩
 ·have hlt':¬(i:Int)<L.length:=by omega
  rw[hm,Ef (by omega)]
  repeat with_reducible first|refine nz aa ?_|apply ny;simp only[f133,hlt',go_sem];rfl
  exact⟨rfl,SameLoops.refl _,rfl,[],by simp⟩
theorem q8{g:FuncId}{cs:List PV}{S:List Box}(z:Z)(L:List Sn)(p:Sn->Bool)(he:bC prog g)(hS:OwnOk 0 S)(hc:bD S.length cs=true)(hz:z=.n->L=[])(hl:L.length<=100000)(h:∀q∈L,ab prog g (bF q::cs) S (.ret (.bool (p q))) S):
 ab prog 109 [.sl z (L.map bF),.fn (.func g) [] cs] S (.ret (.bool (L.any p))) S:=by
 have hS':∀b∈S,b.Lt S.length:=fun b hb=>by have:=hS b hb;simpa using this
 refine ab.ofB hTT func109 rfl rfl ?_ rfl hS' (th _ _|>.2 trivial);have hidx:=zi z L p he hS hc hz hl h;rw[←lQ p L 0];by_cases h0:0<=lk p L 0
 ·rw[Ej h0]
  repeat with_reducible first|refine nz (ar aa (ent func133 rfl) hidx (SameLoops.refl _)) ?_|apply ny;simp only[f109,cp,h0,EO,go_sem];rfl
  exact⟨rfl,SameLoops.refl _,rfl,[],by simp⟩
 ·rw[Ei h0]
  repeat with_reducible first|refine nz (ar aa (ent func133 rfl) hidx (SameLoops.refl _)) ?_|apply ny;simp only[f109,cp,h0,EO,go_sem];rfl
  exact⟨rfl,SameLoops.refl _,rfl,[],by simp⟩
theorem Ae{g:FuncId}{cs:List PV}{S:List Box}(z:Z)(L:List Rz)(p:Rz->Bool)(he:bC prog g)(hS:OwnOk 0 S)(hc:bD S.length cs=true)(hz:z=.n->L=[])(hl:L.length<=100000)(h:∀q∈L,ab prog g (aT q::cs) S (.ret (.bool (p q))) S):
 ab prog 134 [.sl z (L.map aT),.fn (.func g) [] cs] S (.ret (ii (lk p L 0))) S:=by
 have hS':∀b∈S,b.Lt S.length:=fun b hb=>by have:=hS b hb;simpa using this
 refine ab.ofB hTT func134 rfl rfl ?_ rfl hS' (DO _ _ _|>.2 trivial);repeat with_reducible first|refine nz aa ?_|apply ny;simp only[f134,go_sem];rfl
 refine am.keep [8,7,6,4,0,1] (by simp only[go_sem];rfl) ?_
 refine am.loop (fun i s'=>lk p L 0=lk p (L.drop i) i∧s'=⟨[(8,ii i),(7,ii L.length),(6,.sl z (L.map aT)),(4,ii 0),(0,.sl z (L.map aT)),(1,.fn (.func g) [] cs)],19,S⟩) L.length ⟨rfl,by simp only[go_sem]⟩ ?_
 rintro i _ hi ⟨hm,rfl⟩;by_cases hlt:i<L.length
 ·obtain⟨q,hq⟩:=gex hlt
  have hq':(L.map aT)[i]?=some (.agg [ii q.2.frm,.sl q.1 (q.2.to.map ii)]):=by rw[Eh,hq];rfl
  have hlt':(i:Int)<L.length:=by omega
  have hz':z≠.n:=fun e=>by rw[hz e]at hlt;simp at hlt
  have e4:=wIs i (by omega)
  rw[aP hq,fX]at hm;have hcall:ab prog g (.agg [ii q.2.frm,.sl q.1 (q.2.to.map ii)]::cs) S (.ret (.bool (p q))) S:=h q (DU hq);cases hpq:p q
  ·rw[hpq]at hm hcall
   repeat with_reducible first|refine nz (ar aa he hcall (SameLoops.refl _)) ?_|apply ny;simp only[f134,cp,hlt',hq',hz',e4,go_sem];rfl
   refine ak.k [8,7,6,4,0,1] hlt (by simp only[go_sem];rfl) ⟨by rw[hm];rfl,by simp only[go_sem]⟩
  ·rw[hpq]at hm hcall
   have hm:lk p L 0=(i:Int):=hm;rw[hm];repeat with_reducible first|refine nz (ar aa he hcall (SameLoops.refl _)) ?_|apply ny;simp only[f134,cp,hlt',hq',hz',e4,go_sem];rfl
   exact⟨rfl,SameLoops.refl _,rfl,[],by simp⟩
 ·have hlt':¬(i:Int)<L.length:=by omega
  rw[hm,Ef (by omega)]
  repeat with_reducible first|refine nz aa ?_|apply ny;simp only[f134,hlt',go_sem];rfl
  exact⟨rfl,SameLoops.refl _,rfl,[],by simp⟩
theorem sb{g:FuncId}{cs:List PV}{S:List Box}(z:Z)(L:List Rz)(p:Rz->Bool)(he:bC prog g)(hS:OwnOk 0 S)(hc:bD S.length cs=true)(hz:z=.n->L=[])(hl:L.length<=100000)(h:∀q∈L,ab prog g (aT q::cs) S (.ret (.bool (p q))) S):
 ab prog 110 [.sl z (L.map aT),.fn (.func g) [] cs] S (.ret (.bool (L.any p))) S:=by
 have hS':∀b∈S,b.Lt S.length:=fun b hb=>by have:=hS b hb;simpa using this
 refine ab.ofB hTT func110 rfl rfl ?_ rfl hS' (th _ _|>.2 trivial);have hidx:=Ae z L p he hS hc hz hl h;rw[←lQ p L 0];by_cases h0:0<=lk p L 0
 ·rw[Ej h0]
  repeat with_reducible first|refine nz (ar aa (ent func134 rfl) hidx (SameLoops.refl _)) ?_|apply ny;simp only[f110,cp,h0,EO,go_sem];rfl
  exact⟨rfl,SameLoops.refl _,rfl,[],by simp⟩
 ·rw[Ei h0]
  repeat with_reducible first|refine nz (ar aa (ent func134 rfl) hidx (SameLoops.refl _)) ?_|apply ny;simp only[f110,cp,h0,EO,go_sem];rfl
  exact⟨rfl,SameLoops.refl _,rfl,[],by simp⟩
theorem mO{g:FuncId}{cs:List PV}{S:List Box}(z:Z)(L:List Int)(p:Int->Bool)(he:bC prog g)(hS:OwnOk 0 S)(hc:bD S.length cs=true)(hz:z=.n->L=[])(hl:L.length<=100000)(h:∀q∈L,ab prog g (ii q::cs) S (.ret (.bool (p q))) S):
 ab prog 74 [.sl z (L.map ii),.fn (.func g) [] cs] S (.ret (ii (lk p L 0))) S:=by
 have hS':∀b∈S,b.Lt S.length:=fun b hb=>by have:=hS b hb;simpa using this
 refine ab.ofB hTT func74 rfl rfl ?_ rfl hS' (DO _ _ _|>.2 trivial);repeat with_reducible first|refine nz aa ?_|apply ny;simp only[f74,go_sem];rfl
 refine am.keep [8,7,6,4,0,1] (by simp only[go_sem];rfl) ?_
 refine am.loop (fun i s'=>lk p L 0=lk p (L.drop i) i∧s'=⟨[(8,ii i),(7,ii L.length),(6,.sl z (L.map ii)),(4,ii 0),(0,.sl z (L.map ii)),(1,.fn (.func g) [] cs)],19,S⟩) L.length ⟨rfl,by simp only[go_sem]⟩ ?_
 rintro i _ hi ⟨hm,rfl⟩;by_cases hlt:i<L.length
 ·obtain⟨q,hq⟩:=gex hlt
  have hq':(L.map ii)[i]?=some (ii q):=by rw[Eh,hq];rfl
  have hlt':(i:Int)<L.length:=by omega
  have hz':z≠.n:=fun e=>by rw[hz e]at hlt;simp at hlt
  have e4:=wIs i (by omega)
  rw[aP hq,fX]at hm;have hcall:ab prog g (ii q::cs) S (.ret (.bool (p q))) S:=h q (DU hq);cases hpq:p q
  ·rw[hpq]at hm hcall
   repeat with_reducible first|refine nz (ar aa he hcall (SameLoops.refl _)) ?_|apply ny;simp only[f74,cp,hlt',hq',hz',e4,go_sem];rfl
   refine ak.k [8,7,6,4,0,1] hlt (by simp only[go_sem];rfl) ⟨by rw[hm];rfl,by simp only[go_sem]⟩
  ·rw[hpq]at hm hcall
   have hm:lk p L 0=(i:Int):=hm;rw[hm];repeat with_reducible first|refine nz (ar aa he hcall (SameLoops.refl _)) ?_|apply ny;simp only[f74,cp,hlt',hq',hz',e4,go_sem];rfl
   exact⟨rfl,SameLoops.refl _,rfl,[],by simp⟩
 ·have hlt':¬(i:Int)<L.length:=by omega
  rw[hm,Ef (by omega)]
  repeat with_reducible first|refine nz aa ?_|apply ny;simp only[f74,hlt',go_sem];rfl
  exact⟨rfl,SameLoops.refl _,rfl,[],by simp⟩
theorem CK{g:FuncId}{cs:List PV}{S:List Box}(z:Z)(L:List Int)(p:Int->Bool)(he:bC prog g)(hS:OwnOk 0 S)(hc:bD S.length cs=true)(hz:z=.n->L=[])(hl:L.length<=100000)(h:∀q∈L,ab prog g (ii q::cs) S (.ret (.bool (p q))) S):
 ab prog 47 [.sl z (L.map ii),.fn (.func g) [] cs] S (.ret (.bool (L.any p))) S:=by
 have hS':∀b∈S,b.Lt S.length:=fun b hb=>by have:=hS b hb;simpa using this
 refine ab.ofB hTT func47 rfl rfl ?_ rfl hS' (th _ _|>.2 trivial);have hidx:=mO z L p he hS hc hz hl h;rw[←lQ p L 0];by_cases h0:0<=lk p L 0
 ·rw[Ej h0]
  repeat with_reducible first|refine nz (ar aa (ent func74 rfl) hidx (SameLoops.refl _)) ?_|apply ny;simp only[f47,cp,h0,EO,go_sem];rfl
  exact⟨rfl,SameLoops.refl _,rfl,[],by simp⟩
 ·rw[Ei h0]
  repeat with_reducible first|refine nz (ar aa (ent func74 rfl) hidx (SameLoops.refl _)) ?_|apply ny;simp only[f47,cp,h0,EO,go_sem];rfl
  exact⟨rfl,SameLoops.refl _,rfl,[],by simp⟩
set_option maxRecDepth 10000
set_option maxHeartbeats 4000000
abbrev Tb_:=List PV->List Box->Option (PRes×List Box)
def cin:Tb_
 |[.int .i64 x,.int .i64 a,.int .i64 b],sg=>some (.ret (.bool (inB x a b)),sg)
 |_,_=>none
theorem in_154(x a b:Int):ab prog 105 [ii x,ii a,ii b] [] (.ret (.bool (inB x a b))) []:=by
 refine ab.of0 hTT func105 rfl rfl ?_;unfold inB;by_cases h1:a<=x <;> by_cases h2:x<=b
 all_goals
  repeat (first|(with_reducible (first|apply nx|apply wQ rfl))|((with_reducible (first|apply wV|apply wW|apply wX|(apply wy aa;(focus kernel_rfl))));(focus (simp only[f105,EO,h1,h2,go_sem];rfl)))|(with_reducible refine wz aa ?_)|(with_reducible refine wa ?_;refine And.intro ?_ ?_;(focus kernel_rfl)))
  refine⟨rfl,rfl,_,rfl,?_⟩;simp only[h1,h2];rfl
theorem yW:dU prog 105 cin:=dU.of0 (ent func105 rfl) fun args sg r sg' h=>by
 unfold cin at h;split at h <;> cases h
 exact⟨_,rfl,rfl,rfl,in_154 _ _ _⟩
open Go Go.RowKit
theorem bJ(m:Nat):∀a b:List PV,bD m (a++b)=(bD m a&&bD m b)
 |[],b=>by simp[bD]
 |x::a,b=>by simp only[EK,bD,bJ m a b,ON]
end Go.Pv
