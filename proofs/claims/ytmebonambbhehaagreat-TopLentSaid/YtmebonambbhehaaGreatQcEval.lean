import Derived.Test.YtmebonambbhehaaGreatQbRun
import Derived.Deep.Slices
import Derived.Carry
import Derived.OpenShut
set_option linter.all false
namespace Go.Pv
open Go Go.RowKit
def predN(acc:List Nat)(o:Oper):Nat:=o.after.toList.foldl (fun m e=>if Region.binds .any e=true then m |||((1 <<< e.on) |||acc.getD e.on 0)else m) 0
def sD:List Oper->List Nat->List Nat
 |[],acc=>acc
 |o::os,acc=>sD os (acc++[predN acc o])
def wD(x:Option Nat)(l:List Nat):Bool :=
 match x with
 |some t=>l.contains t
 |none=>false
def eqO(x y:Option Nat):Bool :=
 match x,y with
 |some a,some b=>a==b
 |_,_=>false
def sE(ops:Array Oper)(p q:Oper):Bool:=wD p.dst (vE ops q)||eqO p.dst q.dst||wD q.dst (vE ops p)
def nh(p q:DRec):Bool:=cF p||cF q||wD (wid p) q.rb||eqO (wid p) (wid q)||wD (wid q) p.rb
def iS(ops:Array Oper):Bool :=
 let ms:=sD ops.toList []
 (List.range ops.size).all fun j=>match ops[j]?,ms[j]? with
  |some q,some m=>(q.after.all fun e=>!Region.binds .any e||decide (e.on<j))&&(List.range j).all fun i=>match ops[i]? with
   |some p=>!sE ops p q||m.testBit i
   |none=>true
  |_,_=>false
def nq(ops:Array Oper)(rs:List DRec):Bool :=
 (rs.all fun r=>match r.ef,r.full with
  |none,none=>true
  |_,_=>false) ||
 let ms:=sD ops.toList []
 (List.range ops.size).all fun j=>match rs[j]?,ms[j]? with
  |some q,some m=>(List.range j).all fun i=>match rs[i]? with
   |some p=>!nh p q||m.testBit i
   |none=>true
  |_,_=>false
section
variable {P:Program} {T:TypeId->TyI} {ora:Ora} {ops:Array Oper}
theorem Ci{acc:List Nat}{o:Oper}{i:Nat}(h:(predN acc o).testBit i=true):∃e∈o.after,Region.binds .any e=true∧(i=e.on∨(acc.getD e.on 0).testBit i=true):=by
 have key:∀(l:List Edge) (m:Nat),(l.foldl (fun m e=>if Region.binds .any e=true then m |||((1 <<< e.on) |||acc.getD e.on 0)else m) m).testBit i=true ->
  m.testBit i=true∨∃e∈l,Region.binds .any e=true∧(i=e.on∨(acc.getD e.on 0).testBit i=true):=by
  intro l;induction l with
  |nil=>exact fun m h=>.inl h
  |cons e l ih =>
   intro m h;rw[EI]at h;rcases ih _ h with h|⟨e',he',h'⟩
   ·split at h
    ·rename_i hb
     rw[Nat.testBit_or,Nat.testBit_or,Nat.one_shiftLeft,Nat.testBit_two_pow]at h;simp only[Fk,Eo]at h;rcases h with h|h|h
     ·exact .inl h
     ·exact .inr ⟨e,DV ..,hb,.inl h.symm⟩
     ·exact .inr ⟨e,DV ..,hb,.inr h⟩
    ·exact .inl h
   ·exact .inr ⟨e',DW _ he',h'⟩
 rcases key o.after.toList 0 h with h|⟨e,he,h⟩
 ·simp at h
 ·exact⟨e,by simpa using he,h⟩
theorem je:∀(os:List Oper) (acc:List Nat) (j:Nat),j<acc.length->(sD os acc)[j]?=acc[j]?
 |[],_,_,_=>rfl
 |o::os,acc,j,h=>by
  unfold sD;rw[je os _ j (by simp;omega),DY h]
theorem uh:∀(os:List Oper) (acc:List Nat) (i:Nat) (o:Oper),os[i]?=some o->∃acc',(sD os acc)[acc.length+i]?=some (predN acc' o)∧acc'.length=acc.length+i∧∀j,j<acc.length+i->acc'[j]?=(sD os acc)[j]?
 |[],_,_,_,h=>by simp at h
 |o'::os,acc,0,o,h=>by
  simp at h;subst h;unfold sD;refine⟨acc,?_,rfl,fun j hj=>?_⟩
  ·rw[je os _ _ (by simp)]
   simp
  ·rw[je os _ _ (by simp;omega),DY (by simpa using hj)]
 |o'::os,acc,i+1,o,h=>by
  unfold sD;obtain⟨acc',h1,h2,h3⟩:=uh os (acc++[predN acc o']) i o (by simpa using h)
  simp only[Ea,Ek,ET]at h1 h2 h3;exact⟨acc',by rw[←h1];congr 1;omega,by omega,fun j hj=>h3 j (by omega)⟩
def Down(ops:Array Oper)(S:Nat->Bool)(j:Nat):Prop:=∀o,ops[j]?=some o->∀e∈o.after,Region.binds .any e=true->S e.on=true
theorem qL{S:Nat->Bool}(hback:∀(j:Nat) (o:Oper),ops[j]?=some o->∀e∈o.after,Region.binds .any e=true->e.on<j)(hS:∀j,S j=true->Down ops S j):
 ∀(j:Nat) (o:Oper) (m i:Nat),ops[j]?=some o->Down ops S j->(sD ops.toList [])[j]?=some m->m.testBit i=true->S i=true:=by
 intro j;induction j using Nat.strongRecOn with
 |_ j ih =>
  intro o m i ho hd hm hb;obtain⟨acc,h1,h2,h3⟩:=uh ops.toList [] j o (by simpa using ho)
  simp only[ET,EG]at h1 h2 h3;rw[hm]at h1;cases h1;obtain⟨e,he,hbind,h⟩:=Ci hb;have hlt:=hback j o ho e he hbind;have hSe:=hd o ho e he hbind;rcases h with rfl|h
  ·exact hSe
  ·have hel:e.on<ops.size:=by have:=(ER.1 ho).1;omega
   have hacc:acc[e.on]?=some acc[e.on]:=DT (by omega)
   have hm':=h3 e.on hlt;rw[hacc]at hm';refine ih e.on hlt ops[e.on] _ i (ED hel) (hS _ hSe) hm'.symm ?_;rw[Ep,hacc]at h;exact h
theorem RelS.congr{G:Gh}{st st':St}{a:Act}{w:World}{r:Option Nat}{db:DB}(h:RelS G st a w r db)(ht:∀t,b9 st'.tm t=b9 st.tm t)(hs:∀id:Nat,st'.sg[id]?=st.sg[id]?)(hn:st'.n=st.n):RelS G st' a w r db:=by
 have hsg:st'.sg=st.sg:=E6 hs;exact⟨hsg▸h.rel,fun t v e=>h.tm t v (ht t▸e),h.n.trans hn.symm,h.dfr,fun l hl=>by rw[hsg];exact h.rd l hl⟩
theorem vt{x:Option Nat}{l:List Nat}:wD x l=true↔∃t,x=some t∧t∈l:=by
 cases x <;> simp[wD]
theorem Aj{x y:Option Nat}:eqO x y=true↔∃t,x=some t∧y=some t:=by
 cases x <;> cases y <;> simp[eqO]
 exact eq_comm
theorem zG(h:iS ops=true)(j:Nat)(o:Oper)(ho:ops[j]?=some o):∀e∈o.after,Region.binds .any e=true->e.on<j:=by
 intro e he hb;unfold iS at h;have hj:=(ER.1 ho).1;have:=D7.1 h j (FJ.2 hj)
 rw[ho]at this;split at this
 ·rename_i q m hq hm
  cases hq;rw[D3]at this;have h1:=this.1;rw[Array.all_eq_true_iff_forall_mem]at h1;have:=h1 e he
  simpa[hb]using this
 ·cases this
theorem rC(h:iS ops=true){i j:Nat}{p q:Oper}(hp:ops[i]?=some p)(hq:ops[j]?=some q)(hij:i<j)(hc:sE ops p q=true):∃m,(sD ops.toList [])[j]?=some m∧m.testBit i=true:=by
 unfold iS at h;have hj:=(ER.1 hq).1;have:=D7.1 h j (FJ.2 hj)
 rw[hq]at this;split at this
 ·rename_i q' m hq' hm
  cases hq';rw[D3]at this;have h2:=D7.1 this.2 i (FJ.2 hij);rw[hp]at h2;simp only[hc,Bool.not_true,IS]at h2;exact⟨m,hm,h2⟩
 ·cases this
theorem um{rs:List DRec}(h:nq ops rs=true){i j:Nat}{p q:DRec}(hp:rs[i]?=some p)(hq:rs[j]?=some q)(hj:j<ops.size)(hij:i<j)(hc:nh p q=true):∃m,(sD ops.toList [])[j]?=some m∧m.testBit i=true:=by
 unfold nq at h;rw[Fk]at h;rcases h with h|h
 ·have tM:∀(r:DRec),r∈rs->wid r=none∧cF r=false:=fun r hr=>by
   have:=D7.1 h r hr
   split at this <;> try (cases this;done)
   rename_i h1 h2;exact⟨by unfold wid;rw[h1],by unfold cF;rw[h2];rfl⟩
  obtain⟨a1,a2⟩:=tM p (DU hp);obtain⟨b1,b2⟩:=tM q (DU hq);unfold nh at hc;rw[a1,a2,b1,b2]at hc;simp[wD,eqO]at hc
 have:=D7.1 h j (FJ.2 hj)
 rw[hq]at this;split at this
 ·rename_i q' m hq' hm
  cases hq';have h2:=D7.1 this i (FJ.2 hij);rw[hp]at h2;simp only[hc,Bool.not_true,IS]at h2;exact⟨m,hm,h2⟩
 ·cases this
def cnt(f:Nat->Bool):Nat->Nat
 |0=>0
 |n+1=>cnt f n+if f n=true then 0 else 1
theorem vn{f:Nat->Bool}:∀{n:Nat},cnt f n=0->∀i,i<n->f i=true
 |0,_,i,h=>by omega
 |n+1,h,i,hi=>by
  unfold cnt at h;by_cases he:i=n
  ·subst he
   cases hf:f i with
   |true=>rfl
   |false=>rw[hf]at h;simp at h
  ·exact vn (n:=n) (by omega) i (by omega)
theorem Ds{f:Nat->Bool}{j:Nat}(hj:f j=false):∀{n:Nat},cnt (fun i=>f i||i==j) n+(if j<n then 1 else 0)=cnt f n
 |0=>rfl
 |n+1=>by
  have ih:=Ds hj (n:=n);unfold cnt;by_cases he:n=j
  ·subst he
   simp only[hj,Fe,Bool.or_true,Fy,E8,if_false,GZ]at ih ⊢;rw[DZ (FG _)];omega
  ·have:(n==j)=false:=by simpa using he
   simp only[this,GF];by_cases hlt:j<n
   ·rw[DZ hlt]at ih
    rw[DZ (show j<n+1 by omega)]
    omega
   ·rw[D5 hlt]at ih
    rw[D5 (show ¬j<n+1 by omega)]
    omega
theorem zip_get{α β:Type}{as0:List α}{bs:List β}{j:Nat}{p:α×β}:(as0.zip bs)[j]?=some p↔as0[j]?=some p.1∧bs[j]?=some p.2:=by
 rw[List.getElem?_zip_eq_some]
theorem draw_inv(hT:TyT P T)(hora:Nk P ora){st:St}{rs:List DRec}(hl:rs.length=ops.size)(hst:iS ops=true)(htxt:sr P ora T ops (ops.toList.zip rs) st)(hbx:nq ops rs=true)
 {r:Option Nat} {n:Nat} {G:Gh} {db:DB} {Q:Exit->Act->World->Prop}
 (k:∀a' w' G',RelS G' (bU (fun _=>true) 0 (ops.toList.zip rs) st) a' w' r db->Gh.leM st.sg.length G G'->Q .normal a' w') :
 ∀(fuel:Nat) (listed:Array Bool) (G1:Gh) (a:Act) (w:World),listed.size=ops.size->(∀j,listed.getD j false=true->Down ops (fun i=>listed.getD i false) j)->cnt (fun i=>listed.getD i false) ops.size<=fuel ->
  RelS G1 (bU (fun i=>listed.getD i false) 0 (ops.toList.zip rs) st) a w r db->Gh.leM st.sg.length G G1->wpAnyIn (FW r) n P .any ops Q fuel listed a w:=by
 have hback:=zG hst;have pget:∀{j:Nat} {p:Oper×DRec},(ops.toList.zip rs)[j]?=some p↔ops[j]?=some p.1∧rs[j]?=some p.2:=fun {j p}=>by rw[zip_get];simp
 have fn_eq:∀S:Nat->Bool,(bU S 0 (ops.toList.zip rs) st).n=st.n:=fun S=>Al S _ 0 st (fun p hp s hs=>(jQ _ st htxt p hp s hs).1) rfl
 have fn_ge:∀S:Nat->Bool,st.sg.length<=(bU S 0 (ops.toList.zip rs) st).sg.length:=fun S=>pD S _ 0 st (fun p hp s hs=>(jQ _ st htxt p hp s hs).2) (DS _)
 have full:∀(listed:Array Bool) (G1:Gh) (a:Act) (w:World),(∀i,i<ops.size->listed.getD i false=true)->RelS G1 (bU (fun i=>listed.getD i false) 0 (ops.toList.zip rs) st) a w r db->Gh.leM st.sg.length G G1->Q .normal a w:=by
  intro listed G1 a w hall hS hl';refine k a w G1 (hS.congr (fun t=>?_) (fun id=>?_) ?_) hl'
  ·refine jz _ 0 st st (fun i p hp _=>?_) rfl
   have:=(ER.1 (pget.1 hp).1).1
   rw[EG,hall i this]
  ·refine jH _ 0 st st (fun i p hp _=>?_) rfl rfl
   have:=(ER.1 (pget.1 hp).1).1
   rw[EG,hall i this]
  ·rw[fn_eq,fn_eq]
 have noready:∀(listed:Array Bool),listed.size=ops.size->Region.ready .any ops listed=[]->∀i,i<ops.size->listed.getD i false=true:=by
  intro listed hsz hr i;induction i using Nat.strongRecOn with
  |_ i ih =>
   intro hi;cases hli:listed.getD i false with
   |true=>rfl
   |false =>
    have:i∈Region.ready .any ops listed:=by
     refine mem_ready.2 ⟨?_,ops[i],ED hi,fun e he hb=>?_⟩
     ·have hi':i<listed.size:=by omega
      simpa[EH,hi']using hli
     ·have:=hback i ops[i] (ED hi) e he hb
      exact ih e.on this (by omega)
    rw[hr]at this;cases this
 intro fuel;induction fuel with
 |zero =>
  intro listed G1 a w hsz hdown hc hS hle;have hall:=vn (Nat.le_zero.1 hc);refine⟨?_,full listed G1 a w hall hS hle⟩;cases hr:Region.ready .any ops listed with
  |nil=>rfl
  |cons j js =>
   have hj:j∈Region.ready .any ops listed:=by rw[hr];exact DV ..
   obtain⟨h0,o,ho,_⟩:=mem_ready.1 hj;have hjn:=(ER.1 ho).1;have h1:=hall j hjn;have hj':j<listed.size:=by omega
   simp[EH,hj']at h0 h1;rw[h0]at h1;cases h1
 |succ fuel ih =>
  intro listed G1 a w hsz hdown hc hS hle;refine⟨fun hr=>full listed G1 a w (noready listed hsz hr) hS hle,fun j hj=>?_⟩
  obtain⟨h0,o,ho,hafter⟩:=mem_ready.1 hj;have hjn:=(ER.1 ho).1;have hj':j<listed.size:=by omega
  have hSj:listed.getD j false=false:=by
   simpa[EH,hj']using h0
  have hrj:∃rc,rs[j]?=some rc:=⟨rs[j],DT (by omega)⟩
  obtain⟨rc,hrc⟩:=hrj;have hpj:(ops.toList.zip rs)[j]?=some (o,rc):=pget.2 ⟨ho,hrc⟩;have hDj:Down ops (fun i=>listed.getD i false) j:=fun o' ho' e he hb=>by
   rw[ho]at ho';cases ho';exact hafter e he hb
  have before:∀(i m:Nat),(sD ops.toList [])[j]?=some m->m.testBit i=true->listed.getD i false=true:=fun i m hm hb=>qL hback hdown j o m i ho hDj hm hb
  have dG:∀(i m:Nat) (p:Oper),ops[i]?=some p->(sD ops.toList [])[i]?=some m->m.testBit j=true->listed.getD i false=false:=fun i m p hp hm hb=>by
   cases hli:listed.getD i false with
   |false=>rfl
   |true =>
    have:=qL hback hdown i p m j hp (hdown i hli) hm hb
    rw[hSj]at this;cases this
  have meetT:∀(i:Nat) (p:Oper),ops[i]?=some p->(i<j->sE ops p o=true)->(j<i->sE ops o p=true)->listed.getD i false=decide (i<j):=fun i p hp h1 h2=>by
   rcases GC i j with h|h|h
   ·obtain⟨m,hm,hb⟩:=rC hst hp ho h (h1 h)
    rw[before i m hm hb];simp[h]
   ·subst h;rw[hSj];simp
   ·obtain⟨m,hm,hb⟩:=rC hst ho hp h (h2 h)
    rw[dG i m p hp hm hb];have:¬i<j:=by omega
    simp[this]
  have meetB:∀(i:Nat) (p:Oper) (q:DRec),ops[i]?=some p->rs[i]?=some q->(i<j->nh q rc=true)->(j<i->nh rc q=true)->listed.getD i false=decide (i<j):=fun i p q hp hq h1 h2=>by
   rcases GC i j with h|h|h
   ·obtain⟨m,hm,hb⟩:=um hbx hq hrc hjn h (h1 h)
    rw[before i m hm hb];simp[h]
   ·subst h;rw[hSj];simp
   ·obtain⟨m,hm,hb⟩:=um hbx hrc hq (ER.1 hp).1 h (h2 h)
    rw[dG i m p hp hm hb];have:¬i<j:=by omega
    simp[this]
  have hE:=txt_at (P:=P) (ora:=ora) (T:=T) (ops:=ops) _ 0 st j (o,rc) htxt hpj;have meetF:∀(i:Nat) (p:Oper) (q:DRec),ops[i]?=some p->rs[i]?=some q->(cF rc=true∨cF q=true)->listed.getD i false=decide (i<j):=fun i p q hp hq hc=>by
   refine meetB i p q hp hq (fun _=>?_) (fun _=>?_) <;> rcases hc with h|h <;> simp[nh,h]
  have wr_T:∀(i:Nat) (p:Oper×DRec) (t:Nat),(ops.toList.zip rs)[i]?=some p->(p.1.dst=some t∨cF p.2=true)->t∈vE ops o->listed.getD i false=decide (i<j):=fun i p t hp hd ht=>by
   rcases hd with hd|hd
   ·have hmem:wD p.1.dst (vE ops o)=true:=vt.2 ⟨t,hd,ht⟩
    exact meetT i p.1 (pget.1 hp).1 (fun _=>by simp[sE,hmem]) (fun _=>by simp[sE,hmem])
   ·exact meetF i p.1 p.2 (pget.1 hp).1 (pget.1 hp).2 (.inr hd)
  have wr_B:∀(i:Nat) (p:Oper×DRec) (id:Nat),(ops.toList.zip rs)[i]?=some p->(wid p.2=some id∨cF p.2=true)->id∈rc.rb->listed.getD i false=decide (i<j):=fun i p id hp hd ht=>by
   rcases hd with hd|hd
   ·have hmem:wD (wid p.2) rc.rb=true:=vt.2 ⟨id,hd,ht⟩
    exact meetB i p.1 p.2 (pget.1 hp).1 (pget.1 hp).2 (fun _=>by simp[nh,hmem]) (fun _=>by simp[nh,hmem])
   ·exact meetF i p.1 p.2 (pget.1 hp).1 (pget.1 hp).2 (.inr hd)
  have hset:(fun i=>(listed.setIfInBounds j true).getD i false)=fun i=>listed.getD i false||i==j:=by
   funext i
   by_cases hij:i=j
   ·subst hij
    simp[EH,hj']
   ·have h2:(i==j)=false:=by simpa using hij
    rw[h2,GF];simp[EH,Gb (Ne.symm hij)]
  have next:∀(G2:Gh) (a':Act) (w':World),RelS G2 (app o rc (bU (fun i=>listed.getD i false) 0 (ops.toList.zip rs) st)) a' w' r db->Gh.leM st.sg.length G1 G2->wpAnyIn (FW r) n P .any ops Q fuel (listed.setIfInBounds j true) a' w':=by
   intro G2 a' w' hS2 hle2;refine ih _ G2 a' w' (by simpa using hsz) ?_ ?_ ?_ (hle.trans hle2 (DS _))
   ·intro i hi
    have hi':(listed.getD i false||i==j)=true:=by rw[←congrFun hset i];exact hi
    rw[hset];intro o' ho' e he hb;rw[Fk]at hi';rcases hi' with h|h
    ·have:=hdown i h o' ho' e he hb
     simp only at this;simp[this]
    ·have hij:i=j:=by simpa using h
     subst hij;have:=hDj o' ho' e he hb
     simp only at this;simp[this]
   ·rw[hset]
    have:=Ds (f:=fun i=>listed.getD i false) (j:=j) hSj (n:=ops.size)
    rw[DZ hjn]at this;omega
   ·rw[hset]
    refine hS2.congr (fun t=>?_) (fun id=>?_) ?_
    ·refine rV _ 0 st (Ee _) hpj hSj fun i p hp hlt hc=>?_
     simp only[EG]at hlt ⊢;have:listed.getD i false=decide (i<j):=by
      rcases hc with hc|hc|⟨hd,hdp⟩
      ·exact meetF i p.1 p.2 (pget.1 hp).1 (pget.1 hp).2 (.inl hc)
      ·exact meetF i p.1 p.2 (pget.1 hp).1 (pget.1 hp).2 (.inr hc)
      ·have heq:eqO o.dst p.1.dst=true:=Aj.2 ⟨t,hd,hdp⟩
       exact meetT i p.1 (pget.1 hp).1 (fun h=>by omega) (fun _=>by simp[sE,heq])
     rw[this];simp;omega
    ·refine qq _ 0 st (Ee _) hpj hSj fun i p hp hlt hc=>?_
     simp only[EG]at hlt ⊢;have:listed.getD i false=decide (i<j):=by
      rcases hc with hc|hc|⟨hd,hdp⟩
      ·exact meetF i p.1 p.2 (pget.1 hp).1 (pget.1 hp).2 (.inl hc)
      ·exact meetF i p.1 p.2 (pget.1 hp).1 (pget.1 hp).2 (.inr hc)
      ·have heq:eqO (wid rc) (wid p.2)=true:=Aj.2 ⟨id,hd,hdp⟩
       exact meetB i p.1 p.2 (pget.1 hp).1 (pget.1 hp).2 (fun h=>by omega) (fun _=>by simp[nh,heq])
     rw[this];simp;omega
    ·rw[fn_eq]
     cases hf:rc.full with
     |some s=>rw[cq hf];exact(jQ _ st htxt (o,rc) (DU hpj) s hf).1.symm
     |none=>unfold app;rw[hf];exact(fn_eq _).symm
  have hsame:∀t,(t∈vE ops o∨cF rc=true)->b9 (bU (fun i=>listed.getD i false) 0 (ops.toList.zip rs) st).tm t=b9 (bU (fun i=>decide (i<0+j)) 0 (ops.toList.zip rs) st).tm t:=fun t ht=>by
   refine jz _ 0 st st (fun i p hp hd=>?_) rfl
   simp only[EG];rcases ht with ht|ht
   ·exact wr_T i p t hp hd ht
   ·exact meetF i p.1 p.2 (pget.1 hp).1 (pget.1 hp).2 (.inl ht)
  have hsameB:∀id:Nat,(id∈rc.rb∨cF rc=true)->(bU (fun i=>listed.getD i false) 0 (ops.toList.zip rs) st).sg[id]?=(bU (fun i=>decide (i<0+j)) 0 (ops.toList.zip rs) st).sg[id]?:=fun id hid=>by
   refine jH _ 0 st st (fun i p hp hd=>?_) rfl rfl
   simp only[EG];rcases hid with hid|hid
   ·exact wr_B i p id hp hd hid
   ·exact meetF i p.1 p.2 (pget.1 hp).1 (pget.1 hp).2 (.inl hid)
  have hlen0:=fn_ge fun i=>listed.getD i false
  unfold wpOpIn;simp only[ho];cases hf:rc.full with
  |some s =>
   have hfb:=cZ hf;obtain⟨f1,f2,f3,f4⟩:=hE.1 s hf;have hS':RelS G1 (bU (fun i=>decide (i<0+j)) 0 (ops.toList.zip rs) st) a w r db:=hS.congr (fun t=>(hsame t (.inr hfb)).symm) (fun id=>(hsameB id (.inr hfb)).symm) (by rw[fn_eq,fn_eq])
   have hwt:=kn hS'.tm f2;rw[DZ hwt];refine f4.2 r n G1 a w db _ Q hS' fun e a' w' G' he hs' hl'=>.inl ⟨he.normal',?_⟩
   refine next G' a' w' ?_ (hl'.less (fn_ge _));rw[cq hf];exact hs'
  |none =>
  have hEv:EvAt P ora T ops (bU (fun i=>listed.getD i false) 0 (ops.toList.zip rs) st) o rc :=
   wU hf hE (by rw[fn_eq,fn_eq]) (fun t ht=>hsame t (.inl ht)) (fun id hid=>hsameB id (.inl hid))
  have happ:∀st:St,app o rc st={ tm:=putD st.tm o.dst rc.v,n:=st.n,sg:=Lm st.sg rc.ef }:=fun st=>by unfold app;rw[hf]
  obtain⟨e1,e2,e3,e4,e5⟩:=hEv.2 hf;have hwt:=kn hS.tm e2;cases hw:rc.want with
  |true =>
   rw[hw]at hwt;rw[DZ hwt];obtain⟨q1,q2,q3⟩:=e4 hw;have hrun:=dE.at (P:=P) hT hora e1 q3 q1 q2;refine hrun.2 r n G1 a w db _ Q hS fun e a' w' G' he hs' hl'=>.inl ⟨he.normal',?_⟩
   refine next G' a' w' ?_ (hl'.less hlen0);rw[happ];exact hs'
  |false =>
   rw[hw]at hwt;rw[D5 (by rw[hwt];simp)]
   obtain⟨q1,q2⟩:=e5 hw;refine⟨fun f _=>trivial,?_⟩
   have:=hS.put e1 (v:=.tuple []) (u:=Go.undef) (.tuple rfl fun j c u h=>by simp at h)
   refine next G1 _ w ?_ (bK _ _);rw[happ,q1,q2];exact this
theorem Run.draw(hT:TyT P T)(hora:Nk P ora)(hm:P.follows .mixedOrders=true){id:Nat}{st:St}(rs:List DRec)(hl:rs.length=ops.size)(hst:iS ops=true)(htxt:sr P ora T ops (ops.toList.zip rs) st)(hbx:nq ops rs=true):
 Run P (.region id ops true) st .normal (bU (fun _=>true) 0 (ops.toList.zip rs) st):=by
 refine⟨pD _ _ 0 st (fun p hp s hs=>(jQ _ st htxt p hp s hs).2) (DS _),fun r n G a w db Q hs k=>wpIn_region_any hm ?_⟩
 have hR':=hs.rel.keep (vP w);refine draw_inv hT hora hl hst htxt hbx (G:=G) (fun a' w' G' h1 h2=>k _ a' w' G' trivial h1 h2) ops.size _ G a _ (by simp) (fun j h=>?_) ?_ ?_ (bK _ _)
 ·have:(Array.replicate ops.size false).getD j false=false:=by
   by_cases hj:j<ops.size <;> simp[EH,hj]
  rw[this]at h;cases h
 ·have:∀(f:Nat->Bool) (n:Nat),cnt f n<=n:=by
   intro f n;induction n with
   |zero=>exact DS _
   |succ n ih=>unfold cnt;split <;> omega
  exact this _ _
 ·have hz:(fun i=>(Array.replicate ops.size false).getD i false)=fun _=>false:=by
   funext j
   by_cases hj:j<ops.size <;> simp[EH,hj]
  rw[hz,iA];exact⟨hR',hs.tm,hs.n,hs.dfr,hs.rd⟩
end
mutual
def PV.ltB(m:Nat):PV->Bool
 |.bool _=>true
 |.int _ _=>true
 |.str _=>true
 |.nilp=>true
 |.nilm=>true
 |.nilf=>true
 |.nili=>true
 |.sl _ es=>bD m es
 |.ms id _=>Nat.blt id m
 |.mp id=>Nat.blt id m
 |.im ks vs=>bD m ks&&bD m vs
 |.fn _ a b=>bD m a&&bD m b
 |.iface _ v=>v.ltB m
 |.agg cs=>bD m cs
 |.tuple vs=>bD m vs
 |.bp id _=>Nat.blt id m
 |.rp id _ _ _=>Nat.blt id m
 |.pf id _ _=>Nat.blt id m
 |.ip cs=>bD m cs
 |.yl id=>Nat.blt id m
def bD(m:Nat):List PV->Bool
 |[]=>true
 |v::vs=>v.ltB m&&bD m vs
end
def Box.ltB(m:Nat):Box->Bool
 |.var cs _=>bD m cs
 |.row _ _ _ es _=>bD m es
 |.map ks vs _=>bD m ks&&bD m vs
 |.loop r=>r.tm.all fun p=>p.2.ltB m
 |_=>true
abbrev CallF:=FuncId->List PV->List Box->Option (PRes×List Box)
abbrev dF:=Nat->List PV->List Box->Option (PRes×List Box)
def dOk(o:Oper)(n:Nat):Bool :=
 match o.dst with
 |some d=>Nat.blt d n
 |none=>true
def zm(me:Meth)(cf:CallF)(yf:dF)(T:TypeId->TyI)(st:St)(o:Oper):Option (Out×St) :=
 let fin (r:Option (PRes×List Box)):Option (Out×St) :=
  match r with
  |some (.ret v,sg')=>some (.normal,{ tm:=putD st.tm o.dst v,n:=st.n,sg:=sg' })
  |some (.pan v,sg')=>some (.panic v,{ tm:=st.tm,n:=st.n,sg:=sg' })
  |none=>none
 let prim:Option (Out×St):=match opC T st.tm (sgN o.op st.sg) st.sg.length o.op with
  |some (v,ef)=>if effB ef=true then some (.normal,{ tm:=putD st.tm o.dst v,n:=st.n,sg:=Lm (sgN o.op st.sg) ef })else none
  |none=>none
 if dOk o st.n=true then
  match o.op with
  |.panic x=>match evO st.tm x with
   |some (.iface t v)=>some (.panic (.iface t v),st)
   |_=>none
  |.call c=>match c.callee with
   |.value fo=>match evO st.tm fo,Ms st.tm c.args.toList with
    |some (.fn (.func g) first cap),some vs=>fin (cf g (first++(vs++cap)) st.sg)
    |some (.yl id),some vs=>fin (yf id vs st.sg)
    |_,_=>none
   |.invoke r name=>match evO st.tm r,Ms st.tm c.args.toList with
    |some (.iface t v),some vs=>match me t name with
     |some g=>fin (cf g (v::vs) st.sg)
     |none=>none
    |_,_=>none
   |_=>prim
  |_=>prim
 else none
def gH(me:Meth)(cf:CallF)(yf:dF)(T:TypeId->TyI)(ops:Array Oper):List Oper->St->Option (Out×St)
 |[],st=>some (.normal,st)
 |o::os,st=>match E1 ops st.tm o with
  |some true=>match zm me cf yf T st o with
   |some (.normal,st')=>gH me cf yf T ops os st'
   |r=>r
  |some false=>if dOk o st.n=true then gH me cf yf T ops os { tm:=putD st.tm o.dst (.tuple []),n:=st.n,sg:=st.sg }else none
  |none=>none
def wS(cf:CallF)(g:FuncId)(args:List PV):Option (PV×Option Box):=match cf g args []with
 |some (.ret v,[])=>some (v,none)
 |some (.ret (.ms 0 n),[.row false e k es false])=>if n=es.length∧ad es=true then some (.ms 0 n,some (.row false e k es false))else none
 |_=>none
def pV(me:Meth)(cf:CallF):Ora:=⟨wS cf,me,none⟩
def zK(sg:List Box)(fid:Nat):Bool :=
 match sg[fid]? with
 |some .dead=>true
 |_=>false
def ya(me:Meth)(cf:CallF)(yf:dF)(T:TypeId->TyI)(ops:Array Oper):List Oper->Nat->St->Option (List DRec×St)
 |[],_,st=>some ([],st)
 |o::os,fid,st =>
  let new:=mX o.op
  let rb:=if new then fid::gM st.tm o.op else gM st.tm o.op
  let go (r:DRec):Option (List DRec×St):=match ya me cf yf T ops os (if new then fid+1 else fid) (app o r st)with
   |some (rs,st')=>some (r::rs,st')
   |none=>none
  if dOk o st.n=true then
   match E1 ops st.tm o with
   |some true=>match opD (pV me cf) T st.tm st.sg fid o.op with
    |some (v,ef)=>if effB ef=true∧(!new||zK st.sg fid)=true then go { want:=true,fid,v,ef,rb,full:=none }else none
    |none=>match zm me cf yf T st o with
     |some (.normal,st1)=>go { want:=true,fid,v:=.tuple [],ef:=none,rb,full:=some st1 }
     |_=>none
   |some false=>go { want:=false,fid,v:=.tuple [],ef:=none,rb,full:=none }
   |none=>none
  else none
def fh:List Oper->Nat
 |[]=>0
 |o::os=>(if mX o.op then 1 else 0)+fh os
def br:List PV->List PV->List PV
 |[],_=>[]
 |.agg c0::es,cs=>.agg (cs.take c0.length)::br es (cs.drop c0.length)
 |_::es,c::cs=>c::br es cs
 |_::_,[]=>[]
def uW(f:List Box->PV->PV×List Box)(sg:List Box)(v:PV):PV×List Box :=
 match v with
 |.sl z es=>let r:=cO f sg (flat es);(.sl z (br es r.1),r.2)
 |.agg cs=>let r:=cO f sg cs;(.agg r.1,r.2)
 |.tuple vs=>let r:=cO f sg vs;(.tuple r.1,r.2)
 |.fn g a b=>let r:=cO f sg a;let q:=cO f r.2 b;(.fn g r.1 q.1,q.2)
 |.iface t v=>let r:=f sg v;(.iface t r.1,r.2)
 |.ip cs=>let r:=cO f sg cs;(.ip r.1,r.2)
 |.im ks vs=>let r:=cO f sg vs;(.im ks r.1,r.2)
 |v=>(v,sg)
def frzX(d:Option Nat):Nat->List Box->PV->PV×List Box
 |0,sg,v=>(v,sg)
 |n+1,sg,v=>if v.closed=true then(v,sg)else
  let r:=fC d sg v
  uW (frzX d n) r.2 r.1
def bW(sg:List Box):List Nat->List Box
 |[]=>sg
 |id::ids=>bW (match sg[id]? with
  |some (.row z e k es _)=>let r:=cO (frzX none 5) sg (flat es);r.2.set id (.row z e k (br es r.1) true)
  |some (.map ks vs _)=>sg.set id (.map ks vs true)
  |_=>sg) ids
def defOf:List Oper->Nat->Option (Oper×List Oper)
 |[],_=>none
 |o::os,t=>if o.dst==some t then some (o,os)else defOf os t
def preT(T:TypeId->TyI)(st:St):Nat->List Oper->Nat->Option PV
 |0,_,_=>none
 |k+1,ops,t=>match defOf ops t with
  |none=>b9 st.tm t
  |some (o,os)=>match o.op with
   |.call _=>none
   |op=>if mX op=true then none else
    match opC T ((opTs op).filterMap fun s=>match preT T st k os s with|some v=>some (s,v)|none=>none) st.sg 0 op with
    |some (v,none)=>some v
    |_=>none
def plainT(T:TypeId->TyI)(t:TypeId):Bool :=
 match (T t).kinds with
 |some _=>true
 |none=>match (T t).d with
  |.slice e=>(match (T e).kinds with|some _=>true|none=>false)
  |_=>false
def Ow(sk:Bool)(T:TypeId->TyI)(st:St):List Oper->List Oper->List Nat
 |_,[]=>[]
 |pre,o::os =>
  let ids (x:Operand):List Nat:=match x with
   |.tmp t=>match preT T st 8 pre t with
    |some v=>v.deep1
    |none=>[]
   |_=>[]
  (match o.op with
  |.call c=>match c.callee with
   |.value fo=>if(sk&&plainT T o.type)=true then ids fo else ids fo++c.args.toList.flatMap ids
   |_=>[]
  |.slice _ x _ _ _=>ids x
  |_=>[])++Ow sk T st (o::pre) os
def jY(me:Meth)(cf:CallF)(yf:dF)(T:TypeId->TyI)(ops:Array Oper)(st:St)(ids:List Nat):Option (Out×St) :=
 let sg0:=bW st.sg ids
 let st0:St:={ tm:=st.tm,n:=st.n,sg:=sg0++List.replicate (fh ops.toList) .dead }
 match ya me cf yf T ops ops.toList st.sg.length st0 with
 |some (rs,st')=>if iS ops=true∧nq ops rs=true then some (.normal,st')else none
 |none=>none
def nD(me:Meth)(cf:CallF)(yf:dF)(T:TypeId->TyI)(ops:Array Oper)(st:St):Option (Out×St) :=
 match jY me cf yf T ops st (Ow true T st [] ops.toList)with
 |some r=>some r
 |none=>jY me cf yf T ops st (Ow false T st [] ops.toList)
inductive Task where
 |code (c:Code) (st:St)
 |call (f:FuncId) (args:List PV) (sg:List Box)
 |yield (id:Nat) (args:List PV) (sg:List Box)
inductive Res where
 |code (o:Out) (st:St)
 |call (r:PRes) (sg:List Box)
def keepT(tm0 tm:List (Nat×PV)):List (Nat×PV):=tm.filter fun p=>hasT tm0 p.1
def dl(sg:List Box):Bool:=sg.all fun b=>!isLoopB b
def trim(m:Nat)(tm0:List (Nat×PV))(st:St):St :=
 let tm:=keepT tm0 st.tm
 let sg:=st.sg.take m
 if(tm.all fun p=>p.2.ltB m)=true∧(sg.all fun b=>b.ltB m)=true∧dl (st.sg.drop m)=true then{ tm,n:=st.n,sg }else{ tm,n:=st.n,sg:=st.sg }
def kh(sg:List Box)(id:Nat):Bool :=
 match sg[id]? with
 |some (.row _ _ _ _ false)=>true
 |_=>false
def bR(m:Nat)(v:PV)(sg:List Box):PV×List Box :=
 if m=0 then
  let r:=frzX (some 0) 8 sg v
  if r.1.ltB 0=true then(r.1,[])else(v,sg)
 else(v,sg)
def gB(m:Nat)(v:PV)(sg:List Box):PV×List Box :=
 if v.ltB m=true∧((sg.take m).all fun b=>b.ltB m)=true then(v,sg.take m)else
 match v with
 |.ms id _=>match sg[id]? with
  |some (.row false e k es _) =>
   let q:=cO (frzX (some m) 6) sg (flat es)
   if Nat.ble m id=true∧bD m (br es q.1)=true∧((q.2.take m).all fun b=>b.ltB m)=true∧kh q.2 id=true then(.ms m (match v with|.ms _ n=>n|_=>0),q.2.take m++[.row false e k (br es q.1) false])else bR m v sg
  |_=>bR m v sg
 |_=>bR m v sg
def cJ(sg:List Box)(id:Nat)(s:LoopState)(p:Option Code):List Box :=
 match sg[id]? with
 |some (.loop r)=>sg.set id (.loop { r with st:=s,pend:=p })
 |_=>sg
def uT:Out->Option (Option Code)
 |.normal=>some none
 |.ret=>some (some .ret)
 |.exit i=>some (some (.exit i))
 |.goto i=>some (some (.goto i))
 |.panic _=>none
def oS(tm:List (Nat×PV)):List Nat->List PV->List (Nat×PV)
 |p::ps,v::vs=>oS (jW tm p v) ps vs
 |_,_=>tm
def qZ(ev:Task->Option Res):CallF:=fun f args sg=>match ev (.call f args sg)with
 |some (.call r sg')=>some (r,sg')
 |_=>none
def pO(ev:Task->Option Res):dF:=fun id args sg=>match ev (.yield id args sg)with
 |some (.call r sg')=>some (r,sg')
 |_=>none
def resOf(r:Option (Out×St)):Option Res :=
 match r with
 |some (o,st)=>some (.code o st)
 |none=>none
def iQ(P:Program)(me:Meth)(T:TypeId->TyI)(prim:CallF->FuncId->List PV->List Box->Option (Option (PRes×List Box)))(ev:Task->Option Res):Task->Option Res
 |.code c st=>match c with
  |.skip=>some (.code .normal st)
  |.label _=>some (.code .normal st)
  |.ret=>some (.code .ret st)
  |.exit id=>some (.code (.exit id) st)
  |.scope b=>match ev (.code b st)with
   |some (.code (.goto _) _)=>none
   |r=>r
  |.region _ ops false=>resOf (gH me (qZ ev) (pO ev) T ops ops.toList st)
  |.region _ ops true=>resOf (nD me (qZ ev) (pO ev) T ops st)
  |.seq a b=>match ev (.code a st)with
   |some (.code .normal st1)=>ev (.code b st1)
   |r=>r
  |.cond c a b=>match evO st.tm c with
   |some (.bool true)=>ev (.code a st)
   |some (.bool false)=>ev (.code b st)
   |_=>none
  |.block id b=>match ev (.code b st)with
   |some (.code o st1)=>some (.code (o.inBlock id) st1)
   |_=>none
  |.loop b=>match ev (.code b st)with
   |some (.code .normal st1)=>ev (.code (.loop b) (trim st.sg.length st.tm st1))
   |r=>r
  |.rangeFunc f ps as0 b=>match evO st.tm f with
   |some (.fn (.func g) first cap) =>
    let id:=st.sg.length
    match ev (.call g (first++(.yl id::cap)) (st.sg++[.loop { tm:=st.tm,n:=st.n,params:=ps.toList,assign:=as0,body:=b,st:=.ready,pend:=none }]))with
    |some (.call (.ret _) sg')=>match sg'[id]? with
     |some (.loop r)=>if r.st==.busy then none else match r.pend with
      |none=>some (.code .normal { st with sg:=sg'.set id .gone })
      |some c=>ev (.code c { st with sg:=sg'.set id .gone })
     |_=>none
    |_=>none
   |_=>none
  |_=>none
 |.call f args sg=>match prim (qZ ev) f args sg with
  |some r=>match r with
   |some (r,sg')=>some (.call r sg')
   |none=>none
  |none=>match P.funcs[f]? with
   |some fn=>match fn.body with
    |some c=>match ev (.code c { tm:=ik 0 args,n:=args.length+(fn.ntmps-args.length),sg })with
     |some (.code (.panic v) st')=>if aR sg st'.sg=true then some (.call (.pan v) st'.sg)else none
     |some (.code o st')=>if o.ends=true then match si T st' fn.results with
      |some v=>let r:=gB sg.length v st'.sg;if aR sg st'.sg=true∧aR sg r.2=true then some (.call (.ret r.1) r.2)else none
      |none=>none
      else none
     |_=>none
    |none=>none
   |none=>none
 |.yield id args sg=>match sg[id]? with
  |some (.loop r)=>if r.params.length=args.length∧(r.params.all fun p=>Nat.blt p r.n)=true then
   match ev (.code r.assign { tm:=oS r.tm r.params args,n:=r.n,sg })with
   |some (.code .normal st1)=>match st1.sg[id]? with
    |some (.loop r1)=>if r1.st==.ready then
     match ev (.code r.body { st1 with sg:=cJ st1.sg id .busy r1.pend })with
     |some (.code o st2)=>match uT o with
      |some j=>let sgF:=cJ st2.sg id (if j.isNone then .ready else .done) j;if aR sg sgF=true then some (.call (.ret (.bool j.isNone)) sgF)else none
      |none=>none
     |_=>none
     else none
    |_=>none
   |_=>none
   else none
  |_=>none
def ev(P:Program)(me:Meth)(T:TypeId->TyI)(prim:CallF->FuncId->List PV->List Box->Option (Option (PRes×List Box))):Nat->Task->Option Res
 |0,_=>none
 |k+1,t=>iQ P me T prim (ev P me T prim k) t
section
variable {P:Program} {T:TypeId->TyI} {G:Gh} {sg:List Box} {w:World}
theorem mC{c:PV}(h:c.one=true):c.cells=[c]:=by cases c <;> first|rfl|(simp[PV.one]at h)
theorem dW:∀(es cs:List PV),cs.length=(flat es).length->(∀c∈cs,c.one=true)->flat (br es cs)=cs∧(br es cs).length=es.length∧∀k,(∀e∈es,e.cells.length=k)->∀e∈br es cs,e.cells.length=k
 |[],cs,hl,_=>by
  have:cs=[]:=EB (by simpa[flat]using hl)
  subst this;exact⟨rfl,rfl,fun k h e he=>by cases he⟩
 |x::es,cs,hl,ho=>by
  rw[bg,Ea]at hl;have single:x.cells=[x]->(∀c0,x≠.agg c0)->flat (br (x::es) cs)=cs∧(br (x::es) cs).length=(x::es).length∧∀k,(∀e∈x::es,e.cells.length=k)->∀e∈br (x::es) cs,e.cells.length=k:=by
   intro hx hna;cases cs with
   |nil=>rw[hx]at hl;simp at hl;omega
   |cons c cs =>
    have e:br (x::es) (c::cs)=c::br es cs:=by cases x <;> first|rfl|(exact absurd rfl (hna _))
    obtain⟨a,b,d⟩:=dW es cs (by rw[hx]at hl;simp at hl;omega) (fun y hy=>ho y (DW _ hy))
    have hc:=mC (ho c (DV ..));rw[e];refine⟨by rw[bg,a,hc];rfl,by simp[b],fun k hk y hy=>?_⟩
    rcases D6.1 hy with rfl|hy
    ·rw[hc,←hk x (DV ..),hx];rfl
    ·exact d k (fun z hz=>hk z (DW _ hz)) y hy
  cases x
  case agg c0 =>
   have hl':cs.length=c0.length+(flat es).length:=hl;obtain⟨a,b,d⟩:=dW es (cs.drop c0.length) (by simp;omega) (fun y hy=>ho y (Fc hy))
   show flat (.agg (cs.take c0.length)::br es (cs.drop c0.length))=cs∧_;refine⟨by rw[bg,a];exact Ff ..,by show(_::br es _).length=_;simp[b],fun k hk y hy=>?_⟩
   have hy':y∈PV.agg (cs.take c0.length)::br es (cs.drop c0.length):=hy;rcases D6.1 hy' with rfl|hy
   ·have:=hk (.agg c0) (DV ..)
    simp only[PV.cells]at this ⊢;simp;omega
   ·exact d k (fun z hz=>hk z (DW _ hz)) y hy
  all_goals exact single rfl (fun c0 h=>by cases h)
def FrzOk(w:World)(f:List Box->PV->PV×List Box):Prop :=
 ∀{G:Gh} {sg:List Box} {v:PV} {u:Value},Rel G sg w->Rep G v u->∃G',Rel G' (f sg v).2 w∧G.le G'∧G'.dfr=G.dfr∧Rep G' (f sg v).1 u∧((f sg v).1.one=v.one∧(f sg v).1.ag=v.ag)∧(f sg v).2.length=sg.length
theorem frzC_ok{f:List Box->PV->PV×List Box}(hf:FrzOk w f):FrzOk w (uW f):=by
 intro G sg v u hR hv;have same:uW f sg v=(v,sg)->∃G',Rel G' (uW f sg v).2 w∧G.le G'∧G'.dfr=G.dfr∧Rep G' (uW f sg v).1 u∧((uW f sg v).1.one=v.one∧(uW f sg v).1.ag=v.ag)∧(uW f sg v).2.length=sg.length:=by
  intro e;rw[e];exact⟨G,hR,G.le_refl,rfl,hv,⟨rfl,rfl⟩,rfl⟩
 have hf':∀{G:Gh} {sg:List Box} {v:PV} {u:Value},Rel G sg w->Rep G v u->∃G',Rel G' (f sg v).2 w∧G.le G'∧G'.dfr=G.dfr∧Rep G' (f sg v).1 u∧((f sg v).1.one=v.one∧(f sg v).1.ag=v.ag)∧(f sg v).2.length=sg.length:=fun a b=>hf a b
 cases v
 case sl z es =>
  cases hv with
  |nils=>exact⟨G,hR,G.le_refl,rfl,.nils,⟨rfl,rfl⟩,rfl⟩
  |sl hz hfu k us hk h1 hc hm hS hr hsp =>
   rename_i g off cap sp;obtain⟨G',a1,a2,a3,a4,a5,a6,a7⟩:=fk f hf' (vs:=flat es) (us:=(List.range (flat es).length).map us) hR (by simp) (fun j c u hc hu=>by
    have hj:=(DR.1 hc).1;simp[hj]at hu;subst hu;exact hr j c hc)
   obtain⟨b1,b2,b3⟩:=dW es (cO f sg (flat es)).1 a4 (a6 h1);refine⟨G',a1,a2,a3,?_,⟨rfl,rfl⟩,a7⟩;show Rep G' (.sl z (br es (cO f sg (flat es)).1)) _;have key:Rep G' (.sl z (br es (cO f sg (flat es)).1)) (.slice (some ⟨g,off,sp⟩) (br es (cO f sg (flat es)).1).length cap):=by
    refine .sl hz (fun e=>by rw[b2];exact hfu e) k us (b3 k hk) (fun c hc=>by rw[b1]at hc;exact a6 h1 c hc) (by rw[b2];exact hc) hm (fun j c hj=>?_) (fun j c hj=>?_) hsp
    ·rw[b1]at hj
     have hlt:j<(flat es).length:=by rw[←a4];exact(DR.1 hj).1
     exact a2.S _ _ _ (hS j _ (DT hlt))
    ·rw[b1]at hj
     have hlt:j<(flat es).length:=by rw[←a4];exact(DR.1 hj).1
     exact a5 j c (us j) hj (by simp[hlt])
   rw[b2]at key;exact key
 case agg cs =>
  cases hv with
  |agg hl h1 hr =>
   rename_i us;obtain⟨G',a1,a2,a3,a4,a5,a6,a7⟩:=fk f hf' (vs:=cs) (us:=us.toList) hR (by simpa using hl) (fun j c u hc hu=>hr j c u hc (by simpa using hu))
   exact⟨G',a1,a2,a3,.agg (by show us.size=(cO f sg cs).1.length;rw[a4,hl]) (a6 h1) fun j c u hc hu=>a5 j c u hc (by simpa using hu),⟨rfl,rfl⟩,a7⟩
 case tuple cs =>
  cases hv with
  |tuple hl hr =>
   rename_i us;obtain⟨G',a1,a2,a3,a4,a5,a6,a7⟩:=fk f hf' (vs:=cs) (us:=us.toList) hR (by simpa using hl) (fun j c u hc hu=>hr j c u hc (by simpa using hu))
   exact⟨G',a1,a2,a3,.tuple (by show us.size=(cO f sg cs).1.length;rw[a4,hl]) fun j c u hc hu=>a5 j c u hc (by simpa using hu),⟨rfl,rfl⟩,a7⟩
 case fn g a b =>
  cases hv with
  |fn hfn h1 h2 hr1 hr2 =>
   rename_i us vs;obtain⟨G1,a1,a2,a3,a4,a5,a6,a7⟩:=fk f hf' (vs:=a) (us:=us.toList) hR (by simpa using h1) (fun j c u hc hu=>hr1 j c u hc (by simpa using hu))
   obtain⟨G2,b1,b2,b3,b4,b5,b6,b7⟩:=fk f hf' (vs:=b) (us:=vs.toList) a1 (by simpa using h2) (fun j c u hc hu=>(hr2 j c u hc (by simpa using hu)).mono a2)
   exact⟨G2,b1,Gh.le_trans a2 b2,b3.trans a3,.fn hfn (by show us.size=(cO f sg a).1.length;rw[a4,h1]) (by show vs.size=(cO f (cO f sg a).2 b).1.length;rw[b4,h2]) (fun j c u hc hu=>(a5 j c u hc (by simpa using hu)).mono b2) (fun j c u hc hu=>b5 j c u hc (by simpa using hu)),⟨rfl,rfl⟩,b7.trans a7⟩
 case iface t v =>
  cases hv with
  |iface h =>
   obtain⟨G',a1,a2,a3,a4,_,a6⟩:=hf hR h;exact⟨G',a1,a2,a3,.iface a4,⟨rfl,rfl⟩,a6⟩
 case ip cs =>
  cases hv with
  |ip us h1 hS hr =>
   obtain⟨G',a1,a2,a3,a4,a5,a6,a7⟩:=fk f hf' (vs:=cs) (us:=(List.range cs.length).map us) hR (by simp) (fun j c u hc hu=>by
    have hj:=(DR.1 hc).1;simp[hj]at hu;subst hu;exact hr j c hc)
   refine⟨G',a1,a2,a3,.ip us (a6 h1) (fun j c hj=>?_) (fun j c hj=>?_),⟨rfl,rfl⟩,a7⟩
   ·have hlt:j<cs.length:=by rw[←a4];exact(DR.1 hj).1
    exact a2.S _ _ _ (hS j _ (DT hlt))
   ·have hlt:j<cs.length:=by rw[←a4];exact(DR.1 hj).1
    exact a5 j c (us j) hj (by simp[hlt])
 case im ks vs =>
  cases hv with
  |im hs hp hk hvl hrk hrv =>
   rename_i g es c ls;obtain⟨G',a1,a2,a3,a4,a5,a6,a7⟩:=fk f hf' (vs:=vs) (us:=ls.map (·.val)) hR (by simpa using hvl.symm) (fun j c u hc hu=>by
    simp only[Eh,EC]at hu;obtain⟨e,he,rfl⟩:=hu;exact hrv j e c (by simpa using he) hc)
   exact⟨G',a1,a2,a3,.im (a2.SM _ _ hs) hp hk (by show(cO f sg vs).1.length=ls.length;rw[a4,hvl]) (fun j e k h1 h2=>(hrk j e k h1 h2).mono a2) (fun j e v h1 h2=>a5 j v e.val h2 (by simp[h1])),⟨rfl,rfl⟩,a7⟩
 all_goals exact same rfl
theorem sR(d:Option Nat)(n:Nat):FrzOk w (frzX d n):=by
 induction n with
 |zero =>
  intro G sg v u hR hv;exact⟨_,hR,Gh.le_refl _,rfl,hv,⟨rfl,rfl⟩,rfl⟩
 |succ n ih =>
  intro G sg v u hR hv;unfold frzX;split
  ·exact⟨G,hR,G.le_refl,rfl,hv,⟨rfl,rfl⟩,rfl⟩
  ·obtain⟨G1,a1,a2,a3,a4,a5,a6⟩:=gp hR d hv
   obtain⟨G2,b1,b2,b3,b4,b5,b6⟩:=frzC_ok ih a1 a4;exact⟨G2,b1,Gh.le_trans a2 b2,b3.trans a3,b4,⟨b5.1.trans a5.1,b5.2.trans a5.2⟩,b6.trans a6⟩
def LA(f:List Box->PV->PV×List Box):Prop:=∀(sg:List Box) (v:PV) (id:Nat) (lr:LoopR),((f sg v).2[id]?=some (.loop lr)↔sg[id]?=some (.loop lr))
theorem lO{sg:List Box}{id:Nat}{b b':Box}(h:sg[id]?=some b)(hb:isLoopB b=false)(hb':isLoopB b'=false)(j:Nat)(lr:LoopR):((sg.set id b')[j]?=some (.loop lr)↔sg[j]?=some (.loop lr)):=by
 by_cases hj:id=j
 ·subst hj
  rw[D4 (DR.1 h).1,h];constructor <;> intro e <;> cases e
  ·cases hb'
  ·cases hb
 ·rw[D8 hj]
theorem wG(d:Option Nat):LA (fC d):=by
 intro sg v id lr;unfold fC;split
 ·split
  ·split
   ·exact lO ‹_› rfl rfl id lr
   ·exact Iff.rfl
  ·exact Iff.rfl
 ·split
  ·exact lO ‹_› rfl rfl id lr
  ·exact Iff.rfl
 ·split
  ·split
   ·split
    ·exact lO ‹_› rfl rfl id lr
    ·exact Iff.rfl
   ·exact Iff.rfl
  ·exact Iff.rfl
 ·exact Iff.rfl
theorem fS{f:List Box->PV->PV×List Box}(hf:LA f):∀(vs:List PV) (sg:List Box) (id:Nat) (lr:LoopR),((cO f sg vs).2[id]?=some (.loop lr)↔sg[id]?=some (.loop lr))
 |[],sg,id,lr=>Iff.rfl
 |v::vs,sg,id,lr=>(fS hf vs (f sg v).2 id lr).trans (hf sg v id lr)
theorem wE{f:List Box->PV->PV×List Box}(hf:LA f):LA (uW f):=by
 intro sg v id lr;cases v <;> first|exact Iff.rfl|exact fS hf _ sg id lr|exact hf _ _ _ _|skip
 exact(fS hf _ _ id lr).trans (fS hf _ sg id lr)
theorem nN(d:Option Nat):∀n,LA (frzX d n)
 |0=>fun sg v id lr=>Iff.rfl
 |n+1=>fun sg v id lr=>by
  unfold frzX;split
  ·exact Iff.rfl
  ·exact(wE (nN d n) _ _ id lr).trans (wG d sg v id lr)
def iD(f:List Box->PV->PV×List Box):Prop:=∀(sg:List Box) (v:PV) (id:Nat) (z:Bool) (e:TypeId) (k:Nat) (es:List PV) (frz:Bool),sg[id]?=some (.row z e k es frz)->∃frz',(f sg v).2[id]?=some (.row z e k es frz')
theorem yG(d:Option Nat):iD (fC d):=by
 intro sg v id z e k es frz h;have keep:∀(i:Nat) (b b':Box),sg[i]?=some b->i≠id->∃frz',(sg.set i b')[id]?=some (.row z e k es frz'):=fun i b b' hb hne=>⟨frz,by rw[D8 hne];exact h⟩
 unfold fC;split
 ·rename_i i n
  split
  ·rename_i hb
   split
   ·by_cases hi:i=id
    ·subst hi
     rw[h]at hb;cases hb;exact⟨true,by rw[D4 (DR.1 h).1]⟩
    ·exact keep i _ _ hb hi
   ·exact⟨frz,h⟩
  ·exact⟨frz,h⟩
 ·rename_i i
  split
  ·rename_i hb
   exact keep i _ _ hb (fun e=>by subst e;rw[h]at hb;cases hb)
  ·exact⟨frz,h⟩
 ·rename_i i off
  split
  ·split
   ·split
    ·rename_i hb
     exact keep i _ _ hb (fun e=>by subst e;rw[h]at hb;cases hb)
    ·exact⟨frz,h⟩
   ·exact⟨frz,h⟩
  ·exact⟨frz,h⟩
 ·exact⟨frz,h⟩
theorem fN{f:List Box->PV->PV×List Box}(hf:iD f):∀(vs:List PV) (sg:List Box) (id:Nat) (z:Bool) (e:TypeId) (k:Nat) (es:List PV) (frz:Bool),sg[id]?=some (.row z e k es frz)->∃frz',(cO f sg vs).2[id]?=some (.row z e k es frz')
 |[],sg,id,z,e,k,es,frz,h=>⟨frz,h⟩
 |v::vs,sg,id,z,e,k,es,frz,h=>by
  obtain⟨frz',h'⟩:=hf sg v id z e k es frz h;exact fN hf vs (f sg v).2 id z e k es frz' h'
theorem yi{f:List Box->PV->PV×List Box}(hf:iD f):iD (uW f):=by
 intro sg v id z e k es frz h;cases v <;> first|exact⟨frz,h⟩|exact fN hf _ sg id z e k es frz h|exact hf _ _ _ _ _ _ _ _ h|skip
 rename_i g a b;obtain⟨frz',h'⟩:=fN hf a sg id z e k es frz h;exact fN hf b _ id z e k es frz' h'
theorem mQ(d:Option Nat):∀n,iD (frzX d n)
 |0=>fun sg v id z e k es frz h=>⟨frz,h⟩
 |n+1=>fun sg v id z e k es frz h=>by
  unfold frzX;split
  ·exact⟨frz,h⟩
  ·obtain⟨frz',h'⟩:=yG d sg v id z e k es frz h
   exact yi (mQ d n) _ _ id z e k es frz' h'
theorem Rel.rebox(hR:Rel G sg w){id:Nat}{s:Slot}{b':Box}(hs:G.rho[id]?=some s)(hok:BoxOk G w s b'):Rel G (sg.set id b') w:=by
 have hid:id<sg.length:=by rw[←hR.len];exact(DR.1 hs).1
 refine⟨hR.below,by simp[hR.len],fun j t c ht hc=>?_,hR.inj,hR.st,hR.stM,hR.dfr,hR.tab⟩
 by_cases hj:id=j
 ·subst hj
  rw[D4 hid]at hc;cases hc;rw[hs]at ht;cases ht;exact hok
 ·rw[D8 hj]at hc
  exact hR.box j t c ht hc
theorem y6(hR:Rel G sg w){id:Nat}{z frz:Bool}{e:TypeId}{k:Nat}{es:List PV}(hb:sg[id]?=some (.row z e k es frz)){f:List Box->PV->PV×List Box}(hf:FrzOk w f)(hfr:iD f):
 ∃G',Rel G' ((cO f sg (flat es)).2.set id (.row z e k (br es (cO f sg (flat es)).1) true)) w∧G.le G'∧G'.dfr=G.dfr:=by
 obtain⟨s,hs,hok⟩:=hR.slot hb;cases s with
 |dead=>exact hok.elim
 |blk g=>exact hok.elim
 |lp g d=>exact hok.elim
 |row v n k' =>
 obtain⟨rfl,rfl,hz,hk,h1,⟨us,how,hL⟩,hS⟩:=hok;have hul:us.length=(flat es).length:=by simpa using hL.1
 obtain⟨G1,a1,a2,a3,a4,a5,a6,a7⟩:=fk f (fun a b=>hf a b) (vs:=flat es) (us:=us) hR hul (fun j c u hc hu=>hL.2 j c u hc (by simpa using hu))
 obtain⟨b1,b2,b3⟩:=dW es (cO f sg (flat es)).1 a4 (a6 h1);obtain⟨frz',hb1⟩:=fN hfr (flat es) sg id z e k es frz hb;obtain⟨s1,hs1,hle1⟩:=a2.rho id _ hs;have hok1:=a1.box id s1 _ hs1 hb1;cases s1 with
 |dead=>exact hok1.elim
 |blk g=>exact hok1.elim
 |lp g d=>exact hok1.elim
 |row v1 n1 k1 =>
 obtain⟨rfl,rfl,hz1,hk1,h11,⟨us1,how1,hL1⟩,hS1⟩:=hok1;have hv1:v1=v:=by
  rcases hle1.2 with h|⟨_,h⟩
  ·omega
  ·exact h.symm
 subst hv1;obtain⟨G2,c1,c2,c3,c4,_,c6⟩:=gp a1 none (Rep.ms (G:=G1) (id:=id) (n:=es.length) (m:=es.length) (k:=k) (u:=v1) (v:=v1) hs1 (DS _) (by rcases how1.2 with ⟨rfl,_⟩|⟨g,cap,cur,rfl,_⟩ <;> rfl) fun _=>rfl)
 simp only[fC,hb1,Fy]at c1 c4;obtain⟨s2,hs2,hle2⟩:=c2.rho id _ hs1;have hlt1:id<(cO f sg (flat es)).2.length:=(DR.1 hb1).1;have hok2:=c1.box id s2 _ hs2 (D4 hlt1);cases s2 with
 |dead=>exact hok2.elim
 |blk g=>exact hok2.elim
 |lp g d=>exact hok2.elim
 |row v2 n2 k2 =>
 obtain⟨rfl,rfl,hz2,hk2,h12,⟨us2,how2,hL2⟩,hS2⟩:=hok2;have hv2:v2=v1:=by
  rcases hle2.2 with h|⟨_,h⟩
  ·omega
  ·exact h.symm
 subst hv2;have hw:G2.w0=G.w0:=c2.w0.trans a2.w0;have:=c1.rebox hs2 (b':=.row z e k (br es (cO f sg (flat es)).1) true) ⟨rfl,b2.symm,hz,b3 k hk,fun c hc=>by rw[b1]at hc;exact a6 h1 c hc,⟨us,by rw[hw];exact how,by
  rw[b1];exact⟨by simpa[a4]using hul,fun j c u hc hu=>(a5 j c u hc (by simpa using hu)).mono c2⟩⟩,hS2⟩
 rw[List.set_set]at this;exact⟨G2,this,Gh.le_trans a2 c2,c3.trans a3⟩
end
end Go.Pv
namespace Go.Pv
open Go Go.RowKit
section
variable {P:Program} {T:TypeId->TyI} {st:St}
theorem aL.of{sg':List Box}(hlen:st.sg.length<=sg'.length)(h:∀(G:Gh) (w:World),Rel G st.sg w->∃G',Rel G' sg' w∧G.le G'∧G'.dfr=G.dfr)(hl:∀(id:Nat) (lr:LoopR),st.sg[id]?=some (.loop lr)->sg'[id]?=some (.loop lr)):
 aL st { st with sg:=sg' } :=
 ⟨hlen,fun r G a w db hs=>by
  obtain⟨G',h1,h2,h3⟩:=h G w hs.rel;refine⟨G',⟨h1,hs.tm.mono h2,hs.n,by rw[h3];exact hs.dfr,fun l hl0=>?_⟩,h2.leM _⟩
  obtain⟨id,d,lr,e1,e2⟩:=hs.rd l hl0;obtain⟨s',e1',hle⟩:=h2.rho id _ e1;cases s' <;> simp only[Slot.le]at hle
  obtain⟨rfl,rfl⟩:=hle;exact⟨id,d,lr,e1',hl id lr e2⟩⟩
theorem frz1_len(d:Option Nat)(sg:List Box)(v:PV):(fC d sg v).2.length=sg.length:=by
 unfold fC
 repeat' split
 all_goals simp
theorem iH{f:List Box->PV->PV×List Box}(hf:∀sg v,(f sg v).2.length=sg.length):∀(vs:List PV) (sg:List Box),(cO f sg vs).2.length=sg.length
 |[],_=>rfl
 |v::vs,sg=>by show(cO f (f sg v).2 vs).2.length=_;rw[iH hf vs,hf]
theorem frzC_len{f:List Box->PV->PV×List Box}(hf:∀sg v,(f sg v).2.length=sg.length)(sg:List Box)(v:PV):(uW f sg v).2.length=sg.length:=by
 cases v <;> first|rfl|exact iH hf _ sg|exact hf _ _|skip
 rename_i g a b;exact(iH hf b _).trans (iH hf a sg)
theorem Ba(d:Option Nat):∀(n:Nat) (sg:List Box) (v:PV),(frzX d n sg v).2.length=sg.length
 |0,_,_=>rfl
 |n+1,sg,v=>by
  unfold frzX;split
  ·rfl
  ·exact(frzC_len (Ba d n) _ _).trans (frz1_len d sg v)
theorem aL.refl(st:St):aL st st:=⟨DS _,fun r G a w db hs=>⟨G,hs,bK _ _⟩⟩
theorem aL.trans{a b c:St}(h:aL a b)(k:aL b c):aL a c :=
 ⟨Em h.1 k.1,fun r G x w db hs=>by
  obtain⟨G1,h1,l1⟩:=h.2 r G x w db hs;obtain⟨G2,h2,l2⟩:=k.2 r G1 x w db h1;exact⟨G2,h2,l1.trans l2 h.1⟩⟩
theorem aL.deads:∀(n:Nat) (st:St),aL st { st with sg:=st.sg++List.replicate n .dead }
 |0,st=>by simpa using aL.refl st
 |n+1,st=>by
  have h1:aL st { st with sg:=st.sg++[.dead] }:=aL.of (by simp) (fun G w hR=>⟨_,g9 hR,G.push_le _,rfl⟩) (fun id lr e=>by
   rw[DY (DR.1 e).1];exact e)
  have:=h1.trans (aL.deads n { st with sg:=st.sg++[.dead] })
  simpa[List.replicate_succ]using this
theorem aL.rows:∀(ids:List Nat) (sg:List Box) (st:St),st.sg=sg->aL st { st with sg:=bW sg ids }
 |[],sg,st,h=>by subst h;exact aL.refl st
 |id::ids,sg,st,h=>by
  subst h;unfold bW;have step:aL st { st with sg:=(match st.sg[id]? with
   |some (.row z e k es _)=>let r:=cO (frzX none 5) st.sg (flat es);r.2.set id (.row z e k (br es r.1) true)
   |some (.map ks vs _)=>st.sg.set id (.map ks vs true)
   |_=>st.sg) }:=by
   split
   ·rename_i z e k es frz hb
    have hlen:(cO (frzX none 5) st.sg (flat es)).2.length=st.sg.length:=iH (Ba none 5) _ _;refine⟨by show _<=(List.set _ _ _).length;rw[Fr,hlen];exact DS _,fun r G a w db hs=>?_⟩
    have hg:=aL.of (st:=st) (sg':=(cO (frzX none 5) st.sg (flat es)).2.set id (.row z e k (br es (cO (frzX none 5) st.sg (flat es)).1) true)) (by rw[Fr,hlen];exact DS _) (fun G w hR=>y6 hR hb (sR none 5) (mQ none 5)) (fun id' lr e'=>by
     have h1:=(fS (nN none 5) (flat es) st.sg id' lr).2 e';by_cases hid:id=id'
     ·subst hid
      rw[hb]at e';cases e'
     ·rw[D8 hid]
      exact h1)
    exact hg.2 r G a w db hs
   ·rename_i ks vs frz hb
    refine aL.of (by simp) (fun G w hR=>?_) (fun id' lr e'=>(lO hb rfl rfl id' lr).2 e')
    obtain⟨s,hs,hok⟩:=hR.slot hb;cases s with
    |dead=>exact hok.elim
    |row v n k=>exact hok.elim
    |lp g d=>exact hok.elim
    |blk g =>
     obtain⟨G',a,b,c,_⟩:=gp hR none (Rep.mp hs);simp only[fC,hb]at a;exact⟨G',a,b,c⟩
   ·exact aL.refl st
  exact step.trans (aL.rows ids _ { st with sg:=_ } rfl)
def YieldOk(P:Program)(id:Nat)(args:List PV)(sg:List Box)(r:PRes)(sg':List Box):Prop :=
 sg.length<=sg'.length∧∀(n:Nat) (G:Gh) (w:World) (us:Array Value) (l d:Nat),Rel G sg w->G.rho[id]?=some (.lp l d)->RepL G args us ->
  ∃fn tmps assign body,(Instr.yield l us).run P w=.ok (.round l fn tmps assign body) w∧RoundIn Fence.wide n P l fn tmps assign body w fun e w'=>∃G',Rel G' sg' w'∧Gh.leM sg.length G G'∧G'.dfr=G.dfr∧match r,e with
   |.ret v,.returned u=>Rep G' v u
   |_,_=>False
def CallFOk(P:Program)(cf:CallF):Prop:=∀f args sg r sg',cf f args sg=some (r,sg')->bC P f∧ab P f args sg r sg'∧SameLoops sg sg'
def dB(P:Program)(yf:dF):Prop:=∀id args sg r sg',yf id args sg=some (r,sg')->YieldOk P id args sg r sg'∧SameLoops sg sg'
theorem jU{o:Oper}{n:Nat}(h:dOk o n=true):∀d,o.dst=some d->d<n:=fun d e=>by
 unfold dOk at h;rw[e]at h;exact EV h
theorem nI{G G':Gh}{a:Act}{w w':World}{r:Option Nat}{db:DB}{sg':List Box}{dst:Option Nat}{v:PV}{u:Value}(hs:RelS G st a w r db)(hd:∀d,dst=some d->d<st.n)(hR':Rel G' sg' w')(hl:Gh.leM st.sg.length G G')
 (hdf:G'.dfr=G.dfr) (hsl:SameLoops st.sg sg') (hv:Rep G' v u):RelS G' { tm:=putD st.tm dst v,n:=st.n,sg:=sg' } (a.put dst u) w' r db:=by
 refine⟨hR',RepT.putD (fun t x e=>?_) (fun d e=>hs.n▸hd d e) hv,(cD a dst u).trans hs.n,?_,fun l hl0=>?_⟩
 ·obtain⟨y,hy,hr⟩:=hs.tm t x e
  exact⟨y,hy,hr.monoM hl (hs.rel.len▸hr.lt)⟩
 ·obtain⟨own,h1,h2⟩:=hs.dfr
  exact⟨own,by rw[bO];exact h1,by rw[hdf];exact h2.1,h2.2⟩
 ·obtain⟨id,d,lr,h1,h2⟩:=hs.rd l hl0
  obtain⟨lr',h3⟩:=hsl.1 id lr h2;obtain⟨lr',h3,h4⟩:=cj (lr:=lr) hR' hl (DR.1 h2).1 h1 (fun hg=>by rw[h3]at hg;cases hg)
  exact⟨id,d,lr',h3,h4⟩
theorem zZ{G G':Gh}{a:Act}{w w':World}{r:Option Nat}{db:DB}{sg':List Box}(hs:RelS G st a w r db)(hR':Rel G' sg' w')(hl:Gh.leM st.sg.length G G')
 (hdf:G'.dfr=G.dfr) (hsl:SameLoops st.sg sg'):RelS G' { tm:=st.tm,n:=st.n,sg:=sg' } a w' r db:=by
 refine⟨hR',fun t x e=>?_,hs.n,?_,fun l hl0=>?_⟩
 ·obtain⟨y,hy,hr⟩:=hs.tm t x e
  exact⟨y,hy,hr.monoM hl (hs.rel.len▸hr.lt)⟩
 ·obtain⟨own,h1,h2⟩:=hs.dfr
  exact⟨own,h1,by rw[hdf];exact h2.1,h2.2⟩
 ·obtain⟨id,d,lr,h1,h2⟩:=hs.rd l hl0
  obtain⟨lr',h3⟩:=hsl.1 id lr h2;obtain⟨lr',h3,h4⟩:=cj (lr:=lr) hR' hl (DR.1 h2).1 h1 (fun hg=>by rw[h3]at hg;cases hg)
  exact⟨id,d,lr',h3,h4⟩
theorem dE.enters{o:Oper}{g:FuncId}{all:List PV}{res:PRes}{sg':List Box}(hnd:∀c,o.op≠.defer c)(hd:∀d,o.dst=some d->d<st.n)(hcall:ab P g all st.sg res sg')(hsl:SameLoops st.sg sg')
 (hrun:∀(G:Gh) (a:Act) (w:World),RepT G st.tm a.tmps->∃us,(execOp a.eval o).run P w=.ok (.enter g us) w∧RepL G all us) :
 match res with
 |.ret v=>dE P o st .normal { tm:=putD st.tm o.dst v,n:=st.n,sg:=sg' }
 |.pan v=>dE P o st (.panic v) { tm:=st.tm,n:=st.n,sg:=sg' }:=by
 cases res with
 |ret v =>
  refine⟨hcall.1,fun r n G a w db next Q hs k=>⟨fun f _=>trivial,?_⟩⟩
  obtain⟨us,hr,hL⟩:=hrun G a w hs.tm;have hsem:o.semAt (FW r).round a.eval=execOp a.eval o:=Oper.semAt_eq _ _ _ hnd;rw[hsem,hr,Oper.uponIn_enter];refine⟨fun h=>(by cases h),cv r (CallsIn.mono (hcall.2 _ G w us hs.rel hL) fun e w' ⟨G',hR',hl,hdf,hm⟩=>?_)⟩
  cases e with
  |panicked ch=>exact hm.elim
  |outgrown=>exact hm.elim
  |returned u =>
   rcases k .normal (a.put o.dst u) w' G' trivial (nI hs hd hR' hl hdf hsl hm) hl with ⟨_,hn⟩|⟨hn,_⟩
   ·exact hn
   ·exact absurd rfl hn
 |pan v =>
  refine⟨hcall.1,fun r n G a w db next Q hs k=>⟨fun f _=>trivial,?_⟩⟩
  obtain⟨us,hr,hL⟩:=hrun G a w hs.tm;have hsem:o.semAt (FW r).round a.eval=execOp a.eval o:=Oper.semAt_eq _ _ _ hnd;rw[hsem,hr,Oper.uponIn_enter];refine⟨fun h=>(by cases h),cv r (CallsIn.mono (hcall.2 _ G w us hs.rel hL) fun e w' ⟨G',hR',hl,hdf,hm⟩=>?_)⟩
  cases e with
  |returned u=>exact hm.elim
  |outgrown=>exact hm.elim
  |panicked ch =>
   rcases k (.panic ch) a w' G' hm (zZ hs hR' hl hdf hsl) hl with ⟨hn,_⟩|⟨_,hq⟩
   ·cases hn
   ·exact hq
theorem lR{n:Nat}{l:Nat}{f:FuncId}{tmps:Array Value}{assign body:Code}{w:World}{R:Ending->World->Prop}(r:Option Nat)(h:RoundIn Fence.wide n P l f tmps assign body w R):RoundIn (FW r) n P l f tmps assign body w R:=h
theorem j4(hT:TyT P T){me:Meth}{cf:CallF}{yf:dF}(hcf:CallFOk P cf)(hyf:dB P yf)(hme:cQ P me){o:Oper}{out:Out}{st':St}(h:zm me cf yf T st o=some (out,st')):dE P o st out st':=by
 unfold zm at h;simp only at h;split at h <;> try (cases h;done)
 rename_i hdo;have hd:=jU hdo;have prim:∀{r:Option (Out×St)},r=some (out,st')->r=(match opC T st.tm (sgN o.op st.sg) st.sg.length o.op with
  |some (v,ef)=>if effB ef=true then some (Out.normal,{ tm:=putD st.tm o.dst v,n:=st.n,sg:=Lm (sgN o.op st.sg) ef:St })else none
  |none=>none)->dE P o st out st':=by
  intro r h1 h2;rw[h2]at h1;split at h1 <;> try (cases h1;done)
  rename_i v ef hv;split at h1 <;> cases h1
  exact dE.eval hT hd hv ‹_›
 have fin:∀{res:Option (PRes×List Box)} {g:FuncId} {all:List PV},cf g all st.sg=res->(∀c,o.op≠.defer c) ->
  (bC P g->∀(G:Gh) (a:Act) (w:World),RepT G st.tm a.tmps->∃us,(execOp a.eval o).run P w=.ok (.enter g us) w∧RepL G all us) ->
  (match res with
  |some (.ret v,sg')=>some (Out.normal,{ tm:=putD st.tm o.dst v,n:=st.n,sg:=sg':St })
  |some (.pan v,sg')=>some (Out.panic v,{ tm:=st.tm,n:=st.n,sg:=sg' })
  |none=>none)=some (out,st')->dE P o st out st':=by
  intro res g all hc hnd hrun h1;split at h1 <;> cases h1
  ·obtain⟨he,hcall,hsl⟩:=hcf _ _ _ _ _ hc
   exact dE.enters hnd hd hcall hsl (hrun he)
  ·obtain⟨he,hcall,hsl⟩:=hcf _ _ _ _ _ hc
   exact dE.enters hnd hd hcall hsl (hrun he)
 split at h
 ·rename_i x hop
  split at h <;> cases h
  rename_i t v hx;refine⟨DS _,fun r n G a w db next Q hs k=>⟨fun f _=>trivial,?_⟩⟩
  have hr:=aH hs.tm hx;have hsem:o.semAt (FW r).round a.eval=execOp a.eval o:=Oper.semAt_eq _ _ _ (fun c e=>by rw[hop]at e;cases e)
  have hrun:∃u,(execOp a.eval o).run P w=.halt (.panic u) w∧Rep G (.iface t v) u:=by
   generalize hu:a.eval x=u at hr;refine⟨u,?_,hr⟩;cases hr;simp[execOp,hop,hu,Instr.panic,goPanic,Sem.run]
  obtain⟨u,hrun,hru⟩:=hrun;rw[hsem,hrun,Oper.uponIn_panic];rcases k (.panic [{ v:=u,recovered:=false }]) a w G ⟨u,rfl,hru⟩ hs (bK _ _)with ⟨hn,_⟩|⟨_,hq⟩
  ·cases hn
  ·exact hq
 ·rename_i c hop
  have hnd:∀c,o.op≠.defer c:=fun c e=>by rw[hop]at e;cases e
  split at h
  ·rename_i fo hc
   split at h <;> try (cases h;done)
   ·rename_i g first cap vs h1 h2
    exact fin rfl hnd (fun he G a w hTm=>AF (P:=P) (w:=w) hTm hc h1 h2 he o hop) h
   ·rename_i id vs h1 h2
    have yrun:∀(G:Gh) (a:Act) (w:World),RepT G st.tm a.tmps->∃l d,G.rho[id]?=some (.lp l d)∧(execOp a.eval o).run P w=(Instr.yield l (c.args.map a.eval)).run P w∧RepL G vs (c.args.map a.eval):=by
     intro G a w hTm;have hr:=aH hTm h1;generalize hfo:a.eval fo=fu at hr;cases hr with
     |yl hs=>exact⟨_,_,hs,by simp[execOp,hop,resolve,hc,hfo,Deferred.ofValue,invoke],eO hTm h2⟩
    generalize hres:yf id vs st.sg=res at h;split at h <;> cases h
    ·obtain⟨hy,hsl⟩:=hyf _ _ _ _ _ hres
     refine⟨hy.1,fun r n G a w db next Q hs k=>⟨fun f _=>trivial,?_⟩⟩
     obtain⟨l,d,hl0,he,hL⟩:=yrun G a w hs.tm;obtain⟨fn,tmps,assign,body,hyr,hround⟩:=hy.2 (n-1) G w _ l d hs.rel hl0 hL;have hsem:o.semAt (FW r).round a.eval=execOp a.eval o:=Oper.semAt_eq _ _ _ hnd;rw[hsem,he,hyr,Oper.uponIn_round];refine⟨fun h=>(by cases h),lR r (RoundIn.mono hround fun e w' ⟨G',hR',hl,hdf,hm⟩=>?_)⟩
     cases e with
     |panicked ch=>exact hm.elim
     |outgrown=>exact hm.elim
     |returned u =>
      rcases k .normal (a.put o.dst u) w' G' trivial (nI hs hd hR' hl hdf hsl hm) hl with ⟨_,hn⟩|⟨hn,_⟩
      ·exact hn
      ·exact absurd rfl hn
    ·obtain⟨hy,hsl⟩:=hyf _ _ _ _ _ hres
     refine⟨hy.1,fun r n G a w db next Q hs k=>⟨fun f _=>trivial,?_⟩⟩
     obtain⟨l,d,hl0,he,hL⟩:=yrun G a w hs.tm;obtain⟨fn,tmps,assign,body,hyr,hround⟩:=hy.2 (n-1) G w _ l d hs.rel hl0 hL;have hsem:o.semAt (FW r).round a.eval=execOp a.eval o:=Oper.semAt_eq _ _ _ hnd;rw[hsem,he,hyr,Oper.uponIn_round];refine⟨fun h=>(by cases h),lR r (RoundIn.mono hround fun e w' ⟨G',hR',hl,hdf,hm⟩=>?_)⟩
     cases e <;> exact hm.elim
  ·rename_i rcv name hc
   split at h <;> try (cases h;done)
   rename_i t v vs h1 h2;split at h <;> try (cases h;done)
   rename_i g hg;refine fin rfl hnd (fun he G a w hTm=>?_) h
   have hr:=aH hTm h1;have hL:=eO hTm h2;generalize hu:a.eval rcv=u at hr;cases hr with
   |iface hv =>
    rename_i u';refine⟨#[u']++c.args.map a.eval,?_,?_⟩
    ·have hm:=hme t name g u' w hg
     have h0:(#[Value.iface t u']++Array.map a.eval c.args)[0]?=some (Value.iface t u'):=by
      rw[ES (by simp)];rfl
     have hx:(Array.map a.eval c.args).extract 0 c.args.size=Array.map a.eval c.args:=by
      have:=Array.extract_size (xs:=Array.map a.eval c.args)
      simpa using this
     simp[execOp,hop,resolve,hc,hu,invoke,h0,callMethod,hm,hx,he _ w]
    ·refine⟨by simp[hL.1];omega,fun j x y hx hy=>?_⟩
     cases j with
     |zero =>
      rw[ES (by simp)]at hy
      simp at hx hy;subst hx;subst hy;exact hv
     |succ j =>
      refine hL.2 j x y (by simpa using hx) ?_
      rw[OM (by simp)]at hy
      simpa using hy
  ·exact prim h rfl
 ·exact prim h rfl
end
section
variable {P:Program} {T:TypeId->TyI} {me:Meth} {cf:CallF} {yf:dF} {ops:Array Oper}
theorem evOp_n{st st':St}{o:Oper}{out:Out}(h:zm me cf yf T st o=some (out,st')):st'.n=st.n:=by
 unfold zm at h;simp only at h;split at h <;> try (cases h;done)
 have prim:(match opC T st.tm (sgN o.op st.sg) st.sg.length o.op with
  |some (v,ef)=>if effB ef=true then some (Out.normal,{ tm:=putD st.tm o.dst v,n:=st.n,sg:=Lm (sgN o.op st.sg) ef:St })else none
  |none=>none)=some (out,st')->st'.n=st.n:=by
  intro h;split at h <;> try (cases h;done)
  split at h <;> cases h
  rfl
 have fin:∀{res:Option (PRes×List Box)},(match res with
  |some (.ret v,sg')=>some (Out.normal,{ tm:=putD st.tm o.dst v,n:=st.n,sg:=sg':St })
  |some (.pan v,sg')=>some (Out.panic v,{ tm:=st.tm,n:=st.n,sg:=sg' })
  |none=>none)=some (out,st')->st'.n=st.n:=by
  intro res h;split at h <;> cases h <;> rfl
 split at h
 ·split at h <;> cases h
  rfl
 ·split at h
  ·split at h <;> try (cases h;done)
   ·exact fin h
   ·exact fin h
  ·split at h <;> try (cases h;done)
   split at h <;> try (cases h;done)
   exact fin h
  ·exact prim h
 ·exact prim h
theorem m3(hT:TyT P T)(hcf:CallFOk P cf)(hyf:dB P yf)(hme:cQ P me){out:Out}{st':St}:∀(os:List Oper) (i:Nat) (st:St),(∀(j:Nat) (o:Oper),os[j]?=some o->ops[i+j]?=some o)->gH me cf yf T ops os st=some (out,st') ->
 bQ P ops (List.range' i os.length) st out st'
 |[],i,st,_,h=>by
  cases h;exact bQ.nil ops _
 |o::os,i,st,hos,h=>by
  have hi:ops[i]?=some o:=hos 0 o rfl;have hos':∀(j:Nat) (o:Oper),os[j]?=some o->ops[i+1+j]?=some o:=fun j o' hj=>by
   have:=hos (j+1) o' (by simpa using hj)
   rw[show i+1+j=i+(j+1)by omega]
   exact this
  rw[Ek,Fd];unfold gH at h;split at h <;> try (cases h;done)
  ·rename_i hw
   split at h
   ·rename_i st1 he
    exact bQ.cons hi hw (j4 hT hcf hyf hme he) (m3 hT hcf hyf hme os (i+1) st1 hos' h)
   ·rename_i r hne
    refine bQ.stop hi hw (fun e=>?_) (j4 hT hcf hyf hme h)
    subst e;exact hne st' h
  ·rename_i hw
   split at h <;> try (cases h;done)
   exact bQ.skip hi hw (jU ‹_›) (m3 hT hcf hyf hme os (i+1) _ hos' h)
theorem lW(hT:TyT P T)(hcf:CallFOk P cf)(hyf:dB P yf)(hme:cQ P me){id:Nat}{st st':St}{out:Out}(h:gH me cf yf T ops ops.toList st=some (out,st')):Run P (.region id ops false) st out st':=by
 refine Run.region ?_;rw[F6];have:=m3 hT hcf hyf hme (ops:=ops) ops.toList 0 st (fun j o hj=>by rw[EG];simpa using hj) h
 simpa using this
theorem oU(hme:cQ P me)(hcf:CallFOk P cf):Nk P (pV me cf):=by
 refine⟨⟨hme,fun f h=>by cases h⟩,?_⟩
 intro g args v
 show(wS cf g args=_->_)∧∀b,wS cf g args=_->_
 refine⟨fun h=>?_,fun b h=>?_⟩
 ·unfold wS at h
  split at h
  ·cases h
   have:=hcf _ _ _ _ _ ‹_›
   exact⟨this.1,this.2.1⟩
  ·split at h <;> cases h
  ·cases h
 ·unfold wS at h
  split at h
  ·cases h
  ·rename_i n e k es hc
   split at h <;> cases h
   rename_i hcond;obtain⟨rfl,hcl⟩:=hcond;have:=hcf _ _ _ _ _ hc
   exact⟨this.1,e,k,es,rfl,hcl,this.2.1⟩
  ·cases h
theorem Ao{sg:List Box}{fid:Nat}(h:zK sg fid=true):jT sg fid:=by
 unfold zK at h;split at h
 ·assumption
 ·cases h
theorem p7(hT:TyT P T)(hcf:CallFOk P cf)(hyf:dB P yf)(hme:cQ P me):∀(os:List Oper) (fid:Nat) (st:St) (rs:List DRec) (st':St),ya me cf yf T ops os fid st=some (rs,st') ->
 sr P (pV me cf) T ops (os.zip rs) st∧rs.length=os.length∧∀k,st'=bU (fun _=>true) k (os.zip rs) st
 |[],fid,st,rs,st',h=>by
  cases h;exact⟨trivial,rfl,fun k=>rfl⟩
 |o::os,fid,st,rs,st',h=>by
  unfold ya at h;simp only at h;split at h <;> try (cases h;done)
  rename_i hdo;have hd:=jU hdo;have go:∀(r:DRec) (fid':Nat),(match ya me cf yf T ops os fid' (app o r st)with
   |some (rs,st')=>some (r::rs,st')
   |none=>none)=some (rs,st')->EvAt P (pV me cf) T ops st o r->sr P (pV me cf) T ops ((o::os).zip rs) st∧rs.length=(o::os).length∧∀k,st'=bU (fun _=>true) k ((o::os).zip rs) st:=by
   intro r fid' h hE;split at h <;> cases h
   rename_i rs1 h1;obtain⟨a,b,c⟩:=p7 hT hcf hyf hme os fid' _ _ _ h1;exact⟨⟨hE,a⟩,by simp[b],fun k=>by
    show _=bU _ k ((o,r)::os.zip rs1) st;unfold bU;exact c (k+1)⟩
  split at h
  ·rename_i hw
   split at h
   ·rename_i v ef hv
    split at h <;> try (cases h;done)
    rename_i hc;refine go _ _ h ⟨fun s e=>(by cases e),fun _=>⟨hd,hw,rfl,fun _=>⟨hv,hc.1,fun hn=>?_⟩,fun e=>(by cases e)⟩⟩
    have:=hc.2
    rw[hn]at this;exact Ao (by simpa using this)
   ·split at h <;> try (cases h;done)
    rename_i st1 he;refine go _ _ h ⟨fun s e=>?_,fun e=>(by cases e)⟩
    cases e;exact⟨rfl,hw,evOp_n he,j4 hT hcf hyf hme he⟩
  ·rename_i hw
   exact go _ _ h ⟨fun s e=>(by cases e),fun _=>⟨hd,hw,rfl,fun e=>(by cases e),fun _=>⟨rfl,rfl⟩⟩⟩
  ·cases h
theorem nJ(hT:TyT P T)(hcf:CallFOk P cf)(hyf:dB P yf)(hme:cQ P me)(hm:P.follows .mixedOrders=true){id:Nat}{st st':St}{out:Out}{ids:List Nat}(h:jY me cf yf T ops st ids=some (out,st')):Run P (.region id ops true) st out st':=by
 unfold jY at h;simp only at h;split at h <;> try (cases h;done)
 rename_i rs st1 ht;split at h <;> cases h
 rename_i hc;obtain⟨a,b,c⟩:=p7 hT hcf hyf hme _ _ _ _ _ ht;have hrun:=Run.draw (P:=P) hT (oU hme hcf) hm (id:=id) rs (by simpa using b) hc.1 a hc.2
 rw[←c 0]at hrun;exact Run.pre ((aL.rows (ids) st.sg st rfl).trans (aL.deads _ _)) hrun
theorem qQ(hT:TyT P T)(hcf:CallFOk P cf)(hyf:dB P yf)(hme:cQ P me)(hm:P.follows .mixedOrders=true){id:Nat}{st st':St}{out:Out}(h:nD me cf yf T ops st=some (out,st')):Run P (.region id ops true) st out st':=by
 unfold nD at h;split at h
 ·rename_i r h1
  cases h;exact nJ hT hcf hyf hme hm h1
 ·exact nJ hT hcf hyf hme hm h
theorem mh{st st':St}{out:Out}{ids:List Nat}(h:jY me cf yf T ops st ids=some (out,st')):out=.normal:=by
 unfold jY at h;simp only at h;split at h <;> try (cases h;done)
 split at h <;> cases h
 rfl
theorem oJ{st st':St}{out:Out}(h:nD me cf yf T ops st=some (out,st')):out=.normal:=by
 unfold nD at h;split at h
 ·rename_i r h1
  cases h;exact mh h1
 ·exact mh h
end
inductive LoopRun(P:Program)(b:Code):St->Out->St->Prop
 |last {st st':St} {out:Out} (h:Run P b st out st') (hn:out≠.normal):LoopRun P b st out st'
 |next {st st1 st2:St} {out:Out} (h:Run P b st .normal st1) (hl:LoopRun P b st1 out st2):LoopRun P b st out st2
section
variable {P:Program} {T:TypeId->TyI} {b:Code}
theorem LoopRun.seq{st st':St}{out:Out}(h:LoopRun P b st out st'):∃(m:Nat) (S:Nat->St),S 0=st∧(∀i,i<m->Run P b (S i) .normal (S (i+1)))∧Run P b (S m) out st'∧out≠.normal:=by
 induction h with
 |last h hn=>exact⟨0,fun _=>_,rfl,fun i hi=>by omega,h,hn⟩
 |@next st st1 st2 out h hl ih =>
  obtain⟨m,S,h0,h1,h2,h3⟩:=ih;refine⟨m+1,fun i=>match i with|0=>st|i+1=>S i,rfl,fun i hi=>?_,h2,h3⟩
  cases i with
  |zero=>show Run P b st .normal (S 0);rw[h0];exact h
  |succ i=>exact h1 i (by omega)
theorem LoopRun.run{st st':St}{out:Out}(h:LoopRun P b st out st'):Run P (.loop b) st out st':=by
 obtain⟨m,S,h0,h1,h2,h3⟩:=h.seq;have:=Run.loop m S h1 h2 h3
 rw[h0]at this;exact this
mutual
theorem eQ(m:Nat):∀(v:PV),v.ltB m=true->Lt m v
 |.bool _,_=>.bool
 |.int _ _,_=>.int
 |.str _,_=>.str
 |.nilp,_=>.nilp
 |.nilm,_=>.nilm
 |.nilf,_=>.nilf
 |.nili,_=>.nili
 |.sl _ es,h=>(lt_sl m _ es).2 (bw m es h)
 |.ms _ _,h=>.ms (EV h)
 |.mp _,h=>.mp (EV h)
 |.im ks vs,h=>by
  have h':(bD m ks&&bD m vs)=true:=h;rw[D3]at h';exact .im (bw m ks h'.1) (bw m vs h'.2)
 |.fn _ a b,h=>by
  have h':(bD m a&&bD m b)=true:=h;rw[D3]at h';exact .fn (bw m a h'.1) (bw m b h'.2)
 |.iface _ v,h=>.iface (eQ m v h)
 |.agg cs,h=>.agg (bw m cs h)
 |.tuple vs,h=>.tuple (bw m vs h)
 |.bp _ _,h=>.bp (EV h)
 |.rp _ _ _ _,h=>.rp (EV h)
 |.pf _ _ _,h=>.pf (EV h)
 |.ip cs,h=>.ip (bw m cs h)
 |.yl _,h=>.yl (EV h)
theorem bw(m:Nat):∀(vs:List PV),bD m vs=true->∀v∈vs,Lt m v
 |[],_,v,h=>by cases h
 |x::xs,h,v,hv=>by
  have h':(x.ltB m&&bD m xs)=true:=h;rw[D3]at h';rcases D6.1 hv with e|hv
  ·rw[e];exact eQ m x h'.1
  ·exact bw m xs h'.2 v hv
end
theorem dD{m:Nat}{b:Box}(h:b.ltB m=true):b.Lt m:=by
 cases b <;> simp only[Box.ltB,Box.Lt]at h ⊢
 case var cs f=>exact bw m cs h
 case row z e k es f =>
  intro c hc;obtain⟨x,hx,hxc⟩:=dq.1 hc;exact jB m x (bw m es h x hx) c hxc
 case map ks vs f =>
  rw[D3]at h;exact⟨bw m ks h.1,bw m vs h.2⟩
 case loop r =>
  intro t v hv;obtain⟨p,hp,rfl⟩:=jk hv;exact eQ m _ (D7.1 h p hp)
theorem mH{tm0:List (Nat×PV)}:∀{tm:List (Nat×PV)} {t:Nat} {v:PV},b9 (keepT tm0 tm) t=some v->b9 tm t=some v
 |[],t,v,h=>by cases h
 |(s,x)::tm,t,v,h=>by
  unfold keepT at h;rw[EZ]at h;split at h
  ·unfold b9 at h ⊢
   split at h
   ·rw[DZ ‹_›];exact h
   ·rw[D5 ‹_›];exact mH h
  ·rename_i hs
   have h':=mH (tm0:=tm0) (tm:=tm) (t:=t) (v:=v) h;unfold b9;split
   ·rename_i hst
    subst hst
    exfalso
    have key:∀(l:List (Nat×PV)),b9 (l.filter fun p=>hasT tm0 p.1) s=none:=by
     intro l;induction l with
     |nil=>rfl
     |cons p l ih =>
      rw[EZ];split
      ·obtain⟨q,y⟩:=p
       unfold b9;rw[D5 (fun e=>hs (by subst e;assumption))]
       exact ih
      ·exact ih
    rw[key tm]at h;cases h
   ·exact h'
theorem kS{sg:List Box}{m:Nat}(h:dl (sg.drop m)=true)(id:Nat)(r:LoopR)(hid:m<=id):sg[id]?≠some (.loop r):=fun e=>by
 have:(sg.drop m)[id-m]?=some (.loop r):=by rw[EU,show m+(id-m)=id by omega];exact e
 have:=D7.1 h _ (DU this)
 simp[isLoopB]at this
theorem trim_ok{c:Code}{st st1:St}(h:Run P c st .normal st1):Run P c st .normal (trim st.sg.length st.tm st1):=by
 have h1:=Run.post h (aL.tm (st:=st1) (tm':=keepT st.tm st1.tm) fun t v e=>mH e)
 unfold trim;simp only;split
 ·rename_i hc
  obtain⟨c1,c2,c3⟩:=hc;exact Run.cut h1 st.sg.length (DS _) h.1 (fun b hb=>dD (D7.1 c2 b hb)) (fun p hp=>eQ _ _ (D7.1 c1 p hp)) (fun v e=>by cases e) (fun id r hid=>kS c3 id r hid)
 ·exact h1
theorem ab.cut{f:FuncId}{args:List PV}{sg sg1:List Box}{v:PV}(h:ab P f args sg (.ret v) sg1)(hb:∀b∈sg1.take sg.length,b.Lt sg.length)(hv:Lt sg.length v):ab P f args sg (.ret v) (sg1.take sg.length):=by
 refine⟨by have:=h.1;simp;omega,fun n G w us hR hL=>CallsIn.mono (h.2 n G w us hR hL) fun e w' ⟨G',hR',hl,hdf,hm⟩=>?_⟩
 obtain⟨hR2,hl2⟩:=mD hR' sg.length hb;refine⟨_,hR2,hl.trans hl2 (DS _),hdf,?_⟩;cases e with
 |panicked ch=>exact hm.elim
 |outgrown=>exact hm.elim
 |returned u=>exact Rep.monoM hl2 hm hv
theorem ab.frzX{f:FuncId}{args:List PV}{sg sg1:List Box}{v:PV}(h:ab P f args sg (.ret v) sg1)(d:Option Nat)(k:Nat):ab P f args sg (.ret (Pv.frzX d k sg1 v).1) (Pv.frzX d k sg1 v).2:=by
 refine⟨by rw[Ba];exact h.1,fun n G w us hR hL=>CallsIn.mono (h.2 n G w us hR hL) fun e w' ⟨G',hR',hl,hdf,hm⟩=>?_⟩
 cases e with
 |panicked ch=>exact hm.elim
 |outgrown=>exact hm.elim
 |returned u =>
  obtain⟨G2,a1,a2,a3,a4,_⟩:=sR d k hR' (show Rep G' v u from hm)
  exact⟨G2,a1,hl.trans (a2.leM sg1.length) h.1,a3.trans hdf,a4⟩
end
section
variable {P:Program} {T:TypeId->TyI} {G:Gh} {sg:List Box} {w:World}
theorem pick_rel(hR:Rel G sg w){m id:Nat}{z frz:Bool}{e:TypeId}{k:Nat}{es:List PV}(hb:sg[id]?=some (.row z e k es frz))(hm:m<=id)(hlt:∀b∈sg.take m,b.Lt m)(hes:∀c∈flat es,Lt m c):
 ∃G',Rel G' (sg.take m++[.row z e k es frz]) w∧Gh.leM m G G'∧G'.dfr=G.dfr∧∀n u,Rep G (.ms id n) u->Rep G' (.ms m n) u:=by
 obtain⟨hRm,hlm⟩:=mD hR m hlt;obtain⟨s,hs,hok⟩:=hR.slot hb;have hidl:id<G.rho.length:=(DR.1 hs).1;have hml:(G.rho.take m).length=m:=by simp;omega
 have hsl:(sg.take m).length=m:=by have:=hR.len;simp;omega
 let Gm:Gh:={ G with rho:=G.rho.take m }
 have hle:Gm.le (Gm.push s):=Gm.push_le s;have hr:∀v u,Lt m v->Rep G v u->Rep (Gm.push s) v u:=fun v u hl h=>(h.monoM hlm hl).mono hle
 have hlast:(Gm.push s).rho[m]?=some s:=by
  show(G.rho.take m++[s])[m]?=some s
  rw[D9 (by omega),hml,F9];rfl
 refine⟨Gm.push s,⟨hR.below,?_,fun i t c ht hc=>?_,fun i j t t' g hij ht ht' hg hg'=>?_,hR.st,hR.stM,hR.dfr,hR.tab⟩,hlm.trans (hle.leM m) (DS _),rfl,fun n u h=>?_⟩
 ·show(G.rho.take m++[s]).length=_
  simp[hml,hsl]
 ·by_cases hi:i<m
  ·have ht':(G.rho.take m)[i]?=some t:=by
    have:(G.rho.take m++[s])[i]?=some t:=ht
    rw[DY (by omega)]at this
    exact this
   rw[DY (by omega)]at hc
   exact(hRm.box i t c ht' hc).keep (DS _) (fun _ _ r=>r.mono hle) rfl (fun _ _=>rfl) (fun _ _ _ e=>e) (fun _ _ e=>e) (fun _ e=>e)
  ·have hc':=hc
   rw[D9 (by omega),hsl]at hc'
   have hie:i=m:=by
    have:=(DR.1 hc').1
    simp at this;omega
   subst hie;rw[hlast]at ht;cases ht;simp at hc';subst hc';exact hok.cut (b:=.row z e k es frz) (m:=i) hes hr rfl rfl rfl rfl
 ·have old:∀(i:Nat) (t:Slot),i<m->(Gm.push s).rho[i]?=some t->G.rho[i]?=some t:=fun i t hi ht=>by
   have:(G.rho.take m++[s])[i]?=some t:=ht
   rw[DY (by omega),El,DZ hi]at this
   exact this
  have new:∀(i:Nat) (t:Slot),¬i<m->(Gm.push s).rho[i]?=some t->i=m∧t=s:=fun i t hi ht=>by
   have h1:(G.rho.take m++[s])[i]?=some t:=ht;rw[D9 (by omega),hml]at h1
   have:=(DR.1 h1).1
   simp at this;have hie:i=m:=by omega
   subst hie;simp at h1;exact⟨rfl,h1.symm⟩
  by_cases hi:i<m <;> by_cases hj:j<m
  ·exact hR.inj i j t t' g hij (old i t hi ht) (old j t' hj ht') hg hg'
  ·obtain⟨_,rfl⟩:=new j t' hj ht'
   exact hR.inj i id t t' g (by omega) (old i t hi ht) hs hg hg'
  ·obtain⟨_,rfl⟩:=new i t hi ht
   exact hR.inj id j t t' g (by omega) hs (old j t' hj ht') hg hg'
  ·have h1:=new i t hi ht
   have h2:=new j t' hj ht';omega
 ·cases h with
  |ms hs' hn ho hu =>
   rw[hs]at hs';cases hs';exact .ms hlast hn ho hu
theorem ab.pick{f:FuncId}{args:List PV}{sg1:List Box}{id n:Nat}{e:TypeId}{k:Nat}{es:List PV}(h:ab P f args sg (.ret (.ms id n)) sg1)(hb:sg1[id]?=some (.row false e k es false))(hm:sg.length<=id)
 (hlt:∀b∈sg1.take sg.length,b.Lt sg.length) (hes:∀c∈flat es,Lt sg.length c):ab P f args sg (.ret (.ms sg.length n)) (sg1.take sg.length++[.row false e k es false]):=by
 refine⟨by have:=h.1;simp;omega,fun q G w us hR hL=>CallsIn.mono (h.2 q G w us hR hL) fun x w' ⟨G',hR',hl,hdf,hv⟩=>?_⟩
 cases x with
 |panicked ch=>exact hv.elim
 |outgrown=>exact hv.elim
 |returned u =>
  obtain⟨G2,a1,a2,a3,a4⟩:=pick_rel hR' hb hm hlt hes;exact⟨G2,a1,hl.trans a2 (DS _),a3.trans hdf,a4 n u hv⟩
theorem ab.inner{f:FuncId}{args:List PV}{sg1:List Box}{id n:Nat}{z frz:Bool}{e:TypeId}{k:Nat}{es:List PV}(h:ab P f args sg (.ret (.ms id n)) sg1)(hb:sg1[id]?=some (.row z e k es frz))(d:Option Nat)(j:Nat):
 ∃frz',(cO (Pv.frzX d j) sg1 (flat es)).2[id]?=some (.row z e k es frz')∧ab P f args sg (.ret (.ms id n)) ((cO (Pv.frzX d j) sg1 (flat es)).2.set id (.row z e k (br es (cO (Pv.frzX d j) sg1 (flat es)).1) frz')):=by
 obtain⟨frz',hb1⟩:=fN (mQ d j) (flat es) sg1 id z e k es frz hb;refine⟨frz',hb1,by rw[Fr,iH (Ba d j)];exact h.1,fun q G w us hR hL=>CallsIn.mono (h.2 q G w us hR hL) fun x w' ⟨G',hR',hl,hdf,hv⟩=>?_⟩
 cases x with
 |panicked ch=>exact hv.elim
 |outgrown=>exact hv.elim
 |returned u =>
  obtain⟨s,hs,hok⟩:=hR'.slot hb;cases s with
  |dead=>exact hok.elim
  |blk g=>exact hok.elim
  |lp g d=>exact hok.elim
  |row v m k' =>
  obtain⟨rfl,rfl,hz,hk,h1,⟨xs,how,hLx⟩,hS⟩:=hok;have hxl:xs.length=(flat es).length:=by simpa using hLx.1
  obtain⟨G1,a1,a2,a3,a4,a5,a6,a7⟩:=fk (Pv.frzX d j) (fun a b=>sR d j a b) (vs:=flat es) (us:=xs) hR' hxl (fun j c u hc hu=>hLx.2 j c u hc (by simpa using hu))
  obtain⟨b1,b2,b3⟩:=dW es (cO (Pv.frzX d j) sg1 (flat es)).1 a4 (a6 h1);obtain⟨s1,hs1,hle1⟩:=a2.rho id _ hs;have hok1:=a1.box id s1 _ hs1 hb1;cases s1 with
  |dead=>exact hok1.elim
  |blk g=>exact hok1.elim
  |lp g d=>exact hok1.elim
  |row v1 n1 k1 =>
  obtain⟨rfl,rfl,hz1,hk1,h11,⟨us1,how1,hL1⟩,hS1⟩:=hok1;have hv1:v1=v:=by
   rcases hle1.2 with h|⟨_,h⟩
   ·omega
   ·exact h.symm
  subst hv1;have:=a1.rebox hs1 (b':=.row z e k (br es (cO (Pv.frzX d j) sg1 (flat es)).1) frz') ⟨rfl,b2.symm,hz,b3 k hk,fun c hc=>by rw[b1]at hc;exact a6 h1 c hc,⟨xs,by rw[a2.w0];exact how,by
   rw[b1];exact⟨by simpa[a4]using hxl,fun j c u hc hu=>a5 j c u hc (by simpa using hu)⟩⟩,hS1⟩
  exact⟨G1,this,hl.trans (a2.leM sg1.length) h.1,a3.trans hdf,Rep.mono a2 hv⟩
theorem iw{f:FuncId}{args:List PV}{sg1:List Box}{v:PV}(h:ab P f args sg (.ret v) sg1):ab P f args sg (.ret (bR sg.length v sg1).1) (bR sg.length v sg1).2:=by
 unfold bR;split
 ·rename_i h0
  simp only;split
  ·rename_i hl
   have h1:=h.frzX (some 0) 8;have:=h1.cut (fun b hb=>by rw[h0]at hb;simp at hb) (by rw[h0];exact eQ 0 _ hl)
   rw[h0]at this;simpa using this
  ·exact h
 ·exact h
theorem jF{f:FuncId}{args:List PV}{sg1:List Box}{v:PV}(h:ab P f args sg (.ret v) sg1):ab P f args sg (.ret (gB sg.length v sg1).1) (gB sg.length v sg1).2:=by
 unfold gB;split
 ·rename_i hc
  exact h.cut (fun b hb=>dD (D7.1 hc.2 b hb)) (eQ _ _ hc.1)
 ·split
  ·rename_i id n hneg
   split
   ·rename_i e k es frz hb
    simp only;split
    ·rename_i hc
     obtain⟨c1,c2,c3,c4⟩:=hc;obtain⟨frz',hb1,h1⟩:=h.inner hb (some sg.length) 6;have hfz:frz'=false:=by
      unfold kh at c4;rw[hb1]at c4;cases frz' <;> first|rfl|cases c4
     subst hfz;have hm:sg.length<=id:=EV c1;have hlt:id<(cO (Pv.frzX (some sg.length) 6) sg1 (flat es)).2.length:=(DR.1 hb1).1;have htake:∀b',((cO (Pv.frzX (some sg.length) 6) sg1 (flat es)).2.set id b').take sg.length=(cO (Pv.frzX (some sg.length) 6) sg1 (flat es)).2.take sg.length:=fun b'=>by
      rw[List.take_set_of_le hm]
     have:=h1.pick (D4 hlt) hm (fun b hb=>by rw[htake]at hb;exact dD (D7.1 c3 b hb)) (fun c hc=>by
      obtain⟨x,hx,hxc⟩:=dq.1 hc;exact jB _ x (bw _ _ c2 x hx) c hxc)
     rw[htake]at this;exact this
    ·exact iw h
   ·exact iw h
  ·exact iw h
end
end Go.Pv
namespace Go.Pv
open Go Go.RowKit
section
variable {P:Program} {b:Frame} {a:Act} {k:List Item} {cs:List Frame} {w:World}
theorem dN{c:Code}:step P (lone (b.atR a (.code (.scope c)::k)) cs w)=.next (lone (b.atR a (.code c::.inScope c::k)) cs w) :=
 step_lone_go (by simp[stepG,stepG.exec,Frame.atR])
theorem oY{c:Code}:step P (lone (b.atR a (.inScope c::k)) cs w)=.next (lone (b.atR a k) cs w) :=
 step_lone_go (by simp[stepG,stepG.exec,Frame.atR])
def noGotoX(Q:Exit->Act->World->Prop):Exit->Act->World->Prop
 |.goto _,_,_=>False
 |e,a,w=>Q e a w
theorem wt{F:Fence}{n:Nat}{c:Code}{Q:Exit->Act->World->Prop}(h:c.wpIn F n P (noGotoX Q) a w):(Code.scope c).wpIn F n P Q a w:=by
 intro b k cs hro hb hr;have h0:(lone (b.atR a (.code (.scope c)::k)) cs w).fenced P F:=fenced_calm hb hr rfl;obtain⟨e,a₁,w₁,hq,harr⟩:=h b (.inScope c::k) cs hro hb hr;cases e with
 |normal=>exact⟨.normal,a₁,w₁,hq,.head h0 dN (StepsIn.trans harr (.one (fenced_calm hb hr rfl) oY))⟩
 |exit id' =>
  have hx:exitTo id' (.inScope c::k)=exitTo id' k:=by simp[exitTo]
  exact⟨.exit id',a₁,w₁,hq,fun k' hk=>.head h0 dN (harr.1 k' (by rw[hx];exact hk)),
   fun hr' hk=>let ⟨k₁,h1,h2⟩:=harr.2 hr' (by rw[hx];exact hk);⟨k₁,h1,.head h0 dN h2⟩⟩
 |goto l=>exact hq.elim
 |ret=>exact⟨_,a₁,w₁,hq,.of_steps (.one h0 dN) harr⟩
 |panic ch=>exact⟨_,a₁,w₁,hq,.of_steps (.one h0 dN) harr⟩
 |outgrown=>exact⟨_,a₁,w₁,hq,.of_steps (.one h0 dN) harr⟩
theorem Run.scope{c:Code}{st st1:St}{out:Out}(h:Run P c st out st1)(hg:∀l,out≠.goto l):Run P (.scope c) st out st1 :=
 ⟨h.1,fun r n G a w db Q hs kk=>wt (h.2 r n G a w db _ hs fun e a' w' G' he hs' hl=>by
  have:=kk e a' w' G' he hs' hl
  cases e <;> first|exact this|(cases out <;> first|exact absurd rfl (hg _)|exact he.elim))⟩
end
section
variable {P:Program} {T:TypeId->TyI} {G:Gh} {sg:List Box} {w:World}
theorem ff(hR:Rel G sg w){id l d:Nat}{r:LoopR}(hs:G.rho[id]?=some (.lp l d))(hb:sg[id]?=some (.loop r)):
 G.w0.heap.size<=l∧∃tmps fn,w.heap[l]?=some (.loop { state:=r.st,pending:=r.pend,fn:=fn,tmps:=tmps,params:=r.params.toArray,assign:=r.assign,body:=r.body,defers:=d })∧tmps.size=r.n∧RepT G r.tm tmps∧d∈G.dfr:=by
 have hok:=hR.box id _ _ hs hb;obtain⟨h1,tmps,⟨fn,h2⟩,h3,h4,h5⟩:=hok;exact⟨h1,tmps,fn,h2,h3,h4,h5⟩
theorem mc(hR:Rel G sg w){id l d:Nat}{r:LoopR}{b':Box}{o:Obj}(hs:G.rho[id]?=some (.lp l d))(hb:sg[id]?=some (.loop r))(hok:BoxOk G (w.putObj l o) (.lp l d) b'):Rel G (sg.set id b') (w.putObj l o):=by
 obtain⟨h1,tmps,fn,h2,h3,h4,h5⟩:=ff hR hs hb;have:=hR.change (s':=.lp l d) (b':=b') (w':=w.putObj l o) hs (Slot.le_refl _) (grownBy_putObj' w l o) (fun g e=>.inl e) (fun g e=>by cases e;exact h1)
  (fun g e o' v hv=>by
   cases e;have:=hR.st _ _ _ hv
   unfold World.cell? at this;rw[h2]at this;simp at this)
  (fun g e es c hv=>by
   cases e;have:=hR.stM _ _ _ hv
   rw[h2]at this;cases this)
  (fun g e=>kH hR hs hb e) (by rw[cn hs];exact hok)
 rw[cn hs]at this;exact this
theorem uf(hR:Rel G sg w){id l d:Nat}{r:LoopR}(hs:G.rho[id]?=some (.lp l d))(hb:sg[id]?=some (.loop r)){tmps:Array Value}{fn:FuncId}
 (h2:w.heap[l]?=some (.loop { state:=r.st,pending:=r.pend,fn:=fn,tmps:=tmps,params:=r.params.toArray,assign:=r.assign,body:=r.body,defers:=d })) (st:LoopState) (pe:Option Code) :
 Rel G (cJ sg id st pe) (w.putObj l (.loop { state:=st,pending:=pe,fn:=fn,tmps:=tmps,params:=r.params.toArray,assign:=r.assign,body:=r.body,defers:=d })):=by
 obtain⟨h1,tmps',fn',h2',h3,h4,h5⟩:=ff hR hs hb;rw[h2]at h2';cases h2';unfold cJ;rw[hb];refine mc hR hs hb ⟨h1,tmps,⟨fn,World.putObj_heap_same (ba h2)⟩,h3,h4,h5⟩
theorem yP(hR:Rel G sg w){id l d:Nat}{r:LoopR}(hs:G.rho[id]?=some (.lp l d))(hb:sg[id]?=some (.loop r))(o:Obj):Rel G (sg.set id .gone) (w.putObj l o):=by
 obtain⟨h1,tmps,fn,h2,h3,h4,h5⟩:=ff hR hs hb;refine mc hR hs hb ?_;show BoxOk G _ (.lp l d) .gone;intro g e;cases e;exact⟨h1,by rw[World.putObj_size];exact ba h2⟩
theorem push_dfr(hR:Rel G sg w):Rel { G with dfr:=w.heap.size::G.dfr } sg (w.alloc (.deferred (some [])))∧G.le { G with dfr:=w.heap.size::G.dfr }:=by
 have hle:G.le { G with dfr:=w.heap.size::G.dfr }:=⟨rfl,fun _ _ _ e=>e,fun _ _ e=>e,fun _ _ _=>rfl,fun _ _=>rfl,fun _ s e=>⟨s,e,s.le_refl⟩⟩
 have hk:=hR.keep (c8 w (.deferred (some [])));refine⟨⟨hk.below,hk.len,fun id s b hs hb=>?_,hk.inj,hk.st,hk.stM,fun b hb=>?_,hR.tab⟩,hle⟩
 ·exact(hk.box id s b hs hb).keep (DS _) (fun _ _ r=>r.mono hle) rfl (fun _ _=>rfl) (fun _ _ _ e=>e) (fun _ _ e=>e) (fun _ e=>DW _ e)
 ·rcases D6.1 hb with rfl|hb
  ·exact⟨hR.base_le,World.alloc_heap_new w _⟩
  ·exact hk.dfr b hb
theorem rX(hR:Rel G sg w){d:Nat}(hd:d∈G.dfr){r:LoopR}{fn:FuncId}{tmps:Array Value}(hn:tmps.size=r.n)(ht:RepT G r.tm tmps):
 Rel (G.push (.lp w.heap.size d)) (sg++[.loop r]) (w.alloc (.loop { state:=r.st,pending:=r.pend,fn:=fn,tmps:=tmps,params:=r.params.toArray,assign:=r.assign,body:=r.body,defers:=d })) :=
 hR.push (c8 w _) (fun g e=>by cases e;exact DS _)
  ⟨hR.base_le,tmps,⟨fn,World.alloc_heap_new w _⟩,hn,ht.mono (G.push_le _),hd⟩
theorem jd(sg:List Box)(id:Nat)(s:LoopState)(p:Option Code):(cJ sg id s p).length=sg.length:=by
 unfold cJ;split <;> simp
variable {st st':St} {out:Out}
theorem Run.rangeFunc{f:Operand}{ps:Array Tmp}{as0 b:Code}{g:FuncId}{first cap:List PV}(hf:evO st.tm f=some (.fn (.func g) first cap))(he:bC P g){v:PV}{sg':List Box}{r:LoopR}
 (hcall:ab P g (first++(.yl st.sg.length::cap)) (st.sg++[.loop { tm:=st.tm,n:=st.n,params:=ps.toList,assign:=as0,body:=b,st:=.ready,pend:=none }]) (.ret v) sg')
 (hsl:SameLoops (st.sg++[.loop { tm:=st.tm,n:=st.n,params:=ps.toList,assign:=as0,body:=b,st:=.ready,pend:=none }]) sg')
 (hid:sg'[st.sg.length]?=some (.loop r)) (hb:r.st≠.busy)
 (hk:match r.pend with
  |none=>out=.normal∧st'={ st with sg:=sg'.set st.sg.length .gone }
  |some c=>Run P c { st with sg:=sg'.set st.sg.length .gone } out st'):Run P (.rangeFunc f ps as0 b) st out st':=by
 have hlen:st.sg.length+1<=sg'.length:=by have:=hcall.1;simpa using this
 have hlen':st.sg.length<=st'.sg.length:=by
  split at hk
  ·obtain⟨_,rfl⟩:=hk
   show _<=(sg'.set _ _).length;simp;omega
  ·have:=hk.1
   have h2:(sg'.set st.sg.length Box.gone).length=sg'.length:=by simp
   simp only[h2]at this;omega
 refine⟨hlen',fun rd n G a w db Q hs k=>wpIn_rangeFunc ?_⟩
 intro fn _;obtain⟨d,mark,W1,G1,henter,hR1,hle1,hdf1⟩:∃(d:Nat) (mark:List Deferred) (W1:World) (G1:Gh),
  (∃l,(Instr.enterLoop fn a.tmps ps as0 b (FW rd).round).run P w=.ok (l,mark) W1∧G1.rho[st.sg.length]?=some (.lp l d)) ∧
  Rel G1 (st.sg++[.loop { tm:=st.tm,n:=st.n,params:=ps.toList,assign:=as0,body:=b,st:=.ready,pend:=none }]) W1∧G.le G1 ∧
  (∃own0:List Nat,mark=own0.map markD∧G1.dfr=own0++G.dfr∧own0.Nodup∧(∀D∈own0,D∉G.dfr)∧(rd≠none->own0=[])):=by
  have hRl:G.rho.length=st.sg.length:=hs.rel.len;cases rd with
  |none =>
   obtain⟨hA,hleA⟩:=push_dfr hs.rel;have hB:=rX (G:={ G with dfr:=w.heap.size::G.dfr }) hA (d:=w.heap.size) (DV ..) (r:={ tm:=st.tm,n:=st.n,params:=ps.toList,assign:=as0,body:=b,st:=.ready,pend:=none }) (fn:=fn) hs.n (hs.tm.mono hleA)
   rw[World.size_alloc]at hB;refine⟨w.heap.size,_,_,_,⟨w.heap.size+1,?_,?_⟩,hB,Gh.le_trans hleA (Gh.push_le _ _),[w.heap.size],rfl,rfl,by simp,fun D hD hD2=>?_,fun h=>absurd rfl h⟩
   ·show(Instr.enterLoop fn a.tmps ps as0 b none).run P w=_
    simpa[markD]using run_enterLoop_outer fn a.tmps ps as0 b
   ·show(G.rho++[_])[st.sg.length]?=_
    rw[D9 (by omega),hRl];simp
   ·simp at hD
    subst hD;have:=ba (hs.rel.dfr _ hD2).2
    omega
  |some l0 =>
   obtain⟨id0,d0,lr,e1,e2⟩:=hs.rd l0 rfl;obtain⟨_,tm0,fn0,h2,_,_,hd0⟩:=ff hs.rel e1 e2;have hB:=rX hs.rel hd0 (r:={ tm:=st.tm,n:=st.n,params:=ps.toList,assign:=as0,body:=b,st:=.ready,pend:=none }) (fn:=fn) hs.n hs.tm;refine⟨d0,[],_,_,⟨w.heap.size,?_,?_⟩,hB,Gh.push_le _ _,[],rfl,rfl,FI,fun D h=>(by cases h),fun _=>rfl⟩
   ·show(Instr.enterLoop fn a.tmps ps as0 b (some l0)).run P w=_
    simpa using run_enterLoop_inner h2 fn a.tmps ps as0 b
   ·show(G.rho++[_])[st.sg.length]?=_
    rw[D9 (by omega),hRl];simp
 obtain⟨l,henter,hsl1⟩:=henter;obtain⟨own0,hm0,hdf0,hnd0,hdis0,hrn0⟩:=hdf1;have hr:=aH (hs.tm.mono hle1) hf;obtain⟨us1,us2,hfu,hl1,hl2,hr1,hr2⟩:∃us1 us2,a.eval f=.func (.func g) us1 us2∧us1.size=first.length∧us2.size=cap.length∧(∀(j:Nat) (c:PV) (u:Value),first[j]?=some c->us1[j]?=some u->Rep G1 c u)∧(∀(j:Nat) (c:PV) (u:Value),cap[j]?=some c->us2[j]?=some u->Rep G1 c u):=by
  generalize hfo:a.eval f=fu at hr;cases hr with
  |fn hfn l1 l2 r1 r2=>exact⟨_,_,rfl,l1,l2,r1,r2⟩
 have hL:RepL G1 (first++(.yl st.sg.length::cap)) (us1++#[.func (.yield l) #[] #[]]++us2):=by
  refine⟨by simp[hl1,hl2];omega,fun j x u hx hu=>?_⟩
  rw[Array.append_assoc]at hu;by_cases hj:j<first.length
  ·rw[DY hj]at hx
   rw[ES (by omega)]at hu
   exact hr1 j x u hx hu
  ·rw[D9 (by omega)]at hx
   rw[OM (by omega),hl1]at hu
   obtain⟨i,hi⟩:∃i,j-first.length=i:=⟨_,rfl⟩
   rw[hi]at hx hu;cases i with
   |zero =>
    rw[ES (by simp)]at hu
    simp at hx hu;subst hx;subst hu;exact .yl hsl1
   |succ i =>
    rw[OM (by simp)]at hu
    simp at hx hu;exact hr2 i x u hx hu
 refine⟨l,mark,W1,{ target:=.fn (.func g) us2,args:=us1++#[.func (.yield l) #[] #[]] },W1,g,us1++#[.func (.yield l) #[] #[]]++us2,W1,henter,?_,fun _ _=>trivial,?_,fun h=>(by cases h),?_⟩
 ·have hc:a.eval (.const (.func (.yield l) #[] #[]))=.func (.yield l) #[] #[]:=rfl
  simp[resolve,hfu,Deferred.ofValue,hc]
 ·simp[invoke,he _ W1]
 ·refine cv rd (CallsIn.mono (hcall.2 (n-1) G1 W1 _ hR1 hL) fun e w' ⟨G',hR',hl',hdf',hm⟩=>?_)
  cases e with
  |panicked ch=>exact hm.elim
  |outgrown=>exact hm.elim
  |returned u =>
   obtain⟨s',e',hle'⟩:=hl'.rho _ _ (by simp) hsl1
   cases s' <;> simp only[Slot.le]at hle'
   obtain⟨rfl,rfl⟩:=hle';obtain⟨_,tm2,fn2,h2,_⟩:=ff hR' e' hid;have hend:=run_endLoop (P:=P) h2 (by simpa using hb)
   refine⟨r.pend,_,hend,?_⟩;have hR2:=yP hR' e' hid (.loop { state:=.exhausted,pending:=r.pend,fn:=fn2,tmps:=tm2,params:=r.params.toArray,assign:=r.assign,body:=r.body,defers:=d });have hlM:Gh.leM st.sg.length G G':=(hle1.leM st.sg.length).trans hl' (by simp)
   have hS:RelS G' { st with sg:=sg'.set st.sg.length .gone } { a with defers:=mark++a.defers } (w'.putObj l (.loop { state:=.exhausted,pending:=r.pend,fn:=fn2,tmps:=tm2,params:=r.params.toArray,assign:=r.assign,body:=r.body,defers:=d })) rd db:=by
    refine⟨hR2,fun t x e=>?_,hs.n,?_,fun l0 hl0=>?_⟩
    ·obtain⟨y,hy,hr⟩:=hs.tm t x e
     exact⟨y,hy,hr.monoM hlM (hs.rel.len▸hr.lt)⟩
    ·obtain⟨own,o1,o2,o3,o4,o5⟩:=hs.dfr
     refine⟨own0++own,by rw[hm0,o1,Ec,Et],by rw[hdf',hdf0,o2,Et],List.nodup_append.2 ⟨hnd0,o3,fun x hx y hy e=>?_⟩,fun D hD=>?_,fun h=>by rw[hrn0 h,o5 h];rfl⟩
     ·subst e
      exact hdis0 x hx (by rw[o2];exact EY _ hy)
     ·rcases Ez.1 hD with h|h
      ·exact fun h'=>hdis0 D h (by rw[o2];exact Fp _ h')
      ·exact o4 D h
    ·obtain⟨id0,d0,lr,e1,e2⟩:=hs.rd l0 hl0
     have hlt0:=(DR.1 e2).1;obtain⟨lr',h3⟩:=hsl.1 id0 lr (by rw[DY hlt0];exact e2)
     have h3':(sg'.set st.sg.length .gone)[id0]?=some (.loop lr'):=by rw[D8 (by omega)];exact h3
     obtain⟨lr',h4,h5⟩:=cj (lr:=lr) hR2 hlM hlt0 e1 (fun hg=>by rw[h3']at hg;cases hg)
     exact⟨id0,d0,lr',h4,h5⟩
   split at hk
   ·rename_i hp
    obtain⟨rfl,rfl⟩:=hk;rw[hp];simp only;exact k .normal _ _ G' trivial (by rw[hp]at hS;exact hS) hlM
   ·rename_i c hp
    rw[hp];simp only;rw[hp]at hS;exact hk.2 rd n G' _ _ db Q hS fun e a'' w'' G'' he' hs'' hl''=>k _ _ _ G'' he' hs'' (hlM.trans hl'' (by simp;omega))
end
section
variable {P:Program} {T:TypeId->TyI} {G:Gh} {sg:List Box} {w:World}
theorem RepT.putT'{tm:List (Nat×PV)}{a:Array Value}(h:RepT G tm a){p:Nat}(hp:p<a.size){v:PV}{u:Value}(hv:Rep G v u):RepT G (jW tm p v) (a.setIfInBounds p u):=by
 intro t x e;rw[eR]at e;split at e
 ·rename_i hpt
  subst hpt;cases e;exact⟨u,by simp[hp],hv⟩
 ·rename_i hpt
  obtain⟨y,hy,hr⟩:=h t x e;exact⟨y,by rw[Gb hpt];exact hy,hr⟩
theorem uA:∀(ps:List Nat) (vs:List PV) (us:List Value) (tm:List (Nat×PV)) (a:Array Value),RepT G tm a->vs.length=us.length->(∀(j:Nat) (c:PV) (u:Value),vs[j]?=some c->us[j]?=some u->Rep G c u)->(∀p∈ps,p<a.size) ->
 RepT G (oS tm ps vs) ((ps.zip us).foldl (fun t (p,v)=>t.setIfInBounds p v) a)∧((ps.zip us).foldl (fun t (p,v)=>t.setIfInBounds p v) a).size=a.size
 |[],vs,us,tm,a,h,_,_,_=>by
  cases vs <;> exact⟨h,rfl⟩
 |p::ps,[],us,tm,a,h,hl,_,_=>by
  cases us
  ·exact⟨h,rfl⟩
  ·simp at hl
 |p::ps,v::vs,[],tm,a,h,hl,_,_=>by simp at hl
 |p::ps,v::vs,u::us,tm,a,h,hl,hr,hp=>by
  have h0:=h.putT' (hp p (DV ..)) (hr 0 v u rfl rfl);have:=uA ps vs us (jW tm p v) (a.setIfInBounds p u) h0 (by simpa using hl) (fun j c x e1 e2=>hr (j+1) c x (by simpa using e1) (by simpa using e2)) (fun q hq=>by simpa using hp q (DW _ hq))
  exact⟨this.1,by rw[Gs,EI];exact this.2.trans (by simp)⟩
theorem sw{sg:List Box}{id:Nat}{r:LoopR}(h:sg[id]?=some (.loop r))(s:LoopState)(p:Option Code):(cJ sg id s p)[id]?=some (.loop { r with st:=s,pend:=p }):=by
 unfold cJ;rw[h];exact D4 (DR.1 h).1
theorem loop_at{st:St}{a:Act}{l d:Nat}{db:DB}{id:Nat}(hs:RelS G st a w (some l) db)(hr:G.rho[id]?=some (.lp l d)):∃lr,st.sg[id]?=some (.loop lr):=by
 obtain⟨id',d',lr,e1,e2⟩:=hs.rd l rfl;by_cases h:id'=id
 ·subst h;exact⟨lr,e2⟩
 ·exact absurd rfl (hs.rel.inj id' id _ _ l h e1 hr rfl)
theorem YieldOk.of{id:Nat}{args:List PV}{r r1:LoopR}{st1 st2:St}{o:Out}{j:Option Code}(hb:sg[id]?=some (.loop r))(hpl:r.params.length=args.length)(hps:∀p∈r.params,p<r.n)
 (h1:Run P r.assign { tm:=oS r.tm r.params args,n:=r.n,sg } .normal st1) (hb1:st1.sg[id]?=some (.loop r1)) (hr1:r1.st=.ready)
 (h2:Run P r.body { st1 with sg:=cJ st1.sg id .busy r1.pend } o st2) (hj:uT o=some j) :
 YieldOk P id args sg (.ret (.bool j.isNone)) (cJ st2.sg id (if j.isNone then .ready else .done) j):=by
 have hlen2:st1.sg.length<=st2.sg.length:=by have:=h2.1;rw[jd]at this;exact this
 refine⟨by rw[jd];exact Em h1.1 hlen2,fun n G w us l d hR hs hL=>?_⟩
 obtain⟨hl0,tmps,fn,hrec,htn,htm,hd⟩:=ff hR hs hb;have hy:=run_yield (P:=P) (args:=us) hrec (by rw[hL.1];simpa using hpl.symm)
 refine⟨fn,_,r.assign,r.body,hy,?_⟩;have hfold:((r.params.toArray.zip us).foldl (fun t (p,v)=>t.setIfInBounds p v) tmps)=((r.params.zip us.toList).foldl (fun t (p,v)=>t.setIfInBounds p v) tmps):=by
  rw[←GX,Array.toList_zip]
 obtain⟨ht1,ht2⟩:=uA (G:=G) r.params args us.toList r.tm tmps htm (by simpa using hL.1.symm) (fun j c u e1 e2=>hL.2 j c u e1 (by simpa using e2)) (fun p hp=>by rw[htn];exact hps p hp)
 refine roundIn_of_wpIn trivial ?_;have hS:RelS G { tm:=oS r.tm r.params args,n:=r.n,sg } { tmps:=(r.params.toArray.zip us).foldl (fun t (p,v)=>t.setIfInBounds p v) tmps,defers:=[] } w (some l) (G.dfr,[]):=by
  refine⟨hR,by rw[hfold];exact ht1,by rw[hfold];exact ht2.trans htn,⟨[],rfl,rfl,FI,(fun D h=>by cases h),fun _=>rfl⟩,fun l' e=>?_⟩
  cases e;exact⟨id,d,r,hs,hb⟩
 refine h1.2 (some l) n G _ w (G.dfr,[]) _ hS fun e a1 w1 G1 he hs1 hl1=>?_
 obtain rfl:=he.normal';have hid:id<sg.length:=(DR.1 hb).1;have lift:∀{A B:Gh},Gh.leM sg.length A B->A.rho[id]?=some (.lp l d)->B.rho[id]?=some (.lp l d):=fun hl e=>by
  obtain⟨s',e',hle⟩:=hl.rho _ _ hid e;cases s' <;> simp only[Slot.le]at hle
  obtain⟨rfl,rfl⟩:=hle;exact e'
 have hs1':=lift hl1 hs;obtain⟨_,tm1,fn1,hrec1,_⟩:=ff hs1.rel hs1' hb1;have hbr:=run_beginRound (P:=P) hrec1 (by simpa using hr1)
 refine⟨_,hbr,?_⟩;have hR1:=uf hs1.rel hs1' hb1 hrec1 .busy r1.pend;have hS1:RelS G1 { st1 with sg:=cJ st1.sg id .busy r1.pend } a1 (w1.putObj l (.loop { state:=.busy,pending:=r1.pend,fn:=fn1,tmps:=tm1,params:=r1.params.toArray,assign:=r1.assign,body:=r1.body,defers:=d })) (some l) (G.dfr,[]):=by
  refine⟨hR1,hs1.tm,hs1.n,hs1.dfr,fun l' e=>?_⟩
  cases e;exact⟨id,d,_,hs1',sw hb1 _ _⟩
 refine h2.2 (some l) n G1 a1 _ (G.dfr,[]) _ hS1 fun e a2 w2 G2 he2 hs2 hl2=>?_
 have hl2':Gh.leM sg.length G G2:=hl1.trans (by simpa[jd]using hl2) h1.1
 have hs2':=lift hl2' hs;obtain⟨lr,hb2⟩:=loop_at hs2 hs2';obtain⟨_,tm2,fn2,hrec2,_⟩:=ff hs2.rel hs2' hb2;have hdf:G2.dfr=G.dfr:=by
  obtain⟨own,_,o2,_,_,o5⟩:=hs2.dfr;rw[o2,o5 (by simp)];rfl
 have fin:∃v w',(Instr.endRound l j).run P w2=.ok v w'∧∃G',Rel G' (cJ st2.sg id (if j.isNone then .ready else .done) j) w'∧Gh.leM sg.length G G'∧G'.dfr=G.dfr∧match PRes.ret (.bool j.isNone),Ending.returned v with
  |.ret v,.returned u=>Rep G' v u
  |_,_=>False:=by
  have hend:=run_endRound (P:=P) j hrec2;exact⟨_,_,hend,G2,uf hs2.rel hs2' hb2 hrec2 _ j,hl2',hdf,.bool⟩
 cases o <;> cases e <;> first|exact he2.elim|(cases hj;done)|skip
 all_goals
  cases hj
  try cases he2
  exact fin
def jI(P:Program):Task->Res->Prop
 |.code c st,.code o st'=>Run P c st o st'∧∀b,c=.loop b->LoopRun P b st o st'
 |.call f args sg,.call r sg'=>bC P f∧ab P f args sg r sg'∧SameLoops sg sg'
 |.yield id args sg,.call r sg'=>YieldOk P id args sg r sg'∧SameLoops sg sg'
 |_,_=>False
variable {me:Meth} {prim:CallF->FuncId->List PV->List Box->Option (Option (PRes×List Box))} {e:Task->Option Res}
def nt(P:Program)(prim:CallF->FuncId->List PV->List Box->Option (Option (PRes×List Box))):Prop :=
 ∀cf,CallFOk P cf->∀f args sg r sg',prim cf f args sg=some (some (r,sg'))->bC P f∧ab P f args sg r sg'∧SameLoops sg sg'
def Named(P:Program):Prop:=∀(f:FuncId) (fn:Func),P.funcs[f]?=some fn->(fn.name == "runtime.NumGoroutine")=false
theorem zI(IH:∀t r,e t=some r->jI P t r):CallFOk P (qZ e):=by
 intro f args sg r sg' h;unfold qZ at h;split at h <;> cases h
 exact IH _ _ ‹_›
theorem wi(IH:∀t r,e t=some r->jI P t r):dB P (pO e):=by
 intro id args sg r sg' h;unfold pO at h;split at h <;> cases h
 exact IH _ _ ‹_›
theorem ux{r:Option (Out×St)}{res:Res}(h:resOf r=some res):∃o st,r=some (o,st)∧res=.code o st:=by
 unfold resOf at h;split at h <;> cases h
 exact⟨_,_,rfl,rfl⟩
theorem ct(IH:∀t r,e t=some r->jI P t r){c:Code}{st:St}{r:Res}(h:e (.code c st)=some r):∃o st',r=.code o st'∧Run P c st o st'∧∀b,c=.loop b->LoopRun P b st o st':=by
 have:=IH _ _ h
 cases r with
 |code o st'=>exact⟨o,st',rfl,this⟩
 |call r sg=>exact this.elim
theorem call_res(IH:∀t r,e t=some r->jI P t r){f:FuncId}{args:List PV}{sg:List Box}{r:Res}(h:e (.call f args sg)=some r):∃o sg',r=.call o sg'∧bC P f∧ab P f args sg o sg'∧SameLoops sg sg':=by
 have:=IH _ _ h
 cases r with
 |code o st'=>exact this.elim
 |call r sg=>exact⟨r,sg,rfl,this⟩
theorem dn{c:Code}{st st':St}{o:Out}(h:Run P c st o st')(hn:∀b,c≠.loop b):jI P (.code c st) (.code o st'):=⟨h,fun b e=>absurd e (hn b)⟩
theorem xK(hT:TyT P T)(hme:cQ P me)(hm:P.follows .mixedOrders=true)(hnm:Named P)(hprim:nt P prim)(IH:∀t r,e t=some r->jI P t r):∀t r,iQ P me T prim e t=some r->jI P t r:=by
 have hcf:=zI IH;have hyf:=wi IH;intro t r h;cases t with
 |code c st =>
  cases c with
  |skip=>cases h;exact dn (Run.skip st) (fun b e=>by cases e)
  |label l=>cases h;exact dn (Run.label l st) (fun b e=>by cases e)
  |ret=>cases h;exact dn (Run.ret st) (fun b e=>by cases e)
  |exit id=>cases h;exact dn (Run.exit id st) (fun b e=>by cases e)
  |goto l=>cases h
  |refuse s=>cases h
  |scope b =>
   simp only[iQ]at h;split at h
   ·cases h
   ·rename_i x hne
    obtain⟨o,st',rfl,hr,_⟩:=ct IH h;exact dn (Run.scope hr (fun l e=>by subst e;exact hne l st' h)) (fun b e=>by cases e)
  |region id ops draw =>
   cases draw with
   |false =>
    obtain⟨o,st',h1,rfl⟩:=ux h;exact dn (lW hT hcf hyf hme h1) (fun b e=>by cases e)
   |true =>
    obtain⟨o,st',h1,rfl⟩:=ux h;have:o=.normal:=oJ h1
    subst this;exact dn (qQ hT hcf hyf hme hm h1) (fun b e=>by cases e)
  |seq a b =>
   simp only[iQ]at h;split at h
   ·rename_i st1 h1
    obtain⟨o1,st1',e1,hr1,_⟩:=ct IH h1;cases e1;obtain⟨o,st',rfl,hr,_⟩:=ct IH h;exact dn (Run.seq hr1 hr) (fun b e=>by cases e)
   ·rename_i x hne
    obtain⟨o,st',rfl,hr,_⟩:=ct IH h;exact dn (Run.seqX hr (fun e=>by subst e;exact hne st' h)) (fun b e=>by cases e)
  |cond c a b =>
   simp only[iQ]at h;split at h
   ·rename_i hc
    obtain⟨o,st',rfl,hr,_⟩:=ct IH h;exact dn (Run.condT hc hr) (fun b e=>by cases e)
   ·rename_i hc
    obtain⟨o,st',rfl,hr,_⟩:=ct IH h;exact dn (Run.condF hc hr) (fun b e=>by cases e)
   ·cases h
  |block id b =>
   simp only[iQ]at h;split at h <;> cases h
   rename_i o st1 h1;obtain⟨o1,st1',e1,hr1,_⟩:=ct IH h1;cases e1;exact dn (Run.block hr1) (fun b e=>by cases e)
  |loop b =>
   simp only[iQ]at h;have key:∀{o st'},LoopRun P b st o st'->jI P (.code (.loop b) st) (.code o st'):=fun hl=>⟨hl.run,fun b' e=>by cases e;exact hl⟩
   split at h
   ·rename_i st1 h1
    obtain⟨o1,st1',e1,hr1,_⟩:=ct IH h1;cases e1;obtain⟨o,st',rfl,_,hl⟩:=ct IH h;exact key (.next (trim_ok hr1) (hl b rfl))
   ·rename_i x hne
    obtain⟨o,st',rfl,hr,_⟩:=ct IH h;exact key (.last hr (fun e=>by subst e;exact hne st' h))
  |rangeFunc f ps as0 b =>
   simp only[iQ]at h;split at h <;> try (cases h;done)
   rename_i g first cap hf
   split at h <;> try (cases h;done)
   rename_i v sg' hc;obtain⟨o1,sg1,e1,hent,hcall,hsl⟩:=call_res IH hc;cases e1;split at h <;> try (cases h;done)
   rename_i lr hlr;split at h <;> try (cases h;done)
   rename_i hbusy;have hb:lr.st≠.busy:=fun e=>by rw[e]at hbusy;exact hbusy rfl
   split at h
   ·rename_i hp
    cases h;exact dn (Run.rangeFunc hf hent hcall hsl hlr hb (by rw[hp];exact⟨rfl,rfl⟩)) (fun b e=>by cases e)
   ·rename_i c hp
    obtain⟨o,st',rfl,hr,_⟩:=ct IH h;exact dn (Run.rangeFunc hf hent hcall hsl hlr hb (by rw[hp];exact hr)) (fun b e=>by cases e)
 |call f args sg =>
  simp only[iQ]at h;split at h
  ·split at h <;> cases h
   rename_i hp;exact hprim _ hcf _ _ _ _ _ hp
  ·split at h <;> try (cases h;done)
   rename_i fn hfn;split at h <;> try (cases h;done)
   rename_i c hbody;have hent:bC P f:=rt hfn hbody (hnm f fn hfn);split at h <;> try (cases h;done)
   ·rename_i v st' h1
    obtain⟨o1,st1,e1,hr1,_⟩:=ct IH h1;cases e1;split at h <;> cases h
    rename_i hsl;have hsl:=aD _ _ hsl;exact⟨hent,ab.bodyP hfn hbody rfl hr1 hsl,hsl⟩
   ·rename_i o st' hne h1
    obtain⟨o1,st1,e1,hr1,_⟩:=ct IH h1;cases e1;split at h <;> try (cases h;done)
    rename_i hout;split at h <;> try (cases h;done)
    rename_i v hv;split at h <;> cases h
    rename_i hsl;have hsl1:=aD _ _ hsl.1;exact⟨hent,jF (ab.body hT hfn hbody rfl hr1 hout hv hsl1),aD _ _ hsl.2⟩
 |yield id args sg =>
  simp only[iQ]at h;split at h <;> try (cases h;done)
  rename_i lr hlr;split at h <;> try (cases h;done)
  rename_i hpl;split at h <;> try (cases h;done)
  rename_i st1 h1;obtain⟨o1,st1',e1,hr1,_⟩:=ct IH h1;cases e1;split at h <;> try (cases h;done)
  rename_i r1 hb1;split at h <;> try (cases h;done)
  rename_i hready;split at h <;> try (cases h;done)
  rename_i o st2 h2;obtain⟨o2,st2',e2,hr2,_⟩:=ct IH h2;cases e2;split at h <;> try (cases h;done)
  rename_i j hj;have hY:=fun (h1':Run P lr.assign _ .normal st1) (hr:r1.st=.ready)=>YieldOk.of hlr hpl.1 (fun p hp=>EV (D7.1 hpl.2 p hp)) h1' hb1 hr hr2 hj
  generalize cJ st2.sg id (if j.isNone=true then LoopState.ready else LoopState.done) j=sgF at h hY;split at h <;> cases h
  rename_i hsl;refine⟨hY hr1 ?_,aD _ _ hsl⟩;clear hY;cases hst:r1.st <;> rw[hst]at hready <;> first|rfl|cases hready
theorem ev_ok(hT:TyT P T)(hme:cQ P me)(hm:P.follows .mixedOrders=true)(hnm:Named P)(hprim:nt P prim):∀(k:Nat) (t:Task) (r:Res),ev P me T prim k t=some r->jI P t r
 |0,t,r,h=>by cases h
 |k+1,t,r,h=>xK hT hme hm hnm hprim (ev_ok hT hme hm hnm hprim k) t r h
theorem dC(hT:TyT P T)(hme:cQ P me)(hm:P.follows .mixedOrders=true)(hnm:Named P)(hprim:nt P prim){k:Nat}{f:FuncId}{args:List PV}{sg sg':List Box}{r:PRes}(h:ev P me T prim k (.call f args sg)=some (.call r sg')):
 bC P f∧ab P f args sg r sg'∧SameLoops sg sg':=ev_ok hT hme hm hnm hprim k _ _ h
end
def am(P:Program)(c:Code)(st:St)(Q:Out->St->Prop):Prop:=∃out st',Run P c st out st'∧Q out st'
def iM(P:Program)(y:Code)(Q:Out->St->Prop)(o:Out)(s:St):Prop :=
 match o with
 |.normal=>am P y s Q
 |o=>Q o s
def dH(id:Nat)(Q:Out->St->Prop)(o:Out)(s:St):Prop:=Q (o.inBlock id) s
section
variable {P:Program} {T:TypeId->TyI} {st:St} {Q Q':Out->St->Prop}
theorem iM.n{y:Code}{s:St}(h:am P y s Q):iM P y Q .normal s:=h
theorem iM.r{y:Code}{s:St}(h:Q .ret s):iM P y Q .ret s:=h
theorem iM.x{y:Code}{s:St}{i:Nat}(h:Q (.exit i) s):iM P y Q (.exit i) s:=h
theorem iM.p{y:Code}{s:St}{v:PV}(h:Q (.panic v) s):iM P y Q (.panic v) s:=h
theorem dH.n{id:Nat}{s:St}(h:Q .normal s):dH id Q .normal s:=h
theorem dH.r{id:Nat}{s:St}(h:Q .ret s):dH id Q .ret s:=h
theorem dH.p{id:Nat}{s:St}{v:PV}(h:Q (.panic v) s):dH id Q (.panic v) s:=h
theorem dH.x{id:Nat}{s:St}(h:Q .normal s):dH id Q (.exit id) s:=by
 show Q (if id=id then Out.normal else Out.exit id) s;rw[DZ rfl];exact h
theorem dH.y{id j:Nat}{s:St}(hj:Nat.beq j id=false)(h:Q (.exit j) s):dH id Q (.exit j) s:=by
 show Q (if j=id then Out.normal else Out.exit j) s;rw[D5 (fun e=>by subst e;simp at hj)];exact h
theorem am.mono{c:Code}(h:am P c st Q)(hq:∀o s,Q o s->Q' o s):am P c st Q' :=
 let ⟨o,s,hr,hqs⟩:=h;⟨o,s,hr,hq o s hqs⟩
theorem am.skip(h:Q .normal st):am P .skip st Q:=⟨_,_,Run.skip st,h⟩
theorem am.label{l:Nat}(h:Q .normal st):am P (.label l) st Q:=⟨_,_,Run.label l st,h⟩
theorem am.ret(h:Q .ret st):am P .ret st Q:=⟨_,_,Run.ret st,h⟩
theorem am.exit{i:Nat}(h:Q (.exit i) st):am P (.exit i) st Q:=⟨_,_,Run.exit i st,h⟩
theorem am.seq{x y:Code}(h:am P x st (iM P y Q)):am P (.seq x y) st Q:=by
 obtain⟨o,s,hr,hq⟩:=h;cases o with
 |normal =>
  obtain⟨o',s',hr',hq'⟩:=(show am P y s Q from hq)
  exact⟨o',s',Run.seq hr hr',hq'⟩
 |exit i=>exact⟨_,_,Run.seqX hr (by simp),hq⟩
 |goto i=>exact⟨_,_,Run.seqX hr (by simp),hq⟩
 |ret=>exact⟨_,_,Run.seqX hr (by simp),hq⟩
 |panic v=>exact⟨_,_,Run.seqX hr (by simp),hq⟩
theorem am.block{id:Nat}{c:Code}(h:am P c st (dH id Q)):am P (.block id c) st Q :=
 let ⟨o,s,hr,hq⟩:=h;⟨_,_,Run.block hr,hq⟩
theorem am.cond{c:Operand}{b:Bool}{x y:Code}(hc:evO st.tm c=some (.bool b))(h1:b=true->am P x st Q)(h2:b=false->am P y st Q):am P (.cond c x y) st Q:=by
 cases b with
 |true=>obtain⟨o,s,hr,hq⟩:=h1 rfl;exact⟨o,s,Run.condT hc hr,hq⟩
 |false=>obtain⟨o,s,hr,hq⟩:=h2 rfl;exact⟨o,s,Run.condF hc hr,hq⟩
theorem am.condT{c:Operand}{x y:Code}(hc:evO st.tm c=some (.bool true))(h:am P x st Q):am P (.cond c x y) st Q:=am.cond hc (fun _=>h) (fun e=>by cases e)
theorem am.condF{c:Operand}{x y:Code}(hc:evO st.tm c=some (.bool false))(h:am P y st Q):am P (.cond c x y) st Q:=am.cond hc (fun e=>by cases e) (fun _=>h)
def sJ(P:Program)(b:Bool)(x y:Code)(st:St)(Q:Out->St->Prop):Prop :=
 match b with
 |true=>am P x st Q
 |false=>am P y st Q
theorem sJ.t{x y:Code}(h:am P x st Q):sJ P true x y st Q:=h
theorem sJ.f{x y:Code}(h:am P y st Q):sJ P false x y st Q:=h
theorem am.condD{c:Operand}{b:Bool}{x y:Code}(hc:evO st.tm c=some (.bool b))(h:sJ P b x y st Q):am P (.cond c x y) st Q:=am.cond hc (fun e=>by subst e;exact h) (fun e=>by subst e;exact h)
theorem am.scope{c:Code}(h:am P c st (fun o s=>(∀l,o≠.goto l)∧Q o s)):am P (.scope c) st Q :=
 let ⟨o,s,hr,hn,hq⟩:=h;⟨o,s,Run.scope hr hn,hq⟩
theorem am.pre{c:Code}{st1:St}(h:aL st st1)(h1:am P c st1 Q):am P c st Q :=
 let ⟨o,s,hr,hq⟩:=h1;⟨o,s,Run.pre h hr,hq⟩
theorem am.post{c:Code}(h:am P c st (fun o s=>∃s',aL s s'∧Q o s')):am P c st Q :=
 let ⟨o,_,hr,s',hg,hq⟩:=h;⟨o,s',Run.post hr hg,hq⟩
def kL(P:Program)(k0:Nat)(s s':St):Prop:=∀c st,st.sg.length=k0->Run P c st .normal s->Run P c st .normal s'
theorem kL.refl(k0:Nat)(s:St):kL P k0 s s:=fun c st _ h=>h
theorem kL.trans{k0:Nat}{a b c:St}(h:kL P k0 a b)(k:kL P k0 b c):kL P k0 a c:=fun x st e r=>k x st e (h x st e r)
theorem kL.ghost{k0:Nat}{s s':St}(h:aL s s'):kL P k0 s s':=fun c st _ r=>Run.post r h
def memN:List Nat->Nat->Bool
 |[],_=>false
 |a::l,x=>if a=x then true else memN l x
def iK(ts:List Nat):List (Nat×PV)->List (Nat×PV)
 |[]=>[]
 |(t,v)::r=>if memN ts t=true then(t,v)::iK ts r else iK ts r
def AE(m:Nat)(ts:List Nat)(s:St):St:={ tm:=iK ts s.tm,n:=s.n,sg:=s.sg.take m }
def ltBT(m:Nat):List (Nat×PV)->Bool
 |[]=>true
 |(_,v)::r=>v.ltB m&&ltBT m r
def ltBB(m:Nat):List Box->Bool
 |[]=>true
 |b::r=>b.ltB m&&ltBB m r
def trimB(k0 m:Nat)(ts:List Nat)(s:St):Bool :=
 Nat.ble k0 m&&Nat.ble m s.sg.length&&ltBT m (iK ts s.tm)&&ltBB m (s.sg.take m)&&dl (s.sg.drop m)
theorem eK{ts:List Nat}:∀{tm:List (Nat×PV)} {t:Nat} {v:PV},b9 (iK ts tm) t=some v->b9 tm t=some v
 |[],t,v,h=>by cases h
 |(s,x)::tm,t,v,h=>by
  have key:memN ts s=false->∀(l:List (Nat×PV)),b9 (iK ts l) s=none:=by
   intro hs l;induction l with
   |nil=>rfl
   |cons p l ih =>
    obtain⟨q,y⟩:=p;unfold iK;split
    ·rename_i hq
     unfold b9;rw[D5 (fun e=>by subst e;rw[hs]at hq;cases hq)]
     exact ih
    ·exact ih
  unfold iK at h;split at h
  ·unfold b9 at h ⊢
   split at h
   ·rw[DZ ‹_›];exact h
   ·rw[D5 ‹_›];exact eK h
  ·rename_i hs
   have h':=eK h;unfold b9;split
   ·rename_i hst
    subst hst;rw[key (by simpa using hs) tm]at h
    cases h
   ·exact h'
theorem yb{m:Nat}:∀{tm:List (Nat×PV)},ltBT m tm=true->∀p∈tm,Pv.Lt m p.2
 |[],_,p,hp=>by cases hp
 |(t,v)::r,h,p,hp=>by
  have h':(v.ltB m&&ltBT m r)=true:=h;rw[D3]at h';rcases D6.1 hp with rfl|hp
  ·exact eQ _ _ h'.1
  ·exact yb h'.2 p hp
theorem NV{m:Nat}:∀{sg:List Box},ltBB m sg=true->∀b∈sg,b.Lt m
 |[],_,b,hb=>by cases hb
 |b::r,h,b',hb=>by
  have h':(b.ltB m&&ltBB m r)=true:=h;rw[D3]at h';rcases D6.1 hb with rfl|hb
  ·exact dD h'.1
  ·exact NV h'.2 b' hb
theorem kL.trim{k0 m:Nat}{ts:List Nat}{s:St}(h:trimB k0 m ts s=true):kL P k0 s (AE m ts s):=by
 intro c st hk hr;simp only[trimB,D3]at h;obtain⟨⟨⟨⟨h1,h2⟩,h3⟩,h4⟩,h5⟩:=h;have r1:=Run.post hr (aL.tm (st:=s) (tm':=iK ts s.tm) fun t v e=>eK e)
 exact Run.cut r1 m (by rw[hk];exact EV h1) (EV h2) (NV h4) (yb h3) (fun v e=>by cases e) (fun id r hid=>kS h5 id r hid)
theorem am.cut{c d:Code}{k0:Nat}{Q:Out->St->Prop}(hk:st.sg.length=k0)(h:am P c st (fun o s=>o=.normal∧∃s',kL P k0 s s'∧am P d s' Q)):am P (.seq c d) st Q:=by
 obtain⟨o,s,hr,rfl,s',hb,o',s'',hr',hq⟩:=h;exact⟨o',s'',Run.seq (hb c st hk hr) hr',hq⟩
theorem am.keep{c:Code}{Q:Out->St->Prop}(ts:List Nat){tm tm':List (Nat×PV)}{n:Nat}{sg:List Box}(e:iK ts tm=tm')(h:am P c ⟨tm',n,sg⟩ Q):am P c ⟨tm,n,sg⟩ Q :=
 am.pre (aL.tm (st:=⟨tm,n,sg⟩) (tm':=tm') fun t v h'=>by rw[←e]at h';exact eK h') h
def ak(P:Program)(I:Nat->St->Prop)(m i k0:Nat)(Q:Out->St->Prop)(o:Out)(s:St):Prop :=
 match o with
 |.normal=>i<m∧∃s',kL P k0 s s'∧I (i+1) s'
 |o=>Q o s
section
variable {I:Nat->St->Prop} {m i k0:Nat}
theorem ak.n{s:St}(hi:i<m)(h:I (i+1) s):ak P I m i k0 Q .normal s:=⟨hi,s,kL.refl _ s,h⟩
theorem ak.b{s s':St}(hi:i<m)(hg:kL P k0 s s')(h:I (i+1) s'):ak P I m i k0 Q .normal s:=⟨hi,s',hg,h⟩
theorem ak.t{s:St}(n:Nat)(ts:List Nat)(hi:i<m)(hg:trimB k0 n ts s=true)(h:I (i+1) (AE n ts s)):ak P I m i k0 Q .normal s:=⟨hi,_,kL.trim hg,h⟩
theorem ak.r{s:St}(h:Q .ret s):ak P I m i k0 Q .ret s:=h
theorem ak.x{s:St}{j:Nat}(h:Q (.exit j) s):ak P I m i k0 Q (.exit j) s:=h
theorem ak.p{s:St}{v:PV}(h:Q (.panic v) s):ak P I m i k0 Q (.panic v) s:=h
end
theorem am.loop{b:Code}(I:Nat->St->Prop)(m:Nat)(h0:I 0 st)(hr:∀i s,i<=m->I i s->am P b s (ak P I m i s.sg.length Q)):am P (.loop b) st Q:=by
 have key:∀(k i:Nat) (s:St),m-i=k->i<=m->I i s->∃o s',LoopRun P b s o s'∧Q o s':=by
  intro k;induction k with
  |zero =>
   intro i s hk hi hI;obtain⟨o,s1,h1,hq⟩:=hr i s hi hI;cases o with
   |normal=>exact absurd hq.1 (by omega)
   |exit j=>exact⟨_,_,.last h1 (by simp),hq⟩
   |goto j=>exact⟨_,_,.last h1 (by simp),hq⟩
   |ret=>exact⟨_,_,.last h1 (by simp),hq⟩
   |panic v=>exact⟨_,_,.last h1 (by simp),hq⟩
  |succ k ih =>
   intro i s hk hi hI;obtain⟨o,s1,h1,hq⟩:=hr i s hi hI;cases o with
   |normal =>
    obtain⟨hlt,s2,hg,hI2⟩:=hq;obtain⟨o,s3,hl,hq3⟩:=ih (i+1) s2 (by omega) (by omega) hI2
    exact⟨o,s3,.next (hg _ _ rfl h1) hl,hq3⟩
   |exit j=>exact⟨_,_,.last h1 (by simp),hq⟩
   |goto j=>exact⟨_,_,.last h1 (by simp),hq⟩
   |ret=>exact⟨_,_,.last h1 (by simp),hq⟩
   |panic v=>exact⟨_,_,.last h1 (by simp),hq⟩
 obtain⟨o,s',hl,hq⟩:=key (m-0) 0 st rfl (Ee _) h0;exact⟨o,s',hl.run,hq⟩
def noY:dF:=fun _ _ _=>none
def noM:Meth:=fun _ _=>none
theorem sa:dB P noY:=fun id args sg r sg' h=>by cases h
theorem cP:cQ P noM:=fun t name g v w h=>by cases h
theorem am.region{me:Meth}{cf:CallF}{id:Nat}{ops:Array Oper}{o:Out}{st':St}(hT:TyT P T)(hcf:CallFOk P cf)(hme:cQ P me)(h:gH me cf noY T ops ops.toList st=some (o,st'))(hq:Q o st'):am P (.region id ops false) st Q :=
 ⟨_,_,lW hT hcf sa hme h,hq⟩
theorem am.draw{me:Meth}{cf:CallF}{id:Nat}{ops:Array Oper}{o:Out}{st':St}(hT:TyT P T)(hcf:CallFOk P cf)(hme:cQ P me)(hm:P.follows .mixedOrders=true)(h:nD me cf noY T ops st=some (o,st'))(hq:Q o st'):am P (.region id ops true) st Q:=by
 have:o=.normal:=oJ h
 subst this;exact⟨_,_,qQ hT hcf sa hme hm h,hq⟩
def dU(P:Program)(f:FuncId)(c:List PV->List Box->Option (PRes×List Box)):Prop :=
 ∀args sg r sg',c args sg=some (r,sg')->bC P f∧ab P f args sg r sg'∧SameLoops sg sg'
def cf0:CallF:=fun _ _ _=>none
theorem aa:CallFOk P cf0:=fun f args sg r sg' h=>by cases h
def aE(cf:CallF)(f:FuncId)(c:List PV->List Box->Option (PRes×List Box)):CallF:=fun g args sg=>if g=f then c args sg else cf g args sg
theorem ah{cf:CallF}(h:CallFOk P cf){f:FuncId}{c:List PV->List Box->Option (PRes×List Box)}(hc:dU P f c):CallFOk P (aE cf f c):=by
 intro g args sg r sg' e;unfold aE at e;split at e
 ·rename_i hg
  subst hg;exact hc _ _ _ _ e
 ·exact h _ _ _ _ _ e
theorem dU.of0{f:FuncId}{c:List PV->List Box->Option (PRes×List Box)}(he:bC P f)(h:∀args sg r sg',c args sg=some (r,sg')->∃v,r=.ret v∧sg'=sg∧bD 0 args=true∧ab P f args [] (.ret v) []):dU P f c:=by
 intro args sg r sg' e;obtain⟨v,rfl,rfl,hl,hc⟩:=h args sg r sg' e;exact⟨he,hc.frame (bw 0 args hl) sg',SameLoops.refl _⟩
theorem ab.of0(hT:TyT P T){f:FuncId}{fn:Func}{c:Code}{args:List PV}{n0:Nat}{v:PV}(hf:P.funcs[f]?=some fn)(hb:fn.body=some c)(hn0:n0=args.length+(fn.ntmps-args.length))
 (hrun:am P c ⟨ik 0 args,n0,[]⟩ (fun o st'=>o.ends=true∧aR [] st'.sg=true∧∃v',si T st' fn.results=some v'∧gB 0 v' st'.sg=(v,[]))):ab P f args [] (.ret v) []:=by
 obtain⟨o,st',hr,h1,h2,v',h3,h4⟩:=hrun;have:=jF (ab.body hT hf hb hn0 hr h1 h3 (aD _ _ h2))
 simp only[ET]at this;rw[h4]at this;exact this
end
inductive TS where
 |bool
 |int (k:IntKind)
 |str
 |sl (e:TS) (ag:Bool)
 |st (fs:List TS)
mutual
def TS.shp:TS->List PV->Prop
 |.bool,cs=>∃b,cs=[.bool b]
 |.int k,cs=>∃n,cs=[.int k n]∧(Lit.int k n).wf=true
 |.str,cs=>∃s,cs=[.str s]∧s.length<=maxLen
 |.sl e ag,cs=>∃z es,cs=[.sl z es]∧(z=.n->es=[])∧z≠.f∧es.length<=maxLen∧∀x∈es,e.shp x.cells∧x.ag=ag
 |.st fs,cs=>no fs cs
def no:List TS->List PV->Prop
 |[],cs=>cs=[]
 |f::fs,cs=>∃a b,cs=a++b∧f.shp a∧no fs b
end
def xe(P:Program)(t:TypeId):Bool :=
 match P.underlying t with
 |some (.struct _)=>true
 |some (.array ..)=>true
 |_=>false
def tsFs(P:Program)(f:TypeId->Option TS)(size:Nat):Nat->List Field->Option (List TS)
 |off,[]=>if off=size then some []else none
 |off,x::xs=>match f x.type,tsFs P f size (off+P.cellsOf x.type) xs with
  |some s,some l=>if x.offset=off then some (s::l)else none
  |_,_=>none
def arrFs(P:Program)(n:Nat)(e:TypeId):List Field:=(List.range n).map fun i=>{ (default:Field)with type:=e,offset:=i*P.cellsOf e }
def tsOf(P:Program):Nat->TypeId->Option TS
 |0,_=>none
 |d+1,t=>match P.underlying t with
  |some .bool=>some .bool
  |some (.int k)=>some (.int k)
  |some .string=>some .str
  |some (.slice e)=>match tsOf P d e with
   |some s=>if 0<P.cellsOf e then some (.sl s (xe P e))else none
   |none=>none
  |some (.struct fs)=>match tsFs P (tsOf P d) (P.cellsOf t) 0 fs.toList with
   |some l=>some (.st l)
   |none=>none
  |some (.array n e)=>match tsFs P (tsOf P d) (P.cellsOf t) 0 (arrFs P n e)with
   |some l=>some (.st l)
   |none=>none
  |_=>none
def nf(G:Gh)(cs:List PV)(us:List Value):Prop:=us.length=cs.length∧∀(j:Nat) (c:PV) (u:Value),cs[j]?=some c->us[j]?=some u->Rep G c u
theorem eT{G:Gh}{c:PV}{u:Value}(h:Rep G c u):nf G [c] [u] :=
 ⟨rfl,fun j x y hx hy=>by cases j <;> simp at hx hy;subst hx;subst hy;exact h⟩
theorem nf.append{G:Gh}{a b:List PV}{u v:List Value}(h:nf G a u)(k:nf G b v):nf G (a++b) (u++v) :=
 ⟨by simp[h.1,k.1],fun j x y hx hy=>by
  by_cases hj:j<a.length
  ·rw[DY hj]at hx
   rw[DY (by rw[h.1];exact hj)]at hy
   exact h.2 j x y hx hy
  ·rw[D9 (by omega)]at hx
   rw[D9 (by rw[h.1];omega),h.1]at hy
   exact k.2 _ x y hx hy⟩
theorem mK{α:Type}{p:Nat->α->Prop}:∀n,(∀i,i<n->∃x,p i x)->∃l:List α,l.length=n∧∀i x,l[i]?=some x->p i x
 |0,_=>⟨[],rfl,fun i x h=>by simp at h⟩
 |n+1,h=>by
  obtain⟨l,hl,hp⟩:=mK n (fun i hi=>h i (by omega))
  obtain⟨x,hx⟩:=h n (by omega)
  refine⟨l++[x],by simp[hl],fun i y hy=>?_⟩
  by_cases hi:i<l.length
  ·rw[DY hi]at hy;exact hp i y hy
  ·rw[D9 (by omega)]at hy
   have h1:=(DR.1 hy).1;simp at h1;have:i=n:=by omega
   subst this;simp[hl]at hy;subst hy;exact hx
theorem qI{α β:Type}{f:α->Option β}:∀{l:List α} {ys:List β},l.mapM f=some ys->∀x∈l,∃y,f x=some y
 |[],ys,_,x,h=>by cases h
 |a::l,ys,h,x,hx=>by
  rw[Gy]at h;obtain⟨y,hy,h⟩:=Option.bind_eq_some_iff.1 h;obtain⟨ys',hys,_⟩:=Option.bind_eq_some_iff.1 h;rcases D6.1 hx with rfl|hx
  ·exact⟨y,hy⟩
  ·exact qI hys x hx
section
variable {H:Type} {enc:TypeId×Value->H} {P:Program} {w:World} {G:Gh}
abbrev nd(enc:TypeId×Value->H)(P:Program)(w:World):=DataW.trod enc P w 0 (fun _=>true) true
theorem pg{f:TypeId->Option TS}{fuel:Nat}{cs:List Value}
 (IH:∀t s cs' x,f t=some s->nd enc P w fuel t cs'=some x->∃pcs,nf G pcs cs'∧(∀c∈pcs,c.one=true)∧s.shp pcs) :
 ∀(fs:List Field) (off:Nat) (l:List TS),tsFs P f cs.length off fs=some l->(∀x∈fs,∃y,nd enc P w fuel x.type ((cs.drop x.offset).take (P.cellsOf x.type))=some y) ->
  ∃pcs,nf G pcs (cs.drop off)∧(∀c∈pcs,c.one=true)∧no l pcs
 |[],off,l,h,_=>by
  unfold tsFs at h;split at h <;> cases h
  rename_i he;subst he;refine⟨[],⟨by simp,fun j c u hc=>by simp at hc⟩,(fun c hc=>by cases hc),rfl⟩
 |x::xs,off,l,h,hx=>by
  unfold tsFs at h;split at h <;> try (cases h;done)
  rename_i s l' hs hl;split at h <;> cases h
  rename_i ho;obtain⟨y,hy⟩:=hx x (DV ..);obtain⟨p1,r1,o1,s1⟩:=IH _ _ _ _ hs hy;obtain⟨p2,r2,o2,s2⟩:=pg IH xs _ _ hl (fun x' hx'=>hx x' (DW _ hx'))
  refine⟨p1++p2,?_,fun c hc=>?_,p1,p2,rfl,s1,s2⟩
  ·have e:cs.drop off=(cs.drop off).take (P.cellsOf x.type)++cs.drop (off+P.cellsOf x.type):=by
    rw[←GR];exact(Ff ..).symm
   rw[e];rw[ho]at r1;exact r1.append r2
  ·rcases Ez.1 hc with hc|hc
   ·exact o1 c hc
   ·exact o2 c hc
theorem rM{fuel:Nat}{t:TypeId}{fs:Array Field}{cs:List Value}{x:DataW H×List MemPlace}(hu:P.underlying t=some (.struct fs))(hx:nd enc P w (fuel+1) t cs=some x):
 cs.length=P.cellsOf t∧∃ys,fs.toList.mapM (fun f=>nd enc P w fuel f.type ((cs.drop f.offset).take (P.cellsOf f.type)))=some ys:=by
 have key:∀o:Option TypeDesc,o=some (.struct fs)->nd enc P w (fuel+1) t cs=(if cs.length=P.cellsOf t then(fs.toList.mapM fun f=>nd enc P w fuel f.type ((cs.drop f.offset).take (P.cellsOf f.type))).map fun xs=>(.agg (xs.map (·.1)),xs.flatMap (·.2))else none):=by
  intro o ho;unfold nd;rw[DataW.trod];simp only[hu]
 rw[key _ hu]at hx;split at hx <;> try (cases hx;done)
 obtain⟨ys,hys,_⟩:=EC.1 hx;exact⟨‹_›,ys,hys⟩
theorem s9{fuel n:Nat}{t e:TypeId}{cs:List Value}{x:DataW H×List MemPlace}(hu:P.underlying t=some (.array n e))(hx:nd enc P w (fuel+1) t cs=some x):
 cs.length=P.cellsOf t∧∀i,i<n->∃y,nd enc P w fuel e ((cs.drop (i*P.cellsOf e)).take (P.cellsOf e))=some y:=by
 obtain⟨xs,m,hm,_,h1,h2,h3⟩:=DataW.trod_array hu hx;obtain rfl:fuel=m:=by omega
 refine⟨h1,fun i hi=>?_⟩
 exact⟨_,(h3 i hi).trans (DT (by omega))⟩
theorem uc{b off:Nat}(n:Nat):(Addr.mk b off none).add n=⟨b,off+n,none⟩:=by
 unfold Addr.add;split
 ·subst_vars;rfl
 ·rfl
theorem ly(hS:∀g o v,w.cell? ⟨g,o,none⟩=some v->G.S g o=some v):∀(d:Nat) (t:TypeId) (s:TS) (fuel:Nat) (cs:List Value) (x:DataW H×List MemPlace),tsOf P d t=some s->nd enc P w fuel t cs=some x ->
 ∃pcs,nf G pcs cs∧(∀c∈pcs,c.one=true)∧s.shp pcs
 |0,t,s,fuel,cs,x,h,_=>by cases h
 |d+1,t,s,0,cs,x,_,h=>by cases h
 |d+1,t,s,fuel+1,cs,x,h,hx=>by
  unfold tsOf at h;split at h
  ·rename_i hu
   cases h;obtain⟨b,rfl,_⟩:=DataW.trod_bool hu hx;exact⟨_,eT .bool,(fun c hc=>by simp at hc;subst hc;rfl),_,rfl⟩
  ·rename_i k hu
   cases h;obtain⟨b,rfl,_,hw⟩:=DataW.trod_int hu hx;exact⟨_,eT (.int hw),(fun c hc=>by simp at hc;subst hc;rfl),_,rfl,hw⟩
  ·rename_i hu
   cases h;obtain⟨s',rfl,_,hw⟩:=DataW.trod_string hu hx;refine⟨[.str s'.data.toList],eT ?_,(fun c hc=>by simp at hc;subst hc;rfl),_,rfl,?_⟩
   ·have:=Rep.str (G:=G) (s:=s'.data.toList) (by simpa using hw)
    simpa using this
   ·simpa using hw
  ·rename_i e hu
   split at h <;> try (cases h;done)
   rename_i s' hs';split at h <;> cases h
   rename_i hpl;rcases Deep.open_slice hu hx with ⟨rfl,rfl⟩|⟨a,len,cap,m,n,D,Pl,rfl,_,hl,hm,hmm,_,hel⟩
   ·exact⟨[.sl .n []],eT .nils,(fun c hc=>by simp at hc;subst hc;rfl),.n,[],rfl,fun _=>rfl,by simp,by simp,fun x hx=>by cases hx⟩
   ·obtain⟨b,off,sp⟩:=a
    have hmc:m=cap:=by simpa using hmm
    subst hmc;have hsp:0<m->sp=none:=fun h0=>by
     obtain⟨cs',hc,_⟩:=hel 0 h0;obtain⟨_,hlen,hcell⟩:=World.cells?_some hc;have h1:=hcell 0 hpl;have h2:0<cs'.length:=by rw[hlen];exact hpl
     rw[DT h2]at h1;have h3:=World.cell?_spot h1;simpa[Addr.add]using h3
    rcases FH m with h0|h0
    ·subst h0
     obtain rfl:len=0:=by omega
     exact⟨[.sl .a []],eT (.sl (es:=[]) (by simp) (by simp) 0 (fun _=>Go.undef) (by simp) (by simp[flat]) (DS _) (Ee _) (by simp[flat]) (by simp[flat]) (fun h=>absurd h (GZ 0))),(fun c hc=>by simp at hc;subst hc;rfl),.a,[],rfl,(fun h=>by cases h),by simp,by simp,fun x hx=>by cases hx⟩
    obtain rfl:=hsp h0;have each:∀i,i<len->∃ep:PV,∃cs',nf G ep.cells cs'∧(∀c∈ep.cells,c.one=true)∧s'.shp ep.cells∧ep.ag=xe P e∧cs'.length=P.cellsOf e∧∀r,r<P.cellsOf e->w.cell? ⟨b,off+(i*P.cellsOf e+r),none⟩=cs'[r]?:=by
     intro i hi;obtain⟨cs',hc,ht⟩:=hel i (by omega)
     obtain⟨pcs,r1,o1,s1⟩:=ly hS d e s' n cs' _ hs' ht;obtain⟨_,hlen,hcell⟩:=World.cells?_some hc;have hcell':∀r,r<P.cellsOf e->w.cell? ⟨b,off+(i*P.cellsOf e+r),none⟩=cs'[r]?:=by
      intro r hr;have:=hcell r hr
      rw[uc,uc]at this;rw[←FF];exact this
     cases hag:xe P e with
     |true=>exact⟨.agg pcs,cs',r1,o1,s1,rfl,hlen,hcell'⟩
     |false =>
      have hone:∃c,pcs=[c]∧c.one=true:=by
       unfold xe at hag;cases d with
       |zero=>cases hs'
       |succ d =>
        unfold tsOf at hs';split at hs'
        ·cases hs'
         obtain⟨b',rfl⟩:=(show ∃b,pcs=[.bool b]from s1)
         exact⟨_,rfl,rfl⟩
        ·cases hs'
         obtain⟨b',rfl,_⟩:=(show ∃n,pcs=[.int _ n]∧_ from s1)
         exact⟨_,rfl,rfl⟩
        ·cases hs'
         obtain⟨b',rfl,_⟩:=(show ∃s,pcs=[.str s]∧_ from s1)
         exact⟨_,rfl,rfl⟩
        ·split at hs' <;> try (cases hs';done)
         split at hs' <;> cases hs'
         obtain⟨z',es',rfl,_⟩:=(show ∃z es,pcs=[.sl z es]∧_ from s1)
         exact⟨_,rfl,rfl⟩
        ·rename_i hu'
         rw[hu']at hag;cases hag
        ·rename_i hu'
         rw[hu']at hag;cases hag
        ·cases hs'
      obtain⟨c,rfl,hc1⟩:=hone;have hcc:=mC hc1;refine⟨c,cs',by rw[hcc];exact r1,by rw[hcc];exact o1,by rw[hcc];exact s1,?_,hlen,hcell'⟩
      cases c <;> first|rfl|cases hc1
    obtain⟨es,hel1,hes⟩:=mK len each;have hk:∀x∈es,x.cells.length=P.cellsOf e:=fun x hx=>by
     obtain⟨i,hi⟩:=FT hx;obtain⟨cs',r1,_,_,_,l1,_⟩:=hes i x hi;rw[←r1.1,l1]
    have hcells:∀(j:Nat) (c:PV),(flat es)[j]?=some c->∃u,w.cell? ⟨b,off+j,none⟩=some u∧Rep G c u:=by
     intro j c hj;have hlt:=(DR.1 hj).1;rw[bG es hk]at hlt;have hkp:0<P.cellsOf e:=by
      rcases FH (P.cellsOf e)with h0|h0
      ·rw[h0]at hlt;omega
      ·exact h0
     have hdm:=Nat.div_add_mod j (P.cellsOf e);have hil:j / P.cellsOf e<es.length:=Nat.div_lt_of_lt_mul (by rw[Gr];exact hlt)
     have hr:=Nat.mod_lt j hkp;obtain⟨cs',r1,_,_,_,l1,hcell⟩:=hes _ _ (DT hil);have hf:=it es hk _ _ (DT hil) _ hr;have ej:j / P.cellsOf e*P.cellsOf e+j%P.cellsOf e=j:=by rw[Gr];exact hdm
     rw[ej,hj]at hf;have:=hcell _ hr
     rw[ej]at this;have hlc:j%P.cellsOf e<cs'.length:=by rw[l1];exact hr
     refine⟨cs'[j%P.cellsOf e],by rw[this];exact DT hlc,r1.2 _ _ _ hf.symm (DT hlc)⟩
    refine⟨[.sl .a es],eT ?_,(fun c hc=>by simp at hc;subst hc;rfl),.a,es,rfl,(fun h=>by cases h),by simp,by omega,fun x hx=>?_⟩
    ·rw[←hel1]
     refine .sl (by simp) (fun h=>by cases h) (P.cellsOf e) (fun j=>(w.cell? ⟨b,off+j,none⟩).getD Go.undef) hk (fun c hc=>?_) (by omega) hm (fun j c hj=>?_) (fun j c hj=>?_) (fun _=>rfl)
     ·obtain⟨x,hx,hxc⟩:=dq.1 hc
      obtain⟨i,hi⟩:=FT hx;obtain⟨_,_,o1,_⟩:=hes i x hi;exact o1 c hxc
     ·obtain⟨u,hu,_⟩:=hcells j c hj
      rw[hu];exact hS _ _ _ hu
     ·obtain⟨u,hu,hr⟩:=hcells j c hj
      rw[hu];exact hr
    ·obtain⟨i,hi⟩:=FT hx
     obtain⟨_,_,_,s1,a1,_⟩:=hes i x hi;exact⟨s1,a1⟩
  ·rename_i fs hu
   split at h <;> cases h
   rename_i l hl;obtain⟨hlen,ys,hys⟩:=rM hu hx;rw[←hlen]at hl;have:=pg (P:=P) (w:=w) (G:=G) (enc:=enc) (fuel:=fuel) (fun t s cs' x a b=>ly hS d t s fuel cs' x a b) fs.toList 0 l hl (qI hys)
   rw[GS]at this;exact this
  ·rename_i n e hu
   split at h <;> cases h
   rename_i l hl;obtain⟨hlen,hys⟩:=s9 hu hx;rw[←hlen]at hl;have:=pg (P:=P) (w:=w) (G:=G) (enc:=enc) (fuel:=fuel) (fun t s cs' x a b=>ly hS d t s fuel cs' x a b) (arrFs P n e) 0 l hl (fun f hf=>by
    obtain⟨i,hi,rfl⟩:=Ex.1 hf;exact hys i (FJ.1 hi))
   rw[GS]at this;exact this
  ·cases h
def Gh.init(w:World):Gh:={ w0:=w,S:=fun g o=>w.cell? ⟨g,o,none⟩,SM:=fun _=>none,rho:=[],dfr:=[] }
theorem Rel.init(w:World)(ht:TabOk w):Rel (Gh.init w) [] w :=
 ⟨Below.refl _ w,rfl,fun id s b hs=>by simp[Gh.init]at hs,fun i j s s' g _ hs=>by simp[Gh.init]at hs,fun g o v e=>e,(fun g es c e=>by cases e),(fun b hb=>by cases hb),ht⟩
theorem calls_of(ht:TabOk w){f:FuncId}{args:List PV}{us:Array Value}{b:Bool}(h:ab P f args [] (.ret (.bool b)) [])(hL:RepL (Gh.init w) args us):
 Calls P f us w fun e w'=>e=.returned (.bool b)∧Below w.heap.size w w':=by
 refine callsIn_wide.1 (CallsIn.mono (h.2 0 (Gh.init w) w us (Rel.init w ht) hL) fun e w' ⟨G',hR,hl,_,hm⟩=>?_)
 cases e with
 |panicked ch=>exact hm.elim
 |outgrown=>exact hm.elim
 |returned u =>
  have hm':Rep G' (.bool b) u:=hm;obtain rfl:=Lv hm';have hb:=hR.below;have hw:G'.w0=w:=hl.w0;rw[hw]at hb;exact⟨rfl,hb⟩
end
end Go.Pv
