import Derived.Test.YtmebonambbhehaaGreatQfLem
import Derived.Shelf.Spec.SlicesGrow
set_option linter.all false
open Go.Proofs.Tryz
namespace Go.Pv
open Go Go.RowKit Go.Proofs
set_option maxRecDepth 200000
set_option maxHeartbeats 8000000
def pA(mm:List Int)(to:List Int):Bool:=!(to.any fun x=>decide (mm.getD x.toNat 0=0))
abbrev gk(e:Int)(ss rr:PV)(mm:List Int)(lv:PV):List PV:=[ii e,ss,rr,.sl .a (mm.map ii),lv]
theorem eh{l:List Int}{i:Nat}(h:i<l.length):(l.map ii)[i]?=some (ii (l.getD i 0)):=by
 rw[Eh,DT h,Ep,DT h];rfl
theorem Iw(e:Int)(ss rr lv:PV)(mm:List Int)(n:Int)(hn0:0<=n)(hn:n<mm.length):ab prog 111 [ii n,.ip (gk e ss rr mm lv)] [] (.ret (.bool (decide (mm.getD n.toNat 0=0)))) []:=by
 refine ab.of0 hTT func111 rfl rfl ?_;have hx:=eh (l:=mm) (i:=n.toNat) (by omega)
 have hz:(Z.a=Z.n)=False:=by simp
 have hb:(mm.getD n.toNat 0==0)=decide (mm.getD n.toNat 0=0):=by rw[FD];simp
 repeat with_reducible first|refine nz aa ?_|apply ny;simp only[f111,hx,hn0,hn,hz,go_sem];rfl
 refine⟨rfl,rfl,_,rfl,?_⟩;rw[←hb];rfl
theorem ends_147(e:Int)(ss rr lv:PV)(mm:List Int)(q:Rz)(hcl:ad (gk e ss rr mm lv)=true)(hz:zOk q.1 (q.2.to.map ii)=true)(hl:q.2.to.length<=1000)(hr:∀x∈q.2.to,0<=x∧x<mm.length):
 ab prog 86 [.agg (gk e ss rr mm lv),aT q] [] (.ret (.bool (pA mm q.2.to))) []:=by
 refine ab.of0 hTT func86 rfl rfl ?_;have h152:=CK (g:=111) (cs:=[.ip (gk e ss rr mm lv)]) (S:=[]) q.1 q.2.to (fun x=>decide (mm.getD x.toNat 0=0)) (ent func111 rfl) (fun b hb=>by cases hb) (ae 0 _ (by simpa[ad,PV.closed]using hcl)) (bd hz) (by omega)
  (fun x hx=>Iw e ss rr lv mm x (hr x hx).1 (hr x hx).2)
 have hltb:bD 0 [PV.sl q.1 (q.2.to.map ii),.fn (.func 111) [] [.ip (gk e ss rr mm lv)]]=true:=ae 0 _ (by
  have h1:=cV q.2.to;have h2:ad [PV.ip (gk e ss rr mm lv)]=true:=by simpa[ad,PV.closed]using hcl
  simp only[ad,PV.closed,h1]at h2 ⊢;simpa using h2)
 unfold aT pA;generalize (q.2.to.any fun x=>decide (mm.getD x.toNat 0=0))=b at h152 ⊢
 repeat with_reducible first|(fail_if_success refine am.seq (x:=.region 1 _ _) ?_);(fail_if_success show am _ (.region 1 _ _) _ _);refine nz aa ?_|apply ny;simp only[f86,go_sem];rfl
 refine am.fzVar 2 0 rfl rfl rfl rfl ?_;repeat with_reducible first|refine nz (aj aa (ent func47 rfl) h152 hltb) ?_|apply ny;simp only[f86,eA,bl,go_sem];rfl
 exact⟨rfl,rfl,_,rfl,rfl⟩
end Go.Pv
namespace Go.Proofs
open Go.Shelf
def grow236_ren:Go.Shelf.Ren:=⟨fun|4=>135|n=>n,fun|22=>28|25=>3|n=>n,fun|n=>n⟩
theorem grow236:Go.Proofs.Lays8.n4 prog grow236_ren:={
 mixed:=by kernel_rfl
 f4:=⟨f135.name,by decide,func135.trans (congrArg some (by kernel_rfl))⟩
 t0:=underlying0
 a0:=isAgg0
 z0:=sizeOf0
 v0:=zeroValue0
 t3:=underlying3
 a3:=isAgg3
 z3:=sizeOf3
 v3:=zeroValue3
 t4:=underlying4
 a4:=isAgg4
 z4:=sizeOf4
 v4:=zeroValue4
 t9:=underlying9
 a9:=isAgg9
 z9:=sizeOf9
 v9:=zeroValue9
 t20:=underlying20
 a20:=isAgg20
 z20:=sizeOf20
 v20:=zeroValue20
 t22:=underlying28
 a22:=isAgg28
 z22:=sizeOf28
 v22:=zeroValue28 }
end Go.Proofs
namespace Go.Pv
open Go Go.RowKit Go.Proofs
set_option maxRecDepth 200000
set_option maxHeartbeats 8000000
theorem args_two{G:Gh}{x y:PV}{us:Array Value}(h:RepL G [x,y] us):∃u v,us=#[u,v]∧Rep G x u∧Rep G y v:=by
 obtain⟨h1,h2⟩:=h;obtain⟨l⟩:=us
 match l,h1 with
 |[u,v],_=>exact⟨u,v,rfl,h2 0 x u rfl rfl,h2 1 y v rfl rfl⟩
theorem Ar{G:Gh}{id n g c:Nat}(h:Rep G (.ms id n) (.slice (some ⟨g,0,none⟩) n c)):Rep G (.pf id 0 n) (.slice (some ⟨g,0,none⟩) 0 c):=by
 cases h with
 |ms hs hle ho hu =>
  refine .pf hs hle rfl fun h=>⟨Ee _,?_⟩
  rw[←hu h];rfl
theorem Grow_236(n:Nat)(h1:1<=n)(hn:n<=100000)(sg:List Box):ab prog 135 [.sl .n [],ii n] sg (.ret (.pf sg.length 0 n)) (sg++[.row false 3 1 (List.replicate n (ii 0)) false]):=by
 refine⟨by simp,fun m G w us hR hL=>?_⟩
 obtain⟨u,v,rfl,hu,hv⟩:=args_two hL;cases hu with
 |sl hz=>exact absurd rfl hz
 |nils =>
 cases hv;have he:(TT 3).d.ok=true:=by rw[T_3];rfl
 have h0:0<(TT 3).size:=by rw[T_3];decide
 obtain⟨f,z,ud,i1,i2,i3,i4,i5,i6,i7,i8,i9,i10,_⟩:=(hTT 3 he).ex;have e1:f.size=1:=by rw[i2,T_3]
 have e3:f.bytes=8:=by rw[i3,T_3]
 obtain⟨z1,z2,z3⟩:=jg (hTT 3 he) h0 n i8 i5 G;have hzr:(TT 3).zeroE=ii 0:=by rw[T_3];rfl
 have hsz:(TT 3).size=1:=by rw[T_3]
 have hzs:z.cells.size=1:=by rw[i5,hsz]
 rw[hzr,hsz]at z1;rw[hzr,hsz]at z3;rw[hzr]at z2;have hcall:=Any8.slices_Grow_grow grow236 f z i1 i4 (by omega) none 0 0 n [] w (DS _) (by omega) (by rw[e3];omega) (by omega) (by simp) (fun _=>rfl) (fun a e=>by cases e)
 have hcall:Calls prog 135 #[.slice none 0 0,.int .i64 n] w fun e w'=>e=.returned (.slice (some ⟨w.heap.size,0,none⟩) 0 (grownCap w (0+n) 0 3)) ∧
  w'=w.drew.alloc (.cells (#[]++Builtin.zeroCells z.cells (0+n-0)++Builtin.zeroCells z.cells (grownCap w (0+n) 0 3-(0+n))) 3):=hcall
 have hge:0+n<=grownCap w (0+n) 0 3:=grownCap_ge w _ _ _;have hml:grownCap w (0+n) 0 3<=maxLen:=grownCap_le_maxLen w _ _ _ (by unfold maxLen;omega)
 obtain⟨c,hc⟩:∃c,c=grownCap w (0+n) 0 3:=⟨_,rfl⟩;rw[←hc]at hcall hge hml;refine CallsIn.mono (callsIn_wide.2 hcall) fun e w' ⟨he',hw⟩=>?_
 subst he';have how:w'.ownsRow w.heap.size 3 1 (.slice (some ⟨w.heap.size,0,none⟩) n c) n (Builtin.zeroCells z.cells n).toList:=by
  refine⟨by simp[size_zeroCells,hzs],.inr ⟨w.heap.size,c,_,rfl,DS _,by rw[hw];exact heap_alloc_new w.drew _,by omega,hml,?_,?_⟩⟩
  ·simp[size_zeroCells,hzs];omega
  ·have hl:(Builtin.zeroCells z.cells n).toList.length=n*1:=by simp[size_zeroCells,hzs]
   simp only[Array.toList_append,EG,Nat.sub_zero,Et,Array.toList_empty,EA];rw[←hl];exact GT
 have hbel:Below w.heap.size w w':=by rw[hw];exact cy w _
 have hR1:Rel (G.push .dead) (sg++[.dead]) w:=g9 hR;have hfree:jT (sg++[Box.dead]) sg.length:=by
  unfold jT;rw[D9 (DS _)];simp
 have hzc:RepL G (flat (List.replicate n (ii 0))) (Builtin.zeroCells z.cells n).toList.toArray:=by
  rw[Array.toArray_toList];unfold Builtin.zeroCells;rw[hzs]at z1 ⊢;exact z1
 obtain⟨G',a1,a2,a3,a4⟩:=new_row hR1 hfree hbel (DS _) (es:=List.replicate n (ii 0)) (by simp) how z3 z2 (hzc.push .dead)
 have hset:(sg++[Box.dead]).set sg.length (.row false 3 1 (List.replicate n (ii 0)) false)=sg++[.row false 3 1 (List.replicate n (ii 0)) false]:=by
  rw[Fq _ _ (DS _)];simp
 rw[hset]at a1;refine⟨G',a1,(Gh.le_trans (G.push_le .dead) a2).leM _,a3,?_⟩;exact Ar a4
def c236:Tb_
 |[.sl .n [],.int .i64 n],sg=>if 1<=n∧n<=100000 then some (.ret (.pf sg.length 0 n.toNat),sg++[.row false 3 1 (List.replicate n.toNat (ii 0)) false])else none
 |_,_=>none
theorem c236_ok:dU prog 135 c236:=fun args sg r sg' h=>by
 unfold c236 at h;split at h <;> try (cases h;done)
 split at h <;> cases h
 rename_i n hc;have h1:=Grow_236 n.toNat (by omega) (by omega) sg
 have e:((n.toNat:Nat):Int)=n:=by omega
 rw[e]at h1;exact⟨ent func135 rfl,h1,(SameLoops.refl sg).app [_] rfl⟩
theorem K0(l:List Int)(hl:l≠[])(hs:l.length<=100000):ab prog 59 [.sl .a (l.map ii)] [] (.ret (.ms 0 l.length)) [.row false 3 1 (l.map ii) false]:=by
 refine ab.ofS hTT func59 rfl rfl ?_;have he:(l.map ii).isEmpty=false:=by cases l with
  |nil=>exact absurd rfl hl
  |cons a l=>rfl
 have r1:l.length*8<=140737488355328:=by omega
 have r2:l.length<=maxLen:=by unfold maxLen;omega
 have ez:(Z.a==Z.n)=false:=rfl;repeat with_reducible first|refine nz aa ?_|apply ny;simp only[f59,ez,he,r1,r2,gE,all_t,go_sem];rfl
 refine⟨rfl,rfl,_,rfl,?_⟩;exact leaveC_row rfl (cV l)
def c202:Tb_
 |[.sl .a es],[]=>match dM ld es with
  |some l=>if l≠[]∧l.length<=100000 then some (.ret (.ms 0 l.length),[.row false 3 1 (l.map ii) false])else none
  |none=>none
 |_,_=>none
theorem c202_ok:dU prog 59 c202:=fun args sg r sg' h=>by
 unfold c202 at h;split at h <;> try (cases h;done)
 split at h <;> try (cases h;done)
 rename_i hl;split at h <;> cases h
 rename_i hc;obtain rfl:=bv pw hl;exact⟨ent func59 rfl,K0 _ hc.1 hc.2,aD _ _ rfl⟩
def gP(L:List Qi):List Int:=L.flatMap (·.2)
theorem cat_snoc(L:List Qi)(q:Qi):gP (L++[q])=gP L++q.2:=by unfold gP;simp
theorem vy{L:List Qi}{i:Nat}{q:Qi}(h:L[i]?=some q):gP (L.take (i+1))=gP (L.take i)++q.2:=by
 rw[Ev,h];exact cat_snoc _ _
theorem Ai(L:List Qi)(i:Nat):(gP (L.take i)).length<=(gP L).length:=by
 have:gP L=gP (L.take i)++gP (L.drop i):=by
  unfold gP;rw[←List.flatMap_append,Ff]
 rw[this,Ea];omega
def wO(l:List Int)(n:Nat):List PV:=l.map ii++List.replicate (n-l.length) (ii 0)
theorem AH{l:List Int}{n:Nat}(h:l.length<=n):(wO l n).length=n:=by unfold wO;simp;omega
theorem pad_full(l:List Int):wO l l.length=l.map ii:=by unfold wO;simp
theorem pad_nil(n:Nat):wO [] n=List.replicate n (ii 0):=by unfold wO;simp
theorem vJ{l m:List Int}{n:Nat}(h:l.length+m.length<=n):aW (wO l n) l.length (m.map ii)=wO (l++m) n:=by
 unfold aW wO;have e1:(l.map ii++List.replicate (n-l.length) (ii 0)).take l.length=l.map ii:=FU (by simp)
 have e2:(l.map ii++List.replicate (n-l.length) (ii 0)).drop (l.length+(m.map ii).length)=List.replicate (n-(l++m).length) (ii 0):=by
  rw[←GR,List.drop_left' (by simp)]
  simp
  omega
 rw[e1,e2,Ec]
theorem oF(l:List Int)(n:Nat):ad (wO l n)=true:=by
 unfold wO;rw[fw,cV];have:List.replicate (n-l.length) (ii 0)=(List.replicate (n-l.length) (0:Int)).map ii:=by rw[GW]
 rw[this,cV];rfl
def cfH:CallF:=aE cf0 135 c236
theorem iP:CallFOk prog cfH:=ah aa c236_ok
theorem vX(z:Z)(L:List Qi)(hz:z=.n->L=[])(hq:qsB L=true)(hne:gP L≠[])(hs:(gP L).length<=100000)(hL:L.length<=1000):ab prog 115 [.sl z (L.map sf)] [] (.ret (.ms 0 (gP L).length)) [.row false 3 1 ((gP L).map ii) false]:=by
 refine ab.ofS hTT func115 rfl rfl ?_;have hcl:=nB L;repeat with_reducible first|refine nz aa ?_|apply ny;simp only[f115,go_sem];rfl
 refine am.keep [11,10,9,3,2,0] (by simp only[go_sem];rfl) ?_
 refine am.loop (fun i s'=>s'=⟨[(11,ii i),(10,ii L.length),(9,.sl z (L.map sf)),(3,ii ((gP (L.take i)).length:Nat)),(2,.sl .n []),(0,.sl z (L.map sf))],36,[]⟩) L.length (by simp only[DX,go_sem];rfl) ?_
 rintro i _ hi rfl;have hcle:=Ai L i;by_cases hlt:i<L.length
 ·obtain⟨q,hqi⟩:=gex hlt
  have hq':(L.map sf)[i]?=some (.sl q.1 (q.2.map ii)):=by rw[Eh,hqi];rfl
  have hlt':(i:Int)<L.length:=by omega
  have hz':z≠.n:=fun e=>by rw[hz e]at hlt;simp at hlt
  have hct:=vy hqi;have hcle2:=Ai L (i+1);rw[hct,Ea]at hcle2;have e3:IntKind.i64.wrap (((gP (L.take i)).length:Int)+(q.2.length:Int))=((gP (L.take i)).length:Int)+(q.2.length:Int):=ai (by omega) (by omega)
  have hneg:¬((gP (L.take i)).length:Int)+(q.2.length:Int)<0:=by omega
  have e4:=wIs i (by omega)
  repeat with_reducible first|refine nz aa ?_|apply ny;simp only[f115,hlt',hq',hz',e3,e4,hneg,go_sem];rfl
  refine ak.t 0 [11,10,9,3,2,0] hlt (by simp only[vh,an,go_sem]) (by rw[hct,Ea];simp only[go_sem];rfl)
 have hlt':¬(i:Int)<L.length:=by omega
 obtain rfl:i=L.length:=by omega
 rw[Eg];clear hcle;obtain⟨N,hN⟩:∃N,N=(gP L).length:=⟨_,rfl⟩;have hN1:1<=N:=by
  rw[hN];exact Gk.2 hne
 rw[←hN]at hs ⊢;have n1:(1:Int)<=(N:Int):=by omega
 have n2:(N:Int)<=100000:=by omega
 repeat with_reducible first|refine nz iP ?_|apply ny;simp only[f115,hlt',cfH,c236,n1,n2,go_sem];rfl
 refine am.keep [27,26,25,6,2,0] (by simp only[go_sem];rfl) ?_
 refine am.loop (fun i s'=>s'=⟨[(27,ii i),(26,ii L.length),(25,.sl z (L.map sf)),(6,.pf 0 (gP (L.take i)).length N),(2,.sl .n []),(0,.sl z (L.map sf))],36,[.row false 3 1 (wO (gP (L.take i)) N) false]⟩) L.length (by simp only[DX,go_sem];rw[←pad_nil];rfl) ?_
 rintro i _ hi rfl;by_cases hlt:i<L.length
 ·obtain⟨q,hqi⟩:=gex hlt
  have hq':(L.map sf)[i]?=some (.sl q.1 (q.2.map ii)):=by rw[Eh,hqi];rfl
  have hlt':(i:Int)<L.length:=by omega
  have hz':z≠.n:=fun e=>by rw[hz e]at hlt;simp at hlt
  have hct:=vy hqi;have hcle2:=Ai L (i+1);rw[hct,Ea,←hN]at hcle2;have e4:=wIs i (by omega)
  have hpl:=AH (l:=gP (L.take i)) (n:=N) (by omega)
  have hsp:=vJ (l:=gP (L.take i)) (m:=q.2) (n:=N) hcle2;simp only[aW,DX,Et]at hsp;generalize gP (L.take i)=l at *;have hlp:=oF l N;have hlp2:=oF (l++q.2) N;have hlb:∀m x,ad x=true->bD m x=true:=fun m x h=>ae m x h
  by_cases hm:q.2=[]
  ·rw[hm]at hq'
   by_cases hkN:l.length=N
   ·repeat with_reducible first|refine nz iP ?_|apply ny;simp only[f115,hlt',hq',hz',e4,hpl,hkN,List.map_nil,go_sem];rfl
    refine ak.t 1 [27,26,25,6,2,0] hlt (by simp only[vh,an,hlb _ _ hlp,go_sem]) (by rw[hct,hm,Er,hkN];simp only[go_sem])
   ·repeat with_reducible first|refine nz iP ?_|apply ny;simp only[f115,hlt',hq',hz',e4,hpl,hkN,List.map_nil,go_sem];rfl
    refine ak.t 1 [27,26,25,6,2,0] hlt (by simp only[vh,an,hlb _ _ hlp,go_sem]) (by rw[hct,hm,Er];simp only[go_sem])
  ·have hml:0<q.2.length:=Gk.2 hm
   have hkN:¬l.length=N:=by omega
   have hem:(q.2.map ii).isEmpty=false:=by cases hq2:q.2 with
    |nil=>exact absurd hq2 hm
    |cons a r=>rfl
   repeat with_reducible first|refine nz iP ?_|apply ny;simp only[f115,hlt',hq',hz',e4,hpl,hkN,hml,hem,hcle2,hsp,gE,all_t,go_sem];rfl
   refine ak.t 1 [27,26,25,6,2,0] hlt (by simp only[vh,an,hlb _ _ hlp2,go_sem]) (by rw[hct,Ea];simp only[go_sem])
 ·have hlt':¬(i:Int)<L.length:=by omega
  obtain rfl:i=L.length:=by omega
  rw[Eg,←hN];have hpl:=AH (l:=gP L) (n:=N) (by omega)
  have hpf:wO (gP L) N=(gP L).map ii:=by rw[hN];exact pad_full _
  refine am.pfMs 6 0 rfl rfl hpl rfl ?_;rw[hpf];repeat with_reducible first|refine nz iP ?_|apply ny;simp only[f115,hlt',go_sem];rfl
  exact⟨rfl,rfl,_,rfl,leaveC_row rfl (cV _)⟩
def c203:Tb_
 |[.sl z es],[]=>match dM decQ es with
  |some L=>if zOk z (L.map sf)=true∧qsB L=true∧gP L≠[]∧(gP L).length<=100000∧L.length<=1000 then some (.ret (.ms 0 (gP L).length),[.row false 3 1 ((gP L).map ii) false])else none
  |none=>none
 |_,_=>none
theorem ym:dU prog 115 c203:=fun args sg r sg' h=>by
 unfold c203 at h;split at h <;> try (cases h;done)
 split at h <;> try (cases h;done)
 rename_i hl;split at h <;> cases h
 rename_i hc;obtain rfl:=bv No hl;exact⟨ent func115 rfl,vX _ _ (bd hc.1) hc.2.1 hc.2.2.1 hc.2.2.2.1 hc.2.2.2.2,aD _ _ rfl⟩
def decTd:List PV->Option (Int×PV×PV×List Int×PV)
 |[.int .i64 e,ss,rr,.sl .a ms,lv]=>match dM ld ms with
  |some mm=>some (e,ss,rr,mm,lv)
  |none=>none
 |_=>none
theorem yq{cs:List PV}{e:Int}{ss rr:PV}{mm:List Int}{lv:PV}(h:decTd cs=some (e,ss,rr,mm,lv)):cs=gk e ss rr mm lv:=by
 unfold decTd at h;split at h <;> try (cases h;done)
 split at h <;> cases h
 rename_i h1;obtain rfl:=bv pw h1;rfl
theorem rA(e:Int)(ss rr:PV)(mm:List Int)(lv:PV):decTd (gk e ss rr mm lv)=some (e,ss,rr,mm,lv):=by
 show(match dM ld (mm.map ii)with|some mm=>some (e,ss,rr,mm,lv)|none=>none)=_
 rw[j8]
def c147:Tb_
 |[.agg cs,r],sg=>match decTd cs,mJ r with
  |some (_,_,_,mm,_),some q=>if ad cs=true∧zOk q.1 (q.2.to.map ii)=true∧q.2.to.length<=1000∧(q.2.to.all fun x=>decide (0<=x∧x<mm.length))=true then some (.ret (.bool (pA mm q.2.to)),sg)else none
  |_,_=>none
 |_,_=>none
theorem yy:dU prog 86 c147:=dU.of0 (ent func86 rfl) fun args sg r sg' h=>by
 unfold c147 at h;split at h <;> try (cases h;done)
 split at h <;> try (cases h;done)
 rename_i h1 h2;split at h <;> cases h
 rename_i hc;obtain rfl:=yq h1;obtain rfl:=lZ _ _ h2;refine⟨_,rfl,rfl,by rw[af,af,ltB_rz,sP,ae 0 _ hc.1];rfl,ends_147 _ _ _ _ _ _ hc.1 hc.2.1 hc.2.2.1 fun x hx=>?_⟩
 exact Eu (D7.1 hc.2.2.2 x hx)
theorem oA(e:Int)(ss rr lv:PV)(mm:List Int)(n:Int):ab prog 114 [ii n,.ip (gk e ss rr mm lv)] [] (.ret (.bool (decide (n<e)))) []:=by
 refine ab.of0 hTT func114 rfl rfl ?_;repeat with_reducible first|refine nz aa ?_|apply ny;simp only[f114,go_sem];rfl
 exact⟨rfl,rfl,_,rfl,rfl⟩
theorem jS(e:Int):∀(l:List Int) (i:Nat),lk (fun n=>decide (n<e)) l i=match bN e l with|none=>-1|some a=>((i+a:Nat):Int)
 |[],_=>rfl
 |x::l,i=>by
  rw[fX,bN];by_cases h:x<e
  ·rw[DZ (by simpa using h),DZ h];rfl
  ·rw[D5 (by simpa using h),D5 h,jS e l (i+1)]
   cases bN e l with
   |none=>rfl
   |some a=>show((i+1+a:Nat):Int)=((i+(a+1):Nat):Int);congr 1;omega
def stk(id:Nat)(fnv:PV)(B0 lw:List Box)(v:PV)(z:Bool)(es:List PV)(C:List Box):List Box:=lw++([.var [.yl id] false,.var [v] false,.var [fnv] false,.row z 3 1 es false]++(B0++C))
section
variable {id:Nat} {fnv:PV} {B0 lw:List Box} {k0 K:Nat} (hk:lw.length=k0) (hK:k0+(4+B0.length)=K)
include hk
theorem stk0(v:PV)(z:Bool)(es:List PV)(C:List Box):(stk id fnv B0 lw v z es C)[k0]?=some (.var [.yl id] false):=by
 subst hk;exact dS lw _
theorem stk1(v:PV)(z:Bool)(es:List PV)(C:List Box):(stk id fnv B0 lw v z es C)[k0+1]?=some (.var [v] false):=by
 subst hk;exact dO lw _ 1
theorem stk2(v:PV)(z:Bool)(es:List PV)(C:List Box):(stk id fnv B0 lw v z es C)[k0+2]?=some (.var [fnv] false):=by
 subst hk;exact dO lw _ 2
theorem stk3(v:PV)(z:Bool)(es:List PV)(C:List Box):(stk id fnv B0 lw v z es C)[k0+3]?=some (.row z 3 1 es false):=by
 subst hk;exact dO lw _ 3
theorem stkS1(v v':PV)(z:Bool)(es:List PV)(C:List Box):(stk id fnv B0 lw v z es C).set (k0+1) (.var [v'] false)=stk id fnv B0 lw v' z es C:=by
 subst hk;exact d8 lw _ 1 _
theorem stkS3(v:PV)(z z':Bool)(es es':List PV)(C:List Box):(stk id fnv B0 lw v z es C).set (k0+3) (.row z' 3 1 es' false)=stk id fnv B0 lw v z' es' C:=by
 subst hk;exact d8 lw _ 3 _
include hK
theorem stkL(v:PV)(z:Bool)(es:List PV)(C:List Box):(stk id fnv B0 lw v z es C).length=K+C.length:=by
 unfold stk;simp only[Ea,Ek,ET];omega
theorem stk_lw(v:PV)(z:Bool)(es:List PV)(C:List Box):∃S,S.length=K∧stk id fnv B0 lw v z es C=S++C:=⟨lw++([.var [.yl id] false,.var [v] false,.var [fnv] false,.row z 3 1 es false]++B0),by
 simp only[Ea,Ek,ET];omega,by unfold stk;simp only[Et]⟩
theorem stkG(v:PV)(z:Bool)(es:List PV)(C:List Box)(j:Nat):(stk id fnv B0 lw v z es C)[K+j]?=C[j]?:=by
 obtain⟨S,hS,e⟩:=stk_lw hk hK v z es C;rw[e,←hS];exact dO S C j
theorem stkG0(v:PV)(z:Bool)(es:List PV)(C:List Box):(stk id fnv B0 lw v z es C)[K]?=C[0]?:=stkG hk hK v z es C 0
theorem stkS(v:PV)(z:Bool)(es:List PV)(C:List Box)(j:Nat)(x:Box):(stk id fnv B0 lw v z es C).set (K+j) x=stk id fnv B0 lw v z es (C.set j x):=by
 have e1:lw.length+(4+(B0.length+j))=K+j:=by omega
 unfold stk;rw[←e1,d8]
 congr 1
 rw[show 4+(B0.length+j)=[Box.var [PV.yl id] false,.var [v] false,.var [fnv] false,.row z 3 1 es false].length+(B0.length+j)from rfl,d8,d8]
theorem stkS0(v:PV)(z:Bool)(es:List PV)(C:List Box)(x:Box):(stk id fnv B0 lw v z es C).set K x=stk id fnv B0 lw v z es (C.set 0 x):=stkS hk hK v z es C 0 x
end
theorem stkA(id:Nat)(fnv:PV)(B0 lw:List Box)(v:PV)(z:Bool)(es:List PV)(C D:List Box):stk id fnv B0 lw v z es C++D=stk id fnv B0 lw v z es (C++D):=by
 unfold stk;simp only[Et]
theorem stkB(id:Nat)(fnv:PV)(B0 lw:List Box)(v:PV)(z:Bool)(es:List PV)(C D:List Box):stk id fnv B0 lw v z es (C++D)=stk id fnv (B0++C) lw v z es D:=by
 unfold stk;simp only[Et]
theorem x9{P:Program}{id M:Nat}{S D:List Box}{R:List Int}{pl:PV}{r:PRes}{sg':List Box}(hS:S.length=M)(hid:id<M)(hpl:pl.closed=true)(hpo:∀sg,view1 sg pl=some pl)
 (h:YieldOk P id [.agg [.sl .a (R.map ii),pl]] (S++.row false 3 1 (R.map ii) true::D) r sg'):YieldOk P id [.agg [.ms M R.length,pl]] (S++.row false 3 1 (R.map ii) false::D) r sg':=by
 subst hS;have hget:(S++Box.row false 3 1 (R.map ii) false::D)[S.length]?=some (.row false 3 1 (R.map ii) false):=dS S _;have hrows:bW (S++Box.row false 3 1 (R.map ii) false::D) [S.length]=S++.row false 3 1 (R.map ii) true::D:=by
  unfold bW;simp only[hget,bW];rw[bE (n:=4) (flat (R.map ii)) _ (bj _ (cV R))];simp only[bx];exact gq _ _ _
 refine h.ghost (by simp;omega) ?_ ?_
 ·have:=aL.rows [S.length] (S++Box.row false 3 1 (R.map ii) false::D) ⟨ik 0 [.agg [.ms S.length R.length,pl]],1,S++Box.row false 3 1 (R.map ii) false::D⟩ rfl
  rw[hrows]at this;exact this
 ·have hg2:(S++Box.row false 3 1 (R.map ii) true::D)[S.length]?=some (.row false 3 1 (R.map ii) true):=dS S _
  have hv:view1 (S++Box.row false 3 1 (R.map ii) true::D) (.ms S.length R.length)=some (.sl .a (R.map ii)):=by
   unfold view1;simp[hg2]
  simp only[iU,dh,hv,hpo]
structure YLeaf(id:Nat)(Y:List PV->List Box->Bool->List Box->Prop):Prop extends YOk Y where
 leaf:∀{R:List Int} {pl:PV} {low b low'},Y [.agg [.sl .a (R.map ii),pl]] low b low'->pl.closed=true->(∀sg,view1 sg pl=some pl)->id<low.length->∀own,OwnOk low.length own->∃X,isLoopB X=false ∧
  YieldOk prog id [.agg [.ms (low.length+own.length) R.length,pl]] (low++(own++[.row false 3 1 (R.map ii) false,.dead])) (.ret (.bool b)) (low'++(own++[X,.dead]))
theorem YR.leaf(id:Nat):YLeaf id (YR prog id):={ YR.ok prog id with
 leaf:=fun {R pl low b low'} h hpl hpo hid own ho=>⟨.row false 3 1 (R.map ii) true,rfl,by
  have hb:OwnOk low.length (own++[.row false 3 1 (R.map ii) true,.dead]):=fun x hx=>by
   rcases Ez.1 hx with hx|hx
   ·exact(ho x hx).mono (by simp)
   ·simp only[D6,Eb,EM]at hx
    rcases hx with rfl|rfl
    ·exact(dD (show(Box.row false 3 1 (R.map ii) true).ltB 0=true from ae 0 _ (cV _))).mono (Ee _)
    ·exact trivial
  have h1:=(h.2.2 _ hb).1;have h2:=x9 (id:=id) (M:=low.length+own.length) (S:=low++own) (D:=[.dead]) (R:=R) Ea (by omega) hpl hpo (by rw[Et];exact h1)
  rw[Et]at h2;exact h2⟩ }
theorem ak.cutS{P:Program}{I:Nat->St->Prop}{m i k1:Nat}{Q:Out->St->Prop}{s:St}(ts:List Nat)(S D:List Box){tm':List (Nat×PV)}(hi:i<m)(hS:s.sg=S++D)(hk1:k1<=S.length)(hk:iK ts s.tm=tm')(htm:∀p∈tm',Pv.Lt S.length p.2)(hb:∀b∈S,b.Lt S.length)(hn:dl D=true)
 (h:I (i+1) ⟨tm',s.n,S⟩):ak P I m i k1 Q .normal s:=⟨hi,_,kL.cutP ts S D hS hk1 hk htm hb hn,h⟩
theorem kB{id:Nat}{fnv v:PV}{z:Bool}{es:List PV}{B0 C:List Box}{k0 K:Nat}(hK:k0+(4+B0.length)=K)(hid:id<k0)(hv:Pv.Lt (K+C.length) v)(hfn:Pv.Lt K fnv)(hes:ad es=true)(hB:∀x∈B0,x.Lt K)(hC:∀x∈C,x.Lt (K+C.length)):
 OwnOk k0 ([.var [.yl id] false,.var [v] false,.var [fnv] false,.row z 3 1 es false]++(B0++C)):=by
 intro x hx;have hl:k0+([Box.var [PV.yl id] false,.var [v] false,.var [fnv] false,.row z 3 1 es false]++(B0++C)).length=K+C.length:=by
  simp only[Ea,Ek,ET];omega
 rw[hl];rcases Ez.1 hx with hx|hx
 ·simp only[D6,Eb,EM]at hx
  rcases hx with rfl|rfl|rfl|rfl
  ·intro c hc
   simp at hc;subst hc;exact .yl (by omega)
  ·intro c hc
   simp at hc;subst hc;exact hv
  ·intro c hc
   simp at hc;subst hc;exact hfn.mono (by omega)
  ·exact(dD (show(Box.row z 3 1 es false).ltB 0=true from ae 0 _ hes)).mono (by omega)
 ·rcases Ez.1 hx with hx|hx
  ·exact(hB x hx).mono (by omega)
  ·exact hC x hx
theorem jM{id:Nat}{fnv v:PV}{z:Bool}{es:List PV}{B0 C lw:List Box}{k0 K:Nat}(hk:lw.length=k0)(hK:k0+(4+B0.length)=K)(h0:OwnOk 0 lw)(hid:id<k0)(hv:Pv.Lt (K+C.length) v)(hfn:Pv.Lt K fnv)(hes:ad es=true)(hB:∀x∈B0,x.Lt K)(hC:∀x∈C,x.Lt (K+C.length)):
 ∀x∈stk id fnv B0 lw v z es C,x.Lt (K+C.length):=by
 have:=NF h0 (by rw[hk];exact kB (z:=z) hK hid hv hfn hes hB hC)
 rw[show lw++([Box.var [PV.yl id] false,.var [v] false,.var [fnv] false,.row z 3 1 es false]++(B0++C))=stk id fnv B0 lw v z es C from rfl,stkL hk hK]at this
 exact this
def cfJ:CallF:=aE cf0 59 c202
theorem cfJ_ok:CallFOk prog cfJ:=ah aa c202_ok
theorem sG:∀R:List Int,flat (R.map ii)=R.map ii
 |[]=>rfl
 |a::r=>by rw[EE,bg,sG r];rfl
theorem dQ{a b C C':List Box}(h:SameLoops a b)(hc:dl C=true)(hc':dl C'=true):SameLoops (a++C) (b++C'):=((SameLoops.app C' hc' h).symm.app C hc).symm
theorem der_base{Y:List PV->List Box->Bool->List Box->Prop}(id k0 K:Nat)(hYl:YLeaf id Y)(fnv:PV)(e:Int)(ss rr lv:PV)(mm:List Int)(zl:Z)(list l:List Int)(d:Nat)(low low' B0:List Box)(b:Bool)(hcl:ad (gk e ss rr mm lv)=true)(hzl:zl≠.n)(hne:list≠[])(hll:list.length<=100000)
 (hx:∀x∈list,-100000<=x∧x<=100000) (he:-1000<=e∧e<=1000) (hf:bN e list=none) (hd1:1<=d) (hdl:d<=l.length) (hdb:d<=100000) (hk:low.length=k0) (hK:k0+(4+B0.length)=K) (h0:OwnOk 0 low) (hB:∀x∈B0,x.Lt K) (hfn:Pv.Lt K fnv) (hid:id<k0)
 (hY:Y [.agg [.sl .a ((l.take d).map ii),.sl .a ((list.map (·-e)).map ii)]] low b low') :
 ab prog 113 [.sl zl (list.map ii),.ip (gk e ss rr mm lv),.bp k0 0,.bp (k0+1) 0,.bp (k0+2) 0] (stk id fnv B0 low (.pf (k0+3) d l.length) false (l.map ii) []) (.ret (.bool b)) (stk id fnv B0 low' (.pf (k0+3) d l.length) false (l.map ii) []):=by
 obtain⟨hl',h0'⟩:=hYl.len hY;have hk':low'.length=k0:=by omega
 have hvl:∀n,Pv.Lt (K+n) (.pf (k0+3) d l.length):=fun n=>.pf (by omega)
 have hcle:=cV l;refine ab.ofB hTT func113 rfl rfl ?_ (by rw[stkL hk hK,stkL hk' hK]) (by rw[stkL hk hK];exact jM hk' hK h0' hid (hvl _) hfn hcle hB (fun x hx=>by cases hx)) .bool
 have hidx:ab prog 74 [.sl zl (list.map ii),.fn (.func 114) [] [.ip (gk e ss rr mm lv)]] [] (.ret (ii (-1))) []:=by
  have:=mO (g:=114) (cs:=[.ip (gk e ss rr mm lv)]) (S:=[]) zl list (fun n=>decide (n<e)) (ent func114 rfl) (fun b hb=>by cases hb) (ae 0 _ (by simpa[ad,PV.closed]using hcl)) (fun h=>absurd h hzl) (by omega) (fun x _=>oA e ss rr lv mm x)
  rw[jS,hf]at this;exact this
 have hil:bD 0 [PV.sl zl (list.map ii),.fn (.func 114) [] [.ip (gk e ss rr mm lv)]]=true:=ae 0 _ (by
  have h1:=cV list;have h2:ad [PV.ip (gk e ss rr mm lv)]=true:=by simpa[ad,PV.closed]using hcl
  simp only[ad,PV.closed,h1]at h2 ⊢;simpa using h2)
 have g0:=stk0 (id:=id) (fnv:=fnv) (B0:=B0) hk;have g1:=stk1 (id:=id) (fnv:=fnv) (B0:=B0) hk;have g3:=stk3 (id:=id) (fnv:=fnv) (B0:=B0) hk;have gL:=stkL (id:=id) (fnv:=fnv) (B0:=B0) hk hK;have gG:=stkG (id:=id) (fnv:=fnv) (B0:=B0) hk hK;have gG0:=stkG0 (id:=id) (fnv:=fnv) (B0:=B0) hk hK;have gS:=stkS (id:=id) (fnv:=fnv) (B0:=B0) hk hK;have gS0:=stkS0 (id:=id) (fnv:=fnv) (B0:=B0) hk hK;have gA:=stkA id fnv B0 low;repeat with_reducible first|(fail_if_success refine am.seq (x:=.region 1 _ _) ?_);(fail_if_success show am _ (.region 1 _ _) _ _);refine nz aa ?_|apply ny;simp only[f113,go_sem];rfl
 refine am.scope ?_;have hm1:((-1:Int)<0)=True:=by simp
 repeat with_reducible first|(fail_if_success refine am.seq (x:=.region 4 _ _) ?_);(fail_if_success show am _ (.region 4 _ _) _ _);refine nz (aj aa (ent func74 rfl) hidx hil) ?_|apply ny;simp only[f113,eA,bl,g0,g1,g3,hm1,go_sem];rfl
 repeat with_reducible first|refine nz aa ?_|apply ny;simp only[f113,go_sem];rfl
 refine am.keep [20,19,18,8,1,2,3,6] (by simp only[go_sem];rfl) ?_
 refine am.nilRow 8 3 1 (by simp only[go_sem]) (by simp only[gL,Fz,go_sem];rfl) (gA _ _ _ _ _) ?_
 obtain⟨pl,hpl⟩:∃pl,pl=list.map (·-e):=⟨_,rfl⟩
 rw[←hpl]at hY;have hpn:pl.length=list.length:=by rw[hpl,DX]
 refine am.loop (fun i s'=>s'=⟨[(20,ii i),(19,ii list.length),(18,.sl zl (list.map ii)),(8,.ms K i),(6,.bool false),(1,.ip (gk e ss rr mm lv)),(2,.bp k0 0),(3,.bp (k0+1) 0)],89,stk id fnv B0 low (.pf (k0+3) d l.length) false (l.map ii) [.row (decide (i=0)) 3 1 ((pl.take i).map ii) false]⟩)
  list.length (by simp only[DX,go_sem]) ?_
 rintro i _ hi rfl;by_cases hlt:i<list.length
 ·obtain⟨x,hx1⟩:=gex hlt
  have hx':(list.map ii)[i]?=some (ii x):=aw hx1;have hlt':(i:Int)<list.length:=by omega
  have hxb:=hx x (DU hx1);have e3:IntKind.i64.wrap (x-e)=x-e:=ai (by omega) (by omega)
  have e4:=wIs i (by omega)
  have r1:(i+1)*8<=140737488355328:=by omega
  have r2:i+1<=maxLen:=by unfold maxLen;omega
  have htk:(pl.take (i+1)).map ii=(pl.take i).map ii++[ii (x-e)]:=by
   have:pl[i]?=some (x-e):=by rw[hpl];exact aw hx1
   rw[Ev,this,Ec];rfl
  have htl:(pl.take i).length=i:=by rw[En];omega
  have hd1:decide (i+1=0)=false:=by simp
  repeat with_reducible first|refine nz aa ?_|apply ny;simp only[f113,hx',hlt',hzl,e3,e4,r1,r2,gG0,gS0,gL,gA,htl,Fz,go_sem];rfl
  refine ak.cutS [20,19,18,8,1,2,3,6] (stk id fnv B0 low (.pf (k0+3) d l.length) false (l.map ii) [.row (decide (i+1=0)) 3 1 ((pl.take (i+1)).map ii) false]) [.dead] hlt (by rw[gA,htk,hd1];simp only[go_sem]) (by rw[gL];simp only[gL,go_sem]) (by simp only[go_sem];rfl) ?_ ?_ rfl (by simp only[go_sem])
  ·rw[gL]
   intro p hp;simp only[D6,Eb,EM]at hp;rcases hp with rfl|rfl|rfl|rfl|rfl|rfl|rfl|rfl
   ·exact .int
   ·exact .int
   ·exact(av _ (show(PV.sl zl (list.map ii)).closed=true from cV list)).mono (Ee _)
   ·exact .ms (by simp)
   ·exact .bool
   ·exact(av _ (show(PV.ip (gk e ss rr mm lv)).closed=true from hcl)).mono (Ee _)
   ·exact .bp (by omega)
   ·exact .bp (by omega)
  ·rw[gL]
   exact jM hk hK h0 hid (hvl _) hfn hcle hB fun x hx=>by
    simp only[D6,Eb,EM]at hx;subst hx;exact(dD (show(Box.row (decide (i+1=0)) 3 1 ((pl.take (i+1)).map ii) false).ltB 0=true from ae 0 _ (cV _))).mono (Ee _)
 have hlt':¬(i:Int)<list.length:=by omega
 obtain rfl:i=list.length:=by omega
 have hi0:decide (list.length=0)=false:=by simp[hne]
 rw[hi0,show pl.take list.length=pl from by rw[←hpn,Eg]]
 refine am.freezeZ 8 K rfl (by rw[gG0];rfl) (by rw[DX,hpn]) (cV pl) (gS0 _ _ _ _ _) rfl ?_
 repeat with_reducible first|(fail_if_success refine am.seq (x:=.region 9 _ _) ?_);(fail_if_success show am _ (.region 9 _ _) _ _);refine nz aa ?_|apply ny;simp only[f113,hlt',go_sem];rfl
 obtain⟨R,hR⟩:∃R,R=l.take d:=⟨_,rfl⟩;have hRl:R.length=d:=by rw[hR,En];omega
 have hRn:R≠[]:=fun e=>by rw[e]at hRl;simp at hRl;omega
 rw[←hR]at hY;have hdec:dM ld ((l.map ii).take d)=some R:=by rw[←Fo,←hR,j8]
 have hcR:ad ((l.map ii).take d)=true:=by rw[←Fo];exact cV _
 have hpR:(flat (R.map ii)).all plain1=true:=by
  rw[sG];rw[FS];exact D7.2 fun _ _=>rfl
 have hRb:R.length<=100000:=by omega
 obtain⟨own,hown⟩:∃own,own=[Box.var [.yl id] false,.var [.pf (k0+3) d l.length] false,.var [fnv] false,.row false 3 1 (l.map ii) false]++(B0++[Box.row false 3 1 (pl.map ii) true]):=⟨_,rfl⟩;have hon:low.length+own.length=K+1:=by rw[hown];simp;omega
 have hOw:OwnOk low.length own:=by
  rw[hk,hown];exact kB (z:=false) (es:=l.map ii) (C:=[Box.row false 3 1 (pl.map ii) true]) hK hid (hvl _) hfn hcle hB fun x hx=>by
   simp only[D6,Eb,EM]at hx;subst hx;exact(dD (show(Box.row false 3 1 (pl.map ii) true).ltB 0=true from ae 0 _ (cV _))).mono (Ee _)
 obtain⟨X,hXl,hy1⟩:=hYl.leaf hY (cV pl) (fun sg=>rfl) (by omega) own hOw
 have hs1:SameLoops (stk id fnv B0 low (.pf (k0+3) d l.length) false (l.map ii) []) (stk id fnv B0 low' (.pf (k0+3) d l.length) false (l.map ii) []):=hYl.same hY _ (by rw[hk];exact kB (z:=false) (es:=l.map ii) (C:=[]) hK hid (hvl _) hfn hcle hB (fun x hx=>by cases hx))
 have ek:∀lw A,lw++(own++A)=stk id fnv B0 lw (.pf (k0+3) d l.length) false (l.map ii) (Box.row false 3 1 (pl.map ii) true::A):=fun lw A=>by
  rw[hown];unfold stk;simp only[Et,EK,EA]
 rw[hon,ek,ek]at hy1;have hy2:YieldOk prog id [.agg [.ms (K+1) R.length,.sl .a (pl.map ii)]] (stk id fnv B0 low (.pf (k0+3) d l.length) false (l.map ii) [.row false 3 1 (pl.map ii) true,.row false 3 1 (R.map ii) false,.dead]) (.ret (.bool b))
  (stk id fnv B0 low' (.pf (k0+3) d l.length) false (l.map ii) [.row false 3 1 (pl.map ii) true,X,.dead]):=hy1
 have hnX:dl [.row false 3 1 (pl.map ii) true,X,.dead]=true:=by
  simp only[dl,Fv,List.all_nil,hXl];rfl
 have hs2:SameLoops (stk id fnv B0 low (.pf (k0+3) d l.length) false (l.map ii) [.row false 3 1 (pl.map ii) true,.row false 3 1 (R.map ii) false,.dead]) (stk id fnv B0 low' (.pf (k0+3) d l.length) false (l.map ii) [.row false 3 1 (pl.map ii) true,X,.dead]):=by
  have:=dQ hs1 (C:=[.row false 3 1 (pl.map ii) true,.row false 3 1 (R.map ii) false,.dead]) (C':=[.row false 3 1 (pl.map ii) true,X,.dead]) rfl hnX
  rw[stkA,stkA]at this;exact this
 have hdec2:dM ld (R.map ii)=some R:=j8 R;have hcR2:ad (R.map ii)=true:=cV R;have htkR:(l.map ii).take d=R.map ii:=by rw[←Fo,←hR]
 have hnd:[k0,k0+1,K+1,k0+3,K+2,id].Nodup:=by simp;omega
 refine am.seq ?_;refine am.drawnY [] hTT cfJ_ok (p8 hy2 hs2) cP mixed (by kernel_rfl) (by simp only[gA,go_sem];rfl) ?_
 iterate 5 (apply cT.step;(focus (simp only[f113,g0,g1,g3,gG,gG0,gS,gS0,gL,gA,htkR,hdec2,hcR2,cfJ,c202,hRn,hRb,hpR,go_sem];with_reducible rfl)))
 refine cT.full rfl (by simp only[go_sem]) (by simp only[go_sem]) (by simp only[go_sem]) (by simp only[xM,go_sem];rfl) ?_
 apply cT.step
 ·simp only[go_sem];rfl
 refine cT.nil ⟨fJ [k0,k0+1,K+1,k0+3,K+2,id] [(false,none,[0]),(false,none,[1]),(false,some 2,[2,3]),(false,none,[]),(false,none,[2]),(true,none,[4,5,2]),(false,none,[])] hnd (by kernel_rfl) rfl (by kernel_rfl),?_⟩
 repeat with_reducible first|refine nz aa ?_|apply ny;simp only[f113,go_sem];rfl
 refine⟨(fun l e=>by cases e),rfl,?_,rfl,_,(stkA id fnv B0 low' _ _ _ [] _).symm⟩
 have:=SameLoops.app [Box.row false 3 1 (pl.map ii) true,X,.dead] hnX hs1
 rw[stkA]at this;exact this
theorem jD{sg:List Box}{i:Nat}{x y:Box}(h:sg[i]?=some x)(hx:isLoopB x=false)(hy:isLoopB y=false):SameLoops sg (sg.set i y):=by
 have hi:=(DR.1 h).1;refine⟨fun id lr e=>?_,fun id lr e=>?_⟩
 ·by_cases hid:i=id
  ·subst hid
   rw[h]at e;cases e;cases hx
  ·exact⟨lr,by rw[D8 hid];exact e⟩
 ·by_cases hid:i=id
  ·subst hid
   rw[D4 hi]at e;cases e;cases hy
  ·exact⟨lr,by rw[D8 hid]at e;exact e⟩
theorem stk_var(id:Nat)(fnv:PV)(B0 lw C:List Box)(v v':PV)(z z':Bool)(es es':List PV):SameLoops (stk id fnv B0 lw v z es C) (stk id fnv B0 lw v' z' es' C):=by
 have h1:=jD (y:=.var [v'] false) (stk1 (id:=id) (fnv:=fnv) (B0:=B0) (lw:=lw) rfl v z es C) rfl rfl;rw[stkS1 rfl]at h1;have h2:=jD (y:=.row z' 3 1 es' false) (stk3 (id:=id) (fnv:=fnv) (B0:=B0) (lw:=lw) rfl v' z es C) rfl rfl;rw[stkS3 rfl]at h2;exact h1.trans h2
def tZ(R:List Int)(L:List (List Nat×List Int)):List (List PV):=L.map fun dd=>[.agg [.sl .a ((R++bH dd.1).map ii),.sl .a (dd.2.map ii)]]
theorem yM(R:List Int)(i:Nat)(L:List (List Nat×List Int)):tZ R (L.map fun dd=>(i::dd.1,dd.2))=tZ (R++[(i:Int)]) L:=by
 unfold tZ;rw[Fb];apply EP;intro dd _
 show[PV.agg [.sl .a ((R++bH (i::dd.1)).map ii),_]]=_
 have:R++bH (i::dd.1)=R++[(i:Int)]++bH dd.1:=by
  rw[Et];rfl
 rw[this]
theorem resD_app(R:List Int)(L M:List (List Nat×List Int)):tZ R (L++M)=tZ R L++tZ R M:=by unfold tZ;rw[Ec]
abbrev okM(mm:List Int):Rl->Bool:=fun r=>pA mm r.to
def nj(e:Int)(mm:List Int)(rl:List Rl)(f:Nat)(list:List Int)(a i:Nat):List (List Nat×List Int) :=
 (iN (okM mm) (list.getD a 0) (rl.drop i) i).flatMap fun ir=>(Mj e (okM mm) rl f (iy list a ir.2.to)).map fun dd=>(ir.1::dd.1,dd.2)
theorem AQ{e:Int}{mm:List Int}{rl:List Rl}{f:Nat}{list:List Int}{a i:Nat}{r:Rl}(h:rl[i]?=some r):nj e mm rl f list a i =
 (if r.frm=list.getD a 0∧pA mm r.to=true then(Mj e (okM mm) rl f (iy list a r.to)).map (fun dd=>(i::dd.1,dd.2))++nj e mm rl f list a (i+1)else nj e mm rl f list a (i+1)):=by
 unfold nj;rw[aP h,iN];split
 ·rw[E2]
 ·rfl
theorem xy{e:Int}{mm:List Int}{rl:List Rl}{f:Nat}{list:List Int}{a i:Nat}(h:rl.length<=i):nj e mm rl f list a i=[]:=by
 unfold nj;rw[Ef h];rfl
theorem yH{e:Int}{mm:List Int}{rl:List Rl}{f:Nat}{list:List Int}{a:Nat}(h:bN e list=some a):nj e mm rl f list a 0=Mj e (okM mm) rl (f+1) list:=by
 unfold nj;rw[Mj,h];rfl
theorem AB(e:Int):∀l:List Int,l.length<=wtF e l
 |[]=>DS _
 |x::l=>by
  have:=AB e l
  have h1:=wt_pos e x;have:wtF e (x::l)=wtM e x+wtF e l:=by unfold wtF;simp
  rw[Ek];omega
def DerP(Y:List PV->List Box->Bool->List Box->Prop)(e:Int)(ss lv:PV)(mm:List Int)(zr:Z)(rz:List Rz)(id k0:Nat)(f:Nat):Prop :=
 ∀(zl:Z) (list l:List Int) (d:Nat) (z:Bool) (low low' B0:List Box) (K:Nat) (b:Bool),zl≠.n->list≠[]->f<=20000->(∀x∈list,0<=x∧x<mm.length)->wtF e list<f->(bN e list=none->1<=d)->d<=l.length->l.length<=100000->d+f<=100000->(z=true->l=[]) ->
  low.length=k0->k0+(4+B0.length)=K->OwnOk 0 low->(∀x∈B0,x.Lt K)->FoldR Y (tZ (l.take d) (Mj e (okM mm) (rz.map (·.2)) f list)) low b low' ->
  ∃v' z' l',(b=true->v'=.pf (k0+3) d l'.length∧l'.take d=l.take d∧d<=l'.length∧l'.length<=100000∧(z'=true->l'=[]))∧Pv.Lt (k0+4) v' ∧
   ab prog 113 [.sl zl (list.map ii),.ip (gk e ss (.sl zr (rz.map aT)) mm lv),.bp k0 0,.bp (k0+1) 0,.bp (k0+2) 0] (stk id (.fn (.func 113) [] [.ip (gk e ss (.sl zr (rz.map aT)) mm lv),.bp k0 0,.bp (k0+1) 0,.bp (k0+2) 0]) B0 low (.pf (k0+3) d l.length) z (l.map ii) []) (.ret (.bool b))
    (stk id (.fn (.func 113) [] [.ip (gk e ss (.sl zr (rz.map aT)) mm lv),.bp k0 0,.bp (k0+1) 0,.bp (k0+2) 0]) B0 low' v' z' (l'.map ii) [])
def rzIn(mm:List Int)(rz:List Rz):Bool:=rz.all fun q=>zOk q.1 (q.2.to.map ii)&&decide (1<=q.2.to.length)&&decide (q.2.to.length<=4)&&q.2.to.all fun x=>decide (q.2.frm<x∧0<=x∧x<mm.length)
theorem rzIn_at{mm:List Int}{rz:List Rz}(h:rzIn mm rz=true){q:Rz}(hq:q∈rz):zOk q.1 (q.2.to.map ii)=true∧1<=q.2.to.length∧q.2.to.length<=4∧∀x∈q.2.to,q.2.frm<x∧0<=x∧x<mm.length:=by
 have:=D7.1 h q hq
 simp only[D3,Eo]at this;exact⟨this.1.1.1,this.1.1.2,this.1.2,fun x hx=>Eu (D7.1 this.2 x hx)⟩
def pt(l:List Int)(d:Nat)(i:Int):List Int:=if d=l.length then l++[i]else l.set d i
theorem qF{l:List Int}{d:Nat}{i:Int}(h:d<=l.length):(pt l d i).take (d+1)=l.take d++[i]:=by
 unfold pt;split
 ·next e=>subst e;rw[Eg];exact EQ (by simp)
 ·rw[Ev,List.take_set_of_le (DS _),D4 (by omega)];rfl
theorem putL_len{l:List Int}{d:Nat}{i:Int}(h:d<=l.length):d+1<=(pt l d i).length∧(pt l d i).length<=max l.length (d+1):=by
 unfold pt;split
 ·next e=>subst e;simp
 ·simp;omega
theorem app_pf{sg:List Box}{id d fid:Nat}{z:Bool}{l:List Int}{x:Int}(hb:sg[id]?=some (.row z 3 1 (l.map ii) false))(hd:d<=l.length)(hz:z=true->l=[])(hl:l.length<=100000):
 ed TT sg fid 28 (.pf id d l.length) (.sl .f [ii x])=some (.pf id (d+1) (pt l d x).length,some (id,.row false 3 1 ((pt l d x).map ii) false)):=by
 have r1:(l.length+1)*8<=140737488355328:=by omega
 have r2:l.length+1<=maxLen:=by unfold maxLen;omega
 by_cases hde:d=l.length
 ·have hp:pt l d x=l++[x]:=by unfold pt;rw[DZ hde]
  rw[hp,hde];simp only[hb,r1,r2,Ec,go_sem]
 ·have hp:pt l d x=l.set d x:=by unfold pt;rw[D5 hde]
  have hz0:z=false:=by
   cases z with
   |false=>rfl
   |true=>rw[hz rfl]at hd hde;simp at hd hde;omega
  subst hz0;have hdl:d+1<=l.length:=by omega
  have hsp:(l.map ii).take d++ii x::(l.map ii).drop (d+1)=(l.set d x).map ii:=by
   rw[List.map_set,GE,DZ (by rw[DX];omega)]
  rw[hp];simp only[hb,hde,hdl,hsp,go_sem]
theorem call_stk{id:Nat}{fnv v:PV}{B0 lw C:List Box}{z:Bool}{es0:List PV}{k0 K:Nat}(hk:lw.length=k0)(hK:k0+(4+B0.length)=K){f:FuncId}{p m k:Nat}{e:TypeId}{es rest:List PV}{r:PRes}{sg':List Box}(hp:C[p]?=some (.row false e k es false))(hc:ad es=true)(hm:es.length=m)
 (hr:∀sg,iU (dh sg) rest=some rest) (h:ab prog f (.sl .a es::rest) (stk id fnv B0 lw v z es0 (C.set p (.row false e k es true))) r sg'):ab prog f (.ms (K+p) m::rest) (stk id fnv B0 lw v z es0 C) r sg':=by
 have e1:∀C,stk id fnv B0 lw v z es0 C=(lw++([.var [.yl id] false,.var [v] false,.var [fnv] false,.row z 3 1 es0 false]++B0))++C:=fun C=>by unfold stk;simp only[Et]
 rw[e1]at h ⊢;exact call_frz (by simp only[Ea,Ek,ET];omega) hp hc hm hr h
theorem gd{Y:List PV->List Box->Bool->List Box->Prop}(hY:YOk Y){id:Nat}{fnv v v':PV}{B0 lw lw1 C C':List Box}{z z':Bool}{es es':List PV}{k0 K:Nat}{L:List (List PV)}{b:Bool}(hf:FoldR Y L lw b lw1)(hk:lw.length=k0)(hK:k0+(4+B0.length)=K)(hid:id<k0)(hv:Pv.Lt K v)(hfn:Pv.Lt K fnv)(hes:ad es=true)(hB:∀x∈B0,x.Lt K)
 (hc:dl C=true) (hc':dl C'=true):SameLoops (stk id fnv B0 lw v z es C) (stk id fnv B0 lw1 v' z' es' C'):=by
 have h1:=hY.sames hf (by rw[hk];exact kB (z:=z) (C:=[]) hK hid (hv.mono (by simp)) hfn hes hB (fun x hx=>by cases hx))
 have h2:SameLoops (stk id fnv B0 lw v z es []) (stk id fnv B0 lw1 v z es []):=h1;have h3:=dQ h2 hc hc';rw[stkA,stkA]at h3;exact h3.trans (stk_var id fnv B0 lw1 _ v v' z z' es es')
theorem cat3(a b c:Qi):gP [a,b,c]=a.2++b.2++c.2:=by unfold gP;simp
theorem min_if(c a:Int):min c a=if a<c then a else c:=by split <;> omega
theorem max_if(c a:Int):max c a=if a>c then a else c:=by split <;> omega
def iV(l:List Int):Int:=l.foldl (fun n x=>min 1000 (n*x)) 1
theorem wN{l:List Int}{i:Nat}{x:Int}(h:l[i]?=some x):iV (l.take (i+1))=min 1000 (iV (l.take i)*x):=by
 unfold iV;rw[Ev,h,FC];rfl
theorem vp{l:List Int}(h:∀x∈l,0<=x):0<=iV l∧iV l<=1000:=by
 have key:∀(l:List Int) (n:Int),(∀x∈l,0<=x)->0<=n->n<=1000->0<=l.foldl (fun n x=>min 1000 (n*x)) n∧l.foldl (fun n x=>min 1000 (n*x)) n<=1000:=by
  intro l;induction l with
  |nil=>intro n _ h0 h1;exact⟨h0,h1⟩
  |cons a l ih =>
   intro n hl h0 h1;have:=Int.mul_nonneg h0 (hl a DV)
   exact ih (min 1000 (n*a)) (fun x hx=>hl x (DW _ hx)) (by omega) (by omega)
 exact key l 1 h (by omega) (by omega)
theorem ways_148(z:Z)(l:List Int)(hz:z=.n->l=[])(hl:l.length<=1000)(hb:∀x∈l,0<=x∧x<=1000):ab prog 87 [.sl z (l.map ii)] [] (.ret (ii (iV l))) []:=by
 refine ab.of0 hTT func87 rfl rfl ?_;repeat with_reducible first|refine nz aa ?_|apply ny;simp only[f87,go_sem];rfl
 refine am.keep [8,7,6,3,2,0] (by simp only[go_sem];rfl) ?_
 refine am.loop (fun i s'=>s'=⟨[(8,ii i),(7,ii l.length),(6,.sl z (l.map ii)),(3,ii (iV (l.take i))),(2,ii 0),(0,.sl z (l.map ii))],18,[]⟩) l.length (by simp only[DX,go_sem];rfl) ?_
 rintro i _ hi rfl;by_cases hlt:i<l.length
 ·obtain⟨x,hx⟩:=gex hlt
  have hx':(l.map ii)[i]?=some (ii x):=aw hx;have hlt':(i:Int)<l.length:=by omega
  have hz':z≠.n:=fun e=>by rw[hz e]at hlt;simp at hlt
  have hw:=wN hx;have hxb:=hb x (DU hx);have hwb:=vp (l:=l.take i) fun y hy=>(hb y (Ey hy)).1
  generalize iV (l.take i)=w at hwb hw ⊢;have h1:=Int.mul_nonneg hwb.1 hxb.1;have h2:w*x<=1000*1000:=Int.le_trans (Int.mul_le_mul_of_nonneg_right hwb.2 hxb.1) (by omega)
  have e3:IntKind.i64.wrap (w*x)=w*x:=ai (by omega) (by omega)
  have e4:=wIs i (by omega)
  repeat with_reducible first|refine nz aa ?_|apply ny;simp only[f87,hlt',hx',hz',e3,e4,go_sem];rfl
  refine ak.k [8,7,6,3,2,0] hlt (by simp only[go_sem];rfl) (by rw[hw,min_if])
 ·have hlt':¬(i:Int)<l.length:=by omega
  obtain rfl:i=l.length:=by omega
  rw[Eg];repeat with_reducible first|refine nz aa ?_|apply ny;simp only[f87,hlt',go_sem];rfl
  exact⟨rfl,rfl,_,rfl,rfl⟩
def c148:Tb_
 |[v],sg=>match aN v with
  |some l=>if l.length<=1000∧(l.all fun x=>decide (0<=x∧x<=1000))=true then some (.ret (ii (iV l)),sg)else none
  |none=>none
 |_,_=>none
theorem c148_ok:dU prog 87 c148:=dU.of0 (ent func87 rfl) fun args sg r sg' h=>by
 unfold c148 at h;split at h <;> try (cases h;done)
 split at h <;> try (cases h;done)
 rename_i h1;split at h <;> cases h
 rename_i hc;obtain⟨z,rfl,hz⟩:=aJ h1;exact⟨_,rfl,rfl,by rw[af,bt];rfl,ways_148 _ _ hz hc.1 fun x hx=>Eu (D7.1 hc.2 x hx)⟩
def cE(g:Nat×Nat->Nat)(m:Nat)(suf:List (Nat×Nat)):List Int:=List.replicate m 0++suf.map fun p=>(g p:Int)
theorem L1(g:Nat×Nat->Nat)(m:Nat)(suf:List (Nat×Nat)):(cE g m suf).length=m+suf.length:=by unfold cE;simp
theorem jN{g:Nat×Nat->Nat}(h:g (0,0)=0)(m:Nat)(suf:List (Nat×Nat)):cE g (m+1) suf=cE g m ((0,0)::suf):=by
 unfold cE;rw[List.replicate_succ',EE,h,Et];rfl
theorem lI(g:Nat×Nat->Nat)(m:Nat)(a a':Nat×Nat)(suf:List (Nat×Nat)):(cE g m (a::suf)).set m (g a')=cE g m (a'::suf):=by
 unfold cE;rw[Fq _ _ (by simp)]
 simp
theorem oO(g:Nat×Nat->Nat)(m:Nat)(a:Nat×Nat)(suf:List (Nat×Nat)):(cE g m (a::suf)).getD m 0=g a:=by
 unfold cE;rw[Ep,D9 (by simp)]
 simp
theorem et{g:Nat×Nat->Nat}(h:g (0,0)=0)(m:Nat)(a:Nat×Nat)(suf:List (Nat×Nat))(x:Int)(hx:(m:Int)<x):(cE g m (a::suf)).getD x.toNat 0=g (eo suf (m+1) x):=by
 unfold cE eo;rw[Ep,D9 (by simp;omega),List.length_replicate]
 rw[show x.toNat-m=(x.toNat-(m+1))+1 by omega,EE,FB,Eh,Ep]
 cases suf[x.toNat-(m+1)]? with
 |none=>simp[h]
 |some p=>rfl
theorem ends_pad(m:Nat)(a:Nat×Nat)(suf:List (Nat×Nat))(r:Rl)(hr:∀x∈r.to,(m:Int)<x):pA (cE Prod.fst m (a::suf)) r.to=lh suf (m+1) r:=by
 unfold pA lh;have key:∀l:List Int,(∀x∈l,(m:Int)<x)->(!(l.any fun x=>decide ((cE Prod.fst m (a::suf)).getD x.toNat 0=0)))=l.all fun x=>decide ((eo suf (m+1) x).1≠0):=by
  intro l;induction l with
  |nil=>intro _;rfl
  |cons x l ih =>
   intro h;rw[GG,Fv,Bool.not_or,ih fun y hy=>h y (DW _ hy),et rfl m a suf x (h x DV)]
   congr 1
   by_cases h1:(eo suf (m+1) x).1=0
   ·simp[h1]
   ·have:((eo suf (m+1) x).1:Int)≠0:=by omega
    simp[h1,this]
 exact key r.to hr
theorem ww(l:List Nat):iV (l.map fun (n:Nat)=>(n:Int))=(nv (min 1000) l:Nat):=by
 have key:∀(l:List Nat) (n:Nat),(l.map fun (n:Nat)=>(n:Int)).foldl (fun n x=>min 1000 (n*x)) (n:Int)=((l.foldl (fun n x=>min 1000 (n*x)) n:Nat):Int):=by
  intro l;induction l with
  |nil=>intro n;rfl
  |cons x l ih =>
   intro n;rw[EE,EI,EI];have:min 1000 ((n:Int)*(x:Int))=((min 1000 (n*x):Nat):Int):=by
    rw[←Int.natCast_mul];omega
   rw[this];exact ih _
 exact key l 1
theorem rj{suf:List (Nat×Nat)}{c d:Nat}(h:∀p∈suf,p.1<=c∧p.2<=d)(m:Nat)(x:Int):(eo suf m x).1<=c∧(eo suf m x).2<=d:=by
 unfold eo;rw[Ep];cases hg:suf[x.toNat-m]? with
 |none=>exact⟨Ee _,Ee _⟩
 |some p=>exact h p (DU hg)
theorem sum_bd{α:Type}{d:Nat}(f:α->Nat):∀l:List α,(∀x∈l,f x<=d)->(l.map f).sum<=l.length*d
 |[],_=>by simp
 |a::l,h=>by
  have h1:=h a DV;have h2:=sum_bd f l fun x hx=>h x (DW _ hx)
  rw[EE,E3,Ek,E4,Nat.one_mul];omega
theorem rule_bd{m d:Nat}{suf:List (Nat×Nat)}{a:Nat×Nat}{r:Rl}(hs:∀p∈suf,p.1<=1000∧p.2<=d)(hr:r.to.length<=4)(ha:a.1<=1000∧a.2<=4*d):(cM (min 1000) id m suf a r).1<=1000∧(cM (min 1000) id m suf a r).2<=4*d:=by
 unfold cM;split
 ·have h1:=sum_bd (d:=d) (fun x=>(eo suf (m+1) x).2) r.to fun x _=>(rj hs _ x).2
  have h2:r.to.length*d<=4*d:=E7 _ hr;refine⟨Nat.min_le_left _ _,?_⟩;simp only[id];omega
 ·exact ha
theorem tu{m d:Nat}{suf:List (Nat×Nat)}(hs:∀p∈suf,p.1<=1000∧p.2<=d):∀(rl:List Rl) (a:Nat×Nat),(∀r∈rl,r.to.length<=4)->a.1<=1000∧a.2<=4*d->(rl.foldl (cM (min 1000) id m suf) a).1<=1000∧(rl.foldl (cM (min 1000) id m suf) a).2<=4*d
 |[],a,_,ha=>ha
 |r::rl,a,hr,ha=>tu hs rl _ (fun x hx=>hr x (DW _ hx)) (rule_bd hs (hr r DV) ha)
theorem tab_bd{e n:Nat}{rl:List Rl}(hr:∀r∈rl,r.to.length<=4):∀k,∀p∈fm (min 1000) id e n rl k,p.1<=1000∧p.2<=4 ^ k
 |0,p,h=>by cases h
 |k+1,p,h=>by
  have ih:=tab_bd (e:=e) (n:=n) hr k;have h4:4 ^ (k+1)=4*4 ^ k:=by rw[Nat.pow_succ,Gr]
  have h1:1<=4 ^ k:=Nat.pow_pos (by omega)
  rw[fm]at h;rcases D6.1 h with rfl|h
  ·split
   ·exact⟨by omega,by omega⟩
   ·rw[h4]
    exact tu ih rl (0,0) hr ⟨by omega,by omega⟩
  ·have:=ih p h
   omega
theorem rule_pad{m:Nat}{a:Nat×Nat}{suf:List (Nat×Nat)}{r:Rl}(hf:r.frm=m)(hr:∀x∈r.to,(m:Int)<x)(he:lh suf (m+1) r=true):
 ((cM (min 1000) id m suf a r).1:Int)=min 1000 ((a.1:Int)+iV (r.to.map fun x=>(cE Prod.fst m (a::suf)).getD x.toNat 0)) ∧
 ((cM (min 1000) id m suf a r).2:Int)=max (a.2:Int) ((r.to.map fun x=>(cE Prod.snd m (a::suf)).getD x.toNat 0).sum):=by
 unfold cM;rw[DZ ⟨hf,he⟩];have h1:(r.to.map fun x=>(cE Prod.fst m (a::suf)).getD x.toNat 0)=(r.to.map fun x=>(eo suf (m+1) x).1).map fun (n:Nat)=>(n:Int):=by
  rw[Fb];exact EP fun x hx=>et rfl m a suf x (hr x hx)
 have h2:(r.to.map fun x=>(cE Prod.snd m (a::suf)).getD x.toNat 0)=(r.to.map fun x=>(eo suf (m+1) x).2).map fun (n:Nat)=>(n:Int):=by
  rw[Fb];exact EP fun x hx=>et rfl m a suf x (hr x hx)
 have h3:∀l:List Nat,(l.map fun (n:Nat)=>(n:Int)).sum=((l.sum:Nat):Int):=by
  intro l;induction l with
  |nil=>rfl
  |cons a l ih=>rw[EE,E3,E3,ih];omega
 rw[h1,h2,ww,h3];simp only[id];omega
theorem sT{D:Int}:∀l:List Int,(∀x∈l,0<=x∧x<=D)->0<=l.sum∧l.sum<=l.length*D
 |[],_=>by simp
 |a::l,h=>by
  have h1:=h a DV;have h2:=sT l fun x hx=>h x (DW _ hx)
  have h3:((l.length+1:Nat):Int)*D=(l.length:Int)*D+D:=by
   rw[Int.natCast_add,Int.add_mul];simp
  rw[E3,Ek,h3];omega
theorem sum_take{f:Int->Int}{l:List Int}{i:Nat}{x:Int}(h:l[i]?=some x):((l.take (i+1)).map f).sum=((l.take i).map f).sum+f x:=by
 rw[Ev,h];simp
theorem map_take{f:Int->Int}{l:List Int}{i:Nat}{x:Int}(h:l[i]?=some x):(l.take (i+1)).map f=(l.take i).map f++[f x]:=by
 rw[Ev,h];simp
theorem c148_at{L:List Int}{sg:List Box}(h1:L.length<=1000)(h2:∀x∈L,0<=x∧x<=1000):c148 [.sl .a (L.map ii)] sg=some (.ret (ii (iV L)),sg):=by
 show(match aN (.sl .a (L.map ii))with|some l=>if l.length<=1000∧(l.all fun x=>decide (0<=x∧x<=1000))=true then some (PRes.ret (ii (iV l)),sg)else none|none=>none)=_
 rw[aI rfl];exact DZ ⟨h1,D7.2 fun x hx=>Ej (h2 x hx)⟩
end Go.Pv
