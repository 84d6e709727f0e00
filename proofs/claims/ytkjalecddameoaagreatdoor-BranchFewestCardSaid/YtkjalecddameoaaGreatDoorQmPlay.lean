import Derived.Test.YtkjalecddameoaaGreatDoorQmCho
import Derived.Test.YtkjalecddameoaaGreatDoorQmRefC
set_option linter.all false
open Go.Proofs.Tryz
namespace Go.Pv
open Go Go.RowKit Go.Proofs
set_option maxRecDepth 200000
set_option maxHeartbeats 8000000
open Go Go.RowKit
section
variable {P:Program} {T:TypeId->TyI} {st st' st1 st2:St} {out:Out} {G:Gh} {sg:List Box} {w:World}
end
theorem fnLtK{m:Nat}{f:FuncId}{cs:List PV}(h:ad cs=true):Pv.Lt m (.fn (.func f) [] [.ip cs]):=by
 refine .fn (fun c hc=>by cases hc) fun c hc=>?_
 simp only[D6,Eb,EM]at hc;subst hc;exact(av _ (show(PV.ip cs).closed=true from h)).mono (Ee _)
theorem varLtK{m:Nat}{cs:List PV}{f:Bool}(h:ad cs=true):(Box.var cs f).Lt m:=fun c hc=>(aB _ h c hc).mono (Ee _)
def zC(c:List Nat):Z:=if c=[]then .f else .a
theorem zC_n{c:List Nat}(h:zC c=.n):c=[]:=by
 unfold zC at h;split at h <;> cases h
def pdV(n:Nt)(z:Z)(l:List Sn)(c:List Nat):PV:=.agg (pdC n z l (zC c) c)
theorem wB(n:Nt)(z:Z)(l:List Sn)(c:List Nat):(pdV n z l c).closed=true:=mY n z l (zC c) c
theorem l6(n:Nt)(z:Z)(l:List Sn)(C:List (List Nat)):ad (C.map (pdV n z l))=true:=aY (wB n z l) C
def pdsV(n:Nt)(z:Z)(l:List Sn)(C:List (List Nat)):PV:=.sl (if decide (C.length=0)=true then .n else .a) (C.map (pdV n z l))
def cfVl:CallF:=aE (aE cf0 181 c181) 131 c131
theorem hJ:CallFOk prog cfVl:=ah (ah aa c181_ok) xU
theorem ra(n:Nt)(z:Z)(l:List Sn)(hz:z=.n->l=[])(hnof:l.map nof=l)(hP:PlanOk n l):ab prog 144 [.agg (plC n z l)] [] (.ret (pdsV n z l (qf n l))) []:=by
 refine ab.ofF hTT func144 rfl rfl ?_;have hcl:=ay l;have hit:=sZ n z l hz hnof (by have:=hP.l10;omega) hP.l1
 have hfc:∀c∈nO l,fitB l c=true:=fun c hc=>hP.fitC (tO.1 hc)
 have hnt:=hP.nt;have hln:=ve hP.l10;unfold qf;generalize nO l=C at hit hfc hln ⊢;repeat with_reducible first|refine nz hJ ?_|apply ny;simp only[f144,cfVl,c181,hcl,bl,go_sem];rfl
 refine am.keep [7,3,1] (by simp only[go_sem];rfl) ?_
 refine am.nilBox (sg':=[.var (plC n z l) false,.var [.ms 2 0] false,.row true 173 9 [] false]) 1 0 173 9 rfl rfl rfl ?_;obtain⟨W,hW⟩:∃W:Nat->List (List Nat),W=fun i=>(C.take i).filter (lE n l):=⟨_,rfl⟩
 have hWe:W C.length=C.filter (lE n l):=by rw[hW];show(C.take C.length).filter _=_;rw[Eg]
 have hWs:∀i c,C[i]?=some c->W (i+1)=W i++if lE n l c=true then[c]else[]:=fun i c h=>by
  rw[hW]
  show(C.take (i+1)).filter _=_
  rw[Ev,h,Ft]
  congr 1
  show[c].filter (lE n l)=_
  rw[EZ,GM]
 have hWl:∀i,(W i).length<=C.length:=fun i=>by
  rw[hW];refine Em (Fh ..) ?_;rw[En];omega
 have hW0:W 0=[]:=by rw[hW];rfl
 rw[←hWe];refine am.range (L:=C.map fun c=>[slC c]) (first:=[]) (cap:=[.ip (plC n z l)]) rfl (ent func227 rfl) hit ?_ ?_ ?_
  (fun i st=>st=[.var (plC n z l) false,.var [.ms 2 (W i).length] false,.row (decide ((W i).length=0)) 173 9 ((W i).map (pdV n z l)) false])
  (by rw[hW0];rfl) ?_ ?_ ?_
 ·intro e he
  obtain⟨l,_,rfl⟩:=Ex.1 he;rfl
 ·intro t ht
  have h9:t=8:=by simpa using ht
  subst h9
  show(8:Nat)<19
  decide
 ·intro t v hv
  obtain⟨q,hq,rfl⟩:=jk hv;simp only[D6,Eb,EM]at hq;rcases hq with rfl|rfl|rfl
  ·exact fnLtK (dY n z l)
  ·exact .bp (show(1:Nat)<4 by decide)
  ·exact .bp (show(0:Nat)<4 by decide)
 ·rintro i st rfl
  refine⟨rfl,fun x hx=>?_,aD _ _ rfl⟩
  simp only[D6,Eb,EM]at hx;rcases hx with rfl|rfl|rfl
  ·exact varLtK (dY n z l)
  ·exact fun c hc=>by
    simp only[D6,Eb,EM]at hc;subst hc;exact .ms (show(2:Nat)<4 by decide)
  ·exact fun c hc=>(aB _ (bj _ (l6 n z l _)) c hc).mono (Ee _)
 ·rintro i e st he rfl
  obtain⟨c,hc,rfl⟩:∃c,C[i]?=some c∧e=[slC c]:=by
   rw[Eh,EC]at he;obtain⟨d,a,rfl⟩:=he;exact⟨d,a,rfl⟩
  have hfit:=hfc c (DU hc);have htk:=hWs i c hc;have hUl:=hWl i;have hsl:slC c=.sl (zC c) (nn c):=rfl;have hpv:pdV n z l c=.agg (pdC n z l (zC c) c):=rfl;have hzn:zC c=.n->c=[]:=zC_n;rw[hsl];refine .next _ rfl fun own ho=>?_
  rw[htk];generalize W i=U at hUl ⊢;generalize zC c=zc at hzn hpv ⊢;have hdp:na (.agg (pdC n z l zc c))=some ⟨n,z,l,zc,c⟩:=jn (p:=⟨n,z,l,zc,c⟩) ⟨hz,hzn,hnof⟩;have hcc:=aO c;have ga0:=dS own;have ga:=dO own;have gs0:=gq own;have gs:=d8 own;unfold YRun;generalize hX:Box.loop _=X1;repeat with_reducible first|refine nz hJ ?_|apply ny;simp only[f144,oS,FX,ga0,ga,gs0,gs,go_sem];rfl
  refine⟨rfl,own,by rw[←hX];rfl,?_⟩
  dsimp only;generalize hX2:Box.loop _=X2;cases hcb:lE n l c with
  |false =>
   rw[D5 (by simp),Er]
   repeat with_reducible first|refine nz hJ ?_|apply ny;simp only[f144,cfVl,c131,hdp,hfit,hnt,hcb,hcl,hcc,ga0,ga,gs0,gs,go_sem];rfl
   exact⟨rfl,[.var (pdC n z l zc c) false],rfl⟩
  |true =>
   rw[DZ rfl];have q1:(U.length+1)*104<=140737488355328:=by omega
   have q2:U.length+1<=maxLen:=by unfold maxLen;omega
   repeat with_reducible first|refine nz hJ ?_|apply ny;simp only[f144,cfVl,c131,hdp,hfit,hnt,hcb,hcl,hcc,q1,q2,ga0,ga,gs0,gs,go_sem];rfl
   refine⟨rfl,[.var (pdC n z l zc c) false,.dead],?_⟩;have hz0:decide ((U++[c]).length=0)=false:=by simp
   rw[hz0,Ec,Ea,←hpv];rfl
 ·rintro st rfl
  rw[DX];generalize W C.length=U;repeat with_reducible first|refine nz aa ?_|apply ny;simp only[f144,go_sem];rfl
  refine⟨rfl,rfl,_,rfl,?_⟩;exact leave_row (id:=2) rfl (l6 n z l U) (by rw[DX])
theorem tD{x y:Box}(hx:x.ltB 2=true)(hy:y.ltB 2=true){e:TypeId}{k:Nat}{es:List PV}(hc:ad es=true){m:Nat}:gB 2 (.ms 2 m) [x,y,.row false e k es false]=(.ms 2 m,[x,y,.row false e k es false]):=by
 unfold gB;have h1:(PV.ms 2 m).ltB 2=false:=rfl;rw[D5 (by rw[h1];simp)]
 have h:([x,y,Box.row false e k es false]:List Box)[2]?=some (.row false e k es false):=rfl;simp only[h];have hq:cO (frzX (some 2) 6) [x,y,.row false e k es false] (flat es)=(flat es,[x,y,.row false e k es false]):=bE (n:=5) (flat es) _ (bj es hc);simp only[hq,bx];have ho:kh [x,y,.row false e k es false] 2=true:=by unfold kh;rw[h]
 rw[DZ ⟨by simp,ae 2 es hc,by simp[hx,hy],ho⟩]
 rfl
theorem y9(z:Z)(l:List Sn)(hz:z≠.n)(hl:l≠[])(hs:l.length<=1000)(a b:List PV)(ha:(Box.var a false).ltB 2=true)(hb:(Box.var b false).ltB 2=true):ab prog 180 [.sl z (l.map cH)] [.var a false,.var b false] (.ret (.ms 2 l.length)) [.var a false,.var b false,.row false 151 5 (l.map cH) false]:=by
 refine ab.ofS hTT func180 rfl rfl ?_;have he:(l.map cH).isEmpty=false:=by cases l with
  |nil=>exact absurd rfl hl
  |cons a l=>rfl
 have r1:l.length*40<=140737488355328:=by omega
 have r2:l.length<=maxLen:=by unfold maxLen;omega
 have ez:(z==Z.n)=false:=by cases z <;> first|rfl|exact absurd rfl hz
 have hall:=ns_all l;simp only[PV.cells]at hall;repeat with_reducible first|refine nz aa ?_|apply ny;simp only[f180,ez,he,r1,r2,hall,go_sem];rfl
 refine⟨rfl,rfl,_,rfl,?_⟩;exact tD ha hb (ay l)
theorem yX(n:Nt)(z:Z)(l:List Sn)(i:Nat)(k:Int)(hz:z=.n->l=[])(hi:i<l.length)(hl:l.length<=1000):ab prog 133 [.agg (plC n z l),ii (i:Int),ii k] [] (.ret (.agg (plC n .a (kQ l i k)))) []:=by
 refine ab.ofF hTT func133 rfl rfl ?_;have hz':z≠.n:=fun e=>by rw[hz e]at hi;simp at hi
 have hi':(i:Int)<l.length:=by omega
 obtain⟨x,hx⟩:=gex hi;have hx':=cU hx;have hcl:=ay l;have hcn:=y9 z l hz' (fun e=>by rw[e]at hi;simp at hi) hl (plC n z l) [ii 0,ii 0,ii 0,ii 0,ii 0,ii 0,ii 0,.sl .n []] (show bD 2 (plC n z l)=true from ae 2 _ (dY n z l)) rfl
 rw[fixL_at hx];have hs1:(l.map cH).set i (.agg [ii x.part,ii k,ii x.most,.bool x.loose,ii (-1)])=(l.set i { x with least:=k }).map cH:=qO l i { x with least:=k }
 have hs2:((l.set i { x with least:=k }).map cH).set i (.agg [ii x.part,ii k,ii k,.bool x.loose,ii (-1)])=(l.set i { x with least:=k,most:=k }).map cH:=by
  rw[show(PV.agg [ii x.part,ii k,ii k,.bool x.loose,ii (-1)])=cH { x with least:=k,most:=k }from rfl,qO,List.set_set]
 have hg2:((l.set i { x with least:=k }).map cH)[i]?=some (.agg [ii x.part,ii k,ii x.most,.bool x.loose,ii (-1)]):=by
  rw[Eh,D4 hi];rfl
 repeat with_reducible first|refine nz (ar aa (ent func180 rfl) hcn (aD _ _ rfl)) ?_|apply ny;simp only[f133,cp,hz',hi',hx',d9,hs1,hs2,hg2,hcl,go_sem];rfl
 refine⟨rfl,rfl,_,rfl,?_⟩;exact pH (id:=2) (z:=false) (e:=151) (k:=5) (frz:=false) (es:=(l.set i { x with least:=k,most:=k }).map cH) rfl (ay _) (by rw[DX,Fr]) _ _ _ _ _ _ _
def c133:Tb_
 |[v,w,.int .i64 k],sg=>match eS v,decN w with
  |some (n,_,l),some i=>if i<l.length∧l.length<=1000 then some (.ret (.agg (plC n .a (kQ l i k))),sg)else none
  |_,_=>none
 |_,_=>none
theorem c133_ok:al prog 133 c133:=al.of0 (ent func133 rfl) fun args sg r sg' h=>by
 unfold c133 at h;split at h <;> try (cases h;done)
 split at h <;> try (cases h;done)
 rename_i n z l i h1 h2;split at h <;> cases h
 rename_i hc;obtain⟨rfl,hz⟩:=b8 h1;obtain rfl:=pJ _ _ h2;exact⟨_,rfl,rfl,by rw[af,fi];rfl,yX n z l i _ hz hc.1 hc.2⟩
def wh(n:Nt)(l:List Sn):PV:=if du n l=true then(match qf n l with
 |[]=>.tuple [.sl .n [],.sl .n [],ii 5]
 |c::_=>.tuple [slC c,.sl (if decide (c.length=0)=true then .n else .a) ((re n c l c).map ii),ii 0])else .tuple [.sl .n [],.sl .n [],ii 2]
theorem At{sg:List Box}{id:Nat}{z:Bool}{e:TypeId}{k:Nat}{es:List PV}{frz:Bool}(h:sg[id]?=some (.row z e k es frz))(hc:ad es=true){m:Nat}(hm:m=es.length){b c:PV}(hb:b.closed=true)(hcc:c.closed=true):
 bR 0 (.tuple [b,.ms id m,c]) sg=(.tuple [b,.sl (if z then .n else .a) es,c],[]) :=
 A6 (by rw[lC (n:=7) (by simp[ad,PV.closed])];simp only[cO,aZ (n:=6) hb,frzX_row (n:=5) h hc hm,aZ (n:=6) hcc]) (by simp[PV.closed,ad,hc,hb,hcc])
def cfVn:CallF:=aE (aE cf0 133 c133) 131 c131
theorem kA:CallFOk prog cfVn:=ah (ah aa c133_ok) xU
theorem ql(n:Nt)(z:Z)(l:List Sn)(hz:z=.n->l=[])(hnof:l.map nof=l):ab prog 76 [.agg (plC n z l)] [] (.ret (wh n l)) []:=by
 refine ab.ofF hTT func76 rfl rfl ?_;have hpl:=G5 n z l hz;have hltb:bD 0 [PV.agg (plC n z l)]=true:=ae 0 _ (by simp[ad,PV.closed,ay])
 have hV:wh n l=if du n l=true then(match qf n l with
  |[]=>.tuple [.sl .n [],.sl .n [],ii 5]
  |c::_=>.tuple [slC c,.sl (if decide (c.length=0)=true then .n else .a) ((re n c l c).map ii),ii 0])else .tuple [.sl .n [],.sl .n [],ii 2]:=rfl
 generalize wh n l=V at hV ⊢;cases hpb:du n l with
 |false =>
  rw[hpb,D5 (by simp)]at hV
  subst hV;rw[hpb]at hpl;repeat with_reducible first|refine nz (aj aa (ent func143 rfl) hpl hltb) ?_|apply ny;simp only[f76,eA,go_sem];rfl
  exact⟨rfl,rfl,_,rfl,aq rfl⟩
 |true =>
  rw[hpb,DZ rfl]at hV;rw[hpb]at hpl;have hP:=xn hpb;have hsm:=plan_smF hpb;have hnt:=hP.nt;have hpy:=ra n z l hz hnof hP;have hcC:∀c∈qf n l,IsCho l c:=fun c hc=>tO.1 (Gd.1 hc).1
  unfold pdsV at hpy;cases hC:qf n l with
  |nil =>
   rw[hC]at hpy hV;have hV:V=.tuple [.sl .n [],.sl .n [],ii 5]:=hV;subst hV;have hpy:ab prog 144 [.agg (plC n z l)] [] (.ret (.sl .n [])) []:=hpy;repeat with_reducible first|(fail_if_success refine am.seq (x:=.region 3 _ _) ?_);(fail_if_success show am _ (.region 3 _ _) _ _);refine nz (aj aa (ent func143 rfl) hpl hltb) ?_|apply ny;simp only[f76,eA,go_sem];rfl
   repeat with_reducible first|refine nz (aj aa (ent func144 rfl) hpy hltb) ?_|apply ny;simp only[f76,eA,go_sem];rfl
   exact⟨rfl,rfl,_,rfl,aq rfl⟩
  |cons c C =>
   have hcc:=hcC c (by rw[hC];exact DV)
   rw[hC]at hpy hV;have hpy:ab prog 144 [.agg (plC n z l)] [] (.ret (.sl .a (.agg (pdC n z l (zC c) c)::C.map (pdV n z l)))) []:=hpy;have hsl:slC c=.sl (zC c) (nn c):=rfl;have hzn:zC c=.n->c=[]:=zC_n;have hV:V=.tuple [slC c,.sl (if decide (c.length=0)=true then .n else .a) ((re n c l c).map ii),ii 0]:=hV;rw[hsl]at hV;have hl10:=hP.l10;have hc:∀x∈c,x<l.length:=hcc.lt;have hcn:c.length<=1000:=by
    have:=jG (n:=l.length) (i:=0) hcc.rise fun x hx=>⟨Ee _,hcc.lt x hx⟩
    omega
   generalize zC c=zs at hpy hzn hV;subst hV;clear hC hcC hcc;repeat with_reducible first|(fail_if_success refine am.seq (x:=.region 3 _ _) ?_);(fail_if_success show am _ (.region 3 _ _) _ _);refine nz (aj aa (ent func143 rfl) hpl hltb) ?_|apply ny;simp only[f76,eA,go_sem];rfl
   have hn0:(((((C.length+1:Nat):Int)))==0)=false:=by
    rw[EF];omega
   have hn1:(0:Int)<((C.length+1:Nat):Int):=by omega
   repeat with_reducible first|refine nz (aj aa (ent func144 rfl) hpy hltb) ?_|apply ny;simp only[f76,eA,hn0,hn1,cz,go_sem];rfl
   have hnil:=aO c;refine am.keep [25,24,23,7,6] (by simp only[go_sem];rfl) ?_
   refine am.nilRow 7 3 1 (by simp only[go_sem]) (by simp only[go_sem];rfl) (by simp only[go_sem];rfl) ?_
   generalize hT:re n c l c=T;clear hpy hpl hltb hP hpb;refine am.loop (fun i s'=>∃(z':Z) (l':List Sn) (O:List Int),T=O++re n c l' (c.drop i)∧O.length=i∧(z'=.n->l'=[])∧l'.map nof=l'∧SmF l'∧l'.length=l.length∧s'=⟨[(25,ii (i:Int)),(24,ii (c.length:Int)),(23,.sl zs (nn c)),(7,.ms 2 i),(6,.bp 1 0)],73,[.var (plC n z l) false,.var (pdC n z' l' zs c) false,.row (decide (i=0)) 3 1 (O.map ii) false]⟩) c.length ⟨z,l,[],hT.symm,rfl,hz,hnof,hsm,rfl,by first|(simp only[go_sem];first|done|rfl)|rfl⟩ ?_
   rintro i _ hi ⟨z',l',O,hO,hOl,hz1,hn1,hs1,hl1,rfl⟩;clear hT;by_cases hlt:i<c.length
   ·obtain⟨x,hx⟩:=gex hlt
    have hx':=mz hx;have hxl:x<l'.length:=by rw[hl1];exact hc x (DU hx)
    obtain⟨y,hy⟩:=gex hxl;have hy':=cU hy;have hxl':(x:Int)<(l'.length:Nat):=by omega
    have hlt':(i:Int)<c.length:=by omega
    have hzs':zs≠.n:=fun e=>by rw[hzn e]at hlt;simp at hlt
    have hz':z'≠.n:=fun e=>by have:l'=[]:=hz1 e;rw[this]at hxl;simp at hxl
    have e4:=wIs i (by omega)
    have l1:i+1<=maxLen:=by unfold maxLen;omega
    have l2:(i+1)*8<=140737488355328:=by omega
    have hd1:decide (i+1=0)=false:=by simp
    have hys:=hs1.sm y (DU hy);have hdn:=dt (n:=n) hz1 hn1;have hcl:=ay l';have hdx:=Bi x;have hl1000:l'.length<=1000:=by omega
    have hlo:Bf n l' c x=j7 n l' c x (y.most-y.least).toNat y.least:=by unfold Bf;rw[mn hy,mn hy]
    rw[aP hx,re,hlo]at hO;have hrg:=qV n l' c x (y.most-y.least).toNat y.least;repeat with_reducible first|(fail_if_success refine am.seq (x:=.region 12 _ _) ?_);(fail_if_success show am _ (.region 12 _ _) _ _);refine nz aa ?_|apply ny;simp only[f76,hx',hxl',hy',hlt',hzs',hz',cz,go_sem];rfl
    refine am.keep [10,9,25,24,23,7,6] (by simp only[go_sem];rfl) ?_
    refine am.loop (fun t s'=>j7 n l' c x (y.most-y.least).toNat y.least=j7 n l' c x ((y.most-y.least).toNat-t) (y.least+(t:Int))∧s'=⟨[(10,ii (y.least+(t:Int))),(9,ii (x:Int)),(25,ii (i:Int)),(24,ii (c.length:Int)),(23,.sl zs (nn c)),(7,.ms 2 i),(6,.bp 1 0)],73,[.var (plC n z l) false,.var (pdC n z' l' zs c) false,.row (decide (i=0)) 3 1 (O.map ii) false]⟩) (y.most-y.least).toNat ⟨by rw[Gi,show y.least+((0:Nat):Int)=y.least by omega],by first|(simp only[Int.natCast_zero,Int.add_zero,go_sem];first|done|rfl)|rfl⟩ ?_
    rintro t _ ht ⟨hlt1,rfl⟩;obtain⟨v,hv⟩:∃v,v=y.least+(t:Int):=⟨_,rfl⟩;rw[←hv]at hlt1 ⊢;have hv0:0<=v:=by omega
    have hv1:v<=1000:=by omega
    have hF:=hs1.fix x hv0 hv1;have hFn:=fixL_nof hn1 x v;have hFl:=fix_len l' x v;have hFd:na (.agg (pdC n .a (kQ l' x v) zs c))=some ⟨n,.a,kQ l' x v,zs,c⟩:=jn (p:=⟨n,.a,kQ l' x v,zs,c⟩) ⟨(fun e=>by cases e),hzn,hFn⟩
    have hFb:fitB (kQ l' x v) c=true:=hF.fitB (fun q hq=>by rw[hFl,hl1];exact hc q hq) hcn
    have hFc:=ay (kQ l' x v);have hnext:t<(y.most-y.least).toNat->lE n (kQ l' x v) c=false->j7 n l' c x (y.most-y.least).toNat y.least=j7 n l' c x ((y.most-y.least).toNat-(t+1)) (v+1):=fun hm hcb=>by
     rw[hlt1,show(y.most-y.least).toNat-t=((y.most-y.least).toNat-(t+1))+1 by omega,kl,hcb,D5 (by simp)]
    have hstop:(t<(y.most-y.least).toNat->lE n (kQ l' x v) c=true)->j7 n l' c x (y.most-y.least).toNat y.least=v:=fun hh=>by
     by_cases hm:t<(y.most-y.least).toNat
     ·rw[hlt1,show(y.most-y.least).toNat-t=((y.most-y.least).toNat-(t+1))+1 by omega,kl,hh hm,DZ rfl]
     ·rw[hlt1,show(y.most-y.least).toNat-t=0 by omega];rfl
    have e5:IntKind.i64.wrap (v+1)=v+1:=ai (by omega) (by omega)
    have hend:j7 n l' c x (y.most-y.least).toNat y.least=v->T=(O++[v])++re n c (kQ l' x v) (c.drop (i+1)):=fun h=>by rw[hO,h];simp
    clear hO hlt1;by_cases hvm:v<y.most
    ·have htm:t<(y.most-y.least).toNat:=by omega
     cases hcb:lE n (kQ l' x v) c
     ·have hnx:=hnext htm hcb
      clear hend;generalize hFF:kQ l' x v=F at hF hFn hFl hcb hFd hFb hFc;have hvt:v+1=y.least+((t+1:Nat):Int):=by omega
      repeat with_reducible first|refine nz kA ?_|apply ny;simp only[f76,cfVn,c133,c131,hx',hxl',hxl,hy',hlt',hzs',hz',hvm,hdn,hdx,hl1000,hFd,hFb,hFc,hcl,hnil,hnt,hcb,hFF,e5,cz,go_sem];rfl
      refine ak.t 3 [10,9,25,24,23,7,6] htm (by simp only[aK,an,cb,aF,go_sem]) ⟨by rw[←hvt];exact hnx,by rw[←hvt];first|(simp only[go_sem];first|done|rfl)|rfl⟩
     ·have hT:=hend (hstop fun _=>hcb)
      generalize hFF:kQ l' x v=F at hF hFn hFl hcb hFd hFb hFc hT;repeat with_reducible first|refine nz kA ?_|apply ny;simp only[f76,cfVn,c133,c131,hx',hxl',hxl,hy',hlt',hzs',hz',hvm,hdn,hdx,hl1000,hFd,hFb,hFc,hcl,hnil,hnt,hcb,hFF,e4,l1,l2,hOl,cz,go_sem];rfl
      refine ak.t 3 [25,24,23,7,6] hlt (by simp only[aK,an,cb,aF,bJ,go_sem]) ⟨.a,F,O++[v],hT,by simp[hOl],(fun e=>by cases e),hFn,hF,by omega,by rw[Ec];first|(simp only[hd1,go_sem];first|done|rfl)|rfl⟩
    ·have hT:=hend (hstop fun hm=>by omega)
     generalize hFF:kQ l' x v=F at hF hFn hFl hFd hFb hFc hT;repeat with_reducible first|refine nz kA ?_|apply ny;simp only[f76,cfVn,c133,c131,hx',hxl',hxl,hy',hlt',hzs',hz',hvm,hdn,hdx,hl1000,hFd,hFc,hFF,hcl,hnil,e4,l1,l2,hOl,cz,go_sem];rfl
     refine ak.t 3 [25,24,23,7,6] hlt (by simp only[aK,an,cb,aF,bJ,go_sem]) ⟨.a,F,O++[v],hT,by simp[hOl],(fun e=>by cases e),hFn,hF,by omega,by rw[Ec];first|(simp only[hd1,go_sem];first|done|rfl)|rfl⟩
   ·obtain rfl:i=c.length:=by omega
    rw[EL]at hO;have hO:T=O:=by rw[hO];exact Er _
    subst hO;have hlt':¬(c.length:Int)<c.length:=by omega
    repeat with_reducible first|refine nz aa ?_|apply ny;simp only[f76,hlt',cz,go_sem];rfl
    exact⟨rfl,rfl,_,rfl,At (id:=2) rfl (ac _) (by rw[DX,hOl]) hnil rfl⟩
def c76:Tb_
 |[v],sg=>match eS v with
  |some (n,_,l)=>some (.ret (wh n l),sg)
  |none=>none
 |_,_=>none
theorem Bo:al prog 76 c76:=al.of0 (ent func76 rfl) fun args sg r sg' h=>by
 unfold c76 at h;split at h <;> try (cases h;done)
 split at h <;> cases h
 rename_i n z l h1;have hn:=eV h1;obtain⟨rfl,hz⟩:=b8 h1;exact⟨_,rfl,rfl,by rw[af,fi];rfl,ql n z l hz hn⟩
end Go.Pv
