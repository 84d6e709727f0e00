import Derived.Test.YtmebonambbhehaaGreatQgStory
import Derived.Test.YtmebonambbhehaaGreatQfSort
set_option linter.all false
open Go.Proofs.Tryz
namespace Go.Pv
open Go Go.RowKit Go.Proofs
set_option maxRecDepth 200000
set_option maxHeartbeats 8000000
theorem oL{ok ok':Rl->Bool}{m:Int}:∀(rl:List Rl) (i:Nat),(∀r∈rl,ok r=ok' r)->iN ok m rl i=iN ok' m rl i
 |[],_,_=>rfl
 |r::rl,i,h=>by
  rw[iN,iN,h r DV,oL rl (i+1) fun x hx=>h x (DW _ hx)]
theorem oc{e:Int}{ok ok':Rl->Bool}{rl:List Rl}(h:∀r∈rl,ok r=ok' r):∀f l,Mj e ok rl f l=Mj e ok' rl f l
 |0,_=>rfl
 |f+1,l=>by
  rw[Mj,Mj];cases bN e l with
  |none=>rfl
  |some a =>
   show List.flatMap _ (iN ok (l.getD a 0) rl 0)=List.flatMap _ (iN ok' (l.getD a 0) rl 0);rw[oL (m:=l.getD a 0) rl 0 h];exact nK fun ir _=>by rw[oc h f]
theorem mm_get(s:Sty)(x:Int):s.mm.getD x.toNat 0=((min 1000 (manyM s.e s.num s.rl x).1:Nat):Int):=by
 unfold Sty.mm Sty.tab;rw[ja (gX 1000 (by omega)) cap_id]
 unfold manyM kF eo;rw[Ep,Ep,Fb,Eh,Nat.sub_zero];cases (fm id id s.e.toNat s.num s.rl s.num)[x.toNat]? with
 |none=>simp
 |some p=>rfl
theorem okM_okR(s:Sty):∀r∈s.rl,okM s.mm r=okR s.e s.sc s.rl r:=fun r hr=>by
 unfold okM okR okF pA;have key:∀l:List Int,(!(l.any fun x=>decide (s.mm.getD x.toNat 0=0)))=l.all fun x=>decide ((manyM s.e (s.e.toNat+s.sc.length) s.rl x).1≠0):=by
  intro l;induction l with
  |nil=>rfl
  |cons x l ih =>
   rw[GG,Fv,Bool.not_or,ih,mm_get]
   congr 1
   have:manyM s.e s.num s.rl x=manyM s.e (s.e.toNat+s.sc.length) s.rl x:=rfl
   rw[this];by_cases h1:(manyM s.e (s.e.toNat+s.sc.length) s.rl x).1=0
   ·simp[h1]
   ·have h2:((min 1000 (manyM s.e (s.e.toNat+s.sc.length) s.rl x).1:Nat):Int)≠0:=by omega
    simp only[Ei h2,Ej h1];rfl
 exact key r.to
def dersV(s:Sty):List (List PV):=(ders s.e s.sc s.rl).map fun dd=>[.agg [.sl .a ((bH dd.1).map ii),.sl .a (dd.2.map ii)]]
theorem rzIn_of{s:Sty}(hok:s.ok=true)(hP:PartsOk s.e s.sc s.rl):rzIn s.mm s.rz=true:=by
 unfold rzIn;rw[D7];intro q hq;have h1:=hP.rr q.2 (Ex.2 ⟨q,hq,rfl⟩);have h2:=nQ (Sty.ok_z hok) hq;have h3:=hP.num;simp only[D3,Eo,D7];refine⟨⟨⟨h2,h1.2.2.1⟩,h1.2.2.2.1⟩,fun x hx=>?_⟩
 have h4:=h1.2.2.2.2 x hx;rw[s.mm_len];unfold Sty.num;omega
theorem DQ{Y:Nat->List PV->List Box->Bool->List Box->Prop}(hY:∀id,YLeaf id (Y id))(s:Sty)(hok:s.ok=true)(hP:PartsOk s.e s.sc s.rl):IterG Y prog 112 (fun id=>[.yl id,.ip s.told]) (dersV s):=by
 have h1:=hP.e1;have h2:=hP.e6;have h3:=hP.s8;have h4:=hP.r10;have hr:=s.rl_len;have hw:wtF s.e [0]+1<=20000:=by
  have:wtF s.e [0]=5 ^ (s.e-0).toNat:=by unfold wtF wtM;simp
  have h5:5 ^ (s.e-0).toNat<=5 ^ 6:=FA (by omega) (by omega)
  have h6:(5:Nat) ^ 6=15625:=by decide
  omega
 have:=zL hY s.e s.zs (s.sc.map bF) (s.ln.map ii) s.mm s.zr s.rz (eM s) (Sty.ok_r hok) (rzIn_of hok hP) (by omega) ⟨by omega,by omega⟩ (by rw[s.mm_len];unfold Sty.num;omega) hw
 have e:tZ [] (Mj s.e (okM s.mm) (s.rz.map (·.2)) (wtF s.e [0]+1) [0])=dersV s:=by
  have:Mj s.e (okM s.mm) (s.rz.map (·.2)) (wtF s.e [0]+1) [0]=ders s.e s.sc s.rl:=oc (okM_okR s) _ _
  rw[this];rfl
 rw[e]at this;exact this
theorem ders_198(s:Sty)(hok:s.ok=true)(hP:PartsOk s.e s.sc s.rl):uN prog 112 (fun id=>[.yl id,.ip s.told]) (dersV s):=DQ YR.leaf s hok hP
def ddV(dd:List Nat×List Int):PV:=.agg [.sl .a ((bH dd.1).map ii),.sl .a (dd.2.map ii)]
theorem dersV_eq(s:Sty):dersV s=(ders s.e s.sc s.rl).map fun dd=>[ddV dd]:=rfl
theorem fn_lt{m:Nat}{f:FuncId}{cs:List PV}(h:ad cs=true):Pv.Lt m (.fn (.func f) [] [.ip cs]):=by
 refine .fn (fun c hc=>by cases hc) fun c hc=>?_
 simp only[D6,Eb,EM]at hc;subst hc;exact(av _ (show(PV.ip cs).closed=true from h)).mono (Ee _)
theorem varLt{m:Nat}{cs:List PV}{f:Bool}(h:ad cs=true):(Box.var cs f).Lt m:=fun c hc=>(aB _ h c hc).mono (Ee _)
theorem rowLt{m:Nat}{z f:Bool}{e:TypeId}{k:Nat}{es:List PV}(h:ad es=true):(Box.row z e k es f).Lt m:=fun c hc=>(aB _ (bj _ h) c hc).mono (Ee _)
def Az(U:List (List Int))(p:List Int):List (List Int):=if p∈U then U else U++[p]
def jl(l:List (List Int)):List (List Int):=l.foldl Az []
theorem vO(l:List (List Int))(p:List Int):jl (l++[p])=Az (jl l) p:=by unfold jl;rw[FC];rfl
theorem ix(l:List (List Int)):(jl l).Nodup∧(∀z,z∈jl l↔z∈l)∧(jl l).length<=l.length:=by
 have key:∀(l:List (List Int)) (U:List (List Int)),U.Nodup->(l.foldl Az U).Nodup∧(∀z,z∈l.foldl Az U↔z∈U∨z∈l)∧(l.foldl Az U).length<=U.length+l.length:=by
  intro l;induction l with
  |nil=>intro U h;exact⟨h,fun z=>by simp,by simp⟩
  |cons p l ih =>
   intro U h;rw[EI];by_cases hp:p∈U
   ·have e:Az U p=U:=DZ hp
    rw[e];obtain⟨a,b,c⟩:=ih U h;refine⟨a,fun z=>?_,by simp;omega⟩
    rw[b,D6];constructor
    ·rintro(h|h)
     ·exact .inl h
     ·exact .inr (.inr h)
    ·rintro(h|rfl|h)
     ·exact .inl h
     ·exact .inl hp
     ·exact .inr h
   ·have e:Az U p=U++[p]:=D5 hp
    rw[e];have hn:(U++[p]).Nodup:=by
     rw[List.nodup_append];exact⟨h,by simp,fun a ha b hb=>by simp at hb;subst hb;exact fun e=>hp (e▸ha)⟩
    obtain⟨a,b,c⟩:=ih (U++[p]) hn;refine⟨a,fun z=>?_,by simp at c ⊢;omega⟩
    rw[b,Ez,Ed,D6,or_assoc]
 obtain⟨a,b,c⟩:=key l [] FI;exact⟨a,fun z=>by rw[show(z∈jl l)=(z∈l.foldl Az [])from rfl,b];simp,by rw[ET,EG]at c;exact c⟩
theorem wK(l:List (List Int)):cg (jl l)=cg l:=tR (fG _) fun z=>by rw[n7,(ix l).2.1]
theorem wM{l:List (List Int)}(h:l.Nodup):(cg l).length=l.length:=by
 have h1:=mr h fun x hx=>(n7 l x).2 hx
 have h2:=mr (vD (fG l)) fun x hx=>(n7 l x).1 hx
 omega
def plsV(l:List (List Int)):PV:=.sl (if decide (l.length=0)=true then .n else .a) (l.map slx)
theorem qk{sg:List Box}{bi:Nat}{e:TypeId}{f:FuncId}{z:Bool}(hb:sg[bi]?=some (.row z e 1 [] false)):ab prog 90 [.ms bi 0,.fn (.func f) [] []] sg (.ret (.tuple [])) sg:=by
 refine⟨DS _,fun m G w us hR hL=>?_⟩
 obtain⟨u,v,rfl,hu,hv⟩:=args2 hL;cases hv with
 |fn hf h1 h2 =>
 rename_i us vs _ _;obtain rfl:us=#[]:=FV h1;obtain rfl:vs=#[]:=FV h2;cases hu with
 |ms hs hle ho huv =>
 rename_i m' k v;obtain⟨rfl,hml,hz,hk,h1',⟨us,hown,hLs⟩,hS⟩:=hR.box bi _ _ hs hb;have hml:m'=0:=by have:=hml;simp at this;omega
 subst hml;obtain rfl:=huv rfl;have key:∀(A:Option Addr) (c:Nat),CallsIn Fence.wide m prog 90 #[.slice A 0 c,.func (.func f) #[] #[]] w fun e' w'=>∃G',Rel G' sg w'∧Gh.leM sg.length G G'∧G'.dfr=G.dfr∧match PRes.ret (.tuple []),e' with
  |.ret v,.returned u=>Rep G' v u
  |.pan v,.panicked ch=>∃u,ch=[{ v:=u,recovered:=false }]∧Rep G' v u
  |_,_=>False:=by
  intro A c;refine CallsIn.mono (callsIn_wide.2 (AnyF.slices_SortFunc_none (P:=prog) (ρ:=sort151_ren) { sort151 with } A c _ w)) ?_
  rintro e' w' ⟨rfl,rfl⟩;exact⟨G,hR,bK _ _,rfl,.tuple rfl fun j c u hc=>by cases hc⟩
 rcases hown.2 with ⟨rfl,_⟩|⟨b,cap,cur,rfl,_⟩
 ·exact key none 0
 ·exact key _ cap
def cfX1:CallF:=aE (aE cf0 88 c149) 89 c150
theorem ij:CallFOk prog cfX1:=ah (ah aa c149_ok) c150_ok
theorem jt(p:List Int):lg p=.agg [ii p.length,ii (p.getD 0 0),ii (p.getD 1 0),ii (p.getD 2 0),ii (p.getD 3 0),ii (p.getD 4 0),ii (p.getD 5 0),ii (p.getD 6 0),ii (p.getD 7 0),ii (p.getD 8 0),ii (p.getD 9 0)]:=rfl
theorem keyB_all(U:List (List Int)):ad (U.map lg)=true:=aY sQ U
theorem plays_89(s:Sty)(hok:s.ok=true)(hst:s.story=true):ab prog 68 [.agg s.told] [] (.ret (plsV (aX s.e s.sc s.rl))) []:=by
 refine ab.ofF hTT func68 rfl rfl ?_;have hS:=Sty.story_ok hst;have hit:=ders_198 s hok hS.toPartsOk;have hct:=eM s;have hTn:=ders_len hS;have hTp:=fO hS;repeat with_reducible first|refine nz ij ?_|apply ny;simp only[f68,cfX1,c149,ap,ao,cV,lD,bl,go_sem];rfl
 refine am.keep [11,4,3] (by simp only[go_sem];rfl) ?_
 refine am.nilBox (sg':=[.var s.told false,.map [] [] false,.var [.mp 1] false,.var [.ms 4 0] false,.row true 28 1 [] false]) 3 0 28 1 rfl rfl rfl ?_;rw[dersV_eq]at hit;have hpB:aX s.e s.sc s.rl=cg (jl ((ders s.e s.sc s.rl).map (·.2))):=(wK _).symm
 rw[hpB];generalize ders s.e s.sc s.rl=T at *;obtain⟨W,hW⟩:∃W:Nat->List (List Int),W=fun i=>jl ((T.take i).map (·.2)):=⟨_,rfl⟩
 have hWe:W T.length=jl (T.map (·.2)):=by rw[hW];show jl ((T.take T.length).map (·.2))=_;rw[Eg]
 have hWn:∀i,(W i).Nodup:=fun i=>by rw[hW];exact(ix _).1
 have hWl:∀i,(W i).length<=40:=fun i=>by
  rw[hW];have:=(ix ((T.take i).map (·.2))).2.2
  rw[DX,En]at this
  show(jl ((T.take i).map (·.2))).length<=40
  omega
 have hW10:∀i,∀b∈W i,b.length<=10:=fun i b hb=>by
  rw[hW]at hb;obtain⟨d,hd,rfl⟩:=Ex.1 (((ix _).2.1 b).1 hb);exact(hTp d (Ey hd)).1
 have hWs:∀i d,T[i]?=some d->W (i+1)=Az (W i) d.2:=fun i d h=>by
  rw[hW];show jl ((T.take (i+1)).map (·.2))=_
  rw[Ev,h,Ec];exact vO _ _
 have hW0:W 0=[]:=by rw[hW];rfl
 rw[←hWe];refine am.range (L:=T.map fun dd=>[ddV dd]) (first:=[]) (cap:=[.ip s.told]) rfl (ent func112 rfl) hit ?_ ?_ ?_
  (fun i st=>st=[.var s.told false,.map ((W i).map lg) ((W i).map fun _=>.agg []) false,.var [.mp 1] false,.var [.ms 4 (W i).length] false,.row (decide ((W i).length=0)) 28 1 ((W i).map slx) false])
  (by rw[hW0];rfl) ?_ ?_ ?_
 ·intro e he
  obtain⟨l,_,rfl⟩:=Ex.1 he;rfl
 ·intro t ht
  have h9:t=12:=by simpa using ht
  subst h9
  show(12:Nat)<35
  decide
 ·intro t v hv
  obtain⟨q,hq,rfl⟩:=jk hv;simp only[D6,Eb,EM]at hq;rcases hq with rfl|rfl|rfl
  ·exact fn_lt hct
  ·exact .bp (show(3:Nat)<6 by decide)
  ·exact .bp (show(2:Nat)<6 by decide)
 ·rintro i st rfl
  refine⟨rfl,fun x hx=>?_,aD _ _ rfl⟩
  simp only[D6,Eb,EM]at hx;rcases hx with rfl|rfl|rfl|rfl|rfl
  ·exact varLt hct
  ·refine⟨fun c hc=>?_,fun c hc=>?_⟩
   ·exact(aB _ (keyB_all _) c hc).mono (Ee _)
   ·obtain⟨q,_,rfl⟩:=Ex.1 hc
    exact(av (.agg []) rfl).mono (Ee _)
  ·exact fun c hc=>by
    simp only[D6,Eb,EM]at hc;subst hc;exact .mp (show(1:Nat)<6 by decide)
  ·exact fun c hc=>by
    simp only[D6,Eb,EM]at hc;subst hc;exact .ms (show(4:Nat)<6 by decide)
  ·exact rowLt (aC _)
 ·rintro i e st he rfl
  obtain⟨d,hd,rfl⟩:∃d,T[i]?=some d∧e=[ddV d]:=by
   rw[Eh,EC]at he;obtain⟨d,a,rfl⟩:=he;exact⟨d,a,rfl⟩
  have htk:=hWs i d hd;have hUl:=hWl i;have hUn:=hWn i;have hU10:=hW10 i;have hdp:=(hTp d (DU hd)).1;refine .next _ rfl fun own ho=>?_
  rw[htk];generalize W i=U at hUl hUn hU10 ⊢;have hdd:ddV d=.agg [.sl .a ((bH d.1).map ii),.sl .a (d.2.map ii)]:=rfl;rw[hdd];generalize d.2=p at hdp ⊢;have ga0:=dS own;have ga:=dO own;have gs0:=gq own;have gs:=d8 own;have hdi:=j8 p;have hc1:=cV p;have hko:=keyB_ok p;rw[T_154,jt]at hko;have hs1:slx p=.sl .a (p.map ii):=rfl;unfold YRun;generalize hX:Box.loop _=X1;repeat with_reducible first|refine nz ij ?_|apply ny;simp only[f68,oS,FX,ga0,ga,gs0,gs,go_sem];rfl
  refine⟨rfl,own++[.var [.sl .a ((bH d.1).map ii),.sl .a (p.map ii)] false],by rw[←hX];rfl,?_⟩
  dsimp only;generalize hX2:Box.loop _=X2;by_cases hp:p∈U
  ·obtain⟨j,e1,e2⟩:=tS hdp U 0 hU10 hUn hp
   rw[T_154,jt]at e1;have e3:(U.map fun _=>PV.agg [])[0+j]?=some (.agg []):=by
    rw[EG,Eh,DT e2];rfl
   generalize 0+j=jj at e1 e3;unfold Az;rw[DZ hp];repeat with_reducible first|refine nz ij ?_|apply ny;simp only[f68,cfX1,c150,hdi,hdp,hc1,jt,hko,e1,e3,eI,xc,ga0,ga,gs0,gs,go_sem];rfl
   exact⟨rfl,[.var [.sl .a ((bH d.1).map ii),.sl .a (p.map ii)] false,.var (lg p).cells false,.var [] false],rfl⟩
  ·have e1:=l8 hdp U 0 hU10 hp
   rw[T_154,jt]at e1;have q1:(U.length+1)*24<=140737488355328:=by omega
   have q2:U.length+1<=maxLen:=by unfold maxLen;omega
   unfold Az;rw[D5 hp];repeat with_reducible first|refine nz ij ?_|apply ny;simp only[f68,cfX1,c150,hdi,hdp,hc1,jt,hko,e1,q1,q2,eI,cN,xc,ga0,ga,gs0,gs,go_sem];rfl
   refine⟨rfl,[.var [.sl .a ((bH d.1).map ii),.sl .a (p.map ii)] false,.var (lg p).cells false,.var [] false,.dead],?_⟩;have hz:decide ((U++[p]).length=0)=false:=by simp
   rw[hz,Ec,Ec,Ec,Ea];rfl
 ·rintro st rfl
  rw[DX];have hUn:=hWn T.length;have hUl:=hWl T.length;have hU10:=hW10 T.length;generalize W T.length=U at hUn hUl hU10 ⊢;have hPl:=wM hUn;have hsort:ab prog 90 [.ms 4 U.length,.fn (.func 91) [] []] [.var s.told false,.map (U.map lg) (U.map fun _=>.agg []) false,.var [.mp 1] false,.var [.ms 4 U.length] false,.row (decide (U.length=0)) 28 1 (U.map slx) false,.gone] (.ret (.tuple []))
   [.var s.told false,.map (U.map lg) (U.map fun _=>.agg []) false,.var [.mp 1] false,.var [.ms 4 U.length] false,.row (decide (U.length=0)) 28 1 ((cg U).map slx) false,.gone]:=by
   by_cases hU:U=[]
   ·subst hU
    exact qk (bi:=4) rfl
   ·have hd:decide (U.length=0)=false:=by simp[hU]
    rw[hd];exact sort_151 (bi:=4) hU hUn (by omega) (fun x hx=>by have:=hU10 x hx;unfold maxLen;omega) rfl
  have hsl:SameLoops [.var s.told false,.map (U.map lg) (U.map fun _=>.agg []) false,.var [.mp 1] false,.var [.ms 4 U.length] false,.row (decide (U.length=0)) 28 1 (U.map slx) false,.gone] [.var s.told false,.map (U.map lg) (U.map fun _=>.agg []) false,.var [.mp 1] false,.var [.ms 4 U.length] false,.row (decide (U.length=0)) 28 1 ((cg U).map slx) false,.gone]:=aD _ _ rfl
  rw[show plsV (cg U)=.sl (if decide (U.length=0)=true then .n else .a) ((cg U).map slx)by unfold plsV;rw[hPl]]
  repeat with_reducible first|refine nz (ar aa (ent func90 rfl) hsort hsl) ?_|apply ny;simp only[f68,cp,go_sem];rfl
  refine⟨rfl,rfl,_,rfl,?_⟩;exact leave_row (id:=4) rfl (aC _) (by rw[DX,hPl])
def decTl:PV->Option Sty
 |.agg [a,b,c,.sl .a ms,.sl .a ls]=>match cS (.agg [a,b,c]),dM ld ms,dM ld ls with
  |some s,some m,some l=>if m=s.mm∧l=s.ln∧s.story=true then some s else none
  |_,_,_=>none
 |_=>none
theorem rY{v:PV}{s:Sty}(h:decTl v=some s):v=.agg s.told∧s.ok=true∧s.story=true:=by
 unfold decTl at h;split at h <;> try (cases h;done)
 split at h <;> try (cases h;done)
 rename_i h1 h2 h3;split at h <;> cases h
 rename_i hc;obtain⟨e,hok⟩:=aM h1;obtain rfl:=bv pw h2;obtain rfl:=bv pw h3;obtain⟨e1,e2,e3⟩:=hc;subst e1;subst e2;unfold encSt at e;injection e with e
 injection e with ea e
 injection e with eb e
 injection e with ec _
 subst ea;subst eb;subst ec;exact⟨rfl,hok,e3⟩
theorem ltB_told(m:Nat)(s:Sty):(PV.agg s.told).ltB m=true:=bq m _ (eM s)
def c89:Tb_
 |[v],sg=>match decTl v with
  |some s=>some (.ret (plsV (aX s.e s.sc s.rl)),sg)
  |none=>none
 |_,_=>none
theorem c89_ok:dU prog 68 c89:=dU.of0 (ent func68 rfl) fun args sg r sg' h=>by
 unfold c89 at h;split at h <;> try (cases h;done)
 split at h <;> cases h
 rename_i s h1;obtain⟨rfl,hok,hst⟩:=rY h1;exact⟨_,rfl,rfl,by rw[af,ltB_told];rfl,plays_89 s hok hst⟩
end Go.Pv
