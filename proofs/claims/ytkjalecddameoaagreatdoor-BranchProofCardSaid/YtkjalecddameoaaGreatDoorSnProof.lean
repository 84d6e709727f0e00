import Derived.Test.YtkjalecddameoaaGreatDoorSmEve
import Derived.Test.YtkjalecddameoaaGreatDoorSmFits
import Derived.Test.YtkjalecddameoaaGreatDoorSmTab
import Derived.Test.YtkjalecddameoaaGreatDoorQjPlays
import Derived.Test.YtkjalecddameoaaGreatDoorSoMore
set_option linter.all false
open List (length_map)
namespace Go.Pv
open Go Go.RowKit Go.Proofs
set_option maxRecDepth 200000
set_option maxHeartbeats 8000000
theorem fitL_take{n:Nt}{sc:List Sn}{P:List (List Int)}{i:Nat}{p:List Int}(h:P[i]?=some p):jf n sc (P.take (i+1))=jf n sc (P.take i)++if cX n sc p=4 then[p]else[]:=by
 unfold jf;rw[List.take_add_one,h,List.filter_append]
 congr 1
 show[p].filter _=_
 rw[List.filter_cons,List.filter_nil];by_cases h4:cX n sc p=4 <;> simp[h4]
theorem am.cutK{P:Program}{c y:Code}{st:St}{Q:Out->St->Prop}(ks:List Nat){tm':List (Nat×PV)}{n':Nat}{sg':List Box}(h:am P c st (fun o s=>o=.normal∧iK ks s.tm=tm'∧s.n=n'∧s.sg=sg'))(hq:am P y ⟨tm',n',sg'⟩ Q):am P (.seq c y) st Q :=
 am.seq (h.mono fun o s ⟨e1,e2,e3,e4⟩=>by
  subst e1;obtain⟨tm,n,sg⟩:=s;cases e3;cases e4;exact am.keep ks e2 hq)
theorem arePlay{s:Sty}(hst:s.story=true){p:List Int}(hp:p∈aX s.e s.sc s.rl):Do s.sc.length p 0=true:=by
 have hf:=(Sty.story_ok hst).plays_fine p hp;unfold Do;rw[decide_eq_true hf.2.1,Bool.true_and,List.all_eq_true];exact fun x hx=>bm.2 (by have:=hf.2.2 x hx;omega)
def cfN6:aG:=aE (aE (aE (aE (aE (aE (aE (aE (aE (aE (aE (aE C9 44 c44) 62 c62) 46 c46) 63 c63) 64 c64) 65 c65) 66 c66) 67 c67) 68 c68) 69 c69) 70 c70) 71 c71
theorem cfN6_ok(hk:al Tryz.prog 21 c21):au Tryz.prog cfN6:=ah (ah (ah (ah (ah (ah (ah (ah (ah (ah (ah (ah (cfLc_ok hk) c44_ok) c62_ok) c46_ok) c63_ok) c64_ok) c65_ok) Dz) c67_ok) c68_ok) c69_ok) c70_ok) c71_ok
theorem law_proof(hk:al Tryz.prog 21 c21)(s:Sty)(hok:s.ok=true)(n:Nt)(w:Int)(zc:Z)(c:List Int)(hzc:zOk zc (c.map ii)=true)(zk:Z)(ks:List Int)(hzk:zOk zk (ks.map ii)=true):ab Tryz.prog 16 [.agg s.cells,.agg (ntC n),ii w,.sl zc (c.map ii),.sl zk (ks.map ii)] [] (.ret (.bool true)) []:=by
 refine ab.of0 hTT Tryz.func16 rfl rfl ?_;have hd:=aS s hok;have hdn:gJ (.agg (ntC n))=some n:=fF n;have h1:=ap s.sc;have h2:=ao s.rz;have hgt:∀a b:Int,(a>b)=(b<a):=fun _ _=>rfl
 have hge:∀a b:Int,(a≥b)=(b<=a):=fun _ _=>rfl
 have hdc:aN (.sl zc (c.map ii))=some c:=aI hzc;have hcc:=ac c;have hdk:aN (.sl zk (ks.map ii))=some ks:=aI hzk;have hck:=ac ks;have n00:((0:Int) != 0)=false:=rfl;cases h0:ub s
 ·repeat with_reducible first|apply nx|apply wQ rfl|(first|apply wV|apply wW|apply wX|apply wy (cfN6_ok hk);kernel_rfl);simp only[Tryz.f16,cfN6,C9,C7,C8,c19,c21,hd,h0,h1,h2,go_sem];rfl|refine wz (cfN6_ok hk) ?_|refine wa ⟨by kernel_rfl,?_⟩
  exact⟨rfl,rfl,_,rfl,rfl⟩
 cases hst:s.story
 ·repeat with_reducible first|apply nx|apply wQ rfl|(first|apply wV|apply wW|apply wX|apply wy (cfN6_ok hk);kernel_rfl);simp only[Tryz.f16,cfN6,C9,C7,C8,c19,c20,c21,hd,h0,hst,h1,h2,go_sem];rfl|refine wz (cfN6_ok hk) ?_|refine wa ⟨by kernel_rfl,?_⟩
  exact⟨rfl,rfl,_,rfl,rfl⟩
 cases he:evB n
 ·repeat with_reducible first|apply nx|apply wQ rfl|(first|apply wV|apply wW|apply wX|apply wy (cfN6_ok hk);kernel_rfl);simp only[Tryz.f16,cfN6,C9,C7,C8,c19,c20,c21,c46,hd,hdn,h0,hst,he,h1,h2,go_sem];rfl|refine wz (cfN6_ok hk) ?_|refine wa ⟨by kernel_rfl,?_⟩
  exact⟨rfl,rfl,_,rfl,rfl⟩
 by_cases hl:c.length<=12
 case neg =>
  have hl':decide (c.length<=12)=false:=decide_eq_false hl;repeat with_reducible first|apply nx|apply wQ rfl|(first|apply wV|apply wW|apply wX|apply wy (cfN6_ok hk);kernel_rfl);simp only[Tryz.f16,cfN6,C9,C7,C8,c19,c20,c21,c30,c46,hd,hdn,hdc,hl',hcc,h0,hst,he,h1,h2,go_sem];rfl|refine wz (cfN6_ok hk) ?_|refine wa ⟨by kernel_rfl,?_⟩
  exact⟨rfl,rfl,_,rfl,rfl⟩
 have hl':decide (c.length<=12)=true:=decide_eq_true hl;by_cases hm:ks.length<=12
 case neg =>
  have hm':decide (ks.length<=12)=false:=decide_eq_false hm;repeat with_reducible first|apply nx|apply wQ rfl|(first|apply wV|apply wW|apply wX|apply wy (cfN6_ok hk);kernel_rfl);simp only[Tryz.f16,cfN6,C9,C7,C8,c19,c20,c21,c30,c46,hd,hdn,hdc,hl',hdk,hm',hcc,hck,h0,hst,he,h1,h2,go_sem];rfl|refine wz (cfN6_ok hk) ?_|refine wa ⟨by kernel_rfl,?_⟩
  exact⟨rfl,rfl,_,rfl,rfl⟩
 have hm':decide (ks.length<=12)=true:=decide_eq_true hm;have hO:=Sty.story_ok hst;have k2:s.sc.length<=1000:=by have:=hO.s8;omega
 have hse:(s.story&&evB n)=true:=by rw[hst,he];rfl
 have hlen:=co hO;have hP:yz s=.tuple [.sl (plZ (aX s.e s.sc s.rl)) ((aX s.e s.sc s.rl).map slx),ii 0]:=by unfold yz;rw[hst];rfl
 have hV:versR s n=.tuple [.sl (plZ (aX s.e s.sc s.rl)) ((versB s n).map ii),ii 0]:=by
  unfold versR;rw[if_pos hse];unfold isVd versB plZ;rw[length_map]
 have hvg:∀i p,(aX s.e s.sc s.rl)[i]?=some p->((versB s n).map ii)[i]?=some (ii (cX n s.sc p)):=fun i p h=>by
  unfold versB;rw[List.map_map];exact aw h
 have hvl:((versB s n).map ii).length=(aX s.e s.sc s.rl).length:=by unfold versB;rw[length_map,length_map]
 have hcv:=ac (versB s n);have hvd:∀p∈aX s.e s.sc s.rl,Vd s n p:=fun p hp=>pY hok hst he hp
 have har:∀p∈aX s.e s.sc s.rl,Do s.sc.length p 0=true:=fun p hp=>arePlay hst hp
 have hcp:=aC (aX s.e s.sc s.rl);have hzn:plZ (aX s.e s.sc s.rl)=.n->aX s.e s.sc s.rl=[]:=plZ_n;have hcase:=CJ (n:=n) hok hst he;generalize versB s n=VV at *;generalize hVe:VV.map ii=V at *;generalize plZ (aX s.e s.sc s.rl)=zP at *;generalize aX s.e s.sc s.rl=P at *;have g40:¬(40:Int)<(P.length:Int):=by omega
 have gVP:((P.length:Int) != (P.length:Int))=false:=by simp
 obtain⟨ee,X,Y,W,hE,hx1,hx2,hx3,hee⟩:∃(ee:Int) (X Y W:PV),BO s n=.tuple [X,Y,W,ii ee]∧X.closed=true∧Y.closed=true∧W.closed=true∧((ee=5∧jf n s.sc P=[])∨(ee=0∧∃p r,jf n s.sc P=p::r∧X=slx p∧p.length<=maxLen)):=by
  rcases hcase with ⟨hF,hE⟩|⟨p,r,c',C,hF,hv,hv4,hpm,hcan,hE⟩
  ·exact⟨5,_,_,_,hE,rfl,rfl,rfl,.inl ⟨rfl,hF⟩⟩
  ·exact⟨0,_,_,_,hE,ac p,aO c',ac _,.inr ⟨rfl,p,r,hF,rfl,by have:=hv.p2;unfold maxLen;omega⟩⟩
 clear hcase;repeat with_reducible first|(fail_if_success refine am.seq (x:=.region 6 _ _) ?_);apply nx|apply wQ rfl|(first|apply wV|apply wW|apply wX|apply wy (cfN6_ok hk);kernel_rfl);simp only[Tryz.f16,cfN6,C9,C7,C8,c19,c20,c23,c30,c44,c46,c62,hd,hdn,hdc,hl',hdk,hm',hcc,hck,h0,hst,he,hP,hV,hE,hx1,hx2,hx3,hcp,hcv,h1,h2,go_sem];rfl|(fail_if_success show am _ (.region 6 _ _) _ _);refine wz (cfN6_ok hk) ?_|refine wa ⟨by kernel_rfl,?_⟩
 have n50:((5:Int) != 0)=true:=rfl;have n55:((5:Int) != 5)=false:=rfl;refine am.cutK [96,18,15,13,11,6,5,2,3,4] (tm':=[(96,.bool false),(18,ii ee),(15,X),(13,.sl zP V),(11,.sl zP (P.map slx)),(6,.bp 1 0),(5,.bp 0 0),(2,ii w),(3,.sl zc (c.map ii)),(4,.sl zk (ks.map ii))]) (n':=268) (sg':=[.var s.cells false,.var (ntC n) false]) ?_ ?_
 ·rcases hee with ⟨rfl,_⟩|⟨rfl,_⟩
  ·repeat with_reducible first|apply nx|apply wQ rfl|(first|apply wV|apply wW|apply wX|apply wy aa;kernel_rfl);simp only[Tryz.f16,n00,n50,n55,g40,gVP,hgt,hvl,length_map,go_sem];rfl|refine wz aa ?_|refine wa ⟨by kernel_rfl,?_⟩
   exact⟨rfl,rfl,rfl,rfl⟩
  ·repeat with_reducible first|apply nx|apply wQ rfl|(first|apply wV|apply wW|apply wX|apply wy aa;kernel_rfl);simp only[Tryz.f16,n00,g40,gVP,hgt,hvl,length_map,go_sem];rfl|refine wz aa ?_|refine wa ⟨by kernel_rfl,?_⟩
   exact⟨rfl,rfl,rfl,rfl⟩
 repeat with_reducible first|apply nx|apply wQ rfl|(first|apply wV|apply wW|apply wX|apply wy aa;kernel_rfl);simp only[Tryz.f16,go_sem];rfl|refine wz aa ?_|refine wa ⟨by kernel_rfl,?_⟩
 refine am.keep [20,19,18,15,13,11,6,5,2,3,4] (by simp only[go_sem];rfl) ?_
 have hXl:X.ltB 2=true:=bq 2 _ hx1;have hls2:=fun L=>ae 2 _ (aC L)
 have hVl2:bD 2 V=true:=ae 2 _ hcv;refine am.loop (fun i s'=>∃b:Int,((b = -1∧jf n s.sc (P.take i)=[])∨∃(j:Nat) (p:List Int) (r:List (List Int)),b=(j:Int)∧P[j]?=some p∧jf n s.sc (P.take i)=p::r)∧s'=⟨[(20,ii (i:Int)),(19,ii b),(18,ii ee),(15,X),(13,.sl zP V),(11,.sl zP (P.map slx)),(6,.bp 1 0),(5,.bp 0 0),(2,ii w),(3,.sl zc (c.map ii)),(4,.sl zk (ks.map ii))],268,[.var s.cells false,.var (ntC n) false]⟩) P.length ⟨-1,.inl ⟨rfl,rfl⟩,by first|(simp only[go_sem];done)|(simp only[go_sem];rfl)|rfl⟩ ?_
 rintro i _ hi ⟨b,hR,rfl⟩;by_cases hlt:i<P.length
 ·obtain⟨p,hp⟩:∃p,P[i]?=some p:=⟨_,List.getElem?_eq_getElem hlt⟩
  have hp':(P.map slx)[i]?=some (.sl .a (p.map ii)):=aw hp;have hv':=hvg i p hp;have hlt':(i:Int)<P.length:=by omega
  have hzP:zP≠.n:=fun e=>by rw[hzn e]at hlt;simp at hlt
  have e4:IntKind.i64.wrap ((i:Int)+1)=((i+1:Nat):Int):=ai (by omega) (by omega)
  have hvr:=verd_range n s.sc p;have hdp:aN (.sl .a (p.map ii))=some p:=aI rfl;have hcp':=ac p;have hpm:=List.mem_of_getElem? hp;have hpa:=har p hpm;have hpl:p.length<=100000:=by have:=(hvd p hpm).p2;omega
  have hft:=fitL_take (n:=n) (sc:=s.sc) hp;generalize cX n s.sc p=v at hv' hvr hft;have w1:¬v<1:=by omega
  have w2:¬4<v:=by omega
  by_cases h4:v=4
  ·have h4':(v==4)=true:=beq_iff_eq.2 h4
   rw[if_pos h4]at hft;rcases hR with ⟨rfl,hF⟩|⟨j,q,r,rfl,hq,hF⟩
   ·have m1:(-1:Int)<0:=by omega
    rw[hF]at hft;repeat with_reducible first|apply nx|apply wQ rfl|(first|apply wV|apply wW|apply wX|apply wy (cfN6_ok hk);kernel_rfl);simp only[Tryz.f16,cfN6,C9,C7,c34,hd,hdp,hpa,hpl,k2,hlt',hp',hv',hzP,e4,w1,w2,h4',m1,hgt,hvl,hcp',h1,h2,length_map,go_sem];rfl|refine wz (cfN6_ok hk) ?_|refine wa ⟨by kernel_rfl,?_⟩
    refine ak.t 2 [20,19,18,15,13,11,6,5,2,3,4] hlt (by simp only[aA,aF,an,az,hXl,hls2,hVl2,go_sem]) ⟨i,.inr ⟨i,p,[],rfl,hp,hft⟩,by first|(simp only[go_sem];done)|(simp only[go_sem];rfl)|rfl⟩
   ·have m1:¬(j:Int)<0:=by omega
    rw[hF]at hft;repeat with_reducible first|apply nx|apply wQ rfl|(first|apply wV|apply wW|apply wX|apply wy (cfN6_ok hk);kernel_rfl);simp only[Tryz.f16,cfN6,C9,C7,c34,hd,hdp,hpa,hpl,k2,hlt',hp',hv',hzP,e4,w1,w2,h4',m1,hgt,hvl,hcp',h1,h2,length_map,go_sem];rfl|refine wz (cfN6_ok hk) ?_|refine wa ⟨by kernel_rfl,?_⟩
    refine ak.t 2 [20,19,18,15,13,11,6,5,2,3,4] hlt (by simp only[aA,aF,an,az,hXl,hls2,hVl2,go_sem]) ⟨j,.inr ⟨j,q,r++[p],rfl,hq,hft⟩,by first|(simp only[go_sem];done)|(simp only[go_sem];rfl)|rfl⟩
  ·have h4':(v==4)=false:=beq_eq_false_iff_ne.2 h4
   rw[if_neg h4,List.append_nil]at hft;repeat with_reducible first|apply nx|apply wQ rfl|(first|apply wV|apply wW|apply wX|apply wy (cfN6_ok hk);kernel_rfl);simp only[Tryz.f16,cfN6,C9,C7,c34,hd,hdp,hpa,hpl,k2,hlt',hp',hv',hzP,e4,w1,w2,h4',hgt,hvl,hcp',h1,h2,length_map,go_sem];rfl|refine wz (cfN6_ok hk) ?_|refine wa ⟨by kernel_rfl,?_⟩
   refine ak.t 2 [20,19,18,15,13,11,6,5,2,3,4] hlt (by simp only[aA,aF,an,az,hXl,hls2,hVl2,go_sem]) ⟨b,by rw[hft];exact hR,by first|(simp only[go_sem];done)|(simp only[go_sem];rfl)|rfl⟩
 have hlt':¬(i:Int)<P.length:=by omega
 obtain rfl:i=P.length:=by omega
 rw[List.take_length]at hR;repeat with_reducible first|(fail_if_success refine am.seq (x:=.region 16 _ _) ?_);apply nx|apply wQ rfl|(first|apply wV|apply wW|apply wX|apply wy aa;kernel_rfl);simp only[Tryz.f16,hlt',hvl,length_map,go_sem];rfl|(fail_if_success show am _ (.region 16 _ _) _ _);refine wz aa ?_|refine wa ⟨by kernel_rfl,?_⟩
 refine am.cutK [151,13,11,6,5,2,3,4] (tm':=[(151,.bool false),(13,.sl zP V),(11,.sl zP (P.map slx)),(6,.bp 1 0),(5,.bp 0 0),(2,ii w),(3,.sl zc (c.map ii)),(4,.sl zk (ks.map ii))]) (n':=268) (sg':=[.var s.cells false,.var (ntC n) false]) ?_ ?_
 ·rcases hee with ⟨rfl,hF⟩|⟨rfl,p,r,hF,rfl,hpl⟩
  ·rcases hR with ⟨rfl,_⟩|⟨j,q,r,_,_,hF2⟩
   case inr=>rw[hF]at hF2;cases hF2
   have m1:¬(0:Int) <= -1:=by omega
   have e50:((5:Int)==0)=false:=rfl;have bff:(false != false)=false:=rfl;repeat with_reducible first|apply nx|apply wQ rfl|(first|apply wV|apply wW|apply wX|apply wy aa;kernel_rfl);simp only[Tryz.f16,m1,e50,bff,hge,go_sem];rfl|refine wz aa ?_|refine wa ⟨by kernel_rfl,?_⟩
   exact⟨rfl,rfl,rfl,rfl⟩
  ·rcases hR with ⟨_,hF2⟩|⟨j,q,r2,rfl,hq,hF2⟩
   case inl=>rw[hF]at hF2;cases hF2
   obtain rfl:p=q:=by rw[hF]at hF2;cases hF2;rfl
   have m1:(0:Int)<=(j:Int):=by omega
   have e00:((0:Int)==0)=true:=rfl;have btt:(true != true)=false:=rfl;have hjl:=(List.getElem?_eq_some_iff.1 hq).1;have hjl':(j:Int)<P.length:=by omega
   have hzP:zP≠.n:=fun e=>by rw[hzn e]at hjl;simp at hjl
   have hq':(P.map slx)[j]?=some (.sl .a (p.map ii)):=aw hq;have hsx:slx p=.sl .a (p.map ii):=rfl;have hdp:aN (.sl .a (p.map ii))=some p:=aI rfl;have hcp':=ac p;have hpe:decide (p=p)=true:=decide_eq_true rfl;rw[hsx];repeat with_reducible first|apply nx|apply wQ rfl|(first|apply wV|apply wW|apply wX|apply wy (cfN6_ok hk);kernel_rfl);simp only[Tryz.f16,cfN6,C9,yD,m1,e00,btt,hge,hjl',hzP,hq',hdp,hcp',hpe,hpl,length_map,go_sem];rfl|refine wz (cfN6_ok hk) ?_|refine wa ⟨by kernel_rfl,?_⟩
   exact⟨rfl,rfl,rfl,rfl⟩
 clear hee hR hE hx1 hx2 hx3 hXl;by_cases hw0:w<0
 ·repeat with_reducible first|apply nx|apply wQ rfl|(first|apply wV|apply wW|apply wX|apply wy (cfN6_ok hk);kernel_rfl);simp only[Tryz.f16,cfN6,C9,C7,C8,c21,hw0,go_sem];rfl|refine wz (cfN6_ok hk) ?_|refine wa ⟨by kernel_rfl,?_⟩
  exact⟨rfl,rfl,_,rfl,rfl⟩
 by_cases hw1:(P.length:Int)<=w
 ·repeat with_reducible first|apply nx|apply wQ rfl|(first|apply wV|apply wW|apply wX|apply wy (cfN6_ok hk);kernel_rfl);simp only[Tryz.f16,cfN6,C9,C7,C8,c21,hw0,hw1,hge,length_map,go_sem];rfl|refine wz (cfN6_ok hk) ?_|refine wa ⟨by kernel_rfl,?_⟩
  exact⟨rfl,rfl,_,rfl,rfl⟩
 obtain⟨k,rfl⟩:∃k:Nat,w=(k:Int):=⟨w.toNat,by omega⟩
 obtain⟨q,hq⟩:∃q,P[k]?=some q:=⟨_,List.getElem?_eq_getElem (by omega)⟩
 have hq':(P.map slx)[k]?=some (.sl .a (q.map ii)):=aw hq;have hv':=hvg k q hq;have hqm:=List.mem_of_getElem? hq;have hqv:=hvd q hqm;have hpd:=pd_to hqv;have hkl':(k:Int)<P.length:=by omega
 have hzP:zP≠.n:=fun e=>by rw[hzn e]at hq;cases hq
 have hdq:aN (.sl .a (q.map ii))=some q:=aI rfl;have hcq:=ac q;clear hvg har hvd hlen hcp;obtain⟨form,hform⟩:∃f,dT s.sc 0 q=f:=⟨_,rfl⟩;obtain⟨ord,hord⟩:∃f,un (scn s.sc q)=f:=⟨_,rfl⟩;obtain⟨v,hv⟩:∃v,cX n s.sc q=v:=⟨_,rfl⟩;rw[hv]at hv';have hvc:(form=false∧v=1)∨(form=true∧ord=false∧v=2)∨(form=true∧ord=true∧v=3∧iL n (scn s.sc q)=false)∨(form=true∧ord=true∧v=4):=by
  rw[←hform,←hord,←hv];cases hf:dT s.sc 0 q with
  |false=>exact .inl ⟨rfl,verd_form.2 hf⟩
  |true =>
   cases ho:un (scn s.sc q)with
   |false=>exact .inr (.inl ⟨rfl,rfl,verd_ord.2 ⟨hf,ho⟩⟩)
   |true =>
    cases hp:iL n (scn s.sc q)with
    |false=>exact .inr (.inr (.inl ⟨rfl,rfl,verd_night.2 ⟨hf,ho,hp⟩,rfl⟩))
    |true=>exact .inr (.inr (.inr ⟨rfl,rfl,Br.2 ⟨hf,ho,hp⟩⟩))
 have e21:((2:Int)==1)=false:=rfl;have e31:((3:Int)==1)=false:=rfl;have e32:((3:Int)==2)=false:=rfl;have e41:((4:Int)==1)=false:=rfl;have e42:((4:Int)==2)=false:=rfl;have e43:((4:Int)==3)=false:=rfl;have e12:((1:Int)==2)=false:=rfl;have e13:((1:Int)==3)=false:=rfl;have e14:((1:Int)==4)=false:=rfl;have bff:(false != false)=false:=rfl;have btt:(true != true)=false:=rfl;have hpV:pM n (scn s.sc q)=.agg (plC n (if decide ((scn s.sc q).length=0)=true then .n else .a) (scn s.sc q)):=rfl;have hdp:=kr n (scn s.sc q);rw[hpV]at hdp;have hccp:=ay (scn s.sc q);generalize (if decide ((scn s.sc q).length=0)=true then Z.n else Z.a)=zL at hdp hpV;have hpl:du n ((scn s.sc q).map nof)=ord:=by rw[oN,hqv.plan,hord]
 repeat with_reducible first|(fail_if_success refine am.seq (x:=.region 21 _ _) ?_);apply nx|apply wQ rfl|(first|apply wV|apply wW|apply wX|apply wy (cfN6_ok hk);kernel_rfl);simp only[Tryz.f16,cfN6,C9,C7,c63,c64,hd,hdn,hdq,hpd,hform,hord,hw0,hw1,hge,hkl',hzP,hq',hcq,h1,h2,length_map,go_sem];rfl|(fail_if_success show am _ (.region 21 _ _) _ _);refine wz (cfN6_ok hk) ?_|refine wa ⟨by kernel_rfl,?_⟩
 refine am.cutK [193,22,21,13,11,6,5,2,3,4] (tm':=[(193,.bool false),(22,.bool ord),(21,.bool form),(13,.sl zP V),(11,.sl zP (P.map slx)),(6,.bp 1 0),(5,.bp 0 0),(2,ii (k:Int)),(3,.sl zc (c.map ii)),(4,.sl zk (ks.map ii))]) (n':=268) (sg':=[.var s.cells false,.var (ntC n) false,.dead,.dead]) ?_ ?_
 ·rcases hvc with ⟨rfl,rfl⟩|⟨rfl,rfl,rfl⟩|⟨rfl,rfl,rfl,_⟩|⟨rfl,rfl,rfl⟩
  ·repeat with_reducible first|apply nx|apply wQ rfl|(first|apply wV|apply wW|apply wX|apply wy aa;kernel_rfl);simp only[Tryz.f16,hkl',hzP,hv',hvl,e12,btt,bff,beq_self_eq_true,length_map,go_sem];rfl|refine wz aa ?_|refine wa ⟨by kernel_rfl,?_⟩
   exact⟨rfl,rfl,rfl,rfl⟩
  ·repeat with_reducible first|apply nx|apply wQ rfl|(first|apply wV|apply wW|apply wX|apply wy aa;kernel_rfl);simp only[Tryz.f16,hkl',hzP,hv',hvl,e21,btt,bff,beq_self_eq_true,length_map,go_sem];rfl|refine wz aa ?_|refine wa ⟨by kernel_rfl,?_⟩
   exact⟨rfl,rfl,rfl,rfl⟩
  ·repeat with_reducible first|apply nx|apply wQ rfl|(first|apply wV|apply wW|apply wX|apply wy aa;kernel_rfl);simp only[Tryz.f16,hkl',hzP,hv',hvl,e31,e32,btt,bff,beq_self_eq_true,length_map,go_sem];rfl|refine wz aa ?_|refine wa ⟨by kernel_rfl,?_⟩
   exact⟨rfl,rfl,rfl,rfl⟩
  ·repeat with_reducible first|apply nx|apply wQ rfl|(first|apply wV|apply wW|apply wX|apply wy aa;kernel_rfl);simp only[Tryz.f16,hkl',hzP,hv',hvl,e41,e42,btt,bff,beq_self_eq_true,length_map,go_sem];rfl|refine wz aa ?_|refine wa ⟨by kernel_rfl,?_⟩
   exact⟨rfl,rfl,rfl,rfl⟩
 repeat with_reducible first|(fail_if_success refine am.seq (x:=.region 24 _ _) ?_);apply nx|apply wQ rfl|(first|apply wV|apply wW|apply wX|apply wy (cfN6_ok hk);kernel_rfl);simp only[Tryz.f16,cfN6,C9,C7,c65,hd,hdn,hdq,hpd,hkl',hzP,hq',hpV,hdp,hcq,hccp,h1,h2,length_map,go_sem];rfl|(fail_if_success show am _ (.region 24 _ _) _ _);refine wz (cfN6_ok hk) ?_|refine wa ⟨by kernel_rfl,?_⟩
 refine am.keep [23,21,13,2,3,4] (by simp only[go_sem];rfl) ?_
 have hl10:c.length<=1000:=by omega
 have hk10:ks.length<=1000:=by omega
 have hln:(scn s.sc q).length<=1000:=by rw[ko hqv.rg];have:=hqv.p2;omega
 have hln2:((scn s.sc q).map nof).length<=1000:=by rw[length_map];exact hln
 have hlm:((scn s.sc q).map nof).length=(scn s.sc q).length:=length_map ..;cases ord with
 |false =>
  repeat with_reducible first|apply nx|apply wQ rfl|(first|apply wV|apply wW|apply wX|apply wy (cfN6_ok hk);kernel_rfl);simp only[Tryz.f16,cfN6,C9,C7,C8,c21,c66,hdp,hpl,hccp,go_sem];rfl|refine wz (cfN6_ok hk) ?_|refine wa ⟨by kernel_rfl,?_⟩
  exact⟨rfl,rfl,_,rfl,rfl⟩
 |true =>
  cases hri:CV (scn s.sc q).length (-1) c with
  |false =>
   repeat with_reducible first|apply nx|apply wQ rfl|(first|apply wV|apply wW|apply wX|apply wy (cfN6_ok hk);kernel_rfl);simp only[Tryz.f16,cfN6,C9,C7,C8,c21,c66,c67,hdp,hpl,hdc,hl10,hln,hln2,hlm,hri,hccp,hcc,go_sem];rfl|refine wz (cfN6_ok hk) ?_|refine wa ⟨by kernel_rfl,?_⟩
   exact⟨rfl,rfl,_,rfl,rfl⟩
  |true =>
   have hri2:CV ((scn s.sc q).map nof).length (-1) c=true:=by rw[hlm];exact hri
   obtain⟨hnn,hd1,hnd,hlt0⟩:=Dq hri2 (bd hzc);have hcm:(c.map Int.toNat).length<=1000:=by rw[length_map];exact hl10
   cases hch:chB ((scn s.sc q).map nof) 0 (c.map Int.toNat)with
   |false =>
    generalize c.map Int.toNat=c' at *;repeat with_reducible first|apply nx|apply wQ rfl|(first|apply wV|apply wW|apply wX|apply wy (cfN6_ok hk);kernel_rfl);simp only[Tryz.f16,cfN6,C9,C7,C8,c21,c66,c67,c68,hdp,hpl,hdc,hd1,hl10,hcm,hln,hln2,hlm,hri,hch,hccp,hcc,go_sem];rfl|refine wz (cfN6_ok hk) ?_|refine wa ⟨by kernel_rfl,?_⟩
    exact⟨rfl,rfl,_,rfl,rfl⟩
   |true =>
    have hci:choI ((scn s.sc q).map nof) c=true:=by unfold choI;rw[hri2,hch];rfl
    have hcho:=choI_cho hci;have hcanR:canR n ((scn s.sc q).map nof) c=.tuple [.bool (lE n ((scn s.sc q).map nof) (c.map Int.toNat)),ii 0]:=by unfold canR;rw[hpl,hci];rfl
    have hfitsR:∀x,Db ((scn s.sc q).map nof) (c.map Int.toNat) ks=true->ks.length=(c.map Int.toNat).length->lE n (CM ((scn s.sc q).map nof) (c.map Int.toNat) ks) (c.map Int.toNat)=x->C5 n ((scn s.sc q).map nof) c ks=.tuple [.bool x,ii 0]:=fun x a b e=>by
     unfold C5;rw[hpl,hci,decide_eq_true (by rw[b,length_map]),a,e];rfl
    have hposs:iL n (scn s.sc q)=false->lE n ((scn s.sc q).map nof) (c.map Int.toNat)=false:=fun e=>by
     cases h:lE n ((scn s.sc q).map nof) (c.map Int.toNat)with
     |false=>rfl
     |true =>
      have:iL n ((scn s.sc q).map nof)=true:=poss_iff.2 ⟨_,hcho,h⟩
      rw[poss_nof,e]at this;cases this
    have hfc:Db ((scn s.sc q).map nof) (c.map Int.toNat) ks=true->lE n (CM ((scn s.sc q).map nof) (c.map Int.toNat) ks) (c.map Int.toNat)=true->lE n ((scn s.sc q).map nof) (c.map Int.toNat)=true:=fun a b=>by
     have hP:=xn hpl;have hnd:=CR hcho.rise;exact fits_can hP.win hnd (r:=c.map Int.toNat) hP.fit hnd (fun i hi=>⟨hi,hcho.lt i hi⟩) a b
    have hall:((c.map Int.toNat).all fun x=>decide (x<((scn s.sc q).map nof).length))=true:=List.all_eq_true.2 fun x hx=>decide_eq_true (hlt0 x hx)
    have hall2:((c.map Int.toNat).all fun x=>decide (x<(scn s.sc q).length))=true:=by rw[hlm]at hall;exact hall
    generalize c.map Int.toNat=c' at *;obtain⟨can,hcan⟩:∃x,lE n ((scn s.sc q).map nof) c'=x:=⟨_,rfl⟩;rw[hcan]at hcanR hposs hfc;have n00':((0:Int) != 0)=false:=rfl;repeat with_reducible first|(fail_if_success refine am.seq (x:=.region 27 _ _) ?_);apply nx|apply wQ rfl|(first|apply wV|apply wW|apply wX|apply wy (cfN6_ok hk);kernel_rfl);simp only[Tryz.f16,cfN6,c66,c67,c68,c69,hdp,hpl,hdc,hd1,hl10,hcm,hln,hln2,hlm,hri,hch,hcanR,hccp,hcc,go_sem];rfl|(fail_if_success show am _ (.region 27 _ _) _ _);refine wz (cfN6_ok hk) ?_|refine wa ⟨by kernel_rfl,?_⟩
    refine am.cutK [234,23,21,13,2,3,4] (tm':=[(234,.bool false),(23,.bp 5 0),(21,.bool form),(13,.sl zP V),(2,ii (k:Int)),(3,.sl zc (c.map ii)),(4,.sl zk (ks.map ii))]) (n':=268) (sg':=[.var s.cells false,.var (ntC n) false,.dead,.dead,.dead,.var (plC n zL (scn s.sc q)) false]) ?_ ?_
    ·rcases hvc with ⟨rfl,rfl⟩|⟨_,h,_⟩|⟨rfl,_,rfl,hp⟩|⟨rfl,_,rfl⟩
     case inr.inl=>cases h
     ·cases can
      ·repeat with_reducible first|apply nx|apply wQ rfl|(first|apply wV|apply wW|apply wX|apply wy aa;kernel_rfl);simp only[Tryz.f16,hkl',hzP,hv',hvl,n00,e13,length_map,go_sem];rfl|refine wz aa ?_|refine wa ⟨by kernel_rfl,?_⟩
       exact⟨rfl,rfl,rfl,rfl⟩
      ·repeat with_reducible first|apply nx|apply wQ rfl|(first|apply wV|apply wW|apply wX|apply wy aa;kernel_rfl);simp only[Tryz.f16,hkl',hzP,hv',hvl,n00,e13,length_map,go_sem];rfl|refine wz aa ?_|refine wa ⟨by kernel_rfl,?_⟩
       exact⟨rfl,rfl,rfl,rfl⟩
     ·obtain rfl:=hposs hp
      repeat with_reducible first|apply nx|apply wQ rfl|(first|apply wV|apply wW|apply wX|apply wy aa;kernel_rfl);simp only[Tryz.f16,hkl',hzP,hv',hvl,n00,length_map,go_sem];rfl|refine wz aa ?_|refine wa ⟨by kernel_rfl,?_⟩
      exact⟨rfl,rfl,rfl,rfl⟩
     ·cases can
      ·repeat with_reducible first|apply nx|apply wQ rfl|(first|apply wV|apply wW|apply wX|apply wy aa;kernel_rfl);simp only[Tryz.f16,hkl',hzP,hv',hvl,n00,e43,length_map,go_sem];rfl|refine wz aa ?_|refine wa ⟨by kernel_rfl,?_⟩
       exact⟨rfl,rfl,rfl,rfl⟩
      ·repeat with_reducible first|apply nx|apply wQ rfl|(first|apply wV|apply wW|apply wX|apply wy aa;kernel_rfl);simp only[Tryz.f16,hkl',hzP,hv',hvl,n00,e43,length_map,go_sem];rfl|refine wz aa ?_|refine wa ⟨by kernel_rfl,?_⟩
       exact⟨rfl,rfl,rfl,rfl⟩
    cases hla:(decide (ks.length=c'.length)&&Db ((scn s.sc q).map nof) c' ks)with
    |false =>
     repeat with_reducible first|apply nx|apply wQ rfl|(first|apply wV|apply wW|apply wX|apply wy (cfN6_ok hk);kernel_rfl);simp only[Tryz.f16,cfN6,C9,C7,C8,c21,c70,hdp,hd1,hdk,hln,hln2,hlm,hcm,hk10,hall,hall2,hla,hccp,hcc,hck,go_sem];rfl|refine wz (cfN6_ok hk) ?_|refine wa ⟨by kernel_rfl,?_⟩
     exact⟨rfl,rfl,_,rfl,rfl⟩
    |true =>
     have hla2:=hla;rw[Bool.and_eq_true]at hla2;obtain⟨x,hx⟩:∃x,lE n (CM ((scn s.sc q).map nof) c' ks) c'=x:=⟨_,rfl⟩;have hfr:=hfitsR x hla2.2 (of_decide_eq_true hla2.1) hx;rw[hx]at hfc;repeat with_reducible first|(fail_if_success refine am.seq (x:=.region 32 _ _) ?_);apply nx|apply wQ rfl|(first|apply wV|apply wW|apply wX|apply wy (cfN6_ok hk);kernel_rfl);simp only[Tryz.f16,cfN6,c70,c71,hdp,hdc,hd1,hdk,hl10,hln,hln2,hlm,hcm,hk10,hall,hall2,hla,hfr,hccp,hcc,hck,go_sem];rfl|(fail_if_success show am _ (.region 32 _ _) _ _);refine wz (cfN6_ok hk) ?_|refine wa ⟨by kernel_rfl,?_⟩
     have z00:((0:Int)==0)=true:=rfl;rcases hvc with ⟨rfl,rfl⟩|⟨_,h,_⟩|⟨rfl,_,rfl,hp⟩|⟨rfl,_,rfl⟩
     case inr.inl=>cases h
     ·cases x
      ·repeat with_reducible first|apply nx|apply wQ rfl|(first|apply wV|apply wW|apply wX|apply wy (cfN6_ok hk);kernel_rfl);simp only[Tryz.f16,cfN6,C9,C7,C8,c21,hkl',hzP,hv',hvl,z00,e14,length_map,go_sem];rfl|refine wz (cfN6_ok hk) ?_|refine wa ⟨by kernel_rfl,?_⟩
       exact⟨rfl,rfl,_,rfl,rfl⟩
      ·repeat with_reducible first|apply nx|apply wQ rfl|(first|apply wV|apply wW|apply wX|apply wy (cfN6_ok hk);kernel_rfl);simp only[Tryz.f16,cfN6,C9,C7,C8,c21,hkl',hzP,hv',hvl,z00,e14,length_map,go_sem];rfl|refine wz (cfN6_ok hk) ?_|refine wa ⟨by kernel_rfl,?_⟩
       exact⟨rfl,rfl,_,rfl,rfl⟩
     ·have hcf:=hposs hp
      cases x
      case true=>rw[hcf]at hfc;cases hfc hla2.2 rfl
      repeat with_reducible first|apply nx|apply wQ rfl|(first|apply wV|apply wW|apply wX|apply wy (cfN6_ok hk);kernel_rfl);simp only[Tryz.f16,cfN6,C9,C7,C8,c21,hkl',hzP,hv',hvl,z00,length_map,go_sem];rfl|refine wz (cfN6_ok hk) ?_|refine wa ⟨by kernel_rfl,?_⟩
      exact⟨rfl,rfl,_,rfl,rfl⟩
     ·cases x
      ·repeat with_reducible first|apply nx|apply wQ rfl|(first|apply wV|apply wW|apply wX|apply wy (cfN6_ok hk);kernel_rfl);simp only[Tryz.f16,cfN6,C9,C7,C8,c21,hkl',hzP,hv',hvl,z00,length_map,go_sem];rfl|refine wz (cfN6_ok hk) ?_|refine wa ⟨by kernel_rfl,?_⟩
       exact⟨rfl,rfl,_,rfl,rfl⟩
      ·repeat with_reducible first|apply nx|apply wQ rfl|(first|apply wV|apply wW|apply wX|apply wy (cfN6_ok hk);kernel_rfl);simp only[Tryz.f16,cfN6,C9,C7,C8,c21,hkl',hzP,hv',hvl,z00,beq_self_eq_true,length_map,go_sem];rfl|refine wz (cfN6_ok hk) ?_|refine wa ⟨by kernel_rfl,?_⟩
       exact⟨rfl,rfl,_,rfl,rfl⟩
end Go.Pv
