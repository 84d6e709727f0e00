import Derived.Test.YtkjalecddameoaaGreatDoorSmPlay
import Derived.Test.YtkjalecddameoaaGreatDoorSoMore
set_option linter.all false
open List (mem_map length_map getElem?_eq_getElem)
namespace Go.Pv
open Go Go.RowKit Go.Proofs
set_option maxRecDepth 200000
set_option maxHeartbeats 8000000
def CV(m:Int):Int->List Int->Bool
 |_,[]=>true
 |p,x::l=>inB x 0 (m-1)&&decide (p<x)&&CV m x l
def DE(c:List Int):Nat->Int
 |0=>-1
 |i+1=>(c[i]?).getD 0
theorem CY{c:List Int}{i:Nat}{x:Int}(h:c[i]?=some x):DE c (i+1)=x:=by
 show(c[i]?).getD 0=x
 rw[h];rfl
theorem Dy{m:Int}{c:List Int}{i:Nat}{x:Int}(h:c[i]?=some x)(p:Int):CV m p (c.drop i)=(inB x 0 (m-1)&&decide (p<x)&&CV m (DE c (i+1)) (c.drop (i+1))):=by
 rw[CY h,aP h];rfl
theorem CQ{m:Int}:∀{l:List Int} {p:Int},CV m p l=true->∀x∈l,p<x∧0<=x∧x<m
 |[],_,_,x,hx=>by cases hx
 |y::l,p,h,x,hx=>by
  have h:(inB y 0 (m-1)&&decide (p<y)&&CV m y l)=true:=h;simp only[Bool.and_eq_true,decide_eq_true_eq]at h;have h1:=bm.1 h.1.1;rcases List.mem_cons.1 hx with rfl|hx
  ·exact⟨h.1.2,h1.1,by omega⟩
  ·have:=CQ h.2 x hx
   omega
theorem C6{m:Int}:∀{l:List Int} {p:Int},CV m p l=true->(l.map Int.toNat).Pairwise (·<·)
 |[],_,_=>List.Pairwise.nil
 |y::l,p,h=>by
  have h:(inB y 0 (m-1)&&decide (p<y)&&CV m y l)=true:=h;simp only[Bool.and_eq_true,decide_eq_true_eq]at h;have h1:=bm.1 h.1.1;refine List.pairwise_cons.2 ⟨fun z hz=>?_,C6 h.2⟩
  obtain⟨x,hx,rfl⟩:=mem_map.1 hz;have:=CQ h.2 x hx
  omega
theorem nn_of{c:List Int}(h:∀x∈c,0<=x):c.map ii=nn (c.map Int.toNat):=by
 unfold nn;rw[List.map_map];refine List.map_congr_left fun x hx=>?_
 have:=h x hx
 show ii x=ii ((x.toNat:Nat):Int);rw[Int.toNat_of_nonneg this]
def choI(l:List Sn)(c:List Int):Bool:=CV l.length (-1) c&&chB l 0 (c.map Int.toNat)
theorem choI_cho{l:List Sn}{c:List Int}(h:choI l c=true):IsCho l (c.map Int.toNat):=by
 unfold choI at h;rw[Bool.and_eq_true]at h;refine⟨C6 h.1,fun x hx=>?_,h.2⟩
 obtain⟨y,hy,rfl⟩:=mem_map.1 hx;have:=CQ h.1 y hy
 omega
theorem CR{c:List Nat}(h:c.Pairwise (·<·)):c.Nodup:=h.imp fun h=>by omega
theorem Dq{l:List Sn}{c:List Int}(h:CV l.length (-1) c=true){z:Z}(hz:z=.n->c=[]):c.map ii=nn (c.map Int.toNat)∧gN (.sl z (c.map ii))=some (c.map Int.toNat)∧ov (c.map Int.toNat)=true∧(∀x∈c.map Int.toNat,x<l.length):=by
 have e:=nn_of (c:=c) fun x hx=>(CQ h x hx).2.1
 refine⟨e,?_,nodup_iff.2 (CR (C6 h)),fun x hx=>?_⟩
 ·rw[e]
  exact dm fun hh=>by rw[hz hh];rfl
 ·obtain⟨y,hy,rfl⟩:=mem_map.1 hx
  have:=CQ h y hy
  omega
theorem Dc(n:Nt)(z:Z)(l:List Sn)(x:Int)(hl:l.length<=1000):ab Tryz.prog 222 [.agg (plC n z l),ii x] [] (.ret (.bool (inB x 0 ((l.length:Int)-1)))) []:=by
 refine ab.of0 hTT Tryz.func222 rfl rfl ?_;have e1:IntKind.i64.wrap ((l.length:Int)-1)=(l.length:Int)-1:=ai (by omega) (by omega)
 have hcn:=ay l;repeat with_reducible first|apply nx|apply wQ rfl|(first|apply wV|apply wW|apply wX|apply wy (ah aa rG);kernel_rfl);simp only[Tryz.f222,aE,cin,e1,hcn,length_map,go_sem];rfl|refine wz (ah aa rG) ?_|refine wa ⟨by kernel_rfl,?_⟩
 exact⟨rfl,rfl,_,rfl,rfl⟩
def cScn:Tb_
 |[v,.int .i64 x],sg=>match eS v with
  |some (_,_,l)=>if l.length<=1000 then some (.ret (.bool (inB x 0 ((l.length:Int)-1))),sg)else none
  |none=>none
 |_,_=>none
theorem CL:al Tryz.prog 222 cScn:=al.of0 (ent Tryz.func222 rfl) fun args sg r sg' h=>by
 unfold cScn at h;split at h <;> try (cases h;done)
 split at h <;> try (cases h;done)
 rename_i n z l h1;split at h <;> cases h
 rename_i hc;obtain⟨rfl,hz⟩:=b8 h1;exact⟨_,rfl,rfl,by rw[af,fi];rfl,Dc n z l _ hc⟩
theorem CX(n:Nt)(z zc:Z)(l:List Sn)(c:List Int)(hz:z=.n->l=[])(hnof:l.map nof=l)(hzc:zc=.n->c=[])(hl:l.length<=1000)(hcl:c.length<=1000):ab Tryz.prog 175 [.agg (plC n z l),.sl zc (c.map ii)] [] (.ret (.bool (CV l.length (-1) c))) []:=by
 refine ab.of0 hTT Tryz.func175 rfl rfl ?_;have hdn:=dt (n:=n) hz hnof;have hcn:=ay l;have hcc:=ac c;have hgt:∀a b:Int,(a>b)=(b<a):=fun _ _=>rfl
 repeat with_reducible first|apply nx|apply wQ rfl|(first|apply wV|apply wW|apply wX|apply wy aa;kernel_rfl);simp only[Tryz.f175,length_map,go_sem];rfl|refine wz aa ?_|refine wa ⟨by kernel_rfl,?_⟩
 refine am.keep [9,8,7,2,1] (by simp only[go_sem];rfl) ?_
 refine am.loop (fun i s'=>CV l.length (-1) c=CV l.length (DE c i) (c.drop i)∧s'=⟨[(9,ii (i:Int)),(8,ii (c.length:Int)),(7,.sl zc (c.map ii)),(2,.bp 0 0),(1,.sl zc (c.map ii))],32,[.var (plC n z l) false]⟩) c.length ⟨rfl,by first|(simp only[go_sem];done)|(simp only[go_sem];rfl)|rfl⟩ ?_
 rintro i _ hi ⟨hm,rfl⟩;by_cases hlt:i<c.length
 ·obtain⟨x,hx⟩:∃x,c[i]?=some x:=⟨_,getElem?_eq_getElem hlt⟩
  have hx':(c.map ii)[i]?=some (ii x):=aw hx;have hlt':(i:Int)<c.length:=by omega
  have hz':zc≠.n:=fun e=>by rw[hzc e]at hlt;simp at hlt
  have e4:IntKind.i64.wrap ((i:Int)+1)=((i+1:Nat):Int):=ai (by omega) (by omega)
  rw[Dy hx]at hm;cases hin:inB x 0 ((l.length:Int)-1)with
  |false =>
   rw[hin]at hm;have hm:CV l.length (-1) c=false:=by rw[hm];rfl
   rw[hm];repeat with_reducible first|apply nx|apply wQ rfl|(first|apply wV|apply wW|apply wX|apply wy (ah aa CL);kernel_rfl);simp only[Tryz.f175,aE,cScn,hdn,hl,hin,hx',hlt',hz',hcn,length_map,go_sem];rfl|refine wz (ah aa CL) ?_|refine wa ⟨by kernel_rfl,?_⟩
   exact⟨rfl,rfl,_,rfl,rfl⟩
  |true =>
   rw[hin,Bool.true_and]at hm;have hx0:=(bm.1 hin).1;by_cases hi0:i=0
   ·have hd:decide (DE c i<x)=true:=decide_eq_true (by rw[hi0];show(-1:Int)<x;omega)
    rw[hd,Bool.true_and]at hm;have h00:¬(0:Int)<(i:Int):=by omega
    repeat with_reducible first|apply nx|apply wQ rfl|(first|apply wV|apply wW|apply wX|apply wy (ah aa CL);kernel_rfl);simp only[Tryz.f175,aE,cScn,hdn,hl,hin,hx',hlt',hz',e4,h00,hgt,hcn,length_map,go_sem];rfl|refine wz (ah aa CL) ?_|refine wa ⟨by kernel_rfl,?_⟩
    refine ak.t 1 [9,8,7,2,1] hlt (by simp only[aK,aF,an,go_sem]) ⟨hm,by first|(simp only[go_sem];done)|(simp only[go_sem];rfl)|rfl⟩
   ·obtain⟨k,hk⟩:∃k,i=k+1:=⟨i-1,by omega⟩
    obtain⟨y,hy⟩:∃y,c[k]?=some y:=⟨_,getElem?_eq_getElem (by omega)⟩
    have hy':(c.map ii)[k]?=some (ii y):=aw hy;have hpv:DE c i=y:=by rw[hk];exact CY hy
    rw[hpv]at hm;have h00:(0:Int)<(i:Int):=by omega
    have e5:IntKind.i64.wrap ((i:Int)-1)=(k:Int):=(ai (by omega) (by omega)).trans (by omega)
    by_cases hxy:y<x
    ·rw[decide_eq_true hxy,Bool.true_and]at hm
     have hxy':¬x<=y:=by omega
     repeat with_reducible first|apply nx|apply wQ rfl|(first|apply wV|apply wW|apply wX|apply wy (ah aa CL);kernel_rfl);simp only[Tryz.f175,aE,cScn,hdn,hl,hin,hx',hy',hxy',hlt',hz',e4,e5,h00,hgt,hcn,length_map,go_sem];rfl|refine wz (ah aa CL) ?_|refine wa ⟨by kernel_rfl,?_⟩
     refine ak.t 1 [9,8,7,2,1] hlt (by simp only[aK,aF,an,go_sem]) ⟨hm,by first|(simp only[go_sem];done)|(simp only[go_sem];rfl)|rfl⟩
    ·rw[decide_eq_false hxy,Bool.false_and]at hm
     have hxy':x<=y:=by omega
     rw[hm];repeat with_reducible first|apply nx|apply wQ rfl|(first|apply wV|apply wW|apply wX|apply wy (ah aa CL);kernel_rfl);simp only[Tryz.f175,aE,cScn,hdn,hl,hin,hx',hy',hxy',hlt',hz',e5,h00,hgt,hcn,length_map,go_sem];rfl|refine wz (ah aa CL) ?_|refine wa ⟨by kernel_rfl,?_⟩
     exact⟨rfl,rfl,_,rfl,rfl⟩
 ·have hlt':¬(i:Int)<c.length:=by omega
  rw[List.drop_eq_nil_of_le (by omega)]at hm
  have hm:CV l.length (-1) c=true:=hm;rw[hm];repeat with_reducible first|apply nx|apply wQ rfl|(first|apply wV|apply wW|apply wX|apply wy aa;kernel_rfl);simp only[Tryz.f175,hlt',length_map,go_sem];rfl|refine wz aa ?_|refine wa ⟨by kernel_rfl,?_⟩
  exact⟨rfl,rfl,_,rfl,rfl⟩
def c175:Tb_
 |[v,u],sg=>match eS v,aN u with
  |some (_,_,l),some c=>if l.length<=1000∧c.length<=1000 then some (.ret (.bool (CV l.length (-1) c)),sg)else none
  |_,_=>none
 |_,_=>none
theorem CN:al Tryz.prog 175 c175:=al.of0 (ent Tryz.func175 rfl) fun args sg r sg' h=>by
 unfold c175 at h;split at h <;> try (cases h;done)
 split at h <;> try (cases h;done)
 rename_i n z l c h1 h2;split at h <;> cases h
 rename_i hc;have hn:=eV h1;obtain⟨rfl,hz⟩:=b8 h1;obtain⟨zc,rfl,hzc⟩:=aJ h2;exact⟨_,rfl,rfl,by rw[af,fi,af,bt];rfl,CX n z zc l c hz hn hzc hc.1 hc.2⟩
theorem CO(n:Nt)(z:Z)(l:List Sn)(zc:Z)(c:List Int)(b:Bool):(PV.tuple [.agg [ii n.b,ii n.w0.1,ii n.w0.2,ii n.w1.1,ii n.w1.2,ii n.w2.1,ii n.w2.2,.sl z (l.map cH),.sl zc (c.map ii)],.bool b]).closed=true:=by
 have h1:=ay l;have h2:=ac c;simp[PV.closed,ad,h1,h2]
theorem Dn(n:Nt)(z zc:Z)(l:List Sn)(c:List Int)(hz:z=.n->l=[])(hnof:l.map nof=l)(hzc:zc=.n->c=[])(hl:l.length<=1000)(hcl:c.length<=1000):ab Tryz.prog 130 [.agg (plC n z l),.sl zc (c.map ii)] [] (.ret (.tuple [.agg [ii n.b,ii n.w0.1,ii n.w0.2,ii n.w1.1,ii n.w1.2,ii n.w2.1,ii n.w2.2,.sl z (l.map cH),.sl zc (c.map ii)],.bool (du n l&&choI l c)])) []:=by
 refine ab.ofF hTT Tryz.func130 rfl rfl ?_;have hdn:=dt (n:=n) hz hnof;have hdc:aN (.sl zc (c.map ii))=some c:=aI (zOkV hzc);have hcn:=ay l;have hcc:=ac c;have h143:=ow n z l hz;have hltb:bD 0 [PV.agg (plC n z l)]=true:=ae 0 _ (by simp[ad,PV.closed,ay])
 unfold choI;cases hpb:du n l with
 |false =>
  rw[hpb]at h143;repeat with_reducible first|apply nx|apply wQ rfl|(first|apply wV|apply wW|apply wX|apply wy (ah (ah (aj aa (ent Tryz.func143 rfl) h143 hltb) CN) y5);kernel_rfl);simp only[Tryz.f130,eA,aE,hcn,hcc,go_sem];rfl|refine wz (ah (ah (aj aa (ent Tryz.func143 rfl) h143 hltb) CN) y5) ?_|refine wa ⟨by kernel_rfl,?_⟩
  exact⟨rfl,rfl,_,rfl,aq (CO n z l zc c _)⟩
 |true =>
  rw[hpb]at h143;cases hr:CV l.length (-1) c with
  |false =>
   repeat with_reducible first|apply nx|apply wQ rfl|(first|apply wV|apply wW|apply wX|apply wy (ah (ah (aj aa (ent Tryz.func143 rfl) h143 hltb) CN) y5);kernel_rfl);simp only[Tryz.f130,eA,aE,c175,hdn,hdc,hl,hcl,hr,hcn,hcc,go_sem];rfl|refine wz (ah (ah (aj aa (ent Tryz.func143 rfl) h143 hltb) CN) y5) ?_|refine wa ⟨by kernel_rfl,?_⟩
   exact⟨rfl,rfl,_,rfl,aq (CO n z l zc c _)⟩
  |true =>
   obtain⟨_,hd1,hnd,_⟩:=Dq hr hzc;have hcm:(c.map Int.toNat).length<=1000:=by rw[length_map];exact hcl
   generalize c.map Int.toNat=c' at hd1 hnd hcm ⊢;repeat with_reducible first|apply nx|apply wQ rfl|(first|apply wV|apply wW|apply wX|apply wy (ah (ah (aj aa (ent Tryz.func143 rfl) h143 hltb) CN) y5);kernel_rfl);simp only[Tryz.f130,eA,aE,c175,c176,hdn,hdc,hd1,hnd,hcm,hl,hcl,hr,hcn,hcc,Bool.true_and,go_sem];rfl|refine wz (ah (ah (aj aa (ent Tryz.func143 rfl) h143 hltb) CN) y5) ?_|refine wa ⟨by kernel_rfl,?_⟩
   exact⟨rfl,rfl,_,rfl,aq (CO n z l zc c _)⟩
def c130:Tb_
 |[.agg [x0,x1,x2,x3,x4,x5,x6,x7],u],sg=>match eS (.agg [x0,x1,x2,x3,x4,x5,x6,x7]),aN u with
  |some (n,_,l),some c=>if l.length<=1000∧c.length<=1000 then some (.ret (.tuple [.agg [x0,x1,x2,x3,x4,x5,x6,x7,u],.bool (du n l&&choI l c)]),sg)else none
  |_,_=>none
 |_,_=>none
theorem c130_ok:al Tryz.prog 130 c130:=al.of0 (ent Tryz.func130 rfl) fun args sg r sg' h=>by
 unfold c130 at h;split at h <;> try (cases h;done)
 split at h <;> try (cases h;done)
 rename_i n z l c h1 h2;split at h <;> cases h
 rename_i hc;have hn:=eV h1;obtain⟨e,hz⟩:=b8 h1;obtain⟨zc,rfl,hzc⟩:=aJ h2;cases e;exact⟨_,rfl,rfl,by rw[af,fi,af,bt];rfl,Dn n z zc l c hz hn hzc hc.1 hc.2⟩
def cfYo:aG:=aE (aE cf0 130 c130) 131 Dv
theorem cfYo_ok:au Tryz.prog cfYo:=ah (ah aa c130_ok) xU
def canR(n:Nt)(l:List Sn)(c:List Int):PV:=if(du n l&&choI l c)=true then .tuple [.bool (lE n l (c.map Int.toNat)),ii 0]else .tuple [.bool false,ii 2]
theorem Can_69(n:Nt)(z zc:Z)(l:List Sn)(c:List Int)(hz:z=.n->l=[])(hnof:l.map nof=l)(hzc:zc=.n->c=[])(hl:l.length<=1000)(hcl:c.length<=1000):ab Tryz.prog 69 [.agg (plC n z l),.sl zc (c.map ii)] [] (.ret (canR n l c)) []:=by
 refine ab.of0 hTT Tryz.func69 rfl rfl ?_;have hdn:=dt (n:=n) hz hnof;have hdc:aN (.sl zc (c.map ii))=some c:=aI (zOkV hzc);have hcn:=ay l;have hcc:=ac c;unfold canR;cases hb:(du n l&&choI l c)with
 |false =>
  rw[if_neg (by simp)]
  repeat with_reducible first|apply nx|apply wQ rfl|(first|apply wV|apply wW|apply wX|apply wy cfYo_ok;kernel_rfl);simp only[Tryz.f69,cfYo,c130,hdn,hdc,hl,hcl,hb,hcn,hcc,go_sem];rfl|refine wz cfYo_ok ?_|refine wa ⟨by kernel_rfl,?_⟩
  exact⟨rfl,rfl,_,rfl,rfl⟩
 |true =>
  rw[if_pos rfl];have hb2:=hb;rw[Bool.and_eq_true]at hb2;have hcho:=choI_cho hb2.2;have hri:CV l.length (-1) c=true:=by
   have:=hb2.2
   unfold choI at this;rw[Bool.and_eq_true]at this;exact this.1
  obtain⟨hnn,hd1,hnd,hlt⟩:=Dq hri hzc;have hP:=xn hb2.1;have hnt:=hP.nt;have hcm:(c.map Int.toNat).length<=1000:=by rw[length_map];exact hcl
  have hfit:=(BV hb2.1).fitB hlt hcm;have hpd:na (.agg [ii n.b,ii n.w0.1,ii n.w0.2,ii n.w1.1,ii n.w1.2,ii n.w2.1,ii n.w2.2,.sl z (l.map cH),.sl zc (c.map ii)])=some ⟨n,z,l,zc,c.map Int.toNat⟩:=by
   rw[hnn];exact jn (p:=⟨n,z,l,zc,c.map Int.toNat⟩) ⟨hz,fun e=>by rw[hzc e];rfl,hnof⟩
  generalize c.map Int.toNat=c' at *;repeat with_reducible first|apply nx|apply wQ rfl|(first|apply wV|apply wW|apply wX|apply wy cfYo_ok;kernel_rfl);simp only[Tryz.f69,cfYo,c130,Dv,hdn,hdc,hl,hcl,hb,hpd,hfit,hnt,hcn,hcc,go_sem];rfl|refine wz cfYo_ok ?_|refine wa ⟨by kernel_rfl,?_⟩
  exact⟨rfl,rfl,_,rfl,rfl⟩
def c69:Tb_
 |[v,u],sg=>match eS v,aN u with
  |some (n,_,l),some c=>if l.length<=1000∧c.length<=1000 then some (.ret (canR n l c),sg)else none
  |_,_=>none
 |_,_=>none
theorem c69_ok:al Tryz.prog 69 c69:=al.of0 (ent Tryz.func69 rfl) fun args sg r sg' h=>by
 unfold c69 at h;split at h <;> try (cases h;done)
 split at h <;> try (cases h;done)
 rename_i n z l c h1 h2;split at h <;> cases h
 rename_i hc;have hn:=eV h1;obtain⟨rfl,hz⟩:=b8 h1;obtain⟨zc,rfl,hzc⟩:=aJ h2;exact⟨_,rfl,rfl,by rw[af,fi,af,bt];rfl,Can_69 n z zc l c hz hn hzc hc.1 hc.2⟩
def C5(n:Nt)(l:List Sn)(c ks:List Int):PV:=if(du n l&&choI l c&&decide (ks.length=c.length))=true then(if Db l (c.map Int.toNat) ks=true then .tuple [.bool (lE n (CM l (c.map Int.toNat) ks) (c.map Int.toNat)),ii 0]else .tuple [.bool false,ii 2])else .tuple [.bool false,ii 2]
theorem Dl{n:Nt}{l:List Sn}{c ks:List Int}(h:(du n l&&choI l c&&decide (ks.length=c.length))=false):C5 n l c ks=.tuple [.bool false,ii 2]:=by unfold C5;rw[h,if_neg (by simp)]
theorem risI_of{l:List Sn}{c:List Int}(h:choI l c=true):CV l.length (-1) c=true:=by
 unfold choI at h;rw[Bool.and_eq_true]at h;exact h.1
def cfYp:aG:=aE (aE (aE (aE cf0 130 c130) 131 Dv) 132 cin) 133 c133
theorem ca:au Tryz.prog cfYp:=ah (ah (ah (ah aa c130_ok) xU) rG) Dp
theorem Fits_71(n:Nt)(z zc zk:Z)(l:List Sn)(c ks:List Int)(hz:z=.n->l=[])(hnof:l.map nof=l)(hzc:zc=.n->c=[])(hzk:zk=.n->ks=[])(hl:l.length<=1000)(hcl:c.length<=1000)(hkl:ks.length<=1000):ab Tryz.prog 71 [.agg (plC n z l),.sl zc (c.map ii),.sl zk (ks.map ii)] [] (.ret (C5 n l c ks)) []:=by
 refine ab.of0 hTT Tryz.func71 rfl rfl ?_;have hdn:=dt (n:=n) hz hnof;have hdc:aN (.sl zc (c.map ii))=some c:=aI (zOkV hzc);have hcn:=ay l;have hcc:=ac c;have hck:=ac ks;cases hb:(du n l&&choI l c)with
 |false =>
  rw[Dl (by rw[hb];rfl)]
  repeat with_reducible first|apply nx|apply wQ rfl|(first|apply wV|apply wW|apply wX|apply wy ca;kernel_rfl);simp only[Tryz.f71,cfYp,c130,hdn,hdc,hl,hcl,hb,hcn,hcc,hck,go_sem];rfl|refine wz ca ?_|refine wa ⟨by kernel_rfl,?_⟩
  exact⟨rfl,rfl,_,rfl,rfl⟩
 |true =>
  by_cases hlen:ks.length=c.length
  case neg =>
   rw[Dl (by rw[decide_eq_false hlen,Bool.and_false])]
   have hne:((ks.length:Int) != (c.length:Int))=true:=eC (by omega)
   repeat with_reducible first|apply nx|apply wQ rfl|(first|apply wV|apply wW|apply wX|apply wy ca;kernel_rfl);simp only[Tryz.f71,cfYp,c130,hdn,hdc,hl,hcl,hb,hne,hcn,hcc,hck,length_map,go_sem];rfl|refine wz ca ?_|refine wa ⟨by kernel_rfl,?_⟩
   exact⟨rfl,rfl,_,rfl,rfl⟩
  have hne:((ks.length:Int) != (c.length:Int))=false:=by rw[hlen];simp
  have hb2:=hb;rw[Bool.and_eq_true]at hb2;obtain⟨hnn,hd1,hnd,hlt0⟩:=Dq (risI_of hb2.2) hzc;have hP:=xn hb2.1;have hnt:=hP.nt;have hR:C5 n l c ks=if Db l (c.map Int.toNat) ks=true then .tuple [.bool (lE n (CM l (c.map Int.toNat) ks) (c.map Int.toNat)),ii 0]else .tuple [.bool false,ii 2]:=by unfold C5;rw[hb,decide_eq_true hlen];rfl
  rw[hR];clear hR;have hcm:(c.map Int.toNat).length=c.length:=length_map ..;have hzc':zc=.n->c.map Int.toNat=[]:=fun e=>by rw[hzc e];rfl
  have hsm:=BV hb2.1;rw[hnn];rw[hnn]at hdc hcc;generalize c.map Int.toNat=c' at *;have hc'l:(nn c').length=c.length:=by rw[cz,hcm]
  repeat with_reducible first|apply nx|apply wQ rfl|(first|apply wV|apply wW|apply wX|apply wy ca;kernel_rfl);simp only[Tryz.f71,cfYp,c130,hdn,hdc,hl,hcl,hb,hne,hcn,hcc,hck,hc'l,length_map,go_sem];rfl|refine wz ca ?_|refine wa ⟨by kernel_rfl,?_⟩
  refine am.keep [29,28,27,8,3,2] (by simp only[go_sem];rfl) ?_
  refine am.loop (fun i s'=>∃(L:List Sn) (z':Z),CM l c' ks=CM L (c'.drop i) (ks.drop i)∧Db l c' ks=Db l (c'.drop i) (ks.drop i)∧SmF L∧L.length=l.length∧L.map nof=L∧(z'=.n->L=[])∧s'=⟨[(29,ii (i:Int)),(28,ii (c.length:Int)),(27,.sl zc (nn c')),(8,.bp 1 0),(3,.bp 0 0),(2,.sl zk (ks.map ii))],64,[.var (plC n z l) false,.var [ii n.b,ii n.w0.1,ii n.w0.2,ii n.w1.1,ii n.w1.2,ii n.w2.1,ii n.w2.2,.sl z' (L.map cH),.sl zc (nn c')] false]⟩) c.length ⟨l,z,rfl,rfl,hsm,rfl,hnof,hz,by first|(simp only[go_sem];done)|(simp only[go_sem];rfl)|rfl⟩ ?_
  rintro i _ hi ⟨L,z',hA,hI,hS,hLl,hLn,hLz,rfl⟩;have hcL:=ay L;by_cases hlt:i<c.length
  ·obtain⟨j,hj⟩:∃j,c'[i]?=some j:=⟨_,getElem?_eq_getElem (by omega)⟩
   obtain⟨k,hk⟩:∃k,ks[i]?=some k:=⟨_,getElem?_eq_getElem (by omega)⟩
   have hj':(nn c')[i]?=some (ii (j:Int)):=aw hj;have hk':(ks.map ii)[i]?=some (ii k):=aw hk;have hjl:=hlt0 j (List.mem_of_getElem? hj);obtain⟨y,hy⟩:∃y,l[j]?=some y:=⟨_,getElem?_eq_getElem hjl⟩;have hy':=cU hy;have hlt':(i:Int)<c.length:=by omega
   have hjl':(j:Int)<l.length:=by omega
   have hj0:(0:Int)<=(j:Int):=by omega
   have hcz:zc≠.n:=fun e=>by rw[hzc' e]at hj;cases hj
   have hkz:zk≠.n:=fun e=>by rw[hzk e]at hk;cases hk
   have hzz:z≠.n:=fun e=>by rw[hz e]at hy;cases hy
   have e4:IntKind.i64.wrap ((i:Int)+1)=((i+1:Nat):Int):=ai (by omega) (by omega)
   rw[aP hj,aP hk]at hA hI;have hI:Db l c' ks=(inB k y.least y.most&&Db l (c'.drop (i+1)) (ks.drop (i+1))):=by
    rw[hI,←m2 (f:=(·.least)) hy,←m2 (f:=(·.most)) hy];rfl
   have hA:CM l c' ks=CM (kQ L j k) (c'.drop (i+1)) (ks.drop (i+1)):=hA;have hdL:=dt (n:=n) hLz hLn;have hdj:=Bi j;have hjL:j<L.length:=by omega
   have hL1:L.length<=1000:=by omega
   cases hin:inB k y.least y.most with
   |false =>
    rw[hin]at hI;have hI:Db l c' ks=false:=by rw[hI];rfl
    rw[hI,if_neg (by simp)]
    repeat with_reducible first|apply nx|apply wQ rfl|(first|apply wV|apply wW|apply wX|apply wy ca;kernel_rfl);simp only[Tryz.f71,cfYp,cin,c133,hj',hk',hy',hin,hlt',hjl',hj0,hcz,hkz,hzz,hcn,hcc,hck,hc'l,Int.toNat_natCast,length_map,go_sem];rfl|refine wz ca ?_|refine wa ⟨by kernel_rfl,?_⟩
    exact⟨rfl,rfl,_,rfl,rfl⟩
   |true =>
    rw[hin,Bool.true_and]at hI;have hkb:=bm.1 hin;have hyb:=hsm.sm y (List.mem_of_getElem? hy);have hS2:=hS.fix j (k:=k) (by omega) (by omega)
    repeat with_reducible first|apply nx|apply wQ rfl|(first|apply wV|apply wW|apply wX|apply wy ca;kernel_rfl);simp only[Tryz.f71,cfYp,cin,c133,hj',hk',hy',hin,hlt',hjl',hj0,hcz,hkz,hzz,hdL,hdj,hjL,hL1,e4,hcn,hcc,hck,hcL,hc'l,Int.toNat_natCast,length_map,go_sem];rfl|refine wz ca ?_|refine wa ⟨by kernel_rfl,?_⟩
    refine ak.t 2 [29,28,27,8,3,2] hlt (by simp only[aK,aF,an,cb,go_sem]) ⟨kQ L j k,.a,hA,hI,hS2,by rw[Cs];exact hLl,BP hLn j k,(fun e=>by cases e),by first|(simp only[go_sem];done)|(simp only[go_sem];rfl)|rfl⟩
  ·have hic:i=c.length:=by omega
   have hlt':¬(i:Int)<c.length:=by omega
   rw[List.drop_eq_nil_of_le (by omega)]at hA hI
   have hA:CM l c' ks=L:=by rw[hA];cases ks.drop i <;> rfl
   have hI:Db l c' ks=true:=by rw[hI];cases ks.drop i <;> rfl
   rw[hI,if_pos rfl,hA];have hfit:=hS.fitB (c:=c') (fun x hx=>by rw[hLl];exact hlt0 x hx) (by omega)
   have hpd:na (.agg [ii n.b,ii n.w0.1,ii n.w0.2,ii n.w1.1,ii n.w1.2,ii n.w2.1,ii n.w2.2,.sl z' (L.map cH),.sl zc (nn c')])=some ⟨n,z',L,zc,c'⟩:=jn (p:=⟨n,z',L,zc,c'⟩) ⟨hLz,hzc',hLn⟩;repeat with_reducible first|apply nx|apply wQ rfl|(first|apply wV|apply wW|apply wX|apply wy ca;kernel_rfl);simp only[Tryz.f71,cfYp,Dv,hpd,hfit,hnt,hlt',hcn,hcc,hcL,hck,length_map,go_sem];rfl|refine wz ca ?_|refine wa ⟨by kernel_rfl,?_⟩
   exact⟨rfl,rfl,_,rfl,rfl⟩
def c71:Tb_
 |[v,u,w],sg=>match eS v,aN u,aN w with
  |some (n,_,l),some c,some ks=>if l.length<=1000∧c.length<=1000∧ks.length<=1000 then some (.ret (C5 n l c ks),sg)else none
  |_,_,_=>none
 |_,_=>none
theorem c71_ok:al Tryz.prog 71 c71:=al.of0 (ent Tryz.func71 rfl) fun args sg r sg' h=>by
 unfold c71 at h;split at h <;> try (cases h;done)
 split at h <;> try (cases h;done)
 rename_i n z l c ks h1 h2 h3;split at h <;> cases h
 rename_i hc;have hn:=eV h1;obtain⟨rfl,hz⟩:=b8 h1;obtain⟨zc,rfl,hzc⟩:=aJ h2;obtain⟨zk,rfl,hzk⟩:=aJ h3;exact⟨_,rfl,rfl,by rw[af,fi,af,bt,af,bt];rfl,Fits_71 n z zc zk l c ks hz hn hzc hzk hc.1 hc.2.1 hc.2.2⟩
theorem Scene_128(n:Nt)(z:Z)(l:List Sn)(x:Int)(hl:l.length<=1000):ab Tryz.prog 128 [.agg (plC n z l),ii x] [] (.ret (.bool (inB x 0 ((l.length:Int)-1)))) []:=by
 refine ab.of0 hTT Tryz.func128 rfl rfl ?_;have e1:IntKind.i64.wrap ((l.length:Int)-1)=(l.length:Int)-1:=ai (by omega) (by omega)
 have hcn:=ay l;repeat with_reducible first|apply nx|apply wQ rfl|(first|apply wV|apply wW|apply wX|apply wy (ah aa xH);kernel_rfl);simp only[Tryz.f128,aE,cin,e1,hcn,length_map,go_sem];rfl|refine wz (ah aa xH) ?_|refine wa ⟨by kernel_rfl,?_⟩
 exact⟨rfl,rfl,_,rfl,rfl⟩
theorem c128_ok:al Tryz.prog 128 cScn:=al.of0 (ent Tryz.func128 rfl) fun args sg r sg' h=>by
 unfold cScn at h;split at h <;> try (cases h;done)
 split at h <;> try (cases h;done)
 rename_i n z l h1;split at h <;> cases h
 rename_i hc;obtain⟨rfl,hz⟩:=b8 h1;exact⟨_,rfl,rfl,by rw[af,fi];rfl,Scene_128 n z l _ hc⟩
theorem Rising_67(n:Nt)(z zc:Z)(l:List Sn)(c:List Int)(hz:z=.n->l=[])(hnof:l.map nof=l)(hzc:zc=.n->c=[])(hl:l.length<=1000)(hcl:c.length<=1000):ab Tryz.prog 67 [.agg (plC n z l),.sl zc (c.map ii)] [] (.ret (.bool (CV l.length (-1) c))) []:=by
 refine ab.of0 hTT Tryz.func67 rfl rfl ?_;have hdn:=dt (n:=n) hz hnof;have hcn:=ay l;have hcc:=ac c;have hgt:∀a b:Int,(a>b)=(b<a):=fun _ _=>rfl
 repeat with_reducible first|apply nx|apply wQ rfl|(first|apply wV|apply wW|apply wX|apply wy aa;kernel_rfl);simp only[Tryz.f67,length_map,go_sem];rfl|refine wz aa ?_|refine wa ⟨by kernel_rfl,?_⟩
 refine am.keep [5,2,1] (by simp only[go_sem];rfl) ?_
 refine am.loop (fun i s'=>CV l.length (-1) c=CV l.length (DE c i) (c.drop i)∧s'=⟨[(5,ii (i:Int)),(2,.bp 0 0),(1,.sl zc (c.map ii))],35,[.var (plC n z l) false]⟩) c.length ⟨rfl,by first|(simp only[go_sem];done)|(simp only[go_sem];rfl)|rfl⟩ ?_
 rintro i _ hi ⟨hm,rfl⟩;by_cases hlt:i<c.length
 ·obtain⟨x,hx⟩:∃x,c[i]?=some x:=⟨_,getElem?_eq_getElem hlt⟩
  have hx':(c.map ii)[i]?=some (ii x):=aw hx;have hlt':(i:Int)<c.length:=by omega
  have hz':zc≠.n:=fun e=>by rw[hzc e]at hlt;simp at hlt
  have e4:IntKind.i64.wrap ((i:Int)+1)=((i+1:Nat):Int):=ai (by omega) (by omega)
  rw[Dy hx]at hm;cases hin:inB x 0 ((l.length:Int)-1)with
  |false =>
   rw[hin]at hm;have hm:CV l.length (-1) c=false:=by rw[hm];rfl
   rw[hm];repeat with_reducible first|apply nx|apply wQ rfl|(first|apply wV|apply wW|apply wX|apply wy (ah aa c128_ok);kernel_rfl);simp only[Tryz.f67,aE,cScn,hdn,hl,hin,hx',hlt',hz',hcn,length_map,go_sem];rfl|refine wz (ah aa c128_ok) ?_|refine wa ⟨by kernel_rfl,?_⟩
   exact⟨rfl,rfl,_,rfl,rfl⟩
  |true =>
   rw[hin,Bool.true_and]at hm;have hx0:=(bm.1 hin).1;by_cases hi0:i=0
   ·have hd:decide (DE c i<x)=true:=decide_eq_true (by rw[hi0];show(-1:Int)<x;omega)
    rw[hd,Bool.true_and]at hm;have h00:¬(0:Int)<(i:Int):=by omega
    repeat with_reducible first|apply nx|apply wQ rfl|(first|apply wV|apply wW|apply wX|apply wy (ah aa c128_ok);kernel_rfl);simp only[Tryz.f67,aE,cScn,hdn,hl,hin,hx',hlt',hz',e4,h00,hgt,hcn,length_map,go_sem];rfl|refine wz (ah aa c128_ok) ?_|refine wa ⟨by kernel_rfl,?_⟩
    refine ak.t 1 [5,2,1] hlt (by simp only[aK,aF,an,go_sem]) ⟨hm,by first|(simp only[go_sem];done)|(simp only[go_sem];rfl)|rfl⟩
   ·obtain⟨k,hk⟩:∃k,i=k+1:=⟨i-1,by omega⟩
    obtain⟨y,hy⟩:∃y,c[k]?=some y:=⟨_,getElem?_eq_getElem (by omega)⟩
    have hy':(c.map ii)[k]?=some (ii y):=aw hy;have hpv:DE c i=y:=by rw[hk];exact CY hy
    rw[hpv]at hm;have h00:(0:Int)<(i:Int):=by omega
    have e5:IntKind.i64.wrap ((i:Int)-1)=(k:Int):=(ai (by omega) (by omega)).trans (by omega)
    by_cases hxy:y<x
    ·rw[decide_eq_true hxy,Bool.true_and]at hm
     have hxy':¬x<=y:=by omega
     repeat with_reducible first|apply nx|apply wQ rfl|(first|apply wV|apply wW|apply wX|apply wy (ah aa c128_ok);kernel_rfl);simp only[Tryz.f67,aE,cScn,hdn,hl,hin,hx',hy',hxy',hlt',hz',e4,e5,h00,hgt,hcn,length_map,go_sem];rfl|refine wz (ah aa c128_ok) ?_|refine wa ⟨by kernel_rfl,?_⟩
     refine ak.t 1 [5,2,1] hlt (by simp only[aK,aF,an,go_sem]) ⟨hm,by first|(simp only[go_sem];done)|(simp only[go_sem];rfl)|rfl⟩
    ·rw[decide_eq_false hxy,Bool.false_and]at hm
     have hxy':x<=y:=by omega
     rw[hm];repeat with_reducible first|apply nx|apply wQ rfl|(first|apply wV|apply wW|apply wX|apply wy (ah aa c128_ok);kernel_rfl);simp only[Tryz.f67,aE,cScn,hdn,hl,hin,hx',hy',hxy',hlt',hz',e5,h00,hgt,hcn,length_map,go_sem];rfl|refine wz (ah aa c128_ok) ?_|refine wa ⟨by kernel_rfl,?_⟩
     exact⟨rfl,rfl,_,rfl,rfl⟩
 ·have hlt':¬(i:Int)<c.length:=by omega
  rw[List.drop_eq_nil_of_le (by omega)]at hm
  have hm:CV l.length (-1) c=true:=hm;rw[hm];repeat with_reducible first|apply nx|apply wQ rfl|(first|apply wV|apply wW|apply wX|apply wy aa;kernel_rfl);simp only[Tryz.f67,hlt',length_map,go_sem];rfl|refine wz aa ?_|refine wa ⟨by kernel_rfl,?_⟩
  exact⟨rfl,rfl,_,rfl,rfl⟩
def c67:Tb_
 |[v,u],sg=>match eS v,aN u with
  |some (_,_,l),some c=>if l.length<=1000∧c.length<=1000 then some (.ret (.bool (CV l.length (-1) c)),sg)else none
  |_,_=>none
 |_,_=>none
theorem c67_ok:al Tryz.prog 67 c67:=al.of0 (ent Tryz.func67 rfl) fun args sg r sg' h=>by
 unfold c67 at h;split at h <;> try (cases h;done)
 split at h <;> try (cases h;done)
 rename_i n z l c h1 h2;split at h <;> cases h
 rename_i hc;have hn:=eV h1;obtain⟨rfl,hz⟩:=b8 h1;obtain⟨zc,rfl,hzc⟩:=aJ h2;exact⟨_,rfl,rfl,by rw[af,fi,af,bt];rfl,Rising_67 n z zc l c hz hn hzc hc.1 hc.2⟩
theorem Lasts_70(n:Nt)(z zc zk:Z)(l:List Sn)(c:List Nat)(ks:List Int)(hz:z=.n->l=[])(hzc:zc=.n->c=[])(hzk:zk=.n->ks=[])(hl:l.length<=1000)(hcl:c.length<=1000)(hkl:ks.length<=1000)(hr:∀x∈c,x<l.length):ab Tryz.prog 70 [.agg (plC n z l),.sl zc (nn c),.sl zk (ks.map ii)] [] (.ret (.bool (decide (ks.length=c.length)&&Db l c ks))) []:=by
 refine ab.of0 hTT Tryz.func70 rfl rfl ?_;have hcn:=ay l;have hcc:=aO c;have hck:=ac ks;have hc'l:=cz c;by_cases hlen:ks.length=c.length
 case neg =>
  rw[decide_eq_false hlen,Bool.false_and];have hne:((c.length:Int) != (ks.length:Int))=true:=eC (by omega)
  repeat with_reducible first|apply nx|apply wQ rfl|(first|apply wV|apply wW|apply wX|apply wy aa;kernel_rfl);simp only[Tryz.f70,hne,hc'l,length_map,go_sem];rfl|refine wz aa ?_|refine wa ⟨by kernel_rfl,?_⟩
  exact⟨rfl,rfl,_,rfl,rfl⟩
 have hne:((c.length:Int) != (ks.length:Int))=false:=by rw[hlen];simp
 rw[decide_eq_true hlen,Bool.true_and];repeat with_reducible first|apply nx|apply wQ rfl|(first|apply wV|apply wW|apply wX|apply wy aa;kernel_rfl);simp only[Tryz.f70,hne,hc'l,length_map,go_sem];rfl|refine wz aa ?_|refine wa ⟨by kernel_rfl,?_⟩
 refine am.keep [7,3,1,2] (by simp only[go_sem];rfl) ?_
 refine am.loop (fun i s'=>Db l c ks=Db l (c.drop i) (ks.drop i)∧s'=⟨[(7,ii (i:Int)),(3,.bp 0 0),(1,.sl zc (nn c)),(2,.sl zk (ks.map ii))],43,[.var (plC n z l) false]⟩) c.length ⟨rfl,by first|(simp only[go_sem];done)|(simp only[go_sem];rfl)|rfl⟩ ?_
 rintro i _ hi ⟨hI,rfl⟩;by_cases hlt:i<c.length
 ·obtain⟨j,hj⟩:∃j,c[i]?=some j:=⟨_,getElem?_eq_getElem (by omega)⟩
  obtain⟨k,hk⟩:∃k,ks[i]?=some k:=⟨_,getElem?_eq_getElem (by omega)⟩
  have hj':(nn c)[i]?=some (ii (j:Int)):=aw hj;have hk':(ks.map ii)[i]?=some (ii k):=aw hk;have hjl:=hr j (List.mem_of_getElem? hj);obtain⟨y,hy⟩:∃y,l[j]?=some y:=⟨_,getElem?_eq_getElem hjl⟩;have hy':=cU hy;have hlt':(i:Int)<c.length:=by omega
  have hjl':(j:Int)<l.length:=by omega
  have hj0:(0:Int)<=(j:Int):=by omega
  have hcz:zc≠.n:=fun e=>by rw[hzc e]at hj;cases hj
  have hkz:zk≠.n:=fun e=>by rw[hzk e]at hk;cases hk
  have hzz:z≠.n:=fun e=>by rw[hz e]at hy;cases hy
  have e4:IntKind.i64.wrap ((i:Int)+1)=((i+1:Nat):Int):=ai (by omega) (by omega)
  rw[aP hj,aP hk]at hI;have hI:Db l c ks=(inB k y.least y.most&&Db l (c.drop (i+1)) (ks.drop (i+1))):=by
   rw[hI,←m2 (f:=(·.least)) hy,←m2 (f:=(·.most)) hy];rfl
  cases hin:inB k y.least y.most with
  |false =>
   rw[hin]at hI;have hI:Db l c ks=false:=by rw[hI];rfl
   rw[hI];repeat with_reducible first|apply nx|apply wQ rfl|(first|apply wV|apply wW|apply wX|apply wy (ah aa xH);kernel_rfl);simp only[Tryz.f70,aE,cin,hj',hk',hy',hin,hlt',hjl',hj0,hcz,hkz,hzz,hcn,hcc,hck,hc'l,Int.toNat_natCast,length_map,go_sem];rfl|refine wz (ah aa xH) ?_|refine wa ⟨by kernel_rfl,?_⟩
   exact⟨rfl,rfl,_,rfl,rfl⟩
  |true =>
   rw[hin,Bool.true_and]at hI;repeat with_reducible first|apply nx|apply wQ rfl|(first|apply wV|apply wW|apply wX|apply wy (ah aa xH);kernel_rfl);simp only[Tryz.f70,aE,cin,hj',hk',hy',hin,hlt',hjl',hj0,hcz,hkz,hzz,e4,hcn,hcc,hck,hc'l,Int.toNat_natCast,length_map,go_sem];rfl|refine wz (ah aa xH) ?_|refine wa ⟨by kernel_rfl,?_⟩
   refine ak.t 1 [7,3,1,2] hlt (by simp only[aK,aF,an,cb,go_sem]) ⟨hI,by first|(simp only[go_sem];done)|(simp only[go_sem];rfl)|rfl⟩
 ·have hlt':¬(i:Int)<c.length:=by omega
  rw[List.drop_eq_nil_of_le (by omega)]at hI
  have hI:Db l c ks=true:=by rw[hI];cases ks.drop i <;> rfl
  rw[hI];repeat with_reducible first|apply nx|apply wQ rfl|(first|apply wV|apply wW|apply wX|apply wy aa;kernel_rfl);simp only[Tryz.f70,hlt',hc'l,length_map,go_sem];rfl|refine wz aa ?_|refine wa ⟨by kernel_rfl,?_⟩
  exact⟨rfl,rfl,_,rfl,rfl⟩
def c70:Tb_
 |[v,u,w],sg=>match eS v,gN u,aN w with
  |some (_,_,l),some c,some ks=>if(l.length<=1000∧c.length<=1000∧ks.length<=1000)∧(c.all fun x=>decide (x<l.length))=true then some (.ret (.bool (decide (ks.length=c.length)&&Db l c ks)),sg)else none
  |_,_,_=>none
 |_,_=>none
theorem c70_ok:al Tryz.prog 70 c70:=al.of0 (ent Tryz.func70 rfl) fun args sg r sg' h=>by
 unfold c70 at h;split at h <;> try (cases h;done)
 split at h <;> try (cases h;done)
 rename_i n z l c ks h1 h2 h3;split at h <;> cases h
 rename_i hc;obtain⟨rfl,hz⟩:=b8 h1;obtain⟨zc,rfl,hzc⟩:=cW h2;obtain⟨zk,rfl,hzk⟩:=aJ h3;exact⟨_,rfl,rfl,ae 0 _ (by simp[ad,PV.closed,ay,aO,ac]),Lasts_70 n z zc zk l c ks hz hzc hzk hc.1.1 hc.1.2.1 hc.1.2.2 fun x hx=>of_decide_eq_true (List.all_eq_true.1 hc.2 x hx)⟩
end Go.Pv
