import Derived.Test.YtkjalecddameoaaGreatDoorQmPlay
set_option linter.all false
open Go.Proofs.Tryz
namespace Go.Pv
open Go Go.RowKit Go.Proofs
set_option maxRecDepth 200000
set_option maxHeartbeats 8000000
theorem qz(n:Nt)(z:Z)(l:List Sn)(hz:z=.n->l=[]):ab prog 158 [.agg (plC n z l)] [] (.ret (ii (if du n l=true then 0 else 2))) []:=by
 refine ab.of0 hTT func158 rfl rfl ?_;have hpl:=G5 n z l hz;have hltb:bD 0 [PV.agg (plC n z l)]=true:=ae 0 _ (by simp[ad,PV.closed,ay])
 cases hpb:du n l with
 |false =>
  rw[hpb]at hpl;rw[D5 (by simp)]
  repeat with_reducible first|refine nz (aj aa (ent func143 rfl) hpl hltb) ?_|apply ny;simp only[f158,eA,go_sem];rfl
  exact⟨rfl,rfl,_,rfl,rfl⟩
 |true =>
  rw[hpb]at hpl;rw[DZ rfl];repeat with_reducible first|refine nz (aj aa (ent func143 rfl) hpl hltb) ?_|apply ny;simp only[f158,eA,go_sem];rfl
  exact⟨rfl,rfl,_,rfl,rfl⟩
def c158:Tb_
 |[v],sg=>match eS v with
  |some (n,_,l)=>some (.ret (ii (if du n l=true then 0 else 2)),sg)
  |none=>none
 |_,_=>none
theorem py:al prog 158 c158:=al.of0 (ent func158 rfl) fun args sg r sg' h=>by
 unfold c158 at h;split at h <;> try (cases h;done)
 split at h <;> cases h
 rename_i n z l h1;obtain⟨rfl,hz⟩:=b8 h1;exact⟨_,rfl,rfl,by rw[af,fi];rfl,qz n z l hz⟩
abbrev ntC(n:Nt):List PV:=[ii n.b,ii n.w0.1,ii n.w0.2,ii n.w1.1,ii n.w1.2,ii n.w2.1,ii n.w2.2]
def oneS:Sn:=⟨0,1,1,false,false⟩
theorem uy(n:Nt):du n [oneS]=evB n:=by
 unfold du;rw[show kK 0 [oneS]=true from rfl,show decide (bI [oneS]<=6)=true from rfl,show inB (([oneS]:List Sn).length:Int) 1 10=true from rfl,Fi,Fi,Fi]
theorem oM(n:Nt):ab prog 101 [.agg (ntC n)] [] (.ret (.bool (evB n))) []:=by
 refine ab.of0 hTT func101 rfl rfl ?_;have hck:=qz n .f [oneS] (fun e=>by cases e)
 rw[uy]at hck;have hck:ab prog 158 [.agg [ii n.b,ii n.w0.1,ii n.w0.2,ii n.w1.1,ii n.w1.2,ii n.w2.1,ii n.w2.2,.sl .f [.agg [ii 0,ii 1,ii 1,.bool false,ii (-1)]]]] [] (.ret (ii (if evB n=true then 0 else 2))) []:=hck;cases hev:evB n with
 |false =>
  rw[hev,D5 (by simp)]at hck
  repeat with_reducible first|refine nz (aj aa (ent func158 rfl) hck rfl) ?_|apply ny;simp only[f101,eA,go_sem];rfl
  exact⟨rfl,rfl,_,rfl,rfl⟩
 |true =>
  rw[hev,DZ rfl]at hck;repeat with_reducible first|refine nz (aj aa (ent func158 rfl) hck rfl) ?_|apply ny;simp only[f101,eA,go_sem];rfl
  exact⟨rfl,rfl,_,rfl,rfl⟩
def c101:Tb_
 |[v],sg=>match gJ v with
  |some n=>some (.ret (.bool (evB n)),sg)
  |none=>none
 |_,_=>none
theorem c101_ok:al prog 101 c101:=al.of0 (ent func101 rfl) fun args sg r sg' h=>by
 unfold c101 at h;split at h <;> try (cases h;done)
 split at h <;> cases h
 rename_i n h1;obtain rfl:=dz h1;exact⟨_,rfl,rfl,rfl,oM n⟩
theorem sM(n:Nt):ab prog 46 [.agg (ntC n)] [] (.ret (.bool (evB n))) []:=by
 refine ab.of0 hTT func46 rfl rfl ?_;have hdn:eS (.agg [ii n.b,ii n.w0.1,ii n.w0.2,ii n.w1.1,ii n.w1.2,ii n.w2.1,ii n.w2.2,.sl .f [.agg [ii 0,ii 1,ii 1,.bool false,ii (-1)]]])=some (n,.f,[oneS]):=dt (n:=n) (z:=.f) (l:=[oneS]) (fun e=>by cases e) rfl
 have hpo:=uy n;have hln:([oneS]:List Sn).length=1:=rfl;repeat with_reducible first|refine nz (ah aa c66_ok) ?_|apply ny;simp only[f46,aE,c66,hdn,hpo,hln,go_sem];rfl
 exact⟨rfl,rfl,_,rfl,rfl⟩
def c46:Tb_
 |[v],sg=>match gJ v with
  |some n=>some (.ret (.bool (evB n)),sg)
  |none=>none
 |_,_=>none
theorem c46_ok:al prog 46 c46:=al.of0 (ent func46 rfl) fun args sg r sg' h=>by
 unfold c46 at h;split at h <;> try (cases h;done)
 split at h <;> cases h
 rename_i n h1;obtain rfl:=dz h1;exact⟨_,rfl,rfl,rfl,sM n⟩
def pM(n:Nt)(l:List Sn):PV:=.agg (plC n (if decide (l.length=0)=true then .n else .a) l)
theorem nP{sc:List Sn}{i:Nat}{y:Sn}(h:sc[i]?=some y):(sc.map bF)[i]?=some (.agg [ii y.part,ii y.least,ii y.most,.bool y.loose,.bool y.formula]):=aw h
theorem wj(s:Sty)(hok:s.ok=true)(n:Nt)(zp:Z)(p:List Int)(hzp:zp=.n->p=[])(hp:∀x∈p,0<=x∧x<s.sc.length)(hl:p.length<=1000):ab prog 65 [.agg s.cells,.agg (ntC n),.sl zp (p.map ii)] [] (.ret (pM n (scn s.sc p))) []:=by
 refine ab.ofF hTT func65 rfl rfl ?_;have hzs:=s.ok_s hok;obtain⟨e,zs,sc,zr,rz⟩:=s;have hp:∀x∈p,0<=x∧x<sc.length:=hp;have hzs:zOk zs (sc.map bF)=true:=hzs;dsimp only[Sty.cells];repeat with_reducible first|refine nz aa ?_|apply ny;simp only[f65,go_sem];rfl
 refine am.keep [8,7,6,4,3,2] (by simp only[go_sem];rfl) ?_
 refine am.nilBox (sg':=[.var [ii e,.sl zs (sc.map bF),.sl zr (rz.map aT)] false,.var (ntC n) false,.var [ii 0,ii 0,ii 0,ii 0,ii 0,ii 0,ii 0,.sl .n []] false,.var [ii n.b,ii n.w0.1,ii n.w0.2,ii n.w1.1,ii n.w1.2,ii n.w2.1,ii n.w2.2,.ms 4 0] false,.row true 151 5 [] false]) 3 7 151 5 rfl rfl rfl ?_;refine am.loop (fun i s'=>s'=⟨[(8,ii (i:Int)),(7,.bp 3 0),(6,.bp 2 0),(4,.bp 1 0),(3,.bp 0 0),(2,.sl zp (p.map ii))],46,[.var [ii e,.sl zs (sc.map bF),.sl zr (rz.map aT)] false,.var (ntC n) false,.var [ii 0,ii 0,ii 0,ii 0,ii 0,ii 0,ii 0,.sl .n []] false,.var [ii n.b,ii n.w0.1,ii n.w0.2,ii n.w1.1,ii n.w1.2,ii n.w2.1,ii n.w2.2,.ms 4 i] false,.row (decide (i=0)) 151 5 ((scn sc (p.take i)).map cH) false]⟩) p.length (by first|(simp only[go_sem];first|done|rfl)|rfl) ?_
 rintro i _ hi rfl;have hlen:(scn sc (p.take i)).length=i:=by
  rw[ko fun x hx=>hp x (Ey hx),En];omega
 by_cases hlt:i<p.length
 ·obtain⟨x,hx⟩:=gex hlt
  have hx':(p.map ii)[i]?=some (ii x):=aw hx;obtain⟨hx0,hx1⟩:=hp x (DU hx);obtain⟨y,hy⟩:∃y,sc[x.toNat]?=some y:=⟨_,DT (by omega)⟩
  have hy':=nP hy;have hst:=tX hx hy;have hlt':(i:Int)<p.length:=by omega
  have hzp':zp≠.n:=fun e=>by rw[hzp e]at hlt;simp at hlt
  have hzs':zs≠.n:=fun e=>by rw[bd hzs e]at hx1;simp at hx1;omega
  have e4:=wIs i (by omega)
  have l1:i+1<=maxLen:=by unfold maxLen;omega
  have l2:(i+1)*40<=140737488355328:=by omega
  have hd1:decide (i+1=0)=false:=by simp
  generalize scn sc (p.take i)=A at hst hlen ⊢;repeat with_reducible first|refine nz aa ?_|apply ny;simp only[f65,hx',hx0,hx1,hy',hlt',hzp',hzs',e4,l1,l2,hlen,go_sem];rfl
  refine ak.t 5 [8,7,6,4,3,2] hlt (by simp only[aA,aF,an,aK,bJ,az,go_sem]) (by rw[hst,Ec];first|(simp only[hd1,go_sem];first|done|rfl)|rfl)
 ·obtain rfl:i=p.length:=by omega
  rw[Eg]at hlen ⊢;have hlt':¬(p.length:Int)<p.length:=by omega
  repeat with_reducible first|refine nz aa ?_|apply ny;simp only[f65,hlt',go_sem];rfl
  refine⟨rfl,rfl,_,rfl,?_⟩;unfold pM;rw[hlen];exact pH (id:=4) (z:=decide (p.length=0)) (e:=151) (k:=5) (frz:=false) (es:=(scn sc p).map cH) rfl (ay _) (by rw[DX,hlen]) _ _ _ _ _ _ _
abbrev sj(s:Sty)(n:Nt)(zp:Z)(p:List Int):List PV:=[ii s.e,.sl s.zs (s.sc.map bF),.sl s.zr (s.rz.map aT),ii n.b,ii n.w0.1,ii n.w0.2,ii n.w1.1,ii n.w1.2,ii n.w2.1,ii n.w2.2,.sl zp (p.map ii)]
theorem n9(s:Sty)(n:Nt)(zp:Z)(p:List Int):ad (sj s n zp p)=true:=by simp[ad,PV.closed,ap,ao,ac]
theorem u7(s:Sty)(hok:s.ok=true)(n:Nt)(zp:Z)(p:List Int)(hzp:zp=.n->p=[])(hp:∀x∈p,0<=x∧x<s.sc.length)(hl:p.length<=1000):ab prog 124 [.agg (sj s n zp p)] [] (.ret (pM n (scn s.sc p))) []:=by
 refine ab.ofF hTT func124 rfl rfl ?_;have hzs:=s.ok_s hok;obtain⟨e,zs,sc,zr,rz⟩:=s;have hp:∀x∈p,0<=x∧x<sc.length:=hp;have hzs:zOk zs (sc.map bF)=true:=hzs;dsimp only;repeat with_reducible first|refine nz aa ?_|apply ny;simp only[f124,go_sem];rfl
 refine am.keep [20,19,18,3,2,1] (by simp only[go_sem];rfl) ?_
 refine am.nilBox (sg':=[.var (sj ⟨e,zs,sc,zr,rz⟩ n zp p) false,.var [ii 0,ii 0,ii 0,ii 0,ii 0,ii 0,ii 0,.sl .n []] false,.var [ii n.b,ii n.w0.1,ii n.w0.2,ii n.w1.1,ii n.w1.2,ii n.w2.1,ii n.w2.2,.ms 3 0] false,.row true 151 5 [] false]) 2 7 151 5 rfl rfl rfl ?_;refine am.loop (fun i s'=>s'=⟨[(20,ii (i:Int)),(19,ii (p.length:Int)),(18,.sl zp (p.map ii)),(3,.bp 2 0),(2,.bp 1 0),(1,.bp 0 0)],46,[.var (sj ⟨e,zs,sc,zr,rz⟩ n zp p) false,.var [ii 0,ii 0,ii 0,ii 0,ii 0,ii 0,ii 0,.sl .n []] false,.var [ii n.b,ii n.w0.1,ii n.w0.2,ii n.w1.1,ii n.w1.2,ii n.w2.1,ii n.w2.2,.ms 3 i] false,.row (decide (i=0)) 151 5 ((scn sc (p.take i)).map cH) false]⟩) p.length (by first|(simp only[go_sem];first|done|rfl)|rfl) ?_
 rintro i _ hi rfl;have hlen:(scn sc (p.take i)).length=i:=by
  rw[ko fun x hx=>hp x (Ey hx),En];omega
 by_cases hlt:i<p.length
 ·obtain⟨x,hx⟩:=gex hlt
  have hx':(p.map ii)[i]?=some (ii x):=aw hx;obtain⟨hx0,hx1⟩:=hp x (DU hx);obtain⟨y,hy⟩:∃y,sc[x.toNat]?=some y:=⟨_,DT (by omega)⟩
  have hy':=nP hy;have hst:=tX hx hy;have hlt':(i:Int)<p.length:=by omega
  have hzp':zp≠.n:=fun e=>by rw[hzp e]at hlt;simp at hlt
  have hzs':zs≠.n:=fun e=>by rw[bd hzs e]at hx1;simp at hx1;omega
  have e4:=wIs i (by omega)
  have l1:i+1<=maxLen:=by unfold maxLen;omega
  have l2:(i+1)*40<=140737488355328:=by omega
  have hd1:decide (i+1=0)=false:=by simp
  generalize scn sc (p.take i)=A at hst hlen ⊢;repeat with_reducible first|refine nz aa ?_|apply ny;simp only[f124,hx',hx0,hx1,hy',hlt',hzp',hzs',e4,l1,l2,hlen,go_sem];rfl
  refine ak.t 4 [20,19,18,3,2,1] hlt (by simp only[aA,aF,an,aK,bJ,az,go_sem]) (by rw[hst,Ec];first|(simp only[hd1,go_sem];first|done|rfl)|rfl)
 ·obtain rfl:i=p.length:=by omega
  rw[Eg]at hlen ⊢;have hlt':¬(p.length:Int)<p.length:=by omega
  repeat with_reducible first|refine nz aa ?_|apply ny;simp only[f124,hlt',go_sem];rfl
  refine⟨rfl,rfl,_,rfl,?_⟩;unfold pM;rw[hlen];exact pH (id:=3) (z:=decide (p.length=0)) (e:=151) (k:=5) (frz:=false) (es:=(scn sc p).map cH) rfl (ay _) (by rw[DX,hlen]) _ _ _ _ _ _ _
theorem rR(x:Sn)(l:List Sn)(i:Nat)(p:List Int):dT (x::l) i p=((!x.formula||decide ((i:Int)∈p))&&dT l (i+1) p):=rfl
def cfVq:CallF:=aE cf0 111 yh
theorem ky:CallFOk prog cfVq:=ah aa pK
theorem q9(s:Sty)(hok:s.ok=true)(n:Nt)(zp:Z)(p:List Int)(hzp:zOk zp (p.map ii)=true)(hl:p.length<=1000)(hs:s.sc.length<=1000):ab prog 134 [.agg (sj s n zp p)] [] (.ret (.bool (dT s.sc 0 p))) []:=by
 refine ab.of0 hTT func134 rfl rfl ?_;have hzs:=s.ok_s hok;obtain⟨e,zs,sc,zr,rz⟩:=s;have hzs:zOk zs (sc.map bF)=true:=hzs;have hs:sc.length<=1000:=hs;have hdp:aN (.sl zp (p.map ii))=some p:=aI hzp;have hpm:p.length<=maxLen:=by unfold maxLen;omega
 have hcp:=ac p;dsimp only;repeat with_reducible first|refine nz aa ?_|apply ny;simp only[f134,go_sem];rfl
 refine am.keep [9,8,7,2,1] (by simp only[go_sem];rfl) ?_
 refine am.loop (fun i s'=>dT sc 0 p=dT (sc.drop i) i p∧s'=⟨[(9,ii (i:Int)),(8,ii (sc.length:Int)),(7,.sl zs (sc.map bF)),(2,.bool false),(1,.bp 0 0)],24,[.var (sj ⟨e,zs,sc,zr,rz⟩ n zp p) false]⟩) sc.length ⟨rfl,by first|(simp only[go_sem];first|done|rfl)|rfl⟩ ?_
 rintro i _ hi ⟨hm,rfl⟩;by_cases hlt:i<sc.length
 ·obtain⟨y,hy⟩:=gex hlt
  have hy':=nP hy;have hlt':(i:Int)<sc.length:=by omega
  have hzs':zs≠.n:=fun e=>by rw[bd hzs e]at hlt;simp at hlt
  have e4:=wIs i (by omega)
  rw[aP hy,rR]at hm;cases hf:y.formula with
  |false =>
   rw[hf]at hy' hm;have hm:dT sc 0 p=dT (sc.drop (i+1)) (i+1) p:=by rw[hm];rfl
   repeat with_reducible first|refine nz ky ?_|apply ny;simp only[f134,cfVq,yh,hy',hlt',hzs',e4,hdp,hpm,hcp,go_sem];rfl
   refine ak.t 1 [9,8,7,2,1] hlt (by simp only[aA,aF,an,az,go_sem]) ⟨hm,by first|(simp only[go_sem];first|done|rfl)|rfl⟩
  |true =>
   rw[hf]at hy' hm;cases hin:decide ((i:Int)∈p)with
   |true =>
    rw[hin]at hm;have hm:dT sc 0 p=dT (sc.drop (i+1)) (i+1) p:=by rw[hm];rfl
    have hin':(i:Int)∈p:=Eu hin;repeat with_reducible first|refine nz ky ?_|apply ny;simp only[f134,cfVq,yh,hy',hlt',hzs',e4,hdp,hpm,hcp,hin,hin',go_sem];rfl
    refine ak.t 1 [9,8,7,2,1] hlt (by simp only[aA,aF,an,az,go_sem]) ⟨hm,by first|(simp only[go_sem];first|done|rfl)|rfl⟩
   |false =>
    rw[hin]at hm;have hm:dT sc 0 p=false:=hm;have hin':¬(i:Int)∈p:=FM hin;rw[hm];repeat with_reducible first|refine nz ky ?_|apply ny;simp only[f134,cfVq,yh,hy',hlt',hzs',e4,hdp,hpm,hcp,hin,hin',go_sem];rfl
    exact⟨rfl,rfl,_,rfl,rfl⟩
 ·obtain rfl:i=sc.length:=by omega
  rw[EL]at hm;have hm:dT sc 0 p=true:=hm;rw[hm];have hlt':¬(sc.length:Int)<sc.length:=by omega
  repeat with_reducible first|refine nz aa ?_|apply ny;simp only[f134,hlt',go_sem];rfl
  exact⟨rfl,rfl,_,rfl,rfl⟩
def c94:Tb_
 |[v,.int .i64 x],sg=>match aN v with
  |some l=>if l.length<=100000 then some (.ret (.bool (decide (x∈l))),sg)else none
  |none=>none
 |_,_=>none
theorem c94_ok:al prog 94 c94:=al.of0 (ent func94 rfl) fun args sg r sg' h=>by
 unfold c94 at h;split at h <;> try (cases h;done)
 split at h <;> try (cases h;done)
 rename_i l h1;split at h <;> cases h
 rename_i hc;obtain⟨z,rfl,hz⟩:=aJ h1;exact⟨_,rfl,rfl,by rw[af,bt];rfl,has_94 z l _ hz hc⟩
def cfVr:CallF:=aE cf0 94 c94
theorem kf:CallFOk prog cfVr:=ah aa c94_ok
theorem ta(s:Sty)(hok:s.ok=true)(zp:Z)(p:List Int)(hzp:zOk zp (p.map ii)=true)(hl:p.length<=1000)(hs:s.sc.length<=1000):ab prog 63 [.agg s.cells,.sl zp (p.map ii)] [] (.ret (.bool (dT s.sc 0 p))) []:=by
 refine ab.of0 hTT func63 rfl rfl ?_;have hzs:=s.ok_s hok;obtain⟨e,zs,sc,zr,rz⟩:=s;have hzs:zOk zs (sc.map bF)=true:=hzs;have hs:sc.length<=1000:=hs;have hdp:aN (.sl zp (p.map ii))=some p:=aI hzp;have hpm:p.length<=100000:=by omega
 have hcp:=ac p;dsimp only[Sty.cells];repeat with_reducible first|refine nz aa ?_|apply ny;simp only[f63,go_sem];rfl
 refine am.keep [5,4,2,1] (by simp only[go_sem];rfl) ?_
 refine am.loop (fun i s'=>dT sc 0 p=dT (sc.drop i) i p∧s'=⟨[(5,ii (i:Int)),(4,.bool false),(2,.bp 0 0),(1,.sl zp (p.map ii))],25,[.var [ii e,.sl zs (sc.map bF),.sl zr (rz.map aT)] false]⟩) sc.length ⟨rfl,by first|(simp only[go_sem];first|done|rfl)|rfl⟩ ?_
 rintro i _ hi ⟨hm,rfl⟩;by_cases hlt:i<sc.length
 ·obtain⟨y,hy⟩:=gex hlt
  have hy':=nP hy;have hlt':(i:Int)<sc.length:=by omega
  have hzs':zs≠.n:=fun e=>by rw[bd hzs e]at hlt;simp at hlt
  have e4:=wIs i (by omega)
  rw[aP hy,rR]at hm;cases hf:y.formula with
  |false =>
   rw[hf]at hy' hm;have hm:dT sc 0 p=dT (sc.drop (i+1)) (i+1) p:=by rw[hm];rfl
   repeat with_reducible first|refine nz kf ?_|apply ny;simp only[f63,cfVr,c94,hy',hlt',hzs',e4,hdp,hpm,hcp,go_sem];rfl
   refine ak.t 1 [5,4,2,1] hlt (by simp only[aA,aF,an,az,go_sem]) ⟨hm,by first|(simp only[go_sem];first|done|rfl)|rfl⟩
  |true =>
   rw[hf]at hy' hm;cases hin:decide ((i:Int)∈p)with
   |true =>
    rw[hin]at hm;have hm:dT sc 0 p=dT (sc.drop (i+1)) (i+1) p:=by rw[hm];rfl
    have hin':(i:Int)∈p:=Eu hin;repeat with_reducible first|refine nz kf ?_|apply ny;simp only[f63,cfVr,c94,hy',hlt',hzs',e4,hdp,hpm,hcp,hin,hin',go_sem];rfl
    refine ak.t 1 [5,4,2,1] hlt (by simp only[aA,aF,an,az,go_sem]) ⟨hm,by first|(simp only[go_sem];first|done|rfl)|rfl⟩
   |false =>
    rw[hin]at hm;have hm:dT sc 0 p=false:=hm;have hin':¬(i:Int)∈p:=FM hin;rw[hm];repeat with_reducible first|refine nz kf ?_|apply ny;simp only[f63,cfVr,c94,hy',hlt',hzs',e4,hdp,hpm,hcp,hin,hin',go_sem];rfl
    exact⟨rfl,rfl,_,rfl,rfl⟩
 ·obtain rfl:i=sc.length:=by omega
  rw[EL]at hm;have hm:dT sc 0 p=true:=hm;rw[hm];have hlt':¬(sc.length:Int)<sc.length:=by omega
  repeat with_reducible first|refine nz aa ?_|apply ny;simp only[f63,hlt',go_sem];rfl
  exact⟨rfl,rfl,_,rfl,rfl⟩
theorem vL(s:Sty)(hok:s.ok=true)(hsc:ScOk s.sc)(zp:Z)(p:List Int)(hzp:zp=.n->p=[])(hp:∀x∈p,0<=x∧x<s.sc.length)(hl:p.length<=1000):ab prog 64 [.agg s.cells,.sl zp (p.map ii)] [] (.ret (.bool (un (scn s.sc p)))) []:=by
 refine ab.of0 hTT func64 rfl rfl ?_;have hzs:=s.ok_s hok;obtain⟨e,zs,sc,zr,rz⟩:=s;have hzs:zOk zs (sc.map bF)=true:=hzs;have hp:∀x∈p,0<=x∧x<sc.length:=hp;have hsc:ScOk sc:=hsc;have hLl:(scn sc p).length=p.length:=ko hp;have hLg:=fun i x y=>ze (sc:=sc) (p:=p) (i:=i) (x:=x) (y:=y) hp
 have hso:=scn_ok hsc p;dsimp only[Sty.cells];generalize scn sc p=L at hLl hLg hso ⊢;unfold un;repeat with_reducible first|refine nz aa ?_|apply ny;simp only[f64,go_sem];rfl
 refine am.keep [6,5,4,2,1] (by simp only[go_sem];rfl) ?_
 refine am.loop (fun i s'=>kZ 0 L=kZ (if i=0 then 0 else(match L[i-1]? with|some y=>y.part|none=>0)) (L.drop i)∧s'=⟨[(6,ii (i:Int)),(5,ii (bI (L.take i):Nat)),(4,.bool false),(2,.bp 0 0),(1,.sl zp (p.map ii))],50,[.var [ii e,.sl zs (sc.map bF),.sl zr (rz.map aT)] false]⟩) p.length ⟨rfl,by first|(simp only[go_sem];first|done|rfl)|rfl⟩ ?_
 rintro i _ hi ⟨hm,rfl⟩;have hlo:=pF (L.take i);rw[En]at hlo;by_cases hlt:i<p.length
 ·obtain⟨x,hx⟩:=gex hlt
  have hx':(p.map ii)[i]?=some (ii x):=aw hx;obtain⟨hx0,hx1⟩:=hp x (DU hx);obtain⟨y,hy⟩:∃y,sc[x.toNat]?=some y:=⟨_,DT (by omega)⟩
  have hy':=nP hy;have hL:=hLg i x y hx hy;have hyo:=hso y (DU hL);have hlt':(i:Int)<p.length:=by omega
  have hzp':zp≠.n:=fun e=>by rw[hzp e]at hlt;simp at hlt
  have hzs':zs≠.n:=fun e=>by rw[bd hzs e]at hx1;simp at hx1;omega
  have e4:=wIs i (by omega)
  have hst:=kj hL;have e5:IntKind.i64.wrap ((bI (L.take i):Int)+1)=((bI (L.take i)+1:Nat):Int):=ai (by omega) (by omega)
  rw[aP hL,kZ]at hm;have hnx:(if i+1=0 then(0:Int)else(match L[i+1-1]? with|some y=>y.part|none=>0))=y.part:=by
   rw[D5 (by omega),Nat.add_sub_cancel,hL]
  generalize bI (L.take i)=q at hst e5 hlo ⊢;rcases FH i with hi0|hpos
  ·have hm:kZ 0 L=kZ y.part (L.drop (i+1)):=by
    rw[hm,DZ hi0,Ej hyo.1,EJ]
   have hg0:((i:Int)>0)=False:=by simp[hi0]
   have hg1:(0<(i:Int))=False:=by simp[hi0]
   cases hlz:y.loose with
   |false =>
    rw[hlz]at hy' hst;repeat with_reducible first|refine nz aa ?_|apply ny;simp only[f64,hx',hx0,hx1,hy',hlt',hzp',hzs',e4,hg0,hg1,go_sem];rfl
    refine ak.t 1 [6,5,4,2,1] hlt (by simp only[aA,aF,an,az,go_sem]) ⟨by rw[hnx];exact hm,by rw[hst];first|(simp only[go_sem];first|done|rfl)|rfl⟩
   |true =>
    rw[hlz]at hy' hst;repeat with_reducible first|refine nz aa ?_|apply ny;simp only[f64,hx',hx0,hx1,hy',hlt',hzp',hzs',e4,e5,hg0,hg1,go_sem];rfl
    refine ak.t 1 [6,5,4,2,1] hlt (by simp only[aA,aF,an,az,go_sem]) ⟨by rw[hnx];exact hm,by rw[hst];first|(simp only[go_sem];first|done|rfl)|rfl⟩
  ·obtain⟨k,rfl⟩:∃k,i=k+1:=⟨i-1,by omega⟩
   obtain⟨x2,hx2⟩:∃x,p[k]?=some x:=⟨_,DT (by omega)⟩
   have hx2':(p.map ii)[k]?=some (ii x2):=aw hx2;obtain⟨hx20,hx21⟩:=hp x2 (DU hx2);obtain⟨y2,hy2⟩:∃y,sc[x2.toNat]?=some y:=⟨_,DT (by omega)⟩
   have hy2':=nP hy2;have hL2:=hLg k x2 y2 hx2 hy2;have hk':(k:Int)<p.length:=by omega
   have e6:IntKind.i64.wrap (((k+1:Nat):Int)-1)=(k:Int):=by
    rw[show((k+1:Nat):Int)-1=(k:Int)by omega]
    exact ai (by omega) (by omega)
   have hg0:((k+1:Nat):Int)>0:=by omega
   have hg1:0<((k+1:Nat):Int):=by omega
   rw[D5 (by omega),Nat.add_sub_cancel,hL2]at hm
   have hm:kZ 0 L=(decide (y2.part<=y.part)&&kZ y.part (L.drop (k+1+1))):=hm;by_cases hle:y2.part<=y.part
   ·have hlt2:¬y.part<y2.part:=by omega
    rw[Ej hle,EJ]at hm;cases hlz:y.loose with
    |false =>
     rw[hlz]at hy' hst;repeat with_reducible first|refine nz aa ?_|apply ny;simp only[f64,hx',hx0,hx1,hy',hx2',hx20,hx21,hy2',hk',hlt',hzp',hzs',e4,e6,hg0,hg1,hlt2,go_sem];rfl
     refine ak.t 1 [6,5,4,2,1] hlt (by simp only[aA,aF,an,az,go_sem]) ⟨by rw[hnx];exact hm,by rw[hst];first|(simp only[go_sem];first|done|rfl)|rfl⟩
    |true =>
     rw[hlz]at hy' hst;repeat with_reducible first|refine nz aa ?_|apply ny;simp only[f64,hx',hx0,hx1,hy',hx2',hx20,hx21,hy2',hk',hlt',hzp',hzs',e4,e5,e6,hg0,hg1,hlt2,go_sem];rfl
     refine ak.t 1 [6,5,4,2,1] hlt (by simp only[aA,aF,an,az,go_sem]) ⟨by rw[hnx];exact hm,by rw[hst];first|(simp only[go_sem];first|done|rfl)|rfl⟩
   ·have hlt2:y.part<y2.part:=by omega
    rw[Ei hle,Gj]at hm;rw[hm,Gj];repeat with_reducible first|refine nz aa ?_|apply ny;simp only[f64,hx',hx0,hx1,hy',hx2',hx20,hx21,hy2',hk',hlt',hzp',hzs',e4,e6,hg0,hg1,hlt2,go_sem];rfl
    exact⟨rfl,rfl,_,rfl,rfl⟩
 ·obtain rfl:i=p.length:=by omega
  rw[Ef (by omega),show kZ _ ([]:List Sn)=true from rfl]at hm
  rw[hm,EJ,EQ (by omega)]
  have hlt':¬(p.length:Int)<p.length:=by omega
  by_cases h6:bI L<=6
  ·have h6':(bI L:Int)<=6:=by omega
   rw[Ej h6];repeat with_reducible first|refine nz aa ?_|apply ny;simp only[f64,hlt',h6',go_sem];rfl
   exact⟨rfl,rfl,_,rfl,rfl⟩
  ·have h6':¬(bI L:Int)<=6:=by omega
   rw[Ei h6];repeat with_reducible first|refine nz aa ?_|apply ny;simp only[f64,hlt',h6',go_sem];rfl
   exact⟨rfl,rfl,_,rfl,rfl⟩
end Go.Pv
