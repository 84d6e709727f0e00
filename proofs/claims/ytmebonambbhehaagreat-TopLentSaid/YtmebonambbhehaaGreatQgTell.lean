import Derived.Test.YtmebonambbhehaaGreatQgEnds
set_option linter.all false
open Go.Proofs.Tryz
namespace Go.Pv
open Go Go.RowKit Go.Proofs
set_option maxRecDepth 200000
set_option maxHeartbeats 8000000
def cfP:CallF:=aE (aE cf0 86 (Lu c147)) 87 (Lu c148)
theorem oH:CallFOk prog cfP:=ah (ah aa yy.snap) c148_ok.snap
abbrev ssP(s:Sty)(n:Nat)(mm ll:List Int):List Box:=[.var s.cells false,.var [ii 0,.sl .n [],.sl .n [],.sl .n [],.sl .n []] false,.row false 3 1 (mm.map ii) false,.row false 3 1 (ll.map ii) false,.var [ii s.e,.sl s.zs (s.sc.map bF),.sl s.zr (s.rz.map aT),.ms 2 n,.ms 3 n] false]
theorem rep_pad(g:Nat×Nat->Nat)(n:Nat):List.replicate n (PV.int .i64 0)=(cE g n []).map ii:=by unfold cE;simp
theorem Ak{sg:List Box}{i j n m:Nat}{e1 e2:TypeId}{k1 k2:Nat}{es1 es2:List PV}{x:PV}{zs zr:Z}{ss rr:List PV}(h1:sg[i]?=some (.row false e1 k1 es1 false))(h2:(sg.set i (.row false e1 k1 es1 true))[j]?=some (.row false e2 k2 es2 false))(hn:n=es1.length)(hm:m=es2.length)(c1:ad es1=true)(c2:ad es2=true)(hx:x.closed=true)(hs:ad ss=true)(hr:ad rr=true):
 bR 0 (.agg [x,.sl zs ss,.sl zr rr,.ms i n,.ms j m]) sg=(.agg [x,.sl zs ss,.sl zr rr,.sl .a es1,.sl .a es2],[]):=by
 refine A6 ?_ (by simp[PV.closed,ad,c1,c2,hx,hs,hr])
 have hy:(PV.sl zs ss).closed=true:=hs;have hz:(PV.sl zr rr).closed=true:=hr;rw[frzX_agr (n:=7) (by simp[ad,PV.closed])]
 simp only[cO,aZ (n:=6) hx,aZ (n:=6) hy,aZ (n:=6) hz,frzX_row (n:=5) h1 c1 hn,frzX_row (n:=5) h2 c2 hm];rfl
theorem tell_88(s:Sty)(hok:s.ok=true)(hP:PartsOk s.e s.sc s.rl)(n:Nat)(hn:s.e+s.sc.length=n)(hn1:n<=14):ab prog 67 [.agg s.cells] [] (.ret (.agg (gk s.e (.sl s.zs (s.sc.map bF)) (.sl s.zr (s.rz.map aT)) ((fm (min 1000) id s.e.toNat n s.rl n).map fun p=>(p.1:Int)) (.sl .a (((fm (min 1000) id s.e.toNat n s.rl n).map fun p=>(p.2:Int)).map ii))))) []:=by
 refine ab.ofF hTT func67 rfl rfl ?_;repeat with_reducible first|(fail_if_success refine am.seq (x:=.region 1 _ _) ?_);(fail_if_success show am _ (.region 1 _ _) _ _);refine nz aa ?_|apply ny;simp only[f67,go_sem];rfl
 have e1:IntKind.i64.wrap (s.e+(s.sc.length:Int))=(n:Int):=by rw[hn];exact ai (by omega) (by omega)
 have e2:IntKind.i64.wrap ((n:Int)-1)=(n:Int)-1:=ai (by omega) (by omega)
 have r1:¬(n:Int)<0:=by omega
 have r2:8*n<=281474976710656:=by omega
 have r3:n<=maxLen:=by unfold maxLen;omega
 repeat with_reducible first|refine nz aa ?_|apply ny;simp only[f67,e1,e2,r1,r2,r3,go_sem];rfl
 refine am.keep [5,4,2,1,0] (by simp only[go_sem];rfl) ?_
 obtain⟨T,hT⟩:∃T:Nat->List (Nat×Nat),T=fm (min 1000) id s.e.toNat n s.rl:=⟨_,rfl⟩;refine am.loop (fun i s'=>s'=⟨[(5,ii ((n:Int)-1-(i:Nat))),(4,.bp 4 0),(2,.bp 1 0),(1,.bp 0 0),(0,.agg s.cells)],108,ssP s n (cE Prod.fst (n-i) (T i)) (cE Prod.snd (n-i) (T i))⟩) n (by
  rw[hT];simp only[fm,Int.sub_zero,go_sem];rw[show cE Prod.snd n []=cE Prod.fst n []from rfl,rep_pad Prod.fst n]) ?_
 rintro i _ hi rfl;by_cases hlt:i<n
 ·obtain⟨m,hm⟩:∃m,n=m+1+i:=⟨n-1-i,by omega⟩
  have em:(n:Int)-1-(i:Nat)=(m:Nat):=by omega
  have hmn:m<n:=by omega
  have hmn':(m:Int)<n:=by omega
  have en:n-i=m+1:=by omega
  have e3:IntKind.i64.wrap ((m:Int)-1)=(n:Int)-1-((i+1:Nat):Int):=by rw[ai (by omega) (by omega)];omega
  have hTi:(T i).length=i:=by rw[hT];exact f7 _ _ _ _ _ i
  have hTs:T (i+1)=(if s.e.toNat<=m then(1,1)else nr (min 1000) id m (T i) s.rl)::T i:=by rw[hT,fm,show n-(i+1)=m by omega]
  rw[em,en,jN rfl,jN rfl];have l1:∀a,(cE Prod.fst m (a::T i)).length=n:=fun a=>by rw[L1,Ek,hTi];omega
  have l2:∀a,(cE Prod.snd m (a::T i)).length=n:=fun a=>by rw[L1,Ek,hTi];omega
  have s1:∀a a',((cE Prod.fst m (a::T i)).map ii).set m (ii (a':Nat×Nat).1)=(cE Prod.fst m (a'::T i)).map ii:=fun a a'=>by rw[←List.map_set,lI]
  have s2:∀a a',((cE Prod.snd m (a::T i)).map ii).set m (ii (a':Nat×Nat).2)=(cE Prod.snd m (a'::T i)).map ii:=fun a a'=>by rw[←List.map_set,lI]
  have k1:∀a,((cE Prod.fst m (a::T i)).map ii)[m]?=some (ii (a:Nat×Nat).1):=fun a=>by rw[eh (by rw[l1];exact hmn),oO]
  have k2:∀a,((cE Prod.snd m (a::T i)).map ii)[m]?=some (ii (a:Nat×Nat).2):=fun a=>by rw[eh (by rw[l2];exact hmn),oO]
  by_cases hme:s.e<=m
  ·have t1:=s1 (0,0) (1,1)
   have t2:=s2 (0,0) (1,1);simp only[Int.natCast_one]at t1 t2;repeat with_reducible first|refine nz aa ?_|apply ny;simp only[f67,e3,hme,hmn,hmn',l1,l2,k1,k2,t1,t2,d9,EO,go_sem];rfl
   refine ak.k [5,4,2,1,0] hlt (by simp only[go_sem];rfl) ?_
   rw[hTs,DZ (by omega),show n-(i+1)=m by omega]
  ·have hme':¬(s.e.toNat<=m):=by omega
   obtain⟨A,hA⟩:∃A:Nat->Nat×Nat,A=fun j=>(s.rl.take j).foldl (cM (min 1000) id m (T i)) (0,0):=⟨_,rfl⟩
   have hA0:A 0=(0,0):=by rw[hA];rfl
   have hAs:∀j q,s.rz[j]?=some q->A (j+1)=cM (min 1000) id m (T i) (A j) q.2:=fun j q h=>by
    rw[hA]
    show(s.rl.take (j+1)).foldl _ _=_
    rw[Ev,Sty.rl_get h,FC];rfl
   have hAn:A s.rz.length=nr (min 1000) id m (T i) s.rl:=by
    rw[hA]
    show(s.rl.take s.rz.length).foldl _ _=_
    rw[EQ (by rw[s.rl_len];omega)]
    rfl
   rw[←hA0];repeat with_reducible first|refine nz aa ?_|apply ny;simp only[f67,hme,hmn',EO,go_sem];rfl
   refine am.keep [45,44,43,5,4,2,1,0] (by simp only[go_sem];rfl) ?_
   refine am.loop (fun j s'=>s'=⟨[(45,ii (j:Nat)),(44,ii s.rz.length),(43,.sl s.zr (s.rz.map aT)),(5,ii m),(4,.bp 4 0),(2,.bp 1 0),(1,.bp 0 0),(0,.agg s.cells)],108,ssP s n (cE Prod.fst m (A j::T i)) (cE Prod.snd m (A j::T i))⟩) s.rz.length (by simp only[go_sem]) ?_
   rintro j _ hj rfl;by_cases hjl:j<s.rz.length
   ·obtain⟨q,hq⟩:=gex hjl
    have hq':(s.rz.map aT)[j]?=some (.agg [ii q.2.frm,.sl q.1 (q.2.to.map ii)]):=aw hq;have hjl':(j:Int)<s.rz.length:=by omega
    have hqm:q∈s.rz:=DU hq;have hrq:=hP.rr q.2 (Ex.2 ⟨q,hqm,rfl⟩);have hzr':s.zr≠.n:=fun e=>by rw[bd (Sty.ok_r hok) e]at hjl;simp at hjl
    have hqz:=nQ (Sty.ok_z hok) hqm;have hqn:q.1≠.n:=fun e=>by have:=bd hqz e;rw[this]at hrq;simp at hrq
    have hr10:=hP.r10;rw[s.rl_len]at hr10;have e4:=wIs j (by omega)
    have hAj:=hAs j q hq;have hgt:q.2.frm=m->∀x∈q.2.to,(m:Int)<x:=fun h x hx=>by have:=(hrq.2.2.2.2 x hx).1;omega
    by_cases hfr:q.2.frm=m
    ·have hfr':(q.2.frm != (m:Int))=false:=by rw[hfr];simp
     have hgt:=hgt hfr;have hen:=ends_pad m (A j) (T i) q.2 hgt;obtain⟨mm,hmm⟩:∃mm,mm=cE Prod.fst m (A j::T i):=⟨_,rfl⟩;obtain⟨ll,hll⟩:∃ll,ll=cE Prod.snd m (A j::T i):=⟨_,rfl⟩;have k1:=k1 (A j);have k2:=k2 (A j);have s1:=s1 (A j);have s2:=s2 (A j);have l1:=l1 (A j);have l2:=l2 (A j);rw[←hmm]at k1 s1 l1 hen ⊢;rw[←hll]at k2 s2 l2 ⊢;have hdt:=rA s.e (.sl s.zs (s.sc.map bF)) (.sl s.zr (s.rz.map aT)) mm (.sl .a (ll.map ii));have hdq:mJ (.agg [ii q.2.frm,.sl q.1 (q.2.to.map ii)])=some q:=jR q;have hq3:q.2.to.length<=1000:=by omega
     have hq4:(q.2.to.all fun x=>decide (0<=x∧x<mm.length))=true:=D7.2 fun x hx=>Ej (by have:=hgt x hx;have:=hrq.2.2.2.2 x hx;omega)
     rw[l1]at hq4;cases he:lh (T i) (m+1) q.2 with
     |false =>
      rw[he]at hen;have hAe:A (j+1)=A j:=by rw[hAj,cM,D5 (fun h=>by rw[he]at h;cases h.2)]
      repeat with_reducible first|refine nz oH ?_|apply ny;simp only[f67,hq',hjl',hzr',hfr',e4,cfP,Lu,c147,hdt,hdq,hen,hq3,hq4,hqz,l1,l2,cV,ap,ao,go_sem];rfl
      refine ak.t 5 [45,44,43,5,4,2,1,0] hjl (by simp only[az,aA,aF,an,go_sem]) (by rw[hAe,←hmm,←hll];simp only[go_sem])
     |true =>
      rw[he]at hen;repeat with_reducible first|refine nz oH ?_|apply ny;simp only[f67,hq',hjl',hzr',hfr',e4,cfP,Lu,c147,hdt,hdq,hen,hq3,hq4,hqz,l1,l2,cV,ap,ao,go_sem];rfl
      refine am.nilRow 8 3 1 (by simp only[go_sem]) (by simp only[go_sem];rfl) (by simp only[go_sem];rfl) ?_
      refine am.keep [62,61,60,9,8,45,44,43,5,4,2,1,0] (by simp only[go_sem];rfl) ?_
      obtain⟨fM,hfM⟩:∃fM:Int->Int,fM=fun x=>mm.getD x.toNat 0:=⟨_,rfl⟩
      obtain⟨fL,hfL⟩:∃fL:Int->Int,fL=fun x=>ll.getD x.toNat 0:=⟨_,rfl⟩
      have hbT:=tab_bd (e:=s.e.toNat) (n:=n) (rl:=s.rl) (fun r hr=>(hP.rr r hr).2.2.2.1) i
      rw[←hT]at hbT;have h4i:4 ^ i<=4 ^ 13:=FA (by omega) (by omega)
      have h13:(4:Nat) ^ 13=67108864:=by decide
      rw[h13]at h4i;have hfMb:∀x∈q.2.to,0<=fM x∧fM x<=1000:=fun x hx=>by
       have h1:=et (g:=Prod.fst) rfl m (A j) (T i) x (hgt x hx);have h2:=(rj hbT (m+1) x).1;rw[←hmm]at h1;rw[hfM];show 0<=mm.getD x.toNat 0∧mm.getD x.toNat 0<=1000;rw[h1];omega
      have hfLb:∀x∈q.2.to,0<=fL x∧fL x<=67108864:=fun x hx=>by
       have h1:=et (g:=Prod.snd) rfl m (A j) (T i) x (hgt x hx);have h2:=(rj hbT (m+1) x).2;rw[←hll]at h1;rw[hfL];show 0<=ll.getD x.toNat 0∧ll.getD x.toNat 0<=67108864;rw[h1];omega
      have hAb:=tu (m:=m) hbT (s.rl.take j) (0,0) (fun r hr=>(hP.rr r (Ey hr)).2.2.2.1) ⟨by omega,by omega⟩
      have hAb:(A j).1<=1000∧(A j).2<=4*4 ^ i:=by rw[hA];exact hAb
      have hsb:∀k,0<=((q.2.to.take k).map fL).sum∧((q.2.to.take k).map fL).sum<=4*67108864:=fun k=>by
       have h1:=sT (D:=67108864) ((q.2.to.take k).map fL) fun y hy=>by
        obtain⟨x,hx,rfl⟩:=Ex.1 hy;exact hfLb x (Ey hx)
       have h2:((q.2.to.take k).map fL).length<=4:=by rw[DX,En];omega
       omega
      refine am.loop (fun k s'=>s'=⟨[(62,ii (k:Nat)),(61,ii q.2.to.length),(60,.sl q.1 (q.2.to.map ii)),(9,ii ((q.2.to.take k).map fL).sum),(8,.ms 6 k),(45,ii (j:Nat)),(44,ii s.rz.length),(43,.sl s.zr (s.rz.map aT)),(5,ii m),(4,.bp 4 0),(2,.bp 1 0),(1,.bp 0 0),(0,.agg s.cells)],108,
       [.var s.cells false,.var [ii 0,.sl .n [],.sl .n [],.sl .n [],.sl .n []] false,.row false 3 1 (mm.map ii) false,.row false 3 1 (ll.map ii) false,.var [ii s.e,.sl s.zs (s.sc.map bF),.sl s.zr (s.rz.map aT),.ms 2 n,.ms 3 n] false,.var [ii q.2.frm,.sl q.1 (q.2.to.map ii)] false,.row (decide (k=0)) 3 1 (((q.2.to.take k).map fM).map ii) false]⟩) q.2.to.length (by simp only[go_sem];rfl) ?_
      rintro k _ hk rfl;by_cases hkl:k<q.2.to.length
      ·obtain⟨x,hx⟩:=gex hkl
       have hx':(q.2.to.map ii)[k]?=some (ii x):=aw hx;have hkl':(k:Int)<q.2.to.length:=by omega
       have hxm:=DU hx;have hx0:0<=x:=by have:=hgt x hxm;omega
       have hxn:x<n:=by have:=(hrq.2.2.2.2 x hxm).2;omega
       have hgM:(mm.map ii)[x.toNat]?=some (ii (fM x)):=by rw[hfM];exact eh (by omega)
       have hgL:(ll.map ii)[x.toNat]?=some (ii (fL x)):=by rw[hfL];exact eh (by omega)
       have htl:(q.2.to.take k).length=k:=by rw[En];omega
       have e5:=wIs k (by omega)
       have hst:=sum_take (f:=fL) hx;have hmt:=map_take (f:=fM) hx;have hsk:=hsb k;have hsk1:=hsb (k+1);rw[hst]at hsk1;have e6:IntKind.i64.wrap (((q.2.to.take k).map fL).sum+fL x)=((q.2.to.take k).map fL).sum+fL x:=ai (by omega) (by omega)
       have q1:(k+1)*8<=140737488355328:=by omega
       have q2:k+1<=maxLen:=by unfold maxLen;omega
       have hd1:decide (k+1=0)=false:=by simp
       have hl7:bD 7 (((q.2.to.take k).map fM).map ii++[ii (fM x)])=true:=by
        have:=aF 7 ((q.2.to.take k).map fM++[fM x])
        rw[Ec]at this;exact this
       repeat with_reducible first|refine nz aa ?_|apply ny;simp only[f67,hx',hkl',hqn,hx0,hxn,hgM,hgL,htl,e5,e6,q1,q2,l1,l2,go_sem];rfl
       refine ak.t 7 [62,61,60,9,8,45,44,43,5,4,2,1,0] hkl (by simp only[az,aA,aF,an,hl7,go_sem]) (by rw[hst,hmt,hd1,Ec];simp only[go_sem])
      ·have hkl':¬(k:Int)<q.2.to.length:=by omega
       obtain rfl:k=q.2.to.length:=by omega
       have hsk:=hsb q.2.to.length;rw[Eg]at hsk ⊢;have hd0:decide (q.2.to.length=0)=false:=by simp;exact fun e=>by rw[e]at hrq;simp at hrq
       obtain⟨hR1,hR2⟩:=rule_pad (a:=A j) hfr hgt he;rw[←hmm,←hAj]at hR1;rw[←hll,←hAj]at hR2;have s1:=s1 (A (j+1));have s2:=s2 (A (j+1));have hfM':(fun x:Int=>mm.getD x.toNat 0)=fM:=hfM.symm
       have hfL':(fun x:Int=>ll.getD x.toNat 0)=fL:=hfL.symm
       rw[hfM']at hR1;rw[hfL']at hR2;have hML:(q.2.to.map fM).length=q.2.to.length:=DX ..;have hMb:∀y∈q.2.to.map fM,0<=y∧y<=1000:=fun y hy=>by
        obtain⟨x,hx,rfl⟩:=Ex.1 hy;exact hfMb x hx
       have hwb:=vp (l:=q.2.to.map fM) fun y hy=>(hMb y hy).1
       have hcw:=c148_at (sg:=[]) (by rw[hML];omega) hMb
       have hcl:=cV (q.2.to.map fM);generalize q.2.to.map fM=LM at hML hwb hcw hcl hR1 ⊢;generalize (q.2.to.map fL).sum=sL at hsk hR2 ⊢;rw[min_if]at hR1;rw[max_if]at hR2;have e7:IntKind.i64.wrap (((A j).1:Int)+iV LM)=((A j).1:Int)+iV LM:=ai (by omega) (by omega)
       rw[hR1]at s1;rw[hR2]at s2;rw[hd0];repeat with_reducible first|(fail_if_success refine am.seq (x:=.region 20 _ _) ?_);(fail_if_success show am _ (.region 20 _ _) _ _);refine nz aa ?_|apply ny;simp only[f67,hkl',go_sem];rfl
       repeat with_reducible first|refine nz oH ?_|apply ny;simp only[f67,cfP,Lu,hcw,hcl,hML,hmn',k1,k2,s1,s2,d9,e4,e7,l1,l2,cV,go_sem];rfl
       refine ak.t 5 [45,44,43,5,4,2,1,0] hjl (by simp only[az,aA,aF,an,go_sem]) (by simp only[go_sem])
    ·have hfr':(q.2.frm != (m:Int))=true:=eC hfr
     have hAe:A (j+1)=A j:=by rw[hAj,cM,D5 (fun h=>hfr h.1)]
     repeat with_reducible first|refine nz aa ?_|apply ny;simp only[f67,hq',hjl',hzr',hfr',e4,go_sem];rfl
     refine ak.t 5 [45,44,43,5,4,2,1,0] hjl (by simp only[az,aA,aF,an,go_sem]) (by rw[hAe];simp only[go_sem])
   ·have hjl':¬(j:Int)<s.rz.length:=by omega
    obtain rfl:j=s.rz.length:=by omega
    rw[hAn];repeat with_reducible first|refine nz aa ?_|apply ny;simp only[f67,hjl',e3,go_sem];rfl
    refine ak.k [5,4,2,1,0] hlt (by simp only[go_sem];rfl) ?_
    rw[hTs,D5 hme',show n-(i+1)=m by omega]
 ·obtain rfl:i=n:=by omega
  have hge:¬(0:Int)<=(i:Int)-1-(i:Nat):=by omega
  have l1:(cE Prod.fst 0 (T i)).length=i:=by rw[L1,hT,f7];omega
  have l2:(cE Prod.snd 0 (T i)).length=i:=by rw[L1,hT,f7];omega
  have hp0:∀g,cE g 0 (T i)=(T i).map fun p=>((g p:Nat):Int):=fun g=>rfl
  rw[F9];repeat with_reducible first|refine nz aa ?_|apply ny;simp only[f67,hge,EO,go_sem];rfl
  refine⟨rfl,rfl,.agg [ii s.e,.sl s.zs (s.sc.map bF),.sl s.zr (s.rz.map aT),.ms 2 i,.ms 3 i],rfl,?_⟩;rw[Ak (es1:=(cE Prod.fst 0 (T i)).map ii) (es2:=(cE Prod.snd 0 (T i)).map ii) rfl rfl (by rw[DX,l1]) (by rw[DX,l2]) (cV _) (cV _) rfl (ap _) (ao _),hp0,hp0,hT]
def cfN:CallF:=aE cf0 105 cin
theorem bM:CallFOk prog cfN:=ah aa yW
theorem yw(x:Sn):ab prog 106 [bF x] [] (.ret (.bool (!snB x))) []:=by
 refine ab.of0 hTT func106 rfl rfl ?_;unfold bF snB;cases a1:inB x.part 0 2
 ·repeat with_reducible first|refine nz bM ?_|apply ny;simp only[f106,cfN,cin,a1,go_sem];rfl
  exact⟨rfl,rfl,_,rfl,rfl⟩
 cases a2:inB x.least 1 240
 ·repeat with_reducible first|refine nz bM ?_|apply ny;simp only[f106,cfN,cin,a1,a2,go_sem];rfl
  exact⟨rfl,rfl,_,rfl,rfl⟩
 cases a3:inB x.most x.least 240
 ·repeat with_reducible first|refine nz bM ?_|apply ny;simp only[f106,cfN,cin,a1,a2,a3,go_sem];rfl
  exact⟨rfl,rfl,_,rfl,rfl⟩
 ·repeat with_reducible first|refine nz bM ?_|apply ny;simp only[f106,cfN,cin,a1,a2,a3,go_sem];rfl
  exact⟨rfl,rfl,_,rfl,rfl⟩
theorem bad1_194(s:Sty)(n frm:Int)(z:Z)(to:List Int)(hf:0<=frm∧frm<=1000)(he:-1000<=s.e∧s.e<=1000)(hs:s.sc.length<=1000):ab prog 108 [ii n,.ip [ii frm,.sl z (to.map ii)],.ip s.cells] [] (.ret (.bool (!inB n (frm+1) (s.e+s.sc.length-1)))) []:=by
 refine ab.of0 hTT func108 rfl rfl ?_;have e1:IntKind.i64.wrap (frm+1)=frm+1:=ai (by omega) (by omega)
 have e2:IntKind.i64.wrap (s.e+s.sc.length)=s.e+s.sc.length:=ai (by omega) (by omega)
 have e3:IntKind.i64.wrap (s.e+s.sc.length-1)=s.e+s.sc.length-1:=ai (by omega) (by omega)
 repeat with_reducible first|refine nz bM ?_|apply ny;simp only[f108,cfN,cin,e1,e2,e3,go_sem];rfl
 exact⟨rfl,rfl,_,rfl,rfl⟩
theorem l5{α:Type}(p:α->Bool):∀l:List α,(!(l.any fun x=>!p x))=l.all p
 |[]=>rfl
 |a::l=>by rw[GG,Fv,Bool.not_or,Bool.not_not,l5 p l]
theorem bad_193(s:Sty)(q:Rz)(hz:zOk q.1 (q.2.to.map ii)=true)(he:1<=s.e∧s.e<=6)(hs:s.sc.length<=1000):ab prog 107 [aT q,.ip s.cells] [] (.ret (.bool (!rlB s.e (s.e+s.sc.length) q.2))) []:=by
 refine ab.of0 hTT func107 rfl rfl ?_;have e1:IntKind.i64.wrap (s.e-1)=s.e-1:=ai (by omega) (by omega)
 unfold aT rlB;repeat with_reducible first|(fail_if_success refine am.seq (x:=.region 1 _ _) ?_);(fail_if_success show am _ (.region 1 _ _) _ _);refine nz bM ?_|apply ny;simp only[f107,go_sem];rfl
 refine am.fzVar 2 0 rfl rfl rfl rfl ?_;cases a1:inB q.2.frm 0 (s.e-1)
 ·repeat with_reducible first|refine nz bM ?_|apply ny;simp only[f107,cfN,cin,a1,e1,go_sem];rfl
  exact⟨rfl,rfl,_,rfl,rfl⟩
 cases a2:inB q.2.to.length 1 4
 ·repeat with_reducible first|refine nz bM ?_|apply ny;simp only[f107,cfN,cin,a1,a2,e1,go_sem];rfl
  exact⟨rfl,rfl,_,rfl,rfl⟩
 have b1:0<=q.2.frm∧q.2.frm<=s.e-1:=by simp[inB]at a1;omega
 have b2:q.2.to.length<=4:=by simp[inB]at a2;omega
 have hcl:ad [PV.ip [ii q.2.frm,.sl q.1 (q.2.to.map ii)],.ip s.cells]=true:=by simp[ad,PV.closed,cV,ap,ao]
 have h152:=CK (g:=108) (cs:=[.ip [ii q.2.frm,.sl q.1 (q.2.to.map ii)],.ip s.cells]) (S:=[]) q.1 q.2.to (fun n=>!inB n (q.2.frm+1) (s.e+s.sc.length-1)) (ent func108 rfl) (fun b hb=>by cases hb) (ae 0 _ hcl) (bd hz) (by omega)
  (fun x hx=>bad1_194 s x q.2.frm q.1 q.2.to (by omega) (by omega) hs)
 have hltb:bD 0 [PV.sl q.1 (q.2.to.map ii),.fn (.func 108) [] [.ip [ii q.2.frm,.sl q.1 (q.2.to.map ii)],.ip s.cells]]=true:=ae 0 _ (by
  have h1:=cV q.2.to;simp only[ad,PV.closed,h1]at hcl ⊢;simpa using hcl)
 rw[←l5];generalize (q.2.to.any fun n=>!inB n (q.2.frm+1) (s.e+s.sc.length-1))=b at h152 ⊢
 repeat with_reducible first|refine nz (aj bM (ent func47 rfl) h152 hltb) ?_|apply ny;simp only[f107,eA,cfN,cin,a1,a2,e1,bl,go_sem];rfl
 refine⟨rfl,rfl,_,rfl,?_⟩;cases b <;> rfl
theorem sV(s:Sty)(hok:s.ok=true):ab prog 84 [.agg s.cells] [] (.ret (.bool s.parts)) []:=by
 refine ab.of0 hTT func84 rfl rfl ?_;unfold Sty.parts nM;rw[s.rl_len];repeat with_reducible first|(fail_if_success refine am.seq (x:=.region 1 _ _) ?_);(fail_if_success show am _ (.region 1 _ _) _ _);refine nz bM ?_|apply ny;simp only[f84,go_sem];rfl
 refine am.fzVar 1 0 rfl rfl rfl rfl ?_;cases a1:inB s.e 1 6
 ·repeat with_reducible first|refine nz bM ?_|apply ny;simp only[f84,cfN,cin,a1,go_sem];rfl
  exact⟨rfl,rfl,_,rfl,rfl⟩
 cases a2:inB s.sc.length 1 8
 ·repeat with_reducible first|refine nz bM ?_|apply ny;simp only[f84,cfN,cin,a1,a2,go_sem];rfl
  exact⟨rfl,rfl,_,rfl,rfl⟩
 cases a3:inB s.rz.length 1 10
 ·repeat with_reducible first|refine nz bM ?_|apply ny;simp only[f84,cfN,cin,a1,a2,a3,go_sem];rfl
  exact⟨rfl,rfl,_,rfl,rfl⟩
 have b1:1<=s.e∧s.e<=6:=by simpa[inB]using a1
 have b2:s.sc.length<=8:=by simp[inB]at a2;omega
 have b3:s.rz.length<=10:=by simp[inB]at a3;omega
 have hcl:=kM s;have h195:=q8 (g:=106) (cs:=[]) (S:=[]) s.zs s.sc (fun x=>!snB x) (ent func106 rfl) (fun b hb=>by cases hb) rfl (bd (Sty.ok_s hok)) (by omega) (fun x _=>yw x)
 have hl195:bD 0 [PV.sl s.zs (s.sc.map bF),.fn (.func 106) [] []]=true:=ae 0 _ (by simp[ad,PV.closed,ap])
 have h196:=sb (g:=107) (cs:=[.ip s.cells]) (S:=[]) s.zr s.rz (fun q=>!rlB s.e (s.e+s.sc.length) q.2) (ent func107 rfl) (fun b hb=>by cases hb) (ae 0 _ (by simpa[ad,PV.closed]using hcl)) (bd (Sty.ok_r hok)) (by omega)
  (fun q hq=>bad_193 s q (nQ (Sty.ok_z hok) hq) b1 (by omega))
 have hl196:bD 0 [PV.sl s.zr (s.rz.map aT),.fn (.func 107) [] [.ip s.cells]]=true:=ae 0 _ (by
  have h1:=ao s.rz;simp only[ad,PV.closed,h1]at hcl ⊢;simpa using hcl)
 have hr:s.rl.all (rlB s.e (s.e+s.sc.length))=!(s.rz.any fun q=>!rlB s.e (s.e+s.sc.length) q.2):=by
  rw[l5 (fun q:Rz=>rlB s.e (s.e+s.sc.length) q.2)]
  unfold Sty.rl;rw[FS];rfl
 rw[hr,←l5];generalize (s.rz.any fun q=>!rlB s.e (s.e+s.sc.length) q.2)=c2 at h196 ⊢
 generalize (s.sc.any fun x=>!snB x)=c1 at h195 ⊢
 cases c1
 ·repeat with_reducible first|refine nz (aj (aj bM (ent func109 rfl) h195 hl195) (ent func110 rfl) h196 hl196) ?_|apply ny;simp only[f84,eA,cfN,cin,a1,a2,a3,bl,go_sem];rfl
  exact⟨rfl,rfl,_,rfl,rfl⟩
 ·repeat with_reducible first|refine nz (aj (aj bM (ent func109 rfl) h195 hl195) (ent func110 rfl) h196 hl196) ?_|apply ny;simp only[f84,eA,cfN,cin,a1,a2,a3,bl,go_sem];rfl
  exact⟨rfl,rfl,_,rfl,rfl⟩
end Go.Pv
