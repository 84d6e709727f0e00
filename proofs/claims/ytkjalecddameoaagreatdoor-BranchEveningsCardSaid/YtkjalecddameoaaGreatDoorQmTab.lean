import Derived.Test.YtkjalecddameoaaGreatDoorQmFit
set_option linter.all false
open Go.Proofs.Tryz
namespace Go.Pv
open Go Go.RowKit Go.Proofs
set_option maxRecDepth 200000
set_option maxHeartbeats 8000000
def BZ:PV->Option (Sty×Nt×List Int)
 |.agg [a,b,c,x0,x1,x2,x3,x4,x5,x6,u]=>match cS (.agg [a,b,c]),gJ (.agg [x0,x1,x2,x3,x4,x5,x6]),aN u with
  |some s,some n,some p=>if vdB s n p=true then some (s,n,p)else none
  |_,_,_=>none
 |_=>none
theorem Bd{v:PV}{s:Sty}{n:Nt}{p:List Int}(h:BZ v=some (s,n,p)):Vd s n p∧∃z,v=.agg (sj s n z p)∧zOk z (p.map ii)=true:=by
 unfold BZ at h;split at h <;> try (cases h;done)
 split at h <;> try (cases h;done)
 rename_i s n p h1 h2 h3;split at h <;> cases h
 rename_i hc;obtain⟨e1,hok⟩:=aM h1;have e2:=dz h2;obtain⟨z,rfl,hz⟩:=aJ h3;cases e1;cases e2;exact⟨vd_of hok hc,z,rfl,zOkI hz⟩
theorem Cy{s:Sty}{n:Nt}{z:Z}{p:List Int}(hok:s.ok=true)(hv:vdB s n p=true)(hz:zOk z (p.map ii)=true):BZ (.agg (sj s n z p))=some (s,n,p):=by
 show(match cS (.agg s.cells),gJ (.agg (ntC n)),aN (.sl z (p.map ii))with
  |some s,some n,some p=>if vdB s n p=true then some (s,n,p)else none
  |_,_,_=>none)=_
 rw[aS s hok,fF n,aI hz];exact DZ hv
theorem BK(s:Sty)(n:Nt)(z:Z)(p:List Int):bD 0 [PV.agg (sj s n z p)]=true:=ae 0 _ (by simp[ad,PV.closed,ap,ao,ac])
def c134:Tb_
 |[v],sg=>match BZ v with
  |some (s,_,p)=>some (.ret (.bool (dT s.sc 0 p)),sg)
  |none=>none
 |_,_=>none
theorem c134_ok:al prog 134 c134:=al.of0 (ent func134 rfl) fun args sg r sg' h=>by
 unfold c134 at h;split at h <;> try (cases h;done)
 split at h <;> cases h
 rename_i s n p h1;obtain⟨hv,z,rfl,hz⟩:=Bd h1;exact⟨_,rfl,rfl,BK s n z p,q9 s hv.ok n z p hz (by have:=hv.p2;omega) hv.sl⟩
def c135:Tb_
 |[v],sg=>match BZ v with
  |some (s,_,p)=>some (.ret (.bool (un (scn s.sc p))),sg)
  |none=>none
 |_,_=>none
theorem c135_ok:al prog 135 c135:=al.of0 (ent func135 rfl) fun args sg r sg' h=>by
 unfold c135 at h;split at h <;> try (cases h;done)
 split at h <;> cases h
 rename_i s n p h1;obtain⟨hv,z,rfl,hz⟩:=Bd h1;exact⟨_,rfl,rfl,BK s n z p,xi s n z p hv hz⟩
def c124:Tb_
 |[v],sg=>match BZ v with
  |some (s,n,p)=>some (.ret (pM n (scn s.sc p)),sg)
  |none=>none
 |_,_=>none
theorem c124_ok:al prog 124 c124:=al.of0 (ent func124 rfl) fun args sg r sg' h=>by
 unfold c124 at h;split at h <;> try (cases h;done)
 split at h <;> cases h
 rename_i s n p h1;obtain⟨hv,z,rfl,hz⟩:=Bd h1;exact⟨_,rfl,rfl,BK s n z p,u7 s hv.ok n z p (bd hz) hv.rg (by have:=hv.p2;omega)⟩
def pdB(s:Sty)(p:List Int):Bool:=scB s.sc&&decide (s.sc.length<=1000)&&decide (p.length<=10)&&p.all fun x=>decide (0<=x∧x<s.sc.length)
structure Pdx(s:Sty)(p:List Int):Prop where
 sc:ScOk s.sc
 sl:s.sc.length<=1000
 p2:p.length<=10
 rg:∀x∈p,0<=x∧x<s.sc.length
theorem pd_of{s:Sty}{p:List Int}(h:pdB s p=true):Pdx s p:=by
 unfold pdB scB at h;simp only[D3,D7,Eo]at h;exact⟨h.1.1.1,h.1.1.2,h.1.2,h.2⟩
theorem pd_to{s:Sty}{n:Nt}{p:List Int}(h:Vd s n p):pdB s p=true:=by
 unfold pdB scB;simp only[D3,D7,Eo];exact⟨⟨⟨h.sc,h.sl⟩,h.p2⟩,h.rg⟩
def c63:Tb_
 |[v,u],sg=>match cS v,aN u with
  |some s,some p=>if pdB s p=true then some (.ret (.bool (dT s.sc 0 p)),sg)else none
  |_,_=>none
 |_,_=>none
theorem c63_ok:al prog 63 c63:=al.of0 (ent func63 rfl) fun args sg r sg' h=>by
 unfold c63 at h;split at h <;> try (cases h;done)
 split at h <;> try (cases h;done)
 rename_i s p h1 h2;split at h <;> cases h
 rename_i hc;obtain⟨rfl,hok⟩:=aM h1;obtain⟨z,rfl,hz⟩:=aJ h2;have hp:=pd_of hc;exact⟨_,rfl,rfl,by rw[af,cm,af,bt];rfl,ta s hok z p (zOkI hz) (by have:=hp.p2;omega) hp.sl⟩
def c64:Tb_
 |[v,u],sg=>match cS v,aN u with
  |some s,some p=>if pdB s p=true then some (.ret (.bool (un (scn s.sc p))),sg)else none
  |_,_=>none
 |_,_=>none
theorem c64_ok:al prog 64 c64:=al.of0 (ent func64 rfl) fun args sg r sg' h=>by
 unfold c64 at h;split at h <;> try (cases h;done)
 split at h <;> try (cases h;done)
 rename_i s p h1 h2;split at h <;> cases h
 rename_i hc;obtain⟨rfl,hok⟩:=aM h1;obtain⟨z,rfl,hz⟩:=aJ h2;have hp:=pd_of hc;exact⟨_,rfl,rfl,by rw[af,cm,af,bt];rfl,vL s hok hp.sc z p hz hp.rg (by have:=hp.p2;omega)⟩
def c65:Tb_
 |[v,w,u],sg=>match cS v,gJ w,aN u with
  |some s,some n,some p=>if pdB s p=true then some (.ret (pM n (scn s.sc p)),sg)else none
  |_,_,_=>none
 |_,_=>none
theorem c65_ok:al prog 65 c65:=al.of0 (ent func65 rfl) fun args sg r sg' h=>by
 unfold c65 at h;split at h <;> try (cases h;done)
 split at h <;> try (cases h;done)
 rename_i s n p h1 h2 h3;split at h <;> cases h
 rename_i hc;obtain⟨rfl,hok⟩:=aM h1;obtain rfl:=dz h2;obtain⟨z,rfl,hz⟩:=aJ h3;have hp:=pd_of hc;exact⟨_,rfl,rfl,by rw[af,cm,af,af,bt];rfl,wj s hok n z p hz hp.rg (by have:=hp.p2;omega)⟩
def c139:Tb_
 |[v],sg=>match eS v with
  |some (n,_,l)=>if du n l=true then some (.ret (.tuple [.agg [ii (spO (zM n l)).1,ii (spO (zM n l)).2],.bool (zM n l).isSome]),sg)else none
  |none=>none
 |_,_=>none
theorem c139_ok:al prog 139 c139:=al.of0 (ent func139 rfl) fun args sg r sg' h=>by
 unfold c139 at h;split at h <;> try (cases h;done)
 split at h <;> try (cases h;done)
 rename_i n z l h1;split at h <;> cases h
 rename_i hc;have hn:=eV h1;obtain⟨rfl,hz⟩:=b8 h1;have hP:=xn hc;have:=BL n z l hz hn hP
 rw[B5 hP.win hP.fit]at this;exact⟨_,rfl,rfl,by rw[af,fi];rfl,this⟩
def c74:Tb_
 |[v],sg=>match eS v with
  |some (n,_,l)=>if du n l=true then some (.ret (.sl (if decide ((qf n l).length=0)=true then .n else .a) ((qf n l).map slc)),sg)else none
  |none=>none
 |_,_=>none
theorem c74_ok:al prog 74 c74:=al.of0 (ent func74 rfl) fun args sg r sg' h=>by
 unfold c74 at h;split at h <;> try (cases h;done)
 split at h <;> try (cases h;done)
 rename_i n z l h1;split at h <;> cases h
 rename_i hc;have hn:=eV h1;obtain⟨rfl,hz⟩:=b8 h1;exact⟨_,rfl,rfl,by rw[af,fi];rfl,vK n z l hz hn (xn hc)⟩
def c75:Tb_
 |[v,u],sg=>match eS v,gN u with
  |some (n,_,l),some c=>if du n l=true∧(c.all fun x=>decide (x<l.length))=true∧c.length<=1000 then some (.ret (.sl (if decide (c.length=0)=true then .n else .a) ((re n c l c).map ii)),sg)else none
  |_,_=>none
 |_,_=>none
theorem c75_ok:al prog 75 c75:=al.of0 (ent func75 rfl) fun args sg r sg' h=>by
 unfold c75 at h;split at h <;> try (cases h;done)
 split at h <;> try (cases h;done)
 rename_i n z l c h1 h2;split at h <;> cases h
 rename_i hc;have hn:=eV h1;obtain⟨rfl,hz⟩:=b8 h1;obtain⟨y,rfl,hy⟩:=cW h2;have hP:=xn hc.1;exact⟨_,rfl,rfl,ae 0 _ (by simp[ad,PV.closed,ay,aO]),First_75 n z y l c hz hn hy hP.win hP.nt hP.wd (BV hc.1) (fun x hx=>Eu (D7.1 hc.2.1 x hx)) hc.2.2 (by have:=hP.l10;omega)⟩
theorem str_nof(n:Nt)(l:List Sn):strV n (l.map nof)=strV n l:=by
 unfold strV;rw[oN,Bh]
end Go.Pv
