import Derived.Test.YtmebonambbhehaaGreatQdWalk
set_option linter.all false
namespace Go.Pv
open Go Go.RowKit
theorem ab.rowAt{P:Program}{f:FuncId}{args:List PV}{e:TypeId}{k:Nat}{es:List PV}(h:ab P f args [] (.ret (.ms 0 es.length)) [.row false e k es false])(hlt:∀x∈args,Lt 0 x)(hcl:∀x∈es,Lt 0 x)(sg:List Box):
 ab P f args sg (.ret (.ms sg.length es.length)) (sg++[.row false e k es false]):=by
 refine⟨by simp,fun n G w us hR hL=>?_⟩
 have hR1:Rel (G.push .dead) (sg++[.dead]) w:=g9 hR;have hfree:jT (sg++[Box.dead]) sg.length:=by
  unfold jT;rw[D9 (DS _)];simp
 refine CallsIn.mono (h.frameRow hlt hcl hR1 (hL.push .dead) (n:=n) hfree) fun x w' ⟨G',u,hx,hR',hl,hdf,hm⟩=>?_
 subst hx;refine⟨G',?_,(Gh.le_trans (G.push_le .dead) hl).leM _,hdf,hm⟩;have:(sg++[Box.dead]).set sg.length (.row false e k es false)=sg++[.row false e k es false]:=by
  rw[Fq _ _ (DS _)];simp
 rw[this]at hR';exact hR'
def MZ(c:List PV->List Box->Option (PRes×List Box))(args:List PV)(sg:List Box):Option (PRes×List Box) :=
 match c args []with
 |some (.ret (.ms 0 n),[.row false e k es false])=>if n=es.length∧ad es=true∧bD 0 args=true then some (.ret (.ms sg.length n),sg++[.row false e k es false])else none
 |some (.ret v,[])=>if bD 0 args=true then some (.ret v,sg)else none
 |_=>none
theorem dU.row{P:Program}{f:FuncId}{c:List PV->List Box->Option (PRes×List Box)}(h:dU P f c):dU P f (MZ c):=fun args sg r sg' e=>by
 unfold MZ at e;split at e
 ·rename_i hc
  split at e <;> cases e
  rename_i hh;obtain⟨rfl,h2,h3⟩:=hh;obtain⟨a,b,_⟩:=h _ _ _ _ hc;exact⟨a,b.rowAt (bw 0 _ h3) (aB _ h2) sg,(SameLoops.refl sg).app [_] rfl⟩
 ·rename_i hc
  split at e <;> cases e
  rename_i hh;obtain⟨a,b,_⟩:=h _ _ _ _ hc;exact⟨a,b.frame (bw 0 _ hh) _,SameLoops.refl _⟩
 ·cases e
theorem aL.varView{tm:List (Nat×PV)}{n:Nat}{sg sg':List Box}(id j:Nat){cs:List PV}{c c':PV}(hb:sg[id]?=some (.var cs false))(hc:cs[j]?=some c)(hv:view1 sg c=some c')(e1:sg.set id (.var (cs.set j c') false)=sg'):aL ⟨tm,n,sg⟩ ⟨tm,n,sg'⟩:=by
 subst e1;refine⟨by simp,fun r G a w db hs=>?_⟩
 obtain⟨s,hs1,hok⟩:=hs.rel.slot hb;cases s <;> simp only[BoxOk]at hok
 obtain⟨h1,⟨us,T,h2,h3⟩,h4,h5⟩:=hok;have hj:=(DR.1 hc).1;obtain⟨u,hu⟩:∃u,us[j]?=some u:=⟨us[j]'(by rw[h3.1];exact hj),by simp[h3.1,hj]⟩
 obtain⟨G1,a1,a2,a3,a4,a5⟩:=uI hs.rel (h3.2 j _ u hc hu) hv;obtain⟨s',e1',hle'⟩:=a2.rho id _ hs1;have hok1:=a1.box id s' _ e1' hb;have hR2:Rel G1 (sg.set id (.var (cs.set j c') false)) w:=by
  refine a1.setBox e1' ?_;cases s' <;> simp only[Slot.le]at hle'
  subst hle';simp only[BoxOk]at hok1 ⊢;obtain⟨k1,⟨us',T',k2,k3⟩,k4,k5⟩:=hok1;have he:us'=us:=by rw[h2]at k2;cases k2;rfl
  subst he;refine⟨k1,⟨us',T',k2,⟨by rw[Fr];exact k3.1,fun i d u' hd hu'=>?_⟩⟩,fun d hdm=>?_,fun o ho=>k5 o (by simpa using ho)⟩
  ·by_cases hij:j=i
   ·subst hij
    rw[D4 hj]at hd;cases hd;rw[hu]at hu';cases hu';exact a4
   ·rw[D8 hij]at hd
    exact k3.2 i d u' hd hu'
  ·rcases FO hdm with h|rfl
   ·exact k4 d h
   ·rw[a5.1];exact k4 c (DU hc)
 refine⟨G1,⟨hR2,fun s x hx=>?_,hs.n,by rw[a3];exact hs.dfr,fun l hl=>?_⟩,a2.leM _⟩
 ·obtain⟨y,hy,hyr⟩:=hs.tm s x hx
  exact⟨y,hy,hyr.mono a2⟩
 ·obtain⟨i,d,lr,e1,e2⟩:=hs.rd l hl
  obtain⟨s2,e2',hle2⟩:=a2.rho i _ e1;cases s2 <;> simp only[Slot.le]at hle2
  obtain⟨rfl,rfl⟩:=hle2;refine⟨i,d,lr,e2',?_⟩;have e2:sg[i]?=some (.loop lr):=e2
  show(sg.set id _)[i]?=_
  by_cases h:id=i
  ·subst h
   rw[hb]at e2;cases e2
  ·rw[D8 h]
   exact e2
theorem am.varView{P:Program}{c0:Code}{Q:Out->St->Prop}{tm:List (Nat×PV)}{n:Nat}{sg sg':List Box}(id j:Nat){cs:List PV}{c c':PV}(hb:sg[id]?=some (.var cs false))(hc:cs[j]?=some c)(hv:view1 sg c=some c')(e1:sg.set id (.var (cs.set j c') false)=sg')(hq:am P c0 ⟨tm,n,sg'⟩ Q):am P c0 ⟨tm,n,sg⟩ Q:=am.pre (aL.varView id j hb hc hv e1) hq
end Go.Pv
