import Derived.Test.YtmebonambbhehaaGreatQfLem
set_option linter.all false
namespace Go.Pv
structure Fg where
 size:Int
 rank:Int
 eve:Int
def fgB(f:Fg):Bool:=inB f.size 1 9&&inB f.rank 1 5&&inB f.eve 0 5
def x4(fs:List Fg)(p:List Int)(n:Int):List Int:=((fs.zip p).filter fun x=>decide (x.2=n)).map (·.1.size)
def zF:List Int->Int
 |[]=>0
 |x::l=>x+zF l
def g4(p:List Int):Int:=p.foldl (fun n x=>max n (x+1)) 0
def LY(z:List (Fg×Int)):Bool:=z.any fun x=>z.any fun y=>decide (x.2<y.2)&&(decide (x.1.rank<y.1.rank)||decide (y.1.eve<x.1.eve))
def rightB(R D:Int)(fs:List Fg)(p:List Int):Bool :=
 ((List.range D.toNat).all fun n=>decide (zF (x4 fs p (n:Nat))<=R))&&((List.range (g4 p).toNat).all fun n=>decide ((x4 fs p (n:Nat)).length≠0))&&!LY (fs.zip p)
def MH(R D:Int)(fs:List Fg):Nat->List Int->List (List Int)
 |0,now=>if rightB R D fs now=true then[now]else[]
 |k+1,now=>(List.range D.toNat).flatMap fun (n:Nat)=>if LY ((fs.take (now.length+1)).zip (now++[(n:Int)]))=true then[]else MH R D fs k (now++[(n:Int)])
theorem LR{z:List (Fg×Int)}:LY z=true↔∃x∈z,∃y∈z,x.2<y.2∧(x.1.rank<y.1.rank∨y.1.eve<x.1.eve):=by
 unfold LY;simp[List.any_eq_true]
theorem Mf{z w:List (Fg×Int)}(h:∀x∈z,x∈w)(hw:LY w=false):LY z=false:=by
 cases hz:LY z with
 |false=>rfl
 |true =>
  obtain⟨x,hx,y,hy,hh⟩:=LR.1 hz;rw[LR.2 ⟨x,h x hx,y,h y hy,hh⟩]at hw;cases hw
theorem NP{R D:Int}{fs:List Fg}{p:List Int}(h:rightB R D fs p=true):LY (fs.zip p)=false:=by
 unfold rightB at h;simp only[D3,GB]at h;exact h.2
theorem NH{R D:Int}{fs:List Fg}:∀{k:Nat} {now p:List Int},now.length+k=fs.length->p∈MH R D fs k now->p.length=fs.length∧rightB R D fs p=true∧p.take now.length=now∧∀x∈p.drop now.length,0<=x∧x<D
 |0,now,p,hk,h=>by
  rw[MH]at h;split at h
  ·rename_i hr
   simp only[D6,Eb,EM]at h;subst h;refine⟨by omega,hr,EQ (DS _),fun x hx=>?_⟩
   rw[Ef (DS _)]at hx;cases hx
  ·cases h
 |k+1,now,p,hk,h=>by
  rw[MH,Es]at h;obtain⟨n,hn,h⟩:=h;split at h
  ·cases h
  ·obtain⟨h1,h2,h3,h4⟩:=NH (k:=k) (by simp;omega) h
   have hl:(now++[(n:Int)]).length=now.length+1:=by simp
   rw[hl]at h3 h4;have hn':=FJ.1 hn;have h5:p.drop now.length=(n:Int)::p.drop (now.length+1):=by
    have e:p=(now++[(n:Int)])++p.drop (now.length+1):=by rw[←h3,Ff]
    have:(now++[(n:Int)]++p.drop (now.length+1)).drop now.length=(n:Int)::p.drop (now.length+1):=by
     rw[Et,List.drop_left' rfl];rfl
    rw[←e]at this;exact this
   refine⟨h1,h2,?_,fun x hx=>?_⟩
   ·have:=congrArg (List.take now.length) h3
    rw[List.take_take,F4 (Nat.le_succ _),FU rfl]at this;exact this
   ·rw[h5]at hx
    rcases D6.1 hx with rfl|hx
    ·omega
    ·exact h4 x hx
theorem LX{α β:Type}:∀(k:Nat) {l:List α} {p:List β} {y:α×β},y∈(l.take k).zip (p.take k)->y∈l.zip p
 |0,_,_,_,h=>by simp at h
 |_+1,[],_,_,h=>by simp at h
 |_+1,_::_,[],_,h=>by simp at h
 |k+1,a::l,b::p,y,h=>by
  rw[Lk,Lk,Gs]at h;rw[Gs];rcases D6.1 h with rfl|h
  ·exact DV
  ·exact DW _ (LX k h)
theorem MD{R D:Int}{fs:List Fg}{p:List Int}(hp:p.length=fs.length)(hr:rightB R D fs p=true)(hd:∀x∈p,0<=x∧x<D):∀{k:Nat} {now:List Int},now.length+k=fs.length->p.take now.length=now->p∈MH R D fs k now
 |0,now,hk,h=>by
  have:p=now:=by rw[←h];exact(EQ (by omega)).symm
  subst this;rw[MH,DZ hr];exact DV
 |k+1,now,hk,h=>by
  rw[MH,Es];obtain⟨x,hx⟩:∃x,p[now.length]?=some x:=⟨_,DT (by omega)⟩
  have hxm:=hd x (DU hx);have hxn:((x.toNat:Nat):Int)=x:=OO hxm.1;have ht:p.take (now.length+1)=now++[x]:=by rw[Ev,hx,h];rfl
  refine⟨x.toNat,FJ.2 (by omega),?_⟩
  rw[hxn];have hnd:LY ((fs.take (now.length+1)).zip (now++[x]))=false:=by
   refine Mf (fun y hy=>?_) (NP hr)
   rw[←ht]at hy;exact LX _ hy
  rw[hnd];exact MD hp hr hd (by simp;omega) (by simp only[Ea,Ek,ET];exact ht)
def LW(R D:Int)(z:List (Fg×Int)):Prop :=
 (∀n:Int,0<=n->n<D->zF ((z.filter fun x=>decide (x.2=n)).map (·.1.size))<=R)∧(∀x∈z,∀n:Int,0<=n->n<=x.2->∃y∈z,y.2=n)∧LY z=false
theorem Ma:∀(p:List Int) (m n:Int),n<p.foldl (fun n x=>max n (x+1)) m↔n<m∨∃x∈p,n<=x
 |[],m,n=>by simp
 |x::p,m,n=>by
  rw[EI,Ma p];constructor
  ·rintro(h|⟨y,hy,h⟩)
   ·by_cases h1:n<m
    ·exact .inl h1
    ·exact .inr ⟨x,DV,by omega⟩
   ·exact .inr ⟨y,DW _ hy,h⟩
  ·rintro(h|⟨y,hy,h⟩)
   ·exact .inl (by omega)
   ·rcases D6.1 hy with rfl|hy
    ·exact .inl (by omega)
    ·exact .inr ⟨y,hy,h⟩
theorem M6{α β:Type}:∀{l:List α} {p:List β},p.length=l.length->∀x∈p,∃y∈l.zip p,y.2=x
 |[],p,h,x,hx=>by
  have:p=[]:=Ew.1 h
  subst this;cases hx
 |a::l,[],h,x,hx=>by cases hx
 |a::l,b::p,h,x,hx=>by
  rw[Gs];rcases D6.1 hx with rfl|hx
  ·exact⟨(a,x),DV,rfl⟩
  ·obtain⟨y,hy,e⟩:=M6 (l:=l) (p:=p) (by simpa using h) x hx
   exact⟨y,DW _ hy,e⟩
theorem LG{R D:Int}{fs:List Fg}{p:List Int}(hp:p.length=fs.length):rightB R D fs p=true↔LW R D (fs.zip p):=by
 unfold rightB LW;rw[D3,D3,D7,D7];constructor
 ·rintro⟨⟨h1,h2⟩,h3⟩
  refine⟨fun n h0 hn=>?_,fun x hx n h0 hn=>?_,by simpa using h3⟩
  ·have:=Eu (h1 n.toNat (FJ.2 (by omega)))
   rw[OO h0]at this;exact this
  ·have hlt:n<g4 p:=(Ma p 0 n).2 (.inr ⟨x.2,(List.of_mem_zip hx).2,hn⟩)
   have:=Eu (h2 n.toNat (FJ.2 (by omega)))
   rw[OO h0]at this;unfold x4 at this;rw[DX]at this;obtain⟨y,hy⟩:=List.exists_mem_of_length_pos (Nat.pos_of_ne_zero this);rw[Gd]at hy;exact⟨y,hy.1,Eu hy.2⟩
 ·rintro⟨h1,h2,h3⟩
  refine⟨⟨fun n hn=>?_,fun n hn=>?_⟩,by rw[h3];rfl⟩
  ·have:=FJ.1 hn
   exact Ej (h1 n (by omega) (by omega))
  ·have hlt:=FJ.1 hn
   have:(n:Int)<g4 p:=by omega
   rcases(Ma p 0 n).1 this with h|⟨x,hx,h⟩
   ·omega
   ·obtain⟨y,hy,rfl⟩:=M6 hp x hx
    obtain⟨w,hw,e⟩:=h2 y hy n (by omega) h
    refine Ej ?_;unfold x4;rw[DX];have hm:w∈(fs.zip p).filter fun x=>decide (x.2=(n:Int)):=Gd.2 ⟨hw,Ej e⟩
    intro e0;rw[Ew.1 e0]at hm;cases hm
theorem OA{a b:List Int}(h:a.Perm b):zF a=zF b:=by
 induction h with
 |nil=>rfl
 |cons x _ ih=>show x+_=x+_;rw[ih]
 |swap x y l=>show y+(x+_)=x+(y+_);omega
 |trans _ _ ih1 ih2=>exact ih1.trans ih2
theorem LW.perm{R D:Int}{z w:List (Fg×Int)}(hp:z.Perm w)(h:LW R D z):LW R D w:=by
 refine⟨fun n h0 hn=>?_,fun x hx n h0 hn=>?_,Mf (fun x hx=>hp.mem_iff.2 hx) h.2.2⟩
 ·rw[←OA ((hp.filter _).map _)]
  exact h.1 n h0 hn
 ·obtain⟨y,hy,e⟩:=h.2.1 x (hp.mem_iff.2 hx) n h0 hn
  exact⟨y,hp.mem_iff.1 hy,e⟩
theorem Mi:∀{l:List Int},(∀x∈l,0<=x)->0<=zF l
 |[],_=>EN 0
 |x::l,h=>by
  have h1:=h x DV;have h2:=Mi fun y hy=>h y (DW _ hy)
  show 0<=x+zF l;omega
def Lq(n x:Int):Int:=if n<x then x-1 else x
theorem LW.less{R D:Int}{x:Fg×Int}{z:List (Fg×Int)}(hs:∀y∈x::z,0<=y.1.size)(hd:∀y∈x::z,0<=y.2∧y.2<D)(hR:0<=R)(h:LW R D (x::z)):∃f:Int->Int,LW R D (z.map fun y=>(y.1,f y.2))∧∀y∈z,0<=f y.2∧f y.2<D:=by
 have hsum:∀n:Int,0<=n->n<D->zF ((z.filter fun y=>decide (y.2=n)).map (·.1.size))<=R:=fun n h0 hn=>by
  have h1:=h.1 n h0 hn;rw[EZ]at h1;split at h1
  ·have h2:=hs x DV
   rw[EE,zF]at h1;omega
  ·exact h1
 by_cases hx:∃y∈z,y.2=x.2
 ·obtain⟨y0,hy0,e0⟩:=hx
  refine⟨id,?_,fun y hy=>hd y (DW _ hy)⟩
  have e:z.map (fun y=>(y.1,id y.2))=z:=by
   conv=>rhs;rw[←List.map_id z]
   rfl
  rw[e];refine⟨hsum,fun y hy n h0 hn=>?_,Mf (fun w hw=>DW _ hw) h.2.2⟩
  obtain⟨w,hw,ew⟩:=h.2.1 y (DW _ hy) n h0 hn;rcases D6.1 hw with rfl|hw
  ·exact⟨y0,hy0,by rw[e0,ew]⟩
  ·exact⟨w,hw,ew⟩
 ·have hne:∀y∈z,y.2≠x.2:=fun y hy e=>hx ⟨y,hy,e⟩
  have hx0:=hd x DV;refine⟨Lq x.2,⟨fun n h0 hn=>?_,fun y hy n h0 hn=>?_,?_⟩,fun y hy=>?_⟩
  ·rw[List.filter_map,Fb]
   by_cases hc:n<x.2
   ·have e:(z.filter ((fun y:Fg×Int=>decide (y.2=n))∘fun y=>(y.1,Lq x.2 y.2)))=z.filter fun y=>decide (y.2=n):=by
     refine List.filter_congr fun y hy=>?_
     have:=hne y hy
     show decide (Lq x.2 y.2=n)=decide (y.2=n);unfold Lq;split
     ·rw[Ei (by omega),Ei (by omega)]
     ·rfl
    rw[e];exact hsum n h0 hn
   ·have e:(z.filter ((fun y:Fg×Int=>decide (y.2=n))∘fun y=>(y.1,Lq x.2 y.2)))=z.filter fun y=>decide (y.2=n+1):=by
     refine List.filter_congr fun y hy=>?_
     have:=hne y hy
     show decide (Lq x.2 y.2=n)=decide (y.2=n+1);unfold Lq;split
     ·by_cases hh:y.2=n+1
      ·rw[Ej hh,Ej (by omega)]
      ·rw[Ei hh,Ei (by omega)]
     ·rw[Ei (by omega),Ei (by omega)]
    rw[e];by_cases h1:n+1<D
    ·exact hsum (n+1) (by omega) h1
    ·have e0:(z.filter fun y=>decide (y.2=n+1))=[]:=by
      rw[List.filter_eq_nil_iff];intro y hy hh;have:=hd y (DW _ hy)
      have:=Eu hh
      omega
     rw[e0];exact hR
  ·obtain⟨y,hy',rfl⟩:=Ex.1 hy
   have hyn:=hne y hy';have hn:n<=Lq x.2 y.2:=hn;have go:∀m:Int,m≠x.2->0<=m->m<=y.2->Lq x.2 m=n->∃w∈z.map (fun y=>(y.1,Lq x.2 y.2)),w.2=n:=fun m hm h0 hle e=>by
    obtain⟨w,hw,ew⟩:=h.2.1 y (DW _ hy') m h0 hle;rcases D6.1 hw with rfl|hw
    ·exact absurd ew.symm hm
    ·exact⟨_,Ex.2 ⟨w,hw,rfl⟩,by show Lq x.2 w.2=n;rw[ew];exact e⟩
   by_cases hc:n<x.2
   ·refine go n (by omega) h0 ?_ ?_
    ·unfold Lq at hn
     split at hn <;> omega
    ·unfold Lq
     rw[D5 (by omega)]
   ·refine go (n+1) (by omega) (by omega) ?_ ?_
    ·unfold Lq at hn
     split at hn <;> omega
    ·unfold Lq
     rw[DZ (by omega)]
     omega
  ·cases hdz:LY (z.map fun y=>(y.1,Lq x.2 y.2))with
   |false=>rfl
   |true =>
    obtain⟨a,ha,b,hb,hab,hh⟩:=LR.1 hdz;obtain⟨a,ha',rfl⟩:=Ex.1 ha;obtain⟨b,hb',rfl⟩:=Ex.1 hb;have hna:=hne a ha';have hnb:=hne b hb';have hab:Lq x.2 a.2<Lq x.2 b.2:=hab;have hlt:a.2<b.2:=by
     unfold Lq at hab;split at hab <;> split at hab <;> omega
    have:=LR.2 ⟨a,DW x ha',b,DW x hb',hlt,hh⟩
    rw[h.2.2]at this;cases this
  ·have h1:=hd y (DW _ hy)
   have:=hne y hy
   unfold Lq;split <;> omega
theorem OC{α β:Type}:∀{l:List α} {p:List β} {i:Nat} {a:α} {b:β},l[i]?=some a->p[i]?=some b->(l.zip p).Perm ((a,b)::(l.eraseIdx i).zip (p.eraseIdx i))
 |[],_,_,_,_,h,_=>by simp at h
 |_::_,[],_,_,_,_,h=>by simp at h
 |x::l,y::p,0,a,b,h1,h2=>by
  simp at h1 h2;subst h1 h2;exact .refl _
 |x::l,y::p,i+1,a,b,h1,h2=>by
  rw[List.eraseIdx_cons_succ,List.eraseIdx_cons_succ,Gs,Gs];exact((OC (l:=l) (p:=p) (by simpa using h1) (by simpa using h2)).cons _).trans (.swap ..)
theorem NA{α β γ:Type}(f:β->γ):∀(l:List α) (p:List β),(l.zip p).map (fun y=>(y.1,f y.2))=l.zip (p.map f)
 |[],_=>rfl
 |_::_,[]=>rfl
 |x::l,y::p=>by
  rw[Gs,EE,EE,Gs,NA f l p]
theorem NJ{R D:Int}{fs:List Fg}{p:List Int}{i:Nat}{f:Fg}(hf:fs[i]?=some f)(hp:p.length=fs.length)(hr:rightB R D fs p=true)(hd:∀x∈p,0<=x∧x<D)(hs:∀x∈fs,0<=x.size)(hR:0<=R):MH R D (fs.eraseIdx i) (fs.eraseIdx i).length []≠[]:=by
 have hi:i<fs.length:=(DR.1 hf).1;obtain⟨b,hb⟩:∃b,p[i]?=some b:=⟨_,DT (by omega)⟩
 have hz:=OC hf hb;have h1:=((LG hp).1 hr).perm hz;have hmz:∀y∈(f,b)::(fs.eraseIdx i).zip (p.eraseIdx i),y.1∈fs∧y.2∈p:=fun y hy=>List.of_mem_zip (hz.mem_iff.2 hy)
 obtain⟨g,hg1,hg2⟩:=h1.less (fun y hy=>hs _ (hmz y hy).1) (fun y hy=>hd _ (hmz y hy).2) hR
 rw[NA]at hg1;have hl:((p.eraseIdx i).map g).length=(fs.eraseIdx i).length:=by
  rw[DX,List.length_eraseIdx,List.length_eraseIdx,hp]
 have hl':(p.eraseIdx i).length=(fs.eraseIdx i).length:=by rw[DX]at hl;exact hl
 have hm:=MD hl ((LG hl).2 hg1) (fun x hx=>by
  obtain⟨y,hy,rfl⟩:=Ex.1 hx;obtain⟨w,hw,rfl⟩:=M6 hl' y hy;exact hg2 w hw) (k:=(fs.eraseIdx i).length) (now:=[]) (by simp) rfl
 exact List.ne_nil_of_mem hm
theorem Ni{R D:Int}{fs:List Fg}{p:List Int}{i:Nat}{f:Fg}(hf:fs[i]?=some f)(hp:p.length=fs.length)(hr:rightB R D fs p=true)(hd:∀x∈p,0<=x∧x<D):MH R D (fs.eraseIdx i++[f]) (fs.eraseIdx i++[f]).length []≠[]:=by
 have hi:i<fs.length:=(DR.1 hf).1;obtain⟨b,hb⟩:∃b,p[i]?=some b:=⟨_,DT (by omega)⟩
 have hl':(p.eraseIdx i).length=(fs.eraseIdx i).length:=by rw[List.length_eraseIdx,List.length_eraseIdx,hp]
 have hz:(fs.zip p).Perm ((fs.eraseIdx i++[f]).zip (p.eraseIdx i++[b])):=by
  rw[List.zip_append hl'.symm];exact(OC hf hb).trans (List.perm_append_singleton (f,b) _).symm
 have hl:(p.eraseIdx i++[b]).length=(fs.eraseIdx i++[f]).length:=by simp[hl']
 have hm:=MD hl ((LG hl).2 (((LG hp).1 hr).perm hz)) (fun x hx=>by
  rcases Ez.1 hx with hx|hx
  ·exact hd x (List.mem_of_mem_eraseIdx hx)
  ·simp only[D6,Eb,EM]at hx
   subst hx;exact hd x (DU hb)) (k:=(fs.eraseIdx i++[f]).length) (now:=[]) (by simp) rfl
 exact List.ne_nil_of_mem hm
open Go Go.RowKit Go.Proofs
set_option maxRecDepth 10000
set_option maxHeartbeats 4000000
theorem ab.ofRep{P:Program}{f:FuncId}{args:List PV}{sg sg':List Box}{r:PRes}(hl:sg.length<=sg'.length)(h:∀(G:Gh) (us:Array Value),RepL G args us->ab P f args sg r sg'):ab P f args sg r sg' :=
 ⟨hl,fun n G w us hR hL=>(h G us hL).2 n G w us hR hL⟩
theorem Rep.lenSl{G:Gh}{z:Z}{es:List PV}{u:Value}(h:Rep G (.sl z es) u):es.length<=maxLen:=by
 cases h with
 |nils=>exact Ee _
 |sl hz hf k us hk h1 hc hm hS hr hsp=>exact Em hc hm
def dr(f:Fg):PV:=.agg [ii f.size,ii f.rank,ii f.eve]
def LH:PV->Option Fg
 |.agg [.int .i64 a,.int .i64 b,.int .i64 c]=>some ⟨a,b,c⟩
 |_=>none
theorem Lr(x:PV)(a:Fg)(h:LH x=some a):x=dr a:=by
 unfold LH at h;split at h <;> cases h
 rfl
theorem OH(f:Fg):LH (dr f)=some f:=rfl
theorem N5(l:List Fg):dM LH (l.map dr)=some l:=fc OH l
theorem cY(l:List Fg):ad (l.map dr)=true:=aY (fun _=>rfl) l
theorem dX(m:Nat)(l:List Fg):bD m (l.map dr)=true:=LP (fun _=>rfl) l
structure Ch where
 room:Int
 depth:Int
 zf:Z
 fs:List Fg
namespace Ch
def ok(c:Ch):Bool:=zOk c.zf (c.fs.map dr)
abbrev cells(c:Ch):List PV:=[ii c.room,ii c.depth,.sl c.zf (c.fs.map dr)]
end Ch
theorem lU(c:Ch):ad c.cells=true:=by simp[ad,PV.closed,cY]
theorem ltB_ch(m:Nat)(c:Ch):(PV.agg c.cells).ltB m=true:=bq m _ (lU c)
def decCh:PV->Option Ch
 |.agg [.int .i64 r,.int .i64 d,.sl z es]=>match dM LH es with
  |some l=>if zOk z es=true then some ⟨r,d,z,l⟩else none
  |none=>none
 |_=>none
theorem N9{x:PV}{c:Ch}(h:decCh x=some c):x=.agg c.cells∧c.ok=true:=by
 unfold decCh at h;split at h <;> try (cases h;done)
 split at h <;> try (cases h;done)
 rename_i h1;split at h <;> cases h
 rename_i hok;obtain rfl:=bv Lr h1;exact⟨rfl,hok⟩
theorem Nf(c:Ch)(h:c.ok=true):decCh (.agg c.cells)=some c:=by
 show(match dM LH (c.fs.map dr)with|some l=>if zOk c.zf (c.fs.map dr)=true then some (⟨c.room,c.depth,c.zf,l⟩:Ch)else none|none=>none)=some c
 rw[N5];exact DZ h
def chBL(c:Ch):Bool:=inB c.room 1 20&&inB c.depth 1 5&&decide (c.fs.length<=6)&&c.fs.all fgB
def pkB(c:Ch)(p:List Int):Bool:=decide (p.length=c.fs.length)&&p.all fun n=>inB n 0 (c.depth-1)
abbrev pkC(c:Ch)(z:Z)(p:List Int):List PV:=[ii c.room,ii c.depth,.sl c.zf (c.fs.map dr),.sl z (p.map ii)]
theorem Oz(c:Ch)(z:Z)(p:List Int):ad (pkC c z p)=true:=by simp[ad,PV.closed,cY,cV]
def Nd:PV->Option (Ch×Qi)
 |.agg [.int .i64 r,.int .i64 d,.sl z es,.sl q ns]=>match dM LH es,dM ld ns with
  |some l,some p=>if zOk z es=true∧zOk q ns=true then some (⟨r,d,z,l⟩,(q,p))else none
  |_,_=>none
 |_=>none
theorem MK{x:PV}{c:Ch}{q:Qi}(h:Nd x=some (c,q)):x=.agg (pkC c q.1 q.2)∧c.ok=true∧zOk q.1 (q.2.map ii)=true:=by
 unfold Nd at h;split at h <;> try (cases h;done)
 split at h <;> try (cases h;done)
 rename_i h1 h2;split at h <;> cases h
 rename_i hok;obtain rfl:=bv Lr h1;obtain rfl:=bv pw h2;exact⟨rfl,hok.1,hok.2⟩
theorem Oy(c:Ch)(z:Z)(p:List Int)(h:c.ok=true)(hz:zOk z (p.map ii)=true):Nd (.agg (pkC c z p))=some (c,(z,p)):=by
 show(match dM LH (c.fs.map dr),dM ld (p.map ii)with
  |some l,some p'=>if zOk c.zf (c.fs.map dr)=true∧zOk z (p.map ii)=true then some ((⟨c.room,c.depth,c.zf,l⟩:Ch),((z,p'):Qi))else none
  |_,_=>none)=some (c,(z,p))
 rw[N5,j8];exact DZ ⟨h,hz⟩
theorem LF(r d:Int)(z q:Z)(l:List Fg)(p:List Int)(h:zOk z (l.map dr)=true)(hz:zOk q (p.map ii)=true):Nd (.agg [ii r,ii d,.sl z (l.map dr),.sl q (p.map ii)])=some (⟨r,d,z,l⟩,(q,p)):=Oy ⟨r,d,z,l⟩ q p h hz
def pvN(l:List Int):PV:=.sl (if l.isEmpty=true then .n else .a) (l.map ii)
theorem N8:pvN []=.sl .n []:=rfl
theorem pvN_snoc(l:List Int)(n:Int):pvN (l++[n])=.sl .a (l.map ii++[ii n]):=by unfold pvN;cases l <;> simp
theorem LJ(l:List Int):∃z,pvN l=.sl z (l.map ii)∧zOk z (l.map ii)=true:=by
 cases l with
 |nil=>exact⟨.n,rfl,rfl⟩
 |cons x l=>exact⟨.a,rfl,rfl⟩
structure Rg where
 zk:Z
 kinds:List Int
 zh:Z
 hides:List Qi
 al:Int×Int
 ac:Int×Int
 off:Int
 mends:Int
namespace Rg
def ok(r:Rg):Bool:=zOk r.zk (r.kinds.map ii)&&zOk r.zh (r.hides.map sf)&&qsB r.hides
abbrev cells(r:Rg):List PV:=[.sl r.zk (r.kinds.map ii),.sl r.zh (r.hides.map sf),ii r.al.1,ii r.al.2,ii r.ac.1,ii r.ac.2,ii r.off,ii r.mends]
theorem ok_k{r:Rg}(h:r.ok=true):zOk r.zk (r.kinds.map ii)=true:=by unfold ok at h;rw[D3,D3]at h;exact h.1.1
theorem ok_h{r:Rg}(h:r.ok=true):zOk r.zh (r.hides.map sf)=true:=by unfold ok at h;rw[D3,D3]at h;exact h.1.2
theorem ok_q{r:Rg}(h:r.ok=true):qsB r.hides=true:=by unfold ok at h;rw[D3]at h;exact h.2
end Rg
theorem Md(r:Rg):ad r.cells=true:=by simp[ad,PV.closed,nB,cV]
theorem ltB_rg(m:Nat)(r:Rg):(PV.agg r.cells).ltB m=true:=bq m _ (Md r)
def Lw(s:Int×Int):Bool:=inB s.1 700 1300&&inB s.2 s.1 1300&&decide (s.2-s.1<=40)
def LT(k:Int):Bool:=decide (k=1)||decide (k=2)
def LO(n:Nat)(q:Qi):Bool:=decide (q.2.length=n)&&q.2.all fun x=>inB x 1 500
def rgBL(r:Rg):Bool:=inB r.kinds.length 1 6&&inB r.hides.length 1 6&&r.kinds.all LT&&r.hides.all (LO r.kinds.length)&&Lw r.al&&Lw r.ac&&inB r.off 1 5&&inB r.mends 0 2
def findB(r:Rg)(f:List Int):Bool:=decide (f.length=r.kinds.length)&&f.all fun n=>inB n (-1) 1000
def N6:PV->Option Rg
 |.agg [.sl a ks,.sl b hs,.int .i64 c,.int .i64 d,.int .i64 e,.int .i64 f,.int .i64 g,.int .i64 h]=>match dM ld ks,dM decQ hs with
  |some k,some l=>if(⟨a,k,b,l,(c,d),(e,f),g,h⟩:Rg).ok=true then some ⟨a,k,b,l,(c,d),(e,f),g,h⟩else none
  |_,_=>none
 |_=>none
theorem M0{x:PV}{r:Rg}(h:N6 x=some r):x=.agg r.cells∧r.ok=true:=by
 unfold N6 at h;split at h <;> try (cases h;done)
 split at h <;> try (cases h;done)
 rename_i h1 h2;split at h <;> cases h
 rename_i hok;obtain rfl:=bv pw h1;obtain rfl:=bv No h2;exact⟨rfl,hok⟩
theorem M8(r:Rg)(h:r.ok=true):N6 (.agg r.cells)=some r:=by
 show(match dM ld (r.kinds.map ii),dM decQ (r.hides.map sf)with
  |some k,some l=>if(⟨r.zk,k,r.zh,l,(r.al.1,r.al.2),(r.ac.1,r.ac.2),r.off,r.mends⟩:Rg).ok=true then some (⟨r.zk,k,r.zh,l,(r.al.1,r.al.2),(r.ac.1,r.ac.2),r.off,r.mends⟩:Rg)else none
  |_,_=>none)=some r
 rw[j8,decQs];exact DZ h
abbrev fdC(r:Rg)(n:Int)(z:Z)(f:List Int):List PV:=[.sl r.zk (r.kinds.map ii),.sl r.zh (r.hides.map sf),ii r.al.1,ii r.al.2,ii r.ac.1,ii r.ac.2,ii r.off,ii r.mends,ii n,.sl z (f.map ii)]
theorem MI(r:Rg)(n:Int)(z:Z)(f:List Int):ad (fdC r n z f)=true:=by simp[ad,PV.closed,nB,cV]
def unL(r:Rg)(s rate:Int):Int:=max 0 ((s*rate-1000*r.off+999).tdiv 1000)
def unH(r:Rg)(s rate:Int):Int:=min 1000 ((s*rate+1000*r.off).tdiv 1000)
def chgB(r:Rg)(x s rate:Int):Bool:=decide (0<=x)&&!inB x (unL r s rate) (unH r s rate)
def chgN(r:Rg)(q f:List Int)(k rate:Int)(m:Nat):Bool:=decide (r.kinds.getD m 0-1=k)&&chgB r (f.getD m 0) (q.getD m 0) rate
def Mk(r:Rg)(q f:List Int)(k rate:Int)(n:Nat):List Nat:=(List.range n).filter (chgN r q f k rate)
theorem Oa(r:Rg)(q f:List Int)(k rate:Int)(n:Nat):Mk r q f k rate (n+1)=Mk r q f k rate n++(if chgN r q f k rate n=true then[n]else[]):=by
 unfold Mk;rw[List.range_succ,Ft]
 congr 1
 cases h:chgN r q f k rate n <;> simp[h]
theorem NE(r:Rg)(q f:List Int)(k rate:Int)(n:Nat):(Mk r q f k rate n).length<=n:=by
 have:=Fh (chgN r q f k rate) (List.range n)
 rw[List.length_range]at this;exact this
def Ol(r:Rg)(k:Int):Int×Int:=if k=0 then r.al else r.ac
def LB(s:Int×Int):List Int:=(List.range (s.2+1-s.1).toNat).map fun (k:Nat)=>s.1+(k:Int)
def OF(r:Rg)(q f:List Int)(k:Int)(o:Int)(l:List Int):Int:=l.foldl (fun o x=>min o ((Mk r q f k x r.kinds.length).length:Int)) o
def NQ(r:Rg)(q f:List Int)(k:Int):Int:=OF r q f k 6 (LB (Ol r k))
def MQ(r:Rg)(q f:List Int):Int:=NQ r q f 0+NQ r q f 1
def OK(r:Rg)(f:List Int)(i:Nat):Bool:=decide (MQ r ((r.hides.getD i (.n,[])).2) f<=r.mends)
def gb(r:Rg)(f:List Int)(n:Nat):List Nat:=(List.range n).filter (OK r f)
theorem Nb(r:Rg)(f:List Int)(n:Nat):gb r f (n+1)=gb r f n++(if OK r f n=true then[n]else[]):=by
 unfold gb;rw[List.range_succ,Ft]
 congr 1
 cases h:OK r f n <;> simp[h]
theorem NN(r:Rg)(f:List Int){n i:Nat}(h:i<n):i∈gb r f n↔OK r f i=true:=by
 unfold gb;rw[Gd,FJ];exact⟨fun h=>h.2,fun k=>⟨h,k⟩⟩
def wordR(r:Rg)(f:List Int)(i:Nat):Int:=if OK r f i=true then(if(gb r f r.hides.length).length=1 then 3 else 2)else 1
def whoR(r:Rg)(f:List Int):List Int:=(List.range r.hides.length).map (wordR r f)
theorem whoR_len(r:Rg)(f:List Int):(whoR r f).length=r.hides.length:=by unfold whoR;simp
end Go.Pv
namespace Go.Pv
open Go Go.RowKit Go.Proofs
set_option maxRecDepth 100000
def LI:TS:=.st [eu,eu]
def fgTS:TS:=.st [eu,eu,eu]
def chTS:TS:=.st [eu,eu,.sl fgTS true]
def rgTS:TS:=.st [.sl eu false,.sl isTS false,LI,LI,eu,eu]
theorem Nr{α:Type}{g:α->PV}{p:α->Prop}:∀{es:List PV},(∀x∈es,∃y,x=g y∧p y)->∃l:List α,es=l.map g∧∀y∈l,p y
 |[],_=>⟨[],rfl,fun _ h=>by cases h⟩
 |x::es,h=>by
  obtain⟨y,hy,hp⟩:=h x DV;obtain⟨l,hl,hq⟩:=Nr (es:=es) fun z hz=>h z (DW _ hz)
  refine⟨y::l,by rw[hy,hl];rfl,fun w hw=>?_⟩
  rcases D6.1 hw with rfl|hw
  ·exact hp
  ·exact hq w hw
theorem NB{cs:List PV}(h:LI.shp cs):∃x:Int×Int,cs=[ii x.1,ii x.2]:=by
 obtain⟨a,r1,e1,ha,hr1⟩:=(show ∃a b,cs=a++b∧eu.shp a∧no [eu] b from h)
 obtain⟨b,r2,e2,hb,hr2⟩:=(show ∃a b,r1=a++b∧eu.shp a∧no [] b from hr1)
 obtain rfl:r2=[]:=hr2;obtain⟨x,rfl⟩:=gm ha;obtain⟨y,rfl⟩:=gm hb;subst e2;exact⟨(x,y),e1⟩
theorem fg_of{v:PV}(h:fgTS.shp v.cells∧v.ag=true):∃f:Fg,v=dr f:=by
 obtain⟨a,r1,e1,ha,hr1⟩:=(show ∃a b,v.cells=a++b∧eu.shp a∧no [eu,eu] b from h.1)
 obtain⟨b,r2,e2,hb,hr2⟩:=(show ∃a b,r1=a++b∧eu.shp a∧no [eu] b from hr1)
 obtain⟨c,r3,e3,hc,hr3⟩:=(show ∃a b,r2=a++b∧eu.shp a∧no [] b from hr2)
 obtain rfl:r3=[]:=hr3;obtain⟨x1,rfl⟩:=gm ha;obtain⟨x2,rfl⟩:=gm hb;obtain⟨x3,rfl⟩:=gm hc;subst e3;subst e2;exact⟨⟨x1,x2,x3⟩,D2 e1 h.2⟩
theorem ch_of{v:PV}(h:chTS.shp v.cells∧v.ag=true):∃c:Ch,v=.agg c.cells∧c.ok=true:=by
 obtain⟨a,r1,e1,ha,hr1⟩:=(show ∃a b,v.cells=a++b∧eu.shp a∧no [eu,.sl fgTS true] b from h.1)
 obtain⟨b,r2,e2,hb,hr2⟩:=(show ∃a b,r1=a++b∧eu.shp a∧no [.sl fgTS true] b from hr1)
 obtain⟨c,r3,e3,hc,hr3⟩:=(show ∃a b,r2=a++b∧(TS.sl fgTS true).shp a∧no [] b from hr2)
 obtain rfl:r3=[]:=hr3;obtain⟨x1,rfl⟩:=gm ha;obtain⟨x2,rfl⟩:=gm hb;obtain⟨z,es,rfl,hz,_,_,hel⟩:=(show ∃z es,c=[.sl z es]∧(z=.n->es=[])∧z≠.f∧es.length<=maxLen∧∀x∈es,fgTS.shp x.cells∧x.ag=true from hc)
 obtain⟨l,rfl⟩:=y8 (g:=dr) fun x hx=>fg_of (hel x hx)
 subst e3;subst e2;exact⟨⟨x1,x2,z,l⟩,D2 e1 h.2,y4 hz⟩
theorem q_of{v:PV}(h:isTS.shp v.cells∧v.ag=false):∃q:Qi,v=sf q∧zOk q.1 (q.2.map ii)=true:=by
 obtain⟨z,l,e,hz⟩:=is_of h;exact⟨(z,l),e,hz⟩
theorem rg_of{v:PV}(h:rgTS.shp v.cells∧v.ag=true):∃r:Rg,v=.agg r.cells∧r.ok=true:=by
 obtain⟨a,r1,e1,ha,hr1⟩:=(show ∃a b,v.cells=a++b∧(TS.sl eu false).shp a∧no [.sl isTS false,LI,LI,eu,eu] b from h.1)
 obtain⟨b,r2,e2,hb,hr2⟩:=(show ∃a b,r1=a++b∧(TS.sl isTS false).shp a∧no [LI,LI,eu,eu] b from hr1)
 obtain⟨c,r3,e3,hc,hr3⟩:=(show ∃a b,r2=a++b∧LI.shp a∧no [LI,eu,eu] b from hr2)
 obtain⟨d,r4,e4,hd,hr4⟩:=(show ∃a b,r3=a++b∧LI.shp a∧no [eu,eu] b from hr3)
 obtain⟨e,r5,e5,he,hr5⟩:=(show ∃a b,r4=a++b∧eu.shp a∧no [eu] b from hr4)
 obtain⟨g,r6,e6,hg,hr6⟩:=(show ∃a b,r5=a++b∧eu.shp a∧no [] b from hr5)
 obtain rfl:r6=[]:=hr6;obtain⟨z,l,rfl,hz⟩:=shp_is ha;obtain⟨zh,es,rfl,hzh,_,_,hel⟩:=(show ∃z es,b=[.sl z es]∧(z=.n->es=[])∧z≠.f∧es.length<=maxLen∧∀x∈es,isTS.shp x.cells∧x.ag=false from hb)
 obtain⟨L,rfl,hL⟩:=Nr (g:=sf) fun x hx=>q_of (hel x hx)
 obtain⟨al,rfl⟩:=NB hc;obtain⟨ac,rfl⟩:=NB hd;obtain⟨x5,rfl⟩:=gm he;obtain⟨x6,rfl⟩:=gm hg;subst e6;subst e5;subst e4;subst e3;subst e2;refine⟨⟨z,l,zh,L,al,ac,x5,x6⟩,D2 e1 h.2,?_⟩;unfold Rg.ok;rw[D3,D3];exact⟨⟨hz,y4 hzh⟩,by unfold qsB;rw[D7];exact hL⟩
end Go.Pv
