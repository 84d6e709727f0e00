import Derived.Test.YtmebonambbhehaaGreatQtSea
set_option linter.all false
open Go.Proofs.Tryz
namespace Go.Pv
open Go Go.RowKit Go.Proofs
set_option maxRecDepth 200000
set_option maxHeartbeats 8000000
theorem fnLt{m:Nat}{f:FuncId}{cs:List PV}(h:ad cs=true):Pv.Lt m (.fn (.func f) [] cs) :=
 .fn (fun c hc=>by cases hc) fun c hc=>(aB _ h c hc).mono (Ee _)
def NC(c:Ch):Option (List Int)->List PV
 |none=>[ii 0,ii 0,.sl .n [],.sl .n []]
 |some p=>[ii c.room,ii c.depth,.sl c.zf (c.fs.map dr),pvN p]
theorem NL(p:List Int):(pvN p).closed=true:=cV p
theorem Mp(c:Ch)(o:Option (List Int)):ad (NC c o)=true:=by
 cases o with
 |none=>rfl
 |some p=>simp[NC,ad,PV.closed,cY,NL]
def NR(lt:List Int->List Int->Bool)(o:Option (List Int))(x:List Int):Option (List Int) :=
 match o with
 |none=>some x
 |some y=>if lt x y=true then some x else some y
def bstP(lt:List Int->List Int->Bool)(l:List (List Int)):Option (List Int):=l.foldl (NR lt) none
theorem Nj{lt:List Int->List Int->Bool}:∀{l:List (List Int)} {o:Option (List Int)} {p:List Int},l.foldl (NR lt) o=some p->o=some p∨p∈l
 |[],_,_,h=>.inl h
 |x::l,o,p,h=>by
  rcases Nj (l:=l) h with h|h
  ·cases o with
   |none=>cases h;exact .inr DV
   |some y =>
    have h:(if lt x y=true then some x else some y)=some p:=h;split at h
    ·cases h;exact .inr DV
    ·exact .inl h
  ·exact .inr (DW _ h)
theorem LE{lt:List Int->List Int->Bool}{l:List (List Int)}{p:List Int}(h:bstP lt l=some p):p∈l:=by
 rcases Nj h with h|h
 ·cases h
 ·exact h
theorem NG{lt:List Int->List Int->Bool}:∀(l:List (List Int)) (o:Option (List Int)),o.isSome=true∨l≠[]->(l.foldl (NR lt) o).isSome=true
 |[],o,h=>by
  rcases h with h|h
  ·exact h
  ·exact absurd rfl h
 |x::l,o,_=>by
  refine NG l _ (.inl ?_)
  cases o with
  |none=>rfl
  |some y =>
   show(if lt x y=true then some x else some y).isSome=true
   split <;> rfl
theorem MX{lt:List Int->List Int->Bool}{l:List (List Int)}(h:l≠[]):∃p,bstP lt l=some p:=Option.isSome_iff_exists.1 (NG l none (.inr h))
theorem Ox(c:Ch)(hc:ChOk c){g:FuncId}{cs:List PV}(hcs:ad cs=true)(he:bC prog g)(lt:List Int->List Int->Bool)
 (hlt:∀x∈rightsL c,∀y∈rightsL c,ab prog g (pkV c x::pkV c y::cs) [] (.ret (.bool (lt x y))) []) :
 ab prog 30 [.fn (.func 57) [] [.ip c.cells],.fn (.func g) [] cs] [] (.ret (.tuple [.agg (NC c (bstP lt (rightsL c))),.bool (bstP lt (rightsL c)).isSome])) []:=by
 refine ab.ofF hTT func30 rfl rfl ?_;have hit:=MT c hc;have hcc:ad c.cells=true:=lU c;have hcf:=cY c.fs;unfold bstP;generalize rightsL c=T at hit hlt ⊢;repeat with_reducible first|refine nz aa ?_|apply ny;simp only[f30,hcs,hcc,bl,go_sem];rfl
 refine am.keep [9,7,6,5,4,3] (by simp only[go_sem];rfl) ?_
 refine am.range (L:=T.map fun p=>[pkV c p]) (first:=[]) (cap:=[.ip c.cells]) rfl (ent func57 rfl) hit ?_ ?_ ?_
  (fun i st=>st=[.var [.fn (.func g) [] cs] false,.var [ii 0,ii 0,.sl .n [],.sl .n []] false,.var (NC c ((T.take i).foldl (NR lt) none)) false,.var [.bool ((T.take i).foldl (NR lt) none).isSome] false])
  rfl ?_ ?_ ?_
 ·intro e he
  obtain⟨l,_,rfl⟩:=Ex.1 he;rfl
 ·intro t ht
  have h10:t=10:=by simpa using ht
  subst h10
  show(10:Nat)<22
  decide
 ·intro t v hv
  obtain⟨q,hq,rfl⟩:=jk hv;simp only[D6,Eb,EM]at hq;rcases hq with rfl|rfl|rfl|rfl|rfl|rfl
  ·exact fnLt (show ad [.ip c.cells]=true by simp[ad,PV.closed,hcf])
  ·exact .bp (show(3:Nat)<5 by decide)
  ·exact .bp (show(2:Nat)<5 by decide)
  ·exact .bool
  ·exact .bp (show(1:Nat)<5 by decide)
  ·exact .bp (show(0:Nat)<5 by decide)
 ·rintro i st rfl
  refine⟨rfl,fun x hx=>?_,aD _ _ rfl⟩
  simp only[D6,Eb,EM]at hx;rcases hx with rfl|rfl|rfl|rfl
  ·exact fun c hc=>by
    simp only[D6,Eb,EM]at hc;subst hc;exact fnLt hcs
  ·exact vLt rfl
  ·exact vLt (Mp c _)
  ·exact vLt rfl
 ·rintro i e st he1 rfl
  obtain⟨x,hx,rfl⟩:∃x,T[i]?=some x∧e=[pkV c x]:=by
   rw[Eh,EC]at he1;obtain⟨d,a,rfl⟩:=he1;exact⟨d,a,rfl⟩
  have htk:=lX (NR lt) none hx;have hom:∀y,(T.take i).foldl (NR lt) none=some y->y∈T:=fun y hy=>by
   rcases Nj hy with h|h
   ·cases h
   ·exact Ey h
  refine .next _ rfl fun own ho=>?_
  rw[htk];generalize (T.take i).foldl (NR lt) none=o at hom ⊢;have ga0:=dS own;have ga:=dO own;have gs0:=gq own;have gs:=d8 own;obtain⟨zx,ex,hzx⟩:=LJ x;have hcx:=cV x;have hpx:pkV c x=.agg [ii c.room,ii c.depth,.sl c.zf (c.fs.map dr),.sl zx (x.map ii)]:=by unfold pkV;rw[ex]
  have hox:NC c (some x)=[ii c.room,ii c.depth,.sl c.zf (c.fs.map dr),.sl zx (x.map ii)]:=by show[_,_,_,pvN x]=_;rw[ex]
  unfold YRun;generalize hX:Box.loop _=X1;cases o with
  |none =>
   have hb:NR lt none x=some x:=rfl;rw[hb,hox,hpx];have h0:NC c none=[ii 0,ii 0,.sl .n [],.sl .n []]:=rfl;rw[h0];repeat with_reducible first|refine nz aa ?_|apply ny;simp only[f30,oS,FX,FN,Gv,hcf,hcx,ga0,ga,gs0,gs,go_sem];rfl
   refine⟨rfl,own++[.var [ii c.room,ii c.depth,.sl c.zf (c.fs.map dr),.sl zx (x.map ii)] false],by rw[←hX];rfl,?_⟩
   dsimp only;generalize hX2:Box.loop _=X2;repeat with_reducible first|refine nz aa ?_|apply ny;simp only[f30,FN,Gv,hcf,hcx,ga0,ga,gs0,gs,go_sem];rfl
   exact⟨rfl,[.var [ii c.room,ii c.depth,.sl c.zf (c.fs.map dr),.sl zx (x.map ii)] false],by rw[←hX2];simp⟩
  |some y =>
   obtain⟨zy,ey,hzy⟩:=LJ y;have hcy:=cV y;have hpy:pkV c y=.agg [ii c.room,ii c.depth,.sl c.zf (c.fs.map dr),.sl zy (y.map ii)]:=by unfold pkV;rw[ey]
   have hoy:NC c (some y)=[ii c.room,ii c.depth,.sl c.zf (c.fs.map dr),.sl zy (y.map ii)]:=by show[_,_,_,pvN y]=_;rw[ey]
   have hcall:=hlt x (DU hx) y (hom y rfl);rw[hpx,hpy]at hcall;have hbt:bD 0 (PV.agg [ii c.room,ii c.depth,.sl c.zf (c.fs.map dr),.sl zx (x.map ii)]::.agg [ii c.room,ii c.depth,.sl c.zf (c.fs.map dr),.sl zy (y.map ii)]::cs)=true:=ae 0 _ (by simp[ad,PV.closed,hcf,hcx,hcy,hcs])
   have hb:NR lt (some y) x=if lt x y=true then some x else some y:=rfl;rw[hb,hoy,hpx];generalize lt x y=d at hcall ⊢;cases d
   ·rw[D5 Bool.false_ne_true,hoy]
    repeat with_reducible first|refine nz aa ?_|apply ny;simp only[f30,oS,FX,FN,Gv,hcf,hcx,ga0,ga,gs0,gs,go_sem];rfl
    refine⟨rfl,own++[.var [ii c.room,ii c.depth,.sl c.zf (c.fs.map dr),.sl zx (x.map ii)] false],by rw[←hX];rfl,?_⟩
    dsimp only;generalize hX2:Box.loop _=X2;repeat with_reducible first|refine nz (aj aa he hcall hbt) ?_|apply ny;simp only[f30,eA,FN,Gv,hcs,hcf,hcx,hcy,ga0,ga,gs0,gs,go_sem];rfl
    exact⟨rfl,[.var [ii c.room,ii c.depth,.sl c.zf (c.fs.map dr),.sl zx (x.map ii)] false],by rw[←hX2];simp⟩
   ·rw[DZ rfl,hox]
    repeat with_reducible first|refine nz aa ?_|apply ny;simp only[f30,oS,FX,FN,Gv,hcf,hcx,ga0,ga,gs0,gs,go_sem];rfl
    refine⟨rfl,own++[.var [ii c.room,ii c.depth,.sl c.zf (c.fs.map dr),.sl zx (x.map ii)] false],by rw[←hX];rfl,?_⟩
    dsimp only;generalize hX2:Box.loop _=X2;repeat with_reducible first|refine nz (aj aa he hcall hbt) ?_|apply ny;simp only[f30,eA,FN,Gv,hcs,hcf,hcx,hcy,ga0,ga,gs0,gs,go_sem];rfl
    exact⟨rfl,[.var [ii c.room,ii c.depth,.sl c.zf (c.fs.map dr),.sl zx (x.map ii)] false],by rw[←hX2];simp⟩
 ·rintro st rfl
  rw[show(T.map fun p=>[pkV c p]).length=T.length from DX ..,Eg]
  have hco:=Mp c (T.foldl (NR lt) none);cases ho:T.foldl (NR lt) none with
  |none =>
   have h0:NC c none=[ii 0,ii 0,.sl .n [],.sl .n []]:=rfl;rw[h0];repeat with_reducible first|refine nz aa ?_|apply ny;simp only[f30,FN,hcf,go_sem];rfl
   exact⟨rfl,rfl,_,rfl,aq rfl⟩
  |some y =>
   obtain⟨zy,ey,hzy⟩:=LJ y;have hcy:=cV y;have hoy:NC c (some y)=[ii c.room,ii c.depth,.sl c.zf (c.fs.map dr),.sl zy (y.map ii)]:=by show[_,_,_,pvN y]=_;rw[ey]
   rw[hoy];repeat with_reducible first|refine nz aa ?_|apply ny;simp only[f30,Gv,hcf,hcy,go_sem];rfl
   exact⟨rfl,rfl,_,rfl,aq (v:=.tuple [.agg [ii c.room,ii c.depth,.sl c.zf (c.fs.map dr),.sl zy (y.map ii)],.bool true]) (by simp[ad,PV.closed,hcf,hcy])⟩
theorem Oi{α β:Type}{f:α->List β}{B:Nat}(h:∀x,(f x).length<=B):∀l:List α,(l.flatMap f).length<=l.length*B
 |[]=>by simp
 |x::l=>by
  rw[E2,Ea,Ek,Nat.succ_mul];have h1:=h x;have h2:=Oi h l;omega
theorem Nu(R D:Int)(fs:List Fg):∀(k:Nat) (now:List Int),(MH R D fs k now).length<=D.toNat ^ k
 |0,now=>by
  rw[MH];split
  ·exact DS _
  ·exact Ee _
 |k+1,now=>by
  rw[MH];refine Em (Oi (B:=D.toNat ^ k) (fun n=>?_) _) ?_
  ·split
   ·exact Ee _
   ·exact Nu R D fs k _
  ·rw[List.length_range,Nat.pow_succ,Gr]
   exact DS _
theorem L6{c:Ch}(h:chBL c=true):(rightsL c).length<=15625:=by
 unfold chBL at h;rw[D3,D3,D3]at h;have h2:=bm.1 h.1.1.2;have h3:=Eu h.1.2;refine Em (Nu ..) ?_
 calc c.depth.toNat ^ c.fs.length<=5 ^ c.fs.length:=Nat.pow_le_pow_left (by omega) _
  _<=5 ^ 6:=FA (by decide) h3
  _=15625:=by decide
theorem Count_9(c:Ch)(hok:c.ok=true)(hb:chBL c=true):ab prog 9 [.agg c.cells] [] (.ret (.tuple [ii ((rightsL c).length:Nat),ii 0])) []:=by
 refine ab.of0 hTT func9 rfl rfl ?_;have hit:=MT c (ChOk.of hok hb);have hcc:ad c.cells=true:=lU c;have hcf:=cY c.fs;have h28:=Mb c hok;rw[hb]at h28;have h29:=Me c;have hbt:bD 0 [PV.agg [ii c.room,ii c.depth,.sl c.zf (c.fs.map dr)]]=true:=ae 0 _ (by simp[ad,PV.closed,hcf])
 have hT:=L6 hb;generalize rightsL c=T at hit hT ⊢;repeat with_reducible first|refine nz (aj (aj aa (ent func28 rfl) h28 hbt) (ent func29 rfl) h29 hbt) ?_|apply ny;simp only[f9,eA,hcc,hcf,bl,go_sem];rfl
 refine am.keep [9,4,3,2,1] (by simp only[go_sem];rfl) ?_
 refine am.range (L:=T.map fun p=>[pkV c p]) (first:=[]) (cap:=[.ip c.cells]) rfl (ent func57 rfl) hit ?_ ?_ ?_
  (fun i st=>st=[.var c.cells false,.var [ii (i:Nat)] false])
  rfl ?_ ?_ ?_
 ·intro e he
  obtain⟨l,_,rfl⟩:=Ex.1 he;rfl
 ·intro t ht
  have h10:t=10:=by simpa using ht
  subst h10
  show(10:Nat)<14
  decide
 ·intro t v hv
  obtain⟨q,hq,rfl⟩:=jk hv;simp only[D6,Eb,EM]at hq;rcases hq with rfl|rfl|rfl|rfl|rfl
  ·exact fnLt (show ad [.ip c.cells]=true by simp[ad,PV.closed,hcf])
  ·exact .bp (show(1:Nat)<3 by decide)
  ·exact .int
  ·exact .int
  ·exact .bp (show(0:Nat)<3 by decide)
 ·rintro i st rfl
  refine⟨rfl,fun x hx=>?_,aD _ _ rfl⟩
  simp only[D6,Eb,EM]at hx;rcases hx with rfl|rfl
  ·exact vLt hcc
  ·exact vLt rfl
 ·rintro i e st he1 rfl
  have hil:i<T.length:=by
   have:=(DR.1 he1).1
   rwa [DX]at this
  obtain⟨x,hx,rfl⟩:∃x,T[i]?=some x∧e=[pkV c x]:=by
   rw[Eh,EC]at he1;obtain⟨d,a,rfl⟩:=he1;exact⟨d,a,rfl⟩
  refine .next _ rfl fun own ho=>?_
  have ga0:=dS own;have ga:=dO own;have gs0:=gq own;have gs:=d8 own;have e4:=wIs i (by omega)
  unfold YRun;generalize hX:Box.loop _=X1;repeat with_reducible first|refine nz aa ?_|apply ny;simp only[f9,oS,FX,hcf,ga0,ga,gs0,gs,go_sem];rfl
  refine⟨rfl,own,by rw[←hX],?_⟩
  dsimp only;generalize hX2:Box.loop _=X2;repeat with_reducible first|refine nz aa ?_|apply ny;simp only[f9,oS,FX,e4,hcf,ga0,ga,gs0,gs,go_sem];rfl
  exact⟨rfl,[],by rw[←hX2];simp⟩
 ·rintro st rfl
  rw[show(T.map fun p=>[pkV c p]).length=T.length from DX ..]
  repeat with_reducible first|refine nz aa ?_|apply ny;simp only[f9,hcf,go_sem];rfl
  exact⟨rfl,rfl,_,rfl,rfl⟩
theorem lV{c:Ch}{p:List Int}(h:p∈rightsL c):p.length=c.fs.length∧rightB c.room c.depth c.fs p=true∧∀x∈p,0<=x∧x<c.depth:=by
 have:=NH (k:=c.fs.length) (now:=[]) (by simp) h
 exact⟨this.1,this.2.1,fun x hx=>this.2.2.2 x (by simpa using hx)⟩
theorem LD{c:Ch}(hc:ChOk c){p:List Int}(h:p∈rightsL c):p.length=c.fs.length∧p.length<=1000∧∀x∈p,-1000<=x∧x<=1000:=by
 obtain⟨h1,_,h3⟩:=lV h;have:=hc.len
 have:=hc.depth
 exact⟨h1,by omega,fun x hx=>by have:=h3 x hx;omega⟩
theorem Mn(c:Ch)(z:Z)(p:List Int):bD 0 [PV.agg [ii c.room,ii c.depth,.sl c.zf (c.fs.map dr),.sl z (p.map ii)]]=true:=ae 0 _ (by simp[ad,PV.closed,cY,cV])
def smBL(l:List Int):Bool:=decide (l.length<=1000)&&l.all fun x=>inB x (-1000) 1000
theorem M4{l:List Int}:smBL l=true↔l.length<=1000∧∀x∈l,-1000<=x∧x<=1000:=by
 unfold smBL;rw[D3,Eo,D7];exact⟨fun h=>⟨h.1,fun x hx=>bm.1 (h.2 x hx)⟩,fun h=>⟨h.1,fun x hx=>bm.2 (h.2 x hx)⟩⟩
def c32L:Tb_
 |[v],sg=>match Nd v with
  |some (_,q)=>if smBL q.2=true then some (.ret (ii (g4 q.2)),sg)else none
  |none=>none
 |_,_=>none
theorem N7:dU prog 32 c32L:=dU.of0 (ent func32 rfl) fun args sg r sg' h=>by
 unfold c32L at h;split at h <;> try (cases h;done)
 split at h <;> try (cases h;done)
 rename_i c q h1;split at h <;> cases h
 rename_i hs;obtain⟨rfl,_,hz⟩:=MK h1;exact⟨_,rfl,rfl,Mn c q.1 q.2,MJ c q.1 q.2 hz (M4.1 hs).1 (M4.1 hs).2⟩
def cfLl:CallF:=aE cf0 32 c32L
theorem On:CallFOk prog cfLl:=ah aa N7
def ltY(x y:List Int):Bool:=decide (g4 x<g4 y)
theorem Od(c:Ch)(hok:c.ok=true){x y:List Int}(hx:smBL x=true)(hy:smBL y=true):ab prog 31 [pkV c x,pkV c y] [] (.ret (.bool (ltY x y))) []:=by
 refine ab.of0 hTT func31 rfl rfl ?_;have hcf:=cY c.fs;obtain⟨zx,ex,hzx⟩:=LJ x;obtain⟨zy,ey,hzy⟩:=LJ y;have hcx:=cV x;have hcy:=cV y;have hpx:pkV c x=.agg [ii c.room,ii c.depth,.sl c.zf (c.fs.map dr),.sl zx (x.map ii)]:=by unfold pkV;rw[ex]
 have hpy:pkV c y=.agg [ii c.room,ii c.depth,.sl c.zf (c.fs.map dr),.sl zy (y.map ii)]:=by unfold pkV;rw[ey]
 rw[hpx,hpy];have d1:=LF c.room c.depth c.zf zx c.fs x hok hzx;have d2:=LF c.room c.depth c.zf zy c.fs y hok hzy;unfold ltY;by_cases h:g4 x<g4 y
 ·rw[Ej h]
  repeat with_reducible first|refine nz On ?_|apply ny;simp only[f31,cfLl,c32L,d1,d2,hx,hy,h,hcf,hcx,hcy,go_sem];rfl
  exact⟨rfl,rfl,_,rfl,rfl⟩
 ·rw[Ei h]
  repeat with_reducible first|refine nz On ?_|apply ny;simp only[f31,cfLl,c32L,d1,d2,hx,hy,h,hcf,hcx,hcy,go_sem];rfl
  exact⟨rfl,rfl,_,rfl,rfl⟩
theorem LS{c:Ch}(hc:ChOk c){p:List Int}(h:p∈rightsL c):smBL p=true:=M4.2 (LD hc h).2
def bestV(c:Ch):PV :=
 match bstP ltY (rightsL c)with
 |none=>.tuple [.sl .n [],ii 0,ii 5]
 |some p=>.tuple [pvN p,ii (g4 p),ii 0]
theorem Best_10(c:Ch)(hok:c.ok=true)(hb:chBL c=true):ab prog 10 [.agg c.cells] [] (.ret (bestV c)) []:=by
 refine ab.ofF hTT func10 rfl rfl ?_;have hc:=ChOk.of hok hb;have hcc:ad c.cells=true:=lU c;have hcf:=cY c.fs;have h28:=Mb c hok;rw[hb]at h28;have h29:=Me c;have h30:=Ox c hc (cs:=[]) rfl (ent func31 rfl) ltY fun x hx y hy=>Od c hok (LS hc hx) (LS hc hy)
 have hbt:bD 0 [PV.agg [ii c.room,ii c.depth,.sl c.zf (c.fs.map dr)]]=true:=ae 0 _ (by simp[ad,PV.closed,hcf])
 have hbt2:bD 0 [PV.fn (.func 57) [] [.ip [ii c.room,ii c.depth,.sl c.zf (c.fs.map dr)]],.fn (.func 31) [] []]=true:=ae 0 _ (by simp[ad,PV.closed,hcf])
 unfold bestV;cases ho:bstP ltY (rightsL c)with
 |none =>
  rw[ho]at h30;have h0:NC c none=[ii 0,ii 0,.sl .n [],.sl .n []]:=rfl;rw[h0]at h30;repeat with_reducible first|refine nz (aj (aj (aj aa (ent func28 rfl) h28 hbt) (ent func29 rfl) h29 hbt) (ent func30 rfl) h30 hbt2) ?_|apply ny;simp only[f10,eA,FN,hcc,hcf,bl,go_sem];rfl
  exact⟨rfl,rfl,_,rfl,aq rfl⟩
 |some p =>
  rw[ho]at h30;obtain⟨zp,ep,hzp⟩:=LJ p;have hcp:=cV p;have hop:NC c (some p)=[ii c.room,ii c.depth,.sl c.zf (c.fs.map dr),.sl zp (p.map ii)]:=by show[_,_,_,pvN p]=_;rw[ep]
  rw[hop]at h30;have hsp:=LS hc (LE ho);have d1:=LF c.room c.depth c.zf zp c.fs p hok hzp;show am _ _ _ (fun o st'=>o.ends=true∧aR [] st'.sg=true∧∃v',si TT st' f10.results=some v'∧bR 0 v' st'.sg=(.tuple [pvN p,ii (g4 p),ii 0],[]))
  rw[ep];repeat with_reducible first|refine nz (ah (aj (aj (aj aa (ent func28 rfl) h28 hbt) (ent func29 rfl) h29 hbt) (ent func30 rfl) h30 hbt2) N7) ?_|apply ny;simp only[f10,aE,c32L,d1,hsp,eA,Gv,hcc,hcf,hcp,bl,go_sem];rfl
  exact⟨rfl,rfl,_,rfl,aq (v:=.tuple [.sl zp (p.map ii),ii (g4 p),ii 0]) (by simp[ad,PV.closed,hcp])⟩
theorem zOkL{z:Z}{l:List Int}(h:z=.n->l=[]):zOk z (l.map ii)=true:=by
 cases z <;> try rfl
 rw[h rfl];rfl
theorem OD:ab prog 36 [.sl .n []] [] (.ret (.sl .n [])) []:=by
 refine ab.of0 hTT func36 rfl rfl ?_;repeat with_reducible first|refine nz aa ?_|apply ny;simp only[f36,go_sem];rfl
 exact⟨rfl,rfl,_,rfl,rfl⟩
theorem Clone_36(l:List Fg)(hl:l≠[])(hs:l.length<=1000):ab prog 36 [.sl .a (l.map dr)] [] (.ret (.ms 0 l.length)) [.row false 44 3 (l.map dr) false]:=by
 refine ab.ofS hTT func36 rfl rfl ?_;have he:(l.map dr).isEmpty=false:=by cases l with
  |nil=>exact absurd rfl hl
  |cons a l=>rfl
 have r1:l.length*24<=140737488355328:=by omega
 have r2:l.length<=maxLen:=by unfold maxLen;omega
 have hal:((l.map dr).all fun y=>y.cells.length==3)=true:=by rw[FS];exact D7.2 fun _ _=>rfl
 simp only[PV.cells]at hal;have ez:(Z.a==Z.n)=false:=rfl;repeat with_reducible first|refine nz aa ?_|apply ny;simp only[f36,ez,he,r1,r2,hal,go_sem];rfl
 refine⟨rfl,rfl,_,rfl,?_⟩;have:=leaveC_row (id:=0) (e:=44) (k:=3) (es:=l.map dr) (sg:=[.row false 44 3 (l.map dr) false]) rfl (cY l) (m:=l.length)
 exact this
def c36L:Tb_
 |[.sl .n []],sg=>some (.ret (.sl .n []),sg)
 |[.sl .a es],[]=>match dM LH es with
  |some l=>if l≠[]∧l.length<=1000 then some (.ret (.ms 0 l.length),[.row false 44 3 (l.map dr) false])else none
  |none=>none
 |_,_=>none
theorem OL:dU prog 36 c36L:=fun args sg r sg' h=>by
 unfold c36L at h;split at h
 ·cases h
  exact⟨ent func36 rfl,OD.frame (bw 0 _ rfl) _,SameLoops.refl _⟩
 ·split at h <;> try (cases h;done)
  rename_i hl;split at h <;> cases h
  rename_i hc;obtain rfl:=bv Lr hl;exact⟨ent func36 rfl,Clone_36 _ hc.1 hc.2,aD _ _ rfl⟩
 ·cases h
def ltM(q x y:List Int):Bool:=decide (Ls x q<Ls y q)
def c38L:Tb_
 |[v,w],sg=>match Nd v,aN w with
  |some (_,p),some q=>if q.length<=p.2.length∧p.2.length<=1000 then some (.ret (ii (Ls p.2 q:Nat)),sg)else none
  |_,_=>none
 |_,_=>none
theorem NY:dU prog 38 c38L:=dU.of0 (ent func38 rfl) fun args sg r sg' h=>by
 unfold c38L at h;split at h <;> try (cases h;done)
 split at h <;> try (cases h;done)
 rename_i c p q h1 h2;split at h <;> cases h
 rename_i hs;obtain⟨rfl,_,hz⟩:=MK h1;obtain⟨zq,rfl,hq⟩:=aJ h2;exact⟨_,rfl,rfl,ae 0 _ (by simp[ad,PV.closed,cY,cV]),moved_38 c p.1 zq p.2 q hz (zOkL hq) hs.1 hs.2⟩
def cfLm:CallF:=aE cf0 38 c38L
theorem N1:CallFOk prog cfLm:=ah aa NY
theorem Og(c:Ch)(hok:c.ok=true)(zq:Z)(q:List Int)(hq:zOk zq (q.map ii)=true){x y:List Int}(hx:q.length<=x.length∧x.length<=1000)(hy:q.length<=y.length∧y.length<=1000):
 ab prog 37 [pkV c x,pkV c y,.ip [.sl zq (q.map ii)]] [] (.ret (.bool (ltM q x y))) []:=by
 refine ab.of0 hTT func37 rfl rfl ?_;have hcf:=cY c.fs;obtain⟨zx,ex,hzx⟩:=LJ x;obtain⟨zy,ey,hzy⟩:=LJ y;have hcx:=cV x;have hcy:=cV y;have hcq:=cV q;have hpx:pkV c x=.agg [ii c.room,ii c.depth,.sl c.zf (c.fs.map dr),.sl zx (x.map ii)]:=by unfold pkV;rw[ex]
 have hpy:pkV c y=.agg [ii c.room,ii c.depth,.sl c.zf (c.fs.map dr),.sl zy (y.map ii)]:=by unfold pkV;rw[ey]
 rw[hpx,hpy];have d1:=LF c.room c.depth c.zf zx c.fs x hok hzx;have d2:=LF c.room c.depth c.zf zy c.fs y hok hzy;have d3:aN (.sl zq (q.map ii))=some q:=aI hq;unfold ltM;have hi:((Ls x q:Nat):Int)<((Ls y q:Nat):Int)↔Ls x q<Ls y q:=by omega
 by_cases h:Ls x q<Ls y q
 ·rw[Ej h]
  have h:=hi.2 h;repeat with_reducible first|refine nz N1 ?_|apply ny;simp only[f37,cfLm,c38L,d1,d2,d3,hx,hy,h,hcf,hcx,hcy,hcq,go_sem];rfl
  exact⟨rfl,rfl,_,rfl,rfl⟩
 ·rw[Ei h]
  have h:¬((Ls x q:Nat):Int)<((Ls y q:Nat):Int):=fun k=>h (hi.1 k)
  repeat with_reducible first|refine nz N1 ?_|apply ny;simp only[f37,cfLm,c38L,d1,d2,d3,hx,hy,h,hcf,hcx,hcy,hcq,go_sem];rfl
  exact⟨rfl,rfl,_,rfl,rfl⟩
def Ch.more(c:Ch)(f:Fg):Ch:=⟨c.room,c.depth,.a,c.fs++[f]⟩
def Nt(c:Ch)(q:List Int)(f:Fg):PV :=
 match bstP (ltM q) (rightsL (c.more f))with
 |none=>.tuple [.sl .n [],ii 0,ii 5]
 |some p=>.tuple [pvN p,ii (Ls p q:Nat),ii 0]
theorem Later_13(c:Ch)(zq:Z)(q:List Int)(f:Fg)(hz:(c.zf=.n∧c.fs=[])∨(c.zf=.a∧c.fs≠[]))(hb:chBL c=true)(hq:zOk zq (q.map ii)=true)(hp:pkB c q=true)(hf:fgB f=true)(hl:c.fs.length<6)(hr:rightB c.room c.depth c.fs q=true):
 ab prog 13 [.agg c.cells,.sl zq (q.map ii),dr f] [] (.ret (Nt c q f)) []:=by
 refine ab.ofF hTT func13 rfl rfl ?_;have hok:c.ok=true:=by
  unfold Ch.ok;rcases hz with ⟨h1,h2⟩|⟨h1,_⟩
  ·rw[h1,h2];rfl
  ·rw[h1];rfl
 have hc:=ChOk.of hok hb;have hcc:ad c.cells=true:=lU c;have hcf:=cY c.fs;have hcq:=cV q;have hdp:=hc.depth;have hlp:q.length=c.fs.length∧∀x∈q,-1000<=x∧x<=1000:=by
  unfold pkB at hp;rw[D3,Eo,D7]at hp;exact⟨hp.1,fun x hx=>by have:=bm.1 (hp.2 x hx);omega⟩
 have h28:=Mb c hok;rw[hb]at h28;have h33:=MU c zq q hq (by omega) (by omega)
 rw[hp]at h33;have h34:=Mc f;rw[hf]at h34;have h35:=Nw c zq q hok hq hlp.1 (by omega) hlp.2 hc.rank hc.size hc.depth
 rw[hr]at h35;have hef:dr f=.agg [ii f.size,ii f.rank,ii f.eve]:=rfl;rw[hef]at h34 ⊢;have hbt:bD 0 [PV.agg [ii c.room,ii c.depth,.sl c.zf (c.fs.map dr)]]=true:=ae 0 _ (by simp[ad,PV.closed,hcf])
 have hbt2:bD 0 [PV.agg [ii c.room,ii c.depth,.sl c.zf (c.fs.map dr)],.sl zq (q.map ii)]=true:=ae 0 _ (by simp[ad,PV.closed,hcf,hcq])
 have hbtp:=Mn c zq q;have hl':¬(c.fs.length:Int)≥6:=by omega
 have hl2:¬(6:Int)<=(c.fs.length:Int):=by omega
 obtain⟨rm,dp,zf,fs⟩:=c;dsimp only at *;have hXb:chBL ⟨rm,dp,.a,fs++[f]⟩=true:=by
  unfold chBL at hb ⊢;rw[D3,D3,D3]at hb ⊢;refine⟨⟨hb.1.1,Ej (by simp;omega)⟩,?_⟩
  rw[List.all_append,hb.2];simp[hf]
 have hXc:=ChOk.of (c:=⟨rm,dp,.a,fs++[f]⟩) rfl hXb;have hXm:∀x∈rightsL ⟨rm,dp,.a,fs++[f]⟩,q.length<=x.length∧x.length<=1000:=fun x hx=>by
  obtain⟨h1,h2,_⟩:=LD hXc hx;have:(fs++[f]).length=fs.length+1:=by simp
  have h1:x.length=(fs++[f]).length:=h1;exact⟨by rw[hlp.1];show fs.length<=_;omega,h2⟩
 have k30:=Ox ⟨rm,dp,.a,fs++[f]⟩ hXc (cs:=[.ip [.sl zq (q.map ii)]]) (by simp[ad,PV.closed,hcq]) (ent func37 rfl) (ltM q) fun x hx y hy=>Og _ rfl zq q hq (hXm x hx) (hXm y hy)
 have k29:=Me ⟨rm,dp,.a,fs++[f]⟩;have hlv:Nt ⟨rm,dp,zf,fs⟩ q f=(match bstP (ltM q) (rightsL ⟨rm,dp,.a,fs++[f]⟩)with
  |none=>.tuple [.sl .n [],ii 0,ii 5]
  |some p=>.tuple [pvN p,ii (Ls p q:Nat),ii 0]):=rfl
 rw[hlv];obtain⟨W,hW⟩:∃W,W=(fs++[f]).map dr:=⟨_,rfl⟩;have hcW:ad W=true:=by rw[hW];exact cY _
 have hWl:W.length=fs.length+1:=by rw[hW,DX];simp
 have hWe:fs.map dr++[.agg [ii f.size,ii f.rank,ii f.eve]]=W:=by rw[hW,Ec];rfl
 have h29:ab prog 29 [.agg [ii rm,ii dp,.sl .a W]] [] (.ret (.fn (.func 57) [] [.ip [ii rm,ii dp,.sl .a W]])) []:=by rw[hW];exact k29
 have h30:ab prog 30 [.fn (.func 57) [] [.ip [ii rm,ii dp,.sl .a W]],.fn (.func 37) [] [.ip [.sl zq (q.map ii)]]] [] (.ret (.tuple [.agg (NC ⟨rm,dp,.a,fs++[f]⟩ (bstP (ltM q) (rightsL ⟨rm,dp,.a,fs++[f]⟩))),.bool (bstP (ltM q) (rightsL ⟨rm,dp,.a,fs++[f]⟩)).isSome])) []:=by rw[hW];exact k30
 clear k29 k30;have hb29:bD 0 [PV.agg [ii rm,ii dp,.sl .a W]]=true:=ae 0 _ (by simp[ad,PV.closed,hcW])
 have hb30:bD 0 [PV.fn (.func 57) [] [.ip [ii rm,ii dp,.sl .a W]],.fn (.func 37) [] [.ip [.sl zq (q.map ii)]]]=true:=ae 0 _ (by simp[ad,PV.closed,hcW,hcq])
 have hdq:aN (.sl zq (q.map ii))=some q:=aI hq;have hPm:∀p,bstP (ltM q) (rightsL ⟨rm,dp,.a,fs++[f]⟩)=some p->q.length<=p.length∧p.length<=1000:=fun p h=>hXm p (LE h)
 have hPo:∀p,NC ⟨rm,dp,.a,fs++[f]⟩ (some p)=[ii rm,ii dp,.sl .a W,pvN p]:=fun p=>by rw[hW];rfl
 have hPd:∀(z:Z) (p:List Int),zOk z (p.map ii)=true->Nd (.agg [ii rm,ii dp,.sl .a W,.sl z (p.map ii)])=some (⟨rm,dp,.a,fs++[f]⟩,(z,p)):=fun z p h=>by rw[hW];exact LF rm dp .a z (fs++[f]) p rfl h
 generalize bstP (ltM q) (rightsL ⟨rm,dp,.a,fs++[f]⟩)=R at h30 hPm ⊢;rcases hz with ⟨rfl,rfl⟩|⟨rfl,hz2⟩
 case' inl =>
  have h28:ab prog 28 [.agg [ii rm,ii dp,.sl .n []]] [] (.ret (.bool true)) []:=h28;have h33:ab prog 33 [.agg [ii rm,ii dp,.sl .n []],.sl zq (q.map ii)] [] (.ret (.bool true)) []:=h33;have h35:ab prog 35 [.agg [ii rm,ii dp,.sl .n [],.sl zq (q.map ii)]] [] (.ret (.bool true)) []:=h35;have hbt:bD 0 [PV.agg [ii rm,ii dp,.sl .n []]]=true:=rfl;have hbt2:bD 0 [PV.agg [ii rm,ii dp,.sl .n []],.sl zq (q.map ii)]=true:=hbt2;have hbtp:bD 0 [PV.agg [ii rm,ii dp,.sl .n [],.sl zq (q.map ii)]]=true:=hbtp;have r1:(1:Nat)*24<=140737488355328:=by omega
  have r2:1<=maxLen:=by unfold maxLen;omega
  repeat with_reducible first|(fail_if_success refine am.seq (x:=.region 7 _ _) ?_);(fail_if_success show am _ (.region 7 _ _) _ _);refine nz (aj (aj (aj (aj aa (ent func28 rfl) h28 hbt) (ent func33 rfl) h33 hbt2) (ent func34 rfl) h34 rfl) (ent func35 rfl) h35 hbtp) ?_|apply ny;simp only[f13,eA,hl',hl2,EO,hcc,hcf,hcq,bl,go_sem];rfl
  repeat with_reducible first|(fail_if_success refine am.seq (x:=.region 8 _ _) ?_);(fail_if_success show am _ (.region 8 _ _) _ _);refine nz (ah aa OL) ?_|apply ny;simp only[f13,aE,c36L,r1,r2,hcf,hcq,go_sem];rfl
  refine am.keep [39,8,7,6,5,4,3] (by simp only[go_sem];rfl) ?_
  have hW1:W=[.agg [ii f.size,ii f.rank,ii f.eve]]:=hWe.symm;refine am.freezeZ (tm':=[(39,.sl .a W),(8,ii 0),(7,ii 0),(6,.sl .n []),(5,.bp 2 0),(4,.bp 1 0),(3,.bp 0 0)]) (sg':=[.var [ii rm,ii dp,.ms 4 1] false,.var [.sl zq (q.map ii)] false,.var [ii f.size,ii f.rank,ii f.eve] false,.dead,.row false 44 3 W true]) 39 4 rfl rfl rfl rfl (by rw[hW1];rfl) (by rw[hW1];rfl) ?_
  refine am.varView 0 2 (c:=.ms 4 1) (c':=.sl .a W) (sg':=[.var [ii rm,ii dp,.sl .a W] false,.var [.sl zq (q.map ii)] false,.var [ii f.size,ii f.rank,ii f.eve] false,.dead,.row false 44 3 W true]) rfl rfl (show(if W.length=1 then some (PV.sl .a W)else none)=_ by rw[DZ (by rw[hWl];rfl)]) rfl ?_
  refine am.fzVar 4 1 (tm':=[(39,.sl .a W),(8,ii 0),(7,ii 0),(6,.sl .n []),(5,.bp 2 0),(4,.ip [.sl zq (q.map ii)]),(3,.bp 0 0)]) (sg':=[.var [ii rm,ii dp,.sl .a W] false,.var [.sl zq (q.map ii)] true,.var [ii f.size,ii f.rank,ii f.eve] false,.dead,.row false 44 3 W true]) rfl rfl rfl rfl ?_
 case' inr =>
  have q1:fs.length*24<=140737488355328:=by omega
  have q2:fs.length<=maxLen:=by unfold maxLen;omega
  have q3:(fs.length+1)*24<=140737488355328:=by omega
  have q4:fs.length+1<=maxLen:=by unfold maxLen;omega
  have q5:fs.length<=1000:=by omega
  have hdf:=N5 fs;repeat with_reducible first|(fail_if_success refine am.seq (x:=.region 7 _ _) ?_);(fail_if_success show am _ (.region 7 _ _) _ _);refine nz (aj (aj (aj (aj aa (ent func28 rfl) h28 hbt) (ent func33 rfl) h33 hbt2) (ent func34 rfl) h34 rfl) (ent func35 rfl) h35 hbtp) ?_|apply ny;simp only[f13,eA,hl',hl2,EO,hcc,hcf,hcq,bl,go_sem];rfl
  repeat with_reducible first|(fail_if_success refine am.seq (x:=.region 8 _ _) ?_);(fail_if_success show am _ (.region 8 _ _) _ _);refine nz (ah aa OL) ?_|apply ny;simp only[f13,aE,c36L,hdf,hz2,q1,q2,q3,q4,q5,hcf,hcq,go_sem];rfl
  refine am.keep [39,8,7,6,5,4,3] (by simp only[go_sem];rfl) ?_
  refine am.freezeZ (tm':=[(39,.sl .a W),(8,ii 0),(7,ii 0),(6,.sl .n []),(5,.bp 2 0),(4,.bp 1 0),(3,.bp 0 0)]) (sg':=[.var [ii rm,ii dp,.ms 3 (fs.length+1)] false,.var [.sl zq (q.map ii)] false,.var [ii f.size,ii f.rank,ii f.eve] false,.row false 44 3 W true,.dead]) 39 3 rfl rfl (by rw[hWe];exact hWl) (by rw[hWe];exact hcW) (by rw[hWe];rfl) (by rw[hWe];rfl) ?_
  refine am.varView 0 2 (c:=.ms 3 (fs.length+1)) (c':=.sl .a W) (sg':=[.var [ii rm,ii dp,.sl .a W] false,.var [.sl zq (q.map ii)] false,.var [ii f.size,ii f.rank,ii f.eve] false,.row false 44 3 W true,.dead]) rfl rfl (show(if W.length=fs.length+1 then some (PV.sl .a W)else none)=_ by rw[DZ hWl]) rfl ?_
  refine am.fzVar 4 1 (tm':=[(39,.sl .a W),(8,ii 0),(7,ii 0),(6,.sl .n []),(5,.bp 2 0),(4,.ip [.sl zq (q.map ii)]),(3,.bp 0 0)]) (sg':=[.var [ii rm,ii dp,.sl .a W] false,.var [.sl zq (q.map ii)] true,.var [ii f.size,ii f.rank,ii f.eve] false,.row false 44 3 W true,.dead]) rfl rfl rfl rfl ?_
 all_goals
  cases R with
  |none =>
   have h0:∀X:Ch,NC X none=[ii 0,ii 0,.sl .n [],.sl .n []]:=fun _=>rfl
   rw[h0]at h30;repeat with_reducible first|refine nz (aj (aj aa (ent func29 rfl) h29 hb29) (ent func30 rfl) h30 hb30) ?_|apply ny;simp only[f13,eA,FN,hcW,hcq,bl,go_sem];rfl
   exact⟨rfl,rfl,_,rfl,aq rfl⟩
  |some p =>
   obtain⟨zp,ep,hzp⟩:=LJ p;have hcp:=cV p;rw[hPo,ep]at h30;have d1:=hPd zp p hzp;have hml:=hPm p rfl;show am _ _ _ (fun o st'=>o.ends=true∧aR [] st'.sg=true∧∃v',si TT st' f13.results=some v'∧bR 0 v' st'.sg=(.tuple [pvN p,ii (Ls p q:Nat),ii 0],[]))
   rw[ep];repeat with_reducible first|refine nz (ah (aj (aj aa (ent func29 rfl) h29 hb29) (ent func30 rfl) h30 hb30) NY) ?_|apply ny;simp only[f13,aE,c38L,d1,hdq,hml,eA,Gv,hcW,hcq,hcp,bl,go_sem];rfl
   exact⟨rfl,rfl,_,rfl,aq (v:=.tuple [.sl zp (p.map ii),ii (Ls p q:Nat),ii 0]) (by simp[ad,PV.closed,hcp])⟩
end Go.Pv
